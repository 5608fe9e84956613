import Derived.Test.YtfnkamphhpldcaaGreatDoorK44
import Derived.Test.YtfnkamphhpldcaaGreatDoorK26
import Derived.Test.YtfnkamphhpldcaaGreatDoorK41
set_option maxHeartbeats 64000000
namespace Go.Proofs.YtfnkamphhpldcaaGreatDoor
open Go Sx Tryz
set_option maxRecDepth 100000
variable {v:RVal}
theorem ES{p:Int}(y:1<=p/\p<=8)(h:ROK p v):v.lines.length<=1000/\(∀x∈v.lines,x.1.length<=1000000)/\v.bits.length<=9000000000000000000:=by
 by_cases l:v.lost=true
 ·have h1:=D7 h l;have g:=congrArg Val.bits (ko h.1 l);have e:v.bits=[]:=g;rw[h1,e];exact⟨js _,fun x d=>by simp at d,js _⟩
 have c:v.lost=false:=by simpa using l
 by_cases m:p<=5
 ·obtain⟨A,o,_⟩:=uX ⟨y.1,m⟩ h c;have e:v.bits=[]:=(fV h.1 c m).2.2.1;rw[e];exact⟨by omega,fun x d=>by have:=o x d;omega,js _⟩
 ·have j:∀{b:Prop},(ofV p v).lines=[]/\b->v.lines=[]:=fun hb=>by
   have n:v.lines.map (ofR p)=[]:=hb.1;simpa using n
  by_cases s:p=8
  ·rcases h.1 with u | ⟨_,f⟩
   ·have h7:v.lost=true:=congrArg Val.lost u;exact absurd h7 l
   ·rw[if_pos s]at f;have a:v.bits=[]:=f.2.1;rw[j f,a];exact⟨js _,fun x d=>by simp at d,js _⟩
  ·have i:p=6\/p=7:=by omega
   have f:=fY h.1 c i;rw[j f];refine⟨js _,fun x d=>by simp at d,?_⟩;obtain⟨_,g,e,k⟩:=f;replace g:0<=v.w/\v.w<=32:=g;replace e:min v.w 1<=v.h/\v.h<=min v.w 1*32:=e;rcases i with n | h7
   ·rw[if_neg oo]at k;have a:v.bits=[]:=k;rw[a];exact js _
   ·rw[if_pos h7]at k;have a:(v.bits.length:Int)=v.w*v.h:=k.1;have q:v.w*v.h<=32*32:=qbb g.2 oo oo oo;omega
theorem AP(l:List Stp)(x:Stp)(v:RVal):runR (l++[x]) v=stepR x (runR l v):=by
 unfold runR;rw[qas];rfl
theorem AQ{l:List Stp}{k:Nat}{a:RVal}{x:Stp}(g:k < l.length)(b:l[k]=x)(h:a=runR (l.take k) v):stepR x a=runR (l.take (k+1)) v:=by
 rw[qe g,AP,b,h]
def rvN(v:RVal):Ent:=.one (.cells 110 (rvS v .nilsl))
theorem AS{n:Nat}:(rvN v).below n:=by
 show∀a∈_,SA.below n a;intro a b;simp only[qi,qp,or_false]at b;rcases b with rfl | rfl | rfl | rfl | rfl<;>trivial
def rvA(v:RVal):Option (Nat×Nat×Nat×Nat)->Ent
 |none=>rvN v
 |some (b,e,n,c)=>rvSE v b e n c
def itA:Option (Nat×Nat×Nat×Nat)->SA
 |none=>.nilsl
 |some (b,e,n,c)=>sl0 b e n c
variable {F:Fz}
theorem Its.it{a:SA}{l:List RLn}(h:Its F a l):∃t,a=itA t:=by
 rcases h with⟨_,h⟩ | ⟨_,b,e,c,_,_,h,_⟩
 ·exact⟨none,h⟩
 ·exact⟨some (b,e,l.length,c),h⟩
theorem iG{n:Nat}{t:Option (Nat×Nat×Nat×Nat)}(h:0 < n:=by omega):(rvA v t).below n:=by
 rcases t with _ | ⟨b,e,m,c⟩
 ·exact AS
 ·exact jT h
abbrev mC(p:Int)(l:List Stp)(s:List UInt8):Out->Fz->Prop:=fun o _=>o=.ret (.tup [.va (.str (eo p l s).1),.va (.int .i64 (eo p l s).2)])
theorem lV{F1:Fz}{p:Int}{l:List Stp}{s t:List UInt8}{e:Int}{h:Hp}{nx:Nat}(c:eo p l s=(t,e))(b:lget h 0=some (.frz F1))(a:Fz.le F F1):
  Cln 1 (FoK F (mC p l s)) (.ret (.tup [.va (.str t),.va (.int .i64 e)])) h nx:=
 endFo (.ret (.tup [.va (.str t),.va (.int .i64 e)])) F1 b a (Fz.r F1) (by rw[mC,c]) (aO _) rfl
theorem AF(F:Fz)(p:Int)(l:List Stp)(s:List UInt8)(sa:SA)(ha:bD F sa l)(hl:l.length < 1000000)(hs:s.length<=1000000000000000000):
  Fo prog F 19 [.va (.int .i64 p),.va sa,.va (.str s)] (mC p l s):=by
 have j:=AT F sa l p ha hl;have Z:=yaj F p s hs;obtain⟨ag,an,af,ao,ae,ap,rfl,u,ac,am,ad⟩:=ha;by_cases R:aM p l=true
 case neg=>
  have al:aM p l=false:=by simpa using R
  have e:eo p l s=([],70):=if_neg R;rw[al]at j;refine foS func19 ?_;refine usePt j ?_;refine useFt Z ?_;rintro _ F1 T ⟨v,a,b,rfl,O,Q,-⟩;refine gaf dd ?_;exact lV e rfl T
 have hp:=fM R;have Y:=fv R;rw[R]at j;refine foS func19 ?_;refine usePt j ?_;refine useFt Z ?_;rintro _ F1 T ⟨v,a,b,rfl,O,Q,-⟩;rcases Q with⟨rfl,Q⟩ | ⟨rfl,Q⟩
 case inr=>
  have e:eo p l s=([],70):=by rw[eo,if_pos R,Q]
  refine gae dd ?_;refine bre dd ?_;exact lV e rfl T
 have eA:eo p l s=(dI p (runR l v),0):=by rw[eo,if_pos R,Q]
 have ak:=(yac Q).2;have aj:=Its.it O;obtain⟨t,rfl⟩:=aj;refine gae dd ?_;refine brd dd ?_;conv=>whnf
 refine aI hΘ (X:={ y:Nat×Fz×RVal×Option (Nat×Nat×Nat×Nat) // y.1<=l.length/\Fz.le F1 y.2.1/\y.2.2.1=runR (l.take y.1) v/\Its y.2.1 (itA y.2.2.2) y.2.2.1.lines }) (fun y=>[(11,.va (.int .i64 y.1.1))]) (jr 27 13 [])
  (fun y=>[(0,.frz y.1.2.1),(1,rvA y.1.2.2.1 y.1.2.2.2)]) 2 (fun y=>l.length - y.1.1) ⟨(0,F1,v,t),⟨js _,Fz.r F1,rfl,O⟩⟩
  (fun K M=>by
   rcases t with _ | ⟨b,e,n,c⟩
   ·exact leI [] K M rfl ⟨tv,iG,tv⟩ ⟨rfl,tv⟩ ⟨Fz.r F1,rfl,tv⟩
   ·exact leI [] K M rfl ⟨tv,iG,tv⟩ ⟨rfl,tv⟩ ⟨Fz.r F1,rfl,tv⟩) ?_
 rintro⟨⟨k,F2,E,t2⟩,hk,D,m,f⟩ K M;replace hk:k<=l.length:=hk;replace D:Fz.le F1 F2:=D;replace m:E=runR (l.take k) v:=m;replace f:Its F2 (itA t2) E.lines:=f;have L:ROK p E:=by rw[m];exact yU hp _ v (fun x hx=>Y x (yf hx)) ak
 by_cases G:k < l.length
 ·have A:(k:Int) < (l.length:Nat):=by omega
  have I:0<=(k:Int):=by omega
  have U:=fun h:ag=false=>D _ _ (T _ _ (ac h))
  have ah:∃x,l[k]=x:=⟨_,rfl⟩
  obtain⟨x,hx⟩:=ah;have V:ae[af+(k:Int).toNat]? =some (enc x):=by rw[<-hx];exact Sl.at ad G
  have J:=Y l[k] (qt G);rw[hx]at J;have aa:=yak F2 p x E (itA t2) hp J L f;have w:k+1<=l.length:=G;have g:l.length - (k+1) < l.length - k:=by omega
  have i:k < 4611686018427387904:=by omega
  have B:=AQ G hx m;rcases t2 with _ | ⟨b,e,n,c⟩
  ·refine bri A ?_;refine dwS (lk [0,1,2,3,4,5] (.alt 6 (.last 7 .done) .nil)) [1] ?_;refine⟨Sl.lt u G,⟨I,A⟩,rfl,_,U (Sl.lt u G),_,V,rfl,?_⟩;refine useFt aa ?_;rintro _ q S ⟨a',rfl,d⟩;have o:=Its.it d;obtain⟨t3,rfl⟩:=o;refine⟨S,rfl,?_⟩;rcases t3 with _ | ⟨b3,e3,n3,c3⟩
   ·exact⟨⟨(k+1,q,stepR x E,none),w,Fz.t D S,B,d⟩,g,leR [] K M rfl ⟨tv,iG,tv⟩ ⟨cnt i,tv⟩ ⟨Fz.r q,rfl,tv⟩⟩
   ·exact⟨⟨(k+1,q,stepR x E,some (b3,e3,n3,c3)),w,Fz.t D S,B,d⟩,g,leR [] K M rfl ⟨tv,iG,tv⟩ ⟨cnt i,tv⟩ ⟨Fz.r q,rfl,tv⟩⟩
  ·refine bri A ?_;refine dwS (lk [0,1,2,3,4,5] (.alt 6 (.last 7 .done) .nil)) [1] ?_;refine⟨Sl.lt u G,⟨I,A⟩,rfl,_,U (Sl.lt u G),_,V,rfl,?_⟩;refine useFt aa ?_;rintro _ q S ⟨a',rfl,d⟩;have o:=Its.it d;obtain⟨t3,rfl⟩:=o;refine⟨S,rfl,?_⟩;rcases t3 with _ | ⟨b3,e3,n3,c3⟩
   ·exact⟨⟨(k+1,q,stepR x E,none),w,Fz.t D S,B,d⟩,g,leR [] K M rfl ⟨tv,iG,tv⟩ ⟨cnt i,tv⟩ ⟨Fz.r q,rfl,tv⟩⟩
   ·exact⟨⟨(k+1,q,stepR x E,some (b3,e3,n3,c3)),w,Fz.t D S,B,d⟩,g,leR [] K M rfl ⟨tv,iG,tv⟩ ⟨cnt i,tv⟩ ⟨Fz.r q,rfl,tv⟩⟩
 ·have W:¬(k:Int) < (l.length:Nat):=by omega
  have ai:k=l.length:=by omega
  rw[ai,qk (qj _)]at m;have hW:=ES hp L;have ab:=wf_fn F2 p E (itA t2) f hp hW.1 hW.2.1 hW.2.2;rw[<-m]at eA;clear hW f L;rcases t2 with _ | ⟨b,e,n,c⟩
  ·refine brj W ?_;refine usePt ab ?_;exact lV eA rfl (Fz.t T D)
  ·refine brj W ?_;refine usePt ab ?_;exact lV eA rfl (Fz.t T D)
structure CnP(F:Fz)(bv m:Nat)(LV:List (List SA))(rV b0 k0 bl kl:Nat)(V0 VL:List (List UInt8))(x:Crt):Prop where
 hv:F bv=some (.arr 34 1 LV rV)
 v0:LV[0+((0:Nat):Int).toNat]? =some [.slice false 0 b0 0 1 8 k0]
 vl:LV[0+m]? =some [.slice false 0 bl 0 1 8 kl]
 a0:F b0=some (.arr 9 1 (V0.map encS) k0)
 al:F bl=some (.arr 9 1 (VL.map encS) kl)
 l0:V0.length=8
 ll:VL.length=8
 s0:∀s∈V0,s.length<=900000000000
 sl:∀s∈VL,s.length<=900000000000
 chk:bJ x V0 VL=true
 sh:short x.cl
theorem sl8{b k:Nat}{V:List (List UInt8)}(h:F b=some (.arr 9 1 (V.map encS) k))(a:V.length=8):Sl F 9 1 encS (.slice false 0 b 0 1 8 k) V:=by
 have:=Sl.new (enc:=encS) (cap:=k) h;rw[a]at this;exact this
theorem ycx{bv O:Nat}{D:List Dc}{C:List Crt}(Q:ybl F (.slice false 0 bv 0 1 D.length O) (D.map allB))(b:Chn (D.map allB) C)(f:∀d∈D,docOk d=true)(h1:¬C.length=0)(V:C.length<=6):
  ∃(i:List (List SA)) (s j q M T:Nat) (J K:List (List UInt8)) (x:Crt),du C=some x/\x.len=C.length/\D.length=C.length+1/\CnP F bv C.length i s j q M T J K x:=by
 have B:=b.n;have m:=Dm b (fun e=>h1 (by rw[e];rfl)) oo;have a:=fun x (h:du C=some x)=>CQ (fun c g=>b.sm c g) h
 rw[qa]at B;obtain⟨vn,Y,Z,I,i,s,A,W,U,X,G⟩:=Q;simp only[SA.slice.injEq]at A;obtain⟨rfl,-,rfl,rfl,-,-,rfl⟩:=A;obtain⟨x,E,g,R⟩:=m;have w:0 < D.length:=by omega
 have y:C.length < D.length:=by omega
 have u:(D.map allB)[0]? =some (allB D[0]):=by rw[qu,qc w];rfl
 have el:(D.map allB)[C.length]? =some (allB D[C.length]):=by rw[qu,qc y];rfl
 rw[u,el]at g;obtain⟨y0,o,j,q,rfl,k,-⟩:=G 0 _ u;obtain⟨y1,p,L,S,rfl,l,-⟩:=G C.length _ el;exact⟨i,s,j,q,L,S,_,_,x,E,R,B,U rfl,o,p,k,l,ez _,ez _,fi (f _ (qt w)),fi (f _ (qt y)),g,a x E⟩
theorem cn_at{x:Crt}{A B:List (List UInt8)}(h:bJ x A B=true){k:Nat}(j:k < 8):
  ∃(c:k < x.cl.length) (d:k < A.length) (hb:k < B.length),(x.cl[k]'c).1=(k:Int)+1/\((x.cl[k]'c).2=[(6,0)]\/((x.cl[k]'c).2.length=1->((x.cl[k]'c).2.head?.getD (0,0)).1≠6)/\eo ((k:Int)+1) (x.cl[k]'c).2 (A[k]'d)=(B[k]'hb,0)):=by
 have f:=iv.1 h;have m:=iy.1 f.ok;have c:k < x.cl.length:=by rw[m.n];exact j
 have d:k < A.length:=by rw[f.a];exact j
 have hb:k < B.length:=by rw[f.b];exact j
 refine⟨c,d,hb,?_⟩;have h1:=m.k k c;have g:=f.k _ (qt c);generalize x.cl[k]'c=q at*;obtain⟨p,s⟩:=q;simp only[clAt,qd,decide_eq_true_eq]at h1;obtain⟨rfl,l,-⟩:=h1;refine⟨by show(1:Int)+k=k+1;omega,?_⟩;by_cases e:s=[(6,0)]
 ·exact .inl e
 ·refine .inr ⟨fun y i=>e ?_,?_⟩
  ·match s,y with
   |[(a,b)],_=>
    have i:a=6:=i;subst i;simp only[aM,qbr,List.all_nil,qdb,qd,decide_eq_true_eq]at l
    have hb:b=0:=by
     rcases dE l.1 l.2.2 with h | h | h | h | h | h<;>first | exact h.2 | (have:=h.1;omega)
    rw[hb]
  ·have o:(1:Int)+k=k+1:=by omega
   have u:atV A ((k:Int)+1)=A[k]'d:=by rw[atV,show((k:Int)+1 - 1).toNat=k by omega,qc d];rfl
   have w:atV B ((k:Int)+1)=B[k]'hb:=by rw[atV,show((k:Int)+1 - 1).toNat=k by omega,qc hb];rfl
   simp only[chkAt,e,decide_false,qa8,qd,decide_eq_true_eq,o,u,w]at g;rw[Eu];exact Prod.ext g.2 g.1
theorem ap_fn{p:Int}{s:List Stp}{t u:List UInt8}{e:Int}{f:Nat}{args:List SV}(h:eo p s t=(u,e))(a:Fo prog F f args (mC p s t)):Fo prog F f args (fun o _=>o=.ret (.tup [.va (.str u),.va (.int .i64 e)])):=
 cP a fun o b g=>by
  have g:o=.ret (.tup [.va (.str (eo p s t).1),.va (.int .i64 (eo p s t).2)]):=g;rw[h]at g;exact g
theorem Dh(M:Fz)(m0:MLF M)(r0:RNDF M)(n1 n2 n3:Bool)(b1 o1 c1 b2 o2 c2 b3 o3 l3 c3 l x:Nat)(q1 q2:Int)
  (w:∀F1,Fz.le M F1->Fo prog F1 23 [.agg (caseS n1 n2 n3 b1 o1 c1 b2 o2 c2 b3 o3 l3 c3 l x q1 q2)] np):
  Fo prog M 8 [.agg (caseS n1 n2 n3 b1 o1 c1 b2 o2 c2 b3 o3 l3 c3 l x q1 q2)] (fun o _=>o=.ret (.va (.bool true))/\True):=by
 have Z:=yer M m0 r0;refine foS func8 ?_;refine useFs Z ?_;rintro _ F1 u1 ⟨rfl,-⟩;refine useFs (w F1 u1) ?_;rintro _ F2 u2 ⟨sd,sv,sc,D,C,cd,cv,cc,rfl,bh,av,au,af,a2,h6,⟨bd,rfl⟩,⟨bv,rfl⟩,⟨nl,bc,rfl⟩,ae⟩;have z2:Fz.le M F2:=Fz.t u1 u2;by_cases g2:C.length=0
 ·have q:(C.length:Int)=0:=by omega
  refine gae dd ?_;refine bri q ?_;exact endFs (.ret (.va (.bool true))) z2 ⟨rfl,tv⟩
 ·have q:¬(C.length:Int)=0:=by omega
  have a:=ycx av af a2 g2 h6;obtain⟨LV,rV,p0,k0,pl,kl,V0,VL,y,hx,a7,bg,a⟩:=a;have an:=af.sm;have ar:=BO au ae (fun c hc=>(an c hc).s) (fun c hc=>(an c hc).l) oo hx;have a8:=iv.1 a.chk;have ba:=iy.1 a8.ok;have aq:=ba.n;have a9:y.len=(C.length:Nat):=a7;refine gae dd ?_;refine brj q ?_;refine useFs ar ?_;rintro _ F3 u3 ⟨sk,rfl,ak⟩;have ay:=ak;have a3:=KpsAt.open ak;obtain⟨kn,kb,ke,kc,kL,kr,sf,rfl,bb,be,bi,bf⟩:=a3;have z3:Fz.le M F3:=Fz.t z2 u3;have ap:IntKind.i64.wrap ((D.length:Int) - 1)=((C.length:Nat):Int):=by rw[aF oo oo];omega
  have ab:LV[0+(IntKind.i64.wrap ((D.length:Int) - 1)).toNat]? =some [.slice false 0 pl 0 1 8 kl]:=by rw[ap];exact a.vl
  have O:(0:Int)<=0/\(0:Int) < (D.length:Nat):=by omega
  have Q:(0:Int)<=IntKind.i64.wrap ((D.length:Int) - 1)/\IntKind.i64.wrap ((D.length:Int) - 1) < (D.length:Nat):=by rw[ap];omega
  have a1:¬(!decide (y.len=(C.length:Nat)))=true:=by simp[a9]
  have az:¬(!decide ((y.cl.length:Int)=8))=true:=by simp[aq]
  have a6:=u3 _ _ a.hv;have ag:=lW F3 (m0.mono z3) (r0.mono z3) _ _ _ y V0 VL ay a.sh (by rw[aq];decide) (sl8 (u3 _ _ a.a0) a.l0) (sl8 (u3 _ _ a.al) a.ll) a.s0 a.sl;rw[a.chk]at ag;refine dwS (lk [0,1,2,3,4,5,6,7,8,9,10,11,12,13,14,15,16,17,18,19] (.alt 20 (lk [21,22,23,24,25,26,27,28] .done) .nil)) [2] ?_;conv=>whnf
  repeat' ((conv=>whnf);first
   |refine gae dd ?_
   |refine⟨fun _=>?_,fun g=>absurd g a1⟩
   |refine⟨rfl,O,?_⟩
   |refine⟨rfl,Q,?_⟩
   |refine⟨_,a.v0,?_⟩
   |refine⟨_,ab,?_⟩
   |refine⟨_,a6,?_⟩
   |refine⟨rfl,?_⟩
   |fail)
  refine useFs ag ?_;rintro _ F4 u4 rfl
  repeat' ((conv=>whnf);first
   |refine⟨u4,rfl,?_⟩
   |refine gae dd ?_
   |refine gaf dd ?_
   |refine⟨rfl,?_⟩
   |fail)
  refine br (fun h=>absurd h az) (fun _=>?_);conv=>whnf
  refine aI hΘ (X:={ z:Nat×Fz // Fz.le F4 z.2/\z.1<=8 }) (fun z=>[(10,.va (.int .i64 ((z.1.1:Int)+1)))]) (2::11::12::13::jr 67 50 [])
   (fun z=>[(0,.frz z.1.2),(2,.one (.cells 48 (crtS y (.slice kn 0 kb ke 2 y.cl.length kc))))]) 3 (fun z=>8 - z.1.1) ⟨(0,F4),Fz.r F4,js _⟩
   (fun hH hT=>leI [] hH hT rfl ⟨tv,cF _ (.inr oo),tv⟩ ⟨rfl,tv⟩ ⟨Fz.r F4,rfl,tv⟩) ?_
  rintro⟨⟨k,G⟩,R,ah⟩ hH hT;replace R:Fz.le F4 G:=R;replace ah:k<=8:=ah;have zG:Fz.le F2 G:=Fz.t u3 (Fz.t u4 R);have K:Fz.le F3 G:=Fz.t u4 R;by_cases g:k < 8
  ·have q:(k:Int)+1<=8:=by omega
   have ax:=cn_at a.chk g;obtain⟨gx,ga,gb,a4,ao⟩:=ax;have b:=bf k gx;rw[a4]at b;obtain⟨b,Y⟩:=b;have am:=(a.sh _ (qt gx))
   have hs:∃s,(y.cl[k]'gx).2=s:=⟨_,rfl⟩
   obtain⟨s,hs⟩:=hs;rw[hs]at ao Y am;have L:=Y;obtain⟨tn,tb,te,tc,tL,tr,a5,t1,t2,t3,t4⟩:=Y;rw[a5]at b L;have p:IntKind.i64.wrap ((k:Int)+1 - 1)=((k:Nat):Int):=by rw[aF oo oo];omega
   have T:0<=IntKind.i64.wrap ((k:Int)+1 - 1)/\IntKind.i64.wrap ((k:Int)+1 - 1) < (y.cl.length:Nat):=by rw[p];omega
   have f:0<=IntKind.i64.wrap ((k:Int)+1 - 1)/\IntKind.i64.wrap ((k:Int)+1 - 1) < 8:=by rw[p];omega
   have I:kn=false:=by cases kn with | false=>rfl | true=>have:=bb rfl;rw[this]at gx;simp at gx
   have V:=K _ _ (be I);have d:kL[ke+(IntKind.i64.wrap ((k:Int)+1 - 1)).toNat]? =some [.int .i64 ((k:Int)+1),.slice tn 0 tb te 2 s.length tc]:=by rw[p];exact b
   have U:k+1<=8:=g;have m:8 - (k+1) < 8 - k:=by omega
   have W:SA.int .i64 (((k+1:Nat):Int)+1)=SA.int .i64 (IntKind.i64.wrap ((k:Int)+1+1)):=by rw[aF oo oo];rfl
   by_cases u:s.length=1/\(s.head?.getD (0,0)).1=6
   ·have e:=qdm.1 u.1;obtain⟨J,e⟩:=e;subst e;have g6:J.1=6:=u.2;have h0:tL[te+((0:Nat):Int).toNat]? =some (enc J):=Sl.at (l:=[J]) t4 (k:=0) ym;have i:tn=false:=Sl.lt t1 (k:=0) ym;have B:=K _ _ (t2 i);have A:(0:Int)<=0/\(0:Int) < (([J]:List Stp).length:Nat):=by simp
    refine bri q ?_
    repeat' ((conv=>whnf);first
     |refine⟨I,T,?_⟩
     |refine⟨_,V,?_⟩
     |refine⟨_,d,?_⟩
     |refine⟨i,A,?_⟩
     |refine⟨_,B,?_⟩
     |refine⟨_,h0,?_⟩
     |refine gae dd ?_
     |fail)
    refine gae ss ?_
    repeat' ((conv=>whnf);first
     |refine⟨i,A,?_⟩
     |refine⟨_,B,?_⟩
     |refine⟨_,h0,?_⟩
     |refine gae ss ?_
     |fail)
    refine bri g6 ?_;exact⟨⟨(k+1,G),R,U⟩,m,leR [] hH hT rfl ⟨tv,cF _ (.inr oo),tv⟩ ⟨W,tv⟩ ⟨Fz.r G,rfl,tv⟩⟩
   ·have aw:eo ((k:Int)+1) s (V0[k]'ga)=(VL[k]'gb,0):=by
     rcases ao with h | h
     ·exact absurd (by rw[h];exact⟨rfl,rfl⟩) u
     ·exact h.2
    have j:=ap_fn aw (AF G ((k:Int)+1) s (V0[k]'ga) _ (L.mono K) am (jm (a.s0 _ (qt ga)) dd));have E:=zG _ _ a.hv;have ad:=zG _ _ a.a0;have hb4:=zG _ _ a.al;have ai:(V0.map encS)[0+(IntKind.i64.wrap ((k:Int)+1 - 1)).toNat]? =some (encS (V0[k]'ga)):=by rw[p,qg,qz,qu,qc ga];rfl
    have aj:(VL.map encS)[0+(IntKind.i64.wrap ((k:Int)+1 - 1)).toNat]? =some (encS (VL[k]'gb)):=by rw[p,qg,qz,qu,qc gb];rfl
    by_cases gl1:s.length=1
    ·have e:=qdm.1 gl1;obtain⟨J,e⟩:=e;subst e;have g6:¬J.1=6:=fun h=>u ⟨rfl,h⟩
     have h0:tL[te+((0:Nat):Int).toNat]? =some (enc J):=Sl.at (l:=[J]) t4 (k:=0) ym;have i:tn=false:=Sl.lt t1 (k:=0) ym;have B:=K _ _ (t2 i);have A:(0:Int)<=0/\(0:Int) < (([J]:List Stp).length:Nat):=by simp
     refine bri q ?_
     repeat' ((conv=>whnf);first
      |refine⟨I,T,?_⟩
      |refine⟨_,V,?_⟩
      |refine⟨_,d,?_⟩
      |fail)
     refine gae ss ?_
     repeat' ((conv=>whnf);first
      |refine⟨i,A,?_⟩
      |refine⟨_,B,?_⟩
      |refine⟨_,h0,?_⟩
      |refine gae ss ?_
      |fail)
     refine brj g6 ?_
     repeat' ((conv=>whnf);first
      |refine⟨rfl,O,?_⟩
      |refine⟨rfl,f,?_⟩
      |refine⟨_,E,?_⟩
      |refine⟨_,a.v0,?_⟩
      |refine⟨_,ad,?_⟩
      |refine⟨_,ai,?_⟩
      |fail)
     refine useFs j ?_;rintro _ G2 w2 rfl;have aa:=w2 _ _ E;have S:=w2 _ _ hb4
     repeat' ((conv=>whnf);first
      |refine gae dd ?_
      |refine⟨rfl,Q,?_⟩
      |refine⟨_,aa,?_⟩
      |refine⟨_,ab,?_⟩
      |refine⟨rfl,f,?_⟩
      |refine⟨_,S,?_⟩
      |refine⟨_,aj,?_⟩
      |fail)
     refine brd ss ?_;exact⟨⟨(k+1,G2),Fz.t R w2,U⟩,m,leR [] hH hT rfl ⟨tv,cF _ (.inr oo),tv⟩ ⟨W,tv⟩ ⟨Fz.r G2,rfl,tv⟩⟩
    ·have ac:¬(s.length:Int)=1:=by omega
     refine bri q ?_
     repeat' ((conv=>whnf);first
      |refine⟨I,T,?_⟩
      |refine⟨_,V,?_⟩
      |refine⟨_,d,?_⟩
      |refine⟨fun h=>absurd (od h) ac,fun _=>?_⟩
      |refine⟨rfl,O,?_⟩
      |refine⟨rfl,f,?_⟩
      |refine⟨_,E,?_⟩
      |refine⟨_,a.v0,?_⟩
      |refine⟨_,ad,?_⟩
      |refine⟨_,ai,?_⟩
      |fail)
     refine useFs j ?_;rintro _ G2 w2 rfl;have aa:=w2 _ _ E;have S:=w2 _ _ hb4
     repeat' ((conv=>whnf);first
      |refine gae dd ?_
      |refine⟨rfl,Q,?_⟩
      |refine⟨_,aa,?_⟩
      |refine⟨_,ab,?_⟩
      |refine⟨rfl,f,?_⟩
      |refine⟨_,S,?_⟩
      |refine⟨_,aj,?_⟩
      |fail)
     refine brd ss ?_;exact⟨⟨(k+1,G2),Fz.t R w2,U⟩,m,leR [] hH hT rfl ⟨tv,cF _ (.inr oo),tv⟩ ⟨W,tv⟩ ⟨Fz.r G2,rfl,tv⟩⟩
  ·have q:¬(k:Int)+1<=8:=by omega
   refine brj q ?_;exact endFo (.ret (.va (.bool true))) G rfl (Fz.t z2 zG) (Fz.r G) ⟨rfl,tv⟩ (by first | exact aO _ | exact ob dd | exact ob' dd | exact rfl) rfl
theorem zm(a:Fz)(w:MLF a)(x:RNDF a)(f g i:Bool)(b j p c k q d l e s:Nat)(L:List Stp)(X:List Q3)(m n:Int)(zs:List Int)(h:CaseAt a f g i b j c k d l e L X m n zs):
  Fo prog a 8 [.agg (caseS f g i b j p c k q d l e s L.length X.length m n)] (fun o _=>o=.ret (.va (.bool true))/\True):=
 Dh a w x f g i b j p c k q d l e s L.length X.length m n fun F1 u=>BC F1 (w.mono u) (x.mono u) f g i b j p c k q d l e s L X m n zs (h.mono u)
