import Derived.Test.YtfnkamphhpldcaaGreatDoorK42
import Derived.Test.YtfnkamphhpldcaaGreatDoorK26
import Derived.Test.YtfnkamphhpldcaaGreatDoorK37
set_option maxHeartbeats 64000000
namespace Go.Proofs.YtfnkamphhpldcaaGreatDoor
open Go Sx
set_option maxRecDepth 100000
theorem zx8{p:Int}{v:RVal}(y:1<=p/\p<=8)(h:ROK p v):v.lines.length<=1000/\(∀x∈v.lines,x.1.length<=1000000)/\v.bits.length<=9000000000000000000:=by
 by_cases l:v.lost=true
 ·have h1:=zwg h l;have g:=congrArg Val.bits (znz h.1 l);have e:v.bits=[]:=g;rw[h1,e];exact⟨yh _,fun x d=>by simp at d,yh _⟩
 have c:v.lost=false:=by simpa using l
 by_cases m:p<=5
 ·obtain⟨A,o,_⟩:=zpq ⟨y.1,m⟩ h c;have e:v.bits=[]:=(ze1 h.1 c m).2.2.1;rw[e];exact⟨by omega,fun x d=>by have:=o x d;omega,yh _⟩
 ·have j:∀{b:Prop},(ofV p v).lines=[]/\b->v.lines=[]:=fun hb=>by
   have n:v.lines.map (ofR p)=[]:=hb.1;simpa using n
  by_cases s:p=8
  ·rcases h.1 with u | ⟨_,f⟩
   ·have h7:v.lost=true:=congrArg Val.lost u;exact absurd h7 l
   ·rw[if_pos s]at f;have a:v.bits=[]:=f.2.1;rw[j f,a];exact⟨yh _,fun x d=>by simp at d,yh _⟩
  ·have i:p=6\/p=7:=by omega
   have f:=zf7 h.1 c i;rw[j f];refine⟨yh _,fun x d=>by simp at d,?_⟩;obtain⟨_,g,e,k⟩:=f;replace g:0<=v.w/\v.w<=32:=g;replace e:min v.w 1<=v.h/\v.h<=min v.w 1*32:=e;rcases i with n | h7
   ·rw[if_neg (by omega)]at k;have a:v.bits=[]:=k;rw[a];exact yh _
   ·rw[if_pos h7]at k;have a:(v.bits.length:Int)=v.w*v.h:=k.1;have q:v.w*v.h<=32*32:=qbh g.2 (by omega) (by omega) (by omega);omega
theorem z2e(l:List Stp)(x:Stp)(v:RVal):runR (l++[x]) v=stepR x (runR l v):=by
 unfold runR;rw[qa4];rfl
theorem z2f{l:List Stp}{k:Nat}{v a:RVal}{x:Stp}(g:k < l.length)(b:l[k]=x)(h:a=runR (l.take k) v):stepR x a=runR (l.take (k+1)) v:=by
 rw[qf g,z2e,b,h]
def rvN(v:RVal):Ent:=.one (.cells 110 (rvS v .nilsl))
theorem z2i{n:Nat}{v:RVal}:(rvN v).below n:=by
 show∀a∈_,SA.below n a;intro a b;simp only[qn,qy,or_false]at b;rcases b with rfl | rfl | rfl | rfl | rfl<;>trivial
def rvA(v:RVal):Option (Nat×Nat×Nat×Nat)->Ent
 |none=>rvN v
 |some (b,e,n,c)=>rvSE v b e n c
def itA:Option (Nat×Nat×Nat×Nat)->SA
 |none=>.nilsl
 |some (b,e,n,c)=>sl0 b e n c
theorem Its.it{F:Fz}{a:SA}{l:List RLn}(h:Its F a l):∃t,a=itA t:=by
 rcases h with⟨_,h⟩ | ⟨_,b,e,c,_,_,h,_⟩
 ·exact⟨none,h⟩
 ·exact⟨some (b,e,l.length,c),h⟩
theorem zgh{n:Nat}{v:RVal}{t:Option (Nat×Nat×Nat×Nat)}(h:0 < n:=by omega):(rvA v t).below n:=by
 rcases t with _ | ⟨b,e,m,c⟩
 ·exact z2i
 ·exact zbc h
abbrev zn2(p:Int)(l:List Stp)(s:List UInt8):Out->Fz->Prop:=fun o _=>o=.ret (.tup [.va (.str (zfg p l s).1),.va (.int .i64 (zfg p l s).2)])
theorem zkj{F F1:Fz}{p:Int}{l:List Stp}{s t:List UInt8}{e:Int}{h:Hp}{nx:Nat}(c:zfg p l s=(t,e))(b:lget h 0=some (.frz F1))(a:Fz.le F F1):
  Cln 1 (FoK F (zn2 p l s)) (.ret (.tup [.va (.str t),.va (.int .i64 e)])) h nx:=
 endFo (.ret (.tup [.va (.str t),.va (.int .i64 e)])) F1 b a (Fz.r F1) (by rw[zn2,c]) (zal _) rfl
theorem z1i(F:Fz)(p:Int)(l:List Stp)(s:List UInt8)(sa:SA)(ha:zay F sa l)(hl:l.length < 1000000)(hs:s.length<=1000000000000000000):
  Fo Tryz.prog F 19 [.va (.int .i64 p),.va sa,.va (.str s)] (zn2 p l s):=by
 have j:=z2j F sa l p ha hl;have Z:=z7i F p s hs;obtain⟨ag,an,af,ao,ae,ap,rfl,u,ac,am,ad⟩:=ha;by_cases R:za2 p l=true
 case neg=>
  have al:za2 p l=false:=by simpa using R
  have e:zfg p l s=([],70):=if_neg R;rw[al]at j;refine foS Tryz.func19 ?_;refine usePt j ?_;refine useFt Z ?_;rintro _ F1 T ⟨v,a,b,rfl,O,Q,-⟩;refine gaf (by decide) ?_;exact zkj e rfl T
 have hp:=zpk R;have Y:=zjf R;rw[R]at j;refine foS Tryz.func19 ?_;refine usePt j ?_;refine useFt Z ?_;rintro _ F1 T ⟨v,a,b,rfl,O,Q,-⟩;rcases Q with⟨rfl,Q⟩ | ⟨rfl,Q⟩
 case inr=>
  have e:zfg p l s=([],70):=by rw[zfg,if_pos R,Q]
  refine gae (by decide) ?_;refine bre (by decide) ?_;exact zkj e rfl T
 have eA:zfg p l s=(zca p (runR l v),0):=by rw[zfg,if_pos R,Q]
 have ak:=(z7b Q).2;have aj:=Its.it O;obtain⟨t,rfl⟩:=aj;refine gae (by decide) ?_;refine brd (by decide) ?_;conv=>whnf
 refine zak hΘ (X:={ y:Nat×Fz×RVal×Option (Nat×Nat×Nat×Nat) // y.1<=l.length/\Fz.le F1 y.2.1/\y.2.2.1=runR (l.take y.1) v/\Its y.2.1 (itA y.2.2.2) y.2.2.1.lines }) (fun y=>[(11,.va (.int .i64 y.1.1))]) (jr 27 13 [])
  (fun y=>[(0,.frz y.1.2.1),(1,rvA y.1.2.2.1 y.1.2.2.2)]) 2 (fun y=>l.length - y.1.1) ⟨(0,F1,v,t),⟨yh _,Fz.r F1,rfl,O⟩⟩
  (fun K M=>by
   rcases t with _ | ⟨b,e,n,c⟩
   ·exact leI [] K M rfl ⟨tv,zgh,tv⟩ ⟨rfl,tv⟩ ⟨Fz.r F1,rfl,tv⟩
   ·exact leI [] K M rfl ⟨tv,zgh,tv⟩ ⟨rfl,tv⟩ ⟨Fz.r F1,rfl,tv⟩) ?_
 rintro⟨⟨k,F2,E,t2⟩,hk,D,m,f⟩ K M;replace hk:k<=l.length:=hk;replace D:Fz.le F1 F2:=D;replace m:E=runR (l.take k) v:=m;replace f:Its F2 (itA t2) E.lines:=f;have L:ROK p E:=by rw[m];exact zx7 hp _ v (fun x hx=>Y x (yd hx)) ak
 by_cases G:k < l.length
 ·have A:(k:Int) < (l.length:Nat):=by omega
  have I:0<=(k:Int):=by omega
  have U:=fun h:ag=false=>D _ _ (T _ _ (ac h))
  have ah:∃x,l[k]=x:=⟨_,rfl⟩
  obtain⟨x,hx⟩:=ah;have V:ae[af+(k:Int).toNat]? =some (enc x):=by rw[<-hx];exact Sl.at ad G
  have J:=Y l[k] (qw G);rw[hx]at J;have aa:=z7j F2 p x E (itA t2) hp J L f;have w:k+1<=l.length:=G;have g:l.length - (k+1) < l.length - k:=by omega
  have i:k < 4611686018427387904:=by omega
  have B:=z2f G hx m;rcases t2 with _ | ⟨b,e,n,c⟩
  ·refine bri A ?_;refine dwS (lk [0,1,2,3,4,5] (.alt 6 (.last 7 .done) .nil)) [1] ?_;refine⟨Sl.lt u G,⟨I,A⟩,rfl,_,U (Sl.lt u G),_,V,rfl,?_⟩;refine useFt aa ?_;rintro _ q S ⟨a',rfl,d⟩;have o:=Its.it d;obtain⟨t3,rfl⟩:=o;refine⟨S,rfl,?_⟩;rcases t3 with _ | ⟨b3,e3,n3,c3⟩
   ·exact⟨⟨(k+1,q,stepR x E,none),w,Fz.t D S,B,d⟩,g,leR [] K M rfl ⟨tv,zgh,tv⟩ ⟨cnt i,tv⟩ ⟨Fz.r q,rfl,tv⟩⟩
   ·exact⟨⟨(k+1,q,stepR x E,some (b3,e3,n3,c3)),w,Fz.t D S,B,d⟩,g,leR [] K M rfl ⟨tv,zgh,tv⟩ ⟨cnt i,tv⟩ ⟨Fz.r q,rfl,tv⟩⟩
  ·refine bri A ?_;refine dwS (lk [0,1,2,3,4,5] (.alt 6 (.last 7 .done) .nil)) [1] ?_;refine⟨Sl.lt u G,⟨I,A⟩,rfl,_,U (Sl.lt u G),_,V,rfl,?_⟩;refine useFt aa ?_;rintro _ q S ⟨a',rfl,d⟩;have o:=Its.it d;obtain⟨t3,rfl⟩:=o;refine⟨S,rfl,?_⟩;rcases t3 with _ | ⟨b3,e3,n3,c3⟩
   ·exact⟨⟨(k+1,q,stepR x E,none),w,Fz.t D S,B,d⟩,g,leR [] K M rfl ⟨tv,zgh,tv⟩ ⟨cnt i,tv⟩ ⟨Fz.r q,rfl,tv⟩⟩
   ·exact⟨⟨(k+1,q,stepR x E,some (b3,e3,n3,c3)),w,Fz.t D S,B,d⟩,g,leR [] K M rfl ⟨tv,zgh,tv⟩ ⟨cnt i,tv⟩ ⟨Fz.r q,rfl,tv⟩⟩
 ·have W:¬(k:Int) < (l.length:Nat):=by omega
  have ai:k=l.length:=by omega
  rw[ai,qh (qi _)]at m;have hW:=zx8 hp L;have ab:=wf_fn F2 p E (itA t2) f hp hW.1 hW.2.1 hW.2.2;rw[<-m]at eA;clear hW f L;rcases t2 with _ | ⟨b,e,n,c⟩
  ·refine brj W ?_;refine usePt ab ?_;exact zkj eA rfl (Fz.t T D)
  ·refine brj W ?_;refine usePt ab ?_;exact zkj eA rfl (Fz.t T D)
theorem zhu{t:TypeId}{h:Hp}(a:∀k,resP h 0 k=(0,k)){i z:Nat}(b:resP h i 0=(0,z))(l:List ZC)(p:Int)(n c c':Nat):SB.ren (resP h) (.arr t 2 (l.map encZ++[[.int .i64 p,.slice false i 0 0 2 n c]]) c')=.arr t 2 (l.map encZ++[[.int .i64 p,.slice false 0 z 0 2 n c]]) c':=by
 show SB.arr t 2 ((l.map encZ++([[.int .i64 p,.slice false i 0 0 2 n c]]:List (List SA))).map (List.map (SA.ren (resP h)))) c'=_;rw[qs,zr8 zbb a];show SB.arr t 2 (l.map encZ++[[.int .i64 p,.slice false (resP h i 0).1 (resP h i 0).2 0 2 n c]]) c'=_;rw[b]
theorem zff{t:TypeId}{n:Nat}(b:0 < n)(l:List ZC)(x:ZC)(c:Nat):SB.below n (.arr t 2 (l.map encZ++[encZ x]) c):=by
 have a:SB.below n (.arr t 2 ((l++[x]).map encZ) c):=zco (n:=n) (e:=encZ) zbb b t 2 c (l++[x]);rw[qs]at a;exact a
theorem z95{μ:Mu}{c a:List UInt8}{b:Int}{m k:Nat}(h:m=8)(d:μ 3 0=(3,0)):outE ((Out.ret (.agg [.str c,.str a,.int .i64 b,.slice false 1 0 0 2 8 k])).ren (sig [(1,3)])) ((Out.ret (.agg [.str c,.str a,.int .i64 b,.slice false 3 0 0 2 m k])).ren μ):=by
 subst h;show SV.agg [.str c,.str a,.int .i64 b,.slice false 3 0 0 2 8 k]=SV.agg [.str c,.str a,.int .i64 b,.slice false (μ 3 0).1 (μ 3 0).2 0 2 8 k];rw[d]
theorem ydi{μ:Mu}(a:∀k,μ 0 k=(0,k)){t:TypeId}{sz c:Nat}{z:ZC}{r:List ZC}:subE (some (gE t sz encZ c (z::r))) ((Ent.one (.arr t sz ((z::r).map encZ) c)).ren μ):=by
 show subE _ (Ent.one ((SB.arr t sz ((z::r).map encZ) c).ren μ));rw[zg2 zbb a rfl];exact⟨rfl,rfl⟩
def FewP(F:Fz)(L:List (List SA))(a:List Kp):Prop:=∀(k:Nat) (h:k < a.length),∃d b e c R r,L[0+(k:Int).toNat]? =some [.int .i64 (a[k]'h).1,.slice d 0 b e 2 (a[k]'h).2.length c]/\(a[k]'h).2.length<=c/\(d=true->(a[k]'h).2=[])/\(d=false->F b=some (.arr 56 2 R r))/\e+(a[k]'h).2.length<=R.length/\(R.drop e).take (a[k]'h).2.length=(a[k]'h).2.map enc/\(a[k]'h).2.length<=66
theorem z5e{F:Fz}{r:List ZC}{d:List Kp}(D:r.length=d.length)(o:∀(i:Nat) (z:ZC) (x:Kp),r[i]? =some z->d[i]? =some x->KpR F z.1 x)(n:zg3 r)(g:∀x∈d,x.2.length<=66):FewP F (r.map encZ) d:=fun k h=>by
 have l:k < r.length:=by omega
 obtain⟨E,m,q⟩:=o k r[k] d[k] (qa l) (qa h);obtain⟨p,a,f,j⟩:=n r[k] (qw l);rw[m]at f;simp only[List.cons.injEq,and_true]at f;obtain⟨-,rfl⟩:=f;obtain⟨s,b,e,c,R,u,rfl,w,y,A,B⟩:=q;refine⟨s,b,e,c,R,u,?_,j,w,y,A,B,g _ (qw h)⟩;rw[qx,qk,qt,qa l];show some r[k].1=_;rw[m]
theorem ycm(F:Fz)(c:Crt)(b co cap:Nat)(L:List (List SA))(hb:F b=some (.arr 52 2 L co))(h8:c.cl.length=8)(hf:FewP F L c.cl):
  Ct Tryz.prog 18 [.agg (crtS c (.slice false 0 b 0 2 8 cap))] F [] 1 (fun o F' h n=>∃r c2,n=2/\o=.ret (.agg (crtS c (.slice false 1 0 0 2 8 c2)))/\h=[(1,.one (.arr 52 2 (r.map encZ) c2))]/\RowL F' c.cl r/\r.length<=c2):=by
 obtain⟨cs,cd,cn,I⟩:=c;replace h8:I.length=8:=h8;replace hf:FewP F L I:=hf;refine ctS Tryz.func18 ?_;conv=>whnf
 refine zoq hΘ (X:={ y:Nat×List ZC×Nat×Fz // y.1<=8/\Fz.le F y.2.2.2/\RowL y.2.2.2 (I.take y.1) y.2.1/\y.2.1.length<=y.2.2.1 }) (fun y=>[(3,.va (gA 2 3 y.1.2.2.1 y.1.2.1)),(4,.va (.int .i64 y.1.1))]) (jr 5 31 [])
  (fun y=>[(0,.frz y.1.2.2.2),(1,.one (.cells 48 (crtS ⟨cs,cd,cn,I⟩ (.slice false 0 b 0 2 8 cap)))),(3,gE 52 2 encZ y.1.2.2.1 y.1.2.1)]) 4 (fun y=>8 - y.1.1) ⟨(0,[],0,F),yh _,Fz.r _,RowL.nil,qi _⟩
  (fun hH hT=>leI [(3,3)] hH hT rfl ⟨tv,zan _ (.inr (by omega)),zco zbb (by omega) _ _ _ _,tv⟩ ⟨rfl,rfl,tv⟩ ⟨Fz.r F,rfl,rfl,tv⟩) ?_
 rintro⟨⟨k,o,V,G⟩,hk,W,e,ae⟩ hH K;replace hk:k<=8:=hk;replace W:Fz.le F G:=W;replace e:RowL G (I.take k) o:=e;replace ae:o.length<=V:=ae;have ag:o.length=k:=by have:=e.1;rw[qo]at this;omega
 by_cases g:k < 8
 ·have gi:(k:Int) < 8:=by omega
  have J:(k:Int) < 9:=by omega
  have gk:k < I.length:=by omega
  have w:8 - (k+1) < 8 - k:=by omega
  have A:k < 4611686018427387904:=by omega
  have ah:=hf k gk;obtain⟨nl,sb,se,sc,R,rr,f1,f2,f3,f4,f5,f6,f7⟩:=ah;have hx:∃x,I[k]'gk=x:=⟨_,rfl⟩
  obtain⟨x,hx⟩:=hx;rw[hx]at f1 f2 f3 f5 f6 f7;obtain⟨p,s⟩:=x;replace f1:L[0+(k:Int).toNat]? =some [.int .i64 p,.slice nl 0 sb se 2 s.length sc]:=f1;replace f2:s.length<=sc:=f2;replace f7:s.length<=66:=f7;have M:=W _ _ hb;have O:(0:Int)<=(k:Int)/\(k:Int) < ((8:Nat):Int):=by omega
  have S:(0<=if(66:Int) < s.length then 66 else(s.length:Int))/\(if(66:Int) < s.length then 66 else(s.length:Int))<=(sc:Nat):=by split<;>omega
  have E:∀s:List Stp,s.length<=66->(0+(s.map enc).length)*16<=140737488355328:=fun s h=>by rw[qe];omega
  have hT:(if(66:Int) < s.length then 66 else(s.length:Int)).toNat - 0=s.length:=by rw[if_neg (by omega)];rfl
  have ab:∀n,n<=8->(n+1)*32<=140737488355328:=fun n hn=>by omega
  have aa:1*32<=140737488355328:=by decide
  have Z:o.length<=8:=by omega
  have Q:k+1<=8:=g;have T:I.take k++[(p,s)]=I.take (k+1):=by rw[qf gk,hx]
  rcases nl with _ | _
  rotate_left
  ·have aj:=f3 rfl;subst aj;rcases o with _ | ⟨B,f⟩
   ·refine⟨fun _=>?_,fun h=>absurd gi (oe h)⟩;refine bri J ?_
    repeat' ((conv=>whnf);first
     |refine⟨rfl,O,?_⟩
     |refine⟨_,M,?_⟩
     |refine⟨_,f1,?_⟩
     |refine⟨S,?_⟩
     |fail)
    refine⟨hT,rfl,rfl,rfl,nb rfl,fun d Y=>?_⟩;refine⟨nb rfl,[[.int .i64 p,.slice false 6 0 0 2 (0+(([]:List Stp).map enc).length) d]],rfl,rfl,rfl,aa,fun c' m=>?_⟩;refine zdg 6 (fun _=>.arr 56 2 (([]:List Stp).map enc) d) rfl rfl rfl (fun _ _=>rfl) (fun _ _=>zd2 _ _) ?_;intro l U D u;refine ze8 8 _ rfl (zhu (fun _=>rfl) (i:=6) (z:=l 0) rfl ([]:List ZC) p (0+(([]:List Stp).map enc).length) d c') (zff (show 0 < 9 by decide) ([]:List ZC) (mkZ p (.slice false 0 (l 0) 0 2 _ d) rfl) _) ?_;have q:=zj8 (p:=p) (u 0 rfl);have a:=(e.mono D).snoc (z:=mkZ p (.slice false 0 (l 0) 0 2 (0+(([]:List Stp).map enc).length) d) rfl) q;rw[T]at a;exact zfj ⟨⟨(k+1,([]:List ZC)++[mkZ p (.slice false 0 (l 0) 0 2 (0+(([]:List Stp).map enc).length) d) rfl],c',U),Q,Fz.t W D,a,by simpa using m⟩,w,leR [(3,8)] hH K rfl ⟨tv,zan _ (.inr (by omega)),zco zbb (by omega) _ _ _ _,tv⟩ ⟨by(conv=>whnf);exact⟨rfl,rfl,rfl,.inr ⟨rfl,rfl,rfl,rfl⟩⟩,cnt A,tv⟩ ⟨Fz.r _,rfl,zgm (μ:=sig [(3,8)]) zbb (fun k=>rfl) (za3 _ (by rw[qs];rfl)),tv⟩⟩
   ·refine⟨fun _=>?_,fun h=>absurd gi (oe h)⟩;refine bri J ?_
    repeat' ((conv=>whnf);first
     |refine⟨rfl,O,?_⟩
     |refine⟨_,M,?_⟩
     |refine⟨_,f1,?_⟩
     |refine⟨S,?_⟩
     |fail)
    refine⟨hT,rfl,rfl,rfl,nb rfl,fun d Y=>?_⟩;refine⟨nb rfl,[[.int .i64 p,.slice false 6 0 0 2 (0+(([]:List Stp).map enc).length) d]],rfl,rfl,rfl,by simp,rfl,ab _ Z,fun c' m=>?_⟩;refine zdg 6 (fun _=>.arr 56 2 (([]:List Stp).map enc) d) rfl rfl rfl (fun _ _=>rfl) (fun _ _=>zd2 _ _) ?_;intro l U D u;refine ze8 8 _ rfl (zhu (fun _=>rfl) (i:=6) (z:=l 0) rfl (B::f) p (0+(([]:List Stp).map enc).length) d c') (zff (show 0 < 9 by decide) (B::f) (mkZ p (.slice false 0 (l 0) 0 2 _ d) rfl) _) ?_;have q:=zj8 (p:=p) (u 0 rfl);have a:=(e.mono D).snoc (z:=mkZ p (.slice false 0 (l 0) 0 2 (0+(([]:List Stp).map enc).length) d) rfl) q;rw[T]at a;exact zfj ⟨⟨(k+1,(B::f)++[mkZ p (.slice false 0 (l 0) 0 2 (0+(([]:List Stp).map enc).length) d) rfl],c',U),Q,Fz.t W D,a,by simpa using m⟩,w,leR [(3,8)] hH K rfl ⟨tv,zan _ (.inr (by omega)),zco zbb (by omega) _ _ _ _,tv⟩ ⟨zdh (μ:=sig [(3,8)]) (i:=3) (j:=8) rfl 2 c' _ (B::f) (mkZ p (.slice false 0 (l 0) 0 2 (0+(([]:List Stp).map enc).length) d) rfl) rfl,cnt A,tv⟩ ⟨Fz.r _,rfl,zgm (μ:=sig [(3,8)]) zbb (fun k=>rfl) (za3 _ (by rw[qs];rfl)),tv⟩⟩
  ·have ad:=W _ _ (f4 rfl);have he:(if sc=0 then se else se+0)=se:=by split<;>rfl
   have ac:(if sc=0 then se else se+0)+((if(66:Int) < s.length then 66 else(s.length:Int)).toNat - 0)<=R.length:=by rw[he,hT];exact f5
   have hX:List.take ((if(66:Int) < s.length then 66 else(s.length:Int)).toNat - 0) (List.drop (if sc=0 then se else se+0) R)=s.map enc:=by rw[he,hT];exact f6
   clear he;rcases s with _ | ⟨s0,sr⟩<;>rcases o with _ | ⟨B,f⟩
   ·refine⟨fun _=>?_,fun h=>absurd gi (oe h)⟩;refine bri J ?_
    repeat' ((conv=>whnf);first
     |refine⟨rfl,O,?_⟩
     |refine⟨_,M,?_⟩
     |refine⟨_,f1,?_⟩
     |refine⟨S,?_⟩
     |fail)
    refine⟨_,_,_,ad,ac,_,hX,rfl,rfl,rfl,E _ f7,fun d Y=>?_⟩;refine⟨nb rfl,[[.int .i64 p,.slice false 6 0 0 2 (0+(([]:List Stp).map enc).length) d]],rfl,rfl,rfl,aa,fun c' m=>?_⟩;refine zdg 6 (fun _=>.arr 56 2 (([]:List Stp).map enc) d) rfl rfl rfl (fun _ _=>zhh _ _ _) (fun _ _=>zd2 _ _) ?_;intro l U D u;refine ze8 8 _ rfl (zhu (fun _=>rfl) (i:=6) (z:=l 0) rfl ([]:List ZC) p (0+(([]:List Stp).map enc).length) d c') (zff (show 0 < 9 by decide) ([]:List ZC) (mkZ p (.slice false 0 (l 0) 0 2 _ d) rfl) _) ?_;have q:=zj8 (p:=p) (u 0 rfl);have a:=(e.mono D).snoc (z:=mkZ p (.slice false 0 (l 0) 0 2 (0+(([]:List Stp).map enc).length) d) rfl) q;rw[T]at a;exact zfj ⟨⟨(k+1,([]:List ZC)++[mkZ p (.slice false 0 (l 0) 0 2 (0+(([]:List Stp).map enc).length) d) rfl],c',U),Q,Fz.t W D,a,by simpa using m⟩,w,leR [(3,8)] hH K rfl ⟨tv,zan _ (.inr (by omega)),zco zbb (by omega) _ _ _ _,tv⟩ ⟨by(conv=>whnf);exact⟨rfl,rfl,rfl,.inr ⟨rfl,rfl,rfl,rfl⟩⟩,cnt A,tv⟩ ⟨Fz.r _,rfl,zgm (μ:=sig [(3,8)]) zbb (fun k=>rfl) (za3 _ (by rw[qs];rfl)),tv⟩⟩
   ·refine⟨fun _=>?_,fun h=>absurd gi (oe h)⟩;refine bri J ?_
    repeat' ((conv=>whnf);first
     |refine⟨rfl,O,?_⟩
     |refine⟨_,M,?_⟩
     |refine⟨_,f1,?_⟩
     |refine⟨S,?_⟩
     |fail)
    refine⟨_,_,_,ad,ac,_,hX,rfl,rfl,rfl,E _ f7,fun d Y=>?_⟩;refine⟨nb rfl,[[.int .i64 p,.slice false 6 0 0 2 (0+(([]:List Stp).map enc).length) d]],rfl,rfl,rfl,by simp,rfl,ab _ Z,fun c' m=>?_⟩;refine zdg 6 (fun _=>.arr 56 2 (([]:List Stp).map enc) d) rfl rfl rfl (fun _ _=>zhh _ _ _) (fun _ _=>zd2 _ _) ?_;intro l U D u;refine ze8 8 _ rfl (zhu (fun _=>rfl) (i:=6) (z:=l 0) rfl (B::f) p (0+(([]:List Stp).map enc).length) d c') (zff (show 0 < 9 by decide) (B::f) (mkZ p (.slice false 0 (l 0) 0 2 _ d) rfl) _) ?_;have q:=zj8 (p:=p) (u 0 rfl);have a:=(e.mono D).snoc (z:=mkZ p (.slice false 0 (l 0) 0 2 (0+(([]:List Stp).map enc).length) d) rfl) q;rw[T]at a;exact zfj ⟨⟨(k+1,(B::f)++[mkZ p (.slice false 0 (l 0) 0 2 (0+(([]:List Stp).map enc).length) d) rfl],c',U),Q,Fz.t W D,a,by simpa using m⟩,w,leR [(3,8)] hH K rfl ⟨tv,zan _ (.inr (by omega)),zco zbb (by omega) _ _ _ _,tv⟩ ⟨zdh (μ:=sig [(3,8)]) (i:=3) (j:=8) rfl 2 c' _ (B::f) (mkZ p (.slice false 0 (l 0) 0 2 (0+(([]:List Stp).map enc).length) d) rfl) rfl,cnt A,tv⟩ ⟨Fz.r _,rfl,zgm (μ:=sig [(3,8)]) zbb (fun k=>rfl) (za3 _ (by rw[qs];rfl)),tv⟩⟩
   ·refine⟨fun _=>?_,fun h=>absurd gi (oe h)⟩;refine bri J ?_
    repeat' ((conv=>whnf);first
     |refine⟨rfl,O,?_⟩
     |refine⟨_,M,?_⟩
     |refine⟨_,f1,?_⟩
     |refine⟨S,?_⟩
     |fail)
    refine⟨_,_,_,ad,ac,_,hX,rfl,rfl,rfl,E _ f7,fun d Y=>?_⟩;refine⟨nb rfl,[[.int .i64 p,.slice false 6 0 0 2 (0+((s0::sr).map enc).length) d]],rfl,rfl,rfl,aa,fun c' m=>?_⟩;refine zdg 6 (fun _=>.arr 56 2 ((s0::sr).map enc) d) rfl rfl rfl (fun _ _=>zhh _ _ _) (fun _ _=>zd2 _ _) ?_;intro l U D u;refine ze8 8 _ rfl (zhu (fun _=>rfl) (i:=6) (z:=l 0) rfl ([]:List ZC) p (0+((s0::sr).map enc).length) d c') (zff (show 0 < 9 by decide) ([]:List ZC) (mkZ p (.slice false 0 (l 0) 0 2 _ d) rfl) _) ?_;have q:=zj8 (p:=p) (u 0 rfl);have a:=(e.mono D).snoc (z:=mkZ p (.slice false 0 (l 0) 0 2 (0+((s0::sr).map enc).length) d) rfl) q;rw[T]at a;exact zfj ⟨⟨(k+1,([]:List ZC)++[mkZ p (.slice false 0 (l 0) 0 2 (0+((s0::sr).map enc).length) d) rfl],c',U),Q,Fz.t W D,a,by simpa using m⟩,w,leR [(3,8)] hH K rfl ⟨tv,zan _ (.inr (by omega)),zco zbb (by omega) _ _ _ _,tv⟩ ⟨by(conv=>whnf);exact⟨rfl,rfl,rfl,.inr ⟨rfl,rfl,rfl,rfl⟩⟩,cnt A,tv⟩ ⟨Fz.r _,rfl,zgm (μ:=sig [(3,8)]) zbb (fun k=>rfl) (za3 _ (by rw[qs];rfl)),tv⟩⟩
   ·refine⟨fun _=>?_,fun h=>absurd gi (oe h)⟩;refine bri J ?_
    repeat' ((conv=>whnf);first
     |refine⟨rfl,O,?_⟩
     |refine⟨_,M,?_⟩
     |refine⟨_,f1,?_⟩
     |refine⟨S,?_⟩
     |fail)
    refine⟨_,_,_,ad,ac,_,hX,rfl,rfl,rfl,E _ f7,fun d Y=>?_⟩;refine⟨nb rfl,[[.int .i64 p,.slice false 6 0 0 2 (0+((s0::sr).map enc).length) d]],rfl,rfl,rfl,by simp,rfl,ab _ Z,fun c' m=>?_⟩;refine zdg 6 (fun _=>.arr 56 2 ((s0::sr).map enc) d) rfl rfl rfl (fun _ _=>zhh _ _ _) (fun _ _=>zd2 _ _) ?_;intro l U D u;refine ze8 8 _ rfl (zhu (fun _=>rfl) (i:=6) (z:=l 0) rfl (B::f) p (0+((s0::sr).map enc).length) d c') (zff (show 0 < 9 by decide) (B::f) (mkZ p (.slice false 0 (l 0) 0 2 _ d) rfl) _) ?_;have q:=zj8 (p:=p) (u 0 rfl);have a:=(e.mono D).snoc (z:=mkZ p (.slice false 0 (l 0) 0 2 (0+((s0::sr).map enc).length) d) rfl) q;rw[T]at a;exact zfj ⟨⟨(k+1,(B::f)++[mkZ p (.slice false 0 (l 0) 0 2 (0+((s0::sr).map enc).length) d) rfl],c',U),Q,Fz.t W D,a,by simpa using m⟩,w,leR [(3,8)] hH K rfl ⟨tv,zan _ (.inr (by omega)),zco zbb (by omega) _ _ _ _,tv⟩ ⟨zdh (μ:=sig [(3,8)]) (i:=3) (j:=8) rfl 2 c' _ (B::f) (mkZ p (.slice false 0 (l 0) 0 2 (0+((s0::sr).map enc).length) d) rfl) rfl,cnt A,tv⟩ ⟨Fz.r _,rfl,zgm (μ:=sig [(3,8)]) zbb (fun k=>rfl) (za3 _ (by rw[qs];rfl)),tv⟩⟩
 ·have gi:¬(k:Int) < 8:=by omega
  have af:I.take k=I:=qh (by omega);have ai:=e.1.trans (by rw[af];exact h8:(I.take k).length=8);rw[af]at e;rcases o with _ | ⟨B,f⟩
  ·have h0:0=k:=ag;omega
  refine⟨fun h=>absurd (od h) gi,fun _=>?_⟩;exact clean [(1,3)] (.ret (.agg (crtS ⟨cs,cd,cn,I⟩ (.slice false 1 0 0 2 8 V)))) G [(1,.one (.arr 52 2 ((B::f).map encZ) V))] 2 ⟨W,B::f,V,rfl,rfl,rfl,e,ae⟩ (z95 ai rfl) rfl rfl (Out.bB_ok rfl) ⟨zdc (n:=2) zbb (by omega) 52 2 V (B::f),tv⟩ ⟨Fz.r G,ydi (μ:=sig [(1,3)]) (fun k=>rfl),tv⟩
def trF(ks:List Kp)(A B:List (List UInt8))(k:Nat):Bool:=chkAt A B ((k:Int)+1,zbu ks ((k:Int)+1))
def trW(f:Nat->Bool)(k:Nat):Bool:=(List.range k).all f
theorem zv8(f:Nat->Bool)(k:Nat):trW f (k+1)=(trW f k&&f k):=by simp[trW,qay]
def trL(q:Nat->Bool)(ks:List Kp)(k i:Nat):Kp:=((i:Int)+1,if i < k/\q i=true then [(6,0)]else zbu ks ((i:Int)+1))
def trC(q:Nat->Bool)(ks:List Kp)(k:Nat):List Kp:=(List.range 8).map (trL q ks k)
theorem zhi(q:Nat->Bool)(ks:List Kp)(k:Nat):(trC q ks k).length=8:=by simp[trC]
theorem zv7(q:Nat->Bool)(ks:List Kp)(k:Nat){i:Nat}(h:i < 8):(trC q ks k)[i]? =some (trL q ks k i):=by simp[trC,h]
theorem trC0(q:Nat->Bool)(ks:List Kp):trC q ks 0=za8 ks:=by simp[trC,trL,za8]
theorem ybl{q:Nat->Bool}{ks:List Kp}{k:Nat}(h:q k=true):trC q ks (k+1)=(trC q ks k).set k ((k:Int)+1,[(6,0)]):=by
 refine qbe fun i=>?_
 by_cases a:i < 8
 ·rw[zv7 q ks _ a,qas];by_cases e:k=i
  ·subst e;rw[if_pos rfl,if_pos (by rw[zhi];exact a),trL,if_pos ⟨by omega,h⟩]
  ·rw[if_neg e,zv7 q ks _ a,trL,trL];by_cases b:i < k
   ·simp only[b,show i < k+1 by omega]
   ·simp only[b,show¬i < k+1 by omega]
 ·rw[qaj (by rw[zhi];omega),qaj (by rw[qax,zhi];omega)]
theorem z7x{q:Nat->Bool}{ks:List Kp}{k:Nat}(h:¬q k=true):trC q ks (k+1)=trC q ks k:=by
 refine ju fun i _=>?_
 rw[trL,trL];by_cases e:i=k
 ·subst e;simp[h]
 ·by_cases a:i < k
  ·simp only[a,show i < k+1 by omega]
  ·simp only[a,show¬i < k+1 by omega]
theorem z3i(ks:List Kp)(A B:List (List UInt8)):(za8 ks).all (chkAt A B)=trW (trF ks A B) 8:=by
 simp only[za8,List.all_map,trW];rfl
theorem ybm(q:Nat->Bool)(ks:List Kp)(A B:List (List UInt8)):(trC q ks 8).all (chkAt A B)=trW (fun k=>q k||trF ks A B k) 8:=by
 rw[qcq,trW,trC,List.all_map,qq,qq];refine forall_congr' fun k=>forall_congr' fun b=>?_
 have a:k < 8:=qcy.1 b;show chkAt A B (trL q ks 8 k)=true↔_;rw[trL];cases c:q k
 ·simp[trF]
 ·simp[a,chkAt]
theorem lostV{p:Int}(a:1<=p/\p<=8):clAt (p,[(6,0)]) p=true:=by
 rcases p8 a with rfl | rfl | rfl | rfl | rfl | rfl | rfl | rfl<;>decide
theorem ydl{ks:List Kp}(b:ks.all zbo=true)(q:Nat->Bool)(k:Nat):clOk (trC q ks k) 1=true:=by
 rw[zt3];intro i h;rw[zhi]at h;have h1:=qa (l:=trC q ks k) (i:=i) (by rw[zhi];exact h);rw[zv7 q ks k h]at h1;rw[<-Option.some.inj h1,trL,show(1:Int)+i=(i:Int)+1 by omega];split
 ·exact lostV (by omega)
 ·have a:=zyy b (p:=(i:Int)+1) (by omega);simp only[clAt,a.1,decide_eq_true a.2,decide_true,Bool.and_self]
theorem z81{A B:List (List UInt8)}(c:A.length=8)(d:B.length=8){a:List Kp}(f:a.length=8)(e:clOk a 1=true):zcw ⟨root8 A,root8 B,1,a⟩ A B=a.all (chkAt A B):=by
 have h1:=fun l=>decide_eq_true (zfs l)
 have b:crtOk ⟨root8 A,root8 B,1,a⟩=true:=by
  rw[crtOk,h1,h1,f,e];rfl
 simp only[zcw,b,c,d,decide_true,yq]
theorem zv9{ks:List Kp}(o:ks.all zbo=true){d e:Dc}(n:docOk d=true){k:Nat}(j:k < 8):
  ∃(f:k < (allB d).length) (hb:k < (allB e).length) (u:List UInt8),zfg ((k:Int)+1) (zbu ks ((k:Int)+1)) ((allB d)[k]'f)=(u,0)/\trF ks (allB d) (allB e) k=(decide (zbu ks ((k:Int)+1)=[(6,0)])||decide (u=(allB e)[k]'hb))/\
   (((zbu ks ((k:Int)+1)).length=1/\((zbu ks ((k:Int)+1)).head?.getD (0,0)).1=6)↔zbu ks ((k:Int)+1)=[(6,0)]):=by
 have f:k < (allB d).length:=by rw[zch];exact j
 have hb:k < (allB e).length:=by rw[zch];exact j
 have l:=zyy o (p:=(k:Int)+1) (by omega);obtain⟨v,q,w⟩:=zyc n ((k:Int)+1) (by omega);have i:∀X:List (List UInt8),∀h:k < X.length,atV X ((k:Int)+1)=X[k]'h:=fun X h=>by rw[atV,show((k:Int)+1 - 1).toNat=k by omega,qa h];rfl
 have g:zea ((k:Int)+1) (zbu ks ((k:Int)+1)) ((allB d)[k]'f)=(zbp ((k:Int)+1) (runS (zbu ks ((k:Int)+1)) v),0):=by
  rw[<-i _ f,w,zsc l.1 q]
 refine⟨f,hb,_,by rw[zyf];exact g,?_,?_⟩
 ·simp only[trF,chkAt,i _ f,i _ hb,g,decide_true,yq]
 ·have c:=l.1;generalize zbu ks ((k:Int)+1)=s at c
  match s with
  |[]=>simp
  |[(a,b)]=>
   refine⟨fun h=>?_,fun h=>by rw[h];exact⟨rfl,rfl⟩⟩;have m:a=6:=h.2;subst m;simp only[za2,qbq,List.all_nil,qcl,qg,decide_eq_true_eq]at c
   have hb:b=0:=by
    rcases zbn c.1 c.2.2 with h | h | h | h | h | h<;>first | exact h.2 | (have:=h.1;omega)
   rw[hb]
  |a::b::r=>simp
def trQ(a:Int)(k:Nat):Bool:=decide ((shrI .i64 (pickI a 256) (IntKind.i64.wrap ((k:Int)+1 - 1))).tmod 2=1)
