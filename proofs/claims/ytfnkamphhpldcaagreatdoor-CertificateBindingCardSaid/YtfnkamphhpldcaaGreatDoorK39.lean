import Derived.Test.YtfnkamphhpldcaaGreatDoorK38
set_option maxHeartbeats 64000000
namespace Go.Proofs.YtfnkamphhpldcaaGreatDoor
open Go Sx
set_option maxRecDepth 100000
theorem zwu(F:Fz)(q:Bool)(c:Nat)(l:List Cel)(n:q=true->l=[])(i:l.length<=1000):
  Ct Tryz.prog 87 [.va (.slice q 1 0 0 6 l.length c)] F [(1,rwE q 151 6 encK c l)] 2
   (fun o k m n0=>n0=2/\∃j b c',o=.ret (.va (.slice j 0 b 0 6 l.length c'))/\Sl k 151 6 encK (.slice j 0 b 0 6 l.length c') l/\l.length<=c'/\m=[(1,rwE q 151 6 encK c l)]):=by
 rcases q with _ | _
 ·rcases l with _ | ⟨x,r⟩
  ·refine ct_of hΘ Tryz.func87 rfl (by decide) _ _ rfl rfl rfl ?_;refine brd (by decide) ⟨rfl,by simp,[],rfl,rfl,rfl,rfl,by decide,fun c' f=>?_⟩;refine zbc 3 (fun _=>.arr 151 6 [] c') rfl rfl rfl (fun _ _=>rfl) (fun _ _=>SB.bB_ok rfl) ?_;intro b e d a;exact clean [] (.ret (.va (.slice false 0 (b 0) 0 6 0 c'))) e [(1,rwE false 151 6 encK c [])] 2 ⟨d,rfl,false,b 0,c',rfl,Sl.new (l:=[]) (a 0 rfl),jo _,rfl⟩ ⟨rfl,rfl,rfl,.inr ⟨rfl,rfl,rfl,rfl⟩⟩ rfl rfl (.inr (by decide)) ⟨zan zad _ _ _ _ _ _,tv⟩ ⟨Fz.r e,zar zad (zao _ _ _ _ _),tv⟩
  ·replace i:r.length+1<=1000:=i;have h:(0+((x::r).map encK).length)*48<=140737488355328:=by rw[qa,qf];omega
   refine ct_of hΘ Tryz.func87 rfl (by decide) _ _ rfl rfl rfl ?_;refine brd (by decide) ⟨rfl,by simp,(x::r).map encK,by rw[yz,qi (by simp)],rfl,rfl,rfl,h,fun c' f=>?_⟩;have g:=f;clear f;refine zbc 3 (fun _=>.arr 151 6 ((x::r).map encK) c') rfl rfl rfl (fun _ _=>by exact zcc zad rfl _ _ _ _) (fun _ _=>zat zad _ _ _ _ _) ?_;intro b e d a;exact clean [] (.ret (.va (.slice false 0 (b 0) 0 6 (x::r).length c'))) e [(1,rwE false 151 6 encK c (x::r))] 2 ⟨d,rfl,false,b 0,c',rfl,Sl.new (l:=x::r) (a 0 rfl),by simpa using g,rfl⟩ ⟨rfl,(by first | rfl | (rw[qa];omega)),(by first | rfl | (rw[qa];omega)),.inr ⟨rfl,rfl,rfl,rfl⟩⟩ rfl rfl (.inr (by decide)) ⟨zan zad _ _ _ _ _ _,tv⟩ ⟨Fz.r e,zar zad (zao _ _ _ _ _),tv⟩
 ·obtain rfl:=n rfl;refine ct_of hΘ Tryz.func87 rfl (by decide) _ _ rfl rfl rfl ?_;refine bre (by decide) ?_;exact clean [] (.ret (.va (.slice true 0 0 0 6 0 0))) F [(1,rwE true 151 6 encK c [])] 2 ⟨Fz.r F,rfl,true,0,0,rfl,Sl.nil,qg _,rfl⟩ ⟨rfl,rfl,rfl⟩ rfl rfl (.inl rfl) ⟨zan zad _ _ _ _ _ _,tv⟩ ⟨Fz.r F,zar zad (zao _ _ _ _ _),tv⟩
theorem sl_of{α:Type}{F:Fz}{q:Bool}{b c:Nat}{t sz:Nat}{e:α->List SA}{l:List α}(d:q=true->l=[])(a:q=false->F b=some (.arr t sz (l.map e) c)):Sl F t sz e (.slice q 0 b 0 sz l.length c) l:=by
 cases q with
 |true=>obtain rfl:=d rfl;exact⟨true,b,0,c,[],0,rfl,fun _=>rfl,(fun h=>nomatch h),by simp,by simp⟩
 |false=>exact Sl.new (a rfl)
abbrev intE(z:Int):Ent:=.one (.cells 3 [.int .i64 z])
theorem yab(F:Fz)(c:Cel)(r k:Int):Ct Tryz.prog 221 [.agg (encK c),.va (.ptr ⟨1,0,0,0,0⟩),.va (.ptr ⟨2,0,0,0,0⟩)] F [(1,intE r),(2,intE k)] 3
  (fun o f h n0=>F=f/\n0=3/\o=.ret (.va (.bool (decide (c.row=r/\c.col=k))))/\h=[(1,intE r),(2,intE k)]):=by
 obtain⟨a,b,j,l,ct,i⟩:=c;have e:(a=r/\b=k)\/(a=r/\¬b=k)\/¬a=r:=by omega
 rcases e with⟨h1,d⟩ | ⟨h1,d⟩ | h1
 ·refine ct_of hΘ Tryz.func221 rfl (by decide) _ _ rfl rfl rfl ?_;refine⟨fun _=>?_,fun g=>absurd h1 (oe g)⟩;exact clean [] (.ret (.va (.bool (decide (a=r/\b=k))))) F [(1,intE r),(2,intE k)] 3 ⟨Fz.r F,rfl,rfl,rfl,rfl⟩ (ob (by simp[h1,d])) rfl rfl trivial ⟨(SB.bB_ok rfl:SB.below 3 (.cells 3 [.int .i64 r])),(SB.bB_ok rfl:SB.below 3 (.cells 3 [.int .i64 k])),tv⟩ ⟨Fz.r F,rfl,rfl,tv⟩
 ·refine ct_of hΘ Tryz.func221 rfl (by decide) _ _ rfl rfl rfl ?_;refine⟨fun _=>?_,fun g=>absurd h1 (oe g)⟩;exact clean [] (.ret (.va (.bool (decide (a=r/\b=k))))) F [(1,intE r),(2,intE k)] 3 ⟨Fz.r F,rfl,rfl,rfl,rfl⟩ (ob (by simp[h1,d])) rfl rfl trivial ⟨(SB.bB_ok rfl:SB.below 3 (.cells 3 [.int .i64 r])),(SB.bB_ok rfl:SB.below 3 (.cells 3 [.int .i64 k])),tv⟩ ⟨Fz.r F,rfl,rfl,tv⟩
 ·refine ct_of hΘ Tryz.func221 rfl (by decide) _ _ rfl rfl rfl ?_;refine⟨fun g=>absurd (od g) h1,fun _=>?_⟩;exact clean [] (.ret (.va (.bool (decide (a=r/\b=k))))) F [(1,intE r),(2,intE k)] 3 ⟨Fz.r F,rfl,rfl,rfl,rfl⟩ (ob (by simp[h1])) rfl rfl trivial ⟨(SB.bB_ok rfl:SB.below 3 (.cells 3 [.int .i64 r])),(SB.bB_ok rfl:SB.below 3 (.cells 3 [.int .i64 k])),tv⟩ ⟨Fz.r F,rfl,rfl,tv⟩
theorem zmn(c:Cel)(i j:Nat)(e:i < 3:=by omega)(f:j < 3:=by omega):∀t∈[SV.agg (encK c),.va (.ptr ⟨i,0,0,0,0⟩),.va (.ptr ⟨j,0,0,0,0⟩)],SV.below 3 t:=by
 intro t b;simp only[ql,qt,or_false]at b;rcases b with rfl | rfl | rfl
 ·exact fun a d=>SA.below_mono (jo 3) ((zad c).2 a d)
 ·exact e
 ·exact f
theorem zfv{n:Nat}(r k:Int):bH n [(1,intE r),(2,intE k)]:=⟨(SB.bB_ok rfl:SB.below n (.cells 3 [.int .i64 r])),(SB.bB_ok rfl:SB.below n (.cells 3 [.int .i64 k])),tv⟩
theorem z8l(F:Fz)(q:Bool)(I L J:Nat)(K:List Cel)(r k:Int)(i:Nat)(R:Sl F 151 6 encK (.slice q 0 I L 6 K.length J) K)(hl:K.length<=1000)(E:i < K.length)(y:(K[i]'E).row=r/\(K[i]'E).col=k)(l:∀j (h:j < K.length),j < i->¬((K[j]'h).row=r/\(K[j]'h).col=k)):
  Ct Tryz.prog 220 [.va (.slice q 0 I L 6 K.length J),.va (.fn (.func 221) [⟨1,0,0,0,0⟩,⟨2,0,0,0,0⟩])] F [(1,intE r),(2,intE k)] 3
   (fun o O Q n0=>F=O/\n0=3/\o=.ret (.va (.int .i64 i))/\Q=[(1,intE r),(2,intE k)]):=by
 obtain⟨Y,U,W,V,T,Z,D,A,c,S,B⟩:=R;cases D
 have b:q=false:=Sl.lt A E;refine ct_of hΘ Tryz.func220 rfl (by decide) _ _ rfl rfl rfl ?_;conv=>whnf
 refine zam hΘ (X:={ j:Nat // j<=i }) (fun x=>[(8,.va (.int .i64 x.1))]) (4::5::jr 9 10 [])
  (fun x=>[(0,.frz F),(1,intE r),(2,intE k)]) 3 (fun x=>i - x.1) ⟨0,jo _⟩
  (fun u w=>leI [] u w rfl ⟨tv,zfv r k⟩ ⟨rfl,tv⟩ ⟨Fz.r F,rfl,rfl,tv⟩) ?_
 rintro⟨j,M⟩ u w;replace M:j<=i:=M;have s:j < K.length:=by omega
 have p:(j:Int) < (K.length:Int):=by omega
 have m:=Sl.at B s;have f:j < 4611686018427387904:=by omega
 have a:=yab F (K[j]'s) r k;by_cases g:j=i
 ·subst g;rw[decide_eq_true y]at a;refine bri p ⟨b,⟨js j,p⟩,_,c b,_,m,?_⟩;refine use a [(1,1),(2,2)] rfl ⟨rfl,rfl,rfl,tv⟩ rfl (zfv r k) (zmn _ _ _) ⟨rfl,rfl,tv⟩ ?_;rintro n F1 x0 n0 l1 ⟨rfl,rfl,rfl,rfl⟩;refine bre (by decide) ?_;exact clean [] (.ret (.va (.int .i64 j))) F [(1,intE r),(2,intE k)] 3 ⟨Fz.r F,rfl,rfl,rfl,rfl⟩ (zah _) rfl rfl trivial (zfv r k) ⟨Fz.r F,rfl,rfl,tv⟩
 ·have e:j < i:=by omega
  have G:=l j s e;have d:i - (j+1) < i - j:=by omega
  rw[decide_eq_false G]at a;refine bri p ⟨b,⟨js j,p⟩,_,c b,_,m,?_⟩;refine use a [(1,1),(2,2)] rfl ⟨rfl,rfl,rfl,tv⟩ rfl (zfv r k) (zmn _ _ _) ⟨rfl,rfl,tv⟩ ?_;rintro n F1 x0 n0 l1 ⟨rfl,rfl,rfl,rfl⟩;refine brd (by decide) ?_;exact⟨⟨j+1,e⟩,d,leR [] u w rfl ⟨tv,zfv r k⟩ ⟨cnt f,tv⟩ ⟨Fz.r F,rfl,rfl,tv⟩⟩
theorem z6b(F:Fz)(J M:SA)(d:Dc)(hD:DocAt F J M d)(a:DcSmall d)(hd:docOk d=true)(r k:Int)(i:Nat)(f:i < d.cells.length)(x:(d.cells[i]'f).row=r/\(d.cells[i]'f).col=k)(n:∀j (h:j < d.cells.length),j < i->¬((d.cells[j]'h).row=r/\(d.cells[j]'h).col=k))(v:Int)(E:(valsF d.cells)[i]? =some v):
  Fo Tryz.prog F 153 [.agg (docS J M d.w d.bits),.va (.int .i64 r),.va (.int .i64 k)] (fun o _=>o=.ret (.tup [.va (.int .i64 v),.va (.bool true)])):=by
 obtain⟨L,K,w,s⟩:=d;obtain⟨an,X,Z,Y,S,O,R,Q,rfl,rfl,hL,u,m⟩:=hD;have B:=z8l F S O R Q K r k i u a.c f x n;have e:=fun F1 (q:Fz.le F F1)=>zc4 F1 _ _ ⟨L,K,w,s⟩ (hL.mono q) (u.mono q) a.l a.c a.b
 rw[hd]at e;have G:=fun F1 (q:Fz.le F F1)=>znq F1 an X Z L.length Y S O R Q K w s (u.mono q) a.c m
 replace f:i < K.length:=f;replace E:(valsF K)[i]? =some v:=E;have y:¬(i:Int) < 0:=by omega
 have A:(i:Int) < (K.length:Int):=by omega
 refine fo_of hΘ Tryz.func153 rfl (by decide) _ _ rfl rfl rfl ?_;refine use B [(1,2),(2,3)] rfl ⟨⟨rfl,rfl,rfl,.inr ⟨rfl,rfl,rfl,rfl⟩⟩,rfl,tv⟩ rfl (zfv r k) (by simp[SV.below,SA.below]) ⟨rfl,rfl,tv⟩ ?_;rintro U F1 x0 n0 q ⟨rfl,rfl,rfl,rfl⟩;refine⟨fun _=>?_,fun g=>absurd (od g) y⟩;refine useFo (e F (Fz.r F)) rfl (zaa _) rfl ?_;rintro _ W T ⟨rfl,rfl⟩;refine brd (by decide) ?_;refine useFo (G W T) rfl (zaa _) rfl ?_;rintro _ I l3 (⟨rfl,p⟩ | ⟨vb,vc,vL,V,rfl,hb,hr⟩)
 ·exact absurd f (by rw[p];simp)
 ·have D:=hr i v E;refine⟨rfl,⟨js i,A⟩,_,hb,_,D,?_⟩;exact endFo (.ret (.tup [.va (.int .i64 v),.va (.bool true)])) I rfl (Fz.t T l3) (Fz.r I) rfl (zah _) rfl
def encK2(x:Cel×Bool):List SA:=[.int .i64 x.1.row,.int .i64 x.1.col,bif x.2 then .lit x.1.sum else .bool x.1.sum,.int .i64 x.1.value,.int .i64 x.1.top,.int .i64 x.1.left]
theorem zka:Plain encK2:=fun x=>by
 obtain⟨c,f⟩:=x
 cases f<;>exact⟨fun μ=>rfl,fun a b=>by
  simp only[encK2,ql,qt,or_false]at b;rcases b with rfl | rfl | rfl | rfl | rfl | rfl<;>trivial⟩
theorem z8b(l:List Cel):(l.map fun c=>(c,false)).map encK2=l.map encK:=by rw[ji];rfl
theorem z3b{t c:Nat}(l:List Cel)(ρ:Rho)(o:Obj)(h:(SB.arr t 6 ((l.map fun c=>(c,true)).map encK2) c).ok ρ o):(SB.arr t 6 (l.map encK) c).ok ρ o:=by
 refine zsa (by simp) ?_ ?_ ρ o h
 ·intro z a;obtain⟨u,_,rfl⟩:=jj.1 a;rfl
 ·intro ρ;rw[ji,qbv,qbv,ji,ji];rfl
theorem z7i{K:List Cel}(b:ascF K=true){i:Nat}(a:i < K.length):∀j (h:j < K.length),j < i->¬((K[j]'h).row=(K[i]'a).row/\(K[j]'h).col=(K[i]'a).col):=by
 intro j h c;have:=List.pairwise_iff_getElem.1 (zsb K b) j i h a c;unfold ltC at this;simp only[qak,qd,decide_eq_true_eq]at this;omega
theorem rw_K2(μ:Mu)(a:Cel)(r:List Cel)(q:Bool)(t c:Nat):subE (some ((rwE q t 6 encK c (a::r)).ren μ)) (rwE q t 6 encK2 c ((a,false)::r.map fun c=>(c,false))):=by
 rw[zv1 zad];exact⟨rfl,congrArg (fun L=>SB.arr t 6 L c) (z8b (a::r)).symm⟩
theorem zms{f e:Bool}{b d c' l k:Nat}{w:Int}{s:List UInt8}:(Ent.one (.cells 41 [.slice f 2 0 0 2 l d,.slice e 0 b 0 6 k c',.int .i64 w,.str s])).below 5:=by
 intro a c;simp only[ql,qt,or_false]at c;rcases c with rfl | rfl | rfl | rfl
 ·exact .inr (by omega)
 ·exact .inr (by omega)
 ·trivial
 ·trivial
theorem swK2{t c:Nat}{l:List (Cel×Bool)}{A:List Cel}(h:l=A.map fun c=>(c,true))(ρ:Rho)(o:Obj)(g:(SB.arr t 6 (l.map encK2) c).ok ρ o):(SB.arr t 6 (A.map encK) c).ok ρ o:=by
 subst h;exact z3b A ρ o g
theorem zn6{F:Fz}{b f:Bool}{c d e a:Nat}{L:List DLn}{K:List Cel}{w:Int}{s:List UInt8}(j:b=true->L=[])(h:b=false->F c=some (.arr 148 2 (L.map encN) e))(g:Sl F 151 6 encK (.slice f 0 d 0 6 K.length a) K)(i:K.length<=a):
  DocAt F (.slice b 0 c 0 2 L.length e) (.slice f 0 d 0 6 K.length a) ⟨L,K,w,s⟩:=⟨b,c,0,e,f,d,0,a,rfl,rfl,sl_of j h,g,i⟩
def allV(o:List Int):Bool:=o.all fun n=>inR n (-1000000) 1000000
theorem z6t{V:List Int}{k:Nat}(h:k < V.length)(g:¬(-1000000<=V[k]/\V[k]<=1000000)):allV V=false:=by
 rw[allV];refine qc3.2 fun h1=>g ?_
 exact inRW.1 (qo.1 h1 _ (qz h))
theorem inAll{V:List Int}{k:Nat}(a:∀j (_:j < k),∀g:j < V.length,inR (V[j]'g) (-1000000) 1000000=true)(h:k < V.length)(b:-1000000<=V[k])(c:V[k]<=1000000):∀j (_:j < k+1),∀g:j < V.length,inR (V[j]'g) (-1000000) 1000000=true:=by
 intro j d g;rcases qcb j k with h1 | h1
 ·exact a j h1 g
 ·obtain rfl:j=k:=by omega
  exact inRW.2 ⟨b,c⟩
abbrev gone3:List (Nat×Ent):=[(1,.gone),(2,.gone),(3,.gone)]
theorem zy8(F:Fz)(l M:Bool)(d m:Nat)(L:List DLn)(K:List Cel)(w:Int)(s:List UInt8)(an:l=true->L=[])(ag:M=true->K=[])(hd:docOk ⟨L,K,w,s⟩=true)(ah:DcSmall ⟨L,K,w,s⟩):
  Ct Tryz.prog 95 [.va (.ptr ⟨1,0,0,0,0⟩)] F (hpL l M d m L K w s) 4
   (fun o _ h0 n0=>n0=4/\((allV (valsF K)=true/\o=.ret (.va (.bool true))/\h0=hpL l M d m L (frzR K (valsF K)) w s)\/(allV (valsF K)=false/\o=.ret (.va (.bool false))/\h0=gone3))):=by
 obtain⟨V,hV⟩:∃V,valsF K=V:=⟨_,rfl⟩
 have G:V.length=K.length:=by rw[<-hV];exact zdp K
 rw[hV];obtain⟨A,hA⟩:∃A,frzR K V=A:=⟨_,rfl⟩
 have E:A.length=K.length:=by rw[<-hA,frzR,qa,qab];omega
 have ak:∀k (h:k < K.length),A[k]'(by omega)=⟨(K[k]'h).row,(K[k]'h).col,false,V[k]'(by omega),0,0⟩:=fun k h=>by
  subst hA;simp[frzR,frzC]
 rw[hA];have B:=(zbk hd).asc;have U:K.length<=1000:=ah.c;have Y:=fun F1=>zwu F1 M m K ag U
 have D:=fun F1 a b (hD:DocAt F1 a b ⟨L,K,w,s⟩) i (hi:i < K.length) v hv=>z6b F1 a b ⟨L,K,w,s⟩ hD ah hd (K[i]'hi).row (K[i]'hi).col i hi ⟨rfl,rfl⟩ (z7i B hi) v hv
 have ai:valsF (Dc.cells ⟨L,K,w,s⟩)=V:=hV;rw[ai]at D;clear ai hV hA B hd;rcases K with _ | ⟨a0,ar⟩
 ·obtain rfl:A=[]:=ju E;obtain rfl:V=[]:=ju G;refine ct_of hΘ Tryz.func95 rfl (by decide) _ _ rfl rfl rfl ?_;refine use (Y F) [(1,3)] rfl ⟨⟨rfl,rfl,rfl,.inr ⟨rfl,rfl,rfl,rfl⟩⟩,tv⟩ rfl ⟨zan zad _ _ _ _ _ _,tv⟩ (by simp[SV.below,SA.below]) ⟨zar zad (zao _ _ _ _ _),tv⟩ ?_;rintro aj F1 x0 n0 l1 ⟨rfl,q',b,c',rfl,hS,hc,rfl⟩;conv=>whnf
  refine zam hΘ (X:=Unit) (fun x=>[(22,.va (.int .i64 0))]) (2::4::5::6::7::jr 23 40 [])
   (fun x=>[(0,.frz F1),(1,docL l M L.length d 0 m w s),(2,rwE l 148 2 encN d L),(3,rwE M 151 6 encK m [])]) 5 (fun x=>0) ()
   (fun Q R=>leI [] Q R rfl ⟨tv,za6 (by omega) _ _ _ _ _ _ _ _,zan zal _ _ _ _ _ _,zan zad _ _ _ _ _ _,tv⟩ ⟨rfl,tv⟩ ⟨Fz.r F1,rfl,zar zal (zao _ _ _ _ _),zc9 zad,tv⟩) ?_
  rintro⟨⟩ Q R;refine brd (by decide) ?_;exact clean [] (.ret (.va (.bool true))) F1 (hpL l M d m L [] w s) 4 ⟨l1,rfl,.inl ⟨rfl,rfl,rfl⟩⟩ (zah _) rfl rfl trivial (zb4 (by omega) _ _ _ _ _ _ _ _) ⟨Fz.r F1,rfl,zar zal (zao _ _ _ _ _),zar zad (zao _ _ _ _ _),tv⟩
 ·obtain rfl:=zdu ag;refine ct_of hΘ Tryz.func95 rfl (by decide) _ _ rfl rfl rfl ?_;refine use (Y F) [(1,3)] rfl ⟨⟨rfl,rfl,rfl,.inr ⟨rfl,rfl,rfl,rfl⟩⟩,tv⟩ rfl ⟨zan zad _ _ _ _ _ _,tv⟩ (by simp[SV.below,SA.below]) ⟨zar zad (zao _ _ _ _ _),tv⟩ ?_;rintro aj F1 x0 n0 l1 ⟨rfl,q',b,c',rfl,hS,hc,rfl⟩;conv=>whnf
  refine zam hΘ (X:={ y:Nat×(Cel×Bool)×List (Cel×Bool) // y.1<=ar.length+1/\(∀j (h:j < y.1),∀g:j < V.length,inR (V[j]'g) (-1000000) 1000000=true)/\y.2.1::y.2.2=mxl (A.map fun c=>(c,true)) ((a0::ar).map fun c=>(c,false)) y.1 }) (fun y=>[(22,.va (.int .i64 y.1.1))]) (2::4::5::6::7::jr 23 40 [])
   (fun y=>[(0,.frz F1),(1,docL l false L.length d (ar.length+1) m w s),(2,rwE l 148 2 encN d L),(3,rwE false 151 6 encK2 m (y.1.2.1::y.1.2.2)),(4,.one (.cells 41 [.slice l 2 0 0 2 L.length d,.slice q' 0 b 0 6 (ar.length+1) c',.int .i64 w,.str s]))]) 5 (fun y=>ar.length+1 - y.1.1)
   ⟨(0,(a0,false),ar.map fun c=>(c,false)),jo _,fun j h=>absurd h (qb5 j),(zgj _ _).symm⟩
   (fun Q R=>leI [] Q R rfl ⟨tv,za6 (by omega) _ _ _ _ _ _ _ _,zan zal _ _ _ _ _ _,zan zka _ _ _ _ _ _,zms,tv⟩ ⟨rfl,tv⟩ ⟨Fz.r F1,rfl,zar zal (zao _ _ _ _ _),zar zka (rw_K2 _ _ _ _ _ _),rfl,tv⟩) ?_
  rintro⟨⟨k,a1,r1⟩,hk,u,q⟩ Q R;replace hk:k<=ar.length+1:=hk;replace u:∀j (h:j < k),∀g:j < V.length,inR (V[j]'g) (-1000000) 1000000=true:=u;replace q:a1::r1=mxl (A.map fun c=>(c,true)) ((a0::ar).map fun c=>(c,false)) k:=q;have p:(A.map fun c=>(c,true)).length=((a0::ar).map fun c=>(c,false)).length:=by rw[qa,qa,E]
  have T:((a0::ar).map fun c=>(c,false)).length=ar.length+1:=by rw[qa];rfl
  by_cases g:k < ar.length+1
  ·have gi:(k:Int) < ((ar.length+1:Nat):Int):=by omega
   have Z:ar.length+1 - (k+1) < ar.length+1 - k:=by omega
   have ac:k < 4611686018427387904:=by have:ar.length+1<=1000:=U;omega
   have g2:k < ((a0::ar).map fun c=>(c,false)).length:=by rw[T];exact g
   have f:=zli (e:=encK2) p g2 q;have af:=fun x=>zgi (e:=encK2) (x:=x) p g2 q
   rw[yt]at f;have S:=ak k g;have O:k < V.length:=by rw[G];exact g
   have J:=fun F1 a b hD=>D F1 a b hD k g (V[k]'O) (qc O)
   have h2:=zgh (a0:=(a0,false)) (ar:=ar.map fun c=>(c,false)) p (k+1);obtain⟨a2,r2,am⟩:=h2;have ae:a2::r2=mxl (A.map fun c=>(c,true)) ((a0::ar).map fun c=>(c,false)) (k+1):=am;rw[<-ae]at af;have ao:[SA.int .i64 ((a0::ar)[k]'g).row,.int .i64 ((a0::ar)[k]'g).col,.lit false,.int .i64 (V[k]'O),.int .i64 0,.int .i64 0]=encK2 ((A.map fun c=>(c,true))[k]'(by rw[p];exact g2)):=by rw[yt,S];rfl
   refine bri gi ⟨rfl,⟨js k,gi⟩,?_⟩;refine drawP hΘ mixed (lk [0,1,2,3,4,5,6,7,8] (.alt 9 (lk [10,11,12,13,14] .done) .nil)) [3,4] (by kernel_rfl) ⟨rfl,rfl,rfl,_,f,rfl,rfl,_,f,?_⟩;refine lend 2 (fun _=>.arr 148 2 (L.map encN) d) rfl rfl rfl (fun _ _=>by exact zcc zal rfl _ _ _ _) (fun _ _=>zat zal _ _ _ _ _) ?_;intro bl F2 l2 al;refine useFo (J F2 (.slice l 0 (bl 0) 0 2 L.length d) (.slice q' 0 b 0 6 (ar.length+1) c') (zn6 an (fun h=>al 0 ⟨by rw[h];rfl,rfl⟩) (hS.mono l2) hc)) rfl ⟨rfl,rfl,rfl,tv⟩ rfl ?_;rintro _ F3 l3 rfl;refine⟨F3,rfl,l3,rfl,Fz.r F1,rfl,rfl,fun g1=>?_,fun g1=>?_⟩
   ·refine br (fun g3=>?_) (fun g3=>?_)
    ·exact clean [] (.ret (.va (.bool false))) F1 gone3 4 ⟨l1,rfl,.inr ⟨z6t O (fun h=>absurd (od g3) (qcg.2 h.2)),rfl,rfl⟩⟩ (zah _) rfl rfl trivial ⟨tv,tv,tv,tv⟩ ⟨Fz.r F1,tv⟩
    ·have ab:=inAll u O (qcg.1 (oe g1)) (qcg.1 (oe g3));refine drawP hΘ mixed (lk [0,1,2,3,4,5,6,7,8,9] (.alt 10 (.look 11 (.last 12 .done)) .nil)) [3] (by kernel_rfl) ⟨rfl,rfl,_,f,rfl,rfl,_,f,Fz.r F1,rfl,rfl,_,f,?_⟩
     exact⟨⟨(k+1,a2,r2),g,ab,ae⟩,Z,leR [] Q R rfl ⟨tv,za6 (by omega) _ _ _ _ _ _ _ _,zan zal _ _ _ _ _ _,zan zka _ _ _ _ _ _,zms,tv⟩ ⟨cnt ac,tv⟩
      ⟨Fz.r F1,rfl,zar zal (zao _ _ _ _ _),zar zka (rw_op rfl (af _ ao)),rfl,tv⟩⟩
   ·exact clean [] (.ret (.va (.bool false))) F1 gone3 4 ⟨l1,rfl,.inr ⟨z6t O (fun h=>absurd (od g1) (qcg.2 h.1)),rfl,rfl⟩⟩ (zah _) rfl rfl trivial ⟨tv,tv,tv,tv⟩ ⟨Fz.r F1,tv⟩
  ·have gi:¬(k:Int) < ((ar.length+1:Nat):Int):=by omega
   have ad:k=ar.length+1:=by omega
   have aa:a1::r1=A.map fun c=>(c,true):=by
    rw[q,show k=((a0::ar).map fun c=>(c,false)).length by rw[T];exact ad,zhu p]
   have W:allV V=true:=by
    rw[allV,qo];intro n hn;obtain⟨j,hj,rfl⟩:=qdn.1 hn;exact u j (by rw[ad];exact Nat.lt_of_lt_of_eq hj G) hj
   have I:docB l false L.length d (ar.length+1) m w s=(docB l false L.length d A.length m w s).ren (sig []):=by rw[E];rfl
   refine brj gi ?_;refine yb9 3 (.arr 151 6 (A.map encK) m) rfl (swK2 aa) (zat zad _ _ _ _ _) ?_;exact clean [] (.ret (.va (.bool true))) F1 (hpL l false d m L A w s) 4 ⟨l1,rfl,.inl ⟨W,rfl,rfl⟩⟩ (zah _) rfl rfl trivial (zb4 (by omega) _ _ _ _ _ _ _ _) ⟨Fz.r F1,I,zar zal (zao _ _ _ _ _),zar zad (zao _ _ _ _ _),tv⟩
def lin1(a:List Kp)(d:Dc):List DLn:=d.lines.map fun l=>((lineR (zak 1 a) (zak 2 a) l).1,l.2)
theorem zkl{p:Int}(a:1<=p/\p<=8){t:List Stp}(c:za8 p t=true){d e:Dc}(b:docOk d=true)(h:runS t (zb9 p d)=zb9 p e):(zdf p t (propB p d)).1=propB p e:=by
 rw[zhg a,zks c (zgy a b),h,<-zhg a]
theorem zp8{L:List DLn}(h:L.all dlnOk=true):(∀l∈L,l.1.length<=65536)/\∀l∈L,okI l.2:=by
 refine⟨fun l a=>?_,fun l a=>?_⟩
 all_goals
  have:=qo.1 h l a;unfold dlnOk at this;simp only[qd,decide_eq_true_eq,inRW]at this
 ·omega
 ·exact zdk (by omega)
theorem zx6{K:List Cel}(h:∀c∈K,celOk c=true):∀c∈K,okI c.row/\okI c.col/\okI c.value:=by
 intro c b;have:=h c b;unfold celOk at this;simp only[qd,inRW]at this;refine⟨zdk (by omega),zdk (by omega),?_⟩;cases a:c.sum with
 |true=>
  rw[a]at this;simp only[if_true,qd,decide_eq_true_eq]at this;exact zdk (by omega)
 |false=>
  rw[a]at this;simp only[jw,if_false,qd,decide_eq_true_eq,inRW]at this;exact zdk (by omega)
theorem z2l{c:Cel}(h:c.sum=false):(⟨c.row,c.col,false,0,c.top,c.left⟩:Cel)={ c with value:=0 }:=by
 obtain⟨a,b,s,v,t,l⟩:=c;replace h:s=false:=h;subst h;rfl
section
variable (F:Fz) (hM:MLF F) (sk:SA) (m:Mig) (a1 b1:SA) (d:Dc) (hk:KpsAt F sk m.keep) (hks:short m.keep) (hkl:m.keep.length < 1000000) (hko:m.keep.all zbf=true) (hD:DocAt F a1 b1 d) (hsm:DcSmall d) (hd:docOk d=true) (q1 q2:Bool) (c1 c2:Nat)
include hM hk hks hkl hko hD hsm hd
theorem yak(c:q1=true->d.lines=[]):Ct Tryz.prog 88 [.agg (migS m sk),.agg (docS a1 b1 d.w d.bits),.va (.int .i64 1),.va (.fn (.func 89) [⟨1,0,0,0,0⟩])] F (hpL q1 q2 c1 c2 d.lines d.cells d.w d.bits) 4 (finL q1 q2 c1 c2 (lin1 m.keep d) d.cells d.w d.bits):=by
 have g:=zbq hko (p:=1) (by omega);have j:=zbq hko (p:=2) (by omega);refine zif F hM sk m 1 (by omega) _ a1 b1 d hk hks hkl hD hsm hd q1 q2 c1 c2 d.lines _ d.cells _ d.w _ d.bits _ (fun e=>⟨?_,rfl,rfl,rfl⟩) (fun e F1=>?_) (fun _ e F1=>?_)
 ·rw[lin1,e]
  conv=>rhs;rw[<-qc5 d.lines]
  exact jk fun l _=>rfl
 ·refine z5b F1 q1 q2 c1 c2 d.lines _ d.cells d.w d.bits c hsm.l ?_;rw[lin1,e];exact jk fun l _=>rfl
 ·have i:=zoj g.1 j.1 hd;have o:=zkl (p:=1) (by omega) g.2.1 hd (val1 g.1 j.1 hd e d.cells d.w d.bits)
  have s:docOk ⟨d.lines.map (lineR (zak 1 m.keep) (zak 2 m.keep)),d.cells,d.w,d.bits⟩=true:=by
   have h:=zbk hd;exact zh8 (by rw[qa];exact h.lines) h.cells h.asc i h.cel h.ras
  have a:=zc0 (p:=1) s;have f:(d.lines.map (lineR (zak 1 m.keep) (zak 2 m.keep))).length<=1000:=by rw[qa];exact hsm.l
  have b:propB 1 ⟨d.lines.map (lineR (zak 1 m.keep) (zak 2 m.keep)),d.cells,d.w,d.bits⟩=ptext (d.lines.map (lineR (zak 1 m.keep) (zak 2 m.keep))):=rfl;rw[o,b];rw[b]at a;obtain⟨q,u,n,x⟩:=z1o f (zp8 i).1 (by omega);refine z5c F1 q1 q2 c1 c2 d.lines _ d.cells d.w d.bits _ q _ c hsm.l (by rw[lin1,qa]) (by omega) u n fun k h=>?_
  have:=x k (by rw[qa];exact h);simp only[yt]at this;simp only[lin1,yt];exact⟨this,tv⟩
theorem yal(f:q1=true->lin1 m.keep d=[]):Ct Tryz.prog 88 [.agg (migS m sk),.agg (docS a1 b1 d.w d.bits),.va (.int .i64 2),.va (.fn (.func 92) [⟨1,0,0,0,0⟩])] F (hpL q1 q2 c1 c2 (lin1 m.keep d) d.cells d.w d.bits) 4 (finL q1 q2 c1 c2 (midD m.keep d).lines d.cells d.w d.bits):=by
 have n:=zbq hko (p:=1) (by omega);have i:=zbq hko (p:=2) (by omega);have a:(lin1 m.keep d).length<=1000:=by rw[lin1,qa];exact hsm.l
 refine zif F hM sk m 2 (by omega) _ a1 b1 d hk hks hkl hD hsm hd q1 q2 c1 c2 (lin1 m.keep d) _ d.cells _ d.w _ d.bits _ (fun e=>⟨?_,rfl,rfl,rfl⟩) (fun e F1=>?_) (fun _ e F1=>?_)
 ·rw[lin1,midD,e];exact jk fun l _=>rfl
 ·refine z5d F1 q1 q2 c1 c2 _ _ d.cells d.w d.bits f a ?_;rw[lin1,midD,e,ji];exact jk fun l _=>rfl
 ·have j:=zoj n.1 i.1 hd;have s:=zkl (p:=2) (by omega) i.2.1 hd (val2 n.1 i.1 hd e d.cells d.w d.bits)
  have u:docOk ⟨d.lines.map (lineR (zak 1 m.keep) (zak 2 m.keep)),d.cells,d.w,d.bits⟩=true:=by
   have h:=zbk hd;exact zh8 (by rw[qa];exact h.lines) h.cells h.asc j h.cel h.ras
  have b:=zc0 (p:=2) u;have g:(d.lines.map (lineR (zak 1 m.keep) (zak 2 m.keep))).length<=1000:=by rw[qa];exact hsm.l
  have c:propB 2 ⟨d.lines.map (lineR (zak 1 m.keep) (zak 2 m.keep)),d.cells,d.w,d.bits⟩=pmot (d.lines.map (lineR (zak 1 m.keep) (zak 2 m.keep))):=rfl;rw[s,c];rw[c]at b;obtain⟨q,x,o,y⟩:=zz4 g (zp8 j).2 (by omega);refine z5e F1 q1 q2 c1 c2 _ _ d.cells d.w d.bits _ q _ f a (by rw[lin1,midD,qa,qa]) (by omega) x o fun k h=>?_
  have:=y k (by rw[qa];rw[lin1,qa]at h;exact h);simp only[yt]at this;simp only[lin1,midD,yt];exact⟨this,tv⟩
theorem yam(i:q2=true->d.cells=[]):Ct Tryz.prog 88 [.agg (migS m sk),.agg (docS a1 b1 d.w d.bits),.va (.int .i64 3),.va (.fn (.func 93) [⟨1,0,0,0,0⟩])] F (hpL q1 q2 c1 c2 (midD m.keep d).lines d.cells d.w d.bits) 4 (finL q1 q2 c1 c2 (midD m.keep d).lines (midD m.keep d).cells d.w d.bits):=by
 have u:=zbq hko (p:=3) (by omega);refine zif F hM sk m 3 (by omega) _ a1 b1 d hk hks hkl hD hsm hd q1 q2 c1 c2 _ _ d.cells _ d.w _ d.bits _ (fun e=>⟨rfl,?_,rfl,rfl⟩) (fun e F1=>?_) (fun _ e F1=>?_)
 ·rw[midD,e]
  conv=>rhs;rw[<-qc5 d.cells]
  exact jk fun c _=>zpz c
 ·refine z5f F1 q1 q2 c1 c2 _ d.cells _ d.w d.bits i hsm.c (by rw[midD,qa]) fun k h=>?_
  simp only[midD,yt,e];unfold cellR;split
  ·rfl
  ·rename_i s;have s:(d.cells[k]).sum=false:=by simpa using s
   rw[if_pos rfl];exact z2l s
 ·have n:=cells_ok u.1 hd;have M:=zkl (p:=3) (by omega) u.2.1 hd (val3 u.1 hd e d.lines d.w d.bits)
  have O:docOk ⟨d.lines,d.cells.map (cellR (zak 3 m.keep)),d.w,d.bits⟩=true:=by
   have h:=zbk hd;exact zh8 h.lines (by rw[qa];exact h.cells) n.1 (qo.2 h.ln) n.2 h.ras
  have f:=zc0 (p:=3) O;have o:(d.cells.map (cellR (zak 3 m.keep))).length<=1000:=by rw[qa];exact hsm.c
  have g:propB 3 ⟨d.lines,d.cells.map (cellR (zak 3 m.keep)),d.w,d.bits⟩=zcs false (d.cells.map (cellR (zak 3 m.keep))):=rfl;rw[M,g];rw[g]at f;obtain⟨q,z,Q,L,R⟩:=zx5 o (zx6 n.2) (by omega);refine z5g F1 q1 q2 c1 c2 _ d.cells _ d.w d.bits _ q z i hsm.c (by rw[midD,qa]) (by omega) Q L fun k h=>?_
  have:=R k (by rw[qa];exact h);simp only[yt]at this;simp only[midD,yt];obtain⟨x,y,A,B,D,E⟩:=zdi (zak 3 m.keep) d.cells[k];rw[x,y,A]at this;rcases this with⟨j,l⟩ | ⟨j,a,b,l,G,I,J,K⟩
  ·exact .inl ⟨j,l,E j⟩
  ·refine .inr ⟨j,a,b,_,l,G,I,J,K,?_⟩;have S:cellR (zak 3 m.keep) d.cells[k]=⟨(cellR (zak 3 m.keep) d.cells[k]).row,(cellR (zak 3 m.keep) d.cells[k]).col,(cellR (zak 3 m.keep) d.cells[k]).sum,(cellR (zak 3 m.keep) d.cells[k]).value,(cellR (zak 3 m.keep) d.cells[k]).top,(cellR (zak 3 m.keep) d.cells[k]).left⟩:=rfl;rw[S,x,y,A,B,D]
theorem yan(L:List DLn)(K:List Cel):Ct Tryz.prog 88 [.agg (migS m sk),.agg (docS a1 b1 d.w d.bits),.va (.int .i64 7),.va (.fn (.func 96) [⟨1,0,0,0,0⟩])] F (hpL q1 q2 c1 c2 L K d.w d.bits) 4 (finL q1 q2 c1 c2 L K (rasV (zak 7 m.keep) d).w (rasV (zak 7 m.keep) d).bits):=by
 have j:=zbq hko (p:=7) (by omega);have f:=z0o j.1 hd;refine zif F hM sk m 7 (by omega) _ a1 b1 d hk hks hkl hD hsm hd q1 q2 c1 c2 L _ K _ d.w _ d.bits _ (fun e=>⟨rfl,rfl,?_,?_⟩) (fun e F1=>?_) (fun _ e F1=>?_)
 ·rw[e];rfl
 ·rw[e];rfl
 ·rw[e];exact z5h F1 q1 q2 c1 c2 L K d.w d.bits
 ·have q:=zkl (p:=7) (e:=⟨[],[],(rasV (zak 7 m.keep) d).w,(rasV (zak 7 m.keep) d).bits⟩) (by omega) j.2.1 hd (f.2 e).1;have g:∀w s,propB 7 ⟨[],[],w,s⟩=zae [w,hgt w s]++(putSR s).1:=fun _ _=>rfl
  obtain⟨i,y,A,B⟩:=zio f.1;rw[q,g];generalize rasV (zak 7 m.keep) d=v at i y A B;have h:0<=hgt v.w v.bits/\hgt v.w v.bits<=32:=by omega
  have D:v.bits.length<=2000:=by
   have h1:v.w*hgt v.w v.bits<=32*32:=qbq i.2 h.2 h.1 (by omega);omega
  have x:=za4 [v.w,hgt v.w v.bits]
  have E:(putSR v.bits).1.length<=70000:=by
   have:=zdm v.bits;omega
  obtain⟨a,b,c,u,ib,k,l,o⟩:=z0p (zdk (n:=v.w) (by omega)) (zdk (n:=hgt v.w v.bits) (by omega)) (s:=v.bits) (by omega);refine z5i F1 q1 q2 c1 c2 L K d.w v.w _ d.bits v.bits _ a b c ?_ u ib k l o;rw[qb];simp only[qf,qu]at x;omega
end
def runX(m:Mig)(d:Dc):Option Dc:=if migOk m=true/\docOk d=true then runD m.keep d else none
def docZ:List SA:=[.nilsl,.nilsl,.int .i64 0,.str []]
abbrev RunK(m:Mig)(d:Dc):Out->Fz->Prop:=fun o c=>(runX m d=none/\o=.ret (.tup [.agg docZ,.va (.int .i64 90)]))\/(∃e a b,runX m d=some e/\o=.ret (.tup [.agg (docS a b e.w e.bits),.va (.int .i64 0)])/\DocAt c a b e)
theorem zfq(m:Mig)(sk c d:SA)(w:Int)(s:List UInt8)(p:Int)(g:FuncId)(h1:c.z=true)(k:d.z=true)(l:sk.z=true):∀t∈[SV.agg (migS m sk),.agg (docS c d w s),.va (.int .i64 p),.va (.fn (.func g) [⟨1,0,0,0,0⟩])],SV.below 4 t:=by
 intro t f;have h:=SA.below_mono (show 1<=4 by decide) (SA.z_below h1);have i:=SA.below_mono (show 1<=4 by decide) (SA.z_below k);have j:=SA.below_mono (show 1<=4 by decide) (SA.z_below l);simp only[ql,qt,or_false]at f;rcases f with rfl | rfl | rfl | rfl
 ·intro a b;simp only[ql,qt,or_false]at b;rcases b with rfl | rfl | rfl | rfl | rfl
  ·trivial
  ·trivial
  ·trivial
  ·trivial
  ·exact j
 ·intro a b;simp only[ql,qt,or_false]at b;rcases b with rfl | rfl | rfl | rfl
  ·exact h
  ·exact i
  ·trivial
  ·trivial
 ·trivial
 ·intro p e;simp only[qp]at e;subst e;decide
theorem zoc{α:Type}{e:α->List SA}(a:Plain e){l:List α}(t sz c:Nat)(μ:Mu){ν:Mu}:((SB.arr t sz (l.map e) c).ren ν).ren μ=SB.arr t sz (l.map e) c:=by
 rw[zcc a rfl,zcc a rfl]
theorem zoq{α β:Type}{a:List α}{b:List β}(h:a.length=b.length)(c:b=[]):a=[]:=by
 subst c;exact ju h
theorem zut(K:List Cel):(frzR K (valsF K)).length=K.length:=by rw[frzR,qa,qab,zdp,qdu]
theorem ybv(F:Fz)(hM:MLF F)(sk:SA)(m:Mig)(a1 b1:SA)(d:Dc)(hk:KpsAt F sk m.keep)(y:short m.keep)(u:m.keep.length < 1000000)(hD:DocAt F a1 b1 d)(g:DcSmall d):
  Fo Tryz.prog F 38 [.agg (migS m sk),.agg (docS a1 b1 d.w d.bits)] (RunK m d):=by
 have hv:=zq3 F sk m hk y u;have M:=hk;have U:=hD;obtain⟨an,ab,ae,ac,bn,bb,be,bc,rfl,rfl,hL,hK,az⟩:=hD;obtain⟨kn,kb,ke,kc,kL,kr,rfl,-,-,-,-⟩:=hk;have V:=fun F1 (f:Fz.le F F1)=>zc4 F1 _ _ d (hL.mono f) (hK.mono f) g.l g.c g.b
 by_cases W:migOk m=true
 ·rw[W]at hv;by_cases B:docOk d=true
  ·rw[B]at V
   have x:m.keep.all zbf=true:=by
    simp only[migOk,qd]at W;exact W.2.2.2.2.2
   have hX:runX m d=runD m.keep d:=if_pos ⟨W,B⟩;have ay:=fun F1 (f:Fz.le F F1)=>zyj F1 an ab ae ac d.lines (hL.mono f) g.l
   have ax:=fun F1 (f:Fz.le F F1)=>zyi F1 bn bb be bc d.cells (hK.mono f) g.c
   have e1:(lin1 m.keep d).length=d.lines.length:=by rw[lin1,qa]
   have e2:(midD m.keep d).lines.length=d.lines.length:=by rw[midD,qa]
   have e3:(midD m.keep d).cells.length=d.cells.length:=by rw[midD,qa]
   have aa:=fun F1 (f:Fz.le F F1) k p R S (i:k=true->d.lines=[])=>yak F1 (hM.mono f) _ m _ _ d (KpsAt.up M f) y u x (U.mono f) g B k p R S i
   have E:=fun F1 (f:Fz.le F F1) k p R S (i:k=true->d.lines=[])=>yal F1 (hM.mono f) _ m _ _ d (KpsAt.up M f) y u x (U.mono f) g B k p R S (fun h=>by rw[lin1,i h];rfl)
   have G:=fun F1 (f:Fz.le F F1) k p R S (q:p=true->d.cells=[])=>yam F1 (hM.mono f) _ m _ _ d (KpsAt.up M f) y u x (U.mono f) g B k p R S q
   have I:=fun F1 (f:Fz.le F F1) k p R S L K=>yan F1 (hM.mono f) _ m _ _ d (KpsAt.up M f) y u x (U.mono f) g B k p R S L K
   have ad:docOk ⟨(midD m.keep d).lines,(midD m.keep d).cells,d.w,d.bits⟩=true:=z6r x B;have af:DcSmall ⟨(midD m.keep d).lines,(midD m.keep d).cells,d.w,d.bits⟩:=⟨by show(midD m.keep d).lines.length<=1000;rw[e2];exact g.l,by show(midD m.keep d).cells.length<=1000;rw[e3];exact g.c,g.b⟩
   have al:=fun F1 k p R S (i:k=true->d.lines=[]) (q:p=true->d.cells=[])=>zy8 F1 k p R S (midD m.keep d).lines (midD m.keep d).cells d.w d.bits (fun h=>by rw[midD,i h];rfl) (fun h=>by rw[midD,q h];rfl) ad af
   have av:=fun F1 (f:Fz.le F F1)=>zwg F1 _ m 4 (KpsAt.up M f) y u
   obtain⟨D,ag⟩:∃D,runX m d=D:=⟨_,rfl⟩
   show Fo Tryz.prog F 38 _ (fun o F'=>(runX m d=none/\o=.ret (.tup [.agg docZ,.va (.int .i64 90)]))\/(∃e a b,runX m d=some e/\o=.ret (.tup [.agg (docS a b e.w e.bits),.va (.int .i64 0)])/\DocAt F' a b e));rw[ag];have ar:runD m.keep d=D:=by rw[<-ag,hX]
   obtain⟨L1,au⟩:∃L1,lin1 m.keep d=L1:=⟨_,rfl⟩
   obtain⟨A,ai⟩:∃A,(midD m.keep d).lines=A:=⟨_,rfl⟩
   obtain⟨n,ah⟩:∃n,(midD m.keep d).cells=n:=⟨_,rfl⟩
   obtain⟨Y,ak⟩:∃Y,(rasV (zak 7 m.keep) d).w=Y:=⟨_,rfl⟩
   obtain⟨X,aj⟩:∃X,(rasV (zak 7 m.keep) d).bits=X:=⟨_,rfl⟩
   have J:(¬0 < (zak 4 m.keep).length->D=some ⟨A,n,Y,X⟩)/\(0 < (zak 4 m.keep).length->D=if allV (valsF n)=true then some ⟨A,frzR n (valsF n),Y,X⟩else none):=by
    rw[<-ar,<-ai,<-ah,<-ak,<-aj];exact⟨fun h=>if_neg h,fun h=>if_pos h⟩
   rw[au]at aa E e1;rw[ai]at E G e2 al;rw[ah]at G e3 al;rw[ak,aj]at I;obtain⟨T,hT⟩:∃T,decide (0 < (zak 4 m.keep).length)=T:=⟨_,rfl⟩
   rw[hT]at av;clear ar hX ag W B ad af x au ai ah ak aj;obtain⟨id,src,aq,Z,ks⟩:=m;obtain⟨L,K,w,s⟩:=d;refine fo_of hΘ Tryz.func38 rfl (by decide) _ _ rfl rfl rfl ?_;refine useFo hv rfl (zaa _) rfl ?_;rintro _ F1 f rfl;refine gae (by decide) ?_;refine usePu (V F1 f) rfl (zaa _) rfl ?_;refine brd (by decide) ?_;refine drawP hΘ mixed (lk [0,1,3,4] (.alt 2 (.alt 5 (.look 6 (.alt 7 (.look 8 (.last 9 .done)) .nil)) .nil) .nil)) [2] (by kernel_rfl) ⟨rfl,rfl,?_⟩;refine use (ay F1 f) [] rfl ⟨⟨rfl,rfl,rfl,.inr ⟨rfl,rfl,rfl,rfl⟩⟩,tv⟩ rfl trivial (by simp[SV.below,SA.below]) trivial ?_;rintro j F2 x0 n0 u2 ⟨rfl,rfl,k,O,i,a0,rfl,rfl⟩;refine⟨Fz.r F1,rfl,?_⟩;refine use (ax F1 f) [] rfl ⟨⟨rfl,rfl,rfl,.inr ⟨rfl,rfl,rfl,rfl⟩⟩,tv⟩ rfl trivial (by simp[SV.below,SA.below]) trivial ?_;rintro j F2 x0 n0 u2 ⟨rfl,rfl,p,Q,q,aw,rfl,rfl⟩;refine⟨Fz.r F1,rfl,Fz.r F1,rfl,?_⟩;refine use (aa F1 f k p O Q i) [(1,5),(2,6),(3,7)] rfl ⟨rfl,rfl,rfl,rfl,tv⟩ rfl (zb4 (by omega) _ _ _ _ _ _ _ _) (zfq _ _ _ _ _ _ _ _ rfl rfl rfl) ⟨rfl,zc9 zal,zc9 zad,tv⟩ ?_;rintro j F2 x0 n0 u2 ⟨rfl,rfl,rfl⟩;conv=>whnf
   have l2:=Fz.t f u2;refine use (E F2 l2 k p O Q i) [(1,5),(2,6),(3,7)] rfl ⟨rfl,rfl,rfl,rfl,tv⟩ rfl (zb4 (by omega) _ _ _ _ _ _ _ _) (zfq _ _ _ _ _ _ _ _ rfl rfl rfl) ⟨rfl,zc9 zal,zc9 zad,tv⟩ ?_;rintro j F3 x0 n0 u3 ⟨rfl,rfl,rfl⟩;conv=>whnf
   have l3:=Fz.t l2 u3;refine use (G F3 l3 k p O Q q) [(1,5),(2,6),(3,7)] rfl ⟨rfl,rfl,rfl,rfl,tv⟩ rfl (zb4 (by omega) _ _ _ _ _ _ _ _) (zfq _ _ _ _ _ _ _ _ rfl rfl rfl) ⟨rfl,zc9 zal,zc9 zad,tv⟩ ?_;rintro j F4 x0 n0 u4 ⟨rfl,rfl,rfl⟩;conv=>whnf
   have l4:=Fz.t l3 u4;refine useFo (av F4 l4) rfl (zaa _) rfl ?_;rintro _ F5 u5 rfl;have l5:=Fz.t l4 u5;refine⟨fun gT=>?_,fun gT=>?_⟩
   ·refine use (al F5 k p O Q i q) [(1,5),(2,6),(3,7)] rfl ⟨rfl,tv⟩ rfl (zb4 (by omega) _ _ _ _ _ _ _ _) (by simp[SV.below,SA.below]) ⟨rfl,zc9 zal,zc9 zad,tv⟩ ?_;rintro j F6 x0 n0 u6 ⟨rfl,⟨am,rfl,rfl⟩ | ⟨am,rfl,rfl⟩⟩
    ·have l6:=Fz.t l5 u6;have hD:=(J.2 (od (hT.trans gT))).trans (if_pos am);refine brd (by decide) ?_;refine use (I F6 l6 k p O Q A (frzR n (valsF n))) [(1,5),(2,6),(3,7)] rfl ⟨rfl,rfl,rfl,rfl,tv⟩ rfl (zb4 (by omega) _ _ _ _ _ _ _ _) (zfq _ _ _ _ _ _ _ _ rfl rfl rfl) ⟨rfl,zc9 zal,zc9 zad,tv⟩ ?_;rintro j F8 x0 n0 u8 ⟨rfl,rfl,rfl⟩;refine zbc 6 (fun _=>.arr 148 2 (A.map encN) O) rfl rfl rfl (fun _ _=>by exact zoc zal _ _ _ _) (fun _ _=>zat zal _ _ _ _ _) ?_;intro z1 F9 u9 ao;refine zbc 7 (fun _=>.arr 151 6 (((frzR n (valsF n))).map encK) Q) rfl rfl rfl (fun _ _=>by exact zoc zad _ _ _ _) (fun _ _=>zat zad _ _ _ _ _) ?_;intro z2 FA uA ap;exact endFo (.ret (.tup [.agg [.slice k 0 (z1 0) 0 2 A.length O,.slice p 0 (z2 0) 0 6 ((frzR n (valsF n))).length Q,.int .i64 Y,.str X],.va (.int .i64 0)])) FA rfl (Fz.t l6 (Fz.t u8 (Fz.t u9 uA))) (Fz.r FA) (.inr ⟨⟨A,(frzR n (valsF n)),Y,X⟩,_,_,hD,rfl,zn6 (fun h=>zoq e2 (i h)) (fun h=>uA _ _ (ao 0 ⟨by rw[h];rfl,rfl⟩)) (sl_of (fun h=>zoq ((zut n).trans e3) (q h)) fun h=>ap 0 ⟨by rw[h];rfl,rfl⟩) (by rw[((zut n).trans e3)];exact aw)⟩) ⟨rfl,rfl,tv⟩ rfl
    ·have l6:=Fz.t l5 u6;have hD:=(J.2 (od (hT.trans gT))).trans (if_neg (by rw[am];decide));refine bre (by decide) ?_;exact endFo (.ret (.tup [.agg docZ,.va (.int .i64 90)])) F6 rfl l6 (Fz.r F6) (.inl ⟨hD,rfl⟩) ⟨rfl,rfl,tv⟩ rfl
   ·have hD:=J.1 (oe (hT.trans gT));refine use (I F5 l5 k p O Q A n) [(1,5),(2,6),(3,7)] rfl ⟨rfl,rfl,rfl,rfl,tv⟩ rfl (zb4 (by omega) _ _ _ _ _ _ _ _) (zfq _ _ _ _ _ _ _ _ rfl rfl rfl) ⟨rfl,zc9 zal,zc9 zad,tv⟩ ?_;rintro j F8 x0 n0 u8 ⟨rfl,rfl,rfl⟩;refine zbc 6 (fun _=>.arr 148 2 (A.map encN) O) rfl rfl rfl (fun _ _=>by exact zoc zal _ _ _ _) (fun _ _=>zat zal _ _ _ _ _) ?_;intro z1 F9 u9 ao;refine zbc 7 (fun _=>.arr 151 6 ((n).map encK) Q) rfl rfl rfl (fun _ _=>by exact zoc zad _ _ _ _) (fun _ _=>zat zad _ _ _ _ _) ?_;intro z2 FA uA ap;exact endFo (.ret (.tup [.agg [.slice k 0 (z1 0) 0 2 A.length O,.slice p 0 (z2 0) 0 6 (n).length Q,.int .i64 Y,.str X],.va (.int .i64 0)])) FA rfl (Fz.t l5 (Fz.t u8 (Fz.t u9 uA))) (Fz.r FA) (.inr ⟨⟨A,n,Y,X⟩,_,_,hD,rfl,zn6 (fun h=>zoq e2 (i h)) (fun h=>uA _ _ (ao 0 ⟨by rw[h];rfl,rfl⟩)) (sl_of (fun h=>zoq e3 (q h)) fun h=>ap 0 ⟨by rw[h];rfl,rfl⟩) (by rw[e3];exact aw)⟩) ⟨rfl,rfl,tv⟩ rfl
  ·have B:docOk d=false:=by simpa using B
   rw[B]at V;have hX:runX m d=none:=if_neg (by rintro⟨_,h⟩;rw[B]at h;cases h);obtain⟨id,src,aq,Z,ks⟩:=m;obtain⟨L,K,w,s⟩:=d;refine fo_of hΘ Tryz.func38 rfl (by decide) _ _ rfl rfl rfl ?_;refine useFo hv rfl (zaa _) rfl ?_;rintro _ F1 f rfl;refine gae (by decide) ?_;refine usePu (V F1 f) rfl (zaa _) rfl ?_;refine bre (by decide) ?_;exact endFo (.ret (.tup [.agg docZ,.va (.int .i64 90)])) F1 rfl f (Fz.r F1) (.inl ⟨hX,rfl⟩) ⟨rfl,rfl,tv⟩ rfl
 ·have W:migOk m=false:=by simpa using W
  rw[W]at hv;have hX:runX m d=none:=if_neg (by rintro⟨h,_⟩;rw[W]at h;cases h);obtain⟨id,src,aq,Z,ks⟩:=m;obtain⟨L,K,w,s⟩:=d;refine fo_of hΘ Tryz.func38 rfl (by decide) _ _ rfl rfl rfl ?_;refine useFo hv rfl (zaa _) rfl ?_;rintro _ F1 f rfl;refine gaf (by decide) ?_;exact endFo (.ret (.tup [.agg docZ,.va (.int .i64 90)])) F1 rfl f (Fz.r F1) (.inl ⟨hX,rfl⟩) ⟨rfl,rfl,tv⟩ rfl
