import Derived.Test.YtfnkamphhpldcaaGreatDoorK41
set_option maxHeartbeats 64000000
namespace Go.Proofs.YtfnkamphhpldcaaGreatDoor
open Go Sx Tryz
set_option maxRecDepth 100000
def encK2(x:Cel×Bool):List SA:=[.int .i64 x.1.row,.int .i64 x.1.col,bif x.2 then .lit x.1.sum else .bool x.1.sum,.int .i64 x.1.value,.int .i64 x.1.top,.int .i64 x.1.left]
theorem lY:Plain encK2:=fun x=>by
 obtain⟨c,f⟩:=x
 cases f<;>exact⟨fun μ=>rfl,fun a b=>by
  simp only[encK2,qh,qq,or_false]at b;rcases b with rfl | rfl | rfl | rfl | rfl | rfl<;>trivial⟩
theorem yaf(l:List Cel):(l.map fun c=>(c,false)).map encK2=l.map encK:=by rw[jq];rfl
theorem A0{t c:Nat}(l:List Cel)(ρ:Rho)(o:Obj)(h:(SB.arr t 6 ((l.map fun c=>(c,true)).map encK2) c).ok ρ o):(SB.arr t 6 (l.map encK) c).ok ρ o:=by
 refine x7 ss ?_ ?_ ρ o h
 ·intro z a;obtain⟨u,_,rfl⟩:=qz.1 a;rfl
 ·intro ρ;rw[jq,qbv,qbv,jq,jq];rfl
theorem Cz{K:List Cel}(b:ascF K=true){i:Nat}(a:i < K.length):∀j (h:j < K.length),j < i->¬((K[j]'h).row=(K[i]'a).row/\(K[j]'h).col=(K[i]'a).col):=by
 intro j h c;have:=List.pairwise_iff_getElem.1 (pI K b) j i h a c;unfold ltC at this;simp only[qah,qd,decide_eq_true_eq]at this;omega
theorem rw_K2(μ:Mu)(a:Cel)(r:List Cel)(q:Bool)(t c:Nat):subE (some ((rwE q t 6 encK c (a::r)).ren μ)) (rwE q t 6 encK2 c ((a,false)::r.map fun c=>(c,false))):=by
 rw[no aC];exact⟨rfl,congrArg (fun L=>SB.arr t 6 L c) (yaf (a::r)).symm⟩
theorem ud{f e:Bool}{b d c' l k:Nat}{w:Int}{s:List UInt8}:(Ent.one (.cells 41 [.slice f 2 0 0 2 l d,.slice e 0 b 0 6 k c',.int .i64 w,.str s])).below 5:=by
 intro a c;simp only[qh,qq,or_false]at c;rcases c with rfl | rfl | rfl | rfl
 ·exact .inr oo
 ·exact .inr oo
 ·trivial
 ·trivial
theorem swK2{t c:Nat}{l:List (Cel×Bool)}{A:List Cel}(h:l=A.map fun c=>(c,true))(ρ:Rho)(o:Obj)(g:(SB.arr t 6 (l.map encK2) c).ok ρ o):(SB.arr t 6 (A.map encK) c).ok ρ o:=by
 subst h;exact A0 A ρ o g
theorem pi{F:Fz}{b f:Bool}{c d e a:Nat}{L:List DLn}{K:List Cel}{w:Int}{s:List UInt8}(j:b=true->L=[])(h:b=false->F c=some (.arr 148 2 (L.map encN) e))(g:Sl F 151 6 encK (.slice f 0 d 0 6 K.length a) K)(i:K.length<=a):
  DocAt F (.slice b 0 c 0 2 L.length e) (.slice f 0 d 0 6 K.length a) ⟨L,K,w,s⟩:=⟨b,c,0,e,f,d,0,a,rfl,rfl,sl_of j h,g,i⟩
def allV(o:List Int):Bool:=o.all fun n=>inR n (-1000000) 1000000
theorem sg{V:List Int}{k:Nat}(h:k < V.length)(g:¬(-1000000<=V[k]/\V[k]<=1000000)):allV V=false:=by
 rw[allV];refine qc7.2 fun h1=>g ?_
 exact inRW.1 (qp.1 h1 _ (qx h))
theorem inAll{V:List Int}{k:Nat}(a:∀j (_:j < k),∀g:j < V.length,inR (V[j]'g) (-1000000) 1000000=true)(h:k < V.length)(b:-1000000<=V[k])(c:V[k]<=1000000):∀j (_:j < k+1),∀g:j < V.length,inR (V[j]'g) (-1000000) 1000000=true:=by
 intro j d g;rcases qcf j k with h1 | h1
 ·exact a j h1 g
 ·obtain rfl:j=k:=by omega
  exact inRW.2 ⟨b,c⟩
abbrev gone3:List (Nat×Ent):=[(1,.gone),(2,.gone),(3,.gone)]
theorem EK(F:Fz)(l M:Bool)(d m:Nat)(L:List DLn)(K:List Cel)(w:Int)(s:List UInt8)(an:l=true->L=[])(ag:M=true->K=[])(hd:docOk ⟨L,K,w,s⟩=true)(ah:DcSmall ⟨L,K,w,s⟩):
  Ct prog 95 [.va (.ptr ⟨1,0,0,0,0⟩)] F (hpL l M d m L K w s) 4
   (fun o _ h0 n0=>n0=4/\((allV (valsF K)=true/\o=.ret (.va (.bool true))/\h0=hpL l M d m L (frzR K (valsF K)) w s)\/(allV (valsF K)=false/\o=.ret (.va (.bool false))/\h0=gone3))):=by
 obtain⟨V,hV⟩:∃V,valsF K=V:=⟨_,rfl⟩
 have G:V.length=K.length:=by rw[<-hV];exact ff K
 rw[hV];obtain⟨A,hA⟩:∃A,frzR K V=A:=⟨_,rfl⟩
 have E:A.length=K.length:=by rw[<-hA,frzR,qa,qao];omega
 have ak:∀k (h:k < K.length),A[k]'oo=⟨(K[k]'h).row,(K[k]'h).col,false,V[k]'oo,0,0⟩:=fun k h=>by
  subst hA;simp[frzR,frzC]
 rw[hA];have B:=(dN hd).asc;have U:K.length<=1000:=ah.c;have Y:=fun F1=>DZ F1 M m K ag U
 have D:=fun F1 a b (hD:DocAt F1 a b ⟨L,K,w,s⟩) i (hi:i < K.length) v hv=>Cj F1 a b ⟨L,K,w,s⟩ hD ah hd (K[i]'hi).row (K[i]'hi).col i hi ⟨rfl,rfl⟩ (Cz B hi) v hv
 have ai:valsF (Dc.cells ⟨L,K,w,s⟩)=V:=hV;rw[ai]at D;clear ai hV hA B hd;rcases K with _ | ⟨a0,ar⟩
 ·obtain rfl:A=[]:=ji E;obtain rfl:V=[]:=ji G;refine ctS func95 ?_;refine useS (Y F) [(1,3)] ⟨aS aC _ _ _ _ _ _,tv⟩ ⟨aJ aC (aO _ _ _ _ _),tv⟩ ?_;rintro aj F1 x0 n0 l1 ⟨rfl,q',b,c',rfl,hS,hc,rfl⟩;conv=>whnf
  refine aH hΘ (X:=Unit) (fun x=>[(22,.va (.int .i64 0))]) (2::4::5::6::7::jr 23 40 [])
   (fun x=>[(0,.frz F1),(1,docL l M L.length d 0 m w s),(2,rwE l 148 2 encN d L),(3,rwE M 151 6 encK m [])]) 5 (fun x=>0) ()
   (fun Q R=>leI [] Q R rfl ⟨tv,cV oo _ _ _ _ _ _ _ _,aS aG _ _ _ _ _ _,aS aC _ _ _ _ _ _,tv⟩ ⟨rfl,tv⟩ ⟨Fz.r F1,rfl,aJ aG (aO _ _ _ _ _),dU aC,tv⟩) ?_
  rintro⟨⟩ Q R;refine brd dd ?_;exact clean [] (.ret (.va (.bool true))) F1 (hpL l M d m L [] w s) 4 ⟨l1,rfl,.inl ⟨rfl,rfl,rfl⟩⟩ (aP _) rfl rfl trivial (dD oo _ _ _ _ _ _ _ _) ⟨Fz.r F1,rfl,aJ aG (aO _ _ _ _ _),aJ aC (aO _ _ _ _ _),tv⟩
 ·obtain rfl:=go ag;refine ctS func95 ?_;refine useS (Y F) [(1,3)] ⟨aS aC _ _ _ _ _ _,tv⟩ ⟨aJ aC (aO _ _ _ _ _),tv⟩ ?_;rintro aj F1 x0 n0 l1 ⟨rfl,q',b,c',rfl,hS,hc,rfl⟩;conv=>whnf
  refine aH hΘ (X:={ y:Nat×(Cel×Bool)×List (Cel×Bool) // y.1<=ar.length+1/\(∀j (h:j < y.1),∀g:j < V.length,inR (V[j]'g) (-1000000) 1000000=true)/\y.2.1::y.2.2=mxl (A.map fun c=>(c,true)) ((a0::ar).map fun c=>(c,false)) y.1 }) (fun y=>[(22,.va (.int .i64 y.1.1))]) (2::4::5::6::7::jr 23 40 [])
   (fun y=>[(0,.frz F1),(1,docL l false L.length d (ar.length+1) m w s),(2,rwE l 148 2 encN d L),(3,rwE false 151 6 encK2 m (y.1.2.1::y.1.2.2)),(4,.one (.cells 41 [.slice l 2 0 0 2 L.length d,.slice q' 0 b 0 6 (ar.length+1) c',.int .i64 w,.str s]))]) 5 (fun y=>ar.length+1 - y.1.1)
   ⟨(0,(a0,false),ar.map fun c=>(c,false)),jx _,fun j h=>absurd h (qb8 j),(gS _ _).symm⟩
   (fun Q R=>leI [] Q R rfl ⟨tv,cV oo _ _ _ _ _ _ _ _,aS aG _ _ _ _ _ _,aS lY _ _ _ _ _ _,ud,tv⟩ ⟨rfl,tv⟩ ⟨Fz.r F1,rfl,aJ aG (aO _ _ _ _ _),aJ lY (rw_K2 _ _ _ _ _ _),rfl,tv⟩) ?_
  rintro⟨⟨k,a1,r1⟩,hk,u,q⟩ Q R;replace hk:k<=ar.length+1:=hk;replace u:∀j (h:j < k),∀g:j < V.length,inR (V[j]'g) (-1000000) 1000000=true:=u;replace q:a1::r1=mxl (A.map fun c=>(c,true)) ((a0::ar).map fun c=>(c,false)) k:=q;have p:(A.map fun c=>(c,true)).length=((a0::ar).map fun c=>(c,false)).length:=by rw[qa,qa,E]
  have T:((a0::ar).map fun c=>(c,false)).length=ar.length+1:=by rw[qa];rfl
  by_cases g:k < ar.length+1
  ·have gi:(k:Int) < ((ar.length+1:Nat):Int):=by omega
   have Z:ar.length+1 - (k+1) < ar.length+1 - k:=by omega
   have ac:k < 4611686018427387904:=by have:ar.length+1<=1000:=U;omega
   have g2:k < ((a0::ar).map fun c=>(c,false)).length:=by rw[T];exact g
   have f:=ic (e:=encK2) p g2 q;have af:=fun x=>gR (e:=encK2) (x:=x) p g2 q
   rw[yv]at f;have S:=ak k g;have O:k < V.length:=by rw[G];exact g
   have J:=fun F1 a b hD=>D F1 a b hD k g (V[k]'O) (qc O)
   have h2:=gQ (a0:=(a0,false)) (ar:=ar.map fun c=>(c,false)) p (k+1);obtain⟨a2,r2,am⟩:=h2;have ae:a2::r2=mxl (A.map fun c=>(c,true)) ((a0::ar).map fun c=>(c,false)) (k+1):=am;rw[<-ae]at af;have ao:[SA.int .i64 ((a0::ar)[k]'g).row,.int .i64 ((a0::ar)[k]'g).col,.lit false,.int .i64 (V[k]'O),.int .i64 0,.int .i64 0]=encK2 ((A.map fun c=>(c,true))[k]'(by rw[p];exact g2)):=by rw[yv,S];rfl
   refine bri gi ⟨rfl,⟨jz k,gi⟩,?_⟩;refine dwS (lk [0,1,2,3,4,5,6,7,8] (.alt 9 (lk [10,11,12,13,14] .done) .nil)) [3,4] ?_;refine⟨rfl,rfl,rfl,_,f,rfl,rfl,_,f,?_⟩;refine lend 2 (fun _=>.arr 148 2 (L.map encN) d) rfl rfl rfl (fun _ _=>by exact cY aG rfl _ _ _ _) (fun _ _=>cF aG _ _ _ _ _) ?_;intro bl F2 l2 al;refine useFt (J F2 (.slice l 0 (bl 0) 0 2 L.length d) (.slice q' 0 b 0 6 (ar.length+1) c') (pi an (fun h=>al 0 ⟨by rw[h];rfl,rfl⟩) (hS.mono l2) hc)) ?_;rintro _ F3 l3 rfl;refine⟨F3,rfl,l3,rfl,Fz.r F1,rfl,rfl,fun g1=>?_,fun g1=>?_⟩
   ·refine br (fun g3=>?_) (fun g3=>?_)
    ·exact clean [] (.ret (.va (.bool false))) F1 gone3 4 ⟨l1,rfl,.inr ⟨sg O (fun h=>absurd (od g3) (qck.2 h.2)),rfl,rfl⟩⟩ (aP _) rfl rfl trivial ⟨tv,tv,tv,tv⟩ ⟨Fz.r F1,tv⟩
    ·have ab:=inAll u O (qck.1 (oe g1)) (qck.1 (oe g3));refine dwS (lk [0,1,2,3,4,5,6,7,8,9] (.alt 10 (.look 11 (.last 12 .done)) .nil)) [3] ?_;refine⟨rfl,rfl,_,f,rfl,rfl,_,f,Fz.r F1,rfl,rfl,_,f,?_⟩
     exact⟨⟨(k+1,a2,r2),g,ab,ae⟩,Z,leR [] Q R rfl ⟨tv,cV oo _ _ _ _ _ _ _ _,aS aG _ _ _ _ _ _,aS lY _ _ _ _ _ _,ud,tv⟩ ⟨cnt ac,tv⟩
      ⟨Fz.r F1,rfl,aJ aG (aO _ _ _ _ _),aJ lY (rw_op rfl (af _ ao)),rfl,tv⟩⟩
   ·exact clean [] (.ret (.va (.bool false))) F1 gone3 4 ⟨l1,rfl,.inr ⟨sg O (fun h=>absurd (od g1) (qck.2 h.1)),rfl,rfl⟩⟩ (aP _) rfl rfl trivial ⟨tv,tv,tv,tv⟩ ⟨Fz.r F1,tv⟩
  ·have gi:¬(k:Int) < ((ar.length+1:Nat):Int):=by omega
   have ad:k=ar.length+1:=by omega
   have aa:a1::r1=A.map fun c=>(c,true):=by
    rw[q,show k=((a0::ar).map fun c=>(c,false)).length by rw[T];exact ad,gX p]
   have W:allV V=true:=by
    rw[allV,qp];intro n hn;obtain⟨j,hj,rfl⟩:=qcn.1 hn;exact u j (by rw[ad];exact Nat.lt_of_lt_of_eq hj G) hj
   have I:docB l false L.length d (ar.length+1) m w s=(docB l false L.length d A.length m w s).ren (sig []):=by rw[E];rfl
   refine brj gi ?_;refine yd1 3 (.arr 151 6 (A.map encK) m) rfl (swK2 aa) (cF aC _ _ _ _ _) ?_;exact clean [] (.ret (.va (.bool true))) F1 (hpL l false d m L A w s) 4 ⟨l1,rfl,.inl ⟨W,rfl,rfl⟩⟩ (aP _) rfl rfl trivial (dD oo _ _ _ _ _ _ _ _) ⟨Fz.r F1,I,aJ aG (aO _ _ _ _ _),aJ aC (aO _ _ _ _ _),tv⟩
def lin1(a:List Kp)(d:Dc):List DLn:=d.lines.map fun l=>((lineR (aE 1 a) (aE 2 a) l).1,l.2)
theorem lQ{p:Int}(a:1<=p/\p<=8){t:List Stp}(c:aN p t=true){d e:Dc}(b:docOk d=true)(h:runS t (bV p d)=bV p e):(dp p t (propB p d)).1=propB p e:=by
 rw[iF a,sU c (jT a b),h,<-iF a]
theorem uZ{L:List DLn}(h:L.all dlnOk=true):(∀l∈L,l.1.length<=65536)/\∀l∈L,okI l.2:=by
 refine⟨fun l a=>?_,fun l a=>?_⟩
 all_goals
  have:=qp.1 h l a;unfold dlnOk at this;simp only[qd,decide_eq_true_eq,inRW]at this
 ·omega
 ·exact fa oo
theorem Ei{K:List Cel}(h:∀c∈K,celOk c=true):∀c∈K,okI c.row/\okI c.col/\okI c.value:=by
 intro c b;have:=h c b;unfold celOk at this;simp only[qd,inRW]at this;refine⟨fa oo,fa oo,?_⟩;cases a:c.sum with
 |true=>
  rw[a]at this;simp only[if_true,qd,decide_eq_true_eq]at this;exact fa oo
 |false=>
  rw[a]at this;simp only[jy,if_false,qd,decide_eq_true_eq,inRW]at this;exact fa oo
theorem AD{c:Cel}(h:c.sum=false):(⟨c.row,c.col,false,0,c.top,c.left⟩:Cel)={ c with value:=0 }:=by
 obtain⟨a,b,s,v,t,l⟩:=c;replace h:s=false:=h;subst h;rfl
section
variable (F:Fz) (hM:MLF F) (sk:SA) (m:Mig) (a1 b1:SA) (d:Dc) (hk:KpsAt F sk m.keep) (hks:short m.keep) (hkl:m.keep.length < 1000000) (hko:m.keep.all aX=true) (hD:DocAt F a1 b1 d) (hsm:DcSmall d) (hd:docOk d=true) (q1 q2:Bool) (c1 c2:Nat)
include hM hk hks hkl hko hD hsm hd
theorem ycj(c:q1=true->d.lines=[]):Ct prog 88 [.agg (migS m sk),.agg (docS a1 b1 d.w d.bits),.va (.int .i64 1),.va (.fn (.func 89) [⟨1,0,0,0,0⟩])] F (hpL q1 q2 c1 c2 d.lines d.cells d.w d.bits) 4 (finL q1 q2 c1 c2 (lin1 m.keep d) d.cells d.w d.bits):=by
 have g:=dE hko (p:=1) oo;have j:=dE hko (p:=2) oo;refine lH F hM sk m 1 oo _ a1 b1 d hk hks hkl hD hsm hd q1 q2 c1 c2 d.lines _ d.cells _ d.w _ d.bits _ (fun e=>⟨?_,rfl,rfl,rfl⟩) (fun e F1=>?_) (fun _ e F1=>?_)
 ·rw[lin1,e]
  conv=>rhs;rw[<-qc9 d.lines]
  exact jp fun l _=>rfl
 ·refine BQ F1 q1 q2 c1 c2 d.lines _ d.cells d.w d.bits c hsm.l ?_;rw[lin1,e];exact jp fun l _=>rfl
 ·have i:=pd g.1 j.1 hd;have o:=lQ (p:=1) oo g.2.1 hd (val1 g.1 j.1 hd e d.cells d.w d.bits)
  have s:docOk ⟨d.lines.map (lineR (aE 1 m.keep) (aE 2 m.keep)),d.cells,d.w,d.bits⟩=true:=by
   have h:=dN hd;exact ko (by rw[qa];exact h.lines) h.cells h.asc i h.cel h.ras
  have a:=jX (p:=1) s;have f:(d.lines.map (lineR (aE 1 m.keep) (aE 2 m.keep))).length<=1000:=by rw[qa];exact hsm.l
  have b:propB 1 ⟨d.lines.map (lineR (aE 1 m.keep) (aE 2 m.keep)),d.cells,d.w,d.bits⟩=ptext (d.lines.map (lineR (aE 1 m.keep) (aE 2 m.keep))):=rfl;rw[o,b];rw[b]at a;obtain⟨q,u,n,x⟩:=Ag f (uZ i).1 oo;refine BR F1 q1 q2 c1 c2 d.lines _ d.cells d.w d.bits _ q _ c hsm.l (by rw[lin1,qa]) oo u n fun k h=>?_
  have:=x k (by rw[qa];exact h);simp only[yv]at this;simp only[lin1,yv];exact⟨this,tv⟩
theorem yck(f:q1=true->lin1 m.keep d=[]):Ct prog 88 [.agg (migS m sk),.agg (docS a1 b1 d.w d.bits),.va (.int .i64 2),.va (.fn (.func 92) [⟨1,0,0,0,0⟩])] F (hpL q1 q2 c1 c2 (lin1 m.keep d) d.cells d.w d.bits) 4 (finL q1 q2 c1 c2 (midD m.keep d).lines d.cells d.w d.bits):=by
 have n:=dE hko (p:=1) oo;have i:=dE hko (p:=2) oo;have a:(lin1 m.keep d).length<=1000:=by rw[lin1,qa];exact hsm.l
 refine lH F hM sk m 2 oo _ a1 b1 d hk hks hkl hD hsm hd q1 q2 c1 c2 (lin1 m.keep d) _ d.cells _ d.w _ d.bits _ (fun e=>⟨?_,rfl,rfl,rfl⟩) (fun e F1=>?_) (fun _ e F1=>?_)
 ·rw[lin1,midD,e];exact jp fun l _=>rfl
 ·refine BS F1 q1 q2 c1 c2 _ _ d.cells d.w d.bits f a ?_;rw[lin1,midD,e,jq];exact jp fun l _=>rfl
 ·have j:=pd n.1 i.1 hd;have s:=lQ (p:=2) oo i.2.1 hd (val2 n.1 i.1 hd e d.cells d.w d.bits)
  have u:docOk ⟨d.lines.map (lineR (aE 1 m.keep) (aE 2 m.keep)),d.cells,d.w,d.bits⟩=true:=by
   have h:=dN hd;exact ko (by rw[qa];exact h.lines) h.cells h.asc j h.cel h.ras
  have b:=jX (p:=2) u;have g:(d.lines.map (lineR (aE 1 m.keep) (aE 2 m.keep))).length<=1000:=by rw[qa];exact hsm.l
  have c:propB 2 ⟨d.lines.map (lineR (aE 1 m.keep) (aE 2 m.keep)),d.cells,d.w,d.bits⟩=pmot (d.lines.map (lineR (aE 1 m.keep) (aE 2 m.keep))):=rfl;rw[s,c];rw[c]at b;obtain⟨q,x,o,y⟩:=yT g (uZ j).2 oo;refine BT F1 q1 q2 c1 c2 _ _ d.cells d.w d.bits _ q _ f a (by rw[lin1,midD,qa,qa]) oo x o fun k h=>?_
  have:=y k (by rw[qa];rw[lin1,qa]at h;exact h);simp only[yv]at this;simp only[lin1,midD,yv];exact⟨this,tv⟩
theorem ycl(i:q2=true->d.cells=[]):Ct prog 88 [.agg (migS m sk),.agg (docS a1 b1 d.w d.bits),.va (.int .i64 3),.va (.fn (.func 93) [⟨1,0,0,0,0⟩])] F (hpL q1 q2 c1 c2 (midD m.keep d).lines d.cells d.w d.bits) 4 (finL q1 q2 c1 c2 (midD m.keep d).lines (midD m.keep d).cells d.w d.bits):=by
 have u:=dE hko (p:=3) oo;refine lH F hM sk m 3 oo _ a1 b1 d hk hks hkl hD hsm hd q1 q2 c1 c2 _ _ d.cells _ d.w _ d.bits _ (fun e=>⟨rfl,?_,rfl,rfl⟩) (fun e F1=>?_) (fun _ e F1=>?_)
 ·rw[midD,e]
  conv=>rhs;rw[<-qc9 d.cells]
  exact jp fun c _=>uQ c
 ·refine BU F1 q1 q2 c1 c2 _ d.cells _ d.w d.bits i hsm.c (by rw[midD,qa]) fun k h=>?_
  simp only[midD,yv,e];unfold cellR;split
  ·rfl
  ·rename_i s;have s:(d.cells[k]).sum=false:=by simpa using s
   rw[if_pos rfl];exact AD s
 ·have n:=cells_ok u.1 hd;have M:=lQ (p:=3) oo u.2.1 hd (val3 u.1 hd e d.lines d.w d.bits)
  have O:docOk ⟨d.lines,d.cells.map (cellR (aE 3 m.keep)),d.w,d.bits⟩=true:=by
   have h:=dN hd;exact ko h.lines (by rw[qa];exact h.cells) n.1 (qp.2 h.ln) n.2 h.ras
  have f:=jX (p:=3) O;have o:(d.cells.map (cellR (aE 3 m.keep))).length<=1000:=by rw[qa];exact hsm.c
  have g:propB 3 ⟨d.lines,d.cells.map (cellR (aE 3 m.keep)),d.w,d.bits⟩=dh false (d.cells.map (cellR (aE 3 m.keep))):=rfl;rw[M,g];rw[g]at f;obtain⟨q,z,Q,L,R⟩:=Eh o (Ei n.2) oo;refine BV F1 q1 q2 c1 c2 _ d.cells _ d.w d.bits _ q z i hsm.c (by rw[midD,qa]) oo Q L fun k h=>?_
  have:=R k (by rw[qa];exact h);simp only[yv]at this;simp only[midD,yv];obtain⟨x,y,A,B,D,E⟩:=e8 (aE 3 m.keep) d.cells[k];rw[x,y,A]at this;rcases this with⟨j,l⟩ | ⟨j,a,b,l,G,I,J,K⟩
  ·exact .inl ⟨j,l,E j⟩
  ·refine .inr ⟨j,a,b,_,l,G,I,J,K,?_⟩;have S:cellR (aE 3 m.keep) d.cells[k]=⟨(cellR (aE 3 m.keep) d.cells[k]).row,(cellR (aE 3 m.keep) d.cells[k]).col,(cellR (aE 3 m.keep) d.cells[k]).sum,(cellR (aE 3 m.keep) d.cells[k]).value,(cellR (aE 3 m.keep) d.cells[k]).top,(cellR (aE 3 m.keep) d.cells[k]).left⟩:=rfl;rw[S,x,y,A,B,D]
theorem ycm(L:List DLn)(K:List Cel):Ct prog 88 [.agg (migS m sk),.agg (docS a1 b1 d.w d.bits),.va (.int .i64 7),.va (.fn (.func 96) [⟨1,0,0,0,0⟩])] F (hpL q1 q2 c1 c2 L K d.w d.bits) 4 (finL q1 q2 c1 c2 L K (rasV (aE 7 m.keep) d).w (rasV (aE 7 m.keep) d).bits):=by
 have j:=dE hko (p:=7) oo;have f:=nw j.1 hd;refine lH F hM sk m 7 oo _ a1 b1 d hk hks hkl hD hsm hd q1 q2 c1 c2 L _ K _ d.w _ d.bits _ (fun e=>⟨rfl,rfl,?_,?_⟩) (fun e F1=>?_) (fun _ e F1=>?_)
 ·rw[e];rfl
 ·rw[e];rfl
 ·rw[e];exact BW F1 q1 q2 c1 c2 L K d.w d.bits
 ·have q:=lQ (p:=7) (e:=⟨[],[],(rasV (aE 7 m.keep) d).w,(rasV (aE 7 m.keep) d).bits⟩) oo j.2.1 hd (f.2 e).1;have g:∀w s,propB 7 ⟨[],[],w,s⟩=aA [w,hgt w s]++(putSR s).1:=fun _ _=>rfl
  obtain⟨i,y,A,B⟩:=lv f.1;rw[q,g];generalize rasV (aE 7 m.keep) d=v at i y A B;have h:0<=hgt v.w v.bits/\hgt v.w v.bits<=32:=by omega
  have D:v.bits.length<=2000:=by
   have h1:v.w*hgt v.w v.bits<=32*32:=qbr i.2 h.2 h.1 oo;omega
  have x:=du [v.w,hgt v.w v.bits]
  have E:(putSR v.bits).1.length<=70000:=by
   have:=ek v.bits;omega
  obtain⟨a,b,c,u,ib,k,l,o⟩:=zM (fa (n:=v.w) oo) (fa (n:=hgt v.w v.bits) oo) (s:=v.bits) oo;refine BY F1 q1 q2 c1 c2 L K d.w v.w _ d.bits v.bits _ a b c ?_ u ib k l o;rw[qb];simp only[qe,qu]at x;omega
end
def runX(m:Mig)(d:Dc):Option Dc:=if migOk m=true/\docOk d=true then runD m.keep d else none
def docZ:List SA:=[.nilsl,.nilsl,.int .i64 0,.str []]
abbrev RunK(m:Mig)(d:Dc):Out->Fz->Prop:=fun o c=>(runX m d=none/\o=.ret (.tup [.agg docZ,.va (.int .i64 90)]))\/(∃e a b,runX m d=some e/\o=.ret (.tup [.agg (docS a b e.w e.bits),.va (.int .i64 0)])/\DocAt c a b e)
theorem jR(m:Mig)(sk c d:SA)(w:Int)(s:List UInt8)(p:Int)(g:FuncId)(h1:c.z=true)(k:d.z=true)(l:sk.z=true):∀t∈[SV.agg (migS m sk),.agg (docS c d w s),.va (.int .i64 p),.va (.fn (.func g) [⟨1,0,0,0,0⟩])],SV.below 4 t:=by
 intro t f;have h:=SA.below_mono (show 1<=4 by decide) (SA.z_below h1);have i:=SA.below_mono (show 1<=4 by decide) (SA.z_below k);have j:=SA.below_mono (show 1<=4 by decide) (SA.z_below l);simp only[qh,qq,or_false]at f;rcases f with rfl | rfl | rfl | rfl
 ·intro a b;simp only[qh,qq,or_false]at b;rcases b with rfl | rfl | rfl | rfl | rfl
  ·trivial
  ·trivial
  ·trivial
  ·trivial
  ·exact j
 ·intro a b;simp only[qh,qq,or_false]at b;rcases b with rfl | rfl | rfl | rfl
  ·exact h
  ·exact i
  ·trivial
  ·trivial
 ·trivial
 ·intro p e;simp only[qs]at e;subst e;decide
theorem mE{α:Type}{e:α->List SA}(a:Plain e){l:List α}(t sz c:Nat)(μ:Mu){ν:Mu}:((SB.arr t sz (l.map e) c).ren ν).ren μ=SB.arr t sz (l.map e) c:=by
 rw[cY a rfl,cY a rfl]
theorem mK{α β:Type}{a:List α}{b:List β}(h:a.length=b.length)(c:b=[]):a=[]:=by
 subst c;exact ji h
theorem wP(K:List Cel):(frzR K (valsF K)).length=K.length:=by rw[frzR,qa,qao,ff,qd1]
theorem ydq(F:Fz)(hM:MLF F)(sk:SA)(m:Mig)(a1 b1:SA)(d:Dc)(hk:KpsAt F sk m.keep)(y:short m.keep)(u:m.keep.length < 1000000)(hD:DocAt F a1 b1 d)(g:DcSmall d):
  Fo prog F 38 [.agg (migS m sk),.agg (docS a1 b1 d.w d.bits)] (RunK m d):=by
 have hv:=vF F sk m hk y u;have M:=hk;have U:=hD;obtain⟨an,ab,ae,ac,bn,bb,be,bc,rfl,rfl,hL,hK,az⟩:=hD;obtain⟨kn,kb,ke,kc,kL,kr,rfl,-,-,-,-⟩:=hk;have V:=fun F1 (f:Fz.le F F1)=>oh F1 _ _ d (hL.mono f) (hK.mono f) g.l g.c g.b
 by_cases W:migOk m=true
 ·rw[W]at hv;by_cases B:docOk d=true
  ·rw[B]at V
   have x:m.keep.all aX=true:=by
    simp only[migOk,qd]at W;exact W.2.2.2.2.2
   have hX:runX m d=runD m.keep d:=if_pos ⟨W,B⟩;have ay:=fun F1 (f:Fz.le F F1)=>ER F1 an ab ae ac d.lines (hL.mono f) g.l
   have ax:=fun F1 (f:Fz.le F F1)=>EQ F1 bn bb be bc d.cells (hK.mono f) g.c
   have e1:(lin1 m.keep d).length=d.lines.length:=by rw[lin1,qa]
   have e2:(midD m.keep d).lines.length=d.lines.length:=by rw[midD,qa]
   have e3:(midD m.keep d).cells.length=d.cells.length:=by rw[midD,qa]
   have aa:=fun F1 (f:Fz.le F F1) k p R S (i:k=true->d.lines=[])=>ycj F1 (hM.mono f) _ m _ _ d (KpsAt.up M f) y u x (U.mono f) g B k p R S i
   have E:=fun F1 (f:Fz.le F F1) k p R S (i:k=true->d.lines=[])=>yck F1 (hM.mono f) _ m _ _ d (KpsAt.up M f) y u x (U.mono f) g B k p R S (fun h=>by rw[lin1,i h];rfl)
   have G:=fun F1 (f:Fz.le F F1) k p R S (q:p=true->d.cells=[])=>ycl F1 (hM.mono f) _ m _ _ d (KpsAt.up M f) y u x (U.mono f) g B k p R S q
   have I:=fun F1 (f:Fz.le F F1) k p R S L K=>ycm F1 (hM.mono f) _ m _ _ d (KpsAt.up M f) y u x (U.mono f) g B k p R S L K
   have ad:docOk ⟨(midD m.keep d).lines,(midD m.keep d).cells,d.w,d.bits⟩=true:=r8 x B;have af:DcSmall ⟨(midD m.keep d).lines,(midD m.keep d).cells,d.w,d.bits⟩:=⟨by show(midD m.keep d).lines.length<=1000;rw[e2];exact g.l,by show(midD m.keep d).cells.length<=1000;rw[e3];exact g.c,g.b⟩
   have al:=fun F1 k p R S (i:k=true->d.lines=[]) (q:p=true->d.cells=[])=>EK F1 k p R S (midD m.keep d).lines (midD m.keep d).cells d.w d.bits (fun h=>by rw[midD,i h];rfl) (fun h=>by rw[midD,q h];rfl) ad af
   have av:=fun F1 (f:Fz.le F F1)=>xh F1 _ m 4 (KpsAt.up M f) y u
   obtain⟨D,ag⟩:∃D,runX m d=D:=⟨_,rfl⟩
   show Fo prog F 38 _ (fun o F'=>(runX m d=none/\o=.ret (.tup [.agg docZ,.va (.int .i64 90)]))\/(∃e a b,runX m d=some e/\o=.ret (.tup [.agg (docS a b e.w e.bits),.va (.int .i64 0)])/\DocAt F' a b e));rw[ag];have ar:runD m.keep d=D:=by rw[<-ag,hX]
   obtain⟨L1,au⟩:∃L1,lin1 m.keep d=L1:=⟨_,rfl⟩
   obtain⟨A,ai⟩:∃A,(midD m.keep d).lines=A:=⟨_,rfl⟩
   obtain⟨n,ah⟩:∃n,(midD m.keep d).cells=n:=⟨_,rfl⟩
   obtain⟨Y,ak⟩:∃Y,(rasV (aE 7 m.keep) d).w=Y:=⟨_,rfl⟩
   obtain⟨X,aj⟩:∃X,(rasV (aE 7 m.keep) d).bits=X:=⟨_,rfl⟩
   have J:(¬0 < (aE 4 m.keep).length->D=some ⟨A,n,Y,X⟩)/\(0 < (aE 4 m.keep).length->D=if allV (valsF n)=true then some ⟨A,frzR n (valsF n),Y,X⟩else none):=by
    rw[<-ar,<-ai,<-ah,<-ak,<-aj];exact⟨fun h=>if_neg h,fun h=>if_pos h⟩
   rw[au]at aa E e1;rw[ai]at E G e2 al;rw[ah]at G e3 al;rw[ak,aj]at I;obtain⟨T,hT⟩:∃T,decide (0 < (aE 4 m.keep).length)=T:=⟨_,rfl⟩
   rw[hT]at av;clear ar hX ag W B ad af x au ai ah ak aj;obtain⟨id,src,aq,Z,ks⟩:=m;obtain⟨L,K,w,s⟩:=d;refine foS func38 ?_;refine useFs hv ?_;rintro _ F1 f rfl;refine gae dd ?_;refine usePs (V F1 f) ?_;refine brd dd ?_;refine dwS (lk [0,1,3,4] (.alt 2 (.alt 5 (.look 6 (.alt 7 (.look 8 (.last 9 .done)) .nil)) .nil) .nil)) [2] ?_;refine⟨rfl,rfl,?_⟩;refine useS (ay F1 f) [] trivial trivial ?_;rintro j F2 x0 n0 u2 ⟨rfl,rfl,k,O,i,a0,rfl,rfl⟩;refine⟨Fz.r F1,rfl,?_⟩;refine useS (ax F1 f) [] trivial trivial ?_;rintro j F2 x0 n0 u2 ⟨rfl,rfl,p,Q,q,aw,rfl,rfl⟩;refine⟨Fz.r F1,rfl,Fz.r F1,rfl,?_⟩;refine use (aa F1 f k p O Q i) [(1,5),(2,6),(3,7)] rfl ⟨rfl,rfl,rfl,rfl,tv⟩ rfl (dD oo _ _ _ _ _ _ _ _) (jR _ _ _ _ _ _ _ _ rfl rfl rfl) ⟨rfl,dU aG,dU aC,tv⟩ ?_;rintro j F2 x0 n0 u2 ⟨rfl,rfl,rfl⟩;conv=>whnf
   have l2:=Fz.t f u2;refine use (E F2 l2 k p O Q i) [(1,5),(2,6),(3,7)] rfl ⟨rfl,rfl,rfl,rfl,tv⟩ rfl (dD oo _ _ _ _ _ _ _ _) (jR _ _ _ _ _ _ _ _ rfl rfl rfl) ⟨rfl,dU aG,dU aC,tv⟩ ?_;rintro j F3 x0 n0 u3 ⟨rfl,rfl,rfl⟩;conv=>whnf
   have l3:=Fz.t l2 u3;refine use (G F3 l3 k p O Q q) [(1,5),(2,6),(3,7)] rfl ⟨rfl,rfl,rfl,rfl,tv⟩ rfl (dD oo _ _ _ _ _ _ _ _) (jR _ _ _ _ _ _ _ _ rfl rfl rfl) ⟨rfl,dU aG,dU aC,tv⟩ ?_;rintro j F4 x0 n0 u4 ⟨rfl,rfl,rfl⟩;conv=>whnf
   have l4:=Fz.t l3 u4;refine useFs (av F4 l4) ?_;rintro _ F5 u5 rfl;have l5:=Fz.t l4 u5;refine⟨fun gT=>?_,fun gT=>?_⟩
   ·refine useS (al F5 k p O Q i q) [(1,5),(2,6),(3,7)] (dD oo _ _ _ _ _ _ _ _) ⟨rfl,dU aG,dU aC,tv⟩ ?_;rintro j F6 x0 n0 u6 ⟨rfl,⟨am,rfl,rfl⟩ | ⟨am,rfl,rfl⟩⟩
    ·have l6:=Fz.t l5 u6;have hD:=(J.2 (od (hT.trans gT))).trans (if_pos am);refine brd dd ?_;refine use (I F6 l6 k p O Q A (frzR n (valsF n))) [(1,5),(2,6),(3,7)] rfl ⟨rfl,rfl,rfl,rfl,tv⟩ rfl (dD oo _ _ _ _ _ _ _ _) (jR _ _ _ _ _ _ _ _ rfl rfl rfl) ⟨rfl,dU aG,dU aC,tv⟩ ?_;rintro j F8 x0 n0 u8 ⟨rfl,rfl,rfl⟩;refine cD 6 (fun _=>.arr 148 2 (A.map encN) O) rfl rfl rfl (fun _ _=>by exact mE aG _ _ _ _) (fun _ _=>cF aG _ _ _ _ _) ?_;intro z1 F9 u9 ao;refine cD 7 (fun _=>.arr 151 6 (((frzR n (valsF n))).map encK) Q) rfl rfl rfl (fun _ _=>by exact mE aC _ _ _ _) (fun _ _=>cF aC _ _ _ _ _) ?_;intro z2 FA uA ap;exact endFo (.ret (.tup [.agg [.slice k 0 (z1 0) 0 2 A.length O,.slice p 0 (z2 0) 0 6 ((frzR n (valsF n))).length Q,.int .i64 Y,.str X],.va (.int .i64 0)])) FA rfl (Fz.t l6 (Fz.t u8 (Fz.t u9 uA))) (Fz.r FA) (.inr ⟨⟨A,(frzR n (valsF n)),Y,X⟩,_,_,hD,rfl,pi (fun h=>mK e2 (i h)) (fun h=>uA _ _ (ao 0 ⟨by rw[h];rfl,rfl⟩)) (sl_of (fun h=>mK ((wP n).trans e3) (q h)) fun h=>ap 0 ⟨by rw[h];rfl,rfl⟩) (by rw[((wP n).trans e3)];exact aw)⟩) ⟨rfl,rfl,tv⟩ rfl
    ·have l6:=Fz.t l5 u6;have hD:=(J.2 (od (hT.trans gT))).trans (if_neg (by rw[am];decide));refine bre dd ?_;exact endFo (.ret (.tup [.agg docZ,.va (.int .i64 90)])) F6 rfl l6 (Fz.r F6) (.inl ⟨hD,rfl⟩) ⟨rfl,rfl,tv⟩ rfl
   ·have hD:=J.1 (oe (hT.trans gT));refine use (I F5 l5 k p O Q A n) [(1,5),(2,6),(3,7)] rfl ⟨rfl,rfl,rfl,rfl,tv⟩ rfl (dD oo _ _ _ _ _ _ _ _) (jR _ _ _ _ _ _ _ _ rfl rfl rfl) ⟨rfl,dU aG,dU aC,tv⟩ ?_;rintro j F8 x0 n0 u8 ⟨rfl,rfl,rfl⟩;refine cD 6 (fun _=>.arr 148 2 (A.map encN) O) rfl rfl rfl (fun _ _=>by exact mE aG _ _ _ _) (fun _ _=>cF aG _ _ _ _ _) ?_;intro z1 F9 u9 ao;refine cD 7 (fun _=>.arr 151 6 ((n).map encK) Q) rfl rfl rfl (fun _ _=>by exact mE aC _ _ _ _) (fun _ _=>cF aC _ _ _ _ _) ?_;intro z2 FA uA ap;exact endFo (.ret (.tup [.agg [.slice k 0 (z1 0) 0 2 A.length O,.slice p 0 (z2 0) 0 6 (n).length Q,.int .i64 Y,.str X],.va (.int .i64 0)])) FA rfl (Fz.t l5 (Fz.t u8 (Fz.t u9 uA))) (Fz.r FA) (.inr ⟨⟨A,n,Y,X⟩,_,_,hD,rfl,pi (fun h=>mK e2 (i h)) (fun h=>uA _ _ (ao 0 ⟨by rw[h];rfl,rfl⟩)) (sl_of (fun h=>mK e3 (q h)) fun h=>ap 0 ⟨by rw[h];rfl,rfl⟩) (by rw[e3];exact aw)⟩) ⟨rfl,rfl,tv⟩ rfl
  ·have B:docOk d=false:=by simpa using B
   rw[B]at V;have hX:runX m d=none:=if_neg (by rintro⟨_,h⟩;rw[B]at h;cases h);obtain⟨id,src,aq,Z,ks⟩:=m;obtain⟨L,K,w,s⟩:=d;refine foS func38 ?_;refine useFs hv ?_;rintro _ F1 f rfl;refine gae dd ?_;refine usePs (V F1 f) ?_;refine bre dd ?_;exact endFo (.ret (.tup [.agg docZ,.va (.int .i64 90)])) F1 rfl f (Fz.r F1) (.inl ⟨hX,rfl⟩) ⟨rfl,rfl,tv⟩ rfl
 ·have W:migOk m=false:=by simpa using W
  rw[W]at hv;have hX:runX m d=none:=if_neg (by rintro⟨h,_⟩;rw[W]at h;cases h);obtain⟨id,src,aq,Z,ks⟩:=m;obtain⟨L,K,w,s⟩:=d;refine foS func38 ?_;refine useFs hv ?_;rintro _ F1 f rfl;refine gaf dd ?_;exact endFo (.ret (.tup [.agg docZ,.va (.int .i64 90)])) F1 rfl f (Fz.r F1) (.inl ⟨hX,rfl⟩) ⟨rfl,rfl,tv⟩ rfl
