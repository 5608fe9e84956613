import Derived.Test.YtfnkamphhpldcaaGreatDoorK05
set_option maxHeartbeats 64000000
namespace Sx
open Go
def Out.ren(μ:Mu):Out->Out
 |.ret v=>.ret (v.ren μ)
 |.panic v=>.panic v
def Out.below(n:Nat):Out->Prop
 |.ret v=>v.below n
 |.panic _=>True
def distinct:List (Nat×Ent)->Bool
 |[]=>true
 |(i,_)::r=>(aget r i).isNone&&distinct r
def covers(l:List (Nat×Ent)):Nat->Bool
 |0=>true
 |n+1=>(aget l n).isSome&&covers l n
theorem sT{l:List (Nat×Ent)}(a:distinct l=true){i:Nat}{e:Ent}(h:(i,e)∈l):aget l i=some e:=by
 induction l with
 |nil=>simp at h
 |cons p r ih=>
  obtain⟨m,u⟩:=p;simp only[distinct,qd]at a;rcases qh.1 h with h | h
  ·cases h;simp[aget]
  ·have:=ih a.2 h;simp only[aget];split
   ·rename_i b;have:=qm b;subst this;rw[this]at a;simp at a
   ·exact this
theorem lj{l:List (Nat×Ent)}:∀{n:Nat},covers l n=true->∀i,i < n->∃e,aget l i=some e
 |0,_,i,h=>by omega
 |n+1,hc,i,h=>by
  simp only[covers,qd]at hc;by_cases a:i=n
  ·subst a;exact js.1 hc.1
  ·exact lj hc.2 i oo
def resP(h:Hp):Mu:=fun i k=>
 match lget h i with
 |some (.lnk b)=>(0,b k)
 |_=>(i,k)
theorem kj{C:Ctx}{ρ:Rho}{h:Hp}{nx:Nat}{w:World}(S:Sat C ρ h nx w):(resP h).pull ρ=ρ:=by
 funext i k
 simp only[Mu.pull,resP];split
 ·rename_i b a;rw[S.id0,S.lnk i b a k]
 ·rfl
theorem Out.rel_ren(μ:Mu)(ρ:Rho)(o:Out)(e:Ending):(o.ren μ).rel ρ e↔o.rel (μ.pull ρ) e:=by
 cases o with
 |ret v=>
  simp only[Out.ren,Out.rel];exact⟨fun⟨x,h1,a⟩=>⟨x,h1,(SV.rel_ren μ ρ v x).1 a⟩,fun⟨x,h1,a⟩=>⟨x,h1,(SV.rel_ren μ ρ v x).2 a⟩⟩
 |panic v=>exact Iff.rfl
def outE:Out->Out->Prop
 |.ret w,.ret a=>svE w a
 |w,a=>w=a
theorem BG{ρ:Rho}{w a:Out}{e:Ending}(h:outE w a)(b:a.rel ρ e):w.rel ρ e:=by
 unfold outE at h;split at h
 ·obtain⟨v,c,b⟩:=b;exact⟨v,c,qJ h b⟩
 ·subst h;exact b
def wfl(a:List (Nat×Ent))(n n0:Nat):Bool:=distinct ((0,.gone)::a)&&covers ((0,.gone)::a) n&&Nat.ble n n0
@[irreducible] def Cln (n:Nat) (K0:Out->Fz->List (Nat×Ent)->Nat->Prop):Out->Hp->Nat->Prop:=fun out h nx=>
 ∀C ρ w e,C.n0=n->Sat C ρ h nx w->out.rel ρ e->out.below nx->∃out0 F0 h0 n0 ρ0,K0 out0 F0 h0 n0/\out0.rel ρ0 e/\out0.below n0/\Sat C ρ0 [(0,.frz F0)::h0] n0 w/\wfl h0 n n0=true
variable {n:Nat}
theorem clean{l:Out->Fz->List (Nat×Ent)->Nat->Prop}{out:Out}{h:Hp}{nx:Nat}(s:List (Nat×Mv))(a:Out)(d:Fz)(b:List (Nat×Ent))(n0:Nat)(B:l a d b n0)(D:outE (a.ren (sig s)) (out.ren (resP h)))
  (u:chkS s ((0,.frz d)::b) n n0=true)(m:wfl b n n0=true)(p:a.below n0)(j:bH n0 b)(y:leH s h ((0,.frz d)::b)):Cln n l out h nx:=by
 unfold Cln;intro C ρ w e G S E q;have c:=m;simp only[wfl,qd]at c;have k:=nb c.2
 have o:=pQ S u oo k (show bH n0 ((0,.frz d)::b)from⟨tv,j⟩) y (fun i A=>by
  have:=lj c.1.2 i A;obtain⟨x,f⟩:=this;simp only[aget]at f ⊢;split
  ·rfl
  ·rename_i g;rw[g]at f;simp only at f;rw[f];rfl)
 refine⟨a,d,b,n0,(sig s).pull ρ,B,?_,p,o,m⟩;refine(Out.rel_ren (sig s) ρ a e).1 (BG D ?_);refine(Out.rel_ren (resP h) ρ out e).2 ?_;rw[kj S];exact E
def Ct(P:Program)(f:FuncId)(args:List SV)(F:Fz)(d:List (Nat×Ent))(n:Nat)(b:Out->Fz->List (Nat×Ent)->Nat->Prop):Prop:=
 za6 P f args [(0,.frz F)::d] n (Cln n (fun o a c n0=>Fz.le F a/\b o a c n0))
def isTo:Mv->Bool
 |.to _=>true
 |_=>false
def tau(sl:List (Nat×Mv))(n a:Nat):Mu:=fun i k=>
 match Nat.ble n i with
 |true=>(a+(i - n),k)
 |false=>sig sl i k
def ge(H:Hp)(τ:Mu):List (Nat×Ent)->Hp
 |[]=>H
 |(i,e)::r=>lput (ge H τ r) (τ i 0).1 (e.ren τ)
def dQ(μ:Mu):List SV->List SV
 |[]=>[]
 |s::r=>s.ren μ::dQ μ r
def argsE:List SV->List SV->Prop
 |[],[]=>True
 |s0::r0,s::r=>svE s0 s/\argsE r0 r
 |_,_=>False
theorem uM{ρ:Rho}:∀{a l:List SV} {vs:List Value},argsE a l->relL ρ l vs->relL ρ a vs
 |[],[],_,_,hr=>hr
 |_::_,_::_,[],_,hr=>hr
 |_::_,_::_,_::_,h,hr=>⟨qJ h.1 hr.1,uM h.2 hr.2⟩
 |[],_::_,_,h,_=>h.elim
 |_::_,[],_,h,_=>h.elim
def ky(a:Nat)(sl:List (Nat×Mv)):List (Nat×Ent)->Bool
 |[]=>true
 |(i,_)::r=>Nat.ble ((sig sl i 0).1+1) a&&ky a sl r
def injOn(sl:List (Nat×Mv)):List (Nat×Ent)->Bool
 |[]=>true
 |(i,_)::r=>(r.all fun q=>!(Nat.beq (sig sl i 0).1 (sig sl q.1 0).1))&&injOn sl r
def noFz:Ent->Bool
 |.frz _=>false
 |.lnk _=>false
 |_=>true
theorem tt{H:Hp}{τ:Mu}:∀{l:List (Nat×Ent)} (j:Nat) (x:Ent),lget (ge H τ l) j=some x->(∃i e,(i,e)∈l/\(τ i 0).1=j/\x=e.ren τ)\/((∀i e,(i,e)∈l->(τ i 0).1≠j)/\lget H j=some x)
 |[],j,x,h=>.inr ⟨by simp,h⟩
 |(i,e)::r,j,x,h=>by
  simp only[ge]at h;by_cases b:j=(τ i 0).1
  ·subst b;rw[aR]at h;cases h
   exact .inl ⟨i,e,by simp,rfl,rfl⟩
  ·rw[aM _ _ _ _ b]at h;rcases tt j x h with⟨i',e',h1,a,c⟩ | ⟨h1,a⟩
   ·exact .inl ⟨i',e',by simp[h1],a,c⟩
   ·refine .inr ⟨?_,a⟩;intro i' e' hm;rcases qh.1 hm with hm | hm
    ·cases hm;exact fun d=>b d.symm
    ·exact h1 i' e' hm
variable {a:SA}
theorem SA.below_ren{τ:Mu}{m:Nat}(h:∀q k,q < n->(τ q k).1 < m)(b:a.below n):(a.ren τ).below m:=by
 cases a<;>simp only[SA.ren,SA.below,Pl.ren]at*<;>first | exact h _ _ b | exact b.imp id (h _ _) | (intro p c;obtain⟨q,d,rfl⟩:=qz.1 c;exact h _ _ (b q d)) | trivial
theorem below_ren{τ:Mu}{m:Nat}(h:∀q k,q < n->(τ q k).1 < m){b:SB}(e:b.below n):(b.ren τ).below m:=by
 cases b with
 |cells t l=>
  intro a c;obtain⟨x,d,rfl⟩:=qz.1 c;exact SA.below_ren h (e x d)
 |arr t sz L room=>
  intro x d a c;obtain⟨y,f,rfl⟩:=qz.1 d;obtain⟨z,g,rfl⟩:=qz.1 c;exact SA.below_ren h (e y f z g)
 |obj o=>trivial
variable {v:SV}
theorem SV.below_ren{τ:Mu}{m:Nat}(h:∀q k,q < n->(τ q k).1 < m)(d:v.below n):(v.ren τ).below m:=by
 cases v with
 |va a=>exact SA.below_ren h d
 |agg l=>
  intro a b;obtain⟨x,e,rfl⟩:=qz.1 b;exact SA.below_ren h (d x e)
 |tup l=>
  intro c f;obtain⟨x,e,rfl⟩:=qz.1 f;have:=d x e;cases x with
  |va a=>exact SA.below_ren h this
  |agg l=>
   intro a b;obtain⟨y,g,rfl⟩:=qz.1 b;exact SA.below_ren h (this y g)
 |junk=>trivial
theorem pt{μ:Mu}{ρ:Rho}:∀{args:List SV} {vs:List Value},relL ρ (dQ μ args) vs↔relL (μ.pull ρ) args vs
 |[],[]=>Iff.rfl
 |[],v::r=>Iff.rfl
 |s::r,[]=>Iff.rfl
 |s::r,v::vr=>by
  simp only[dQ,relL];rw[SV.rel_ren,pt]
theorem uh{sl:List (Nat×Mv)}:∀{l:List (Nat×Ent)},injOn sl l=true->∀p∈l,∀q∈l,(sig sl p.1 0).1=(sig sl q.1 0).1->p.1=q.1\/p=q
 |[],_,p,hp,_,_,_=>by simp at hp
 |(i,e)::r,h,p,hp,q,hq,heq=>by
  simp only[injOn,qd,qp]at h;rcases qh.1 hp with rfl | hp'<;>rcases qh.1 hq with rfl | hq'
  ·exact .inl rfl
  ·have:=h.1 q hq';simp only at heq;rw[heq]at this;simp at this
  ·have:=h.1 p hp';simp only at heq;rw[heq]at this;simp at this
  ·exact uh h.2 p hp' q hq' heq
theorem sY{a:Nat}{sl:List (Nat×Mv)}:∀{l:List (Nat×Ent)},ky a sl l=true->∀p∈l,(sig sl p.1 0).1 < a
 |[],_,p,hp=>by simp at hp
 |(i,e)::r,h,p,hp=>by
  simp only[ky,qd]at h;rcases qh.1 hp with rfl | hp
  ·exact nb h.1
  ·exact sY h.2 p hp
theorem wA(l:List (Nat×Ent))(i:Nat):lget [l] i=aget l i:=by
 simp only[lget];cases aget l i<;>rfl
theorem ydy{sl:List (Nat×Mv)}(h:(sl.all fun p=>isTo p.2)=true)(i k:Nat):sig sl i k=((sig sl i 0).1,k):=by
 unfold sig;cases a:aget sl i with
 |none=>rfl
 |some m=>
  have:=qp.1 h _ (cW a);cases m with
  |to j=>rfl
  |fn g tg=>cases this
def chkU(sl:List (Nat×Mv))(a:List (Nat×Ent))(n b:Nat):Bool:=
 (sl.all fun p=>isTo p.2)&&ky b sl a&&injOn sl ((0,.gone)::a)&&Nat.beq (sig sl 0 0).1 0&&wfl a n n&&Nat.ble 1 n&&(a.all fun p=>Nat.ble (p.1+1) n&&noFz p.2)
variable {f:FuncId}{args:List SV}{K:Out->Hp->Nat->Prop}
theorem use{P:Program}{ac:List SV}{F:Fz}{hp:List (Nat×Ent)}{K0:Out->Fz->List (Nat×Ent)->Nat->Prop}{H:Hp}{Q:Nat}
  (hc:Ct P f ac F hp n K0)(sl:List (Nat×Mv))(hF:lget H 0=some (.frz F))(a2:argsE (dQ (sig sl) ac) (dQ (resP H) args))
  (ax:chkU sl hp n Q=true)(hb:bH n hp)(bm:∀s∈ac,s.below n)
  (hh:leH sl H hp)
  (hk:∀L F0 g n0,Fz.le F F0->K0 L F0 g n0->K (L.ren (tau sl n Q)) (lput (ge H (tau sl n Q) g) 0 (.frz F0)) (Q+(n0 - n))):za6 P f args H Q K:=by
 unfold Ct za6 at hc;unfold za6;intro C ρ w vs S U b6;simp only[chkU,qd]at ax;obtain⟨⟨⟨⟨⟨⟨c0,c1⟩,c2⟩,cz⟩,c5⟩,cn⟩,c4⟩:=ax
 have c4:∀p∈hp,p.1 < n/\noFz p.2=true:=fun p bt=>by
  have:=qp.1 c4 p bt;simp only[qd]at this;exact⟨nb this.1,this.2⟩
 simp only[wfl,qd]at c5;obtain⟨⟨b4,bk⟩,_⟩:=c5;have bf:1<=n:=nb cn;have bu:=ydy c0;generalize hσ:(fun i=>(sig sl i 0).1)=σ at*;have aw:∀i k,sig sl i k=(σ i,k):=fun i k=>by rw[bu,<-hσ]
 have V:σ 0=0:=by rw[<-hσ];exact qm cz
 have ao:(sig sl).pull ρ=fun i=>ρ (σ i):=by funext i k;simp only[Mu.pull,aw]
 have T:∀i,i≠0->lget [(0,Ent.frz F)::hp] i=aget hp i:=by
  intro i l;rw[wA];simp only[aget];split
  ·rename_i O;exact absurd (qm O) l
  ·rfl
 have get0:lget [(0,Ent.frz F)::hp] 0=some (.frz F):=rfl
 have bi:∀i,i≠0->i < n->∃e,(i,e)∈hp:=by
  intro i g l;obtain⟨e,m⟩:=lj bk i l;simp only[aget]at m;split at m
  ·rename_i O;exact absurd (qm O) g
  ·exact⟨e,cW m⟩
 have au:∀i,i < n->σ i < Q:=by
  intro i l;by_cases g:i=0
  ·subst g;rw[V];exact S.pos
  ·obtain⟨e,m⟩:=bi i g l;have:=sY c1 _ m;rw[<-hσ];exact this
 have af:∀i i',i < n->i' < n->σ i=σ i'->i=i':=by
  intro i i' l J c
  have bj:∀i,i < n->∃e,(i,e)∈((0,Ent.gone)::hp):=by
   intro i l;by_cases g:i=0
   ·subst g;exact⟨.gone,by simp⟩
   ·obtain⟨e,m⟩:=bi i g l;exact⟨e,by simp[m]⟩
  obtain⟨x,hx⟩:=bj i l;obtain⟨y,hy⟩:=bj i' J;rcases uh c2 _ hx _ hy (by rw[<-hσ]at c;exact c)with h | h
  ·exact h
  ·cases h;rfl
 obtain⟨Fs,al,a1⟩:=S.fz;rw[hF]at al;cases al
 let B':Nat->Prop:=fun b=>∃i k,i≠0/\St.owns [(0,Ent.frz F)::hp] i k/\b=ρ (σ i) k
 let C':Ctx:={ w0:=w,ρ0:=fun i=>ρ (σ i),n0:=n,B:=B',R:=fun b=>(F b).isSome=true }
 have aq:∀i k,i≠0->St.owns [(0,Ent.frz F)::hp] i k->St.owns H (σ i) k/\i < n/\σ i≠0:=by
  rintro i k g ⟨e,m,d⟩;rw[T i g]at m;have A:=cW m;have bb:=(c4 _ A).1;refine⟨?_,bb,fun hz=>g (af i 0 bb oo (by rw[hz,V]))⟩;rcases eV hh _ A with hg | hg
  ·simp only at hg;subst hg;exact d.elim
  ·obtain⟨e1,h5,h6,_⟩:=pj hg k ((Ent.has_ren _ e k).2 d);simp only[aw]at h5 h6;exact⟨e1,h5,h6⟩
 have S':Sat C' (fun i=>ρ (σ i)) [(0,Ent.frz F)::hp] n w:=by
  refine{ lt:=?_,blk:=?_,wf:=?_,inj:=?_,anch:=fun _ _ _=>rfl,n0:=qi _,n1:=bf,os:=rfl,tape:=rfl,output:=rfl,size:=qi _,fr:=fun _ _ _=>rfl,own:=?_,fz:=⟨F,get0,a1⟩,id0:=fun k=>by show ρ (σ 0) k=k;rw[V];exact S.id0 k,only:=?_,lnk:=?_ }
  ·intro i e m;by_cases g:i=0
   ·omega
   ·rw[T i g]at m;exact(c4 _ (cW m)).1
  ·intro i e m k d;by_cases g:i=0
   ·subst g;rw[get0]at m;cases m
    obtain⟨o,M,G⟩:=S.blk 0 _ hF k d;refine⟨o,by show w.heap[ρ (σ 0) k]? =_;rw[V];exact M,?_⟩;obtain⟨B,hB⟩:=js.1 d;simp only[Ent.at,hB,yk]at G ⊢
    exact SB.ok_congr (n:=1) (fun i l=>by have:i=0:=by omega
                                          subst this;show ρ (σ 0)=ρ 0;rw[V]) (a1 k B hB) G
   ·rw[T i g]at m;have A:=cW m;rcases eV hh _ A with hg | hg
    ·simp only at hg;subst hg;exact d.elim
    ·obtain⟨e1,h5,h6,h7,_⟩:=pj hg k ((Ent.has_ren _ e k).2 d);simp only[aw]at h5 h6 h7;obtain⟨o,M,G⟩:=S.blk _ _ h5 k h6
     have ae:e.plain=true:=by
      rcases Ent.has_cases d with h | ⟨F',rfl⟩
      ·exact h
      ·have:=(c4 _ A).2;cases this
     rw[h7,Ent.at_ren _ e k ae]at G;refine⟨o,M,?_⟩;have:=(SB.ok_ren (sig sl) ρ _ o).1 G
     rwa[ao]at this
  ·intro i e m k d;by_cases g:i=0
   ·subst g;rw[get0]at m;cases m
    obtain⟨B,hB⟩:=js.1 d;simp only[Ent.at,hB,yk];exact SB.below_mono bf (a1 k B hB)
   ·rw[T i g]at m;have A:=cW m
    have ae:e.plain=true:=by
     rcases Ent.has_cases d with h | ⟨F',rfl⟩
     ·exact h
     ·have:=(c4 _ A).2;cases this
    exact Ent.below_at (qO hb _ A) k d ae
  ·intro i k i' k' h1 D c
   have up:∀i k,St.owns [(0,Ent.frz F)::hp] i k->St.owns H (σ i) k/\i < n:=by
    intro i k h;by_cases g:i=0
    ·subst g;obtain⟨e,m,d⟩:=h;rw[get0]at m;cases m
     exact⟨⟨_,by rw[V];exact hF,d⟩,by omega⟩
    ·have:=aq i k g h;exact⟨this.1,this.2.1⟩
   obtain⟨e1,l1⟩:=up i k h1;obtain⟨e2,l2⟩:=up i' k' D;have ba:=S.inj _ _ _ _ e1 e2 c;exact⟨af i i' l1 l2 ba.1,ba.2⟩
  ·intro i k M;by_cases g:i=0
   ·subst g;obtain⟨e,m,d⟩:=M;rw[get0]at m;cases m
    exact .inl ⟨rfl,d⟩
   ·exact .inr (.inl ⟨i,k,g,M,rfl⟩)
  ·intro i F' ar;by_cases g:i=0
   ·exact g
   ·rw[T i g]at ar;have:=(c4 _ (cW ar)).2;cases this
  ·intro i b hl;by_cases g:i=0
   ·subst g;rw[get0]at hl;cases hl
   ·rw[T i g]at hl;have:=(c4 _ (cW hl)).2;cases this
 have U:relL ρ (dQ (resP H) args) vs:=pt.2 (by rw[kj S];exact U);have U:=pt.1 (uM a2 U);rw[ao]at U;obtain⟨bn,hc⟩:=hc C' (fun i=>ρ (σ i)) w vs S' U bm;refine⟨bn,hc.mono ?_⟩;rintro e w' ⟨out,h1,n1,ρ1,a9,a4,S1,b5,b3,a3⟩;unfold Cln at a9;obtain⟨L,F0,g,n0,ρ2,⟨bp,k0⟩,a4,a3,I,bh⟩:=a9 C' ρ1 w' e rfl S1 a4 (by cases out<;>first | exact a3 | trivial);simp only[wfl,qd]at bh;obtain⟨⟨b0,b1⟩,b2⟩:=bh;have b7:=nb b2;have aa:=b0;simp only[distinct,qd]at aa
 have av:∀i e,(i,e)∈g->i≠0:=by
  rintro i e A rfl;have:=sT aa.2 A;rw[this]at aa;cases aa.1
 have a8:∀i,i≠0->lget [(0,Ent.frz F0)::g] i=aget g i:=by
  intro i l;rw[wA];simp only[aget];split
  ·rename_i O;exact absurd (qm O) l
  ·rfl
 have ad:lget [(0,Ent.frz F0)::g] 0=some (.frz F0):=rfl;obtain⟨Fs,al,ak⟩:=I.fz;rw[ad]at al;cases al
 generalize hτ:tau sl n Q=τ
 have u:∀i k,i < n->τ i k=(σ i,k):=by
  intro i k l;rw[<-hτ];unfold tau
  have:Nat.ble n i=false:=by
   cases hb:Nat.ble n i with
   |false=>rfl
   |true=>have:=nb hb;omega
  rw[this];exact aw i k
 have E:∀i k,n<=i->τ i k=(Q+(i - n),k):=by
  intro i k l;rw[<-hτ];unfold tau;rw[qbb l]
 have bz:∀i k,τ i k=((τ i 0).1,k):=by
  intro i k;by_cases l:i < n
  ·rw[u i k l,u i 0 l]
  ·rw[E i k oo,E i 0 oo]
 let ρ3:Rho:=fun i=>if i < Q then ρ i else ρ2 (i - Q+n)
 have bx:∀i,i < n->ρ2 i=ρ (σ i):=fun i l=>funext fun k=>I.anch i l k
 have a:∀i,i < Q->ρ3 i=ρ i:=fun i l=>by simp[ρ3,l]
 have Z:∀i,ρ3 (τ i 0).1=ρ2 i:=by
  intro i;by_cases l:i < n
  ·rw[u i 0 l,a _ (au i l),bx i l]
  ·have J:n<=i:=by omega
   rw[E i 0 J];have:¬(Q+(i - n) < Q):=by omega
   have e:Q+(i - n) - Q+n=i:=by omega
   simp only[ρ3,this,if_false,e]
 have ah:τ.pull ρ3=ρ2:=by funext i k;simp only[Mu.pull];rw[bz i k];exact congrFun (Z i) k
 have a0:∀k,ρ3 0 k=k:=fun k=>by rw[a 0 S.pos];exact S.id0 k
 have a6:∀i i',(τ i 0).1=(τ i' 0).1->i=i':=by
  intro i i' c;by_cases l:i < n<;>by_cases J:i' < n
  ·rw[u i 0 l,u i' 0 J]at c;exact af i i' l J c
  ·rw[u i 0 l,E i' 0 oo]at c;have:=au i l;simp only at c;omega
  ·rw[u i' 0 J,E i 0 oo]at c;have:=au i' J;simp only at c;omega
  ·rw[E i 0 oo,E i' 0 oo]at c;simp only at c;omega
 have b8:∀i,i≠0->(τ i 0).1≠0:=by
  intro i l c;apply l;apply a6 i 0;rw[c,u 0 0 oo];exact V.symm
 have ab:∀i e,(i,e)∈g->lget [(0,Ent.frz F0)::g] i=some e:=fun i e A=>by rw[a8 i (av i e A)];exact sT aa.2 A
 have be:∀i e,(i,e)∈g->i < n0:=fun i e A=>I.lt i e (ab i e A)
 have inR:∀i,i≠0->i < n->∃e,(i,e)∈g:=by
  intro i aj l;obtain⟨e,m⟩:=lj b1 i l;simp only[aget]at m;split at m
  ·rename_i O;exact absurd (qm O) aj
  ·exact⟨e,cW m⟩
 have a7:∀j,(∀i e,(i,e)∈g->(τ i 0).1≠j)->∀i,i≠0->i < n->σ i≠j:=by
  intro j hj i aj l;obtain⟨e,m⟩:=inR i aj l;have:=hj i e m
  rwa[u i 0 l]at this
 have ai:∀j k,St.owns H j k->(∀i e,(i,e)∈g->(τ i 0).1≠j)->¬B' (ρ j k):=by
  rintro j k hj bq ⟨i,k',X,M,c⟩;obtain⟨e1,e2,_⟩:=aq i k' X M;exact a7 j bq i X e2 (S.inj _ _ _ _ hj e1 c).1.symm
 have ay:∀b,B' b->C.B b\/C.w0.heap.size<=b:=by
  rintro b ⟨i,k,X,M,rfl⟩;obtain⟨e1,e2,e3⟩:=aq i k X M;exact(S.own _ _ e1).resolve_left (fun h=>e3 h.1)
 have bw:w.heap.size<=w'.heap.size:=I.size
 have look:∀j x,lget (lput (ge H τ g) 0 (.frz F0)) j=some x->(j=0/\x=.frz F0)\/(∃i e,(i,e)∈g/\(τ i 0).1=j/\x=e.ren τ)\/(j≠0/\(∀i e,(i,e)∈g->(τ i 0).1≠j)/\lget H j=some x):=by
  intro j x h;by_cases hj:j=0
  ·subst hj;rw[aR]at h;cases h;exact .inl ⟨rfl,rfl⟩
  ·rw[aM _ _ _ _ hj]at h;rcases tt j x h with h1 | ⟨h1,D⟩
   ·exact .inr (.inl h1)
   ·exact .inr (.inr ⟨hj,h1,D⟩)
 have ag:∀j k,St.owns (lput (ge H τ g) 0 (.frz F0)) j k->(∃i,(τ i 0).1=j/\St.owns [(0,Ent.frz F0)::g] i k)\/(j≠0/\(∀i e,(i,e)∈g->(τ i 0).1≠j)/\St.owns H j k):=by
  rintro j k ⟨x,hx,d⟩;rcases look j x hx with⟨rfl,rfl⟩ | ⟨i,e,A,D,rfl⟩ | ⟨aj,h1,D⟩
  ·exact .inl ⟨0,by rw[u 0 0 oo];exact V,_,ad,d⟩
  ·exact .inl ⟨i,D,⟨e,ab i e A,(Ent.has_ren τ e k).1 d⟩⟩
  ·exact .inr ⟨aj,h1,x,D,d⟩
 have ap:∀j k,St.owns H j k->j < Q:=fun j k ⟨x,hx,_⟩=>S.lt j x hx
 have a5:∀q k,q < n0->(τ q k).1 < Q+(n0 - n):=by
  intro q k hq;by_cases bg:q < n
  ·rw[u q k bg];have:=au q bg;show σ q < _;omega
  ·rw[E q k oo];show Q+(q - n) < _;omega
 have mix:∀i k j k',St.owns [(0,Ent.frz F0)::g] i k->j≠0->(∀i e,(i,e)∈g->(τ i 0).1≠j)->St.owns H j k'->ρ2 i k=ρ j k'->False:=by
  intro i k j k' l Y az W c;rcases I.own i k l with hR | hB | hB
  ·obtain⟨X,hR⟩:=hR;subst X;rw[I.id0]at c;have hz:St.owns H 0 k:=⟨_,hF,hR⟩
   have:=S.inj _ _ _ _ hz W (by rw[S.id0];exact c);exact Y this.1.symm
  ·exact(ai j k' W az) (by rw[<-c];exact hB)
  ·have:=S.blt W;rw[<-c]at this;exact absurd this (Nat.not_lt.2 hB)
 refine⟨L.ren τ,lput (ge H τ g) 0 (.frz F0),Q+(n0 - n),ρ3,by rw[<-hτ];exact hk L F0 g n0 bp k0,?_,?_,fun i l=>a i l,by omega,?_⟩
 ·refine(Out.rel_ren τ ρ3 L e).2 ?_;rw[ah];exact a4
 ·refine{ lt:=?_,blk:=?_,wf:=?_,inj:=?_,anch:=?_,n0:=q8 S.n0 oo,n1:=S.n1,os:=I.os.trans S.os,tape:=I.tape.trans S.tape,output:=I.output.trans S.output,size:=q8 S.size bw,fr:=?_,own:=?_,fz:=⟨F0,aR _ _ _,ak⟩,id0:=a0,only:=?_,lnk:=?_ }
  ·intro j x hx;rcases look j x hx with⟨rfl,rfl⟩ | ⟨i,e,A,rfl,rfl⟩ | ⟨_,_,D⟩
   ·have:=S.pos;omega
   ·exact a5 i 0 (be i e A)
   ·have:=S.lt j x D;omega
  ·intro j x hx k d;rcases look j x hx with⟨rfl,rfl⟩ | ⟨i,e,A,rfl,rfl⟩ | ⟨Y,h1,D⟩
   ·obtain⟨o,M,G⟩:=I.blk 0 _ ad k d;refine⟨o,by rw[a0];rw[I.id0]at M;exact M,?_⟩;obtain⟨B,hB⟩:=js.1 d;simp only[Ent.at,hB,yk]at G ⊢;refine SB.ok_congr (n:=1) (fun i l=>?_) (ak k B hB) G;have:i=0:=by omega
    subst this;funext k;rw[a0,I.id0]
   ·have am:=(Ent.has_ren τ e k).1 d;obtain⟨o,M,G⟩:=I.blk i e (ab i e A) k am
    have ae:e.plain=true:=by
     rcases Ent.has_cases am with h | ⟨F',rfl⟩
     ·exact h
     ·exact absurd (I.only i F' (ab i _ A)) (av i _ A)
    refine⟨o,?_,?_⟩
    ·rw[Z i];exact M
    ·rw[Ent.at_ren τ e k ae];refine(SB.ok_ren τ ρ3 _ o).2 ?_;rw[ah];exact G
   ·obtain⟨o,M,G⟩:=S.blk j x D k d;have bd:=S.lt j x D;refine⟨o,?_,SB.ok_congr (n:=Q) a (S.wf j x D k d) G⟩;rw[a j bd];have bo:=I.fr (ρ j k) (jk.1 M).1 (ai j k ⟨x,D,d⟩ h1);rw[bo];exact M
  ·intro j x hx k d;rcases look j x hx with⟨rfl,rfl⟩ | ⟨i,e,A,rfl,rfl⟩ | ⟨Y,h1,D⟩
   ·obtain⟨B,hB⟩:=js.1 d;simp only[Ent.at,hB,yk];exact SB.below_mono (by have:=S.pos;omega) (ak k B hB)
   ·have am:=(Ent.has_ren τ e k).1 d
    have ae:e.plain=true:=by
     rcases Ent.has_cases am with h | ⟨F',rfl⟩
     ·exact h
     ·exact absurd (I.only i F' (ab i _ A)) (av i _ A)
    rw[Ent.at_ren τ e k ae];exact below_ren a5 (I.wf i e (ab i e A) k am)
   ·exact SB.below_mono oo (S.wf j x D k d)
  ·intro j k j' k' M bs c;rcases ag j k M with⟨i,rfl,l⟩ | ⟨Y,h1,D⟩<;>rcases ag j' k' bs with⟨i',rfl,J⟩ | ⟨bc,az,W⟩
   ·rw[Z i,Z i']at c;have h:=I.inj _ _ _ _ l J c;exact⟨by rw[h.1],h.2⟩
   ·rw[Z i,a j' (ap j' k' W)]at c;exact(mix i k j' k' l bc az W c).elim
   ·rw[Z i',a j (ap j k D)]at c;exact(mix i' k' j k J Y h1 D c.symm).elim
   ·rw[a j (ap j k D),a j' (ap j' k' W)]at c;exact S.inj _ _ _ _ D W c
  ·intro i l k;have:=S.n0;rw[a i oo];exact S.anch i l k
  ·intro b O hB;have h1:b < w.heap.size:=y4 O S.size
   have D:¬B' b:=fun bl=>by
    rcases ay b bl with h | h
    ·exact hB h
    ·omega
   rw[I.fr b h1 D];exact S.fr b O hB
  ·intro j k M;rcases ag j k M with⟨i,rfl,l⟩ | ⟨Y,h1,D⟩
   ·rw[Z i];rcases I.own i k l with hR | hB | hB
    ·obtain⟨X,hR⟩:=hR;subst X;have hz:St.owns H 0 k:=⟨_,hF,hR⟩
     have:=S.own 0 k hz;rw[S.id0]at this;rw[I.id0,u 0 0 oo];exact this.imp (fun h=>⟨V,h.2⟩) id
    ·exact .inr (ay _ hB)
    ·exact .inr (.inr (q8 S.size hB))
   ·rw[a j (ap j k D)];exact S.own j k D
  ·intro j F' ar;rcases look j _ ar with⟨rfl,_⟩ | ⟨i,e,A,rfl,m⟩ | ⟨Y,h1,D⟩
   ·rfl
   ·cases e<;>simp only[Ent.ren]at m<;>first | exact absurd (I.only i _ (ab i _ A)) (av i _ A) | cases m
   ·exact S.only j F' D
  ·intro j b hl k;rcases look j _ hl with⟨rfl,h⟩ | ⟨i,e,A,rfl,m⟩ | ⟨Y,h1,D⟩
   ·cases h
   ·cases e<;>simp only[Ent.ren]at m<;>first | cases m | skip
    rw[Z i];exact I.lnk i b (ab i _ A) k
   ·rw[a j (S.lt j _ D)];exact S.lnk j b D k
 ·cases L with
  |ret v=>exact SV.below_ren a5 a3
  |panic v=>trivial
def SA.bB(n:Nat):SA->Bool
 |.ptr p=>Nat.ble (p.i+1) n
 |.slice nil i ..=>Nat.ble (i+1) n||nil
 |.fn _ cap=>cap.all fun p=>Nat.ble (p.i+1) n
 |.iter i _=>Nat.ble (i+1) n
 |.map i _=>Nat.ble (i+1) n
 |_=>true
def SC.bB(n:Nat):SC->Bool
 |.va a=>a.bB n
 |.agg l=>l.all (SA.bB n)
def SV.bB(n:Nat):SV->Bool
 |.va a=>a.bB n
 |.agg l=>l.all (SA.bB n)
 |.tup l=>l.all (SC.bB n)
 |.junk=>true
theorem SA.bB_ok(h:a.bB n=true):a.below n:=by
 cases a<;>simp only[SA.bB,SA.below]at*<;>first | trivial | exact nb h | skip
 ·rename_i nil i k e sz len cap;simp only[qah]at h;rcases h with h | h
  ·exact .inr (nb h)
  ·exact .inl h
 ·intro p b;exact nb (qp.1 h p b)
theorem SV.bB_ok(h:v.bB n=true):v.below n:=by
 cases v with
 |va a=>exact SA.bB_ok h
 |agg l=>exact fun a b=>SA.bB_ok (qp.1 h a b)
 |tup l=>
  intro c d;have:=qp.1 h c d;cases c with
  |va a=>exact SA.bB_ok this
  |agg l=>exact fun a b=>SA.bB_ok (qp.1 this a b)
 |junk=>trivial
def Out.bB(n:Nat):Out->Bool
 |.ret v=>v.bB n
 |.panic _=>true
theorem Out.bB_ok{o:Out}(h:o.bB n=true):o.below n:=by
 cases o with
 |ret v=>exact SV.bB_ok h
 |panic v=>trivial
def SB.bB(n:Nat):SB->Bool
 |.cells _ l=>l.all (SA.bB n)
 |.arr _ _ L _=>L.all fun x=>x.all (SA.bB n)
 |.obj _=>true
theorem SB.bB_ok{b:SB}(h:b.bB n=true):b.below n:=by
 cases b with
 |cells t l=>exact fun a c=>SA.bB_ok (qp.1 h a c)
 |arr t sz L room=>exact fun x d a c=>SA.bB_ok (qp.1 (qp.1 h x d) a c)
 |obj o=>trivial
theorem Sat.freeze{C:Ctx}{ρ:Rho}{h:Hp}{nx:Nat}{w:World}(S:Sat C ρ h nx w){i:Nat}{e:Ent}{F:Fz}(I:lget h i=some e)(hp:e.plain=true)(U:lget h 0=some (.frz F))(f:Nat->SB)
  (hf:∀k,e.has k->(e.at k).ren (resP h)=f k)(hb:∀k,e.has k->(f k).below 1):
  ∃p,Fz.le F p/\(∀k,e.has k->F (ρ i k)=none/\p (ρ i k)=some (f k))/\Sat C ρ (lput (lput h i (.lnk (ρ i))) 0 (.frz p)) nx w:=by
 classical
 have A:=S.ne0 I hp;obtain⟨Fs,R,Q⟩:=S.fz;rw[U]at R;cases R
 let p:Fz:=fun x=>if c:∃k,e.has k/\ρ i k=x then some (f (Classical.choose c))else F x
 have u:∀k,e.has k->F (ρ i k)=none:=by
  intro k d;cases hz:F (ρ i k)with
  |none=>rfl
  |some B=>
   have O:St.owns h 0 (ρ i k):=⟨_,U,by simp[Ent.has,hz]⟩
   have:=S.inj _ _ _ _ O ⟨e,I,d⟩ (S.id0 _);exact absurd this.1.symm A
 have V:∀k,e.has k->p (ρ i k)=some (f k):=by
  intro k d;have c:∃n,e.has n/\ρ i n=ρ i k:=⟨k,d,rfl⟩
  simp only[p];rw[dif_pos c];have T:=Classical.choose_spec c;have:=(S.inj _ _ _ _ ⟨e,I,T.1⟩ ⟨e,I,d⟩ T.2).2;rw[this]
 have g:∀x B,p x=some B->(∃k,e.has k/\ρ i k=x/\B=f k)\/F x=some B:=by
  intro x B l;simp only[p]at l;split at l
  ·rename_i c;have T:=Classical.choose_spec c;cases l
   exact .inl ⟨_,T.1,T.2,rfl⟩
  ·exact .inr l
 have Y:Fz.le F p:=by
  intro x B l;simp only[p];split
  ·rename_i c;obtain⟨k,d,rfl⟩:=c;rw[u k d]at l;cases l
  ·exact l
 have aa:∀k,e.has k->∀o,(e.at k).ok ρ o->(f k).ok ρ o:=by
  intro k d o D;rw[<-hf k d];refine(SB.ok_ren (resP h) ρ _ o).2 ?_;rw[kj S];exact D
 refine⟨p,Y,fun k d=>⟨u k d,V k d⟩,?_⟩
 have look:∀j x,lget (lput (lput h i (.lnk (ρ i))) 0 (.frz p)) j=some x->(j=0/\x=.frz p)\/(j=i/\x=.lnk (ρ i))\/(j≠0/\j≠i/\lget h j=some x):=by
  intro j x c;by_cases K:j=0
  ·subst K;rw[aR]at c;cases c;exact .inl ⟨rfl,rfl⟩
  ·rw[aM _ _ _ _ K]at c;by_cases L:j=i
   ·subst L;rw[aR]at c;cases c;exact .inr (.inl ⟨rfl,rfl⟩)
   ·rw[aM _ _ _ _ L]at c;exact .inr (.inr ⟨K,L,c⟩)
 have y:∀j k,St.owns (lput (lput h i (.lnk (ρ i))) 0 (.frz p)) j k->∃j' n,St.owns h j' n/\ρ j' n=ρ j k/\((j'=j/\n=k)\/(j=0/\j'=i)):=by
  rintro j k ⟨x,c,d⟩;rcases look j x c with⟨rfl,rfl⟩ | ⟨rfl,rfl⟩ | ⟨h1,M,q⟩
  ·obtain⟨B,l⟩:=js.1 d;rcases g k B l with⟨n,m,s,_⟩ | hB'
   ·exact⟨i,n,⟨e,I,m⟩,by rw[S.id0];exact s,.inr ⟨rfl,rfl⟩⟩
   ·exact⟨0,k,⟨_,U,by simp[Ent.has,hB']⟩,rfl,.inl ⟨rfl,rfl⟩⟩
  ·exact d.elim
  ·exact⟨j,k,⟨x,q,d⟩,rfl,.inl ⟨rfl,rfl⟩⟩
 refine{ lt:=?_,blk:=?_,wf:=?_,inj:=?_,anch:=S.anch,n0:=S.n0,n1:=S.n1,os:=S.os,tape:=S.tape,output:=S.output,size:=S.size,fr:=S.fr,own:=?_,fz:=⟨p,aR _ _ _,?_⟩,id0:=S.id0,only:=?_,lnk:=?_ }
 ·intro j x c;rcases look j x c with⟨rfl,rfl⟩ | ⟨rfl,rfl⟩ | ⟨h1,M,q⟩
  ·exact S.pos
  ·exact S.lt _ _ I
  ·exact S.lt _ _ q
 ·intro j x c k d;rcases look j x c with⟨rfl,rfl⟩ | ⟨rfl,rfl⟩ | ⟨h1,M,q⟩
  ·obtain⟨B,l⟩:=js.1 d;simp only[Ent.at,l,yk];rw[S.id0];rcases g k B l with⟨n,m,s,rfl⟩ | hB'
   ·obtain⟨o,D,E⟩:=S.blk _ e I n m;rw[s]at D;exact⟨o,D,aa n m o E⟩
   ·obtain⟨o,D,E⟩:=S.blk 0 _ U k (by simp[Ent.has,hB']);simp only[Ent.at,hB',yk]at E;rw[S.id0]at D;exact⟨o,D,E⟩
  ·exact d.elim
  ·exact S.blk _ _ q k d
 ·intro j x c k d;rcases look j x c with⟨rfl,rfl⟩ | ⟨rfl,rfl⟩ | ⟨h1,M,q⟩
  ·obtain⟨B,l⟩:=js.1 d;simp only[Ent.at,l,yk];rcases g k B l with⟨n,m,s,rfl⟩ | hB'
   ·exact SB.below_mono S.pos (hb n m)
   ·exact SB.below_mono S.pos (Q k B hB')
  ·exact d.elim
  ·exact S.wf _ _ q k d
 ·intro j k j' n h1 M J;obtain⟨a,b,Z,r1,W⟩:=y j k h1;obtain⟨a',b',o2,r2,c2⟩:=y j' n M;have:=S.inj _ _ _ _ Z o2 (by rw[r1,r2];exact J);rcases W with⟨rfl,rfl⟩ | ⟨rfl,rfl⟩<;>rcases c2 with⟨rfl,rfl⟩ | ⟨rfl,rfl⟩
  ·exact this
  ·exfalso;have K:=this.1;subst K;obtain⟨x,c,d⟩:=h1;rcases look _ x c with⟨O,_⟩ | ⟨_,rfl⟩ | ⟨_,G,_⟩
   ·exact A O
   ·exact d.elim
   ·exact G rfl
  ·exfalso;have K:=this.1;subst K;obtain⟨x,c,d⟩:=M;rcases look _ x c with⟨O,_⟩ | ⟨_,rfl⟩ | ⟨_,G,_⟩
   ·exact A O
   ·exact d.elim
   ·exact G rfl
  ·rw[S.id0,S.id0]at J;exact⟨rfl,J⟩
 ·intro j k D;obtain⟨a,b,Z,r1,W⟩:=y j k D;have:=S.own a b Z;rw[r1]at this;rcases W with⟨rfl,rfl⟩ | ⟨rfl,rfl⟩
  ·exact this
  ·exact .inr (this.resolve_left (fun h=>A h.1))
 ·intro b B l;rcases g b B l with⟨n,m,s,rfl⟩ | hB'
  ·exact hb n m
  ·exact Q b B hB'
 ·intro j F1 X;rcases look j _ X with⟨rfl,_⟩ | ⟨_,h⟩ | ⟨_,_,q⟩
  ·rfl
  ·cases h
  ·exact S.only _ _ q
 ·intro j b hl k;rcases look j _ hl with⟨_,h⟩ | ⟨rfl,h⟩ | ⟨_,_,q⟩
  ·cases h
  ·cases h;rfl
  ·exact S.lnk _ _ q k
section
variable {P:Program} {h:Hp} {nx:Nat} {i:Nat} {e:Ent} {F:Fz}
theorem mB{f:FuncId}{args:List SV}{K:Out->Hp->Nat->Prop}(i:Nat)(fb:Nat->SB)(n:lget h i=some e)(l:lget h 0=some (.frz F))(q:e.plain=true)
  (o:∀k,e.has k->(e.at k).ren (resP h)=fb k)(m:∀k,e.has k->(fb k).below 1)
  (p:∀b a,Fz.le F a->(∀k,e.has k->a (b k)=some (fb k))->za6 P f args (lput (lput h i (.lnk b)) 0 (.frz a)) nx K):za6 P f args h nx K:=by
 unfold za6 at*;intro C ρ w vs S s c;obtain⟨a,h1,j,g⟩:=S.freeze n q l fb o m;exact p (ρ i) a h1 (fun k d=>(j k d).2) C ρ w vs g s c
theorem cD{n:Nat}{f:Out->Fz->List (Nat×Ent)->Nat->Prop}{out:Out}(i:Nat)(fb:Nat->SB)(p:lget h i=some e)(m:lget h 0=some (.frz F))(x:e.plain=true)
  (q:∀k,e.has k->(e.at k).ren (resP h)=fb k)(o:∀k,e.has k->(fb k).below 1)
  (s:∀b a,Fz.le F a->(∀k,e.has k->a (b k)=some (fb k))->Cln n f out (lput (lput h i (.lnk b)) 0 (.frz a)) nx):Cln n f out h nx:=by
 unfold Cln at*;intro C ρ w j u S y c;obtain⟨a,h1,l,g⟩:=S.freeze p x m fb q o;exact s (ρ i) a h1 (fun k d=>(l k d).2) C ρ w j u g y c
theorem pU{c:Code}{d:St}{Q:SE->St->Prop}(i:Nat)(fb:Nat->SB)(o:lget d.h i=some e)(m:lget d.h 0=some (.frz F))(s:e.plain=true)
  (p:∀k,e.has k->(e.at k).ren (resP d.h)=fb k)(n:∀k,e.has k->(fb k).below 1)
  (q:∀b f,Fz.le F f->(∀k,e.has k->f (b k)=some (fb k))->WP P c { d with h:=lput (lput d.h i (.lnk b)) 0 (.frz f) } Q):WP P c d Q:=by
 unfold WP at*;intro C ρ a w D;obtain⟨f,h1,l,j⟩:=D.sat.freeze o s m fb p n;exact q (ρ i) f h1 (fun k g=>(l k g).2) C ρ a w { sat:=j,nt:=D.nt,tm:=D.tm,tw:=D.tw,n0:=D.n0,df:=D.df,dw:=D.dw }
theorem borrow{f:FuncId}{args:List SV}{K:Out->Hp->Nat->Prop}(i:Nat)(fb:Nat->SB)(E:lget h i=some e)(hF:lget h 0=some (.frz F))(Q:e.plain=true)
  (hf:∀k,e.has k->(e.at k).ren (resP h)=fb k)(hb:∀k,e.has k->(fb k).below 1)
  (hk:∀b O,Fz.le F O->(∀k,e.has k->O (b k)=some (fb k))->za6 P f args (lput (lput h i (.lnk b)) 0 (.frz O)) nx
   (fun out q L=>∃X,lget q 0=some (.frz X)/\Fz.le O X/\lget q i=some (.lnk b)/\(∀k,e.has k->∀(ρ M:Rho) (o:Obj),(∀j,j < nx->M j=ρ j)->(fb k).ok M o->(e.at k).ok M o)/\K out (lput (lput q i e) 0 (.frz F)) L)):za6 P f args h nx K:=by
 unfold za6 at*;intro C ρ w vs S hr ac;obtain⟨O,h1,Z,S'⟩:=S.freeze E Q hF fb hf hb;obtain⟨ad,D⟩:=hk (ρ i) O h1 (fun k a=>(Z k a).2) C ρ w vs S' hr ac;refine⟨ad,D.mono ?_⟩;rintro en w' ⟨out,q,L,M,⟨X,Y,y,gi,aa,hK⟩,k2,c,k4,k5,k6⟩;refine⟨out,_,L,M,hK,k2,?_,k4,k5,k6⟩;have ae:=S.ne0 E Q;obtain⟨Fs,U,T⟩:=S.fz;rw[hF]at U;cases U
 have n:M i=ρ i:=k4 i (S.lt _ _ E)
 have look:∀j x,lget (lput (lput q i e) 0 (.frz F)) j=some x->(j=0/\x=.frz F)\/(j=i/\x=e)\/(j≠0/\j≠i/\lget q j=some x):=by
  intro j x d;by_cases G:j=0
  ·subst G;rw[aR]at d;cases d;exact .inl ⟨rfl,rfl⟩
  ·rw[aM _ _ _ _ G]at d;by_cases I:j=i
   ·subst I;rw[aR]at d;cases d;exact .inr (.inl ⟨rfl,rfl⟩)
   ·rw[aM _ _ _ _ I]at d;exact .inr (.inr ⟨G,I,d⟩)
 have f2:∀k,e.has k->X (ρ i k)=some (fb k):=fun k a=>y _ _ (Z k a).2
 have p:∀j k,St.owns (lput (lput q i e) 0 (.frz F)) j k->(j≠i/\St.owns q j k)\/(j=i/\e.has k/\St.owns q 0 (ρ i k)):=by
  rintro j k ⟨x,d,a⟩;rcases look j x d with⟨rfl,rfl⟩ | ⟨rfl,rfl⟩ | ⟨V,g,s⟩
  ·obtain⟨B,A⟩:=js.1 a;exact .inl ⟨Ne.symm ae,_,Y,by simp[Ent.has,y k B (h1 k B A)]⟩
  ·exact .inr ⟨rfl,a,_,Y,by simp[Ent.has,f2 k a]⟩
  ·exact .inl ⟨g,x,s,a⟩
 have u:∀k,St.owns (lput (lput q i e) 0 (.frz F)) 0 k->(F k).isSome=true:=by
  rintro k ⟨x,d,a⟩;rw[aR]at d;cases d;exact a
 refine{ lt:=?_,blk:=?_,wf:=?_,inj:=?_,anch:=c.anch,n0:=c.n0,n1:=c.n1,os:=c.os,tape:=c.tape,output:=c.output,size:=c.size,fr:=c.fr,own:=?_,fz:=⟨F,aR _ _ _,T⟩,id0:=c.id0,only:=?_,lnk:=?_ }
 ·intro j x d;rcases look j x d with⟨rfl,rfl⟩ | ⟨rfl,rfl⟩ | ⟨V,g,s⟩
  ·exact c.pos
  ·exact c.lt _ _ gi
  ·exact c.lt _ _ s
 ·intro j x d k a;rcases look j x d with⟨rfl,rfl⟩ | ⟨rfl,rfl⟩ | ⟨V,g,s⟩
  ·obtain⟨B,A⟩:=js.1 a;have R:=y k B (h1 k B A);obtain⟨o,ho,m⟩:=c.blk 0 _ Y k (by simp[Ent.has,R]);simp only[Ent.at,R,A,yk]at m ⊢;exact⟨o,ho,m⟩
  ·obtain⟨o,ho,m⟩:=c.blk 0 _ Y (ρ j k) (by simp[Ent.has,f2 k a]);simp only[Ent.at,f2 k a,yk]at m;rw[c.id0]at ho;refine⟨o,by rw[n];exact ho,?_⟩;exact aa k a ρ M o k4 m
  ·exact c.blk _ _ s k a
 ·intro j x d k a;rcases look j x d with⟨rfl,rfl⟩ | ⟨rfl,rfl⟩ | ⟨V,g,s⟩
  ·obtain⟨B,A⟩:=js.1 a;simp only[Ent.at,A,yk];exact SB.below_mono c.pos (T k B A)
  ·exact SB.below_mono k5 (S.wf _ _ E k a)
  ·exact c.wf _ _ s k a
 ·intro j k j' k' o1 o2 l;rcases p j k o1 with⟨V,g⟩ | ⟨rfl,g,s⟩<;>rcases p j' k' o2 with⟨r1,W⟩ | ⟨rfl,W,r3⟩
  ·exact c.inj _ _ _ _ g W l
  ·have:=c.inj _ _ _ _ g r3 (by rw[l,c.id0,n]);have G:=this.1;subst G;have J:=this.2;subst J;have:=u _ o1;rw[(Z k' W).1]at this;cases this
  ·have:=c.inj _ _ _ _ W s (by rw[<-l,c.id0,n]);have G:=this.1;subst G;have J:=this.2;subst J;have:=u _ o2;rw[(Z k g).1]at this;cases this
  ·rw[n]at l;exact S.inj _ _ _ _ ⟨e,E,g⟩ ⟨e,E,W⟩ l
 ·intro j k o1;rcases p j k o1 with⟨V,g⟩ | ⟨rfl,g,s⟩
  ·exact c.own _ _ g
  ·rw[n];exact S.own _ _ ⟨e,E,g⟩
 ·intro j F1 ab;rcases look j _ ab with⟨rfl,_⟩ | ⟨rfl,h⟩ | ⟨_,_,h3⟩
  ·rfl
  ·rw[<-h]at Q;cases Q
  ·exact c.only _ _ h3
 ·intro j b hl k;rcases look j _ hl with⟨_,h⟩ | ⟨rfl,h⟩ | ⟨_,_,h3⟩
  ·cases h
  ·rw[<-h]at Q;cases Q
  ·exact c.lnk _ _ h3 k
end
def SA.z:SA->Bool
 |.ptr p=>Nat.beq p.i 0
 |.slice _ i ..=>Nat.beq i 0
 |.fn _ cap=>cap.all fun p=>Nat.beq p.i 0
 |.iter i _=>Nat.beq i 0
 |.map i _=>Nat.beq i 0
 |_=>true
def SC.z:SC->Bool
 |.va a=>a.z
 |.agg l=>l.all SA.z
def SV.z:SV->Bool
 |.va a=>a.z
 |.agg l=>l.all SA.z
 |.tup l=>l.all SC.z
 |.junk=>true
def Out.z:Out->Bool
 |.ret v=>v.z
 |.panic _=>true
theorem SA.z_below(h:a.z=true):a.below 1:=by
 cases a with
 |ptr p=>have:=qm (show Nat.beq p.i 0=true from h);show p.i < 1;omega
 |slice nil i k e sz len cap=>have:=qm (show Nat.beq i 0=true from h);right;omega
 |fn f cap=>
  intro p b;have:=qm (qp.1 (show(cap.all fun p=>Nat.beq p.i 0)=true from h) p b);omega
 |iter i k=>have:=qm (show Nat.beq i 0=true from h);show i < 1;omega
 |map i k=>have:=qm (show Nat.beq i 0=true from h);show i < 1;omega
 |_=>trivial
theorem SV.z_below(h:v.z=true):v.below 1:=by
 cases v with
 |va a=>exact SA.z_below h
 |agg l=>exact fun a b=>SA.z_below (qp.1 h a b)
 |tup l=>
  intro c d;have:=qp.1 h c d;cases c with
  |va a=>exact SA.z_below this
  |agg l=>exact fun a b=>SA.z_below (qp.1 this a b)
 |junk=>trivial
theorem Out.z_below{o:Out}(h:o.z=true):o.below 1:=by
 cases o with
 |ret v=>exact SV.z_below h
 |panic v=>trivial
theorem ft{α:Type}{f:α->α}:∀{l:List α},(∀a∈l,f a=a)->l.map f=l
 |[],_=>rfl
 |a::r,h=>by simp only[qw];rw[h a ss,ft (fun a b=>h a (by simp[b]))]
theorem SA.ren_id{μ:Mu}(h:a.z=true\/∀i k,μ i k=(i,k))(c:∀k,μ 0 k=(0,k)):a.ren μ=a:=by
 have b:∀i k,(Nat.beq i 0=true\/∀i k,μ i k=(i,k))->μ i k=(i,k):=by
  intro i k h;rcases h with h | h
  ·rw[qm h];exact c k
  ·exact h i k
 cases a with
 |ptr p=>obtain⟨i,k,e,sz,o⟩:=p;simp[SA.ren,Pl.ren,b i k h]
 |slice nil i k e sz len cap=>simp[SA.ren,b i k h]
 |fn f cap=>
  simp only[SA.ren]
  congr 1
  refine ft fun p d=>?_
  obtain⟨i,k,e,sz,o⟩:=p;have:Nat.beq i 0=true\/∀i k,μ i k=(i,k):=h.imp (fun h=>qp.1 (show(cap.all fun p=>Nat.beq p.i 0)=true from h) _ d) id;simp[Pl.ren,b i k this]
 |iter i k=>simp[SA.ren,b i k h]
 |map i k=>simp[SA.ren,b i k h]
 |_=>rfl
theorem SV.ren_id{μ:Mu}(h:v.z=true\/∀i k,μ i k=(i,k))(b:∀k,μ 0 k=(0,k)):v.ren μ=v:=by
 cases v with
 |va a=>simp only[SV.ren];rw[SA.ren_id h b]
 |agg l=>simp only[SV.ren];rw[ft fun a d=>SA.ren_id (h.imp (fun h=>qp.1 h a d) id) b]
 |tup l=>
  simp only[SV.ren];rw[ft fun c g=>?_];have f:c.z=true\/∀i k,μ i k=(i,k):=h.imp (fun h=>qp.1 (show l.all SC.z=true from h) _ g) id;cases c with
  |va a=>simp only[SC.ren];rw[SA.ren_id f b]
  |agg l=>simp only[SC.ren];rw[ft fun a d=>SA.ren_id (f.imp (fun h=>qp.1 (show l.all SA.z=true from h) a d) id) b]
 |junk=>rfl
theorem Out.ren_id{o:Out}{μ:Mu}(h:o.z=true\/∀i k,μ i k=(i,k))(a:∀k,μ 0 k=(0,k)):o.ren μ=o:=by
 cases o with
 |ret v=>simp only[Out.ren];rw[SV.ren_id h a]
 |panic v=>rfl
theorem iK(i k:Nat):sig [] i k=(i,k):=rfl
theorem ws:∀l:List SV,dQ (sig []) l=l
 |[]=>rfl
 |s::r=>by simp only[dQ];rw[SV.ren_id (.inr iK) (iK 0),ws r]
def FoK(F:Fz)(Q:Out->Fz->Prop):Out->Fz->List (Nat×Ent)->Nat->Prop:=fun o a h m=>Fz.le F a/\h=[]/\m=1/\o.z=true/\Q o a
def Fo(P:Program)(F:Fz)(f:FuncId)(args:List SV)(Q:Out->Fz->Prop):Prop:=za6 P f args [[(0,.frz F)]] 1 (Cln 1 (FoK F Q))
def Pu(P:Program)(f:FuncId)(args:List SV)(v:SV):Prop:=∀F,Fo P F f args fun o a=>o=.ret v/\a=F
variable {Q:Out->Fz->Prop}
theorem endFo{F F1:Fz}{u:Out}{h:Hp}{nx:Nat}(out:Out)(b:Fz)(f:lget h 0=some (.frz F1))(c:Fz.le F b)(a:Fz.le b F1)(j:Q out b)(g:outE out (u.ren (resP h)))(d:out.z=true):
  Cln 1 (FoK F Q) u h nx:=
 clean [] out b [] 1 ⟨c,rfl,rfl,d,j⟩ (by rw[Out.ren_id (.inr iK) (iK 0)];exact g) rfl rfl (Out.z_below d) trivial ⟨by simp only[entE,aget,Ent.ren];rw[f];exact a,tv⟩
theorem endPu{F F1:Fz}{u:Out}{h:Hp}{nx:Nat}(c:lget h 0=some (.frz F1))(a:Fz.le F F1)(f:outE (.ret v) (u.ren (resP h)))(d:v.z=true):
  Cln 1 (FoK F fun o b=>o=.ret v/\b=F) u h nx:=
 endFo (.ret v) F c (Fz.r F) a ⟨rfl,rfl⟩ f d
theorem Fo.ct{P:Program}{F:Fz}(h:Fo P F f args Q):Ct P f args F [] 1 fun o a h m=>h=[]/\m=1/\o.z=true/\Q o a:=h
theorem useFo{P:Program}{F:Fz}{a:List SV}{H:Hp}{g:Nat}(o:Fo P F f a Q)(m:lget H 0=some (.frz F))(c:argsE a (dQ (resP H) args))(n:(a.all SV.z)=true)
  (p:∀out d,Fz.le F d->Q out d->K out (lput H 0 (.frz d)) g):za6 P f args H g K:=by
 refine use o.ct [] m (by rw[ws];exact c) rfl trivial (fun s u=>SV.z_below (qp.1 n s u)) trivial ?_;rintro b l _ _ j ⟨rfl,rfl,w,q⟩;have e:Out.ren (tau [] 1 g) b=b:=Out.ren_id (.inl w) (fun k=>rfl);rw[e];exact p b l j q
theorem usePu{P:Program}{F:Fz}{a:List SV}{H:Hp}{d:Nat}(k:Fo P F f a fun o c=>o=.ret v/\c=F)(g:lget H 0=some (.frz F))(b:argsE a (dQ (resP H) args))(j:(a.all SV.z)=true)
  (l:K (.ret v) (lput H 0 (.frz F)) d):za6 P f args H d K:=by
 refine useFo k g b j ?_;rintro out c _ ⟨rfl,rfl⟩;exact l
theorem fo_of{P:Program}{Θ:Tys}(hΘ:Θ.Ok P){fn:Func}{c:Code}{F:Fz}(j:P.funcs[f]? =some fn)(g:fn.body=some c)(l:(fn.name== "runtime.NumGoroutine")=false)
  (nt:Nat)(d:List ResultVar)(a:fn.ntmps=nt)(b:fn.results.toList=d)(k:Nat.ble args.length nt=true)
  (m:sx P Θ c ⟨[dV 0 args],[[(0,.frz F)]],1,1,nt,[]⟩ (endQ Θ d (Cln 1 (FoK F Q)))):Fo P F f args Q:=
 g8 hΘ j g l nt d a b k (ec hΘ _ _ _ m)
theorem ct_of{P:Program}{Θ:Tys}(hΘ:Θ.Ok P){fn:Func}{c:Code}{F:Fz}{k:List (Nat×Ent)}{j:Out->Fz->List (Nat×Ent)->Nat->Prop}(p:P.funcs[f]? =some fn)(m:fn.body=some c)(s:(fn.name== "runtime.NumGoroutine")=false)
  (nt:Nat)(d:List ResultVar)(a:fn.ntmps=nt)(b:fn.results.toList=d)(q:Nat.ble args.length nt=true)
  (u:sx P Θ c ⟨[dV 0 args],[(0,.frz F)::k],n,n,nt,[]⟩ (endQ Θ d (Cln n (fun o g l n0=>Fz.le F g/\j o g l n0)))):Ct P f args F k n j:=
 g8 hΘ p m s nt d a b q (ec hΘ _ _ _ u)
def SlR{α:Type}(F:Fz)(t sz:Nat)(R:List SA->α->Prop)(a:SA)(l:List α):Prop:=
 ∃nil b e cap L c,a=.slice nil 0 b e sz l.length cap/\(nil=true->l=[])/\(nil=false->F b=some (.arr t sz L c))/\e+l.length<=L.length/\
  ∀(k:Nat) x,l[k]? =some x->∃y,L[e+k]? =some y/\R y x
def Sl{α:Type}(F:Fz)(t sz:Nat)(enc:α->List SA)(a:SA)(l:List α):Prop:=
 ∃nil b e cap L c,a=.slice nil 0 b e sz l.length cap/\(nil=true->l=[])/\(nil=false->F b=some (.arr t sz L c))/\e+l.length<=L.length/\(L.drop e).take l.length=l.map enc
variable {sz:Nat}{α:Type}{l:List α}
theorem SlR.mono{F f:Fz}{t:Nat}{R g:List SA->α->Prop}(h:SlR F t sz R a l)(d:Fz.le F f)(s:∀y x,R y x->g y x):SlR f t sz g a l:=by
 obtain⟨nil,b,e,cap,L,c,h1,j,m,n,o⟩:=h;refine⟨nil,b,e,cap,L,c,h1,j,fun q=>d _ _ (m q),n,fun k x u=>?_⟩;obtain⟨y,w,p⟩:=o k x u;exact⟨y,w,s y x p⟩
variable {enc:α->List SA}
theorem Sl.mono{F f:Fz}{t:Nat}(h:Sl F t sz enc a l)(d:Fz.le F f):Sl f t sz enc a l:=by
 obtain⟨nil,b,e,cap,L,c,h1,g,j,k⟩:=h;exact⟨nil,b,e,cap,L,c,h1,g,fun m=>d _ _ (j m),k⟩
theorem Sl.nil{F:Fz}{t:Nat}:Sl F t sz enc (.slice true 0 0 0 sz 0 0) []:=⟨true,0,0,0,[],0,rfl,fun _=>rfl,(fun h=>by cases h),by simp,rfl⟩
theorem Sl.new{F:Fz}{t:Nat}{b cap a:Nat}(c:F b=some (.arr t sz (l.map enc) a)):Sl F t sz enc (.slice false 0 b 0 sz l.length cap) l:=
 ⟨false,b,0,cap,_,a,rfl,(fun h=>by cases h),fun _=>c,by simp,by simp[ql]⟩
theorem Sl.lt{nil:Bool}(b:nil=true->l=[]){k:Nat}(a:k < l.length):nil=false:=by
 cases nil with
 |false=>rfl
 |true=>rw[b rfl]at a;cases a
theorem Sl.at{e:Nat}{L:List (List SA)}(h:(L.drop e).take l.length=l.map enc){k:Nat}(a:k < l.length):L[e+(k:Int).toNat]? =some (enc l[k]):=by
 have h1:((L.drop e).take l.length)[k]? =some (enc l[k]):=by rw[h];simp[a]
 rw[qaz a,yz]at h1;simpa using h1
end Sx
