import Derived.Test.YtfnkamphhpldcaaGreatDoorK05
set_option maxHeartbeats 64000000
namespace Sx
open Go
def Out.ren (μ:Mu):Out → Out
 |.ret v=>.ret (v.ren μ)
 |.panic v=>.panic v
def Out.below (n:Nat):Out → Prop
 |.ret v=>v.below n
 |.panic _=>True
def distinct:List (Nat × Ent) → Bool
 |[]=>true
 |(i,_) :: r=>(aget r i).isNone && distinct r
def covers (l:List (Nat × Ent)):Nat → Bool
 |0=>true
 |n + 1=>(aget l n).isSome && covers l n
theorem zln {l:List (Nat × Ent)} (a:distinct l = true) {i:Nat} {e:Ent} (h:(i,e) ∈ l):aget l i = some e:=by
 induction l with
 |nil=>simp at h
 |cons p r ih=>
  obtain ⟨m,u⟩:=p;simp only [distinct,qf] at a;rcases qj.1 h with h | h
  ·cases h; simp [aget]
  ·have:=ih a.2 h;simp only [aget];split
   ·rename_i b;have:=qk b;subst this;rw [this] at a; simp at a
   ·exact this
theorem zg3 {l:List (Nat × Ent)}:∀ {n:Nat},covers l n = true → ∀ i,i < n → ∃ e,aget l i = some e
 |0,_,i,h=>by omega
 |n + 1,hc,i,h=>by
  simp only [covers,qf] at hc;by_cases a:i = n
  ·subst a; exact jk.1 hc.1
  ·exact zg3 hc.2 i (by omega)
def resP (h:Hp):Mu:=fun i k=>
 match lget h i with
 |some (.lnk b)=>(0,b k)
 |_=>(i,k)
theorem zir {C:Ctx} {ρ:Rho} {h:Hp} {nx:Nat} {w:World} (S:Sat C ρ h nx w):(resP h).pull ρ = ρ:=by
 funext i k
 simp only [Mu.pull,resP];split
 ·rename_i b a; rw [S.id0,S.lnk i b a k]
 ·rfl
theorem Out.rel_ren (μ:Mu) (ρ:Rho) (o:Out) (e:Ending):(o.ren μ).rel ρ e ↔ o.rel (μ.pull ρ) e:=by
 cases o with
 |ret v=>
  simp only [Out.ren,Out.rel];exact ⟨fun ⟨x,h1,a⟩=>⟨x,h1,(SV.rel_ren μ ρ v x).1 a⟩,fun ⟨x,h1,a⟩=>⟨x,h1,(SV.rel_ren μ ρ v x).2 a⟩⟩
 |panic v=>exact Iff.rfl
def outE:Out → Out → Prop
 |.ret w,.ret a=>svE w a
 |w,a=>w = a
theorem z1y {ρ:Rho} {w a:Out} {e:Ending} (h:outE w a) (b:a.rel ρ e):w.rel ρ e:=by
 unfold outE at h;split at h
 ·obtain ⟨v,c,b⟩:=b; exact ⟨v,c,zrb h b⟩
 ·subst h; exact b
def wfl (a:List (Nat × Ent)) (n n0:Nat):Bool:=distinct ((0,.gone) :: a) && covers ((0,.gone) :: a) n && Nat.ble n n0
@[irreducible] def Cln (n:Nat) (K0:Out → Fz → List (Nat × Ent) → Nat → Prop):Out → Hp → Nat → Prop:=fun out h nx=>
 ∀ C ρ w e,C.n0 = n → Sat C ρ h nx w → out.rel ρ e → out.below nx → ∃ out0 F0 h0 n0 ρ0,K0 out0 F0 h0 n0 ∧ out0.rel ρ0 e ∧ out0.below n0 ∧ Sat C ρ0 [(0,.frz F0) :: h0] n0 w ∧ wfl h0 n n0 = true
theorem clean {n:Nat} {l:Out → Fz → List (Nat × Ent) → Nat → Prop} {out:Out} {h:Hp} {nx:Nat} (s:List (Nat × Mv)) (a:Out) (d:Fz) (b:List (Nat × Ent)) (n0:Nat) (p:l a d b n0) (u:outE (a.ren (sig s)) (out.ren (resP h)))
  (o:chkS s ((0,.frz d) :: b) n n0 = true) (m:wfl b n n0 = true) (D:a.below n0) (g:bH n0 b) (q:leH s h ((0,.frz d) :: b)):Cln n l out h nx:=by
 unfold Cln;intro C ρ w e G S B A;have c:=m;simp only [wfl,qf] at c;have j:=nb c.2
 have E:=zr6 S o (by omega) j (show bH n0 ((0,.frz d) :: b) from ⟨tv,g⟩) q (fun i y=>by
  have:=zg3 c.1.2 i y;obtain ⟨x,f⟩:=this;simp only [aget] at f ⊢;split
  ·rfl
  ·rename_i k; rw [k] at f; simp only at f; rw [f]; rfl)
 refine ⟨a,d,b,n0,(sig s).pull ρ,p,?_,D,E,m⟩;refine (Out.rel_ren (sig s) ρ a e).1 (z1y u ?_);refine (Out.rel_ren (resP h) ρ out e).2 ?_;rw [zir S]; exact B
def Ct (P:Program) (f:FuncId) (args:List SV) (F:Fz) (d:List (Nat × Ent)) (n:Nat) (c:Out → Fz → List (Nat × Ent) → Nat → Prop):Prop:=
 zba P f args [(0,.frz F) :: d] n (Cln n (fun o a b n0=>Fz.le F a ∧ c o a b n0))
def isTo:Mv → Bool
 |.to _=>true
 |_=>false
def tau (sl:List (Nat × Mv)) (n a:Nat):Mu:=fun i k=>
 match Nat.ble n i with
 |true=>(a + (i - n),k)
 |false=>sig sl i k
def zls (H:Hp) (τ:Mu):List (Nat × Ent) → Hp
 |[]=>H
 |(i,e) :: r=>lput (zls H τ r) (τ i 0).1 (e.ren τ)
def zfd (μ:Mu):List SV → List SV
 |[]=>[]
 |s :: r=>s.ren μ :: zfd μ r
def argsE:List SV → List SV → Prop
 |[],[]=>True
 |s0 :: r0,s :: r=>svE s0 s ∧ argsE r0 r
 |_,_=>False
theorem zql {ρ:Rho}:∀ {a l:List SV} {vs:List Value},argsE a l → relL ρ l vs → relL ρ a vs
 |[],[],vs,_,hr=>hr
 |s0 :: r0,s :: r,[],_,hr=>hr
 |s0 :: r0,s :: r,v :: vr,h,hr=>⟨zrb h.1 hr.1,zql h.2 hr.2⟩
 |[],_ :: _,_,h,_=>h.elim
 |_ :: _,[],_,h,_=>h.elim
def zkt (a:Nat) (sl:List (Nat × Mv)):List (Nat × Ent) → Bool
 |[]=>true
 |(i,_) :: r=>Nat.ble ((sig sl i 0).1 + 1) a && zkt a sl r
def injOn (sl:List (Nat × Mv)):List (Nat × Ent) → Bool
 |[]=>true
 |(i,_) :: r=>(r.all fun q=>!(Nat.beq (sig sl i 0).1 (sig sl q.1 0).1)) && injOn sl r
def noFz:Ent → Bool
 |.frz _=>false
 |.lnk _=>false
 |_=>true
theorem zlj {H:Hp} {τ:Mu}:∀ {l:List (Nat × Ent)} (j:Nat) (x:Ent),lget (zls H τ l) j = some x → (∃ i e,(i,e) ∈ l ∧ (τ i 0).1 = j ∧ x = e.ren τ) ∨ ((∀ i e,(i,e) ∈ l → (τ i 0).1 ≠ j) ∧ lget H j = some x)
 |[],j,x,h=>.inr ⟨by simp,h⟩
 |(i,e) :: r,j,x,h=>by
  simp only [zls] at h;by_cases b:j = (τ i 0).1
  ·subst b;rw [zaf] at h; cases h
   exact .inl ⟨i,e,by simp,rfl,rfl⟩
  ·rw [zac _ _ _ _ b] at h;rcases zlj j x h with ⟨i',e',h1,a,c⟩ | ⟨h1,a⟩
   ·exact .inl ⟨i',e',by simp [h1],a,c⟩
   ·refine .inr ⟨?_,a⟩;intro i' e' hm;rcases qj.1 hm with hm | hm
    ·cases hm; exact fun d=>b d.symm
    ·exact h1 i' e' hm
theorem SA.below_ren {τ:Mu} {n m:Nat} (h:∀ q k,q < n → (τ q k).1 < m) {a:SA} (b:a.below n):(a.ren τ).below m:=by
 cases a<;>simp only [SA.ren,SA.below,Pl.ren] at *<;>first | exact h _ _ b | exact b.imp id (h _ _) | (intro p d; obtain ⟨q,c,rfl⟩:=qz.1 d; exact h _ _ (b q c)) | trivial
theorem below_ren {τ:Mu} {n m:Nat} (h:∀ q k,q < n → (τ q k).1 < m) {b:SB} (e:b.below n):(b.ren τ).below m:=by
 cases b with
 |cells t l=>
  intro a d;obtain ⟨x,c,rfl⟩:=qz.1 d;exact SA.below_ren h (e x c)
 |arr t sz L room=>
  intro x c a d;obtain ⟨y,f,rfl⟩:=qz.1 c;obtain ⟨z,g,rfl⟩:=qz.1 d;exact SA.below_ren h (e y f z g)
 |obj o=>trivial
theorem SV.below_ren {τ:Mu} {n m:Nat} (h:∀ q k,q < n → (τ q k).1 < m) {v:SV} (b:v.below n):(v.ren τ).below m:=by
 cases v with
 |va a=>exact SA.below_ren h b
 |agg l=>
  intro a e;obtain ⟨x,d,rfl⟩:=qz.1 e;exact SA.below_ren h (b x d)
 |tup l=>
  intro c f;obtain ⟨x,d,rfl⟩:=qz.1 f;have:=b x d;cases x with
  |va a=>exact SA.below_ren h this
  |agg l=>
   intro a e;obtain ⟨y,g,rfl⟩:=qz.1 e;exact SA.below_ren h (this y g)
 |junk=>trivial
theorem zok {μ:Mu} {ρ:Rho}:∀ {args:List SV} {vs:List Value},relL ρ (zfd μ args) vs ↔ relL (μ.pull ρ) args vs
 |[],[]=>Iff.rfl
 |[],v :: r=>Iff.rfl
 |s :: r,[]=>Iff.rfl
 |s :: r,v :: vr=>by
  simp only [zfd,relL];rw [SV.rel_ren,zok]
theorem zma {sl:List (Nat × Mv)}:∀ {l:List (Nat × Ent)},injOn sl l = true → ∀ p ∈ l,∀ q ∈ l,(sig sl p.1 0).1 = (sig sl q.1 0).1 → p.1 = q.1 ∨ p = q
 |[],_,p,hp,_,_,_=>by simp at hp
 |(i,e) :: r,h,p,hp,q,hq,heq=>by
  simp only [injOn,qf,qo] at h;rcases qj.1 hp with rfl | hp'<;>rcases qj.1 hq with rfl | hq'
  ·exact .inl rfl
  ·have:=h.1 q hq'; simp only at heq; rw [heq] at this; simp at this
  ·have:=h.1 p hp'; simp only at heq; rw [heq] at this; simp at this
  ·exact zma h.2 p hp' q hq' heq
theorem zjh {a:Nat} {sl:List (Nat × Mv)}:∀ {l:List (Nat × Ent)},zkt a sl l = true → ∀ p ∈ l,(sig sl p.1 0).1 < a
 |[],_,p,hp=>by simp at hp
 |(i,e) :: r,h,p,hp=>by
  simp only [zkt,qf] at h;rcases qj.1 hp with rfl | hp
  ·exact nb h.1
  ·exact zjh h.2 p hp
theorem zs6 (l:List (Nat × Ent)) (i:Nat):lget [l] i = aget l i:=by
 simp only [lget]; cases aget l i<;>rfl
theorem ydl {sl:List (Nat × Mv)} (h:(sl.all fun p=>isTo p.2) = true) (i k:Nat):sig sl i k = ((sig sl i 0).1,k):=by
 unfold sig;cases a:aget sl i with
 |none=>rfl
 |some m=>
  have:=qo.1 h _ (zbo a);cases m with
  |to j=>rfl
  |fn g tg=>cases this
def chkU (sl:List (Nat × Mv)) (a:List (Nat × Ent)) (n b:Nat):Bool:=
 (sl.all fun p=>isTo p.2) && zkt b sl a && injOn sl ((0,.gone) :: a) && Nat.beq (sig sl 0 0).1 0 && wfl a n n && Nat.ble 1 n && (a.all fun p=>Nat.ble (p.1 + 1) n && noFz p.2)
theorem use {P:Program} {f:FuncId} {ae args:List SV} {F:Fz} {hp:List (Nat × Ent)} {n:Nat} {K0:Out → Fz → List (Nat × Ent) → Nat → Prop} {H:Hp} {U:Nat} {K:Out → Hp → Nat → Prop}
  (hc:Ct P f ae F hp n K0) (sl:List (Nat × Mv)) (hF:lget H 0 = some (.frz F)) (a6:argsE (zfd (sig sl) ae) (zfd (resP H) args))
  (ax:chkU sl hp n U = true) (hb:bH n hp) (bm:∀ s ∈ ae,s.below n)
  (hh:leH sl H hp)
  (hk:∀ L F0 g n0,Fz.le F F0 → K0 L F0 g n0 → K (L.ren (tau sl n U)) (lput (zls H (tau sl n U) g) 0 (.frz F0)) (U + (n0 - n))):zba P f args H U K:=by
 unfold Ct zba at hc;unfold zba;intro C ρ w vs S T b4;simp only [chkU,qf] at ax;obtain ⟨⟨⟨⟨⟨⟨c0,c1⟩,c2⟩,cz⟩,c5⟩,cn⟩,c4⟩:=ax
 have c4:∀ p ∈ hp,p.1 < n ∧ noFz p.2 = true:=fun p bs=>by
  have:=qo.1 c4 p bs;simp only [qf] at this;exact ⟨nb this.1,this.2⟩
 simp only [wfl,qf] at c5;obtain ⟨⟨b7,bk⟩,_⟩:=c5;have bf:1 ≤ n:=nb cn;have bp:=ydl c0;generalize hσ:(fun i=>(sig sl i 0).1) = σ at *;have av:∀ i k,sig sl i k = (σ i,k):=fun i k=>by rw [bp,← hσ]
 have V:σ 0 = 0:=by rw [← hσ]; exact qk cz
 have al:(sig sl).pull ρ = fun i=>ρ (σ i):=by funext i k; simp only [Mu.pull,av]
 have Q:∀ i,i ≠ 0 → lget [(0,Ent.frz F) :: hp] i = aget hp i:=by
  intro i l;rw [zs6];simp only [aget];split
  ·rename_i O; exact absurd (qk O) l
  ·rfl
 have get0:lget [(0,Ent.frz F) :: hp] 0 = some (.frz F):=rfl
 have bc:∀ i,i ≠ 0 → i < n → ∃ e,(i,e) ∈ hp:=by
  intro i g l;obtain ⟨e,m⟩:=zg3 bk i l;simp only [aget] at m;split at m
  ·rename_i O; exact absurd (qk O) g
  ·exact ⟨e,zbo m⟩
 have au:∀ i,i < n → σ i < U:=by
  intro i l;by_cases g:i = 0
  ·subst g; rw [V]; exact S.pos
  ·obtain ⟨e,m⟩:=bc i g l;have:=zjh c1 _ m;rw [← hσ]; exact this
 have ad:∀ i i',i < n → i' < n → σ i = σ i' → i = i':=by
  intro i i' l I c
  have bi:∀ i,i < n → ∃ e,(i,e) ∈ ((0,Ent.gone) :: hp):=by
   intro i l;by_cases g:i = 0
   ·subst g; exact ⟨.gone,by simp⟩
   ·obtain ⟨e,m⟩:=bc i g l; exact ⟨e,by simp [m]⟩
  obtain ⟨x,hx⟩:=bi i l;obtain ⟨y,hy⟩:=bi i' I;rcases zma c2 _ hx _ hy (by rw [← hσ] at c; exact c) with h | h
  ·exact h
  ·cases h; rfl
 obtain ⟨Fs,ao,a5⟩:=S.fz;rw [hF] at ao; cases ao
 let B':Nat → Prop:=fun b=>∃ i k,i ≠ 0 ∧ St.owns [(0,Ent.frz F) :: hp] i k ∧ b = ρ (σ i) k
 let C':Ctx:={ w0:=w,ρ0:=fun i=>ρ (σ i),n0:=n,B:=B',R:=fun b=>(F b).isSome = true }
 have ap:∀ i k,i ≠ 0 → St.owns [(0,Ent.frz F) :: hp] i k → St.owns H (σ i) k ∧ i < n ∧ σ i ≠ 0:=by
  rintro i k g ⟨e,m,d⟩;rw [Q i g] at m;have A:=zbo m;have bd:=(c4 _ A).1;refine ⟨?_,bd,fun hz=>g (ad i 0 bd (by omega) (by rw [hz,V]))⟩;rcases ze4 hh _ A with hg | hg
  ·simp only at hg; subst hg; exact d.elim
  ·obtain ⟨e1,h5,h6,_⟩:=znf hg k ((Ent.has_ren _ e k).2 d);simp only [av] at h5 h6;exact ⟨e1,h5,h6⟩
 have S':Sat C' (fun i=>ρ (σ i)) [(0,Ent.frz F) :: hp] n w:=by
  refine { lt:=?_,blk:=?_,wf:=?_,inj:=?_,anch:=fun _ _ _=>rfl,n0:=qm _,n1:=bf,os:=rfl,tape:=rfl,output:=rfl,size:=qm _,fr:=fun _ _ _=>rfl,own:=?_,fz:=⟨F,get0,a5⟩,id0:=fun k=>by show ρ (σ 0) k = k; rw [V]; exact S.id0 k,only:=?_,lnk:=?_ }
  ·intro i e m;by_cases g:i = 0
   ·omega
   ·rw [Q i g] at m; exact (c4 _ (zbo m)).1
  ·intro i e m k d;by_cases g:i = 0
   ·subst g;rw [get0] at m; cases m
    obtain ⟨o,M,G⟩:=S.blk 0 _ hF k d;refine ⟨o,by show w.heap[ρ (σ 0) k]? = _; rw [V]; exact M,?_⟩;obtain ⟨B,hB⟩:=jk.1 d;simp only [Ent.at,hB,yi] at G ⊢
    exact SB.ok_congr (n := 1) (fun i l => by have : i = 0 := by omega
                                              subst this; show ρ (σ 0) = ρ 0; rw [V]) (a5 k B hB) G
   ·rw [Q i g] at m;have A:=zbo m;rcases ze4 hh _ A with hg | hg
    ·simp only at hg; subst hg; exact d.elim
    ·obtain ⟨e1,h5,h6,h7,_⟩:=znf hg k ((Ent.has_ren _ e k).2 d);simp only [av] at h5 h6 h7;obtain ⟨o,M,G⟩:=S.blk _ _ h5 k h6
     have af:e.plain = true:=by
      rcases Ent.has_cases d with h | ⟨F',rfl⟩
      ·exact h
      ·have:=(c4 _ A).2; cases this
     rw [h7,Ent.at_ren _ e k af] at G;refine ⟨o,M,?_⟩;have:=(SB.ok_ren (sig sl) ρ _ o).1 G
     rwa [al] at this
  ·intro i e m k d;by_cases g:i = 0
   ·subst g;rw [get0] at m; cases m
    obtain ⟨B,hB⟩:=jk.1 d;simp only [Ent.at,hB,yi];exact SB.below_mono bf (a5 k B hB)
   ·rw [Q i g] at m;have A:=zbo m
    have af:e.plain = true:=by
     rcases Ent.has_cases d with h | ⟨F',rfl⟩
     ·exact h
     ·have:=(c4 _ A).2; cases this
    exact Ent.below_at (zys hb _ A) k d af
  ·intro i k i' k' h1 D c
   have up:∀ i k,St.owns [(0,Ent.frz F) :: hp] i k → St.owns H (σ i) k ∧ i < n:=by
    intro i k h;by_cases g:i = 0
    ·subst g;obtain ⟨e,m,d⟩:=h;rw [get0] at m; cases m
     exact ⟨⟨_,by rw [V]; exact hF,d⟩,by omega⟩
    ·have:=ap i k g h; exact ⟨this.1,this.2.1⟩
   obtain ⟨e1,l1⟩:=up i k h1;obtain ⟨e2,l2⟩:=up i' k' D;have bh:=S.inj _ _ _ _ e1 e2 c;exact ⟨ad i i' l1 l2 bh.1,bh.2⟩
  ·intro i k M;by_cases g:i = 0
   ·subst g;obtain ⟨e,m,d⟩:=M;rw [get0] at m; cases m
    exact .inl ⟨rfl,d⟩
   ·exact .inr (.inl ⟨i,k,g,M,rfl⟩)
  ·intro i F' ar;by_cases g:i = 0
   ·exact g
   ·rw [Q i g] at ar; have:=(c4 _ (zbo ar)).2; cases this
  ·intro i b hl;by_cases g:i = 0
   ·subst g; rw [get0] at hl; cases hl
   ·rw [Q i g] at hl; have:=(c4 _ (zbo hl)).2; cases this
 have T:relL ρ (zfd (resP H) args) vs:=zok.2 (by rw [zir S]; exact T);have T:=zok.1 (zql a6 T);rw [al] at T;obtain ⟨bz,hc⟩:=hc C' (fun i=>ρ (σ i)) w vs S' T bm;refine ⟨bz,hc.mono ?_⟩;rintro e w' ⟨out,h1,n1,ρ1,a8,a7,S1,b6,b3,a1⟩;unfold Cln at a8;obtain ⟨L,F0,g,n0,ρ2,⟨bn,k0⟩,a7,a1,J,bb⟩:=a8 C' ρ1 w' e rfl S1 a7 (by cases out<;>first | exact a1 | trivial);simp only [wfl,qf] at bb;obtain ⟨⟨bo,b0⟩,bt⟩:=bb;have b5:=nb bt;have W:=bo;simp only [distinct,qf] at W
 have aw:∀ i e,(i,e) ∈ g → i ≠ 0:=by
  rintro i e A rfl;have:=zln W.2 A;rw [this] at W; cases W.1
 have bj:∀ i,i ≠ 0 → lget [(0,Ent.frz F0) :: g] i = aget g i:=by
  intro i l;rw [zs6];simp only [aget];split
  ·rename_i O; exact absurd (qk O) l
  ·rfl
 have ac:lget [(0,Ent.frz F0) :: g] 0 = some (.frz F0):=rfl;obtain ⟨Fs,ao,aj⟩:=J.fz;rw [ac] at ao; cases ao
 generalize hτ:tau sl n U = τ
 have u:∀ i k,i < n → τ i k = (σ i,k):=by
  intro i k l; rw [← hτ]; unfold tau
  have:Nat.ble n i = false:=by
   cases hb:Nat.ble n i with
   |false=>rfl
   |true=>have:=nb hb; omega
  rw [this]; exact av i k
 have E:∀ i k,n ≤ i → τ i k = (U + (i - n),k):=by
  intro i k l; rw [← hτ]; unfold tau;rw [qay l]
 have bw:∀ i k,τ i k = ((τ i 0).1,k):=by
  intro i k;by_cases l:i < n
  ·rw [u i k l,u i 0 l]
  ·rw [E i k (by omega),E i 0 (by omega)]
 let ρ3:Rho:=fun i=>if i < U then ρ i else ρ2 (i - U + n)
 have bq:∀ i,i < n → ρ2 i = ρ (σ i):=fun i l=>funext fun k=>J.anch i l k
 have a:∀ i,i < U → ρ3 i = ρ i:=fun i l=>by simp [ρ3,l]
 have aa:∀ i,ρ3 (τ i 0).1 = ρ2 i:=by
  intro i;by_cases l:i < n
  ·rw [u i 0 l,a _ (au i l),bq i l]
  ·have I:n ≤ i:=by omega
   rw [E i 0 I];have:¬ (U + (i - n) < U):=by omega
   have e:U + (i - n) - U + n = i:=by omega
   simp only [ρ3,this,if_false,e]
 have ah:τ.pull ρ3 = ρ2:=by funext i k; simp only [Mu.pull]; rw [bw i k]; exact congrFun (aa i) k
 have a3:∀ k,ρ3 0 k = k:=fun k=>by rw [a 0 S.pos]; exact S.id0 k
 have a0:∀ i i',(τ i 0).1 = (τ i' 0).1 → i = i':=by
  intro i i' c;by_cases l:i < n<;>by_cases I:i' < n
  ·rw [u i 0 l,u i' 0 I] at c;exact ad i i' l I c
  ·rw [u i 0 l,E i' 0 (by omega)] at c; have:=au i l; simp only at c; omega
  ·rw [u i' 0 I,E i 0 (by omega)] at c; have:=au i' I; simp only at c; omega
  ·rw [E i 0 (by omega),E i' 0 (by omega)] at c; simp only at c; omega
 have b8:∀ i,i ≠ 0 → (τ i 0).1 ≠ 0:=by
  intro i l c;apply l;apply a0 i 0;rw [c,u 0 0 (by omega)]; exact V.symm
 have Y:∀ i e,(i,e) ∈ g → lget [(0,Ent.frz F0) :: g] i = some e:=fun i e A=>by rw [bj i (aw i e A)]; exact zln W.2 A
 have bg:∀ i e,(i,e) ∈ g → i < n0:=fun i e A=>J.lt i e (Y i e A)
 have inR:∀ i,i ≠ 0 → i < n → ∃ e,(i,e) ∈ g:=by
  intro i ak l;obtain ⟨e,m⟩:=zg3 b0 i l;simp only [aget] at m;split at m
  ·rename_i O; exact absurd (qk O) ak
  ·exact ⟨e,zbo m⟩
 -- an old family that is not among the small heap's
 have a2:∀ j,(∀ i e,(i,e) ∈ g → (τ i 0).1 ≠ j) → ∀ i,i ≠ 0 → i < n → σ i ≠ j:=by
  intro j hj i ak l;obtain ⟨e,m⟩:=inR i ak l;have:=hj i e m
  rwa [u i 0 l] at this
 have ai:∀ j k,St.owns H j k → (∀ i e,(i,e) ∈ g → (τ i 0).1 ≠ j) → ¬ B' (ρ j k):=by
  rintro j k hj b2 ⟨i,k',Z,M,c⟩;obtain ⟨e1,e2,_⟩:=ap i k' Z M;exact a2 j b2 i Z e2 (S.inj _ _ _ _ hj e1 c).1.symm
 have ay:∀ b,B' b → C.B b ∨ C.w0.heap.size ≤ b:=by
  rintro b ⟨i,k,Z,M,rfl⟩;obtain ⟨e1,e2,e3⟩:=ap i k Z M;exact (S.own _ _ e1).resolve_left (fun h=>e3 h.1)
 have b1:w.heap.size ≤ w'.heap.size:=J.size
 have look:∀ j x,lget (lput (zls H τ g) 0 (.frz F0)) j = some x → (j = 0 ∧ x = .frz F0) ∨ (∃ i e,(i,e) ∈ g ∧ (τ i 0).1 = j ∧ x = e.ren τ) ∨ (j ≠ 0 ∧ (∀ i e,(i,e) ∈ g → (τ i 0).1 ≠ j) ∧ lget H j = some x):=by
  intro j x h;by_cases hj:j = 0
  ·subst hj; rw [zaf] at h; cases h; exact .inl ⟨rfl,rfl⟩
  ·rw [zac _ _ _ _ hj] at h;rcases zlj j x h with h1 | ⟨h1,D⟩
   ·exact .inr (.inl h1)
   ·exact .inr (.inr ⟨hj,h1,D⟩)
 have ag:∀ j k,St.owns (lput (zls H τ g) 0 (.frz F0)) j k → (∃ i,(τ i 0).1 = j ∧ St.owns [(0,Ent.frz F0) :: g] i k) ∨ (j ≠ 0 ∧ (∀ i e,(i,e) ∈ g → (τ i 0).1 ≠ j) ∧ St.owns H j k):=by
  rintro j k ⟨x,hx,d⟩;rcases look j x hx with ⟨rfl,rfl⟩ | ⟨i,e,A,D,rfl⟩ | ⟨ak,h1,D⟩
  ·exact .inl ⟨0,by rw [u 0 0 (by omega)]; exact V,_,ac,d⟩
  ·exact .inl ⟨i,D,⟨e,Y i e A,(Ent.has_ren τ e k).1 d⟩⟩
  ·exact .inr ⟨ak,h1,x,D,d⟩
 have am:∀ j k,St.owns H j k → j < U:=fun j k ⟨x,hx,_⟩=>S.lt j x hx
 have az:∀ q k,q < n0 → (τ q k).1 < U + (n0 - n):=by
  intro q k hq;by_cases be:q < n
  ·rw [u q k be]; have:=au q be; show σ q < _; omega
  ·rw [E q k (by omega)]; show U + (q - n) < _; omega
 have mix:∀ i k j k',St.owns [(0,Ent.frz F0) :: g] i k → j ≠ 0 → (∀ i e,(i,e) ∈ g → (τ i 0).1 ≠ j) → St.owns H j k' → ρ2 i k = ρ j k' → False:=by
  intro i k j k' l X a4 ab c;rcases J.own i k l with hR | hB | hB
  ·obtain ⟨Z,hR⟩:=hR;subst Z;rw [J.id0] at c;have hz:St.owns H 0 k:=⟨_,hF,hR⟩
   have:=S.inj _ _ _ _ hz ab (by rw [S.id0]; exact c);exact X this.1.symm
  ·exact (ai j k' ab a4) (by rw [← c]; exact hB)
  ·have:=S.blt ab; rw [← c] at this; exact absurd this (Nat.not_lt.2 hB)
 refine ⟨L.ren τ,lput (zls H τ g) 0 (.frz F0),U + (n0 - n),ρ3,by rw [← hτ]; exact hk L F0 g n0 bn k0,?_,?_,fun i l=>a i l,by omega,?_⟩
 ·refine (Out.rel_ren τ ρ3 L e).2 ?_;rw [ah]; exact a7
 ·refine { lt:=?_,blk:=?_,wf:=?_,inj:=?_,anch:=?_,n0:=js S.n0 (by omega),n1:=S.n1,os:=J.os.trans S.os,tape:=J.tape.trans S.tape,output:=J.output.trans S.output,size:=js S.size b1,fr:=?_,own:=?_,fz:=⟨F0,zaf _ _ _,aj⟩,id0:=a3,only:=?_,lnk:=?_ }
  ·intro j x hx;rcases look j x hx with ⟨rfl,rfl⟩ | ⟨i,e,A,rfl,rfl⟩ | ⟨_,_,D⟩
   ·have:=S.pos; omega
   ·exact az i 0 (bg i e A)
   ·have:=S.lt j x D; omega
  ·intro j x hx k d;rcases look j x hx with ⟨rfl,rfl⟩ | ⟨i,e,A,rfl,rfl⟩ | ⟨X,h1,D⟩
   ·obtain ⟨o,M,G⟩:=J.blk 0 _ ac k d;refine ⟨o,by rw [a3]; rw [J.id0] at M; exact M,?_⟩;obtain ⟨B,hB⟩:=jk.1 d;simp only [Ent.at,hB,yi] at G ⊢;refine SB.ok_congr (n:=1) (fun i l=>?_) (aj k B hB) G;have:i = 0:=by omega
    subst this; funext k; rw [a3,J.id0]
   ·have aq:=(Ent.has_ren τ e k).1 d;obtain ⟨o,M,G⟩:=J.blk i e (Y i e A) k aq
    have af:e.plain = true:=by
     rcases Ent.has_cases aq with h | ⟨F',rfl⟩
     ·exact h
     ·exact absurd (J.only i F' (Y i _ A)) (aw i _ A)
    refine ⟨o,?_,?_⟩
    ·rw [aa i]; exact M
    ·rw [Ent.at_ren τ e k af];refine (SB.ok_ren τ ρ3 _ o).2 ?_;rw [ah]; exact G
   ·obtain ⟨o,M,G⟩:=S.blk j x D k d;have a9:=S.lt j x D;refine ⟨o,?_,SB.ok_congr (n:=U) a (S.wf j x D k d) G⟩;rw [a j a9];have bu:=J.fr (ρ j k) (jo.1 M).1 (ai j k ⟨x,D,d⟩ h1);rw [bu]; exact M
  ·intro j x hx k d;rcases look j x hx with ⟨rfl,rfl⟩ | ⟨i,e,A,rfl,rfl⟩ | ⟨X,h1,D⟩
   ·obtain ⟨B,hB⟩:=jk.1 d;simp only [Ent.at,hB,yi];exact SB.below_mono (by have:=S.pos; omega) (aj k B hB)
   ·have aq:=(Ent.has_ren τ e k).1 d
    have af:e.plain = true:=by
     rcases Ent.has_cases aq with h | ⟨F',rfl⟩
     ·exact h
     ·exact absurd (J.only i F' (Y i _ A)) (aw i _ A)
    rw [Ent.at_ren τ e k af];exact below_ren az (J.wf i e (Y i e A) k aq)
   ·exact SB.below_mono (by omega) (S.wf j x D k d)
  ·intro j k j' k' M bx c;rcases ag j k M with ⟨i,rfl,l⟩ | ⟨X,h1,D⟩<;>rcases ag j' k' bx with ⟨i',rfl,I⟩ | ⟨ba,a4,ab⟩
   ·rw [aa i,aa i'] at c;have h:=J.inj _ _ _ _ l I c;exact ⟨by rw [h.1],h.2⟩
   ·rw [aa i,a j' (am j' k' ab)] at c;exact (mix i k j' k' l ba a4 ab c).elim
   ·rw [aa i',a j (am j k D)] at c;exact (mix i' k' j k I X h1 D c.symm).elim
   ·rw [a j (am j k D),a j' (am j' k' ab)] at c;exact S.inj _ _ _ _ D ab c
  ·intro i l k;have:=S.n0;rw [a i (by omega)]; exact S.anch i l k
  ·intro b O hB;have h1:b < w.heap.size:=yz O S.size
   have D:¬ B' b:=fun bl=>by
    rcases ay b bl with h | h
    ·exact hB h
    ·omega
   rw [J.fr b h1 D]; exact S.fr b O hB
  ·intro j k M;rcases ag j k M with ⟨i,rfl,l⟩ | ⟨X,h1,D⟩
   ·rw [aa i];rcases J.own i k l with hR | hB | hB
    ·obtain ⟨Z,hR⟩:=hR;subst Z;have hz:St.owns H 0 k:=⟨_,hF,hR⟩
     have:=S.own 0 k hz;rw [S.id0] at this;rw [J.id0,u 0 0 (by omega)];exact this.imp (fun h=>⟨V,h.2⟩) id
    ·exact .inr (ay _ hB)
    ·exact .inr (.inr (js S.size hB))
   ·rw [a j (am j k D)]; exact S.own j k D
  ·intro j F' ar;rcases look j _ ar with ⟨rfl,_⟩ | ⟨i,e,A,rfl,m⟩ | ⟨X,h1,D⟩
   ·rfl
   ·cases e<;>simp only [Ent.ren] at m<;>first | exact absurd (J.only i _ (Y i _ A)) (aw i _ A) | cases m
   ·exact S.only j F' D
  ·intro j b hl k;rcases look j _ hl with ⟨rfl,h⟩ | ⟨i,e,A,rfl,m⟩ | ⟨X,h1,D⟩
   ·cases h
   ·cases e<;>simp only [Ent.ren] at m<;>first | cases m | skip
    rw [aa i]; exact J.lnk i b (Y i _ A) k
   ·rw [a j (S.lt j _ D)]; exact S.lnk j b D k
 ·cases L with
  |ret v=>exact SV.below_ren az a1
  |panic v=>trivial
def SA.bB (n:Nat):SA → Bool
 |.ptr p=>Nat.ble (p.i + 1) n
 |.slice nil i ..=>Nat.ble (i + 1) n || nil
 |.fn _ cap=>cap.all fun p=>Nat.ble (p.i + 1) n
 |.iter i _=>Nat.ble (i + 1) n
 |.map i _=>Nat.ble (i + 1) n
 |_=>true
def SC.bB (n:Nat):SC → Bool
 |.va a=>a.bB n
 |.agg l=>l.all (SA.bB n)
def SV.bB (n:Nat):SV → Bool
 |.va a=>a.bB n
 |.agg l=>l.all (SA.bB n)
 |.tup l=>l.all (SC.bB n)
 |.junk=>true
theorem SA.bB_ok {n:Nat} {a:SA} (h:a.bB n = true):a.below n:=by
 cases a<;>simp only [SA.bB,SA.below] at *<;>first | trivial | exact nb h | skip
 ·rename_i nil i k e sz c cap;simp only [yy] at h;rcases h with h | h
  ·exact .inr (nb h)
  ·exact .inl h
 ·intro p b;exact nb (qo.1 h p b)
theorem SV.bB_ok {n:Nat} {v:SV} (h:v.bB n = true):v.below n:=by
 cases v with
 |va a=>exact SA.bB_ok h
 |agg l=>exact fun a b=>SA.bB_ok (qo.1 h a b)
 |tup l=>
  intro c d;have:=qo.1 h c d;cases c with
  |va a=>exact SA.bB_ok this
  |agg l=>exact fun a b=>SA.bB_ok (qo.1 this a b)
 |junk=>trivial
def Out.bB (n:Nat):Out → Bool
 |.ret v=>v.bB n
 |.panic _=>true
theorem Out.bB_ok {n:Nat} {o:Out} (h:o.bB n = true):o.below n:=by
 cases o with
 |ret v=>exact SV.bB_ok h
 |panic v=>trivial
def SB.bB (n:Nat):SB → Bool
 |.cells _ l=>l.all (SA.bB n)
 |.arr _ _ L _=>L.all fun x=>x.all (SA.bB n)
 |.obj _=>true
theorem SB.bB_ok {n:Nat} {b:SB} (h:b.bB n = true):b.below n:=by
 cases b with
 |cells t l=>exact fun a c=>SA.bB_ok (qo.1 h a c)
 |arr t sz L room=>exact fun x d a c=>SA.bB_ok (qo.1 (qo.1 h x d) a c)
 |obj o=>trivial
theorem Sat.freeze {C:Ctx} {ρ:Rho} {h:Hp} {nx:Nat} {w:World} (S:Sat C ρ h nx w) {i:Nat} {e:Ent} {F:Fz} (G:lget h i = some e) (hp:e.plain = true) (U:lget h 0 = some (.frz F)) (f:Nat → SB)
  (hf:∀ k,e.has k → (e.at k).ren (resP h) = f k) (hb:∀ k,e.has k → (f k).below 1) :
  ∃ p,Fz.le F p ∧ (∀ k,e.has k → F (ρ i k) = none ∧ p (ρ i k) = some (f k)) ∧ Sat C ρ (lput (lput h i (.lnk (ρ i))) 0 (.frz p)) nx w:=by
 classical
 have E:=S.ne0 G hp;obtain ⟨Fs,T,R⟩:=S.fz;rw [U] at T; cases T
 let p:Fz:=fun x=>if c:∃ k,e.has k ∧ ρ i k = x then some (f (Classical.choose c)) else F x
 have s:∀ k,e.has k → F (ρ i k) = none:=by
  intro k d;cases hz:F (ρ i k) with
  |none=>rfl
  |some B=>
   have Q:St.owns h 0 (ρ i k):=⟨_,U,by simp [Ent.has,hz]⟩
   have:=S.inj _ _ _ _ Q ⟨e,G,d⟩ (S.id0 _);exact absurd this.1.symm E
 have X:∀ k,e.has k → p (ρ i k) = some (f k):=by
  intro k d;have c:∃ n,e.has n ∧ ρ i n = ρ i k:=⟨k,d,rfl⟩
  simp only [p];rw [dif_pos c];have O:=Classical.choose_spec c;have:=(S.inj _ _ _ _ ⟨e,G,O.1⟩ ⟨e,G,d⟩ O.2).2;rw [this]
 have g:∀ x B,p x = some B → (∃ k,e.has k ∧ ρ i k = x ∧ B = f k) ∨ F x = some B:=by
  intro x B l;simp only [p] at l;split at l
  ·rename_i c;have O:=Classical.choose_spec c;cases l
   exact .inl ⟨_,O.1,O.2,rfl⟩
  ·exact .inr l
 have ab:Fz.le F p:=by
  intro x B l;simp only [p];split
  ·rename_i c;obtain ⟨k,d,rfl⟩:=c;rw [s k d] at l; cases l
  ·exact l
 have V:∀ k,e.has k → ∀ o,(e.at k).ok ρ o → (f k).ok ρ o:=by
  intro k d o A;rw [← hf k d];refine (SB.ok_ren (resP h) ρ _ o).2 ?_;rw [zir S]; exact A
 refine ⟨p,ab,fun k d=>⟨s k d,X k d⟩,?_⟩
 have look:∀ j x,lget (lput (lput h i (.lnk (ρ i))) 0 (.frz p)) j = some x → (j = 0 ∧ x = .frz p) ∨ (j = i ∧ x = .lnk (ρ i)) ∨ (j ≠ 0 ∧ j ≠ i ∧ lget h j = some x):=by
  intro j x c;by_cases L:j = 0
  ·subst L; rw [zaf] at c; cases c; exact .inl ⟨rfl,rfl⟩
  ·rw [zac _ _ _ _ L] at c;by_cases K:j = i
   ·subst K; rw [zaf] at c; cases c; exact .inr (.inl ⟨rfl,rfl⟩)
   ·rw [zac _ _ _ _ K] at c; exact .inr (.inr ⟨L,K,c⟩)
 -- what is owned was owned
 have y:∀ j k,St.owns (lput (lput h i (.lnk (ρ i))) 0 (.frz p)) j k → ∃ j' n,St.owns h j' n ∧ ρ j' n = ρ j k ∧ ((j' = j ∧ n = k) ∨ (j = 0 ∧ j' = i)):=by
  rintro j k ⟨x,c,d⟩;rcases look j x c with ⟨rfl,rfl⟩ | ⟨rfl,rfl⟩ | ⟨h1,M,u⟩
  ·obtain ⟨B,l⟩:=jk.1 d;rcases g k B l with ⟨n,m,q,_⟩ | hB'
   ·exact ⟨i,n,⟨e,G,m⟩,by rw [S.id0]; exact q,.inr ⟨rfl,rfl⟩⟩
   ·exact ⟨0,k,⟨_,U,by simp [Ent.has,hB']⟩,rfl,.inl ⟨rfl,rfl⟩⟩
  ·exact d.elim
  ·exact ⟨j,k,⟨x,u,d⟩,rfl,.inl ⟨rfl,rfl⟩⟩
 refine { lt:=?_,blk:=?_,wf:=?_,inj:=?_,anch:=S.anch,n0:=S.n0,n1:=S.n1,os:=S.os,tape:=S.tape,output:=S.output,size:=S.size,fr:=S.fr,own:=?_,fz:=⟨p,zaf _ _ _,?_⟩,id0:=S.id0,only:=?_,lnk:=?_ }
 ·intro j x c;rcases look j x c with ⟨rfl,rfl⟩ | ⟨rfl,rfl⟩ | ⟨h1,M,u⟩
  ·exact S.pos
  ·exact S.lt _ _ G
  ·exact S.lt _ _ u
 ·intro j x c k d;rcases look j x c with ⟨rfl,rfl⟩ | ⟨rfl,rfl⟩ | ⟨h1,M,u⟩
  ·obtain ⟨B,l⟩:=jk.1 d;simp only [Ent.at,l,yi];rw [S.id0];rcases g k B l with ⟨n,m,q,rfl⟩ | hB'
   ·obtain ⟨o,A,D⟩:=S.blk _ e G n m;rw [q] at A;exact ⟨o,A,V n m o D⟩
   ·obtain ⟨o,A,D⟩:=S.blk 0 _ U k (by simp [Ent.has,hB']);simp only [Ent.at,hB',yi] at D;rw [S.id0] at A;exact ⟨o,A,D⟩
  ·exact d.elim
  ·exact S.blk _ _ u k d
 ·intro j x c k d;rcases look j x c with ⟨rfl,rfl⟩ | ⟨rfl,rfl⟩ | ⟨h1,M,u⟩
  ·obtain ⟨B,l⟩:=jk.1 d;simp only [Ent.at,l,yi];rcases g k B l with ⟨n,m,q,rfl⟩ | hB'
   ·exact SB.below_mono S.pos (hb n m)
   ·exact SB.below_mono S.pos (R k B hB')
  ·exact d.elim
  ·exact S.wf _ _ u k d
 ·intro j k j' n h1 M I;obtain ⟨a,b,Z,W,Y⟩:=y j k h1;obtain ⟨a',b',o2,r2,c2⟩:=y j' n M;have:=S.inj _ _ _ _ Z o2 (by rw [W,r2]; exact I);rcases Y with ⟨rfl,rfl⟩ | ⟨rfl,rfl⟩<;>rcases c2 with ⟨rfl,rfl⟩ | ⟨rfl,rfl⟩
  ·exact this
  ·exfalso;have L:=this.1;subst L;obtain ⟨x,c,d⟩:=h1;rcases look _ x c with ⟨Q,_⟩ | ⟨_,rfl⟩ | ⟨_,J,_⟩
   ·exact E Q
   ·exact d.elim
   ·exact J rfl
  ·exfalso;have L:=this.1;subst L;obtain ⟨x,c,d⟩:=M;rcases look _ x c with ⟨Q,_⟩ | ⟨_,rfl⟩ | ⟨_,J,_⟩
   ·exact E Q
   ·exact d.elim
   ·exact J rfl
  ·rw [S.id0,S.id0] at I; exact ⟨rfl,I⟩
 ·intro j k A;obtain ⟨a,b,Z,W,Y⟩:=y j k A;have:=S.own a b Z;rw [W] at this;rcases Y with ⟨rfl,rfl⟩ | ⟨rfl,rfl⟩
  ·exact this
  ·exact .inr (this.resolve_left (fun h=>E h.1))
 ·intro b B l;rcases g b B l with ⟨n,m,q,rfl⟩ | hB'
  ·exact hb n m
  ·exact R b B hB'
 ·intro j F1 aa;rcases look j _ aa with ⟨rfl,_⟩ | ⟨_,h⟩ | ⟨_,_,u⟩
  ·rfl
  ·cases h
  ·exact S.only _ _ u
 ·intro j b hl k;rcases look j _ hl with ⟨_,h⟩ | ⟨rfl,h⟩ | ⟨_,_,u⟩
  ·cases h
  ·cases h; rfl
  ·exact S.lnk _ _ u k
section
variable {P:Program} {h:Hp} {nx:Nat} {i:Nat} {e:Ent} {F:Fz}
theorem za7 {f:FuncId} {args:List SV} {K:Out → Hp → Nat → Prop} (i:Nat) (fb:Nat → SB) (l:lget h i = some e) (j:lget h 0 = some (.frz F)) (n:e.plain = true)
  (s:∀ k,e.has k → (e.at k).ren (resP h) = fb k) (p:∀ k,e.has k → (fb k).below 1)
  (g:∀ b a,Fz.le F a → (∀ k,e.has k → a (b k) = some (fb k)) → zba P f args (lput (lput h i (.lnk b)) 0 (.frz a)) nx K):zba P f args h nx K:=by
 unfold zba at *;intro C ρ w vs S o d;obtain ⟨a,h1,m,q⟩:=S.freeze l n j fb s p;exact g (ρ i) a h1 (fun k c=>(m k c).2) C ρ w vs q o d
theorem zbn {n:Nat} {f:Out → Fz → List (Nat × Ent) → Nat → Prop} {out:Out} (i:Nat) (fb:Nat → SB) (l:lget h i = some e) (j:lget h 0 = some (.frz F)) (q:e.plain = true)
  (y:∀ k,e.has k → (e.at k).ren (resP h) = fb k) (u:∀ k,e.has k → (fb k).below 1)
  (g:∀ b a,Fz.le F a → (∀ k,e.has k → a (b k) = some (fb k)) → Cln n f out (lput (lput h i (.lnk b)) 0 (.frz a)) nx):Cln n f out h nx:=by
 unfold Cln at *;intro C ρ w o m S s d;obtain ⟨a,h1,p,x⟩:=S.freeze l q j fb y u;exact g (ρ i) a h1 (fun k c=>(p k c).2) C ρ w o m x s d
theorem zce {c:Code} {d:St} {Q:SE → St → Prop} (i:Nat) (fb:Nat → SB) (m:lget d.h i = some e) (l:lget d.h 0 = some (.frz F)) (o:e.plain = true)
  (s:∀ k,e.has k → (e.at k).ren (resP d.h) = fb k) (p:∀ k,e.has k → (fb k).below 1)
  (j:∀ b f,Fz.le F f → (∀ k,e.has k → f (b k) = some (fb k)) → WP P c { d with h:=lput (lput d.h i (.lnk b)) 0 (.frz f) } Q):WP P c d Q:=by
 unfold WP at *;intro C ρ a w D;obtain ⟨f,h1,n,q⟩:=D.sat.freeze m o l fb s p;exact j (ρ i) f h1 (fun k g=>(n k g).2) C ρ a w { sat:=q,nt:=D.nt,tm:=D.tm,tw:=D.tw,n0:=D.n0,df:=D.df,dw:=D.dw }
theorem borrow {f:FuncId} {args:List SV} {K:Out → Hp → Nat → Prop} (i:Nat) (fb:Nat → SB) (M:lget h i = some e) (hF:lget h 0 = some (.frz F)) (Q:e.plain = true)
  (hf:∀ k,e.has k → (e.at k).ren (resP h) = fb k) (hb:∀ k,e.has k → (fb k).below 1)
  (hk:∀ b O,Fz.le F O → (∀ k,e.has k → O (b k) = some (fb k)) → zba P f args (lput (lput h i (.lnk b)) 0 (.frz O)) nx
   (fun out s E=>∃ Y,lget s 0 = some (.frz Y) ∧ Fz.le O Y ∧ lget s i = some (.lnk b) ∧ (∀ k,e.has k → ∀ (ρ A:Rho) (o:Obj),(∀ j,j < nx → A j = ρ j) → (fb k).ok A o → (e.at k).ok A o) ∧ K out (lput (lput s i e) 0 (.frz F)) E)):zba P f args h nx K:=by
 unfold zba at *;intro C ρ w vs S hr aa;obtain ⟨O,h1,Z,S'⟩:=S.freeze M Q hF fb hf hb;obtain ⟨ae,I⟩:=hk (ρ i) O h1 (fun k a=>(Z k a).2) C ρ w vs S' hr aa;refine ⟨ae,I.mono ?_⟩;rintro en w' ⟨out,s,E,A,⟨Y,g0,G,gi,ab,hK⟩,k2,c,k4,k5,k6⟩;refine ⟨out,_,E,A,hK,k2,?_,k4,k5,k6⟩;have ad:=S.ne0 M Q;obtain ⟨Fs,R,W⟩:=S.fz;rw [hF] at R; cases R
 have n:A i = ρ i:=k4 i (S.lt _ _ M)
 have look:∀ j x,lget (lput (lput s i e) 0 (.frz F)) j = some x → (j = 0 ∧ x = .frz F) ∨ (j = i ∧ x = e) ∨ (j ≠ 0 ∧ j ≠ i ∧ lget s j = some x):=by
  intro j x d;by_cases L:j = 0
  ·subst L; rw [zaf] at d; cases d; exact .inl ⟨rfl,rfl⟩
  ·rw [zac _ _ _ _ L] at d;by_cases J:j = i
   ·subst J; rw [zaf] at d; cases d; exact .inr (.inl ⟨rfl,rfl⟩)
   ·rw [zac _ _ _ _ J] at d; exact .inr (.inr ⟨L,J,d⟩)
 have f2:∀ k,e.has k → Y (ρ i k) = some (fb k):=fun k a=>G _ _ (Z k a).2
 have m:∀ j k,St.owns (lput (lput s i e) 0 (.frz F)) j k → (j ≠ i ∧ St.owns s j k) ∨ (j = i ∧ e.has k ∧ St.owns s 0 (ρ i k)):=by
  rintro j k ⟨x,d,a⟩;rcases look j x d with ⟨rfl,rfl⟩ | ⟨rfl,rfl⟩ | ⟨T,g,q⟩
  ·obtain ⟨B,y⟩:=jk.1 a;exact .inl ⟨Ne.symm ad,_,g0,by simp [Ent.has,G k B (h1 k B y)]⟩
  ·exact .inr ⟨rfl,a,_,g0,by simp [Ent.has,f2 k a]⟩
  ·exact .inl ⟨g,x,q,a⟩
 have u:∀ k,St.owns (lput (lput s i e) 0 (.frz F)) 0 k → (F k).isSome = true:=by
  rintro k ⟨x,d,a⟩;rw [zaf] at d; cases d; exact a
 refine { lt:=?_,blk:=?_,wf:=?_,inj:=?_,anch:=c.anch,n0:=c.n0,n1:=c.n1,os:=c.os,tape:=c.tape,output:=c.output,size:=c.size,fr:=c.fr,own:=?_,fz:=⟨F,zaf _ _ _,W⟩,id0:=c.id0,only:=?_,lnk:=?_ }
 ·intro j x d;rcases look j x d with ⟨rfl,rfl⟩ | ⟨rfl,rfl⟩ | ⟨T,g,q⟩
  ·exact c.pos
  ·exact c.lt _ _ gi
  ·exact c.lt _ _ q
 ·intro j x d k a;rcases look j x d with ⟨rfl,rfl⟩ | ⟨rfl,rfl⟩ | ⟨T,g,q⟩
  ·obtain ⟨B,y⟩:=jk.1 a;have U:=G k B (h1 k B y);obtain ⟨o,X,p⟩:=c.blk 0 _ g0 k (by simp [Ent.has,U]);simp only [Ent.at,U,y,yi] at p ⊢;exact ⟨o,X,p⟩
  ·obtain ⟨o,X,p⟩:=c.blk 0 _ g0 (ρ j k) (by simp [Ent.has,f2 k a]);simp only [Ent.at,f2 k a,yi] at p;rw [c.id0] at X;refine ⟨o,by rw [n]; exact X,?_⟩;exact ab k a ρ A o k4 p
  ·exact c.blk _ _ q k a
 ·intro j x d k a;rcases look j x d with ⟨rfl,rfl⟩ | ⟨rfl,rfl⟩ | ⟨T,g,q⟩
  ·obtain ⟨B,y⟩:=jk.1 a;simp only [Ent.at,y,yi];exact SB.below_mono c.pos (W k B y)
  ·exact SB.below_mono k5 (S.wf _ _ M k a)
  ·exact c.wf _ _ q k a
 ·intro j k j' k' o1 o2 l;rcases m j k o1 with ⟨T,g⟩ | ⟨rfl,g,q⟩<;>rcases m j' k' o2 with ⟨r1,V⟩ | ⟨rfl,V,r3⟩
  ·exact c.inj _ _ _ _ g V l
  ·have:=c.inj _ _ _ _ g r3 (by rw [l,c.id0,n]);have L:=this.1;subst L;have D:=this.2;subst D;have:=u _ o1;rw [(Z k' V).1] at this; cases this
  ·have:=c.inj _ _ _ _ V q (by rw [← l,c.id0,n]);have L:=this.1;subst L;have D:=this.2;subst D;have:=u _ o2;rw [(Z k g).1] at this; cases this
  ·rw [n] at l;exact S.inj _ _ _ _ ⟨e,M,g⟩ ⟨e,M,V⟩ l
 ·intro j k o1;rcases m j k o1 with ⟨T,g⟩ | ⟨rfl,g,q⟩
  ·exact c.own _ _ g
  ·rw [n]; exact S.own _ _ ⟨e,M,g⟩
 ·intro j F1 ac;rcases look j _ ac with ⟨rfl,_⟩ | ⟨rfl,h⟩ | ⟨_,_,h3⟩
  ·rfl
  ·rw [← h] at Q; cases Q
  ·exact c.only _ _ h3
 ·intro j b hl k;rcases look j _ hl with ⟨_,h⟩ | ⟨rfl,h⟩ | ⟨_,_,h3⟩
  ·cases h
  ·rw [← h] at Q; cases Q
  ·exact c.lnk _ _ h3 k
end
def SA.z:SA → Bool
 |.ptr p=>Nat.beq p.i 0
 |.slice _ i ..=>Nat.beq i 0
 |.fn _ cap=>cap.all fun p=>Nat.beq p.i 0
 |.iter i _=>Nat.beq i 0
 |.map i _=>Nat.beq i 0
 |_=>true
def SC.z:SC → Bool
 |.va a=>a.z
 |.agg l=>l.all SA.z
def SV.z:SV → Bool
 |.va a=>a.z
 |.agg l=>l.all SA.z
 |.tup l=>l.all SC.z
 |.junk=>true
def Out.z:Out → Bool
 |.ret v=>v.z
 |.panic _=>true
theorem SA.z_below {a:SA} (h:a.z = true):a.below 1:=by
 cases a with
 |ptr p=>have:=qk (show Nat.beq p.i 0 = true from h); show p.i < 1; omega
 |slice nil i k e sz len cap=>have:=qk (show Nat.beq i 0 = true from h); right; omega
 |fn f cap=>
  intro p b;have:=qk (qo.1 (show (cap.all fun p=>Nat.beq p.i 0) = true from h) p b); omega
 |iter i k=>have:=qk (show Nat.beq i 0 = true from h); show i < 1; omega
 |map i k=>have:=qk (show Nat.beq i 0 = true from h); show i < 1; omega
 |_=>trivial
theorem SV.z_below {v:SV} (h:v.z = true):v.below 1:=by
 cases v with
 |va a=>exact SA.z_below h
 |agg l=>exact fun a b=>SA.z_below (qo.1 h a b)
 |tup l=>
  intro c d;have:=qo.1 h c d;cases c with
  |va a=>exact SA.z_below this
  |agg l=>exact fun a b=>SA.z_below (qo.1 this a b)
 |junk=>trivial
theorem Out.z_below {o:Out} (h:o.z = true):o.below 1:=by
 cases o with
 |ret v=>exact SV.z_below h
 |panic v=>trivial
theorem zdx {α:Type} {f:α → α}:∀ {l:List α},(∀ a ∈ l,f a = a) → l.map f = l
 |[],_=>rfl
 |a :: r,h=>by simp only [qv]; rw [h a (by simp),zdx (fun a b=>h a (by simp [b]))]
theorem SA.ren_id {a:SA} {μ:Mu} (h:a.z = true ∨ ∀ i k,μ i k = (i,k)) (c:∀ k,μ 0 k = (0,k)):a.ren μ = a:=by
 have b:∀ i k,(Nat.beq i 0 = true ∨ ∀ i k,μ i k = (i,k)) → μ i k = (i,k):=by
  intro i k h;rcases h with h | h
  ·rw [qk h]; exact c k
  ·exact h i k
 cases a with
 |ptr p=>obtain ⟨i,k,e,sz,o⟩:=p; simp [SA.ren,Pl.ren,b i k h]
 |slice nil i k e sz len cap=>simp [SA.ren,b i k h]
 |fn f cap=>
  simp only [SA.ren]
  congr 1
  refine zdx fun p d=>?_
  obtain ⟨i,k,e,sz,o⟩:=p;have:Nat.beq i 0 = true ∨ ∀ i k,μ i k = (i,k):=h.imp (fun h=>qo.1 (show (cap.all fun p=>Nat.beq p.i 0) = true from h) _ d) id;simp [Pl.ren,b i k this]
 |iter i k=>simp [SA.ren,b i k h]
 |map i k=>simp [SA.ren,b i k h]
 |_=>rfl
theorem SV.ren_id {v:SV} {μ:Mu} (h:v.z = true ∨ ∀ i k,μ i k = (i,k)) (b:∀ k,μ 0 k = (0,k)):v.ren μ = v:=by
 cases v with
 |va a=>simp only [SV.ren]; rw [SA.ren_id h b]
 |agg l=>simp only [SV.ren]; rw [zdx fun a d=>SA.ren_id (h.imp (fun h=>qo.1 h a d) id) b]
 |tup l=>
  simp only [SV.ren];rw [zdx fun c g=>?_];have f:c.z = true ∨ ∀ i k,μ i k = (i,k):=h.imp (fun h=>qo.1 (show l.all SC.z = true from h) _ g) id;cases c with
  |va a=>simp only [SC.ren]; rw [SA.ren_id f b]
  |agg l=>simp only [SC.ren]; rw [zdx fun a d=>SA.ren_id (f.imp (fun h=>qo.1 (show l.all SA.z = true from h) a d) id) b]
 |junk=>rfl
theorem Out.ren_id {o:Out} {μ:Mu} (h:o.z = true ∨ ∀ i k,μ i k = (i,k)) (a:∀ k,μ 0 k = (0,k)):o.ren μ = o:=by
 cases o with
 |ret v=>simp only [Out.ren]; rw [SV.ren_id h a]
 |panic v=>rfl
theorem znb (i k:Nat):sig [] i k = (i,k):=rfl
theorem ztz:∀ l:List SV,zfd (sig []) l = l
 |[]=>rfl
 |s :: r=>by simp only [zfd]; rw [SV.ren_id (.inr znb) (znb 0),ztz r]
def FoK (F:Fz) (Q:Out → Fz → Prop):Out → Fz → List (Nat × Ent) → Nat → Prop:=fun o a h m=>Fz.le F a ∧ h = [] ∧ m = 1 ∧ o.z = true ∧ Q o a
def Fo (P:Program) (F:Fz) (f:FuncId) (args:List SV) (Q:Out → Fz → Prop):Prop:=zba P f args [[(0,.frz F)]] 1 (Cln 1 (FoK F Q))
def Pu (P:Program) (f:FuncId) (args:List SV) (v:SV):Prop:=∀ F,Fo P F f args fun o a=>o = .ret v ∧ a = F
theorem endFo {F F1:Fz} {Q:Out → Fz → Prop} {u:Out} {h:Hp} {nx:Nat} (out:Out) (b:Fz) (j:lget h 0 = some (.frz F1)) (c:Fz.le F b) (a:Fz.le b F1) (g:Q out b) (f:outE out (u.ren (resP h))) (d:out.z = true) :
  Cln 1 (FoK F Q) u h nx:=
 clean [] out b [] 1 ⟨c,rfl,rfl,d,g⟩ (by rw [Out.ren_id (.inr znb) (znb 0)]; exact f) rfl rfl (Out.z_below d) trivial ⟨by simp only [entE,aget,Ent.ren]; rw [j]; exact a,tv⟩
theorem endPu {F F1:Fz} {v:SV} {u:Out} {h:Hp} {nx:Nat} (f:lget h 0 = some (.frz F1)) (a:Fz.le F F1) (b:outE (.ret v) (u.ren (resP h))) (c:v.z = true) :
  Cln 1 (FoK F fun o d=>o = .ret v ∧ d = F) u h nx:=
 endFo (.ret v) F f (Fz.r F) a ⟨rfl,rfl⟩ b c
theorem Fo.ct {P:Program} {F:Fz} {f:FuncId} {args:List SV} {Q:Out → Fz → Prop} (h:Fo P F f args Q):Ct P f args F [] 1 fun o a h m=>h = [] ∧ m = 1 ∧ o.z = true ∧ Q o a:=h
theorem useFo {P:Program} {F:Fz} {f:FuncId} {a args:List SV} {Q:Out → Fz → Prop} {H:Hp} {g:Nat} {K:Out → Hp → Nat → Prop} (l:Fo P F f a Q) (p:lget H 0 = some (.frz F)) (c:argsE a (zfd (resP H) args)) (w:(a.all SV.z) = true)
  (n:∀ out j,Fz.le F j → Q out j → K out (lput H 0 (.frz j)) g):zba P f args H g K:=by
 refine use l.ct [] p (by rw [ztz]; exact c) rfl trivial (fun s m=>SV.z_below (qo.1 w s m)) trivial ?_;rintro b u _ _ d ⟨rfl,rfl,q,o⟩;have e:Out.ren (tau [] 1 g) b = b:=Out.ren_id (.inl q) (fun k=>rfl);rw [e];exact n b u d o
theorem usePu {P:Program} {F:Fz} {f:FuncId} {a args:List SV} {v:SV} {H:Hp} {c:Nat} {K:Out → Hp → Nat → Prop} (g:Fo P F f a fun o d=>o = .ret v ∧ d = F) (l:lget H 0 = some (.frz F)) (b:argsE a (zfd (resP H) args)) (j:(a.all SV.z) = true)
  (k:K (.ret v) (lput H 0 (.frz F)) c):zba P f args H c K:=by
 refine useFo g l b j ?_;rintro out d _ ⟨rfl,rfl⟩;exact k
theorem fo_of {P:Program} {Θ:Tys} (hΘ:Θ.Ok P) {f:FuncId} {fn:Func} {c:Code} {args:List SV} {F:Fz} {Q:Out → Fz → Prop} (k:P.funcs[f]? = some fn) (l:fn.body = some c) (m:(fn.name == "runtime.NumGoroutine") = false)
  (nt:Nat) (d:List ResultVar) (a:fn.ntmps = nt) (b:fn.results.toList = d) (g:Nat.ble args.length nt = true)
  (j:sx P Θ c ⟨[zex 0 args],[[(0,.frz F)]],1,1,nt,[]⟩ (endQ Θ d (Cln 1 (FoK F Q)))):Fo P F f args Q:=
 zhf hΘ k l m nt d a b g (zcu hΘ _ _ _ j)
theorem ct_of {P:Program} {Θ:Tys} (hΘ:Θ.Ok P) {f:FuncId} {fn:Func} {c:Code} {args:List SV} {F:Fz} {k:List (Nat × Ent)} {n:Nat} {j:Out → Fz → List (Nat × Ent) → Nat → Prop} (u:P.funcs[f]? = some fn) (s:fn.body = some c) (q:(fn.name == "runtime.NumGoroutine") = false)
  (nt:Nat) (d:List ResultVar) (a:fn.ntmps = nt) (b:fn.results.toList = d) (p:Nat.ble args.length nt = true)
  (l:sx P Θ c ⟨[zex 0 args],[(0,.frz F) :: k],n,n,nt,[]⟩ (endQ Θ d (Cln n (fun o g m n0=>Fz.le F g ∧ j o g m n0)))):Ct P f args F k n j:=
 zhf hΘ u s q nt d a b p (zcu hΘ _ _ _ l)
def SlR {α:Type} (F:Fz) (t sz:Nat) (R:List SA → α → Prop) (a:SA) (l:List α):Prop:=
 ∃ nil b e cap L c,a = .slice nil 0 b e sz l.length cap ∧ (nil = true → l = []) ∧ (nil = false → F b = some (.arr t sz L c)) ∧ e + l.length ≤ L.length ∧
  ∀ (k:Nat) x,l[k]? = some x → ∃ y,L[e + k]? = some y ∧ R y x
def Sl {α:Type} (F:Fz) (t sz:Nat) (enc:α → List SA) (a:SA) (l:List α):Prop:=
 ∃ nil b e cap L c,a = .slice nil 0 b e sz l.length cap ∧ (nil = true → l = []) ∧ (nil = false → F b = some (.arr t sz L c)) ∧ e + l.length ≤ L.length ∧ (L.drop e).take l.length = l.map enc
theorem SlR.mono {α:Type} {F f:Fz} {t sz:Nat} {R g:List SA → α → Prop} {a:SA} {l:List α} (h:SlR F t sz R a l) (d:Fz.le F f) (w:∀ y x,R y x → g y x):SlR f t sz g a l:=by
 obtain ⟨nil,b,e,cap,L,c,h1,s,u,m,q⟩:=h;refine ⟨nil,b,e,cap,L,c,h1,s,fun p=>d _ _ (u p),m,fun k x j=>?_⟩;obtain ⟨y,n,o⟩:=q k x j;exact ⟨y,n,w y x o⟩
theorem Sl.mono {α:Type} {F f:Fz} {t sz:Nat} {enc:α → List SA} {a:SA} {l:List α} (h:Sl F t sz enc a l) (d:Fz.le F f):Sl f t sz enc a l:=by
 obtain ⟨nil,b,e,cap,L,c,h1,k,m,g⟩:=h;exact ⟨nil,b,e,cap,L,c,h1,k,fun j=>d _ _ (m j),g⟩
theorem Sl.nil {α:Type} {F:Fz} {t sz:Nat} {enc:α → List SA}:Sl F t sz enc (.slice true 0 0 0 sz 0 0) []:=⟨true,0,0,0,[],0,rfl,fun _=>rfl,(fun h=>by cases h),by simp,rfl⟩
theorem Sl.new {α:Type} {F:Fz} {t sz:Nat} {enc:α → List SA} {b cap a:Nat} {l:List α} (c:F b = some (.arr t sz (l.map enc) a)):Sl F t sz enc (.slice false 0 b 0 sz l.length cap) l:=
 ⟨false,b,0,cap,_,a,rfl,(fun h=>by cases h),fun _=>c,by simp,by simp [qn]⟩
theorem Sl.lt {α:Type} {nil:Bool} {l:List α} (b:nil = true → l = []) {k:Nat} (a:k < l.length):nil = false:=by
 cases nil with
 |false=>rfl
 |true=>rw [b rfl] at a; cases a
theorem Sl.at {α:Type} {enc:α → List SA} {e:Nat} {L:List (List SA)} {l:List α} (h:(L.drop e).take l.length = l.map enc) {k:Nat} (a:k < l.length):L[e + (k:Int).toNat]? = some (enc l[k]):=by
 have h1:((L.drop e).take l.length)[k]? = some (enc l[k]):=by rw [h]; simp [a]
 rw [qa3 a,qag] at h1;simpa using h1
end Sx
