import Derived.Test.YtfnkamphhpldcaaGreatDoorK08
import Derived.LoopN
import Derived.Recover
import Derived.Below
set_option maxHeartbeats 64000000
namespace Sx
open Go
def zdo (md:Region.Mode) (ops:Array Oper) (j:Nat):Bool:=
 (List.range ops.size).all fun i=>Nat.beq i j || (match ops[j]? with
  |some o=>o.after.any fun e=>Region.binds md e && Nat.beq e.on i
  |none=>false)
theorem zm2 {md:Region.Mode} {ops:Array Oper} {i j:Nat} {oj:Oper} (hi:i < ops.size) (hj:ops[j]? = some oj) (hne:j ≠ i) (hno:∀ e ∈ oj.after,Region.binds md e = true → e.on ≠ i):zdo md ops j = false:=by
 cases h:zdo md ops j with
 |false=>rfl
 |true=>
  have h1:=qo.1 h i (qcf.2 hi)
  simp only [hj,y6,Array.any_eq_true'] at h1
  rcases h1 with h1 | ⟨e,he,h2⟩
  ·exact absurd (qg h1).symm hne
  ·rw [qd] at h2
   exact absurd (qg h2.2) (hno e he h2.1)
def wpAnyL (P:Program) (md:Region.Mode) (ops:Array Oper) (Q:Exit → Act → World → Prop) (S:World → Prop):Nat → Array Bool → Act → World → Prop
 |0,listed,a,w=>Region.ready md ops listed = [] ∧ Q .normal a w
 |fuel + 1,listed,a,w=>
  (Region.ready md ops listed = [] → Q .normal a w) ∧
  ∀ i ∈ Region.ready md ops listed,wpOp P ops Q i (fun a' w'=>(zdo md ops i = false → S w') ∧ wpAnyL P md ops Q S fuel (listed.setIfInBounds i true) a' w') a w
section
variable {P:Program} {ops:Array Oper} {Q:Exit → Act → World → Prop} {md:Region.Mode} {S:World → Prop}
theorem zls:∀ (fuel:Nat) (listed:Array Bool) (a:Act) (w:World),wpAnyL P md ops Q S fuel listed a w → wpAny P md ops Q fuel listed a w
 |0,_,_,_,h=>h
 |fuel + 1,_,_,_,h=>⟨h.1,fun i hi=>wpOp_mono (fun a' w' h'=>zls fuel _ a' w' h'.2) (h.2 i hi)⟩
theorem wpAnyL_first {i:Nat} {oi:Oper} {v:Value} (hi:ops[i]? = some oi) (hsel:∀ (j:Nat) (o:Oper) cs b,ops[j]? = some o → o.op ≠ .select cs b)
  (hQ:∀ c a w,Q (.panic c) (a.put oi.dst v) w → Q (.panic c) a w) :
  ∀ (fuel:Nat) (listed:Array Bool) (a:Act) (w:World),
   (∀ j oj,ops[j]? = some oj → j ≠ i → listed.getD j true = false → (∀ e ∈ oj.after,Region.binds md e = true → e.on ≠ i) → oi.apart ops oj = true) →
   i ∈ Region.ready md ops listed → YieldsIf P ops S oi v a → S w →
   wpAnyL P md ops Q S fuel (listed.setIfInBounds i true) (a.put oi.dst v) w → wpAnyL P md ops Q S (fuel + 1) listed a w:=by
 intro fuel
 induction fuel with
 |zero=>
  intro listed a w _ hr hy hS H
  refine ⟨fun h=>(by rw [h] at hr; cases hr),fun j hj=>?_⟩
  by_cases hji:j = i
  ·subst hji; exact hy.wpOp hi hS ⟨fun _=>hS,H⟩
  ·have:=ready_mono hj hji
   rw [H.1] at this
   cases this
 |succ fuel ih=>
  intro listed a w hfree hr hy hS H
  refine ⟨fun h=>(by rw [h] at hr; cases hr),fun j hj=>?_⟩
  by_cases hji:j = i
  ·subst hji; exact hy.wpOp hi hS ⟨fun _=>hS,H⟩
  ·have h1:=H.2 j (ready_mono hj hji)
   obtain ⟨hjun,oj,hoj,hall⟩:=mem_ready.1 hj
   have hnot:∀ e ∈ oj.after,Region.binds md e = true → e.on ≠ i:=fun e he hb heq=>by
    have h1:=hall e he hb
    have h0:=(mem_ready.1 hr).1
    rw [heq] at h1
    rcases qc6 i listed.size with h' | h'
    ·simp [h'] at h0 h1; rw [h0] at h1; cases h1
    ·simp [Array.getElem?_eq_none h'] at h1
   have hwa:=zm2 (qz.1 hi).1 hoj hji hnot
   have h2:=wpOp_putIf hoj (hfree j oj hoj hji hjun hnot) (fun cs b=>hsel i oi cs b hi) (fun cs b=>hsel j oj cs b hoj) hQ hy h1
   have hfree':∀ k ok,ops[k]? = some ok → k ≠ i → (listed.setIfInBounds j true).getD k true = false →
     (∀ e ∈ ok.after,Region.binds md e = true → e.on ≠ i) → oi.apart ops ok = true:=fun k ok hk hki hun hno=>by
    refine hfree k ok hk hki ?_ hno
    by_cases hjk:j = k
    ·subst hjk; exact hjun
    ·rw [getD_set_ne true hjk] at hun; exact hun
   refine wpOp_mono (fun a' w' h3=>⟨fun _=>h3.2.1 hwa,ih (listed.setIfInBounds j true) a' w' hfree' (ready_mono hr (Ne.symm hji)) h3.1 (h3.2.1 hwa) ?_⟩) h2
   rw [Array.setIfInBounds_comm _ _ hji]
   exact h3.2.2
theorem zjb {i:Nat} {oi:Oper} {v:Value} {fuel:Nat} {listed:Array Bool} {a:Act} {w:World} (hi:ops[i]? = some oi)
  (hs:Region.noSelect ops = true) (hf:Region.free md ops listed i = true) (hr:(Region.ready md ops listed).contains i = true)
  (hQ:∀ c a w,Q (.panic c) (a.put oi.dst v) w → Q (.panic c) a w) (hy:YieldsIf P ops S oi v a) (hS:S w)
  (h:wpAnyL P md ops Q S fuel (listed.setIfInBounds i true) (a.put oi.dst v) w):wpAnyL P md ops Q S (fuel + 1) listed a w:=
 wpAnyL_first hi (Region.noSelect_spec hs) hQ fuel listed a w (Region.free_spec hi hf) (by simpa using hr) hy hS h
theorem zk8 {rs:List Nat} {fuel:Nat} {listed:Array Bool} {a:Act} {w:World} (hr:Region.ready md ops listed = rs) (hne:rs ≠ [])
  (h:∀ i ∈ rs,wpOp P ops Q i (fun a' w'=>(zdo md ops i = false → S w') ∧ wpAnyL P md ops Q S fuel (listed.setIfInBounds i true) a' w') a w):wpAnyL P md ops Q S (fuel + 1) listed a w:=
 ⟨fun h0=>absurd (hr ▸ h0) hne,hr ▸ h⟩
theorem zju {listed:Array Bool} {a:Act} {w:World} (hr:Region.ready md ops listed = []) (h:Q .normal a w) :
  ∀ fuel,wpAnyL P md ops Q S fuel listed a w
 |0=>⟨hr,h⟩
 |_ + 1=>⟨fun _=>h,by rw [hr]; simp⟩
theorem zqf {id:Nat} {a:Act} {w:World} (hm:P.follows .mixedOrders = true)
  (h:wpAnyL P .any ops Q S ops.size (Array.replicate ops.size false) a { w with drawn:=w.drawn + 1 }):(Code.region id ops true).wp P Q a w:=
 wp_region_any hm (zls _ _ _ _ h)
end
def zc0 (C:Ctx) (ids:List Nat) (st:St) (ρ:Rho) (w:World):Prop:=
 ∃ ρ1 h1 nx1,Sat C ρ1 h1 nx1 w ∧ (∀ i,i < st.nx → ρ1 i = ρ i) ∧ st.nx ≤ nx1 ∧ ∀ i,memN i (0 :: ids) = true → Keep st.h h1 i
section
variable {P:Program} {Θ:Tys} {C:Ctx} {ρ:Rho} {st:St} {a:Act} {w:World} {ids:List Nat} {K:SV → Prop}
theorem zn1 {C:Ctx} {ρ:Rho} {h:Hp} {nx:Nat} {w:World} (S:Sat C ρ h nx w) (i:Nat):Keep h h i:=by
 obtain ⟨F,hF,_⟩:=S.fz
 exact ⟨by rw [hF]; exact Fz.r F,.inr rfl⟩
theorem zfi (D:Den C ρ st a w):zc0 C ids st ρ w:=⟨ρ,st.h,st.nx,D.sat,fun _ _=>rfl,qf _,fun i _=>zn1 D.sat i⟩
def Looks (P:Program) (C:Ctx) (ids:List Nat) (st:St) (ρ:Rho) (K:SV → Prop) (s:Sem Next):Prop:=
 ∃ v sv,K sv ∧ sv.rel ρ v ∧ sv.below st.nx ∧ ∀ w',zc0 C ids st ρ w' → s.run P w' = .ok (.value v) w'
theorem zc5 {s:Sem Value} (sv:SV) (hk:nj K sv) (D:Den C ρ st a w)
  (hrun:∀ ρ1 h1 nx1 w1,Sat C ρ1 h1 nx1 w1 → (∀ i,i < st.nx → ρ1 i = ρ i) → st.nx ≤ nx1 → (∀ i,memN i (0 :: ids) = true → Keep st.h h1 i) → YldS P s ρ1 h1 nx1 w1 fun v _ _=>v = sv) :
  Looks P C ids st ρ K (do pure (Next.value (← s))):=by
 obtain ⟨hk,hne⟩:=zuu hk
 obtain ⟨v0,sv0,r0,rel0,bl0,e0⟩:=hrun ρ st.h st.nx w D.sat (fun _ _=>rfl) (qf _) (fun i _=>zn1 D.sat i)
 subst e0
 refine ⟨v0,sv0,hk,rel0,bl0,?_⟩
 rintro w' ⟨ρ1,h1,nx1,S1,hag,hle,hkeep⟩
 obtain ⟨v1,sv1,r1,rel1,bl1,e1⟩:=hrun ρ1 h1 nx1 w' S1 hag hle hkeep
 subst e1
 have hv:v1 = v0:=by
  have rel0':=SV.rel_congr (n:=st.nx) hag bl0 rel0
  cases sv1 with
  |va x=>simp only [SV.rel] at *; rw [rel1,rel0']
  |agg l=>simp only [SV.rel] at *; rw [rel1,rel0']
  |tup l=>simp only [SV.rel] at *; rw [rel1,rel0']
  |junk=>exact absurd rfl hne
 subst hv
 simp [r1]
theorem ze4 {v:Value} {sv:SV} (hk:K sv) (hr:sv.rel ρ v) (hb:sv.below st.nx) (s:Sem Next) (hs:∀ w',s.run P w' = .ok (.value v) w'):Looks P C ids st ρ K s:=
 ⟨v,sv,hk,hr,hb,fun w' _=>hs w'⟩
theorem ztq (hΘ:Θ.Ok P) {o:Oper} (hs:sval P Θ ids st.t o.op st.h st.nx K) (D:Den C ρ st a w):Looks P C ids st ρ K (execOp a.eval o):=by
 obtain ⟨dst,op,type,pos,after,guard⟩:=o
 have rl:∀ {ρ1:Rho} (hag:∀ i,i < st.nx → ρ1 i = ρ i) (x:Operand),(ev st.t x).rel ρ1 (a.eval x):=fun hag x=>SV.rel_congr (n:=st.nx) hag (zay D x).2 (zay D x).1
 have bl:∀ {n:Nat} (hle:st.nx ≤ n) (x:Operand),(ev st.t x).below n:=fun hle x=>SV.below_mono hle (zay D x).2
 have rlO:∀ {ρ1:Rho} (hag:∀ i,i < st.nx → ρ1 i = ρ i) (x:Option Operand),relO ρ1 (evO st.t x) (x.map a.eval):=fun hag x=>by
  cases x with
  |none=>trivial
  |some x=>exact rl hag x
 cases op
 case move x=>exact ze4 hs (zay D x).1 (zay D x).2 _ (fun _=>rfl)
 case assign x=>exact ze4 hs (zay D x).1 (zay D x).2 _ (fun _=>rfl)
 case pick c x y=>
  obtain ⟨sv,hk,hs'⟩:=z1t (h:=st.h) (nx:=st.nx) (h1:=st.h) (nx1:=st.nx) hs
  have:=zc5 (P:=P) (ids:=ids) (s:=(do pure (if ← asBool (a.eval c) then a.eval x else a.eval y):Sem Value)) sv hk D (fun ρ1 h1 nx1 w1 S1 hag hle hkeep=>znt (K:=fun v _ _=>v = sv) (h:=h1) (nx:=nx1) hs' S1 (rl hag c) (rl hag x) (rl hag y) (bl hle x) (bl hle y))
  simpa [execOp] using this
 case load ty x=>
  simp only [sval] at hs
  have hx:=zay D x
  split at hs
  ·rename_i p he
   obtain ⟨hm,hs⟩:=hs
   rw [he] at hx
   obtain ⟨sv,hk,hs'⟩:=zxq hs
   refine zc5 sv hk D (fun ρ1 h1 nx1 w1 S1 hag hle hkeep=>?_)
   have hx1:=SV.rel_congr (n:=st.nx) hag hx.2 hx.1
   obtain ⟨u,sv1,k1,k2,k3,k4⟩:=zgx (P:=P) hΘ (zuv (nx1:=nx1) hs' (hkeep p.i hm)) S1 hx1
   exact ⟨u,sv1,k1,k2,k3,k4⟩
  ·exact hs.elim
 case nilCheck x=>
  simp only [sval] at hs
  have hx:=zay D x
  split at hs
  ·rename_i p he
   rw [he] at hx
   have hv:a.eval x = .pointer (some (p.addr ρ)):=hx.1
   exact ze4 hs hx.1 hx.2 _ (fun w'=>by simp [execOp,hv])
  ·rename_i f c he
   rw [he] at hx
   have hv:a.eval x = _:=hx.1
   simp only [SA.den] at hv
   exact ze4 hs hx.1 hx.2 _ (fun w'=>by simp [execOp,hv])
  ·exact hs.elim
 case binOp op ty x y ty'=>
  obtain ⟨sv,hk,hs'⟩:=z4w (h:=st.h) (nx:=st.nx) (h1:=st.h) (nx1:=st.nx) hs
  exact zc5 sv hk D (fun ρ1 h1 nx1 w1 S1 hag hle hkeep=>zrk (K:=fun v _ _=>v = sv) hΘ (h:=h1) (nx:=nx1) hs' S1 (rl hag x) (rl hag y))
 case unOp op ty x=>
  obtain ⟨sv,hk,hs'⟩:=z6z (h:=st.h) (nx:=st.nx) (h1:=st.h) (nx1:=st.nx) hs
  exact zc5 sv hk D (fun ρ1 h1 nx1 w1 S1 hag hle hkeep=>zwj (K:=fun v _ _=>v = sv) (h:=h1) (nx:=nx1) hs' S1 (rl hag x))
 case convert s d x=>
  simp only [sval] at hs
  have hx:=zay D x
  split at hs
  ·rename_i k n he
   rw [he] at hx
   have hv:a.eval x = .int k n:=hx.1
   unfold zoy at hs
   split at hs
   ·rename_i i0 k' c1 c2 c3 kk nn e1 e2 e3
    cases e3
    refine ze4 (sv:=.va (.int k' (k'.wrap n))) (v:=.int k' (k'.wrap n)) (zuu hs).1 rfl trivial _ (fun w'=>?_)
    have:(convert s d (.int k n)).run P w' = .ok (.int k' (k'.wrap n)) w':=by
     simp only [convert,Sem.run_bind,zas hΘ e1,zas hΘ e2,Result.andThen_ok,Conv.intToInt]
     cases i0.d<;>rfl
    simp [execOp,hv,this]
   ·rename_i e3; cases e3
   ·rename_i e3; cases e3
   ·rename_i e3; cases e3
   ·rename_i e3; cases e3
   ·exact hs.elim
  ·exact hs.elim
 case slice ty x lo hi mx=>
  obtain ⟨sv,hk,hs'⟩:=zxb (h:=st.h) (nx:=st.nx) (h1:=st.h) (nx1:=st.nx) hs
  exact zc5 sv hk D (fun ρ1 h1 nx1 w1 S1 hag hle hkeep=>zlj (K:=fun v _ _=>v = sv) hΘ (h:=h1) (nx:=nx1) hs' S1 (rl hag x) (rlO hag lo) (rlO hag hi) (rlO hag mx) (bl hle x))
 case fieldAddr ty x f=>
  obtain ⟨sv,hk,hs'⟩:=zlu (h:=st.h) (nx:=st.nx) (h1:=st.h) (nx1:=st.nx) hs
  exact zc5 sv hk D (fun ρ1 h1 nx1 w1 S1 hag hle hkeep=>zgq (K:=fun v _ _=>v = sv) hΘ (h:=h1) (nx:=nx1) hs' S1 (rl hag x) (bl hle x))
 case field ty x f=>
  obtain ⟨sv,hk,hs'⟩:=zt2 (h:=st.h) (nx:=st.nx) (h1:=st.h) (nx1:=st.nx) hs
  exact zc5 sv hk D (fun ρ1 h1 nx1 w1 S1 hag hle hkeep=>zlg (K:=fun v _ _=>v = sv) hΘ (h:=h1) (nx:=nx1) hs' S1 (rl hag x) (bl hle x))
 case indexAddr ty x i=>
  obtain ⟨sv,hk,hs'⟩:=zm6 (h:=st.h) (nx:=st.nx) (h1:=st.h) (nx1:=st.nx) hs
  exact zc5 sv hk D (fun ρ1 h1 nx1 w1 S1 hag hle hkeep=>zgr (K:=fun v _ _=>v = sv) hΘ (h:=h1) (nx:=nx1) hs' S1 (rl hag x) (rl hag i) (bl hle x))
 case index ty x i=>
  obtain ⟨sv,hk,hs'⟩:=zvg (h:=st.h) (nx:=st.nx) (h1:=st.h) (nx1:=st.nx) hs
  exact zc5 sv hk D (fun ρ1 h1 nx1 w1 S1 hag hle hkeep=>zlq (K:=fun v _ _=>v = sv) hΘ (h:=h1) (nx:=nx1) hs' S1 (rl hag x) (rl hag i) (bl hle x))
 case extract x i=>
  simp only [sval] at hs
  have hx:=zay D x
  split at hs
  ·rename_i l he
   rw [he] at hx
   split at hs
   ·rename_i c hc
    have hv:a.eval x = .tuple (l.map (SC.den ρ)).toArray:=hx.1
    rw [zht] at hc
    have hmem:c ∈ l:=yi hc
    refine ze4 (v:=c.den ρ) hs ?_ ?_ _ (fun w'=>?_)
    ·cases c<;>rfl
    ·have:=hx.2 c hmem; cases c<;>exact this
    ·simp [execOp,hv,Instr.extract,hc]
   ·exact hs.elim
  ·exact hs.elim
 case call c=>
  simp only [sval] at hs
  obtain ⟨callee,args,argTypes⟩:=c
  obtain ⟨h1,h2⟩:=zi8 D args.toList
  split at hs
  ·rename_i b hcal
   simp only at hcal; subst hcal
   have relLc:∀ {ρ1:Rho} {l:List SV} {vs:List Value},(∀ i,i < st.nx → ρ1 i = ρ i) → (∀ s ∈ l,s.below st.nx) → relL ρ l vs → relL ρ1 l vs:=by
    intro ρ1 l
    induction l with
    |nil=>intro vs _ _ h; cases vs<;>exact h
    |cons s r ih=>
     intro vs hag hb h
     cases vs with
     |nil=>exact h
     |cons v vr=>exact ⟨SV.rel_congr (n:=st.nx) hag (hb s (by simp)) h.1,ih hag (fun s hs=>hb s (by simp [hs])) h.2⟩
   split at hs
   ·rename_i x hxy
    rw [hxy] at h1 h2
    match hm:args.toList.map a.eval,h1 with
    |[v],h1=>
     have hma:args.map a.eval = #[v]:=by apply Array.ext'; simpa using hm
     obtain ⟨sv,hk,hs'⟩:=z3e (h:=st.h) (nx:=st.nx) (h1:=st.h) (nx1:=st.nx) hs
     have:=zc5 (ids:=ids) sv hk D (fun ρ1 h1' nx1 w1 S1 hag hle hkeep=>zrn (K:=fun v _ _=>v = sv) (ty:=type) hΘ (h:=h1') (nx:=nx1) hs' S1 (relLc hag h2 h1).1)
     simpa [execOp,resolve,invoke,builtin,hma] using this
   ·rename_i x y hxy
    rw [hxy] at h1 h2
    match hm:args.toList.map a.eval,h1 with
    |[v,u],h1=>
     have hma:args.map a.eval = #[v,u]:=by apply Array.ext'; simpa using hm
     obtain ⟨sv,hk,hs'⟩:=z5z (h:=st.h) (nx:=st.nx) (h1:=st.h) (nx1:=st.nx) hs
     have:=zc5 (P:=P) (ids:=ids) sv hk D (fun ρ1 h1' nx1 w1 S1 hag hle hkeep=>zqy (K:=fun v _ _=>v = sv) (ts:=argTypes) (ty:=type) (h:=h1') (nx:=nx1) hs' S1 (relLc hag h2 h1).1 (relLc hag h2 h1).2.1)
     simpa [execOp,resolve,invoke,builtin,hma] using this
   ·rename_i x y hxy
    rw [hxy] at h1 h2
    match hm:args.toList.map a.eval,h1 with
    |[v,u],h1=>
     have hma:args.map a.eval = #[v,u]:=by apply Array.ext'; simpa using hm
     obtain ⟨sv,hk,hs'⟩:=z4b (h:=st.h) (nx:=st.nx) (h1:=st.h) (nx1:=st.nx) hs
     have:=zc5 (P:=P) (ids:=ids) sv hk D (fun ρ1 h1' nx1 w1 S1 hag hle hkeep=>zq8 (K:=fun v _ _=>v = sv) (ts:=argTypes) (ty:=type) (h:=h1') (nx:=nx1) hs' S1 (relLc hag h2 h1).1 (relLc hag h2 h1).2.1)
     simpa [execOp,resolve,invoke,builtin,hma] using this
   ·exact hs.elim
  ·exact hs.elim
 all_goals exact hs.elim
end
def keepL (ids:List Nat) (h h':Hp) (X:Prop):Prop:=
 match ids with
 |[]=>X
 |i :: r=>lget h' i = lget h i ∧ keepL r h h' X
def keepK (ids:List Nat) (h h':Hp) (X:Prop):Prop:=geE (lget h' 0) (lget h 0) ∧ keepL ids h h' X
theorem zlk {h h':Hp} {X:Prop}:∀ {ids:List Nat},keepL ids h h' X → X ∧ ∀ i,memN i ids = true → lget h' i = lget h i
 |[],hk=>⟨hk,fun i hi=>by cases hi⟩
 |j :: r,hk=>by
  obtain ⟨h1,h2⟩:=hk
  obtain ⟨h3,h4⟩:=zlk h2
  refine ⟨h3,fun i hi=>?_⟩
  simp only [memN,y6] at hi
  rcases hi with hi | hi
  ·rw [qg hi]; exact h1
  ·exact h4 i hi
theorem ztl {h h':Hp} {X:Prop} {ids:List Nat} (hk:keepK ids h h' X):X ∧ ∀ i,memN i (0 :: ids) = true → Keep h h' i:=by
 obtain ⟨h0,hk⟩:=hk
 obtain ⟨hX,hi⟩:=zlk hk
 refine ⟨hX,fun i hm=>⟨h0,?_⟩⟩
 simp only [memN,y6] at hm
 rcases hm with hm | hm
 ·exact .inl (qg hm)
 ·exact .inr (hi i hm)
theorem ztx {x y z:Option Ent} (h:geE x y) (h':geE y z):geE x z:=by
 unfold geE at h
 split at h
 ·unfold geE at h'
  split at h'
  ·rename_i e2; cases e2; exact Fz.t h' h
  ·exact h'.elim
 ·exact h.elim
theorem Keep.trans {h h1 h2:Hp} {i:Nat} (a:Keep h h1 i) (b:Keep h1 h2 i):Keep h h2 i:=
 ⟨ztx b.1 a.1,by
  rcases a.2 with h' | h'
  ·exact .inl h'
  ·rcases b.2 with h'' | h''
   ·exact .inl h''
   ·exact .inr (h''.trans h')⟩
def zin (all:List Oper) (g:Option (Nat × Bool)) (st:St) (run skip:St → Prop):Prop:=
 match g with
 |none=>run st
 |some (j,want)=>match gslot all j with
  |none=>False
  |some d=>match lget st.t d with
   |some (.va (.lit b))=>(match beqB b want with
    |true=>run st
    |false=>skip st)
   |some (.va (.bool b))=>(match want with
    |true=>(b = true → run { st with t:=lput st.t d (.va (.lit true)) }) ∧ (b = false → skip { st with t:=lput st.t d (.va (.lit false)) })
    |false=>(b = false → run { st with t:=lput st.t d (.va (.lit false)) }) ∧ (b = true → skip { st with t:=lput st.t d (.va (.lit true)) }))
   |some (.tup [])=>skip st
   |_=>False
inductive Pn where
 |done
 |look (i:Nat) (p:Pn)
 |alt (i:Nat) (p q:Pn)
 |last (i:Nat) (p:Pn)
 |nil
def Pn.isNil:Pn → Bool
 |.nil=>true
 |_=>false
def Pn.isDone:Pn → Bool
 |.done=>true
 |_=>false
def Pn.heads:Pn → List Nat
 |.alt i _ q=>i :: q.heads
 |_=>[]
def lk:List Nat → Pn → Pn
 | [],p=>p
 | i :: r,p=>.look i (lk r p)
def splan (P:Program) (Θ:Tys) (ids:List Nat) (all:List Oper) (Q:SE → St → Prop):Pn → St → Prop
 |.done,st=>Q .normal st
 |.nil,_=>True
 |.look i p,st=>(match nth all i with
  |none=>False
  |some o=>zin all o.guard st (fun st=>sval P Θ ids st.t o.op st.h st.nx fun v=>setd o.dst v st fun st'=>splan P Θ ids all Q p st') (fun st=>setd o.dst (.tup []) st fun st'=>splan P Θ ids all Q p st'))
 |.alt i p q,st=>(match nth all i with
  |none=>False
  |some o=>match q.isNil with
   |true=>zin all o.guard st (fun st=>sop P Θ st.t o.op st.h st.nx (fun v h nx=>keepK ids st.h h (setd o.dst v { st with h:=h,nx:=nx } fun st'=>splan P Θ ids all Q p st')) (fun v h nx=>Q (.panic v) { st with t:=[],h:=h,nx:=nx }))
    (fun st=>setd o.dst (.tup []) st fun st'=>splan P Θ ids all Q p st')
   |false=>zin all o.guard st (fun st=>sop P Θ st.t o.op st.h st.nx (fun v h nx=>keepK ids st.h h (setd o.dst v { st with h:=h,nx:=nx } fun st'=>splan P Θ ids all Q p st')) (fun v h nx=>Q (.panic v) { st with t:=[],h:=h,nx:=nx }))
    (fun st=>setd o.dst (.tup []) st fun st'=>splan P Θ ids all Q p st') ∧ splan P Θ ids all Q q st)
 |.last i p,st=>(match nth all i with
  |none=>False
  |some o=>zin all o.guard st (fun st=>sop P Θ st.t o.op st.h st.nx (fun v h nx=>setd o.dst v { st with h:=h,nx:=nx } fun st'=>splan P Θ ids all Q p st') (fun v h nx=>Q (.panic v) { st with t:=[],h:=h,nx:=nx }))
    (fun st=>setd o.dst (.tup []) st fun st'=>splan P Θ ids all Q p st'))
def zcx (ops:Array Oper) (b:Bool):Pn → Nat → Array Bool → Bool
 |.done,n,listed=>Nat.beq n 0 && !b && (Region.ready .any ops listed).isEmpty
 |.nil,_,_=>b
 |.look i p,n,listed=>!b && (match n with
  |0=>false
  |n + 1=>Region.free .any ops listed i && (Region.ready .any ops listed).contains i && zcx ops false p n (listed.setIfInBounds i true))
 |.alt i p q,n,listed=>(match n with
  |0=>false
  |m + 1=>(b || (Region.ready .any ops listed == i :: q.heads)) && zcx ops false p m (listed.setIfInBounds i true) && zcx ops true q n listed)
 |.last i p,n,listed=>!b && (match n with
  |0=>false
  |m + 1=>zdo .any ops i && (Region.ready .any ops listed == [i]) && (p.isDone && zcx ops false p m (listed.setIfInBounds i true)))
def zn2:List (Nat × Bool) → Pn
 |[]=>.done
 |(i,true) :: r=>.look i (zn2 r)
 |(i,false) :: r=>.alt i (zn2 r) .nil
def Qr (Q:SE → St → Prop):SE → St → Prop:=fun e st=>
 match e with
 |.panic v=>st.t = [] ∧ Q (.panic v) st
 |.normal=>Q .normal st
 |.ret=>Q .ret st
 |.exit i=>Q (.exit i) st
section
variable {P:Program} {Θ:Tys} {C:Ctx} {ids:List Nat} {Q:SE → St → Prop}
theorem zsq {c:List PanicEntry} {a:Act} {w:World} {dst:Option Tmp} {v:Value} (h:Up C (Qr Q) (.panic c) (a.put dst v) w):Up C (Qr Q) (.panic c) a w:=by
 obtain ⟨se,st,ρ,hq,he,D⟩:=h
 cases se with
 |normal=>cases he
 |ret=>cases he
 |exit i=>cases he
 |panic u=>
  refine ⟨.panic u,st,ρ,hq,he,?_⟩
  have ht:=hq.1
  have h1:(a.put dst v).tmps.size = a.tmps.size:=by cases dst<;>simp [Act.put]
  have h2:(a.put dst v).defers = a.defers:=by cases dst<;>rfl
  exact { sat:=D.sat,nt:=by rw [← h1]; exact D.nt,tm:=fun n s hs=>by rw [ht] at hs; simp [lget] at hs,tw:=D.tw,n0:=D.n0,df:=by rw [← h2]; exact D.df,dw:=D.dw }
theorem zho {ops:Array Oper} {R:Exit → Act → World → Prop} {S S':World → Prop} (h:∀ w,S' w → S w):∀ (fuel:Nat) (listed:Array Bool) (a:Act) (w:World),wpAnyL P .any ops R S' fuel listed a w → wpAnyL P .any ops R S fuel listed a w
 |0,_,_,_,hh=>hh
 |fuel + 1,listed,a,w,hh=>⟨hh.1,fun i hi=>wpOp_mono (fun a' w' h'=>⟨fun hw=>h w' (h'.1 hw),zho h fuel _ a' w' h'.2⟩) (hh.2 i hi)⟩
theorem zf4 {all:List Oper} {o:Oper} {st:St} {ρ:Rho} {a:Act} {w:World} {run skip:St → Prop} (hs:zin all o.guard st run skip) (D:Den C ρ st a w) :
  ∃ st1,Den C ρ st1 a w ∧ st1.h = st.h ∧ st1.nx = st.nx ∧ ((Region.wanted o (yielded all.toArray a.tmps) = true ∧ run st1) ∨ (Region.wanted o (yielded all.toArray a.tmps) = false ∧ skip st1)):=by
 unfold zin at hs
 split at hs
 ·rename_i hg; exact ⟨st,D,rfl,rfl,.inl ⟨by simp [Region.wanted,hg],hs⟩⟩
 ·rename_i j want hg
  split at hs
  ·exact hs.elim
  ·rename_i d hd
   have hy:∀ v,a.tmps[d]? = some v → yielded all.toArray a.tmps j = (match v with | .bool b=>some b | _=>none):=by
    intro v hv
    rw [zlt] at hd
    simp only [yielded,qbq,hd,qco,hv]
    cases v<;>rfl
   have yes:∀ b,a.tmps[d]? = some (.bool b) → b = want → Region.wanted o (yielded all.toArray a.tmps) = true:=by
    intro b hb hw; simp [Region.wanted,hg,hy _ hb,hw]
   have no:∀ b,a.tmps[d]? = some (.bool b) → b ≠ want → Region.wanted o (yielded all.toArray a.tmps) = false:=by
    intro b hb hw; simp [Region.wanted,hg,hy _ hb,hw]
   split at hs
   ·rename_i b hl
    obtain ⟨v,hv,hr⟩:=D.tm d _ hl
    simp only [SV.rel,SA.den] at hr; subst hr
    split at hs
    ·rename_i hbw; exact ⟨st,D,rfl,rfl,.inl ⟨yes b hv (by cases b<;>cases want<;>simp_all [beqB]),hs⟩⟩
    ·rename_i hbw; exact ⟨st,D,rfl,rfl,.inr ⟨no b hv (by cases b<;>cases want<;>simp_all [beqB]),hs⟩⟩
   ·rename_i b hl
    obtain ⟨v,hv,hr⟩:=D.tm d _ hl
    simp only [SV.rel,SA.den] at hr; subst hr
    have D':=D.relit hl
    split at hs
    ·cases b with
     |true=>exact ⟨_,D',rfl,rfl,.inl ⟨yes _ hv rfl,hs.1 rfl⟩⟩
     |false=>exact ⟨_,D',rfl,rfl,.inr ⟨no _ hv (by simp),hs.2 rfl⟩⟩
    ·cases b with
     |false=>exact ⟨_,D',rfl,rfl,.inl ⟨yes _ hv rfl,hs.1 rfl⟩⟩
     |true=>exact ⟨_,D',rfl,rfl,.inr ⟨no _ hv (by simp),hs.2 rfl⟩⟩
   ·rename_i hl
    obtain ⟨v,hv,hr⟩:=D.tm d _ hl
    simp only [SV.rel,ym] at hr; subst hr
    exact ⟨st,D,rfl,rfl,.inr ⟨by simp [Region.wanted,hg,hy _ hv],hs⟩⟩
   ·exact hs.elim
theorem zga {st st1:St} {ρ:Rho} (h1:st1.h = st.h) (h2:st1.nx = st.nx):zc0 C ids st1 ρ = zc0 C ids st ρ:=by
 unfold zc0; rw [h1,h2]
theorem zdt {st:St} {ρ:Rho} {a:Act} {w:World} {dst:Option Tmp} {sv:SV} {v:Value} {K:St → Prop} (hs:setd dst sv st K) (D:Den C ρ st a w) (hr:sv.rel ρ v) (hb:sv.below st.nx) :
  ∃ st',K st' ∧ Den C ρ st' (a.put dst v) w ∧ st'.h = st.h ∧ st'.nx = st.nx:=by
 unfold setd at hs
 split at hs
 ·exact ⟨st,hs,D,rfl,rfl⟩
 ·rename_i d
  split at hs
  ·rename_i hd
   exact ⟨_,hs,D.put d (nb hd) sv v hr hb,rfl,rfl⟩
  ·exact hs.elim
theorem znp (hΘ:Θ.Ok P) (all:List Oper) {i:Nat} {o:Oper} {listed:Array Bool} {n:Nat} {p:Pn} {st:St} {ρ:Rho} {a:Act} {w:World} (ho:all[i]? = some o)
  (ih:∀ (st:St) (ρ:Rho) (a:Act) (w:World),splan P Θ ids all Q p st → Den C ρ st a w → wpAnyL P .any all.toArray (Up C (Qr Q)) (zc0 C ids st ρ) n (listed.setIfInBounds i true) a w)
  (hs:zin all o.guard st (fun st=>sop P Θ st.t o.op st.h st.nx (fun v h nx=>keepK ids st.h h (setd o.dst v { st with h:=h,nx:=nx } fun st'=>splan P Θ ids all Q p st')) (fun v h nx=>Q (.panic v) { st with t:=[],h:=h,nx:=nx }))
    (fun st=>setd o.dst (.tup []) st fun st'=>splan P Θ ids all Q p st')) (D:Den C ρ st a w) :
  wpOp P all.toArray (Up C (Qr Q)) i (fun a' w'=>(zdo .any all.toArray i = false → zc0 C ids st ρ w') ∧ wpAnyL P .any all.toArray (Up C (Qr Q)) (zc0 C ids st ρ) n (listed.setIfInBounds i true) a' w') a w:=by
 have ho':all.toArray[i]? = some o:=by simpa using ho
 obtain ⟨st1,D1,e1,e2,hcase⟩:=zf4 hs D
 have hanch:zc0 C ids st1 ρ = zc0 C ids st ρ:=zga e1 e2
 unfold wpOp
 simp only [ho']
 rcases hcase with ⟨hw,hrun⟩ | ⟨hw,hskip⟩
 ·rw [if_pos hw]
  left
  have:=zg7 hΘ hrun D1
  refine zhc this ?_ ?_
  ·rintro a' w' ⟨v,sv,h',nx',ρ',rfl,hk,hrel,hbl,D',hag,hle⟩
   obtain ⟨hk,hkeep⟩:=ztl hk
   obtain ⟨st2,hk2,D2,g1,g2⟩:=zdt hk D' hrel hbl
   have hS:∀ w2,zc0 C ids st2 ρ' w2 → zc0 C ids st ρ w2:=by
    rintro w2 ⟨ρ1,h1,nx1,S1,a1,a2,a3⟩
    refine ⟨ρ1,h1,nx1,S1,fun i hi=>?_,?_,fun i hi=>?_⟩
    ·rw [a1 i (by rw [g2]; show i < nx'; rw [← e2] at hi; exact yp hi hle),hag i (by rw [e2]; exact hi)]
    ·rw [g2] at a2; rw [← e2]; exact jk hle a2
    ·have q1:=a3 i hi
     rw [g1] at q1
     have q2:=hkeep i hi
     rw [e1] at q2
     exact q2.trans q1
   exact ⟨fun _=>hS w' (zfi D2),zho hS _ _ _ _ (ih st2 ρ' _ w' hk2 D2)⟩
  ·rintro e a' w' ⟨v,h',nx',ρ',rfl,hq,D'⟩
   refine ⟨.panic v,_,ρ',⟨rfl,hq⟩,rfl,?_⟩
   exact { sat:=D'.sat,nt:=D'.nt,tm:=fun n s hs=>by simp [lget] at hs,tw:=fun n s hs=>by simp [lget] at hs,n0:=D'.n0,df:=D'.df,dw:=D'.dw }
 ·rw [if_neg (by rw [hw]; simp)]
  obtain ⟨st2,hk2,D2,g1,g2⟩:=zdt (v:=undef) hskip D1 rfl (by simp [SV.below])
  refine ⟨fun _=>zfi D,?_⟩
  have:=ih st2 ρ _ w hk2 D2
  rw [zga g1 g2,hanch] at this
  exact this
theorem zte (hΘ:Θ.Ok P) (all:List Oper) {i:Nat} {o:Oper} {listed:Array Bool} {n:Nat} {p:Pn} {st:St} {ρ:Rho} {a:Act} {w:World} (ho:all[i]? = some o) (hl:zdo .any all.toArray i = true)
  (ih:∀ (st:St) (ρ:Rho) (a:Act) (w:World),splan P Θ ids all Q p st → Den C ρ st a w → ∀ S,wpAnyL P .any all.toArray (Up C (Qr Q)) S n (listed.setIfInBounds i true) a w)
  (hs:zin all o.guard st (fun st=>sop P Θ st.t o.op st.h st.nx (fun v h nx=>setd o.dst v { st with h:=h,nx:=nx } fun st'=>splan P Θ ids all Q p st') (fun v h nx=>Q (.panic v) { st with t:=[],h:=h,nx:=nx }))
    (fun st=>setd o.dst (.tup []) st fun st'=>splan P Θ ids all Q p st')) (D:Den C ρ st a w) (S:World → Prop) :
  wpOp P all.toArray (Up C (Qr Q)) i (fun a' w'=>(zdo .any all.toArray i = false → S w') ∧ wpAnyL P .any all.toArray (Up C (Qr Q)) S n (listed.setIfInBounds i true) a' w') a w:=by
 have ho':all.toArray[i]? = some o:=by simpa using ho
 obtain ⟨st1,D1,e1,e2,hcase⟩:=zf4 hs D
 have hno:zdo .any all.toArray i = false → ∀ w',S w':=fun h=>absurd (hl.symm.trans h) (by simp)
 unfold wpOp
 simp only [ho']
 rcases hcase with ⟨hw,hrun⟩ | ⟨hw,hskip⟩
 ·rw [if_pos hw]
  left
  have:=zg7 hΘ hrun D1
  refine zhc this ?_ ?_
  ·rintro a' w' ⟨v,sv,h',nx',ρ',rfl,hk,hrel,hbl,D',hag,hle⟩
   obtain ⟨st2,hk2,D2,g1,g2⟩:=zdt hk D' hrel hbl
   exact ⟨fun h=>hno h _,ih st2 ρ' _ w' hk2 D2 S⟩
  ·rintro e a' w' ⟨v,h',nx',ρ',rfl,hq,D'⟩
   refine ⟨.panic v,_,ρ',⟨rfl,hq⟩,rfl,?_⟩
   exact { sat:=D'.sat,nt:=D'.nt,tm:=fun n s hs=>by simp [lget] at hs,tw:=fun n s hs=>by simp [lget] at hs,n0:=D'.n0,df:=D'.df,dw:=D'.dw }
 ·rw [if_neg (by rw [hw]; simp)]
  obtain ⟨st2,hk2,D2,g1,g2⟩:=zdt (v:=undef) hskip D1 rfl (by simp [SV.below])
  exact ⟨fun h=>hno h _,ih st2 ρ _ w hk2 D2 S⟩
theorem zem (hΘ:Θ.Ok P) (all:List Oper) (hsel:Region.noSelect all.toArray = true):∀ (plan:Pn) (b:Bool) (n:Nat) (listed:Array Bool) (st:St) (ρ:Rho) (a:Act) (w:World),zcx all.toArray b plan n listed = true →
  splan P Θ ids all Q plan st → Den C ρ st a w →
   (b = false → wpAnyL P .any all.toArray (Up C (Qr Q)) (zc0 C ids st ρ) n listed a w) ∧
   (b = true → ∀ i ∈ plan.heads,wpOp P all.toArray (Up C (Qr Q)) i (fun a' w'=>(zdo .any all.toArray i = false → zc0 C ids st ρ w') ∧ wpAnyL P .any all.toArray (Up C (Qr Q)) (zc0 C ids st ρ) (n - 1) (listed.setIfInBounds i true) a' w') a w)
 |.done,b,n,listed,st,ρ,a,w,hc,hs,D=>by
  simp only [zcx,qd,List.isEmpty_iff,qar] at hc
  exact ⟨fun _=>zju hc.2 ⟨.normal,st,ρ,hs,rfl,D⟩ _,fun _ i hi=>by simp [Pn.heads] at hi⟩
 |.nil,b,n,listed,st,ρ,a,w,hc,hs,D=>by
  simp only [zcx] at hc
  exact ⟨(fun hb=>absurd (hb.symm.trans hc) (by simp)),(fun _ i hi=>by simp [Pn.heads] at hi)⟩
 |.look i p,b,n,listed,st,ρ,a,w,hc,hs,D=>by
  cases n with
  |zero=>simp [zcx] at hc
  |succ n=>
  simp only [zcx,qd,qar] at hc
  obtain ⟨hb,⟨hf,hr⟩,hc⟩:=hc
  refine ⟨fun _=>?_,(fun hb'=>absurd (hb'.symm.trans hb) (by simp))⟩
  simp only [splan] at hs
  split at hs
  ·exact hs.elim
  ·rename_i o ho
   rw [zht] at ho
   have ho':all.toArray[i]? = some o:=by simpa using ho
   obtain ⟨st1,D1,e1,e2,hcase⟩:=zf4 hs D
   have hanch:zc0 C ids st1 ρ = zc0 C ids st ρ:=zga e1 e2
   rcases hcase with ⟨hw,hrun⟩ | ⟨hw,hskip⟩
   ·obtain ⟨v,sv,hk,hrel,hbl,hall⟩:=ztq hΘ hrun D1
    obtain ⟨st2,hk2,D2,g1,g2⟩:=zdt hk D1 hrel hbl
    refine zjb ho' hsel hf hr (fun c a w=>zsq) (v:=v) (.inl ⟨hw,fun w' hS=>hall w' (by rw [hanch]; exact hS)⟩) (zfi D) ?_
    have:=(zem hΘ all hsel p false n _ st2 ρ _ w hc hk2 D2).1 rfl
    rw [zga g1 g2,hanch] at this
    exact this
   ·obtain ⟨st2,hk2,D2,g1,g2⟩:=zdt (v:=undef) hskip D1 rfl (by simp [SV.below])
    refine zjb ho' hsel hf hr (fun c a w=>zsq) (v:=undef) (.inr ⟨hw,rfl⟩) (zfi D) ?_
    have:=(zem hΘ all hsel p false n _ st2 ρ _ w hc hk2 D2).1 rfl
    rw [zga g1 g2,hanch] at this
    exact this
 |.alt i p q,b,n,listed,st,ρ,a,w,hc,hs,D=>by
  cases n with
  |zero=>simp [zcx] at hc
  |succ n=>
  simp only [zcx,qd,y6,beq_iff_eq] at hc
  obtain ⟨⟨hr,hcp⟩,hcq⟩:=hc
  have hall:∀ j ∈ (Pn.alt i p q).heads,wpOp P all.toArray (Up C (Qr Q)) j (fun a' w'=>(zdo .any all.toArray j = false → zc0 C ids st ρ w') ∧ wpAnyL P .any all.toArray (Up C (Qr Q)) (zc0 C ids st ρ) n (listed.setIfInBounds j true) a' w') a w:=by
   simp only [splan] at hs
   split at hs
   ·exact hs.elim
   ·rename_i o ho
    rw [zht] at ho
    have ih:∀ (st:St) (ρ:Rho) (a:Act) (w:World),splan P Θ ids all Q p st → Den C ρ st a w → wpAnyL P .any all.toArray (Up C (Qr Q)) (zc0 C ids st ρ) n (listed.setIfInBounds i true) a w:=
     fun st ρ a w h1 h2=>(zem hΘ all hsel p false n _ st ρ a w hcp h1 h2).1 rfl
    split at hs
    ·rename_i hq
     have hq':q = .nil:=by cases q<;>simp_all [Pn.isNil]
     subst hq'
     intro j hj
     simp only [Pn.heads,qy] at hj
     subst hj
     exact znp hΘ all ho ih hs D
    ·intro j hj
     simp only [Pn.heads,qj] at hj
     rcases hj with rfl | hj
     ·exact znp hΘ all ho ih hs.1 D
     ·exact (zem hΘ all hsel q true (n + 1) listed st ρ a w hcq hs.2 D).2 rfl j hj
  refine ⟨fun hb=>?_,fun _=>hall⟩
  have hr':=hr.resolve_left (by simp [hb])
  exact zk8 hr' (by simp) hall
 |.last i p,b,n,listed,st,ρ,a,w,hc,hs,D=>by
  cases n with
  |zero=>simp [zcx] at hc
  |succ n=>
  simp only [zcx,qd,qar,beq_iff_eq] at hc
  obtain ⟨hb,⟨hl,hr⟩,hc⟩:=hc
  refine ⟨fun _=>?_,(fun hb'=>absurd (hb'.symm.trans hb) (by simp))⟩
  simp only [splan] at hs
  split at hs
  ·exact hs.elim
  ·rename_i o ho
   rw [zht] at ho
   have hp:p = .done:=by
    cases p with
    |done=>rfl
    |_=>exact absurd hc.1 (by simp [Pn.isDone])
   subst hp
   refine zk8 hr (by simp) fun j hj=>?_
   simp only [qy] at hj
   subst hj
   refine zte hΘ all ho hl ?_ hs D _
   intro st ρ a w h1 D1 S
   simp only [zcx,qd,List.isEmpty_iff,qar] at hc
   exact zju hc.2.2 ⟨.normal,st,ρ,h1,rfl,D1⟩ _
theorem drawP (hΘ:Θ.Ok P) (hm:P.follows .mixedOrders = true) {id:Nat} {all:List Oper} {st:St} (plan:Pn) (ids:List Nat)
  (hc:(Region.noSelect all.toArray && zcx all.toArray false plan all.length (Array.replicate all.length false)) = true)
  (hs:splan P Θ ids all Q plan st):WP P (.region id all.toArray true) st Q:=by
 simp only [qd] at hc
 obtain ⟨h1,h3⟩:=hc
 unfold WP
 intro C ρ a w D
 have D':Den C ρ st a { w with drawn:=w.drawn + 1 }:={ sat:=D.sat.drew,nt:=D.nt,tm:=D.tm,tw:=D.tw,n0:=D.n0,df:=D.df,dw:=D.dw }
 have:=(zem (C:=C) hΘ all h1 plan false _ _ st ρ a _ h3 hs D').1 rfl
 refine wp_mono (zqf (S:=zc0 C ids st ρ) hm (by simpa using this)) ?_
 rintro e a' w' ⟨se,st',ρ',hq,rfl,D2⟩
 refine ⟨se,st',ρ',?_,rfl,D2⟩
 cases se with
 |panic v=>exact hq.2
 |normal=>exact hq
 |ret=>exact hq
 |exit i=>exact hq
theorem draw (hΘ:Θ.Ok P) (hm:P.follows .mixedOrders = true) {id:Nat} {all:List Oper} {st:St} (plan:List (Nat × Bool)) (ids:List Nat)
  (hc:(Region.noSelect all.toArray && zcx all.toArray false (zn2 plan) all.length (Array.replicate all.length false)) = true)
  (hs:splan P Θ ids all Q (zn2 plan) st):WP P (.region id all.toArray true) st Q:=drawP hΘ hm (zn2 plan) ids hc hs
end
def junks:List Nat → List (Nat × SV)
 |[]=>[]
 |n :: r=>(n,.junk) :: junks r
def LI {X:Type} (st:St) (upd:X → List (Nat × SV)) (jl:List Nat) (hup:X → List (Nat × Ent)) (N:Nat) (x:X):St:=
 ⟨upd x :: junks jl :: st.t,hup x :: st.h,N,st.n0,st.nt,st.d⟩
theorem zan {P:Program} {Θ:Tys} (hΘ:Θ.Ok P) {st:St} {body:Code} {Q:SE → St → Prop} {X:Type} (upd:X → List (Nat × SV)) (jl:List Nat) (hup:X → List (Nat × Ent)) (N:Nat) (μ:X → Nat) (x0:X)
  (h0:WfH st.h st.nx → WfT st.t st.nx → Le st (LI st upd jl hup N x0))
  (hb:∀ x,WfH st.h st.nx → WfT st.t st.nx → sx P Θ body (LI st upd jl hup N x) (LQ (LI st upd jl hup N) μ x Q)):WP P (.loop body) st Q:=
 z4g (LI st upd jl hup N) μ x0 fun hH hT=>⟨h0 hH hT,fun x=>zci hΘ _ _ _ (hb x hH hT)⟩
def Ent.bB (n:Nat):Ent → Bool
 |.one b=>b.bB n
 |.opt _ b=>b.bB n
 |.fam _ _ _=>false
 |.gone=>true
 |.frz _=>true
 |.lnk _=>true
theorem bT_of {n:Nat}:∀ {l:List (Nat × SV)},(l.all fun p=>p.2.bB n) = true → bT n l
 |[],_=>trivial
 |(i,v) :: r,h=>by
  simp only [qbw,qd] at h
  exact ⟨SV.bB_ok h.1,bT_of h.2⟩
def ck0 (upd jl:List (Nat × SV)) (n0 nt N:Nat):Bool:=
 (jl.all fun p=>zgn p.2 && Nat.ble (p.1 + 1) nt) && (upd.all fun p=>Nat.ble (p.1 + 1) nt) && Nat.ble n0 N && (upd.all fun p=>p.2.bB N) && Nat.ble 1 N
theorem chk0 (F:Fz) (N:Nat) (h:1 ≤ N):chkS [] [(0,.frz F)] N N = true:=by
 have h1:Nat.ble (0 + 1) N = true:=qap h
 simp [chkS,zoi,h1,Ent.isFz,at0,aget]
theorem le0 {T:List (List (Nat × SV))} {upd jl:List (Nat × SV)} {H:Hp} {n0 nt N:Nat} {F F1:Fz} (hH:WfH H N) (hT:WfT T N) (hF:lget H 0 = some (.frz F1)) (hle:Fz.le F F1)
  (hc:ck0 upd jl n0 nt N = true) (ht:leT [] T upd):Le ⟨T,H,N,n0,nt,[]⟩ ⟨upd :: jl :: T,[(0,.frz F)] :: H,N,n0,nt,[]⟩:=by
 simp only [ck0,qd] at hc
 obtain ⟨⟨⟨⟨c1,c2⟩,c3⟩,c4⟩,c5⟩:=hc
 exact zpi N [] hH hT (qap (qf _)) c3 (fun _ h=>nomatch h) c1 c2 (chk0 F N (nb c5)) (bT_of c4) ⟨tv,tv⟩ ht ⟨by simp only [entE,aget,Ent.ren]; rw [hF]; exact hle,tv⟩
def ckR (top upd jl:List (Nat × SV)) (htop:List (Nat × Ent)) (n0 nt N:Nat):Bool:=
 ck0 upd jl n0 nt N && (top.all fun p=>(aget upd p.1).isSome || (aget jl p.1).isSome) && (htop.all fun p=>Nat.beq p.1 0 || Nat.ble N p.1)
theorem lr0 {T:List (List (Nat × SV))} {top upd jl:List (Nat × SV)} {H:Hp} {htop:List (Nat × Ent)} {nx1 n0 nt N:Nat} {F F1:Fz} (hH:WfH H N) (hT:WfT T N) (hF:lget (htop :: H) 0 = some (.frz F1)) (hle:Fz.le F F1)
  (hc:ckR top upd jl htop n0 nt N = true) (ht:leT [] (top :: jl :: T) upd):Le ⟨top :: jl :: T,htop :: H,nx1,n0,nt,[]⟩ ⟨upd :: jl :: T,[(0,.frz F)] :: H,N,n0,nt,[]⟩:=by
 simp only [ckR,ck0,qd] at hc
 obtain ⟨⟨⟨⟨⟨⟨c1,c2⟩,c3⟩,c4⟩,c5⟩,c6⟩,c7⟩:=hc
 refine zmh N N [] hH hT (qap (qf _)) c3 (fun _ h=>nomatch h) c1 c2 c6 ?_ (chk0 F N (nb c5)) (bT_of c4) ⟨tv,tv⟩ ht ⟨by simp only [entE,aget,Ent.ren]; rw [hF]; exact hle,tv⟩
 refine qo.2 fun p hp=>?_
 have:=qo.1 c7 p hp
 simp only [y6] at this ⊢
 rcases this with h | h
 ·left; rw [qg h]; rfl
 ·exact .inr h
def fz {X:Type} (FF:X → Fz):X → List (Nat × Ent):=fun x=>[(0,.frz (FF x))]
end Sx
namespace Sx
open Go Go.RowKit
theorem ze9 (a:SA):atomE a a:=by
 cases a<;>simp [atomE]
theorem zel:∀ l:List SC,tupE l l
 |[]=>trivial
 |.va a :: r=>⟨ze9 a,zel r⟩
 |.agg _ :: r=>⟨rfl,zel r⟩
theorem zhk (v:SV):svE v v:=by
 cases v with
 |va a=>exact ze9 a
 |agg l=>rfl
 |tup l=>exact zel l
 |junk=>rfl
theorem zaj (o:Out):outE o o:=by
 cases o with
 |ret v=>exact zhk v
 |panic v=>rfl
section
variable {P:Program} {Θ:Tys} {C:Ctx} {ρ:Rho} {st:St} {a:Act} {w:World} {Q:SE → St → Prop}
def zvy (P:Program) (Θ:Tys) (body:Code) (Q:SE → St → Prop):Nat → St → Prop
 |0,_=>False
 |n + 1,st=>sx P Θ body st fun e st'=>(match e with
  |.normal=>zvy P Θ body Q n st'
  |.ret=>Q .ret st'
  |.exit id=>Q (.exit id) st'
  |.panic v=>Q (.panic v) st')
theorem zhs (hΘ:Θ.Ok P) {body:Code}:∀ (n:Nat) (st:St) (ρ:Rho) (a:Act) (w:World),zvy P Θ body Q n st → Den C ρ st a w → Code.rounds P body (Up C Q) n a w
 |0,st,ρ,a,w,h,_=>h.elim
 |n + 1,st,ρ,a,w,h,D=>by
  have h1:=zci hΘ body st _ h
  unfold WP at h1
  refine wp_mono (h1 C ρ a w D) ?_
  rintro e a' w' ⟨se,st',ρ',hq,rfl,D'⟩
  cases se with
  |normal=>exact zhs hΘ n st' ρ' a' w' hq D'
  |ret=>exact ⟨.ret,st',ρ',hq,rfl,D'⟩
  |exit id=>exact ⟨.exit id,st',ρ',hq,rfl,D'⟩
  |panic v=>exact ⟨.panic v,st',ρ',hq,rfl,D'⟩
theorem rounds (hΘ:Θ.Ok P) {body:Code} (n:Nat) (h:zvy P Θ body Q n st):WP P (.loop body) st Q:=by
 unfold WP
 intro C ρ a w D
 exact wp_loop_rounds n (zhs hΘ n st ρ a w h D)
theorem Sat.belowW {h:Hp} {nx:Nat} {w w':World} (S:Sat C ρ h nx w) (hb:Below w.heap.size w w'):Sat C ρ h nx w':=
 { S with
  blk:=fun i e he k hk=>by
   obtain ⟨o,ho,hok⟩:=S.blk i e he k hk
   exact ⟨o,by rw [hb.block _ (qz.1 ho).1]; exact ho,hok⟩
  os:=hb.os.trans S.os,tape:=hb.tape.trans S.tape,output:=hb.output.trans S.output
  size:=jk S.size hb.size
  fr:=fun b hlt hB=>by rw [hb.block b (yp hlt S.size)]; exact S.fr b hlt hB }
theorem zf5 {F:Fz} {f:FuncId} {args:List SV} {out:Out} {vs:List Value} (hent:Enters P f) (hz:out.z = true)
  (hv:∀ ρ vs',relL ρ args vs' → vs' = vs) (e:Ending) (he:∀ ρ,out.rel ρ e)
  (hc:∀ C ρ w,Sat C ρ [[(0,.frz F)]] 1 w → Calls P f vs.toArray w fun e' w'=>e' = e ∧ Below w.heap.size w w') :
  Fo P F f args fun o F'=>o = out ∧ F' = F:=by
 unfold Fo za6
 intro C ρ w vs' S hr hbl
 obtain rfl:=hv ρ vs' hr
 refine ⟨hent,(hc C ρ w S).mono ?_⟩
 rintro e' w' ⟨rfl,hb⟩
 refine ⟨out,[[(0,.frz F)]],1,ρ,?_,he ρ,S.belowW hb,fun _ _=>rfl,qf _,?_⟩
 ·exact endFo out F rfl (Fz.r F) (Fz.r F) ⟨rfl,rfl⟩ (by
   rw [Out.ren_id (μ:=resP [[(0,.frz F)]]) (.inl hz) (fun k=>rfl)]; exact zaj out) hz
 ·have:=Out.z_below hz
  cases out with
  |ret v=>exact this
  |panic v=>trivial
def zni:Option Value → FrameMode
 |none=>.returning
 |some v=>.panicking [{ v,recovered:=false }]
@[irreducible] def DefWP (P:Program) (f:FuncId) (args:List SA) (h:Hp) (nx:Nat) (m:Option Value) (K:Hp → Nat → Prop):Prop:=
 ∀ C ρ w,Sat C ρ h nx w → (∀ a ∈ args,a.below nx) →
  Enters P f ∧ CallsD P f (args.map (SA.den ρ)).toArray (zni m) w fun e u w'=>∃ v h' nx' ρ',e = .returned v ∧ settle u = .returning ∧ K h' nx' ∧ Sat C ρ' h' nx' w' ∧ (∀ i,i < nx → ρ' i = ρ i) ∧ nx ≤ nx'
def endQD (P:Program) (Θ:Tys) (rs:List ResultVar) (K:Out → Hp → Nat → Prop):SE → St → Prop:=fun e st=>
 match e with
 |.normal=>(match st.d with
  |(.fn f,as) :: r=>r = [] ∧ DefWP P f as st.h st.nx none fun h nx=>sres Θ { st with h:=h,nx:=nx } rs fun v=>K (.ret v) h nx
  |_=>False)
 |.ret=>(match st.d with
  |(.fn f,as) :: r=>r = [] ∧ DefWP P f as st.h st.nx none fun h nx=>sres Θ { st with h:=h,nx:=nx } rs fun v=>K (.ret v) h nx
  |_=>False)
 |.panic v=>(match st.d with
  |(.fn f,as) :: r=>r = [] ∧ DefWP P f as st.h st.nx (some v) fun h nx=>sres Θ { st with h:=h,nx:=nx } rs fun v=>K (.ret v) h nx
  |_=>False)
 |.exit _=>False
theorem zjm (hΘ:Θ.Ok P) {fn:Func} {st:St} {rs:List ResultVar} (hrs:fn.results.toList = rs) {K:Out → Hp → Nat → Prop} {R:Ending → World → Prop} (m:Option Value) {f:FuncId} {as:List SA} {r:List (Dk × List SA)}
  (hd:st.d = (.fn f,as) :: r) (hr:r = []) (D:Den C ρ st a w)
  (hw:DefWP P f as st.h st.nx m fun h nx=>sres Θ { st with h:=h,nx:=nx } rs fun v=>K (.ret v) h nx)
  (hR:∀ v sv h' nx' ρ' w',K (.ret sv) h' nx' → sv.rel ρ' v → sv.below nx' → Sat C ρ' h' nx' w' → (∀ i,i < st.nx → ρ' i = ρ i) → st.nx ≤ nx' → R (.returned v) w') :
  Leaves P fn a.tmps R a.defers (zni m) w:=by
 have hdf:=D.df
 have hdw:=D.dw
 subst hr
 rw [hd] at hdf hdw
 rw [hdf]
 unfold DefWP at hw
 obtain ⟨hent,hc⟩:=hw C ρ w D.sat (hdw (.fn f,as) (by simp))
 unfold Enters at hent
 refine ⟨by cases m<;>simp [zni],.func f,#[],f,(as.map (SA.den ρ)).toArray,rfl,?_,?_⟩
 ·have e1:(as.map (SA.den ρ)).toArray ++ (#[]:Array Value) = (as.map (SA.den ρ)).toArray:=by simp
  simp only [defOf,defV,invoke,e1,hent]
 ·refine hc.mono ?_
  rintro e u w' ⟨v,h',nx',ρ',rfl,hu,hk,S',hag,hle⟩
  have D':=D.heap S' hag hle
  obtain ⟨v',sv,h1,h2,h3,h4⟩:=ze2 (fn:=fn) hΘ D' (by rw [hrs]; exact hk)
  show Leaves P fn a.tmps R [] (settle u) w'
  rw [hu]
  exact ⟨v',h1,hR v' sv h' nx' ρ' w' h4 h2 h3 S' hag hle⟩
theorem z1p (hΘ:Θ.Ok P) {f:FuncId} {fn:Func} {c:Code} {args:List SV} {h:Hp} {nx:Nat} {K:Out → Hp → Nat → Prop} (hf:P.funcs[f]? = some fn) (hb:fn.body = some c) (hn:(fn.name == "runtime.NumGoroutine") = false)
  (nt:Nat) (rs:List ResultVar) (hnt:fn.ntmps = nt) (hrs:fn.results.toList = rs) (hl:Nat.ble args.length nt = true)
  (hx:WP P c ⟨[zeh 0 args],h,nx,nx,nt,[]⟩ (endQD P Θ rs K)):za6 P f args h nx K:=by
 unfold za6
 intro C ρ w vs S hrel hbl
 refine ⟨enters_of hf hb hn,?_⟩
 unfold WP at hx
 let C1:Ctx:={ C with ρ0:=ρ,n0:=nx }
 have S1:Sat C1 ρ h nx w:={ S with anch:=fun _ _ _=>rfl,n0:=qf _,n1:=S.pos }
 have hlen:=zhl hrel
 have hle:=nb hl
 have D:Den C1 ρ ⟨[zeh 0 args],h,nx,nx,nt,[]⟩ { tmps:=vs.toArray ++ Array.replicate (fn.ntmps - vs.toArray.size) undef,defers:=[] } w:=by
  refine { sat:=S1,nt:=?_,tm:=?_,tw:=?_,n0:=rfl,df:=rfl,dw:=by simp }
  ·simp; omega
  ·intro n s hs
   simp only [lget] at hs
   split at hs
   ·rename_i v hv
    cases hs
    obtain ⟨u,_,h2,h3,_⟩:=zct (nx:=nx) args vs 0 n s hrel hv
    simp only [qak] at h2
    refine ⟨u,?_,h3⟩
    rw [qan (by simpa using (qh.1 h2).1)]
    simpa using h2
   ·simp at hs
  ·intro n s hs
   simp only [lget] at hs
   split at hs
   ·rename_i v hv
    cases hs
    obtain ⟨u,_,_,_,h4⟩:=zct (nx:=nx) args vs 0 n s hrel hv
    exact hbl s h4
   ·simp at hs
 refine calls_of_wp_defers hf hb (wp_mono (hx C1 ρ _ w D) ?_)
 rintro e a' w' ⟨se,st',ρ',hq,rfl,D'⟩
 have back:∀ {ρ2:Rho} {h2:Hp} {nx2:Nat} {w2:World},Sat C1 ρ2 h2 nx2 w2 → Sat C ρ2 h2 nx2 w2:=fun S2=>{ S2 with
  anch:=fun i hi k=>by rw [S2.anch i (yp hi S.n0) k]; exact S.anch i hi k
  n0:=jk S.n0 S2.n0
  n1:=S.n1 }
 have fin:∀ v sv h2 nx2 ρ2 w2,K (.ret sv) h2 nx2 → sv.rel ρ2 v → sv.below nx2 → Sat C1 ρ2 h2 nx2 w2 → (∀ i,i < st'.nx → ρ2 i = ρ' i) → st'.nx ≤ nx2 →
   ∃ out h' nx' ρ',K out h' nx' ∧ out.rel ρ' (Ending.returned v) ∧ Sat C ρ' h' nx' w2 ∧ (∀ i,i < nx → ρ' i = ρ i) ∧ nx ≤ nx' ∧ (match out with | .ret s=>s.below nx' | .panic _=>True):=by
  intro v sv h2 nx2 ρ2 w2 hk hr hb2 S2 hag hle2
  exact ⟨.ret sv,h2,nx2,ρ2,hk,⟨v,rfl,hr⟩,back S2,fun i hi=>funext fun k=>S2.anch i hi k,jk D'.sat.n0 hle2,hb2⟩
 cases se with
 |normal=>
  simp only [endQD] at hq
  split at hq
  ·rename_i f2 as r hd
   exact zjm hΘ hrs none hd hq.1 D' hq.2 fin
  ·exact hq.elim
 |ret=>
  simp only [endQD] at hq
  split at hq
  ·rename_i f2 as r hd
   exact zjm hΘ hrs none hd hq.1 D' hq.2 fin
  ·exact hq.elim
 |panic v=>
  simp only [endQD] at hq
  split at hq
  ·rename_i f2 as r hd
   exact zjm hΘ hrs (some v) hd hq.1 D' hq.2 fin
  ·exact hq.elim
 |exit id=>exact hq.elim
def sasOf:List SV → Option (List SA)
 |[]=>some []
 |.va a :: r=>(match sasOf r with
  |some l=>some (a :: l)
  |none=>none)
 |_ :: _=>none
theorem znz {ρ:Rho} {n:Nat}:∀ {l:List SV} {as:List SA} {vs:List Value},sasOf l = some as → relL ρ l vs → (∀ s ∈ l,s.below n) → vs = as.map (SA.den ρ) ∧ ∀ a ∈ as,a.below n
 |[],as,[],h,_,_=>by simp [sasOf] at h; subst h; simp
 |[],as,v :: r,h,hr,_=>hr.elim
 |s :: r,as,[],h,hr,_=>hr.elim
 |s :: r,as,v :: vr,h,hr,hb=>by
  unfold sasOf at h
  split at h
  ·rename_i heq; cases heq
  ·rename_i a r' heq
   cases heq
   split at h
   ·rename_i l' hl
    cases h
    obtain ⟨h1,h2⟩:=znz hl hr.2 (fun s hs=>hb s (by simp [hs]))
    refine ⟨by rw [h1,hr.1]; rfl,?_⟩
    intro x hx
    rcases qj.1 hx with rfl | hx
    ·exact hb (.va x) (by simp)
    ·exact h2 x hx
   ·cases h
  ·cases h
theorem zy7 {id:Nat} {o:Oper} {f:FuncId} {args:Array Operand} {ts:Array TypeId} (ho:o.op = .defer ⟨.value (.func f),args,ts⟩) (hg:o.guard = none) (hdst:o.dst = none) {as:List SA} (has:sasOf (evL st.t args.toList) = some as)
  (hq:Q .normal { st with d:=(.fn f,as) :: st.d }):WP P (.region id #[o] false) st Q:=by
 unfold WP
 intro C ρ a w D
 refine wp_region_list ?_
 obtain ⟨h1,h2⟩:=zi8 D args.toList
 obtain ⟨e1,e2⟩:=znz has h1 h2
 have hrun:(execOp a.eval o).run P w = .ok (.defer (defOf ρ (.fn f,as))) w:=by
  obtain ⟨dst,op,type,pos,after,guard⟩:=o
  simp only at ho; subst ho
  have e3:args.map a.eval = (as.map (SA.den ρ)).toArray:=by apply Array.ext'; simpa using e1
  simp [execOp,resolve,Act.eval,Deferred.ofValue,defOf,defV,e3]
 have hwant:Region.wanted o (yielded #[o] a.tmps) = true:=by simp [Region.wanted,hg]
 show wpList P #[o] (Up C Q) [o] a w
 simp only [wpList,hwant,if_true]
 left
 simp only [Oper.wp,hrun,Oper.upon]
 refine ⟨.normal,_,ρ,hq,rfl,?_⟩
 rw [hdst]
 have hdw:∀ x ∈ (.fn f,as) :: st.d,∀ b ∈ x.2,b.below st.nx:=by
  intro x hx
  rcases qj.1 hx with rfl | hx
  ·exact e2
  ·exact D.dw x hx
 exact { sat:=D.sat,nt:=D.nt,tm:=D.tm,tw:=D.tw,n0:=D.n0,df:=by simp [Act.put,D.df],dw:=hdw }
end
end Sx
