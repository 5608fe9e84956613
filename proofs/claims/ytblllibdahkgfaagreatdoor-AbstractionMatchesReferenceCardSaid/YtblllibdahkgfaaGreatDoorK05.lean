import Derived.Test.YtblllibdahkgfaaGreatDoorK04

/- A symbolic executor, part m: regions, code, loops, calls. No program is named here. -/
namespace Sx
open Go

def setd (dst : Option Tmp) (v : SV) (st : St) (K : St → Prop) : Prop :=
  match dst with
  | none => K st
  | some d => match Nat.ble (d + 1) st.nt with
    | true => K { st with t := lput st.t d v }
    | false => False

def gslot : List Oper → Nat → Option Tmp
  | [], _ => none
  | o :: _, 0 => o.dst
  | _ :: r, n + 1 => gslot r n

theorem gslot_eq : ∀ (l : List Oper) (j : Nat), gslot l j = (l[j]?).bind (·.dst)
  | [], j => by simp [gslot]
  | o :: r, 0 => by simp [gslot]
  | o :: r, n + 1 => by simp [gslot, gslot_eq r n]

def beqB : Bool → Bool → Bool
  | true, true => true
  | false, false => true
  | _, _ => false

/-- A list of operations, in the order of the text. -/
def sops (P : Program) (Θ : Tys) (all : List Oper) (Q : SE → St → Prop) : List Oper → St → Prop
  | [], st => Q .normal st
  | o :: r, st =>
    let run (st : St) : Prop := sop P Θ st.t o.op st.h st.nx (fun v h nx => setd o.dst v { st with h := h, nx := nx } fun st' => sops P Θ all Q r st') (fun v h nx => Q (.panic v) { st with h := h, nx := nx })
    let skip (st : St) : Prop := setd o.dst (.tup []) st fun st' => sops P Θ all Q r st'
    match o.guard with
    | none => run st
    | some (j, want) => match gslot all j with
      | none => False
      | some d => match lget st.t d with
        | some (.va (.lit b)) => (match beqB b want with
          | true => run st
          | false => skip st)
        | some (.va (.bool b)) => (match Nat.ble (d + 1) st.nt with
          | true => (match want with
            | true => (b = true → run { st with t := lput st.t d (.va (.lit true)) }) ∧ (b = false → skip { st with t := lput st.t d (.va (.lit false)) })
            | false => (b = false → run { st with t := lput st.t d (.va (.lit false)) }) ∧ (b = true → skip { st with t := lput st.t d (.va (.lit true)) }))
          | false => False)
        | some (.tup []) => skip st
        | _ => False

section
variable {P : Program} {Θ : Tys} {C : Ctx} {ρ : Rho} {st : St} {a : Act} {w : World} {Q : SE → St → Prop}

theorem Den.relit {d : Nat} {b : Bool} (D : Den C ρ st a w) (hl : lget st.t d = some (.va (.bool b))) : Den C ρ { st with t := lput st.t d (.va (.lit b)) } a w where
  sat := D.sat
  nt := D.nt
  tm := fun n s hs => by
    by_cases hn : n = d
    · subst hn; rw [lget_lput_same] at hs; cases hs
      obtain ⟨v, hv, hr⟩ := D.tm n _ hl
      exact ⟨v, hv, hr⟩
    · rw [lget_lput_other _ _ _ _ hn] at hs; exact D.tm n s hs
  tw := fun n s hs => by
    by_cases hn : n = d
    · subst hn; rw [lget_lput_same] at hs; cases hs; trivial
    · rw [lget_lput_other _ _ _ _ hn] at hs; exact D.tw n s hs
  n0 := D.n0
  df := D.df
  dw := D.dw

theorem setd_sound {dst : Option Tmp} {sv : SV} {v : Value} {K : St → Prop} (hs : setd dst sv st K) (D : Den C ρ st a w) (hr : sv.rel ρ v) (hb : sv.below st.nx) : ∃ st', K st' ∧ Den C ρ st' (a.put dst v) w := by
  unfold setd at hs
  split at hs
  · exact ⟨st, hs, D⟩
  · rename_i d
    split at hs
    · rename_i hd
      exact ⟨_, hs, D.put d (Nat.le_of_ble_eq_true hd) sv v hr hb⟩
    · exact hs.elim

theorem upon_mono {o : Oper} {K K' : Act → World → Prop} {R R' : Exit → Act → World → Prop} {r : Result Next} (h : o.upon P a K R r) (hk : ∀ a w, K a w → K' a w) (hr : ∀ e a w, R e a w → R' e a w) : o.upon P a K' R' r := by
  cases r with
  | ok n w' =>
    cases n <;> simp only [Oper.upon] at h ⊢ <;>
      first
        | exact hk _ _ h
        | exact Calls.mono h (fun e w'' he => by
            cases e with
            | returned v => exact hk _ _ he
            | panicked c => exact hr _ _ _ he
            | outgrown => obtain ⟨a, w, h⟩ := he; exact ⟨a, w, hr _ _ _ h⟩)
        | exact Rows.mono h (fun _ _ he => hk _ _ he)
        | exact h
  | halt x w' => cases x <;> simp only [Oper.upon] at h ⊢ <;> first | exact hr _ _ _ h | exact h

theorem sops_sound (hΘ : Θ.Ok P) (all : List Oper) : ∀ (l : List Oper) (st : St) (ρ : Rho) (a : Act) (w : World), sops P Θ all Q l st → Den C ρ st a w → wpList P all.toArray (Up C Q) l a w
  | [], st, ρ, a, w, hs, D => ⟨.normal, st, ρ, hs, rfl, D⟩
  | o :: r, st, ρ, a, w, hs, D => by
    have run : ∀ st ρ, sop P Θ st.t o.op st.h st.nx (fun v h nx => setd o.dst v { st with h := h, nx := nx } fun st' => sops P Θ all Q r st') (fun v h nx => Q (.panic v) { st with h := h, nx := nx }) → Den C ρ st a w →
        o.wp P a w (wpList P all.toArray (Up C Q) r) (Up C Q) := by
      intro st ρ hs D
      have := sop_sound hΘ hs D
      refine upon_mono this ?_ ?_
      · rintro a' w' ⟨v, sv, h', nx', ρ', rfl, hk, hr, hb, D', _, _⟩
        obtain ⟨st', hk', D''⟩ := setd_sound hk D' hr hb
        exact sops_sound hΘ all r st' ρ' _ w' hk' D''
      · rintro e a' w' ⟨v, h', nx', ρ', rfl, hq, D'⟩
        exact ⟨.panic v, _, ρ', hq, rfl, D'⟩
    have skip : ∀ st ρ, (setd o.dst (.tup []) st fun st' => sops P Θ all Q r st') → Den C ρ st a w → wpList P all.toArray (Up C Q) r (a.put o.dst undef) w := by
      intro st ρ hs D
      obtain ⟨st', hk', D'⟩ := setd_sound (v := undef) hs D rfl (by simp [SV.below])
      exact sops_sound hΘ all r st' ρ _ w hk' D'
    simp only [sops] at hs
    unfold wpList
    split at hs
    · rename_i hg
      rw [if_pos (by simp [Region.wanted, hg])]
      exact .inl (run st ρ hs D)
    · rename_i j want hg
      split at hs
      · exact hs.elim
      · rename_i d hd
        have hy : ∀ v, a.tmps[d]? = some v → yielded all.toArray a.tmps j = (match v with | .bool b => some b | _ => none) := by
          intro v hv
          rw [gslot_eq] at hd
          simp only [yielded, List.getElem?_toArray, hd, Option.bind_some, hv]
          cases v <;> rfl
        have yes : ∀ b, a.tmps[d]? = some (.bool b) → b = want → Region.wanted o (yielded all.toArray a.tmps) = true := by
          intro b hb hw; simp [Region.wanted, hg, hy _ hb, hw]
        have no : ∀ b, a.tmps[d]? = some (.bool b) → b ≠ want → Region.wanted o (yielded all.toArray a.tmps) = false := by
          intro b hb hw; simp [Region.wanted, hg, hy _ hb, hw]
        split at hs
        · rename_i b hl
          obtain ⟨v, hv, hr⟩ := D.tm d _ hl
          simp only [SV.rel, SA.den] at hr; subst hr
          split at hs
          · rename_i hbw
            rw [if_pos (yes b hv (by cases b <;> cases want <;> simp_all [beqB]))]
            exact .inl (run st ρ hs D)
          · rename_i hbw
            rw [if_neg (by rw [no b hv (by cases b <;> cases want <;> simp_all [beqB])]; simp)]
            exact skip st ρ hs D
        · rename_i b hl
          obtain ⟨v, hv, hr⟩ := D.tm d _ hl
          simp only [SV.rel, SA.den] at hr; subst hr
          have D' := D.relit hl
          split at hs
          · split at hs
            · cases b with
              | true => rw [if_pos (yes _ hv rfl)]; exact .inl (run _ ρ (hs.1 rfl) D')
              | false => rw [if_neg (by rw [no _ hv (by simp)]; simp)]; exact skip _ ρ (hs.2 rfl) D'
            · cases b with
              | false => rw [if_pos (yes _ hv rfl)]; exact .inl (run _ ρ (hs.1 rfl) D')
              | true => rw [if_neg (by rw [no _ hv (by simp)]; simp)]; exact skip _ ρ (hs.2 rfl) D'
          · exact hs.elim
        · rename_i hl
          obtain ⟨v, hv, hr⟩ := D.tm d _ hl
          simp only [SV.rel, List.map_nil] at hr; subst hr
          rw [if_neg (by simp [Region.wanted, hg, hy _ hv])]
          exact skip st ρ hs D
        · exact hs.elim

/-- A branch on a value that is not known. -/
@[irreducible] def Br (b : Bool) (x y : Prop) : Prop := (b = true → x) ∧ (b = false → y)
theorem br {b : Bool} {x y : Prop} (h1 : b = true → x) (h2 : b = false → y) : Br b x y := by unfold Br; exact ⟨h1, h2⟩

/-- A region that is one deferred call. -/
def deferB : List Oper → Bool
  | [o] => (match o.op with
    | .defer _ => true
    | _ => false)
  | _ => false

def sx (P : Program) (Θ : Tys) : Code → St → (SE → St → Prop) → Prop
  | .skip, st, Q => Q .normal st
  | .region id ops false, st, Q => (match deferB ops.toList with
    | true => WP P (.region id ops false) st Q
    | false => sops P Θ ops.toList Q ops.toList st)
  | .seq x y, st, Q => sx P Θ x st fun e st' => (match e with
    | .normal => sx P Θ y st' Q
    | .ret => Q .ret st'
    | .exit id => Q (.exit id) st'
    | .panic v => Q (.panic v) st')
  | .cond c x y, st, Q => (match ev st.t c with
    | .va (.lit true) => sx P Θ x st Q
    | .va (.lit false) => sx P Θ y st Q
    | .va (.bool b) => Br b (sx P Θ x st Q) (sx P Θ y st Q)
    | _ => False)
  | .block id x, st, Q => sx P Θ x st fun e st' => (match e with
    | .normal => Q .normal st'
    | .ret => Q .ret st'
    | .exit i => (match Nat.beq i id with
      | true => Q .normal st'
      | false => Q (.exit i) st')
    | .panic v => Q (.panic v) st')
  | .exit id, st, Q => Q (.exit id) st
  | .ret, st, Q => Q .ret st
  | c, st, Q => WP P c st Q

theorem WP_mono {c : Code} {Q' : SE → St → Prop} (h : WP P c st Q) (hq : ∀ e s, Q e s → Q' e s) : WP P c st Q' := by
  unfold WP at *
  intro C ρ a w D
  exact wp_mono (h C ρ a w D) (fun e a w ⟨se, s, r, h1, h2, h3⟩ => ⟨se, s, r, hq _ _ h1, h2, h3⟩)

theorem sx_sound (hΘ : Θ.Ok P) : ∀ (c : Code) (st : St) (Q : SE → St → Prop), sx P Θ c st Q → WP P c st Q := by
  intro c
  induction c with
  | skip => intro st Q hs; unfold WP; intro C ρ a w D; exact wp_skip ⟨.normal, st, ρ, hs, rfl, D⟩
  | region id ops draw =>
    intro st Q hs
    cases draw with
    | true => exact hs
    | false =>
      simp only [sx] at hs
      split at hs
      · exact hs
      unfold WP
      intro C ρ a w D
      have := sops_sound (C := C) hΘ ops.toList ops.toList st ρ a w hs D
      exact wp_region_list (by simpa using this)
  | seq x y ihx ihy =>
    intro st Q hs
    have h1 := ihx st _ hs
    unfold WP at h1 ⊢
    intro C ρ a w D
    refine wp_seq (wp_mono (h1 C ρ a w D) ?_)
    rintro e a' w' ⟨se, st', ρ', hq, rfl, D'⟩
    cases se with
    | normal =>
      have h2 := ihy st' Q hq
      unfold WP at h2
      exact h2 C ρ' a' w' D'
    | ret => exact ⟨.ret, st', ρ', hq, rfl, D'⟩
    | exit id => exact ⟨.exit id, st', ρ', hq, rfl, D'⟩
    | panic v => exact ⟨.panic v, st', ρ', hq, rfl, D'⟩
  | cond c x y ihx ihy =>
    intro st Q hs
    simp only [sx] at hs
    unfold WP
    intro C ρ a w D
    have hc := ev_rel D c
    split at hs
    · rename_i he; rw [he] at hc
      have h2 := ihx st Q hs; unfold WP at h2
      exact wp_cond_true hc.1 (h2 C ρ a w D)
    · rename_i he; rw [he] at hc
      have h2 := ihy st Q hs; unfold WP at h2
      exact wp_cond_false hc.1 (h2 C ρ a w D)
    · rename_i b he; rw [he] at hc
      unfold Br at hs
      cases b with
      | true => have h2 := ihx st Q (hs.1 rfl); unfold WP at h2; exact wp_cond_true hc.1 (h2 C ρ a w D)
      | false => have h2 := ihy st Q (hs.2 rfl); unfold WP at h2; exact wp_cond_false hc.1 (h2 C ρ a w D)
    · exact hs.elim
  | block id x ih =>
    intro st Q hs
    have h1 := ih st _ hs
    unfold WP at h1 ⊢
    intro C ρ a w D
    refine wp_block (wp_mono (h1 C ρ a w D) ?_)
    rintro e a' w' ⟨se, st', ρ', hq, rfl, D'⟩
    cases se with
    | normal => exact ⟨.normal, st', ρ', hq, rfl, D'⟩
    | ret => exact ⟨.ret, st', ρ', hq, rfl, D'⟩
    | exit i =>
      simp only at hq
      split at hq
      · rename_i hb
        have hb := Nat.eq_of_beq_eq_true hb
        subst hb
        simp only [SE.to, Exit.inBlock, if_true]
        exact ⟨.normal, st', ρ', hq, rfl, D'⟩
      · rename_i hb
        have hne : ¬ i = id := by intro he; subst he; simp at hb
        simp only [SE.to, Exit.inBlock, hne, if_false]
        exact ⟨.exit i, st', ρ', hq, rfl, D'⟩
    | panic v => exact ⟨.panic v, st', ρ', hq, rfl, D'⟩
  | exit id => intro st Q hs; unfold WP; intro C ρ a w D; exact wp_exit ⟨.exit id, st, ρ, hs, rfl, D⟩
  | ret => intro st Q hs; unfold WP; intro C ρ a w D; exact wp_ret ⟨.ret, st, ρ, hs, rfl, D⟩
  | loop _ _ => intro st Q hs; exact hs
  | rangeFunc _ _ _ _ _ _ => intro st Q hs; exact hs
  | scope _ _ => intro st Q hs; exact hs
  | label _ => intro st Q hs; exact hs
  | goto _ => intro st Q hs; exact hs
  | refuse _ => intro st Q hs; exact hs

end
end Sx

/- A symbolic executor, part n: the loop, and the call of a function whose body has been run. No program is named here. -/
namespace Sx
open Go

/-- Whatever the one state denotes, the other denotes. -/
@[irreducible] def Le (st st' : St) : Prop := ∀ C ρ a w, Den C ρ st a w → ∃ ρ', Den C ρ' st' a w

def WfH (h : Hp) (nx : Nat) : Prop := ∀ i e, lget h i = some e → i < nx ∧ ∀ k, e.has k → (e.at k).below nx
def WfT (t : List (List (Nat × SV))) (nx : Nat) : Prop := ∀ n s, lget t n = some s → s.below nx

section
variable {P : Program} {Θ : Tys} {C : Ctx} {ρ : Rho} {st : St} {a : Act} {w : World} {Q : SE → St → Prop}

theorem Den.wfH (d : Den C ρ st a w) : WfH st.h st.nx := fun i e he => ⟨d.sat.lt i e he, d.sat.wf i e he⟩
theorem Den.wfT (d : Den C ρ st a w) : WfT st.t st.nx := d.tw

theorem exists_least {p : Nat → Prop} (h : ∃ n, p n) : ∃ n, p n ∧ ∀ m, p m → n ≤ m := by
  obtain ⟨n, hn⟩ := h
  induction n using Nat.strongRecOn with
  | _ n ih =>
    by_cases hex : ∃ m, m < n ∧ p m
    · obtain ⟨m, hm, hp⟩ := hex; exact ih m hm hp
    · exact ⟨n, hn, fun m hp => Nat.le_of_not_lt fun hlt => hex ⟨m, hlt, hp⟩⟩

/-- The post of a round. -/
def LQ {X : Type} (I : X → St) (μ : X → Nat) (x : X) (Q : SE → St → Prop) : SE → St → Prop := fun e st' =>
  match e with
  | .normal => ∃ x', μ x' < μ x ∧ Le st' (I x')
  | .ret => Q .ret st'
  | .exit id => Q (.exit id) st'
  | .panic v => Q (.panic v) st'

theorem WP_loop {X : Type} {body : Code} (I : X → St) (μ : X → Nat) (x0 : X)
    (h : WfH st.h st.nx → WfT st.t st.nx → Le st (I x0) ∧ ∀ x, WP P body (I x) (LQ I μ x Q)) : WP P (.loop body) st Q := by
  unfold WP
  intro C ρ a w D
  obtain ⟨h0, hb⟩ := h D.wfH D.wfT
  unfold Le at h0
  obtain ⟨ρ0, D0⟩ := h0 C ρ a w D
  have hex : ∀ a w, (∃ x ρ, Den C ρ (I x) a w) → ∃ n, ∃ x ρ, μ x = n ∧ Den C ρ (I x) a w := fun a w ⟨x, ρ, h⟩ => ⟨μ x, x, ρ, rfl, h⟩
  let m : Act → World → Nat := fun a w => by
    classical exact if h : ∃ n, ∃ x ρ, μ x = n ∧ Den C ρ (I x) a w then Classical.choose (exists_least h) else 0
  refine wp_loop (fun a w => ∃ x ρ, Den C ρ (I x) a w) m ⟨x0, ρ0, D0⟩ ?_
  intro a w hI
  have hn := hex a w hI
  have hm : m a w = Classical.choose (exists_least hn) := by simp only [m]; rw [dif_pos hn]
  obtain ⟨x, ρx, hxm, Dx⟩ := (Classical.choose_spec (exists_least hn)).1
  have hbx := hb x
  unfold WP at hbx
  refine wp_mono (hbx C ρx a w Dx) ?_
  rintro e a' w' ⟨se, st', ρ', hq, rfl, D'⟩
  cases se with
  | normal =>
    obtain ⟨x', hlt, hle⟩ := hq
    unfold Le at hle
    obtain ⟨ρ'', D''⟩ := hle C ρ' a' w' D'
    refine ⟨⟨x', ρ'', D''⟩, ?_⟩
    have hn' := hex a' w' ⟨x', ρ'', D''⟩
    have hm' : m a' w' = Classical.choose (exists_least hn') := by simp only [m]; rw [dif_pos hn']
    rw [hm, hm', ← hxm]
    exact Nat.lt_of_le_of_lt ((Classical.choose_spec (exists_least hn')).2 _ ⟨x', ρ'', rfl, D''⟩) hlt
  | ret => exact ⟨.ret, st', ρ', hq, rfl, D'⟩
  | exit id => exact ⟨.exit id, st', ρ', hq, rfl, D'⟩
  | panic v => exact ⟨.panic v, st', ρ', hq, rfl, D'⟩

end
end Sx
