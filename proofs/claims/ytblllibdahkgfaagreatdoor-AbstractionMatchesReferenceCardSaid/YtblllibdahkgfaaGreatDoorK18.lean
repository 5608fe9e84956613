import Derived.Test.YtblllibdahkgfaaGreatDoorK17

namespace Go.Proofs.YtblllibdahkgfaaGreatDoor
open Go Sx
set_option maxRecDepth 100000

/-! The plain law of normal forms: no program in sight. -/

theorem foldl_mn (r : List Int) : ∀ x : Int, (r.foldl (fun m x => if x < m then x else m) x ∈ x :: r) ∧ ∀ y ∈ x :: r, r.foldl (fun m x => if x < m then x else m) x ≤ y := by
  induction r with
  | nil => intro x; simp
  | cons a r ih =>
    intro x
    obtain ⟨h1, h2⟩ := ih (if a < x then a else x)
    simp only [List.foldl_cons]
    refine ⟨?_, ?_⟩
    · rcases List.mem_cons.1 h1 with h | h
      · rw [h]; split <;> simp
      · exact List.mem_cons_of_mem _ (List.mem_cons_of_mem _ h)
    · intro y hy
      have h3 := h2 _ List.mem_cons_self
      rcases List.mem_cons.1 hy with rfl | hy
      · refine Int.le_trans h3 ?_; split <;> omega
      · rcases List.mem_cons.1 hy with rfl | hy
        · refine Int.le_trans h3 ?_; split <;> omega
        · exact h2 y (List.mem_cons_of_mem _ hy)
theorem foldl_mx (r : List Int) : ∀ x : Int, (r.foldl (fun m x => if x > m then x else m) x ∈ x :: r) ∧ ∀ y ∈ x :: r, y ≤ r.foldl (fun m x => if x > m then x else m) x := by
  induction r with
  | nil => intro x; simp
  | cons a r ih =>
    intro x
    obtain ⟨h1, h2⟩ := ih (if a > x then a else x)
    simp only [List.foldl_cons]
    refine ⟨?_, ?_⟩
    · rcases List.mem_cons.1 h1 with h | h
      · rw [h]; split <;> simp
      · exact List.mem_cons_of_mem _ (List.mem_cons_of_mem _ h)
    · intro y hy
      have h3 := h2 _ List.mem_cons_self
      rcases List.mem_cons.1 hy with rfl | hy
      · refine Int.le_trans ?_ h3; split <;> omega
      · rcases List.mem_cons.1 hy with rfl | hy
        · refine Int.le_trans ?_ h3; split <;> omega
        · exact h2 y (List.mem_cons_of_mem _ hy)
theorem mn_mem {s : List Int} (h : s ≠ []) : mn s ∈ s := by
  cases s with
  | nil => exact absurd rfl h
  | cons x r => exact (foldl_mn r x).1
theorem mn_le {s : List Int} {y : Int} (h : y ∈ s) : mn s ≤ y := by
  cases s with
  | nil => cases h
  | cons x r => exact (foldl_mn r x).2 y h
theorem mx_mem {s : List Int} (h : s ≠ []) : mx s ∈ s := by
  cases s with
  | nil => exact absurd rfl h
  | cons x r => exact (foldl_mx r x).1
theorem le_mx {s : List Int} {y : Int} (h : y ∈ s) : y ≤ mx s := by
  cases s with
  | nil => cases h
  | cons x r => exact (foldl_mx r x).2 y h
theorem mn_eq {s : List Int} {m : Int} (h : m ∈ s) (hl : ∀ y ∈ s, m ≤ y) : mn s = m :=
  Int.le_antisymm (mn_le h) (hl _ (mn_mem (by intro e; rw [e] at h; cases h)))
theorem mx_eq {s : List Int} {m : Int} (h : m ∈ s) (hl : ∀ y ∈ s, y ≤ m) : mx s = m :=
  Int.le_antisymm (hl _ (mx_mem (by intro e; rw [e] at h; cases h))) (le_mx h)

theorem sel_app (κ : Int) (a b : List Stp) : sel κ (a ++ b) = sel κ a ++ sel κ b := by simp [sel]
theorem mem_sel {κ ν : Int} {l : List Stp} : ν ∈ sel κ l ↔ (κ, ν) ∈ l := by
  simp only [sel, List.mem_map, List.mem_filter, decide_eq_true_eq]
  constructor
  · rintro ⟨⟨k, n⟩, ⟨h1, h2⟩, h3⟩; simp only at h2 h3; subst h2; subst h3; exact h1
  · intro h; exact ⟨(κ, ν), ⟨h, rfl⟩, rfl⟩

theorem valid_ok {p : Int} {l : List Stp} (h : validS p l = true) : ∀ s ∈ l, stepOk p s = true := by
  simp only [validS, Bool.and_eq_true] at h
  exact fun s hs => List.all_eq_true.1 h.2.2 s hs
theorem valid_p {p : Int} {l : List Stp} (h : validS p l = true) : 1 ≤ p ∧ p ≤ 8 := by
  simp only [validS, Bool.and_eq_true, decide_eq_true_eq] at h; exact h.1
theorem valid_of {p : Int} {l : List Stp} (hp : 1 ≤ p ∧ p ≤ 8) (hl : l.length ≤ 64) (h : ∀ s ∈ l, stepOk p s = true) : validS p l = true := by
  simp only [validS, Bool.and_eq_true, decide_eq_true_eq]; exact ⟨hp, hl, List.all_eq_true.2 h⟩
theorem ok_zero {p κ ν : Int} (h : stepOk p (κ, ν) = true) (hκ : κ ≠ 3 ∧ κ ≠ 4) : ν = 0 := by
  simp only [stepOk, numOk, hκ.1, hκ.2, if_false, Bool.and_eq_true, decide_eq_true_eq] at h; exact h.2.2
theorem sel_zero {p κ : Int} {l : List Stp} (h : validS p l = true) (hκ : κ ≠ 3 ∧ κ ≠ 4) {ν : Int} (hν : ν ∈ sel κ l) : ν = 0 :=
  ok_zero (valid_ok h _ (mem_sel.1 hν)) hκ

theorem zeros {s : List Int} (h : ∀ ν ∈ s, ν = 0) : s = List.replicate s.length 0 := List.eq_replicate_of_mem h

theorem rpiece_eq {p κ : Int} {l : List Stp} (h : validS p l = true) (hκ : κ = 1 ∨ κ = 2 ∨ κ = 3 ∨ κ = 4 ∨ κ = 5) : rpiece κ (sel κ l) = piece κ (sel κ l) := by
  have one : ∀ s : List Int, s ≠ [] → min s.length 1 = 1 := fun s hs => by
    have := List.length_pos_iff.2 hs; omega
  by_cases hs : sel κ l = []
  · simp [rpiece, piece, hs]
  · rcases hκ with rfl | rfl | rfl | rfl | rfl
    · have hz := sel_zero h (by decide) (mn_mem hs)
      simp [rpiece, piece, rmost, rnum, hs, one _ hs, hz]
    · have hz := sel_zero h (by decide) (mn_mem hs)
      simp [rpiece, piece, rmost, rnum, hs, one _ hs, hz]
    · simp [rpiece, piece, rmost, rnum, hs, one _ hs]
    · simp [rpiece, piece, rmost, rnum, hs, one _ hs]
    · have hz := zeros (s := sel 5 l) (fun ν hν => sel_zero h (by decide) hν)
      have e : piece 5 (sel 5 l) = ((sel 5 l).take 5).map (fun n => ((5 : Int), n)) := by simp [piece, hs]
      rw [e, hz, List.take_replicate, List.map_replicate]
      simp [rpiece, rmost, rnum, Nat.min_comm]

theorem rnormS_eq {p : Int} {l : List Stp} (h : validS p l = true) : rnormS l = normS l := by
  unfold rnormS normS rpieces pieces
  rw [rpiece_eq h (.inl rfl), rpiece_eq h (.inr (.inl rfl)), rpiece_eq h (.inr (.inr (.inl rfl))), rpiece_eq h (.inr (.inr (.inr (.inl rfl)))), rpiece_eq h (.inr (.inr (.inr (.inr rfl))))]
  simp only [List.flatten_cons, List.flatten_nil, List.nil_append, List.append_nil]

theorem mem_piece {κ : Int} {s : List Int} {t : Stp} (h : t ∈ piece κ s) : t.1 = κ ∧ t.2 ∈ s := by
  unfold piece at h
  split at h
  · cases h
  · rename_i hs
    split at h
    · rename_i h3; simp only [List.mem_singleton] at h; subst h; exact ⟨h3.symm, mx_mem hs⟩
    · split at h
      · rename_i h5
        simp only [List.mem_map] at h
        obtain ⟨n, hn, rfl⟩ := h
        exact ⟨h5.symm, List.mem_of_mem_take hn⟩
      · simp only [List.mem_singleton] at h; subst h; exact ⟨rfl, mn_mem hs⟩

theorem mem_norm {p : Int} {l : List Stp} (h : validS p l = true) {t : Stp} (ht : t ∈ normS l) : t ∈ l := by
  unfold normS at ht
  split at ht
  · simp only [pieces, List.flatten_cons, List.flatten_nil, List.nil_append, List.append_nil, List.mem_append] at ht
    have : ∀ κ, t ∈ piece κ (sel κ l) → t ∈ l := fun κ hk => by
      obtain ⟨h1, h2⟩ := mem_piece hk
      have := mem_sel.1 h2
      rw [← h1] at this; exact this
    rcases ht with ht | ht | ht | ht | ht <;> exact this _ ht
  · rename_i h6
    simp only [List.mem_singleton] at ht; subst ht
    obtain ⟨ν, hν⟩ := List.exists_mem_of_ne_nil _ h6
    have := sel_zero h (by decide) hν
    subst this; exact mem_sel.1 hν

theorem norm_len9 (l : List Stp) : (normS l).length ≤ 9 := by
  unfold normS; split
  · have one : ∀ κ s, κ ≠ 5 → (piece κ s).length ≤ 1 := fun κ s hk => by
      unfold piece; split
      · simp
      · split
        · simp
        · simp
    have h5 := piece_len 5 (sel 5 l)
    have h1 := one 1 (sel 1 l) (by decide); have h2 := one 2 (sel 2 l) (by decide); have h3 := one 3 (sel 3 l) (by decide); have h4 := one 4 (sel 4 l) (by decide)
    simp only [pieces, List.flatten_cons, List.flatten_nil, List.length_append, List.length_nil]; omega
  · simp

theorem norm_valid {p : Int} {a b : List Stp} (ha : validS p a = true) (hb : validS p b = true) : validS p (normS a ++ normS b) = true := by
  refine valid_of (valid_p ha) ?_ fun s hs => ?_
  · have := norm_len9 a; have := norm_len9 b; rw [List.length_append]; omega
  · rcases List.mem_append.1 hs with h | h
    · exact valid_ok ha s (mem_norm ha h)
    · exact valid_ok hb s (mem_norm hb h)

/-- The numbers of one kind of a normal form. -/
def cut (κ : Int) (s : List Int) : List Int := (piece κ s).map (·.2)
theorem sel_piece (κ κ' : Int) (s : List Int) : sel κ (piece κ' s) = if κ' = κ then cut κ s else [] := by
  have h1 : ∀ t ∈ piece κ' s, t.1 = κ' := fun t ht => (mem_piece ht).1
  split
  · rename_i h; subst h
    unfold sel cut
    rw [List.filter_eq_self.2 (fun t ht => by simp [h1 t ht])]
  · rename_i h
    unfold sel
    rw [List.filter_eq_nil_iff.2 (fun t ht => by simp [h1 t ht, h])]; rfl

theorem sel_norm {l : List Stp} (h6 : sel 6 l = []) (κ : Int) (hκ : κ = 1 ∨ κ = 2 ∨ κ = 3 ∨ κ = 4 ∨ κ = 5 ∨ κ = 6) : sel κ (normS l) = if κ = 6 then [] else cut κ (sel κ l) := by
  unfold normS; rw [if_pos h6]
  simp only [pieces, List.flatten_cons, List.flatten_nil, List.nil_append, List.append_nil, sel_app, sel_piece]
  rcases hκ with rfl | rfl | rfl | rfl | rfl | rfl <;> simp

theorem cut_nil (κ : Int) : cut κ [] = [] := rfl
theorem cut_eq_nil {κ : Int} {s : List Int} : cut κ s = [] ↔ s = [] := by
  constructor
  · intro h
    apply Classical.byContradiction; intro hs
    unfold cut piece at h
    rw [if_neg hs] at h
    split at h
    · cases h
    · split at h
      · simp at h; exact hs h
      · cases h
  · rintro rfl; rfl

theorem piece_cut {κ : Int} (s t : List Int) : piece κ (cut κ s ++ cut κ t) = piece κ (s ++ t) := by
  by_cases hs : s = []
  · subst hs
    rw [cut_nil, List.nil_append, List.nil_append]
    by_cases ht : t = []
    · subst ht; rfl
    · have hc : ¬ cut κ t = [] := fun h => ht (cut_eq_nil.1 h)
      by_cases h3 : κ = 3
      · simp [piece, cut, ht, h3, mx]
      · by_cases h5 : κ = 5
        · subst h5; simp [piece, cut, ht, List.map_map, Function.comp_def, List.take_take]
        · simp [piece, cut, ht, h3, h5, mn]
  · by_cases ht : t = []
    · subst ht
      rw [cut_nil, List.append_nil, List.append_nil]
      by_cases h3 : κ = 3
      · simp [piece, cut, hs, h3, mx]
      · by_cases h5 : κ = 5
        · subst h5; simp [piece, cut, hs, List.map_map, Function.comp_def, List.take_take]
        · simp [piece, cut, hs, h3, h5, mn]
    · by_cases h3 : κ = 3
      · subst h3
        have e : mx (s ++ t) = mx ([mx s] ++ [mx t]) := by
          refine mx_eq ?_ ?_
          · rcases List.mem_cons.1 (mx_mem (s := [mx s] ++ [mx t]) (by simp)) with h | h
            · rw [h]; exact List.mem_append_left _ (mx_mem hs)
            · rw [List.mem_singleton.1 h]; exact List.mem_append_right _ (mx_mem ht)
          · intro y hy
            rcases List.mem_append.1 hy with h | h
            · exact Int.le_trans (le_mx h) (le_mx (by simp))
            · exact Int.le_trans (le_mx h) (le_mx (by simp))
        simp [piece, cut, hs, ht, e]
      · by_cases h5 : κ = 5
        · subst h5
          have c5 : ∀ s : List Int, s ≠ [] → cut 5 s = s.take 5 := fun s hs => by simp [cut, piece, hs, List.map_map, Function.comp_def]
          rw [c5 s hs, c5 t ht]
          have e : ∀ u : List Int, u ≠ [] → piece 5 u = (u.take 5).map (fun n => ((5 : Int), n)) := fun u hu => by simp [piece, hu]
          rw [e _ (by simp [hs]), e _ (by simp [hs])]
          congr 1
          rw [List.take_append, List.take_append, List.take_take, List.take_take, List.length_take]
          congr 2
          omega
        · have e : mn (s ++ t) = mn ([mn s] ++ [mn t]) := by
            refine mn_eq ?_ ?_
            · rcases List.mem_cons.1 (mn_mem (s := [mn s] ++ [mn t]) (by simp)) with h | h
              · rw [h]; exact List.mem_append_left _ (mn_mem hs)
              · rw [List.mem_singleton.1 h]; exact List.mem_append_right _ (mn_mem ht)
            · intro y hy
              rcases List.mem_append.1 hy with h | h
              · exact Int.le_trans (mn_le (by simp)) (mn_le h)
              · exact Int.le_trans (mn_le (by simp)) (mn_le h)
          simp [piece, cut, hs, ht, h3, h5, e]

theorem normS_no {l : List Stp} (h : sel 6 l = []) : normS l = (pieces (sel 1 l) (sel 2 l) (sel 3 l) (sel 4 l) (sel 5 l)).flatten := if_pos h
theorem normS_yes {l : List Stp} (h : sel 6 l ≠ []) : normS l = [(6, 0)] := if_neg h
theorem sel_lost : sel 6 [((6 : Int), (0 : Int))] = [0] := rfl
/-- Composing normal forms. -/
theorem norm_norm (a b : List Stp) : normS (normS a ++ normS b) = normS (a ++ b) := by
  by_cases ha : sel 6 a = []
  · by_cases hb : sel 6 b = []
    · have h6 : sel 6 (normS a ++ normS b) = [] := by rw [sel_app, sel_norm ha 6 (by simp), sel_norm hb 6 (by simp)]; rfl
      have h6' : sel 6 (a ++ b) = [] := by rw [sel_app, ha, hb]; rfl
      have e : ∀ κ, (κ = 1 ∨ κ = 2 ∨ κ = 3 ∨ κ = 4 ∨ κ = 5 ∨ κ = 6) → κ ≠ 6 → piece κ (sel κ (normS a ++ normS b)) = piece κ (sel κ (a ++ b)) := fun κ hκ hne => by
        rw [sel_app, sel_app, sel_norm ha κ hκ, sel_norm hb κ hκ, if_neg hne, if_neg hne, piece_cut]
      rw [normS_no h6, normS_no h6', pieces, pieces, e 1 (by simp) (by decide), e 2 (by simp) (by decide), e 3 (by simp) (by decide), e 4 (by simp) (by decide), e 5 (by simp) (by decide)]
    · rw [normS_yes hb, normS_yes (l := normS a ++ [(6, 0)]) (by rw [sel_app, sel_lost]; simp), normS_yes (l := a ++ b) (by rw [sel_app]; simp [hb])]
  · rw [normS_yes ha, normS_yes (l := [(6, 0)] ++ normS b) (by rw [sel_app, sel_lost]; simp), normS_yes (l := a ++ b) (by rw [sel_app]; simp [ha])]
end Go.Proofs.YtblllibdahkgfaaGreatDoor

namespace Go.Proofs.YtblllibdahkgfaaGreatDoor
open Go Sx
set_option maxRecDepth 100000

theorem rnormalF (F : Fz) (sa : SA) (l : List Stp) (p : Int) (ha : StepsAt F sa l) (hl : l.length < 1000000) :
    Fo Tryz.prog F 16 [.va (.int .i64 p), .va sa] (fun o F' => ∃ sc, o = .ret (.tup [.va sc, .va (.int .i64 (normR p l).2)]) ∧ StepsAt F' sc (normR p l).1) := by
  have h := rnormalE_fn F sa l p ha hl
  unfold normR
  by_cases hv : validS p l = true
  · rw [rnormS_eq hv] at h
    simp only [hv, if_true] at h ⊢
    exact h
  · simp only [hv, if_false] at h ⊢
    exact h

theorem encB_ren' {L : List (List SA)} {l : List Stp} (h : L = l.map enc) (μ : Mu) (c : Nat) : (SB.arr 50 2 L c).ren μ = SB.arr 50 2 (l.map enc) c := by
  subst h; exact encB_ren μ l c

set_option maxHeartbeats 4000000 in
theorem rcomposeE_fn (F : Fz) (sa sb : SA) (a b : List Stp) (p : Int) (ha : StepsAt F sa a) (hb : StepsAt F sb b) (la : a.length < 1000000) (lb : b.length < 1000000) :
    Fo Tryz.prog F 21 [.va (.int .i64 p), .va sa, .va sb] (fun o F' => ∃ sc, o = .ret (.tup [.va sc, .va (.int .i64 (compR p a b).2)]) ∧ StepsAt F' sc (compR p a b).1) := by
  have hva := rvalid_fn F sa a p ha la
  have hvb := rvalid_fn F sb b p hb lb
  have hna := rnormalF F sa a p ha la
  have hb' := hb
  obtain ⟨han, hab, hae, hac, haL, har, rfl, ha1, ha2, ha3, ha4⟩ := ha
  obtain ⟨hbn, hbb, hbe, hbc, hbL, hbr, rfl, hb1, hb2, hb3, hb4⟩ := hb
  refine fo_of hΘ Tryz.func21 rfl (by decide) _ _ rfl rfl rfl ?_
  conv => whnf
  refine usePu (hva) rfl (argsE_refl _) rfl ?_
  conv => whnf
  refine usePu (hvb) rfl (argsE_refl _) rfl ?_
  conv => whnf
  refine ⟨fun g => ?_, fun g => ?_⟩
  · have g1 : validS p a = true := by simpa using g
    conv => whnf
    refine br (fun g => ?_) (fun g => ?_)
    · have g2 : validS p b = false := not_t g
      have e : compR p a b = ([], 70) := by simp [compR, g2]
      conv => whnf
      exact endFo (.ret (.tup [.va (.slice true 0 0 0 2 0 0), .va (.int .i64 70)])) F rfl (Fz.le_refl F) (Fz.le_refl F) ⟨_, by rw [e], by rw [e]; exact Sl.nil⟩ ⟨⟨rfl, rfl, rfl⟩, rfl, trivial⟩ rfl
    · have g2 : validS p b = true := by simpa using g
      have e : compR p a b = (normS (a ++ b), 0) := by simp [compR, g1, g2]
      have ea : (normR p a).1 = normS a := by simp [normR, g1]
      have eb : (normR p b).1 = normS b := by simp [normR, g2]
      have la9 := norm_len9 a
      have lb9 := norm_len9 b
      conv => whnf
      refine useFo (hna) rfl (argsE_refl _) rfl ?_
      rintro _ F1 l1 ⟨sx, rfl, hx⟩
      conv => whnf
      rw [ea] at hx
      have hX0 := hx
      obtain ⟨hxn, hxb, hxe, hxc, hxL, hxr, rfl, hx1, hx2, hx3, hx4⟩ := hx
      conv => whnf
      refine useFo (rnormalF F1 _ b p (hb'.mono l1) lb) rfl (argsE_refl _) rfl ?_
      rintro _ F2 l2 ⟨sy, rfl, hy⟩
      conv => whnf
      rw [eb] at hy
      have hx2' := fun h => l2 _ _ (hx2 h)
      obtain ⟨hyn, hyb, hye, hyc, hyL, hyr, rfl, hy1, hy2, hy3, hy4⟩ := hy
      have nv := norm_valid g1 g2
      have en : normR p (normS a ++ normS b) = (normS (a ++ b), 0) := by rw [normR, if_pos nv, norm_norm]
      rcases hxn with _ | _ <;> rcases hyn with _ | _
      · conv => whnf
        refine ⟨_, _, _, hx2' rfl, hx3, _, hx4, ?_⟩
        conv => whnf
        refine ⟨rfl, rfl, rfl, by rw [List.length_map]; show (0 + (normS a).length) * 16 ≤ 140737488355328; omega, fun c hc => ?_⟩
        conv => whnf
        refine ⟨_, _, _, hy2 rfl, hy3, _, hy4, ?_⟩
        conv => whnf
        refine ⟨rfl, by show _ = ([] ++ (normS a).map enc).length; simp, rfl, by rw [List.length_map]; rw [List.length_map]; show (0 + (normS a).length + (normS b).length) * 16 ≤ 140737488355328; omega, fun c' hc' => ?_⟩
        conv => whnf
        refine freezeC 3 (fun _ => .arr 50 2 ((normS a ++ normS b).map enc) c') rfl rfl rfl (fun _ _ => encB_ren' (by show ([] ++ (normS a).map enc) ++ (normS b).map enc = _; simp) _ _) (fun _ _ => encB_below _ _ _) ?_
        intro b3 F3 l3 hb3
        refine useFo (rnormalF F3 _ (normS a ++ normS b) p (Sl.new (cap := c') (hb3 0 rfl)) (by rw [List.length_append]; omega)) rfl ⟨rfl, ⟨rfl, ?_, rfl, .inr ⟨rfl, rfl, rfl, rfl⟩⟩, trivial⟩ rfl ?_
        · show (normS a ++ normS b).length = 0 + ((normS a).map enc).length + ((normS b).map enc).length; simp
        rintro _ F4 l4 ⟨sz, rfl, hz⟩
        have hs := hz
        obtain ⟨zn, zb, ze, zc, zL, zr, rfl, _⟩ := hs
        conv => whnf
        exact endFo (.ret (.tup [.va (.slice zn 0 zb ze 2 (normR p (normS a ++ normS b)).1.length zc), .va (.int .i64 (normR p (normS a ++ normS b)).2)])) F4 rfl (Fz.le_trans l1 (Fz.le_trans l2 (Fz.le_trans l3 l4))) (Fz.le_refl F4) ⟨_, by rw [e, en], by rw [e]; rw [en] at hz; exact hz⟩ ⟨⟨rfl, rfl, rfl, .inr ⟨rfl, rfl, rfl, rfl⟩⟩, rfl, trivial⟩ rfl
      · have ey : normS b = [] := hy1 rfl
        conv => whnf
        refine ⟨_, _, _, hx2' rfl, hx3, _, hx4, ?_⟩
        conv => whnf
        refine ⟨rfl, rfl, rfl, by rw [List.length_map]; show (0 + (normS a).length) * 16 ≤ 140737488355328; omega, fun c hc => ?_⟩
        conv => whnf
        refine ⟨by rw [ey]; rfl, ?_⟩
        conv => whnf
        refine ⟨rfl, by show _ = ([] ++ (normS a).map enc).length; simp, rfl, by rw [List.length_map]; show (0 + (normS a).length + 0) * 16 ≤ 140737488355328; omega, fun c' hc' => ?_⟩
        conv => whnf
        refine freezeC 3 (fun _ => .arr 50 2 ((normS a ++ normS b).map enc) c') rfl rfl rfl (fun _ _ => encB_ren' (by show ([] ++ (normS a).map enc) ++ [] = _; rw [ey]; simp) _ _) (fun _ _ => encB_below _ _ _) ?_
        intro b3 F3 l3 hb3
        refine useFo (rnormalF F3 _ (normS a ++ normS b) p (Sl.new (cap := c') (hb3 0 rfl)) (by rw [List.length_append]; omega)) rfl ⟨rfl, ⟨rfl, ?_, rfl, .inr ⟨rfl, rfl, rfl, rfl⟩⟩, trivial⟩ rfl ?_
        · show (normS a ++ normS b).length = 0 + ((normS a).map enc).length + ([]).length; rw [ey]; simp
        rintro _ F4 l4 ⟨sz, rfl, hz⟩
        have hs := hz
        obtain ⟨zn, zb, ze, zc, zL, zr, rfl, _⟩ := hs
        conv => whnf
        exact endFo (.ret (.tup [.va (.slice zn 0 zb ze 2 (normR p (normS a ++ normS b)).1.length zc), .va (.int .i64 (normR p (normS a ++ normS b)).2)])) F4 rfl (Fz.le_trans l1 (Fz.le_trans l2 (Fz.le_trans l3 l4))) (Fz.le_refl F4) ⟨_, by rw [e, en], by rw [e]; rw [en] at hz; exact hz⟩ ⟨⟨rfl, rfl, rfl, .inr ⟨rfl, rfl, rfl, rfl⟩⟩, rfl, trivial⟩ rfl
      · have ex : normS a = [] := hx1 rfl
        conv => whnf
        refine ⟨by rw [ex]; rfl, ?_⟩
        conv => whnf
        refine ⟨rfl, rfl, rfl, by show (0 + 0) * 16 ≤ 140737488355328; omega, fun c hc => ?_⟩
        conv => whnf
        refine ⟨_, _, _, hy2 rfl, hy3, _, hy4, ?_⟩
        conv => whnf
        refine ⟨rfl, by show _ = ([] ++ []).length; simp, rfl, by rw [List.length_map]; show (0 + 0 + (normS b).length) * 16 ≤ 140737488355328; omega, fun c' hc' => ?_⟩
        conv => whnf
        refine freezeC 3 (fun _ => .arr 50 2 ((normS a ++ normS b).map enc) c') rfl rfl rfl (fun _ _ => encB_ren' (by show ([] ++ []) ++ (normS b).map enc = _; rw [ex]; simp) _ _) (fun _ _ => encB_below _ _ _) ?_
        intro b3 F3 l3 hb3
        refine useFo (rnormalF F3 _ (normS a ++ normS b) p (Sl.new (cap := c') (hb3 0 rfl)) (by rw [List.length_append]; omega)) rfl ⟨rfl, ⟨rfl, ?_, rfl, .inr ⟨rfl, rfl, rfl, rfl⟩⟩, trivial⟩ rfl ?_
        · show (normS a ++ normS b).length = 0 + ([]).length + ((normS b).map enc).length; rw [ex]; simp
        rintro _ F4 l4 ⟨sz, rfl, hz⟩
        have hs := hz
        obtain ⟨zn, zb, ze, zc, zL, zr, rfl, _⟩ := hs
        conv => whnf
        exact endFo (.ret (.tup [.va (.slice zn 0 zb ze 2 (normR p (normS a ++ normS b)).1.length zc), .va (.int .i64 (normR p (normS a ++ normS b)).2)])) F4 rfl (Fz.le_trans l1 (Fz.le_trans l2 (Fz.le_trans l3 l4))) (Fz.le_refl F4) ⟨_, by rw [e, en], by rw [e]; rw [en] at hz; exact hz⟩ ⟨⟨rfl, rfl, rfl, .inr ⟨rfl, rfl, rfl, rfl⟩⟩, rfl, trivial⟩ rfl
      · have ex : normS a = [] := hx1 rfl
        have ey : normS b = [] := hy1 rfl
        conv => whnf
        refine ⟨by rw [ex]; rfl, ?_⟩
        conv => whnf
        refine ⟨rfl, rfl, rfl, by show (0 + 0) * 16 ≤ 140737488355328; omega, fun c hc => ?_⟩
        conv => whnf
        refine ⟨by rw [ey]; rfl, ?_⟩
        conv => whnf
        refine ⟨rfl, by show _ = ([] ++ []).length; simp, rfl, by show (0 + 0 + 0) * 16 ≤ 140737488355328; omega, fun c' hc' => ?_⟩
        conv => whnf
        refine freezeC 3 (fun _ => .arr 50 2 ((normS a ++ normS b).map enc) c') rfl rfl rfl (fun _ _ => encB_ren' (by show ([] ++ []) ++ [] = _; rw [ex, ey]; rfl) _ _) (fun _ _ => encB_below _ _ _) ?_
        intro b3 F3 l3 hb3
        refine useFo (rnormalF F3 _ (normS a ++ normS b) p (Sl.new (cap := c') (hb3 0 rfl)) (by rw [List.length_append]; omega)) rfl ⟨rfl, ⟨rfl, ?_, rfl, .inr ⟨rfl, rfl, rfl, rfl⟩⟩, trivial⟩ rfl ?_
        · rw [ex, ey]; rfl
        rintro _ F4 l4 ⟨sz, rfl, hz⟩
        have hs := hz
        obtain ⟨zn, zb, ze, zc, zL, zr, rfl, _⟩ := hs
        conv => whnf
        exact endFo (.ret (.tup [.va (.slice zn 0 zb ze 2 (normR p (normS a ++ normS b)).1.length zc), .va (.int .i64 (normR p (normS a ++ normS b)).2)])) F4 rfl (Fz.le_trans l1 (Fz.le_trans l2 (Fz.le_trans l3 l4))) (Fz.le_refl F4) ⟨_, by rw [e, en], by rw [e]; rw [en] at hz; exact hz⟩ ⟨⟨rfl, rfl, rfl, .inr ⟨rfl, rfl, rfl, rfl⟩⟩, rfl, trivial⟩ rfl
  · have g1 : validS p a = false := not_t g
    have e : compR p a b = ([], 70) := by simp [compR, g1]
    conv => whnf
    exact endFo (.ret (.tup [.va (.slice true 0 0 0 2 0 0), .va (.int .i64 70)])) F rfl (Fz.le_refl F) (Fz.le_refl F) ⟨_, by rw [e], by rw [e]; exact Sl.nil⟩ ⟨⟨rfl, rfl, rfl⟩, rfl, trivial⟩ rfl
end Go.Proofs.YtblllibdahkgfaaGreatDoor

namespace Go.Proofs.YtblllibdahkgfaaGreatDoor
open Go Sx
set_option maxRecDepth 100000

def behind (a : List Stp) : List (List Stp) := [a, [(6, 0)], [], [(5, 0)], [(5, 0), (5, 0)], [(5, 0), (5, 0), (5, 0)], [(5, 0), (5, 0), (5, 0), (5, 0)], [(5, 0), (5, 0), (5, 0), (5, 0), (5, 0)]]
def rtry (p : Int) (a b c : List Stp) : Bool := decide ((compR p b c).2 = 0) && decide ((compR p b c).1 = (normR p a).1)
def rcoarS (p : Int) (a b : List Stp) : Bool := if validS p a = true then (behind a).any (rtry p a b) else false

theorem compR_len (p : Int) (a b : List Stp) : (compR p a b).1.length ≤ 100 := by
  unfold compR; split
  · exact Nat.le_trans (norm_len9 (a ++ b)) (by omega)
  · simp

set_option maxHeartbeats 8000000 in
theorem rcoarserE_fn (F : Fz) (sa sb : SA) (a b : List Stp) (p : Int) (ha : StepsAt F sa a) (hb : StepsAt F sb b) (la : a.length < 1000000) (lb : b.length < 1000000) :
    Fo Tryz.prog F 23 [.va (.int .i64 p), .va sa, .va sb] (fun o F' => o = .ret (.va (.bool (rcoarS p a b)))) := by
  have hna := rnormalF F sa a p ha la
  have ha' := ha
  have hb' := hb
  have fin : ∀ (x : Bool) (F1 : Fz) (h : Hp) (nx : Nat), rcoarS p a b = x → Fz.le F F1 → lget h 0 = some (.frz F1) → Cln 1 (FoK F fun o F' => o = .ret (.va (.bool (rcoarS p a b)))) (.ret (.va (.bool x))) h nx :=
    fun x F1 h nx hx hle h0 => endFo (.ret (.va (.bool x))) F1 h0 hle (Fz.le_refl F1) (by rw [hx]) rfl rfl
  obtain ⟨han, hab, hae, hac, haL, har, rfl, ha1, ha2, ha3, ha4⟩ := ha
  obtain ⟨hbn, hbb, hbe, hbc, hbL, hbr, rfl, hb1, hb2, hb3, hb4⟩ := hb
  refine fo_of hΘ Tryz.func23 rfl (by decide) _ _ rfl rfl rfl ?_
  conv => whnf
  refine useFo (hna) rfl (argsE_refl _) rfl ?_
  rintro _ F1 l1 ⟨sx, rfl, hx⟩
  conv => whnf
  have hs := hx
  obtain ⟨xn, xb, xe, xc, xL, xr, rfl, _⟩ := hs
  conv => whnf
  refine br (fun g => ?_) (fun g => ?_)
  · have g1 : ¬ validS p a = true := by intro h; simp [normR, h] at g
    conv => whnf
    exact fin false F1 _ _ (by rw [rcoarS, if_neg g1]) l1 rfl
  · have g1 : validS p a = true := by
      apply Classical.byContradiction; intro h; simp [normR, h] at g
    conv => whnf
    refine rounds hΘ 7 ?_
    conv => whnf
    refine br (fun gt => ?_) (fun g => absurd g (by decide))
    clear gt
    
    
    conv => whnf
    refine ⟨rfl, rfl, rfl, Nat.le_of_ble_eq_true rfl, fun ca0 ha0 => ?_⟩
    clear ha0
    conv => whnf
    refine ⟨Nat.le_of_ble_eq_true rfl, _, rfl, ?_⟩
    conv => whnf
    refine ⟨rfl, rfl, rfl, Nat.le_of_ble_eq_true rfl, fun cb0 hb0 => ?_⟩
    clear hb0
    conv => whnf
    refine ⟨Nat.le_of_ble_eq_true rfl, [enc (5, 0)], rfl, ?_⟩
    conv => whnf
    refine ⟨rfl, rfl, ?_⟩
    conv => whnf
    refine ⟨Nat.le_of_ble_eq_true rfl, fun cc0 hc0 => ?_⟩
    clear hc0
    conv => whnf
    refine br (fun gt => ?_) (fun g => absurd g (by decide))
    clear gt
    conv => whnf
    refine ⟨Nat.le_of_ble_eq_true rfl, [enc (5, 0)], rfl, ?_⟩
    conv => whnf
    refine ⟨rfl, rfl, rfl, Nat.le_of_ble_eq_true rfl, fun ca1 ha1 => ?_⟩
    clear ha1
    conv => whnf
    refine ⟨Nat.le_of_ble_eq_true rfl, _, rfl, ?_⟩
    conv => whnf
    refine ⟨rfl, rfl, rfl, Nat.le_of_ble_eq_true rfl, fun cb1 hb1 => ?_⟩
    clear hb1
    conv => whnf
    refine ⟨Nat.le_of_ble_eq_true rfl, [enc (5, 0)], rfl, ?_⟩
    conv => whnf
    skip
    conv => whnf
    refine ⟨rfl, rfl, rfl, Nat.le_of_ble_eq_true rfl, fun cc1 hc1 => ?_⟩
    clear hc1
    conv => whnf
    refine br (fun gt => ?_) (fun g => absurd g (by decide))
    clear gt
    conv => whnf
    refine ⟨Nat.le_of_ble_eq_true rfl, [enc (5, 0), enc (5, 0)], rfl, ?_⟩
    conv => whnf
    refine ⟨rfl, rfl, rfl, Nat.le_of_ble_eq_true rfl, fun ca2 ha2 => ?_⟩
    clear ha2
    conv => whnf
    refine ⟨Nat.le_of_ble_eq_true rfl, _, rfl, ?_⟩
    conv => whnf
    refine ⟨rfl, rfl, rfl, Nat.le_of_ble_eq_true rfl, fun cb2 hb2 => ?_⟩
    clear hb2
    conv => whnf
    refine ⟨Nat.le_of_ble_eq_true rfl, [enc (5, 0)], rfl, ?_⟩
    conv => whnf
    skip
    conv => whnf
    refine ⟨rfl, rfl, rfl, Nat.le_of_ble_eq_true rfl, fun cc2 hc2 => ?_⟩
    clear hc2
    conv => whnf
    refine br (fun gt => ?_) (fun g => absurd g (by decide))
    clear gt
    conv => whnf
    refine ⟨Nat.le_of_ble_eq_true rfl, [enc (5, 0), enc (5, 0), enc (5, 0)], rfl, ?_⟩
    conv => whnf
    refine ⟨rfl, rfl, rfl, Nat.le_of_ble_eq_true rfl, fun ca3 ha3 => ?_⟩
    clear ha3
    conv => whnf
    refine ⟨Nat.le_of_ble_eq_true rfl, _, rfl, ?_⟩
    conv => whnf
    refine ⟨rfl, rfl, rfl, Nat.le_of_ble_eq_true rfl, fun cb3 hb3 => ?_⟩
    clear hb3
    conv => whnf
    refine ⟨Nat.le_of_ble_eq_true rfl, [enc (5, 0)], rfl, ?_⟩
    conv => whnf
    skip
    conv => whnf
    refine ⟨rfl, rfl, rfl, Nat.le_of_ble_eq_true rfl, fun cc3 hc3 => ?_⟩
    clear hc3
    conv => whnf
    refine br (fun gt => ?_) (fun g => absurd g (by decide))
    clear gt
    conv => whnf
    refine ⟨Nat.le_of_ble_eq_true rfl, [enc (5, 0), enc (5, 0), enc (5, 0), enc (5, 0)], rfl, ?_⟩
    conv => whnf
    refine ⟨rfl, rfl, rfl, Nat.le_of_ble_eq_true rfl, fun ca4 ha4 => ?_⟩
    clear ha4
    conv => whnf
    refine ⟨Nat.le_of_ble_eq_true rfl, _, rfl, ?_⟩
    conv => whnf
    refine ⟨rfl, rfl, rfl, Nat.le_of_ble_eq_true rfl, fun cb4 hb4 => ?_⟩
    clear hb4
    conv => whnf
    refine ⟨Nat.le_of_ble_eq_true rfl, [enc (5, 0)], rfl, ?_⟩
    conv => whnf
    skip
    conv => whnf
    refine ⟨rfl, rfl, rfl, Nat.le_of_ble_eq_true rfl, fun cc4 hc4 => ?_⟩
    clear hc4
    conv => whnf
    refine br (fun gt => ?_) (fun g => absurd g (by decide))
    clear gt
    conv => whnf
    refine ⟨Nat.le_of_ble_eq_true rfl, [enc (5, 0), enc (5, 0), enc (5, 0), enc (5, 0), enc (5, 0)], rfl, ?_⟩
    conv => whnf
    refine ⟨rfl, rfl, rfl, Nat.le_of_ble_eq_true rfl, fun ca5 ha5 => ?_⟩
    clear ha5
    conv => whnf
    refine ⟨Nat.le_of_ble_eq_true rfl, _, rfl, ?_⟩
    conv => whnf
    refine ⟨rfl, rfl, rfl, Nat.le_of_ble_eq_true rfl, fun cb5 hb5 => ?_⟩
    clear hb5
    conv => whnf
    refine ⟨Nat.le_of_ble_eq_true rfl, [enc (5, 0)], rfl, ?_⟩
    conv => whnf
    skip
    conv => whnf
    refine ⟨rfl, rfl, rfl, Nat.le_of_ble_eq_true rfl, fun cc5 hc5 => ?_⟩
    clear hc5
    conv => whnf
    refine br (fun g => absurd g (by decide)) (fun gt => ?_)
    clear gt
    conv => whnf
    refine freezeW 1 (fun _ => .arr 50 2 [enc (6, 0)] 1) rfl rfl rfl (fun _ _ => rfl) (fun _ _ => SB.bB_ok rfl) ?_
    intro d1 G1 m1 k1
    refine freezeW 4 (fun _ => .arr 50 2 [] ca0) rfl rfl rfl (fun _ _ => rfl) (fun _ _ => SB.bB_ok rfl) ?_
    intro d2 G2 m2 k2
    refine freezeW 10 (fun _ => .arr 50 2 [enc (5, 0)] ca1) rfl rfl rfl (fun _ _ => rfl) (fun _ _ => SB.bB_ok rfl) ?_
    intro d3 G3 m3 k3
    refine freezeW 16 (fun _ => .arr 50 2 [enc (5, 0), enc (5, 0)] ca2) rfl rfl rfl (fun _ _ => rfl) (fun _ _ => SB.bB_ok rfl) ?_
    intro d4 G4 m4 k4
    refine freezeW 22 (fun _ => .arr 50 2 [enc (5, 0), enc (5, 0), enc (5, 0)] ca3) rfl rfl rfl (fun _ _ => rfl) (fun _ _ => SB.bB_ok rfl) ?_
    intro d5 G5 m5 k5
    refine freezeW 28 (fun _ => .arr 50 2 [enc (5, 0), enc (5, 0), enc (5, 0), enc (5, 0)] ca4) rfl rfl rfl (fun _ _ => rfl) (fun _ _ => SB.bB_ok rfl) ?_
    intro d6 G6 m6 k6
    refine freezeW 34 (fun _ => .arr 50 2 [enc (5, 0), enc (5, 0), enc (5, 0), enc (5, 0), enc (5, 0)] ca5) rfl rfl rfl (fun _ _ => rfl) (fun _ _ => SB.bB_ok rfl) ?_
    intro d7 G7 m7 k7
    have q7 := Fz.le_refl G7
    have q6 := Fz.le_trans m7 q7
    have q5 := Fz.le_trans m6 q6
    have q4 := Fz.le_trans m5 q5
    have q3 := Fz.le_trans m4 q4
    have q2 := Fz.le_trans m3 q3
    have q1 := Fz.le_trans m2 q2
    have q0 := Fz.le_trans m1 q1
    have qF := Fz.le_trans l1 q0
    have hx7 := hx.mono q0
    have c0 := ha'.mono qF
    have c1 : StepsAt G7 (.slice false 0 (d1 0) 0 2 1 1) [(6, 0)] := Sl.new (l := [(6, 0)]) (q1 _ _ (k1 0 rfl))
    have c2 : StepsAt G7 (.slice false 0 (d2 0) 0 2 0 ca0) [] := Sl.new (l := []) (q2 _ _ (k2 0 rfl))
    have c3 : StepsAt G7 (.slice false 0 (d3 0) 0 2 1 ca1) [(5, 0)] := Sl.new (l := [(5, 0)]) (q3 _ _ (k3 0 rfl))
    have c4 : StepsAt G7 (.slice false 0 (d4 0) 0 2 2 ca2) [(5, 0), (5, 0)] := Sl.new (l := [(5, 0), (5, 0)]) (q4 _ _ (k4 0 rfl))
    have c5 : StepsAt G7 (.slice false 0 (d5 0) 0 2 3 ca3) [(5, 0), (5, 0), (5, 0)] := Sl.new (l := [(5, 0), (5, 0), (5, 0)]) (q5 _ _ (k5 0 rfl))
    have c6 : StepsAt G7 (.slice false 0 (d6 0) 0 2 4 ca4) [(5, 0), (5, 0), (5, 0), (5, 0)] := Sl.new (l := [(5, 0), (5, 0), (5, 0), (5, 0)]) (q6 _ _ (k6 0 rfl))
    have c7 : StepsAt G7 (.slice false 0 (d7 0) 0 2 5 ca5) [(5, 0), (5, 0), (5, 0), (5, 0), (5, 0)] := Sl.new (l := [(5, 0), (5, 0), (5, 0), (5, 0), (5, 0)]) (q7 _ _ (k7 0 rfl))
    have hbG := hb'.mono qF
    have hany : rcoarS p a b = (behind a).any (rtry p a b) := by rw [rcoarS, if_pos g1]
    refine loop_at hΘ (X := { i : Nat // i ≤ 8 ∧ ((behind a).take i).any (rtry p a b) = false }) (fun i => [(12, .va (.int .i64 i.1))]) [6, 13, 14, 15, 42, 43, 44, 45, 46, 47, 48, 49, 50, 51, 52, 53, 54, 55, 56, 57, 58, 59, 60, 61, 62, 63, 64, 65] (fz fun _ => G7) 39 (fun i => 8 - i.1) ⟨0, by simp⟩
      (fun hH hT => le0 hH hT rfl (Fz.le_refl G7) rfl ⟨rfl, trivial⟩) ?_
    rintro ⟨i, hi, hp⟩ hH hT
    replace hp : ((behind a).take i).any (rtry p a b) = false := hp
    conv => whnf
    refine br (fun gb => ?_) (fun gb => ?_)
    · have gk : i < 8 := by
        have h0 : (i : Int) < ((8 : Nat) : Int) := of_decide_eq_true gb
        clear gb
        omega
      clear gb
      have step : ∀ c, (behind a)[i]? = some c → rtry p a b c = false → ((behind a).take (i + 1)).any (rtry p a b) = false := fun c hc hr => by
        have hl := (List.getElem?_eq_some_iff.1 hc).1
        have he := (List.getElem?_eq_some_iff.1 hc).2
        rw [List.take_succ_eq_append_getElem hl, List.any_append, hp, he]; simp [hr]
      have found : ∀ c, (behind a)[i]? = some c → rtry p a b c = true → rcoarS p a b = true := fun c hc hr => by
        rw [hany, List.any_eq_true]; exact ⟨c, List.mem_of_getElem? hc, hr⟩
      have hcs : i = 0 ∨ i = 1 ∨ i = 2 ∨ i = 3 ∨ i = 4 ∨ i = 5 ∨ i = 6 ∨ i = 7 := by omega
      rcases hcs with rfl | rfl | rfl | rfl | rfl | rfl | rfl | rfl
      · conv => whnf
        refine ⟨rfl, ⟨of_decide_eq_true rfl, of_decide_eq_true rfl⟩, ?_⟩
        conv => whnf
        refine ⟨_, rfl, ?_⟩
        conv => whnf
        refine useFo (rcomposeE_fn G7 _ _ b a p hbG c0 lb la) rfl (argsE_refl _) rfl ?_
        rintro _ F2 l2 ⟨sz, rfl, hz⟩
        conv => whnf
        have hs := hz
        obtain ⟨zn, zb, ze, zc, zL, zr, rfl, _⟩ := hs
        have hx2 := hx7.mono l2
        conv => whnf
        refine usePu (same_fn F2 _ _ (compR p b a).1 (normR p a).1 hz hx2 (Nat.lt_of_le_of_lt (compR_len _ _ _) (by omega))) rfl (argsE_refl _) rfl ?_
        conv => whnf
        refine ⟨fun ge => ?_, fun ge => ?_⟩
        · conv => whnf
          refine br (fun gs => ?_) (fun gs => ?_)
          · conv => whnf
            exact fin true F2 _ _ (found a rfl (by rw [rtry, ge, gs]; rfl)) (Fz.le_trans qF l2) rfl
          · conv => whnf
            exact ⟨⟨1, by omega, step a rfl (by rw [rtry, ge, gs]; rfl)⟩, by show 8 - 1 < 8 - 0; omega, lr0 hH hT rfl l2 rfl ⟨rfl, trivial⟩⟩
        · conv => whnf
          exact ⟨⟨1, by omega, step a rfl (by rw [rtry, ge]; rfl)⟩, by show 8 - 1 < 8 - 0; omega, lr0 hH hT rfl l2 rfl ⟨rfl, trivial⟩⟩
      · conv => whnf
        refine ⟨rfl, ⟨of_decide_eq_true rfl, of_decide_eq_true rfl⟩, ?_⟩
        conv => whnf
        refine ⟨_, rfl, ?_⟩
        conv => whnf
        refine useFo (rcomposeE_fn G7 _ _ b ([(6, 0)]) p hbG c1 lb (by decide)) rfl (argsE_refl _) rfl ?_
        rintro _ F2 l2 ⟨sz, rfl, hz⟩
        conv => whnf
        have hs := hz
        obtain ⟨zn, zb, ze, zc, zL, zr, rfl, _⟩ := hs
        have hx2 := hx7.mono l2
        conv => whnf
        refine usePu (same_fn F2 _ _ (compR p b [(6, 0)]).1 (normR p a).1 hz hx2 (Nat.lt_of_le_of_lt (compR_len _ _ _) (by omega))) rfl (argsE_refl _) rfl ?_
        conv => whnf
        refine ⟨fun ge => ?_, fun ge => ?_⟩
        · conv => whnf
          refine br (fun gs => ?_) (fun gs => ?_)
          · conv => whnf
            exact fin true F2 _ _ (found [(6, 0)] rfl (by rw [rtry, ge, gs]; rfl)) (Fz.le_trans qF l2) rfl
          · conv => whnf
            exact ⟨⟨2, by omega, step [(6, 0)] rfl (by rw [rtry, ge, gs]; rfl)⟩, by show 8 - 2 < 8 - 1; omega, lr0 hH hT rfl l2 rfl ⟨rfl, trivial⟩⟩
        · conv => whnf
          exact ⟨⟨2, by omega, step [(6, 0)] rfl (by rw [rtry, ge]; rfl)⟩, by show 8 - 2 < 8 - 1; omega, lr0 hH hT rfl l2 rfl ⟨rfl, trivial⟩⟩
      · conv => whnf
        refine ⟨rfl, ⟨of_decide_eq_true rfl, of_decide_eq_true rfl⟩, ?_⟩
        conv => whnf
        refine ⟨_, rfl, ?_⟩
        conv => whnf
        refine useFo (rcomposeE_fn G7 _ _ b ([]) p hbG c2 lb (by decide)) rfl (argsE_refl _) rfl ?_
        rintro _ F2 l2 ⟨sz, rfl, hz⟩
        conv => whnf
        have hs := hz
        obtain ⟨zn, zb, ze, zc, zL, zr, rfl, _⟩ := hs
        have hx2 := hx7.mono l2
        conv => whnf
        refine usePu (same_fn F2 _ _ (compR p b []).1 (normR p a).1 hz hx2 (Nat.lt_of_le_of_lt (compR_len _ _ _) (by omega))) rfl (argsE_refl _) rfl ?_
        conv => whnf
        refine ⟨fun ge => ?_, fun ge => ?_⟩
        · conv => whnf
          refine br (fun gs => ?_) (fun gs => ?_)
          · conv => whnf
            exact fin true F2 _ _ (found [] rfl (by rw [rtry, ge, gs]; rfl)) (Fz.le_trans qF l2) rfl
          · conv => whnf
            exact ⟨⟨3, by omega, step [] rfl (by rw [rtry, ge, gs]; rfl)⟩, by show 8 - 3 < 8 - 2; omega, lr0 hH hT rfl l2 rfl ⟨rfl, trivial⟩⟩
        · conv => whnf
          exact ⟨⟨3, by omega, step [] rfl (by rw [rtry, ge]; rfl)⟩, by show 8 - 3 < 8 - 2; omega, lr0 hH hT rfl l2 rfl ⟨rfl, trivial⟩⟩
      · conv => whnf
        refine ⟨rfl, ⟨of_decide_eq_true rfl, of_decide_eq_true rfl⟩, ?_⟩
        conv => whnf
        refine ⟨_, rfl, ?_⟩
        conv => whnf
        refine useFo (rcomposeE_fn G7 _ _ b ([(5, 0)]) p hbG c3 lb (by decide)) rfl (argsE_refl _) rfl ?_
        rintro _ F2 l2 ⟨sz, rfl, hz⟩
        conv => whnf
        have hs := hz
        obtain ⟨zn, zb, ze, zc, zL, zr, rfl, _⟩ := hs
        have hx2 := hx7.mono l2
        conv => whnf
        refine usePu (same_fn F2 _ _ (compR p b [(5, 0)]).1 (normR p a).1 hz hx2 (Nat.lt_of_le_of_lt (compR_len _ _ _) (by omega))) rfl (argsE_refl _) rfl ?_
        conv => whnf
        refine ⟨fun ge => ?_, fun ge => ?_⟩
        · conv => whnf
          refine br (fun gs => ?_) (fun gs => ?_)
          · conv => whnf
            exact fin true F2 _ _ (found [(5, 0)] rfl (by rw [rtry, ge, gs]; rfl)) (Fz.le_trans qF l2) rfl
          · conv => whnf
            exact ⟨⟨4, by omega, step [(5, 0)] rfl (by rw [rtry, ge, gs]; rfl)⟩, by show 8 - 4 < 8 - 3; omega, lr0 hH hT rfl l2 rfl ⟨rfl, trivial⟩⟩
        · conv => whnf
          exact ⟨⟨4, by omega, step [(5, 0)] rfl (by rw [rtry, ge]; rfl)⟩, by show 8 - 4 < 8 - 3; omega, lr0 hH hT rfl l2 rfl ⟨rfl, trivial⟩⟩
      · conv => whnf
        refine ⟨rfl, ⟨of_decide_eq_true rfl, of_decide_eq_true rfl⟩, ?_⟩
        conv => whnf
        refine ⟨_, rfl, ?_⟩
        conv => whnf
        refine useFo (rcomposeE_fn G7 _ _ b ([(5, 0), (5, 0)]) p hbG c4 lb (by decide)) rfl (argsE_refl _) rfl ?_
        rintro _ F2 l2 ⟨sz, rfl, hz⟩
        conv => whnf
        have hs := hz
        obtain ⟨zn, zb, ze, zc, zL, zr, rfl, _⟩ := hs
        have hx2 := hx7.mono l2
        conv => whnf
        refine usePu (same_fn F2 _ _ (compR p b [(5, 0), (5, 0)]).1 (normR p a).1 hz hx2 (Nat.lt_of_le_of_lt (compR_len _ _ _) (by omega))) rfl (argsE_refl _) rfl ?_
        conv => whnf
        refine ⟨fun ge => ?_, fun ge => ?_⟩
        · conv => whnf
          refine br (fun gs => ?_) (fun gs => ?_)
          · conv => whnf
            exact fin true F2 _ _ (found [(5, 0), (5, 0)] rfl (by rw [rtry, ge, gs]; rfl)) (Fz.le_trans qF l2) rfl
          · conv => whnf
            exact ⟨⟨5, by omega, step [(5, 0), (5, 0)] rfl (by rw [rtry, ge, gs]; rfl)⟩, by show 8 - 5 < 8 - 4; omega, lr0 hH hT rfl l2 rfl ⟨rfl, trivial⟩⟩
        · conv => whnf
          exact ⟨⟨5, by omega, step [(5, 0), (5, 0)] rfl (by rw [rtry, ge]; rfl)⟩, by show 8 - 5 < 8 - 4; omega, lr0 hH hT rfl l2 rfl ⟨rfl, trivial⟩⟩
      · conv => whnf
        refine ⟨rfl, ⟨of_decide_eq_true rfl, of_decide_eq_true rfl⟩, ?_⟩
        conv => whnf
        refine ⟨_, rfl, ?_⟩
        conv => whnf
        refine useFo (rcomposeE_fn G7 _ _ b ([(5, 0), (5, 0), (5, 0)]) p hbG c5 lb (by decide)) rfl (argsE_refl _) rfl ?_
        rintro _ F2 l2 ⟨sz, rfl, hz⟩
        conv => whnf
        have hs := hz
        obtain ⟨zn, zb, ze, zc, zL, zr, rfl, _⟩ := hs
        have hx2 := hx7.mono l2
        conv => whnf
        refine usePu (same_fn F2 _ _ (compR p b [(5, 0), (5, 0), (5, 0)]).1 (normR p a).1 hz hx2 (Nat.lt_of_le_of_lt (compR_len _ _ _) (by omega))) rfl (argsE_refl _) rfl ?_
        conv => whnf
        refine ⟨fun ge => ?_, fun ge => ?_⟩
        · conv => whnf
          refine br (fun gs => ?_) (fun gs => ?_)
          · conv => whnf
            exact fin true F2 _ _ (found [(5, 0), (5, 0), (5, 0)] rfl (by rw [rtry, ge, gs]; rfl)) (Fz.le_trans qF l2) rfl
          · conv => whnf
            exact ⟨⟨6, by omega, step [(5, 0), (5, 0), (5, 0)] rfl (by rw [rtry, ge, gs]; rfl)⟩, by show 8 - 6 < 8 - 5; omega, lr0 hH hT rfl l2 rfl ⟨rfl, trivial⟩⟩
        · conv => whnf
          exact ⟨⟨6, by omega, step [(5, 0), (5, 0), (5, 0)] rfl (by rw [rtry, ge]; rfl)⟩, by show 8 - 6 < 8 - 5; omega, lr0 hH hT rfl l2 rfl ⟨rfl, trivial⟩⟩
      · conv => whnf
        refine ⟨rfl, ⟨of_decide_eq_true rfl, of_decide_eq_true rfl⟩, ?_⟩
        conv => whnf
        refine ⟨_, rfl, ?_⟩
        conv => whnf
        refine useFo (rcomposeE_fn G7 _ _ b ([(5, 0), (5, 0), (5, 0), (5, 0)]) p hbG c6 lb (by decide)) rfl (argsE_refl _) rfl ?_
        rintro _ F2 l2 ⟨sz, rfl, hz⟩
        conv => whnf
        have hs := hz
        obtain ⟨zn, zb, ze, zc, zL, zr, rfl, _⟩ := hs
        have hx2 := hx7.mono l2
        conv => whnf
        refine usePu (same_fn F2 _ _ (compR p b [(5, 0), (5, 0), (5, 0), (5, 0)]).1 (normR p a).1 hz hx2 (Nat.lt_of_le_of_lt (compR_len _ _ _) (by omega))) rfl (argsE_refl _) rfl ?_
        conv => whnf
        refine ⟨fun ge => ?_, fun ge => ?_⟩
        · conv => whnf
          refine br (fun gs => ?_) (fun gs => ?_)
          · conv => whnf
            exact fin true F2 _ _ (found [(5, 0), (5, 0), (5, 0), (5, 0)] rfl (by rw [rtry, ge, gs]; rfl)) (Fz.le_trans qF l2) rfl
          · conv => whnf
            exact ⟨⟨7, by omega, step [(5, 0), (5, 0), (5, 0), (5, 0)] rfl (by rw [rtry, ge, gs]; rfl)⟩, by show 8 - 7 < 8 - 6; omega, lr0 hH hT rfl l2 rfl ⟨rfl, trivial⟩⟩
        · conv => whnf
          exact ⟨⟨7, by omega, step [(5, 0), (5, 0), (5, 0), (5, 0)] rfl (by rw [rtry, ge]; rfl)⟩, by show 8 - 7 < 8 - 6; omega, lr0 hH hT rfl l2 rfl ⟨rfl, trivial⟩⟩
      · conv => whnf
        refine ⟨rfl, ⟨of_decide_eq_true rfl, of_decide_eq_true rfl⟩, ?_⟩
        conv => whnf
        refine ⟨_, rfl, ?_⟩
        conv => whnf
        refine useFo (rcomposeE_fn G7 _ _ b ([(5, 0), (5, 0), (5, 0), (5, 0), (5, 0)]) p hbG c7 lb (by decide)) rfl (argsE_refl _) rfl ?_
        rintro _ F2 l2 ⟨sz, rfl, hz⟩
        conv => whnf
        have hs := hz
        obtain ⟨zn, zb, ze, zc, zL, zr, rfl, _⟩ := hs
        have hx2 := hx7.mono l2
        conv => whnf
        refine usePu (same_fn F2 _ _ (compR p b [(5, 0), (5, 0), (5, 0), (5, 0), (5, 0)]).1 (normR p a).1 hz hx2 (Nat.lt_of_le_of_lt (compR_len _ _ _) (by omega))) rfl (argsE_refl _) rfl ?_
        conv => whnf
        refine ⟨fun ge => ?_, fun ge => ?_⟩
        · conv => whnf
          refine br (fun gs => ?_) (fun gs => ?_)
          · conv => whnf
            exact fin true F2 _ _ (found [(5, 0), (5, 0), (5, 0), (5, 0), (5, 0)] rfl (by rw [rtry, ge, gs]; rfl)) (Fz.le_trans qF l2) rfl
          · conv => whnf
            exact ⟨⟨8, by omega, step [(5, 0), (5, 0), (5, 0), (5, 0), (5, 0)] rfl (by rw [rtry, ge, gs]; rfl)⟩, by show 8 - 8 < 8 - 7; omega, lr0 hH hT rfl l2 rfl ⟨rfl, trivial⟩⟩
        · conv => whnf
          exact ⟨⟨8, by omega, step [(5, 0), (5, 0), (5, 0), (5, 0), (5, 0)] rfl (by rw [rtry, ge]; rfl)⟩, by show 8 - 8 < 8 - 7; omega, lr0 hH hT rfl l2 rfl ⟨rfl, trivial⟩⟩
    · have gk : i = 8 := by
        have h0 : ¬ (i : Int) < ((8 : Nat) : Int) := of_decide_eq_false gb
        clear gb
        omega
      subst gk
      conv => whnf
      exact fin false G7 _ _ (by rw [hany]; exact hp) qF rfl
end Go.Proofs.YtblllibdahkgfaaGreatDoor
