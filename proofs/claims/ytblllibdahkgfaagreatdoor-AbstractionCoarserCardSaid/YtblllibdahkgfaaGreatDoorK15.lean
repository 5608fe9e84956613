import Derived.Test.YtblllibdahkgfaaGreatDoorK14

namespace Go.Proofs.YtblllibdahkgfaaGreatDoor
open Go Sx
set_option maxRecDepth 100000
theorem valid_kinds {p : Int} {l : List Stp} (h : validS p l = true) : ∀ s ∈ l, 1 ≤ s.1 ∧ s.1 ≤ 6 := by
  intro s hs
  simp only [validS, Bool.and_eq_true] at h
  have := List.all_eq_true.1 h.2.2 s hs
  simp only [stepOk, Bool.and_eq_true, decide_eq_true_eq] at this
  exact this.1
theorem valid_len {p : Int} {l : List Stp} (h : validS p l = true) : l.length ≤ 64 := by
  simp only [validS, Bool.and_eq_true, decide_eq_true_eq] at h; exact h.2.1
theorem stepsL1 {F : Fz} {b c c' : Nat} {a : SA} {l : List Stp} (ha : StepsAt F a l) (h : F b = some (.arr 22 1 [[a]] c)) : StepsL F (.slice false 0 b 0 1 1 c') [l] :=
  SlR.new (l := [l]) h rfl fun k x hx => by
    match k, hx with
    | 0, hx => simp at hx; subst hx; exact ⟨[a], rfl, a, rfl, ha⟩
theorem stepsL2 {F : Fz} {b c c' : Nat} {a a2 : SA} {l l2 : List Stp} (ha : StepsAt F a l) (ha2 : StepsAt F a2 l2) (h : F b = some (.arr 22 1 [[a], [a2]] c)) : StepsL F (.slice false 0 b 0 1 2 c') [l, l2] :=
  SlR.new (l := [l, l2]) h rfl fun k x hx => by
    match k, hx with
    | 0, hx => simp at hx; subst hx; exact ⟨[a], rfl, a, rfl, ha⟩
    | 1, hx => simp at hx; subst hx; exact ⟨[a2], rfl, a2, rfl, ha2⟩
def normR (p : Int) (l : List Stp) : List Stp × Int := if validS p l = true then (normS l, 0) else ([], 70)
def compR (p : Int) (a b : List Stp) : List Stp × Int := if validS p a = true ∧ validS p b = true then (normS (a ++ b), 0) else ([], 70)
def coarS (p : Int) (a b : List Stp) : Bool :=
  if validS p a = true ∧ validS p b = true then
    if lostS (normS a) = true ∨ lostS (normS b) = true then lostS (normS a)
    else if p = 6 ∨ p = 7 then decide ((normS b).length ≤ (normS a).length) else decide (normS (b ++ a) = normS a)
  else false
theorem normS_len (l : List Stp) : (normS l).length ≤ 100 := by
  unfold normS; split
  · have := pieces_len (sel 1 l) (sel 2 l) (sel 3 l) (sel 4 l) (sel 5 l) 7
    exact this
  · simp
theorem normal1 (F : Fz) (b : Nat) (a : SA) (l : List Stp) (c c' : Nat) (ha : StepsAt F a l) (h : F b = some (.arr 22 1 [[a]] c)) {p : Int} (hv : validS p l = true) :
    Fo Tryz.prog F 38 [.va (.slice false 0 b 0 1 1 c')] (fun o F' => ∃ sc, o = .ret (.va sc) ∧ StepsAt F' sc (normS l)) := by
  have hl := valid_len hv
  have := normal_fn F _ [l] (stepsL1 (c' := c') ha h) (by simp) (by simp; omega) (by simpa using valid_kinds hv)
  rw [List.flatten_cons, List.flatten_nil, List.append_nil] at this
  exact this
theorem normal2 (F : Fz) (b : Nat) (a a2 : SA) (l l2 : List Stp) (c c' : Nat) (ha : StepsAt F a l) (ha2 : StepsAt F a2 l2) (h : F b = some (.arr 22 1 [[a], [a2]] c)) {p : Int} (hv : validS p l = true) (hv2 : validS p l2 = true) :
    Fo Tryz.prog F 38 [.va (.slice false 0 b 0 1 2 c')] (fun o F' => ∃ sc, o = .ret (.va sc) ∧ StepsAt F' sc (normS (l ++ l2))) := by
  have hl := valid_len hv
  have hl2 := valid_len hv2
  have := normal_fn F _ [l, l2] (stepsL2 (c' := c') ha ha2 h) (by simp) (by simp; omega) (by
    intro s hs
    simp only [List.flatten_cons, List.flatten_nil, List.append_nil, List.mem_append] at hs
    rcases hs with hs | hs
    · exact valid_kinds hv s hs
    · exact valid_kinds hv2 s hs)
  rw [List.flatten_cons, List.flatten_cons, List.flatten_nil, List.append_nil] at this
  exact this
set_option maxHeartbeats 2000000 in
theorem normalE_fn (F : Fz) (sa : SA) (l : List Stp) (p : Int) (ha : StepsAt F sa l) (hl : l.length < 1000000) :
    Fo Tryz.prog F 15 [.va (.int .i64 p), .va sa] (fun o F' => ∃ sc, o = .ret (.tup [.va sc, .va (.int .i64 (normR p l).2)]) ∧ StepsAt F' sc (normR p l).1) := by
  have hv := valid_fn F sa l p ha hl
  have ha' := ha
  obtain ⟨han, hab, hae, hac, haL, har, rfl, ha1, ha2, ha3, ha4⟩ := ha
  refine fo_of hΘ Tryz.func15 rfl (by decide) _ _ rfl rfl rfl ?_
  conv => whnf
  refine usePu (hv) rfl (argsE_refl _) rfl ?_
  conv => whnf
  refine br (fun g => ?_) (fun g => ?_)
  · have g1 : validS p l = false := not_t g
    have e : normR p l = ([], 70) := by simp [normR, g1]
    conv => whnf
    exact endFo (.ret (.tup [.va (.slice true 0 0 0 2 0 0), .va (.int .i64 70)])) F rfl (Fz.le_refl F) (Fz.le_refl F) ⟨_, by rw [e], by rw [e]; exact Sl.nil⟩ ⟨⟨rfl, rfl, rfl⟩, rfl, trivial⟩ rfl
  · have g1 : validS p l = true := by simpa using g
    have e : normR p l = (normS l, 0) := by simp [normR, g1]
    conv => whnf
    refine freezeC 1 (fun _ => .arr 22 1 [[.slice han 0 hab hae 2 l.length hac]] 1) rfl rfl rfl (fun _ _ => rfl) (fun _ _ => SB.bB_ok rfl) ?_
    intro b F1 l1 hb
    refine useFo (normal1 F1 (b 0) _ l 1 1 (ha'.mono l1) (hb 0 rfl) g1) rfl (argsE_refl _) rfl ?_
    rintro _ F2 l2 ⟨sc, rfl, hsc⟩
    conv => whnf
    have hs := hsc
    obtain ⟨n2, b2, e2, c2, L2, r2, rfl, _⟩ := hs
    conv => whnf
    exact endFo (.ret (.tup [.va (.slice n2 0 b2 e2 2 (normS l).length c2), .va (.int .i64 0)])) F2 rfl (Fz.le_trans l1 l2) (Fz.le_refl F2) ⟨_, by rw [e], by rw [e]; exact hsc⟩ ⟨⟨rfl, rfl, rfl, .inr ⟨rfl, rfl, rfl, rfl⟩⟩, rfl, trivial⟩ rfl
set_option maxHeartbeats 4000000 in
theorem composeE_fn (F : Fz) (sa sb : SA) (a b : List Stp) (p : Int) (ha : StepsAt F sa a) (hb : StepsAt F sb b) (la : a.length < 1000000) (lb : b.length < 1000000) :
    Fo Tryz.prog F 20 [.va (.int .i64 p), .va sa, .va sb] (fun o F' => ∃ sc, o = .ret (.tup [.va sc, .va (.int .i64 (compR p a b).2)]) ∧ StepsAt F' sc (compR p a b).1) := by
  have hva := valid_fn F sa a p ha la
  have hvb := valid_fn F sb b p hb lb
  have ha' := ha
  have hb' := hb
  obtain ⟨han, hab, hae, hac, haL, har, rfl, ha1, ha2, ha3, ha4⟩ := ha
  obtain ⟨hbn, hbb, hbe, hbc, hbL, hbr, rfl, hb1, hb2, hb3, hb4⟩ := hb
  refine fo_of hΘ Tryz.func20 rfl (by decide) _ _ rfl rfl rfl ?_
  conv => whnf
  refine usePu (hva) rfl (argsE_refl _) rfl ?_
  conv => whnf
  refine ⟨fun g => ?_, fun g => ?_⟩
  · have g1 : validS p a = true := by simpa using g
    refine usePu (hvb) rfl (argsE_refl _) rfl ?_
    conv => whnf
    refine br (fun g => ?_) (fun g => ?_)
    · have g2 : validS p b = false := not_t g
      have e : compR p a b = ([], 70) := by simp [compR, g2]
      conv => whnf
      exact endFo (.ret (.tup [.va (.slice true 0 0 0 2 0 0), .va (.int .i64 70)])) F rfl (Fz.le_refl F) (Fz.le_refl F) ⟨_, by rw [e], by rw [e]; exact Sl.nil⟩ ⟨⟨rfl, rfl, rfl⟩, rfl, trivial⟩ rfl
    · have g2 : validS p b = true := by simpa using g
      have e : compR p a b = (normS (a ++ b), 0) := by simp [compR, g1, g2]
      conv => whnf
      refine freezeC 1 (fun _ => .arr 22 1 [[.slice han 0 hab hae 2 a.length hac], [.slice hbn 0 hbb hbe 2 b.length hbc]] 2) rfl rfl rfl (fun _ _ => rfl) (fun _ _ => SB.bB_ok rfl) ?_
      intro b1 F1 l1 hb1
      refine useFo (normal2 F1 (b1 0) _ _ a b 2 2 (ha'.mono l1) (hb'.mono l1) (hb1 0 rfl) g1 g2) rfl (argsE_refl _) rfl ?_
      rintro _ F2 l2 ⟨sc, rfl, hsc⟩
      conv => whnf
      have hs := hsc
      obtain ⟨n2, b2, e2, c2, L2, r2, rfl, _⟩ := hs
      conv => whnf
      exact endFo (.ret (.tup [.va (.slice n2 0 b2 e2 2 (normS (a ++ b)).length c2), .va (.int .i64 0)])) F2 rfl (Fz.le_trans l1 l2) (Fz.le_refl F2) ⟨_, by rw [e], by rw [e]; exact hsc⟩ ⟨⟨rfl, rfl, rfl, .inr ⟨rfl, rfl, rfl, rfl⟩⟩, rfl, trivial⟩ rfl
  · have g1 : validS p a = false := not_t g
    have e : compR p a b = ([], 70) := by simp [compR, g1]
    conv => whnf
    exact endFo (.ret (.tup [.va (.slice true 0 0 0 2 0 0), .va (.int .i64 70)])) F rfl (Fz.le_refl F) (Fz.le_refl F) ⟨_, by rw [e], by rw [e]; exact Sl.nil⟩ ⟨⟨rfl, rfl, rfl⟩, rfl, trivial⟩ rfl
set_option maxHeartbeats 4000000 in
theorem coarserE_fn (F : Fz) (sa sb : SA) (a b : List Stp) (p : Int) (ha : StepsAt F sa a) (hb : StepsAt F sb b) (la : a.length < 1000000) (lb : b.length < 1000000) :
    Fo Tryz.prog F 22 [.va (.int .i64 p), .va sa, .va sb] (fun o F' => o = .ret (.va (.bool (coarS p a b)))) := by
  have hva := valid_fn F sa a p ha la
  have hvb := valid_fn F sb b p hb lb
  have ha' := ha
  have hb' := hb
  have fin : ∀ (x : Bool) (F1 : Fz) (h : Hp) (nx : Nat), coarS p a b = x → Fz.le F F1 → lget h 0 = some (.frz F1) → Cln 1 (FoK F fun o F' => o = .ret (.va (.bool (coarS p a b)))) (.ret (.va (.bool x))) h nx :=
    fun x F1 h nx hx hle h0 => endFo (.ret (.va (.bool x))) F1 h0 hle (Fz.le_refl F1) (by rw [hx]) rfl rfl
  have finl : ∀ (x : Bool) (F1 : Fz) (h : Hp) (nx : Nat), coarS p a b = x → Fz.le F F1 → lget h 0 = some (.frz F1) → Cln 1 (FoK F fun o F' => o = .ret (.va (.bool (coarS p a b)))) (.ret (.va (.lit x))) h nx :=
    fun x F1 h nx hx hle h0 => endFo (.ret (.va (.bool x))) F1 h0 hle (Fz.le_refl F1) (by rw [hx]) rfl rfl
  obtain ⟨han, hab, hae, hac, haL, har, rfl, ha1, ha2, ha3, ha4⟩ := ha
  obtain ⟨hbn, hbb, hbe, hbc, hbL, hbr, rfl, hb1, hb2, hb3, hb4⟩ := hb
  refine fo_of hΘ Tryz.func22 rfl (by decide) _ _ rfl rfl rfl ?_
  conv => whnf
  refine usePu (hva) rfl (argsE_refl _) rfl ?_
  conv => whnf
  refine ⟨fun g => ?_, fun g => ?_⟩
  · have g1 : validS p a = true := by simpa using g
    refine usePu (hvb) rfl (argsE_refl _) rfl ?_
    conv => whnf
    refine br (fun g => ?_) (fun g => ?_)
    · have g2 : validS p b = false := not_t g
      conv => whnf
      exact fin _ F _ _ (by simp [coarS, g2]) (Fz.le_refl F) rfl
    · have g2 : validS p b = true := by simpa using g
      have e : coarS p a b = if lostS (normS a) = true ∨ lostS (normS b) = true then lostS (normS a) else if p = 6 ∨ p = 7 then decide ((normS b).length ≤ (normS a).length) else decide (normS (b ++ a) = normS a) := by simp [coarS, g1, g2]
      conv => whnf
      refine freezeC 1 (fun _ => .arr 22 1 [[.slice han 0 hab hae 2 a.length hac]] 1) rfl rfl rfl (fun _ _ => rfl) (fun _ _ => SB.bB_ok rfl) ?_
      intro b1 F1 l1 hb1
      refine useFo (normal1 F1 (b1 0) _ a 1 1 (ha'.mono l1) (hb1 0 rfl) g1) rfl (argsE_refl _) rfl ?_
      rintro _ F2 l2 ⟨sc, rfl, hsc⟩
      conv => whnf
      have hs := hsc
      obtain ⟨xn, xb, xe, xc, xL, xr, rfl, _⟩ := hs
      conv => whnf
      refine freezeC 2 (fun _ => .arr 22 1 [[.slice hbn 0 hbb hbe 2 b.length hbc]] 1) rfl rfl rfl (fun _ _ => rfl) (fun _ _ => SB.bB_ok rfl) ?_
      intro b3 F3 l3 hb3
      refine useFo (normal1 F3 (b3 0) _ b 1 1 (hb'.mono (Fz.le_trans l1 (Fz.le_trans l2 l3))) (hb3 0 rfl) g2) rfl (argsE_refl _) rfl ?_
      rintro _ F4 l4 ⟨sd, rfl, hsd⟩
      conv => whnf
      have hs2 := hsd
      obtain ⟨yn, yb, ye, yc, yL, yr, rfl, _⟩ := hs2
      have m4 := Fz.le_trans l1 (Fz.le_trans l2 (Fz.le_trans l3 l4))
      have hsc4 := hsc.mono (Fz.le_trans l3 l4)
      conv => whnf
      refine usePu (lost_fn F4 _ (normS a) hsc4) rfl (argsE_refl _) rfl ?_
      conv => whnf
      refine ⟨fun gx => ?_, fun gx => ?_⟩
      · replace gx : lostS (normS a) = false := gx
        refine usePu (lost_fn F4 _ (normS b) hsd) rfl (argsE_refl _) rfl ?_
        conv => whnf
        refine br (fun gy => ?_) (fun gy => ?_)
        · replace gy : lostS (normS b) = true := gy
          conv => whnf
          refine usePu (lost_fn F4 _ (normS a) hsc4) rfl (argsE_refl _) rfl ?_
          conv => whnf
          exact fin _ F4 _ _ (by rw [e, if_pos (.inr gy)]) m4 rfl
        · replace gy : lostS (normS b) = false := gy
          conv => whnf
          refine ⟨fun g6 => ?_, fun g6 => ?_⟩
          · have g6' : ¬ p = 6 := by simpa using g6
            conv => whnf
            refine br (fun g7 => ?_) (fun g7 => ?_)
            · have g7' : p = 7 := by simpa using g7
              conv => whnf
              refine fin _ F4 _ _ ?_ m4 rfl
              have e2 : coarS p a b = decide ((normS b).length ≤ (normS a).length) := by rw [e, if_neg (by rw [gx, gy]; simp), if_pos (by exact .inr g7')]
              rw [e2]
              exact decide_eq_decide.2 (by omega)
            · have g7' : ¬ p = 7 := by simpa using g7
              have e2 : coarS p a b = decide (normS (b ++ a) = normS a) := by rw [e, if_neg (by rw [gx, gy]; simp), if_neg (by simp [g6', g7'])]
              conv => whnf
              refine freezeC 3 (fun _ => .arr 22 1 [[.slice hbn 0 hbb hbe 2 b.length hbc], [.slice han 0 hab hae 2 a.length hac]] 2) rfl rfl rfl (fun _ _ => rfl) (fun _ _ => SB.bB_ok rfl) ?_
              intro b5 F5 l5 hb5
              refine useFo (normal2 F5 (b5 0) _ _ b a 2 2 (hb'.mono (Fz.le_trans m4 l5)) (ha'.mono (Fz.le_trans m4 l5)) (hb5 0 rfl) g2 g1) rfl (argsE_refl _) rfl ?_
              rintro _ F6 l6 ⟨se, rfl, hse⟩
              conv => whnf
              have hs3 := hse
              obtain ⟨zn, zb, ze, zc, zL, zr, rfl, _⟩ := hs3
              have m6 := Fz.le_trans m4 (Fz.le_trans l5 l6)
              conv => whnf
              refine freezeC 4 (fun _ => .arr 22 1 [[.slice han 0 hab hae 2 a.length hac]] 1) rfl rfl rfl (fun _ _ => rfl) (fun _ _ => SB.bB_ok rfl) ?_
              intro b7 F7 l7 hb7
              refine useFo (normal1 F7 (b7 0) _ a 1 1 (ha'.mono (Fz.le_trans m6 l7)) (hb7 0 rfl) g1) rfl (argsE_refl _) rfl ?_
              rintro _ F8 l8 ⟨sf, rfl, hsf⟩
              conv => whnf
              have hs4 := hsf
              obtain ⟨wn, wb, we, wc, wL, wr, rfl, _⟩ := hs4
              have hse8 := hse.mono (Fz.le_trans l7 l8)
              have hll : (normS (b ++ a)).length < 1000000 := Nat.lt_of_le_of_lt (normS_len _) (by omega)
              conv => whnf
              refine usePu (equal_fn F8 _ _ (normS (b ++ a)) (normS a) hse8 hsf hll) rfl (argsE_refl _) rfl ?_
              conv => whnf
              exact fin _ F8 _ _ e2 (Fz.le_trans m6 (Fz.le_trans l7 l8)) rfl
          · have g6' : p = 6 := by simpa using g6
            conv => whnf
            refine fin _ F4 _ _ ?_ m4 rfl
            have e2 : coarS p a b = decide ((normS b).length ≤ (normS a).length) := by rw [e, if_neg (by rw [gx, gy]; simp), if_pos (by exact .inl g6')]
            rw [e2]
            exact decide_eq_decide.2 (by omega)
      · replace gx : lostS (normS a) = true := gx
        conv => whnf
        refine usePu (lost_fn F4 _ (normS a) hsc4) rfl (argsE_refl _) rfl ?_
        conv => whnf
        exact fin _ F4 _ _ (by rw [e, if_pos (.inl gx)]) m4 rfl
  · have g1 : validS p a = false := not_t g
    conv => whnf
    exact fin _ F _ _ (by simp [coarS, g1]) (Fz.le_refl F) rfl
end Go.Proofs.YtblllibdahkgfaaGreatDoor

namespace Go.Proofs.YtblllibdahkgfaaGreatDoor
open Go Sx
set_option maxRecDepth 100000
end Go.Proofs.YtblllibdahkgfaaGreatDoor

namespace Go.Proofs.YtblllibdahkgfaaGreatDoor
open Go Sx
set_option maxRecDepth 100000
theorem foldl_mn (r : List Int) : ∀ x : Int, (r.foldl (fun m x => if x < m then x else m) x ∈ x :: r) ∧ ∀ y ∈ x :: r, r.foldl (fun m x => if x < m then x else m) x ≤ y := by
  induction r with
  | nil => intro x; simp
  | cons a r ih =>
    intro x
    obtain ⟨h1, h2⟩ := ih (if a < x then a else x)
    simp only [List.foldl_cons]
    refine ⟨?_, ?_⟩
    · rcases List.mem_cons.1 h1 with h | h
      · rw [h]; split <;> simp
      · exact List.mem_cons_of_mem _ (List.mem_cons_of_mem _ h)
    · intro y hy
      have h3 := h2 _ List.mem_cons_self
      rcases List.mem_cons.1 hy with rfl | hy
      · refine Int.le_trans h3 ?_; split <;> omega
      · rcases List.mem_cons.1 hy with rfl | hy
        · refine Int.le_trans h3 ?_; split <;> omega
        · exact h2 y (List.mem_cons_of_mem _ hy)
theorem foldl_mx (r : List Int) : ∀ x : Int, (r.foldl (fun m x => if x > m then x else m) x ∈ x :: r) ∧ ∀ y ∈ x :: r, y ≤ r.foldl (fun m x => if x > m then x else m) x := by
  induction r with
  | nil => intro x; simp
  | cons a r ih =>
    intro x
    obtain ⟨h1, h2⟩ := ih (if a > x then a else x)
    simp only [List.foldl_cons]
    refine ⟨?_, ?_⟩
    · rcases List.mem_cons.1 h1 with h | h
      · rw [h]; split <;> simp
      · exact List.mem_cons_of_mem _ (List.mem_cons_of_mem _ h)
    · intro y hy
      have h3 := h2 _ List.mem_cons_self
      rcases List.mem_cons.1 hy with rfl | hy
      · refine Int.le_trans ?_ h3; split <;> omega
      · rcases List.mem_cons.1 hy with rfl | hy
        · refine Int.le_trans ?_ h3; split <;> omega
        · exact h2 y (List.mem_cons_of_mem _ hy)
theorem mn_mem {s : List Int} (h : s ≠ []) : mn s ∈ s := by
  cases s with
  | nil => exact absurd rfl h
  | cons x r => exact (foldl_mn r x).1
theorem mn_le {s : List Int} {y : Int} (h : y ∈ s) : mn s ≤ y := by
  cases s with
  | nil => cases h
  | cons x r => exact (foldl_mn r x).2 y h
theorem mx_mem {s : List Int} (h : s ≠ []) : mx s ∈ s := by
  cases s with
  | nil => exact absurd rfl h
  | cons x r => exact (foldl_mx r x).1
theorem le_mx {s : List Int} {y : Int} (h : y ∈ s) : y ≤ mx s := by
  cases s with
  | nil => cases h
  | cons x r => exact (foldl_mx r x).2 y h
theorem mn_eq {s : List Int} {m : Int} (h : m ∈ s) (hl : ∀ y ∈ s, m ≤ y) : mn s = m :=
  Int.le_antisymm (mn_le h) (hl _ (mn_mem (by intro e; rw [e] at h; cases h)))
theorem mx_eq {s : List Int} {m : Int} (h : m ∈ s) (hl : ∀ y ∈ s, y ≤ m) : mx s = m :=
  Int.le_antisymm (hl _ (mx_mem (by intro e; rw [e] at h; cases h))) (le_mx h)
theorem sel_app (κ : Int) (a b : List Stp) : sel κ (a ++ b) = sel κ a ++ sel κ b := by simp [sel]
theorem mem_sel {κ ν : Int} {l : List Stp} : ν ∈ sel κ l ↔ (κ, ν) ∈ l := by
  simp only [sel, List.mem_map, List.mem_filter, decide_eq_true_eq]
  constructor
  · rintro ⟨⟨k, n⟩, ⟨h1, h2⟩, h3⟩; simp only at h2 h3; subst h2; subst h3; exact h1
  · intro h; exact ⟨(κ, ν), ⟨h, rfl⟩, rfl⟩
theorem valid_ok {p : Int} {l : List Stp} (h : validS p l = true) : ∀ s ∈ l, stepOk p s = true := by
  simp only [validS, Bool.and_eq_true] at h
  exact fun s hs => List.all_eq_true.1 h.2.2 s hs
theorem valid_p {p : Int} {l : List Stp} (h : validS p l = true) : 1 ≤ p ∧ p ≤ 8 := by
  simp only [validS, Bool.and_eq_true, decide_eq_true_eq] at h; exact h.1
theorem valid_of {p : Int} {l : List Stp} (hp : 1 ≤ p ∧ p ≤ 8) (hl : l.length ≤ 64) (h : ∀ s ∈ l, stepOk p s = true) : validS p l = true := by
  simp only [validS, Bool.and_eq_true, decide_eq_true_eq]; exact ⟨hp, hl, List.all_eq_true.2 h⟩
theorem ok_zero {p κ ν : Int} (h : stepOk p (κ, ν) = true) (hκ : κ ≠ 3 ∧ κ ≠ 4) : ν = 0 := by
  simp only [stepOk, numOk, hκ.1, hκ.2, if_false, Bool.and_eq_true, decide_eq_true_eq] at h; exact h.2.2
theorem mem_piece {κ : Int} {s : List Int} {t : Stp} (h : t ∈ piece κ s) : t.1 = κ ∧ t.2 ∈ s := by
  unfold piece at h
  split at h
  · cases h
  · rename_i hs
    split at h
    · rename_i h3; simp only [List.mem_singleton] at h; subst h; exact ⟨h3.symm, mx_mem hs⟩
    · split at h
      · rename_i h5
        simp only [List.mem_map] at h
        obtain ⟨n, hn, rfl⟩ := h
        exact ⟨h5.symm, List.mem_of_mem_take hn⟩
      · simp only [List.mem_singleton] at h; subst h; exact ⟨rfl, mn_mem hs⟩
def cut (κ : Int) (s : List Int) : List Int := (piece κ s).map (·.2)
theorem sel_piece (κ κ' : Int) (s : List Int) : sel κ (piece κ' s) = if κ' = κ then cut κ s else [] := by
  have h1 : ∀ t ∈ piece κ' s, t.1 = κ' := fun t ht => (mem_piece ht).1
  split
  · rename_i h; subst h
    unfold sel cut
    rw [List.filter_eq_self.2 (fun t ht => by simp [h1 t ht])]
  · rename_i h
    unfold sel
    rw [List.filter_eq_nil_iff.2 (fun t ht => by simp [h1 t ht, h])]; rfl
theorem sel_norm {l : List Stp} (h6 : sel 6 l = []) (κ : Int) (hκ : κ = 1 ∨ κ = 2 ∨ κ = 3 ∨ κ = 4 ∨ κ = 5 ∨ κ = 6) : sel κ (normS l) = if κ = 6 then [] else cut κ (sel κ l) := by
  unfold normS; rw [if_pos h6]
  simp only [pieces, List.flatten_cons, List.flatten_nil, List.nil_append, List.append_nil, sel_app, sel_piece]
  rcases hκ with rfl | rfl | rfl | rfl | rfl | rfl <;> simp
theorem cut_nil (κ : Int) : cut κ [] = [] := rfl
theorem cut_eq_nil {κ : Int} {s : List Int} : cut κ s = [] ↔ s = [] := by
  constructor
  · intro h
    apply Classical.byContradiction; intro hs
    unfold cut piece at h
    rw [if_neg hs] at h
    split at h
    · cases h
    · split at h
      · simp at h; exact hs h
      · cases h
  · rintro rfl; rfl
theorem piece_cut {κ : Int} (s t : List Int) : piece κ (cut κ s ++ cut κ t) = piece κ (s ++ t) := by
  by_cases hs : s = []
  · subst hs
    rw [cut_nil, List.nil_append, List.nil_append]
    by_cases ht : t = []
    · subst ht; rfl
    · have hc : ¬ cut κ t = [] := fun h => ht (cut_eq_nil.1 h)
      by_cases h3 : κ = 3
      · simp [piece, cut, ht, h3, mx]
      · by_cases h5 : κ = 5
        · subst h5; simp [piece, cut, ht, List.map_map, Function.comp_def, List.take_take]
        · simp [piece, cut, ht, h3, h5, mn]
  · by_cases ht : t = []
    · subst ht
      rw [cut_nil, List.append_nil, List.append_nil]
      by_cases h3 : κ = 3
      · simp [piece, cut, hs, h3, mx]
      · by_cases h5 : κ = 5
        · subst h5; simp [piece, cut, hs, List.map_map, Function.comp_def, List.take_take]
        · simp [piece, cut, hs, h3, h5, mn]
    · by_cases h3 : κ = 3
      · subst h3
        have e : mx (s ++ t) = mx ([mx s] ++ [mx t]) := by
          refine mx_eq ?_ ?_
          · rcases List.mem_cons.1 (mx_mem (s := [mx s] ++ [mx t]) (by simp)) with h | h
            · rw [h]; exact List.mem_append_left _ (mx_mem hs)
            · rw [List.mem_singleton.1 h]; exact List.mem_append_right _ (mx_mem ht)
          · intro y hy
            rcases List.mem_append.1 hy with h | h
            · exact Int.le_trans (le_mx h) (le_mx (by simp))
            · exact Int.le_trans (le_mx h) (le_mx (by simp))
        simp [piece, cut, hs, ht, e]
      · by_cases h5 : κ = 5
        · subst h5
          have c5 : ∀ s : List Int, s ≠ [] → cut 5 s = s.take 5 := fun s hs => by simp [cut, piece, hs, List.map_map, Function.comp_def]
          rw [c5 s hs, c5 t ht]
          have e : ∀ u : List Int, u ≠ [] → piece 5 u = (u.take 5).map (fun n => ((5 : Int), n)) := fun u hu => by simp [piece, hu]
          rw [e _ (by simp [hs]), e _ (by simp [hs])]
          congr 1
          rw [List.take_append, List.take_append, List.take_take, List.take_take, List.length_take]
          congr 2
          omega
        · have e : mn (s ++ t) = mn ([mn s] ++ [mn t]) := by
            refine mn_eq ?_ ?_
            · rcases List.mem_cons.1 (mn_mem (s := [mn s] ++ [mn t]) (by simp)) with h | h
              · rw [h]; exact List.mem_append_left _ (mn_mem hs)
              · rw [List.mem_singleton.1 h]; exact List.mem_append_right _ (mn_mem ht)
            · intro y hy
              rcases List.mem_append.1 hy with h | h
              · exact Int.le_trans (mn_le (by simp)) (mn_le h)
              · exact Int.le_trans (mn_le (by simp)) (mn_le h)
          simp [piece, cut, hs, ht, h3, h5, e]
theorem normS_no {l : List Stp} (h : sel 6 l = []) : normS l = (pieces (sel 1 l) (sel 2 l) (sel 3 l) (sel 4 l) (sel 5 l)).flatten := if_pos h
theorem normS_yes {l : List Stp} (h : sel 6 l ≠ []) : normS l = [(6, 0)] := if_neg h
theorem sel_lost : sel 6 [((6 : Int), (0 : Int))] = [0] := rfl
theorem norm_norm (a b : List Stp) : normS (normS a ++ normS b) = normS (a ++ b) := by
  by_cases ha : sel 6 a = []
  · by_cases hb : sel 6 b = []
    · have h6 : sel 6 (normS a ++ normS b) = [] := by rw [sel_app, sel_norm ha 6 (by simp), sel_norm hb 6 (by simp)]; rfl
      have h6' : sel 6 (a ++ b) = [] := by rw [sel_app, ha, hb]; rfl
      have e : ∀ κ, (κ = 1 ∨ κ = 2 ∨ κ = 3 ∨ κ = 4 ∨ κ = 5 ∨ κ = 6) → κ ≠ 6 → piece κ (sel κ (normS a ++ normS b)) = piece κ (sel κ (a ++ b)) := fun κ hκ hne => by
        rw [sel_app, sel_app, sel_norm ha κ hκ, sel_norm hb κ hκ, if_neg hne, if_neg hne, piece_cut]
      rw [normS_no h6, normS_no h6', pieces, pieces, e 1 (by simp) (by decide), e 2 (by simp) (by decide), e 3 (by simp) (by decide), e 4 (by simp) (by decide), e 5 (by simp) (by decide)]
    · rw [normS_yes hb, normS_yes (l := normS a ++ [(6, 0)]) (by rw [sel_app, sel_lost]; simp), normS_yes (l := a ++ b) (by rw [sel_app]; simp [hb])]
  · rw [normS_yes ha, normS_yes (l := [(6, 0)] ++ normS b) (by rw [sel_app, sel_lost]; simp), normS_yes (l := a ++ b) (by rw [sel_app]; simp [ha])]
end Go.Proofs.YtblllibdahkgfaaGreatDoor

namespace Go.Proofs.YtblllibdahkgfaaGreatDoor
open Go Sx
set_option maxRecDepth 100000
end Go.Proofs.YtblllibdahkgfaaGreatDoor

namespace Go.Proofs.YtblllibdahkgfaaGreatDoor
open Go Sx
set_option maxRecDepth 100000
def behind (a : List Stp) : List (List Stp) := [a, [(6, 0)], [], [(5, 0)], [(5, 0), (5, 0)], [(5, 0), (5, 0), (5, 0)], [(5, 0), (5, 0), (5, 0), (5, 0)], [(5, 0), (5, 0), (5, 0), (5, 0), (5, 0)]]
def rtry (p : Int) (a b c : List Stp) : Bool := decide ((compR p b c).2 = 0) && decide ((compR p b c).1 = (normR p a).1)
def rcoarS (p : Int) (a b : List Stp) : Bool := if validS p a = true then (behind a).any (rtry p a b) else false
end Go.Proofs.YtblllibdahkgfaaGreatDoor

namespace Go.Proofs.YtblllibdahkgfaaGreatDoor
open Go Sx
set_option maxRecDepth 100000
theorem lost_sel {l : List Stp} (h : lostS l = true) : sel 6 l ≠ [] := by
  match l, h with
  | [x], h =>
    have : x.1 = 6 := by simpa [lostS] using h
    simp [sel, this]
theorem lost_no {l : List Stp} (h : sel 6 l = []) : lostS (normS l) = false := by
  cases hl : lostS (normS l) with
  | false => rfl
  | true =>
    have := lost_sel hl
    rw [sel_norm h 6 (by simp)] at this
    exact absurd rfl this
theorem lost_yes {l : List Stp} (h : sel 6 l ≠ []) : lostS (normS l) = true := by rw [normS_yes h]; rfl
theorem norm_ne {a l : List Stp} (ha : sel 6 a = []) (hl : sel 6 l ≠ []) : normS l ≠ normS a := by
  intro e
  have h1 := lost_no ha
  rw [← e, lost_yes hl] at h1; cases h1
theorem ok_kind {p : Int} {s : Stp} (h : stepOk p s = true) : 0 ≤ idx p (props s.1) 0 := by
  simp only [stepOk, Bool.and_eq_true, decide_eq_true_eq] at h; exact h.2.1
theorem half_all {p : Int} {l : List Stp} (hv : validS p l = true) (hp : p = 6 ∨ p = 7) (h6 : sel 6 l = []) : ∀ s ∈ l, s = (5, 0) := by
  intro s hs
  have h1 := valid_ok hv s hs
  obtain ⟨κ, ν⟩ := s
  have hk := valid_kinds hv _ hs
  have h2 := ok_kind h1
  simp only at hk h2
  have hcs : κ = 1 ∨ κ = 2 ∨ κ = 3 ∨ κ = 4 ∨ κ = 5 ∨ κ = 6 := by omega
  have n6 : κ ≠ 6 := by
    rintro rfl
    have := mem_sel.2 hs
    rw [h6] at this; cases this
  have k5 : κ = 5 := by
    rcases hp with rfl | rfl <;> rcases hcs with rfl | rfl | rfl | rfl | rfl | rfl <;> first | rfl | (exfalso; revert h2; decide) | exact absurd rfl n6
  subst k5
  rw [ok_zero h1 (by decide)]
theorem half_rep {p : Int} {l : List Stp} (hv : validS p l = true) (hp : p = 6 ∨ p = 7) (h6 : sel 6 l = []) : l = List.replicate l.length (5, 0) :=
  List.eq_replicate_of_mem (half_all hv hp h6)
theorem sel_rep (κ : Int) (n : Nat) : sel κ (List.replicate n ((5 : Int), (0 : Int))) = if κ = 5 then List.replicate n 0 else [] := by
  unfold sel
  split
  · rename_i h; subst h; rw [List.filter_eq_self.2 (fun t ht => by rw [List.eq_of_mem_replicate ht]; simp)]; simp
  · rename_i h; rw [List.filter_eq_nil_iff.2 (fun t ht => by rw [List.eq_of_mem_replicate ht]; simp; exact fun e => h e.symm)]; rfl
theorem norm_rep (n : Nat) : normS (List.replicate n ((5 : Int), (0 : Int))) = List.replicate (min n 5) (5, 0) := by
  rw [normS_no (by rw [sel_rep]; rfl)]
  have e : piece 5 (List.replicate n 0) = List.replicate (min n 5) (5, 0) := by
    cases n with
    | zero => rfl
    | succ n =>
      have : ¬ List.replicate (n + 1) (0 : Int) = [] := by simp
      have e1 : piece 5 (List.replicate (n + 1) 0) = ((List.replicate (n + 1) (0 : Int)).take 5).map (fun m => ((5 : Int), m)) := by rw [piece, if_neg this]; rfl
      rw [e1, List.take_replicate, List.map_replicate, Nat.min_comm]
  simp only [sel_rep, pieces]
  simp only [show ¬ ((1 : Int) = 5) by decide, show ¬ ((2 : Int) = 5) by decide, show ¬ ((3 : Int) = 5) by decide, show ¬ ((4 : Int) = 5) by decide, if_false, if_true, e]
  simp [piece]
theorem rep_behind (a : List Stp) (k : Nat) (hk : k ≤ 5) : List.replicate k ((5 : Int), (0 : Int)) ∈ behind a := by
  have : k = 0 ∨ k = 1 ∨ k = 2 ∨ k = 3 ∨ k = 4 ∨ k = 5 := by omega
  rcases this with rfl | rfl | rfl | rfl | rfl | rfl <;> simp [behind, List.replicate]
theorem mn_twice {s : List Int} (h : s ≠ []) : mn (s ++ s) = mn s := mn_eq (List.mem_append_left _ (mn_mem h)) fun y hy => by rcases List.mem_append.1 hy with h | h <;> exact mn_le h
theorem mx_twice {s : List Int} (h : s ≠ []) : mx (s ++ s) = mx s := mx_eq (List.mem_append_left _ (mx_mem h)) fun y hy => by rcases List.mem_append.1 hy with h | h <;> exact le_mx h
theorem piece_twice {κ : Int} (h5 : κ ≠ 5) (s : List Int) : piece κ (s ++ s) = piece κ s := by
  by_cases hs : s = []
  · subst hs; rfl
  · by_cases h3 : κ = 3
    · simp [piece, hs, h3, mx_twice hs]
    · simp [piece, hs, h3, h5, mn_twice hs]
theorem no_half {p : Int} {l : List Stp} (hv : validS p l = true) (hp : ¬ (p = 6 ∨ p = 7)) : sel 5 l = [] := by
  apply Classical.byContradiction; intro h
  obtain ⟨ν, hν⟩ := List.exists_mem_of_ne_nil _ h
  have h1 := ok_kind (valid_ok hv _ (mem_sel.1 hν))
  have h2 := idx67 p
  rw [show props (5, ν).1 = [6, 7] from rfl] at h1
  have h3 : decide (0 ≤ idx p [6, 7] 0) = true := by simpa using h1
  rw [h2] at h3; simp at h3; exact hp h3
theorem norm_twice {p : Int} {a : List Stp} (hv : validS p a = true) (hp : ¬ (p = 6 ∨ p = 7)) (h6 : sel 6 a = []) : normS (a ++ a) = normS a := by
  have h5 := no_half hv hp
  rw [normS_no (l := a ++ a) (by rw [sel_app, h6]; rfl), normS_no h6]
  simp only [sel_app, pieces, h5, List.append_nil]
  rw [piece_twice (by decide), piece_twice (by decide), piece_twice (by decide), piece_twice (by decide)]
theorem lost_valid {p : Int} (hp : 1 ≤ p ∧ p ≤ 8) : validS p [(6, 0)] = true := by
  refine valid_of hp (by simp) fun s hs => ?_
  simp only [List.mem_singleton] at hs; subst hs
  have := idx18 p hp
  simp only [stepOk, props, numOk]
  simpa using this
theorem rep_valid {p : Int} (hp : p = 6 ∨ p = 7) (k : Nat) (hk : k ≤ 5) : validS p (List.replicate k (5, 0)) = true := by
  refine valid_of (by omega) (by simp; omega) fun s hs => ?_
  rw [List.eq_of_mem_replicate hs]
  rcases hp with rfl | rfl <;> decide
theorem rep_invalid {p : Int} (hp : ¬ (p = 6 ∨ p = 7)) (k : Nat) : validS p (List.replicate (k + 1) (5, 0)) ≠ true := by
  intro h
  have := no_half h hp
  rw [sel_rep] at this; simp at this
theorem rcoar_iff {p : Int} {a b : List Stp} (ha : validS p a = true) (hb : validS p b = true) : rcoarS p a b = true ↔ ∃ c ∈ behind a, validS p c = true ∧ normS (b ++ c) = normS a := by
  rw [rcoarS, if_pos ha, List.any_eq_true]
  have e : ∀ c, rtry p a b c = true ↔ validS p c = true ∧ normS (b ++ c) = normS a := fun c => by
    simp only [rtry, compR, normR, ha, hb, if_true, true_and]
    by_cases hc : validS p c = true <;> simp [hc]
  constructor
  · rintro ⟨c, h1, h2⟩; exact ⟨c, h1, (e c).1 h2⟩
  · rintro ⟨c, h1, h2⟩; exact ⟨c, h1, (e c).2 h2⟩
theorem rcoar_eq (p : Int) (a b : List Stp) : rcoarS p a b = coarS p a b := by
  by_cases ha : validS p a = true
  case neg => rw [rcoarS, coarS, if_neg ha, if_neg (fun h => ha h.1)]
  by_cases hb : validS p b = true
  case neg =>
    rw [coarS, if_neg (fun h => hb h.2), rcoarS, if_pos ha]
    refine List.any_eq_false.2 fun c _ => ?_
    simp [rtry, compR, hb]
  have hp8 := valid_p ha
  rw [Bool.eq_iff_iff, rcoar_iff ha hb, coarS, if_pos ⟨ha, hb⟩]
  by_cases h6a : sel 6 a = []
  case neg =>
    rw [if_pos (.inl (lost_yes h6a)), lost_yes h6a]
    refine ⟨fun _ => rfl, fun _ => ⟨[(6, 0)], by simp [behind], lost_valid hp8, ?_⟩⟩
    rw [normS_yes h6a, normS_yes (by rw [sel_app, sel_lost]; simp)]
  have la := lost_no h6a
  by_cases h6b : sel 6 b = []
  case neg =>
    rw [if_pos (.inr (lost_yes h6b)), la]
    refine ⟨?_, (fun h => by cases h)⟩
    rintro ⟨c, _, _, h⟩
    exact absurd h (norm_ne h6a (by rw [sel_app]; simp [h6b]))
  have lb := lost_no h6b
  rw [if_neg (by rw [la, lb]; simp)]
  by_cases hp : p = 6 ∨ p = 7
  · rw [if_pos hp, decide_eq_true_eq]
    have ea := half_rep ha hp h6a
    have eb := half_rep hb hp h6b
    have na : normS a = List.replicate (min a.length 5) (5, 0) := by rw [ea, norm_rep, List.length_replicate]
    have nb : normS b = List.replicate (min b.length 5) (5, 0) := by rw [eb, norm_rep, List.length_replicate]
    have nbc : ∀ n, normS (b ++ List.replicate n (5, 0)) = List.replicate (min (b.length + n) 5) (5, 0) := fun n => by
      have h1 : b ++ List.replicate n ((5 : Int), (0 : Int)) = List.replicate (b.length + n) (5, 0) := by
        rw [← List.replicate_append_replicate, ← eb]
      rw [h1, norm_rep]
    rw [na, nb, List.length_replicate, List.length_replicate]
    constructor
    · rintro ⟨c, _, hc, h⟩
      have h6c : sel 6 c = [] := by
        apply Classical.byContradiction; intro hc6
        exact norm_ne h6a (l := b ++ c) (by rw [sel_app]; simp [hc6]) (by rw [h, na])
      have ec := half_rep hc hp h6c
      rw [ec, nbc] at h
      have := congrArg List.length h
      rw [List.length_replicate, List.length_replicate] at this
      omega
    · intro h
      refine ⟨List.replicate (min a.length 5 - min b.length 5) (5, 0), rep_behind a _ (by omega), rep_valid hp _ (by omega), ?_⟩
      rw [nbc]
      congr 1; omega
  · rw [if_neg hp, decide_eq_true_eq]
    constructor
    · rintro ⟨c, hc, hv, h⟩
      simp only [behind, List.mem_cons, List.not_mem_nil, or_false] at hc
      have bad : ∀ k, c = List.replicate (k + 1) (5, 0) → False := fun k e => rep_invalid hp k (by rw [← e]; exact hv)
      rcases hc with rfl | rfl | rfl | hc | hc | hc | hc | hc
      · exact h
      · exact absurd h (norm_ne h6a (by rw [sel_app, sel_lost]; simp))
      · rw [List.append_nil] at h
        rw [← norm_norm b a, h, norm_norm, norm_twice ha hp h6a]
      · exact (bad 0 hc).elim
      · exact (bad 1 hc).elim
      · exact (bad 2 hc).elim
      · exact (bad 3 hc).elim
      · exact (bad 4 hc).elim
    · intro h
      exact ⟨a, by simp [behind], ha, h⟩
end Go.Proofs.YtblllibdahkgfaaGreatDoor
