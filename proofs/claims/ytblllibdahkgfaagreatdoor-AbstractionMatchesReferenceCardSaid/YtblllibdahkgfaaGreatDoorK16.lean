import Derived.Test.YtblllibdahkgfaaGreatDoorK15

namespace Go.Proofs.YtblllibdahkgfaaGreatDoor
open Go Sx
set_option maxRecDepth 100000

theorem valid_kinds {p : Int} {l : List Stp} (h : validS p l = true) : ∀ s ∈ l, 1 ≤ s.1 ∧ s.1 ≤ 6 := by
  intro s hs
  simp only [validS, Bool.and_eq_true] at h
  have := List.all_eq_true.1 h.2.2 s hs
  simp only [stepOk, Bool.and_eq_true, decide_eq_true_eq] at this
  exact this.1
theorem valid_len {p : Int} {l : List Stp} (h : validS p l = true) : l.length ≤ 64 := by
  simp only [validS, Bool.and_eq_true, decide_eq_true_eq] at h; exact h.2.1

theorem stepsL1 {F : Fz} {b c c' : Nat} {a : SA} {l : List Stp} (ha : StepsAt F a l) (h : F b = some (.arr 22 1 [[a]] c)) : StepsL F (.slice false 0 b 0 1 1 c') [l] :=
  SlR.new (l := [l]) h rfl fun k x hx => by
    match k, hx with
    | 0, hx => simp at hx; subst hx; exact ⟨[a], rfl, a, rfl, ha⟩
theorem stepsL2 {F : Fz} {b c c' : Nat} {a a2 : SA} {l l2 : List Stp} (ha : StepsAt F a l) (ha2 : StepsAt F a2 l2) (h : F b = some (.arr 22 1 [[a], [a2]] c)) : StepsL F (.slice false 0 b 0 1 2 c') [l, l2] :=
  SlR.new (l := [l, l2]) h rfl fun k x hx => by
    match k, hx with
    | 0, hx => simp at hx; subst hx; exact ⟨[a], rfl, a, rfl, ha⟩
    | 1, hx => simp at hx; subst hx; exact ⟨[a2], rfl, a2, rfl, ha2⟩

/-- Normal, Compose, Coarser. -/
def normR (p : Int) (l : List Stp) : List Stp × Int := if validS p l = true then (normS l, 0) else ([], 70)
def compR (p : Int) (a b : List Stp) : List Stp × Int := if validS p a = true ∧ validS p b = true then (normS (a ++ b), 0) else ([], 70)
def coarS (p : Int) (a b : List Stp) : Bool :=
  if validS p a = true ∧ validS p b = true then
    if lostS (normS a) = true ∨ lostS (normS b) = true then lostS (normS a)
    else if p = 6 ∨ p = 7 then decide ((normS b).length ≤ (normS a).length) else decide (normS (b ++ a) = normS a)
  else false

theorem normS_len (l : List Stp) : (normS l).length ≤ 100 := by
  unfold normS; split
  · have := pieces_len (sel 1 l) (sel 2 l) (sel 3 l) (sel 4 l) (sel 5 l) 7
    exact this
  · simp
theorem normal1 (F : Fz) (b : Nat) (a : SA) (l : List Stp) (c c' : Nat) (ha : StepsAt F a l) (h : F b = some (.arr 22 1 [[a]] c)) {p : Int} (hv : validS p l = true) :
    Fo Tryz.prog F 38 [.va (.slice false 0 b 0 1 1 c')] (fun o F' => ∃ sc, o = .ret (.va sc) ∧ StepsAt F' sc (normS l)) := by
  have hl := valid_len hv
  have := normal_fn F _ [l] (stepsL1 (c' := c') ha h) (by simp) (by simp; omega) (by simpa using valid_kinds hv)
  rw [List.flatten_cons, List.flatten_nil, List.append_nil] at this
  exact this
theorem normal2 (F : Fz) (b : Nat) (a a2 : SA) (l l2 : List Stp) (c c' : Nat) (ha : StepsAt F a l) (ha2 : StepsAt F a2 l2) (h : F b = some (.arr 22 1 [[a], [a2]] c)) {p : Int} (hv : validS p l = true) (hv2 : validS p l2 = true) :
    Fo Tryz.prog F 38 [.va (.slice false 0 b 0 1 2 c')] (fun o F' => ∃ sc, o = .ret (.va sc) ∧ StepsAt F' sc (normS (l ++ l2))) := by
  have hl := valid_len hv
  have hl2 := valid_len hv2
  have := normal_fn F _ [l, l2] (stepsL2 (c' := c') ha ha2 h) (by simp) (by simp; omega) (by
    intro s hs
    simp only [List.flatten_cons, List.flatten_nil, List.append_nil, List.mem_append] at hs
    rcases hs with hs | hs
    · exact valid_kinds hv s hs
    · exact valid_kinds hv2 s hs)
  rw [List.flatten_cons, List.flatten_cons, List.flatten_nil, List.append_nil] at this
  exact this

set_option maxHeartbeats 2000000 in
theorem normalE_fn (F : Fz) (sa : SA) (l : List Stp) (p : Int) (ha : StepsAt F sa l) (hl : l.length < 1000000) :
    Fo Tryz.prog F 15 [.va (.int .i64 p), .va sa] (fun o F' => ∃ sc, o = .ret (.tup [.va sc, .va (.int .i64 (normR p l).2)]) ∧ StepsAt F' sc (normR p l).1) := by
  have hv := valid_fn F sa l p ha hl
  have ha' := ha
  obtain ⟨han, hab, hae, hac, haL, har, rfl, ha1, ha2, ha3, ha4⟩ := ha
  refine fo_of hΘ Tryz.func15 rfl (by decide) _ _ rfl rfl rfl ?_
  conv => whnf
  refine usePu (hv) rfl (argsE_refl _) rfl ?_
  conv => whnf
  refine br (fun g => ?_) (fun g => ?_)
  · have g1 : validS p l = false := not_t g
    have e : normR p l = ([], 70) := by simp [normR, g1]
    conv => whnf
    exact endFo (.ret (.tup [.va (.slice true 0 0 0 2 0 0), .va (.int .i64 70)])) F rfl (Fz.le_refl F) (Fz.le_refl F) ⟨_, by rw [e], by rw [e]; exact Sl.nil⟩ ⟨⟨rfl, rfl, rfl⟩, rfl, trivial⟩ rfl
  · have g1 : validS p l = true := by simpa using g
    have e : normR p l = (normS l, 0) := by simp [normR, g1]
    conv => whnf
    refine freezeC 1 (fun _ => .arr 22 1 [[.slice han 0 hab hae 2 l.length hac]] 1) rfl rfl rfl (fun _ _ => rfl) (fun _ _ => SB.bB_ok rfl) ?_
    intro b F1 l1 hb
    refine useFo (normal1 F1 (b 0) _ l 1 1 (ha'.mono l1) (hb 0 rfl) g1) rfl (argsE_refl _) rfl ?_
    rintro _ F2 l2 ⟨sc, rfl, hsc⟩
    conv => whnf
    have hs := hsc
    obtain ⟨n2, b2, e2, c2, L2, r2, rfl, _⟩ := hs
    conv => whnf
    exact endFo (.ret (.tup [.va (.slice n2 0 b2 e2 2 (normS l).length c2), .va (.int .i64 0)])) F2 rfl (Fz.le_trans l1 l2) (Fz.le_refl F2) ⟨_, by rw [e], by rw [e]; exact hsc⟩ ⟨⟨rfl, rfl, rfl, .inr ⟨rfl, rfl, rfl, rfl⟩⟩, rfl, trivial⟩ rfl

set_option maxHeartbeats 4000000 in
theorem composeE_fn (F : Fz) (sa sb : SA) (a b : List Stp) (p : Int) (ha : StepsAt F sa a) (hb : StepsAt F sb b) (la : a.length < 1000000) (lb : b.length < 1000000) :
    Fo Tryz.prog F 20 [.va (.int .i64 p), .va sa, .va sb] (fun o F' => ∃ sc, o = .ret (.tup [.va sc, .va (.int .i64 (compR p a b).2)]) ∧ StepsAt F' sc (compR p a b).1) := by
  have hva := valid_fn F sa a p ha la
  have hvb := valid_fn F sb b p hb lb
  have ha' := ha
  have hb' := hb
  obtain ⟨han, hab, hae, hac, haL, har, rfl, ha1, ha2, ha3, ha4⟩ := ha
  obtain ⟨hbn, hbb, hbe, hbc, hbL, hbr, rfl, hb1, hb2, hb3, hb4⟩ := hb
  refine fo_of hΘ Tryz.func20 rfl (by decide) _ _ rfl rfl rfl ?_
  conv => whnf
  refine usePu (hva) rfl (argsE_refl _) rfl ?_
  conv => whnf
  refine ⟨fun g => ?_, fun g => ?_⟩
  · have g1 : validS p a = true := by simpa using g
    refine usePu (hvb) rfl (argsE_refl _) rfl ?_
    conv => whnf
    refine br (fun g => ?_) (fun g => ?_)
    · have g2 : validS p b = false := not_t g
      have e : compR p a b = ([], 70) := by simp [compR, g2]
      conv => whnf
      exact endFo (.ret (.tup [.va (.slice true 0 0 0 2 0 0), .va (.int .i64 70)])) F rfl (Fz.le_refl F) (Fz.le_refl F) ⟨_, by rw [e], by rw [e]; exact Sl.nil⟩ ⟨⟨rfl, rfl, rfl⟩, rfl, trivial⟩ rfl
    · have g2 : validS p b = true := by simpa using g
      have e : compR p a b = (normS (a ++ b), 0) := by simp [compR, g1, g2]
      conv => whnf
      refine freezeC 1 (fun _ => .arr 22 1 [[.slice han 0 hab hae 2 a.length hac], [.slice hbn 0 hbb hbe 2 b.length hbc]] 2) rfl rfl rfl (fun _ _ => rfl) (fun _ _ => SB.bB_ok rfl) ?_
      intro b1 F1 l1 hb1
      refine useFo (normal2 F1 (b1 0) _ _ a b 2 2 (ha'.mono l1) (hb'.mono l1) (hb1 0 rfl) g1 g2) rfl (argsE_refl _) rfl ?_
      rintro _ F2 l2 ⟨sc, rfl, hsc⟩
      conv => whnf
      have hs := hsc
      obtain ⟨n2, b2, e2, c2, L2, r2, rfl, _⟩ := hs
      conv => whnf
      exact endFo (.ret (.tup [.va (.slice n2 0 b2 e2 2 (normS (a ++ b)).length c2), .va (.int .i64 0)])) F2 rfl (Fz.le_trans l1 l2) (Fz.le_refl F2) ⟨_, by rw [e], by rw [e]; exact hsc⟩ ⟨⟨rfl, rfl, rfl, .inr ⟨rfl, rfl, rfl, rfl⟩⟩, rfl, trivial⟩ rfl
  · have g1 : validS p a = false := not_t g
    have e : compR p a b = ([], 70) := by simp [compR, g1]
    conv => whnf
    exact endFo (.ret (.tup [.va (.slice true 0 0 0 2 0 0), .va (.int .i64 70)])) F rfl (Fz.le_refl F) (Fz.le_refl F) ⟨_, by rw [e], by rw [e]; exact Sl.nil⟩ ⟨⟨rfl, rfl, rfl⟩, rfl, trivial⟩ rfl

set_option maxHeartbeats 4000000 in
theorem coarserE_fn (F : Fz) (sa sb : SA) (a b : List Stp) (p : Int) (ha : StepsAt F sa a) (hb : StepsAt F sb b) (la : a.length < 1000000) (lb : b.length < 1000000) :
    Fo Tryz.prog F 22 [.va (.int .i64 p), .va sa, .va sb] (fun o F' => o = .ret (.va (.bool (coarS p a b)))) := by
  have hva := valid_fn F sa a p ha la
  have hvb := valid_fn F sb b p hb lb
  have ha' := ha
  have hb' := hb
  have fin : ∀ (x : Bool) (F1 : Fz) (h : Hp) (nx : Nat), coarS p a b = x → Fz.le F F1 → lget h 0 = some (.frz F1) → Cln 1 (FoK F fun o F' => o = .ret (.va (.bool (coarS p a b)))) (.ret (.va (.bool x))) h nx :=
    fun x F1 h nx hx hle h0 => endFo (.ret (.va (.bool x))) F1 h0 hle (Fz.le_refl F1) (by rw [hx]) rfl rfl
  have finl : ∀ (x : Bool) (F1 : Fz) (h : Hp) (nx : Nat), coarS p a b = x → Fz.le F F1 → lget h 0 = some (.frz F1) → Cln 1 (FoK F fun o F' => o = .ret (.va (.bool (coarS p a b)))) (.ret (.va (.lit x))) h nx :=
    fun x F1 h nx hx hle h0 => endFo (.ret (.va (.bool x))) F1 h0 hle (Fz.le_refl F1) (by rw [hx]) rfl rfl
  obtain ⟨han, hab, hae, hac, haL, har, rfl, ha1, ha2, ha3, ha4⟩ := ha
  obtain ⟨hbn, hbb, hbe, hbc, hbL, hbr, rfl, hb1, hb2, hb3, hb4⟩ := hb
  refine fo_of hΘ Tryz.func22 rfl (by decide) _ _ rfl rfl rfl ?_
  conv => whnf
  refine usePu (hva) rfl (argsE_refl _) rfl ?_
  conv => whnf
  refine ⟨fun g => ?_, fun g => ?_⟩
  · have g1 : validS p a = true := by simpa using g
    refine usePu (hvb) rfl (argsE_refl _) rfl ?_
    conv => whnf
    refine br (fun g => ?_) (fun g => ?_)
    · have g2 : validS p b = false := not_t g
      conv => whnf
      exact fin _ F _ _ (by simp [coarS, g2]) (Fz.le_refl F) rfl
    · have g2 : validS p b = true := by simpa using g
      have e : coarS p a b = if lostS (normS a) = true ∨ lostS (normS b) = true then lostS (normS a) else if p = 6 ∨ p = 7 then decide ((normS b).length ≤ (normS a).length) else decide (normS (b ++ a) = normS a) := by simp [coarS, g1, g2]
      conv => whnf
      refine freezeC 1 (fun _ => .arr 22 1 [[.slice han 0 hab hae 2 a.length hac]] 1) rfl rfl rfl (fun _ _ => rfl) (fun _ _ => SB.bB_ok rfl) ?_
      intro b1 F1 l1 hb1
      refine useFo (normal1 F1 (b1 0) _ a 1 1 (ha'.mono l1) (hb1 0 rfl) g1) rfl (argsE_refl _) rfl ?_
      rintro _ F2 l2 ⟨sc, rfl, hsc⟩
      conv => whnf
      have hs := hsc
      obtain ⟨xn, xb, xe, xc, xL, xr, rfl, _⟩ := hs
      conv => whnf
      refine freezeC 2 (fun _ => .arr 22 1 [[.slice hbn 0 hbb hbe 2 b.length hbc]] 1) rfl rfl rfl (fun _ _ => rfl) (fun _ _ => SB.bB_ok rfl) ?_
      intro b3 F3 l3 hb3
      refine useFo (normal1 F3 (b3 0) _ b 1 1 (hb'.mono (Fz.le_trans l1 (Fz.le_trans l2 l3))) (hb3 0 rfl) g2) rfl (argsE_refl _) rfl ?_
      rintro _ F4 l4 ⟨sd, rfl, hsd⟩
      conv => whnf
      have hs2 := hsd
      obtain ⟨yn, yb, ye, yc, yL, yr, rfl, _⟩ := hs2
      have m4 := Fz.le_trans l1 (Fz.le_trans l2 (Fz.le_trans l3 l4))
      have hsc4 := hsc.mono (Fz.le_trans l3 l4)
      conv => whnf
      refine usePu (lost_fn F4 _ (normS a) hsc4) rfl (argsE_refl _) rfl ?_
      conv => whnf
      refine ⟨fun gx => ?_, fun gx => ?_⟩
      · replace gx : lostS (normS a) = false := gx
        refine usePu (lost_fn F4 _ (normS b) hsd) rfl (argsE_refl _) rfl ?_
        conv => whnf
        refine br (fun gy => ?_) (fun gy => ?_)
        · replace gy : lostS (normS b) = true := gy
          conv => whnf
          refine usePu (lost_fn F4 _ (normS a) hsc4) rfl (argsE_refl _) rfl ?_
          conv => whnf
          exact fin _ F4 _ _ (by rw [e, if_pos (.inr gy)]) m4 rfl
        · replace gy : lostS (normS b) = false := gy
          conv => whnf
          refine ⟨fun g6 => ?_, fun g6 => ?_⟩
          · have g6' : ¬ p = 6 := by simpa using g6
            conv => whnf
            refine br (fun g7 => ?_) (fun g7 => ?_)
            · have g7' : p = 7 := by simpa using g7
              conv => whnf
              refine fin _ F4 _ _ ?_ m4 rfl
              have e2 : coarS p a b = decide ((normS b).length ≤ (normS a).length) := by rw [e, if_neg (by rw [gx, gy]; simp), if_pos (by exact .inr g7')]
              rw [e2]
              exact decide_eq_decide.2 (by omega)
            · have g7' : ¬ p = 7 := by simpa using g7
              have e2 : coarS p a b = decide (normS (b ++ a) = normS a) := by rw [e, if_neg (by rw [gx, gy]; simp), if_neg (by simp [g6', g7'])]
              conv => whnf
              refine freezeC 3 (fun _ => .arr 22 1 [[.slice hbn 0 hbb hbe 2 b.length hbc], [.slice han 0 hab hae 2 a.length hac]] 2) rfl rfl rfl (fun _ _ => rfl) (fun _ _ => SB.bB_ok rfl) ?_
              intro b5 F5 l5 hb5
              refine useFo (normal2 F5 (b5 0) _ _ b a 2 2 (hb'.mono (Fz.le_trans m4 l5)) (ha'.mono (Fz.le_trans m4 l5)) (hb5 0 rfl) g2 g1) rfl (argsE_refl _) rfl ?_
              rintro _ F6 l6 ⟨se, rfl, hse⟩
              conv => whnf
              have hs3 := hse
              obtain ⟨zn, zb, ze, zc, zL, zr, rfl, _⟩ := hs3
              have m6 := Fz.le_trans m4 (Fz.le_trans l5 l6)
              conv => whnf
              refine freezeC 4 (fun _ => .arr 22 1 [[.slice han 0 hab hae 2 a.length hac]] 1) rfl rfl rfl (fun _ _ => rfl) (fun _ _ => SB.bB_ok rfl) ?_
              intro b7 F7 l7 hb7
              refine useFo (normal1 F7 (b7 0) _ a 1 1 (ha'.mono (Fz.le_trans m6 l7)) (hb7 0 rfl) g1) rfl (argsE_refl _) rfl ?_
              rintro _ F8 l8 ⟨sf, rfl, hsf⟩
              conv => whnf
              have hs4 := hsf
              obtain ⟨wn, wb, we, wc, wL, wr, rfl, _⟩ := hs4
              have hse8 := hse.mono (Fz.le_trans l7 l8)
              have hll : (normS (b ++ a)).length < 1000000 := Nat.lt_of_le_of_lt (normS_len _) (by omega)
              conv => whnf
              refine usePu (equal_fn F8 _ _ (normS (b ++ a)) (normS a) hse8 hsf hll) rfl (argsE_refl _) rfl ?_
              conv => whnf
              exact fin _ F8 _ _ e2 (Fz.le_trans m6 (Fz.le_trans l7 l8)) rfl
          · have g6' : p = 6 := by simpa using g6
            conv => whnf
            refine fin _ F4 _ _ ?_ m4 rfl
            have e2 : coarS p a b = decide ((normS b).length ≤ (normS a).length) := by rw [e, if_neg (by rw [gx, gy]; simp), if_pos (by exact .inl g6')]
            rw [e2]
            exact decide_eq_decide.2 (by omega)
      · replace gx : lostS (normS a) = true := gx
        conv => whnf
        refine usePu (lost_fn F4 _ (normS a) hsc4) rfl (argsE_refl _) rfl ?_
        conv => whnf
        exact fin _ F4 _ _ (by rw [e, if_pos (.inl gx)]) m4 rfl
  · have g1 : validS p a = false := not_t g
    conv => whnf
    exact fin _ F _ _ (by simp [coarS, g1]) (Fz.le_refl F) rfl
end Go.Proofs.YtblllibdahkgfaaGreatDoor
