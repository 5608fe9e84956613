import Derived.Test.YtblllibdahkgfaaGreatDoorK14
import Derived.Test.YtblllibdahkgfaaGreatDoorK13

namespace Go.Proofs.YtblllibdahkgfaaGreatDoor
open Go Sx
set_option maxRecDepth 100000
theorem valid_kinds {p : Int} {l : List Stp} (h : validS p l = true) : ∀ s ∈ l, 1 ≤ s.1 ∧ s.1 ≤ 6 := by
  intro s hs
  simp only [validS, Bool.and_eq_true] at h
  have := List.all_eq_true.1 h.2.2 s hs
  simp only [stepOk, Bool.and_eq_true, decide_eq_true_eq] at this
  exact this.1
theorem valid_len {p : Int} {l : List Stp} (h : validS p l = true) : l.length ≤ 64 := by
  simp only [validS, Bool.and_eq_true, decide_eq_true_eq] at h; exact h.2.1
theorem stepsL1 {F : Fz} {b c c' : Nat} {a : SA} {l : List Stp} (ha : StepsAt F a l) (h : F b = some (.arr 22 1 [[a]] c)) : StepsL F (.slice false 0 b 0 1 1 c') [l] :=
  SlR.new (l := [l]) h rfl fun k x hx => by
    match k, hx with
    | 0, hx => simp at hx; subst hx; exact ⟨[a], rfl, a, rfl, ha⟩
theorem stepsL2 {F : Fz} {b c c' : Nat} {a a2 : SA} {l l2 : List Stp} (ha : StepsAt F a l) (ha2 : StepsAt F a2 l2) (h : F b = some (.arr 22 1 [[a], [a2]] c)) : StepsL F (.slice false 0 b 0 1 2 c') [l, l2] :=
  SlR.new (l := [l, l2]) h rfl fun k x hx => by
    match k, hx with
    | 0, hx => simp at hx; subst hx; exact ⟨[a], rfl, a, rfl, ha⟩
    | 1, hx => simp at hx; subst hx; exact ⟨[a2], rfl, a2, rfl, ha2⟩
/-- Normal, Compose, Coarser. -/
def normR (p : Int) (l : List Stp) : List Stp × Int := if validS p l = true then (normS l, 0) else ([], 70)
def compR (p : Int) (a b : List Stp) : List Stp × Int := if validS p a = true ∧ validS p b = true then (normS (a ++ b), 0) else ([], 70)
def coarS (p : Int) (a b : List Stp) : Bool :=
  if validS p a = true ∧ validS p b = true then
    if lostS (normS a) = true ∨ lostS (normS b) = true then lostS (normS a)
    else if p = 6 ∨ p = 7 then decide ((normS b).length ≤ (normS a).length) else decide (normS (b ++ a) = normS a)
  else false
theorem normS_len (l : List Stp) : (normS l).length ≤ 100 := by
  unfold normS; split
  · have := pieces_len (sel 1 l) (sel 2 l) (sel 3 l) (sel 4 l) (sel 5 l) 7
    exact this
  · simp
theorem normal1 (F : Fz) (b : Nat) (a : SA) (l : List Stp) (c c' : Nat) (ha : StepsAt F a l) (h : F b = some (.arr 22 1 [[a]] c)) {p : Int} (hv : validS p l = true) :
    Fo Tryz.prog F 38 [.va (.slice false 0 b 0 1 1 c')] (fun o F' => ∃ sc, o = .ret (.va sc) ∧ StepsAt F' sc (normS l)) := by
  have hl := valid_len hv
  have := normal_fn F _ [l] (stepsL1 (c' := c') ha h) (by simp) (by simp; omega) (by simpa using valid_kinds hv)
  rw [List.flatten_cons, List.flatten_nil, List.append_nil] at this
  exact this
theorem normal2 (F : Fz) (b : Nat) (a a2 : SA) (l l2 : List Stp) (c c' : Nat) (ha : StepsAt F a l) (ha2 : StepsAt F a2 l2) (h : F b = some (.arr 22 1 [[a], [a2]] c)) {p : Int} (hv : validS p l = true) (hv2 : validS p l2 = true) :
    Fo Tryz.prog F 38 [.va (.slice false 0 b 0 1 2 c')] (fun o F' => ∃ sc, o = .ret (.va sc) ∧ StepsAt F' sc (normS (l ++ l2))) := by
  have hl := valid_len hv
  have hl2 := valid_len hv2
  have := normal_fn F _ [l, l2] (stepsL2 (c' := c') ha ha2 h) (by simp) (by simp; omega) (by
    intro s hs
    simp only [List.flatten_cons, List.flatten_nil, List.append_nil, List.mem_append] at hs
    rcases hs with hs | hs
    · exact valid_kinds hv s hs
    · exact valid_kinds hv2 s hs)
  rw [List.flatten_cons, List.flatten_cons, List.flatten_nil, List.append_nil] at this
  exact this
set_option maxHeartbeats 2000000 in
theorem normalE_fn (F : Fz) (sa : SA) (l : List Stp) (p : Int) (ha : StepsAt F sa l) (hl : l.length < 1000000) :
    Fo Tryz.prog F 15 [.va (.int .i64 p), .va sa] (fun o F' => ∃ sc, o = .ret (.tup [.va sc, .va (.int .i64 (normR p l).2)]) ∧ StepsAt F' sc (normR p l).1) := by
  have hv := valid_fn F sa l p ha hl
  have ha' := ha
  obtain ⟨han, hab, hae, hac, haL, har, rfl, ha1, ha2, ha3, ha4⟩ := ha
  refine fo_of hΘ Tryz.func15 rfl (by decide) _ _ rfl rfl rfl ?_
  conv => whnf
  refine usePu (hv) rfl (argsE_refl _) rfl ?_
  conv => whnf
  refine br (fun g => ?_) (fun g => ?_)
  · have g1 : validS p l = false := not_t g
    have e : normR p l = ([], 70) := by simp [normR, g1]
    conv => whnf
    exact endFo (.ret (.tup [.va (.slice true 0 0 0 2 0 0), .va (.int .i64 70)])) F rfl (Fz.le_refl F) (Fz.le_refl F) ⟨_, by rw [e], by rw [e]; exact Sl.nil⟩ ⟨⟨rfl, rfl, rfl⟩, rfl, trivial⟩ rfl
  · have g1 : validS p l = true := by simpa using g
    have e : normR p l = (normS l, 0) := by simp [normR, g1]
    conv => whnf
    refine freezeC 1 (fun _ => .arr 22 1 [[.slice han 0 hab hae 2 l.length hac]] 1) rfl rfl rfl (fun _ _ => rfl) (fun _ _ => SB.bB_ok rfl) ?_
    intro b F1 l1 hb
    refine useFo (normal1 F1 (b 0) _ l 1 1 (ha'.mono l1) (hb 0 rfl) g1) rfl (argsE_refl _) rfl ?_
    rintro _ F2 l2 ⟨sc, rfl, hsc⟩
    conv => whnf
    have hs := hsc
    obtain ⟨n2, b2, e2, c2, L2, r2, rfl, _⟩ := hs
    conv => whnf
    exact endFo (.ret (.tup [.va (.slice n2 0 b2 e2 2 (normS l).length c2), .va (.int .i64 0)])) F2 rfl (Fz.le_trans l1 l2) (Fz.le_refl F2) ⟨_, by rw [e], by rw [e]; exact hsc⟩ ⟨⟨rfl, rfl, rfl, .inr ⟨rfl, rfl, rfl, rfl⟩⟩, rfl, trivial⟩ rfl
set_option maxHeartbeats 4000000 in
theorem composeE_fn (F : Fz) (sa sb : SA) (a b : List Stp) (p : Int) (ha : StepsAt F sa a) (hb : StepsAt F sb b) (la : a.length < 1000000) (lb : b.length < 1000000) :
    Fo Tryz.prog F 20 [.va (.int .i64 p), .va sa, .va sb] (fun o F' => ∃ sc, o = .ret (.tup [.va sc, .va (.int .i64 (compR p a b).2)]) ∧ StepsAt F' sc (compR p a b).1) := by
  have hva := valid_fn F sa a p ha la
  have hvb := valid_fn F sb b p hb lb
  have ha' := ha
  have hb' := hb
  obtain ⟨han, hab, hae, hac, haL, har, rfl, ha1, ha2, ha3, ha4⟩ := ha
  obtain ⟨hbn, hbb, hbe, hbc, hbL, hbr, rfl, hb1, hb2, hb3, hb4⟩ := hb
  refine fo_of hΘ Tryz.func20 rfl (by decide) _ _ rfl rfl rfl ?_
  conv => whnf
  refine usePu (hva) rfl (argsE_refl _) rfl ?_
  conv => whnf
  refine ⟨fun g => ?_, fun g => ?_⟩
  · have g1 : validS p a = true := by simpa using g
    refine usePu (hvb) rfl (argsE_refl _) rfl ?_
    conv => whnf
    refine br (fun g => ?_) (fun g => ?_)
    · have g2 : validS p b = false := not_t g
      have e : compR p a b = ([], 70) := by simp [compR, g2]
      conv => whnf
      exact endFo (.ret (.tup [.va (.slice true 0 0 0 2 0 0), .va (.int .i64 70)])) F rfl (Fz.le_refl F) (Fz.le_refl F) ⟨_, by rw [e], by rw [e]; exact Sl.nil⟩ ⟨⟨rfl, rfl, rfl⟩, rfl, trivial⟩ rfl
    · have g2 : validS p b = true := by simpa using g
      have e : compR p a b = (normS (a ++ b), 0) := by simp [compR, g1, g2]
      conv => whnf
      refine freezeC 1 (fun _ => .arr 22 1 [[.slice han 0 hab hae 2 a.length hac], [.slice hbn 0 hbb hbe 2 b.length hbc]] 2) rfl rfl rfl (fun _ _ => rfl) (fun _ _ => SB.bB_ok rfl) ?_
      intro b1 F1 l1 hb1
      refine useFo (normal2 F1 (b1 0) _ _ a b 2 2 (ha'.mono l1) (hb'.mono l1) (hb1 0 rfl) g1 g2) rfl (argsE_refl _) rfl ?_
      rintro _ F2 l2 ⟨sc, rfl, hsc⟩
      conv => whnf
      have hs := hsc
      obtain ⟨n2, b2, e2, c2, L2, r2, rfl, _⟩ := hs
      conv => whnf
      exact endFo (.ret (.tup [.va (.slice n2 0 b2 e2 2 (normS (a ++ b)).length c2), .va (.int .i64 0)])) F2 rfl (Fz.le_trans l1 l2) (Fz.le_refl F2) ⟨_, by rw [e], by rw [e]; exact hsc⟩ ⟨⟨rfl, rfl, rfl, .inr ⟨rfl, rfl, rfl, rfl⟩⟩, rfl, trivial⟩ rfl
  · have g1 : validS p a = false := not_t g
    have e : compR p a b = ([], 70) := by simp [compR, g1]
    conv => whnf
    exact endFo (.ret (.tup [.va (.slice true 0 0 0 2 0 0), .va (.int .i64 70)])) F rfl (Fz.le_refl F) (Fz.le_refl F) ⟨_, by rw [e], by rw [e]; exact Sl.nil⟩ ⟨⟨rfl, rfl, rfl⟩, rfl, trivial⟩ rfl
set_option maxHeartbeats 4000000 in
theorem coarserE_fn (F : Fz) (sa sb : SA) (a b : List Stp) (p : Int) (ha : StepsAt F sa a) (hb : StepsAt F sb b) (la : a.length < 1000000) (lb : b.length < 1000000) :
    Fo Tryz.prog F 22 [.va (.int .i64 p), .va sa, .va sb] (fun o F' => o = .ret (.va (.bool (coarS p a b)))) := by
  have hva := valid_fn F sa a p ha la
  have hvb := valid_fn F sb b p hb lb
  have ha' := ha
  have hb' := hb
  have fin : ∀ (x : Bool) (F1 : Fz) (h : Hp) (nx : Nat), coarS p a b = x → Fz.le F F1 → lget h 0 = some (.frz F1) → Cln 1 (FoK F fun o F' => o = .ret (.va (.bool (coarS p a b)))) (.ret (.va (.bool x))) h nx :=
    fun x F1 h nx hx hle h0 => endFo (.ret (.va (.bool x))) F1 h0 hle (Fz.le_refl F1) (by rw [hx]) rfl rfl
  have finl : ∀ (x : Bool) (F1 : Fz) (h : Hp) (nx : Nat), coarS p a b = x → Fz.le F F1 → lget h 0 = some (.frz F1) → Cln 1 (FoK F fun o F' => o = .ret (.va (.bool (coarS p a b)))) (.ret (.va (.lit x))) h nx :=
    fun x F1 h nx hx hle h0 => endFo (.ret (.va (.bool x))) F1 h0 hle (Fz.le_refl F1) (by rw [hx]) rfl rfl
  obtain ⟨han, hab, hae, hac, haL, har, rfl, ha1, ha2, ha3, ha4⟩ := ha
  obtain ⟨hbn, hbb, hbe, hbc, hbL, hbr, rfl, hb1, hb2, hb3, hb4⟩ := hb
  refine fo_of hΘ Tryz.func22 rfl (by decide) _ _ rfl rfl rfl ?_
  conv => whnf
  refine usePu (hva) rfl (argsE_refl _) rfl ?_
  conv => whnf
  refine ⟨fun g => ?_, fun g => ?_⟩
  · have g1 : validS p a = true := by simpa using g
    refine usePu (hvb) rfl (argsE_refl _) rfl ?_
    conv => whnf
    refine br (fun g => ?_) (fun g => ?_)
    · have g2 : validS p b = false := not_t g
      conv => whnf
      exact fin _ F _ _ (by simp [coarS, g2]) (Fz.le_refl F) rfl
    · have g2 : validS p b = true := by simpa using g
      have e : coarS p a b = if lostS (normS a) = true ∨ lostS (normS b) = true then lostS (normS a) else if p = 6 ∨ p = 7 then decide ((normS b).length ≤ (normS a).length) else decide (normS (b ++ a) = normS a) := by simp [coarS, g1, g2]
      conv => whnf
      refine freezeC 1 (fun _ => .arr 22 1 [[.slice han 0 hab hae 2 a.length hac]] 1) rfl rfl rfl (fun _ _ => rfl) (fun _ _ => SB.bB_ok rfl) ?_
      intro b1 F1 l1 hb1
      refine useFo (normal1 F1 (b1 0) _ a 1 1 (ha'.mono l1) (hb1 0 rfl) g1) rfl (argsE_refl _) rfl ?_
      rintro _ F2 l2 ⟨sc, rfl, hsc⟩
      conv => whnf
      have hs := hsc
      obtain ⟨xn, xb, xe, xc, xL, xr, rfl, _⟩ := hs
      conv => whnf
      refine freezeC 2 (fun _ => .arr 22 1 [[.slice hbn 0 hbb hbe 2 b.length hbc]] 1) rfl rfl rfl (fun _ _ => rfl) (fun _ _ => SB.bB_ok rfl) ?_
      intro b3 F3 l3 hb3
      refine useFo (normal1 F3 (b3 0) _ b 1 1 (hb'.mono (Fz.le_trans l1 (Fz.le_trans l2 l3))) (hb3 0 rfl) g2) rfl (argsE_refl _) rfl ?_
      rintro _ F4 l4 ⟨sd, rfl, hsd⟩
      conv => whnf
      have hs2 := hsd
      obtain ⟨yn, yb, ye, yc, yL, yr, rfl, _⟩ := hs2
      have m4 := Fz.le_trans l1 (Fz.le_trans l2 (Fz.le_trans l3 l4))
      have hsc4 := hsc.mono (Fz.le_trans l3 l4)
      conv => whnf
      refine usePu (lost_fn F4 _ (normS a) hsc4) rfl (argsE_refl _) rfl ?_
      conv => whnf
      refine ⟨fun gx => ?_, fun gx => ?_⟩
      · replace gx : lostS (normS a) = false := gx
        refine usePu (lost_fn F4 _ (normS b) hsd) rfl (argsE_refl _) rfl ?_
        conv => whnf
        refine br (fun gy => ?_) (fun gy => ?_)
        · replace gy : lostS (normS b) = true := gy
          conv => whnf
          refine usePu (lost_fn F4 _ (normS a) hsc4) rfl (argsE_refl _) rfl ?_
          conv => whnf
          exact fin _ F4 _ _ (by rw [e, if_pos (.inr gy)]) m4 rfl
        · replace gy : lostS (normS b) = false := gy
          conv => whnf
          refine ⟨fun g6 => ?_, fun g6 => ?_⟩
          · have g6' : ¬ p = 6 := by simpa using g6
            conv => whnf
            refine br (fun g7 => ?_) (fun g7 => ?_)
            · have g7' : p = 7 := by simpa using g7
              conv => whnf
              refine fin _ F4 _ _ ?_ m4 rfl
              have e2 : coarS p a b = decide ((normS b).length ≤ (normS a).length) := by rw [e, if_neg (by rw [gx, gy]; simp), if_pos (by exact .inr g7')]
              rw [e2]
              exact decide_eq_decide.2 (by omega)
            · have g7' : ¬ p = 7 := by simpa using g7
              have e2 : coarS p a b = decide (normS (b ++ a) = normS a) := by rw [e, if_neg (by rw [gx, gy]; simp), if_neg (by simp [g6', g7'])]
              conv => whnf
              refine freezeC 3 (fun _ => .arr 22 1 [[.slice hbn 0 hbb hbe 2 b.length hbc], [.slice han 0 hab hae 2 a.length hac]] 2) rfl rfl rfl (fun _ _ => rfl) (fun _ _ => SB.bB_ok rfl) ?_
              intro b5 F5 l5 hb5
              refine useFo (normal2 F5 (b5 0) _ _ b a 2 2 (hb'.mono (Fz.le_trans m4 l5)) (ha'.mono (Fz.le_trans m4 l5)) (hb5 0 rfl) g2 g1) rfl (argsE_refl _) rfl ?_
              rintro _ F6 l6 ⟨se, rfl, hse⟩
              conv => whnf
              have hs3 := hse
              obtain ⟨zn, zb, ze, zc, zL, zr, rfl, _⟩ := hs3
              have m6 := Fz.le_trans m4 (Fz.le_trans l5 l6)
              conv => whnf
              refine freezeC 4 (fun _ => .arr 22 1 [[.slice han 0 hab hae 2 a.length hac]] 1) rfl rfl rfl (fun _ _ => rfl) (fun _ _ => SB.bB_ok rfl) ?_
              intro b7 F7 l7 hb7
              refine useFo (normal1 F7 (b7 0) _ a 1 1 (ha'.mono (Fz.le_trans m6 l7)) (hb7 0 rfl) g1) rfl (argsE_refl _) rfl ?_
              rintro _ F8 l8 ⟨sf, rfl, hsf⟩
              conv => whnf
              have hs4 := hsf
              obtain ⟨wn, wb, we, wc, wL, wr, rfl, _⟩ := hs4
              have hse8 := hse.mono (Fz.le_trans l7 l8)
              have hll : (normS (b ++ a)).length < 1000000 := Nat.lt_of_le_of_lt (normS_len _) (by omega)
              conv => whnf
              refine usePu (equal_fn F8 _ _ (normS (b ++ a)) (normS a) hse8 hsf hll) rfl (argsE_refl _) rfl ?_
              conv => whnf
              exact fin _ F8 _ _ e2 (Fz.le_trans m6 (Fz.le_trans l7 l8)) rfl
          · have g6' : p = 6 := by simpa using g6
            conv => whnf
            refine fin _ F4 _ _ ?_ m4 rfl
            have e2 : coarS p a b = decide ((normS b).length ≤ (normS a).length) := by rw [e, if_neg (by rw [gx, gy]; simp), if_pos (by exact .inl g6')]
            rw [e2]
            exact decide_eq_decide.2 (by omega)
      · replace gx : lostS (normS a) = true := gx
        conv => whnf
        refine usePu (lost_fn F4 _ (normS a) hsc4) rfl (argsE_refl _) rfl ?_
        conv => whnf
        exact fin _ F4 _ _ (by rw [e, if_pos (.inl gx)]) m4 rfl
  · have g1 : validS p a = false := not_t g
    conv => whnf
    exact fin _ F _ _ (by simp [coarS, g1]) (Fz.le_refl F) rfl
end Go.Proofs.YtblllibdahkgfaaGreatDoor

namespace Go.Proofs.YtblllibdahkgfaaGreatDoor
open Go Sx
set_option maxRecDepth 100000
end Go.Proofs.YtblllibdahkgfaaGreatDoor

namespace Go.Proofs.YtblllibdahkgfaaGreatDoor
open Go Sx
set_option maxRecDepth 100000
theorem valid_ok {p : Int} {l : List Stp} (h : validS p l = true) : ∀ s ∈ l, stepOk p s = true := by
  simp only [validS, Bool.and_eq_true] at h
  exact fun s hs => List.all_eq_true.1 h.2.2 s hs
theorem valid_p {p : Int} {l : List Stp} (h : validS p l = true) : 1 ≤ p ∧ p ≤ 8 := by
  simp only [validS, Bool.and_eq_true, decide_eq_true_eq] at h; exact h.1
theorem valid_of {p : Int} {l : List Stp} (hp : 1 ≤ p ∧ p ≤ 8) (hl : l.length ≤ 64) (h : ∀ s ∈ l, stepOk p s = true) : validS p l = true := by
  simp only [validS, Bool.and_eq_true, decide_eq_true_eq]; exact ⟨hp, hl, List.all_eq_true.2 h⟩
end Go.Proofs.YtblllibdahkgfaaGreatDoor

namespace Go.Proofs.YtblllibdahkgfaaGreatDoor
open Go Sx
set_option maxRecDepth 100000
end Go.Proofs.YtblllibdahkgfaaGreatDoor

namespace Go.Proofs.YtblllibdahkgfaaGreatDoor
open Go Sx
set_option maxRecDepth 100000
def behind (a : List Stp) : List (List Stp) := [a, [(6, 0)], [], [(5, 0)], [(5, 0), (5, 0)], [(5, 0), (5, 0), (5, 0)], [(5, 0), (5, 0), (5, 0), (5, 0)], [(5, 0), (5, 0), (5, 0), (5, 0), (5, 0)]]
end Go.Proofs.YtblllibdahkgfaaGreatDoor

namespace Go.Proofs.YtblllibdahkgfaaGreatDoor
open Go Sx
set_option maxRecDepth 100000
end Go.Proofs.YtblllibdahkgfaaGreatDoor

namespace Go.Proofs.YtblllibdahkgfaaGreatDoor
open Go Sx
set_option maxRecDepth 100000
def encB (b : UInt8) : List SA := [.int .u8 b.toNat]
theorem encB_plain : Plain encB := fun x => ⟨fun _ => rfl, fun a ha => by simp only [encB, List.mem_singleton] at ha; subst ha; trivial⟩
def putZ (z : Nat) : List UInt8 := if z < 128 then [UInt8.ofNat z] else UInt8.ofNat (z % 128 + 128) :: putZ (z / 128)
termination_by z
decreasing_by omega
theorem putZ_lt {z : Nat} (h : z < 128) : putZ z = [UInt8.ofNat z] := by rw [putZ, if_pos h]
theorem putZ_ge {z : Nat} (h : ¬ z < 128) : putZ z = UInt8.ofNat (z % 128 + 128) :: putZ (z / 128) := by rw [putZ, if_neg h]
def zig (n : Int) : Nat := if n < 0 then ((-n) * 2 - 1).toNat else (n * 2).toNat
def putI (n : Int) : List UInt8 := putZ (zig n)
def putIR (n : Int) : List UInt8 × Int := if n < -4611686018427387903 ∨ 4611686018427387903 < n then ([], 10) else (putI n, 0)
def putSR (s : List UInt8) : List UInt8 × Int := if 65536 < s.length then ([], 10) else (putI s.length ++ s, 0)
theorem wrapu64 {n : Int} (h1 : 0 ≤ n) (h2 : n ≤ 18446744073709551615) : IntKind.u64.wrap n = n := IntWalk.u64_in _ ⟨h1, h2⟩
theorem wrapu8 {n : Int} (h1 : 0 ≤ n) (h2 : n ≤ 255) : IntKind.u8.wrap n = n := IntWalk.u8_in _ ⟨h1, h2⟩
theorem zigzag_pu (n : Int) (h : -4611686018427387903 ≤ n ∧ n ≤ 4611686018427387903) : Pu Tryz.prog 88 [.va (.int .i64 n)] (.va (.int .u64 (zig n))) := by
  intro F
  refine fo_of hΘ Tryz.func88 rfl (by decide) _ _ rfl rfl rfl ?_
  conv => whnf
  refine br (fun g => ?_) (fun g => ?_)
  · have g1 : n < 0 := by simpa using g
    conv => whnf
    refine endPu rfl (Fz.le_refl F) (oi ?_) rfl
    rw [wrap64_id (n := 0 - n) (by omega) (by omega), wrapu64 (n := 0 - n) (by omega) (by omega), wrapu64 (n := (0 - n) * 2) (by omega) (by omega), wrapu64 (by omega) (by omega), zig, if_pos g1]
    omega
  · have g1 : ¬ n < 0 := by simpa using g
    conv => whnf
    refine endPu rfl (Fz.le_refl F) (oi ?_) rfl
    rw [wrapu64 (n := n) (by omega) (by omega), wrapu64 (by omega) (by omega), zig, if_neg g1]
    omega
theorem zig_lt (n : Int) (h : -4611686018427387903 ≤ n ∧ n ≤ 4611686018427387903) : zig n < 9223372036854775808 := by
  unfold zig; split <;> omega
theorem byte_eq (m : Nat) (h : m < 256) : SA.int .u8 (IntKind.u8.wrap (m : Int)) = SA.int .u8 ((UInt8.ofNat m).toNat : Int) := by
  rw [wrapu8 (by omega) (by omega)]
  simp [Nat.mod_eq_of_lt h]
theorem few7 {z len m : Nat} (h1 : 1 ≤ z) (h : z * 128 ^ len ≤ m) (hm : m < 9223372036854775808) : len < 10 := by
  apply Classical.byContradiction; intro hl
  have h2 : 128 ^ 10 ≤ 128 ^ len := Nat.pow_le_pow_right (by omega) (by omega)
  have h3 : 1 * 128 ^ len ≤ z * 128 ^ len := Nat.mul_le_mul_right _ h1
  omega
theorem next7 {z len m : Nat} (h : z * 128 ^ len ≤ m) : z / 128 * 128 ^ (len + 1) ≤ m := by
  have h1 : z / 128 * 128 ^ (len + 1) = (z / 128 * 128) * 128 ^ len := by rw [Nat.pow_succ, Nat.mul_comm (128 ^ len) 128, Nat.mul_assoc]
  have h2 : z / 128 * 128 ≤ z := Nat.div_mul_le_self z 128
  rw [h1]; exact Nat.le_trans (Nat.mul_le_mul_right _ h2) h
set_option maxHeartbeats 2000000 in
theorem rputInt_fn (F : Fz) (n : Int) : Fo Tryz.prog F 58 [.va (.int .i64 n)] (fun o F' => o = .ret (.tup [.va (.str (putIR n).1), .va (.int .i64 (putIR n).2)]) ∧ F' = F) := by
  have bad : n < -4611686018427387903 ∨ 4611686018427387903 < n → putIR n = ([], 10) := fun h => by rw [putIR, if_pos h]
  refine fo_of hΘ Tryz.func58 rfl (by decide) _ _ rfl rfl rfl ?_
  conv => whnf
  refine ⟨fun g => ?_, fun g => ?_⟩
  · have g1 : ¬ n < -4611686018427387903 := by simpa using g
    conv => whnf
    refine br (fun g => ?_) (fun g => ?_)
    · have g2 : 4611686018427387903 < n := by simpa using g
      conv => whnf
      exact endFo (.ret (.tup [.va (.str []), .va (.int .i64 10)])) F rfl (Fz.le_refl F) (Fz.le_refl F) ⟨by rw [bad (.inr g2)], rfl⟩ (outE_refl _) rfl
    · have g2 : ¬ 4611686018427387903 < n := by simpa using g
      have hb : -4611686018427387903 ≤ n ∧ n ≤ 4611686018427387903 := by omega
      have hz := zig_lt n hb
      have e : putIR n = (putZ (zig n), 0) := by rw [putIR, if_neg (by omega), putI]
      conv => whnf
      refine usePu (zigzag_pu n hb F) rfl (argsE_refl _) rfl ?_
      conv => whnf
      refine loop_at hΘ (X := { x : Nat × List UInt8 × Nat // x.1 < 9223372036854775808 ∧ putZ (zig n) = x.2.1 ++ putZ x.1 ∧ x.1 * 128 ^ x.2.1.length ≤ zig n ∧ x.2.1.length ≤ 10 }) (fun x => [(4, .va (.int .u64 x.1.1)), (5, .va (gA 1 1 x.1.2.2 x.1.2.1))]) [14, 15, 16, 17, 18, 19, 20, 21, 22, 23, 24]
        (fun x => [(0, .frz F), (1, gE 5 1 encB x.1.2.2 x.1.2.1)]) 2 (fun x => x.1.1) ⟨(zig n, [], 0), hz, rfl, by show zig n * 128 ^ 0 ≤ zig n; omega, by simp⟩
        (fun hH hT => leI [(1, 1)] hH hT rfl ⟨trivial, gE_below encB_plain _ _ _ _ _, trivial⟩ ⟨rfl, rfl, trivial⟩ ⟨Fz.le_refl F, rfl, trivial⟩) ?_
      rintro ⟨⟨z, out, c⟩, hz1, hz2, hz3, hz4⟩ hH hT
      replace hz4 : out.length ≤ 10 := hz4
      replace hz1 : z < 9223372036854775808 := hz1
      replace hz2 : putZ (zig n) = out ++ putZ z := hz2
      replace hz3 : z * 128 ^ out.length ≤ zig n := hz3
      conv => whnf
      refine br (fun gb => ?_) (fun gb => ?_)
      · have gz : ¬ z < 128 := by
          have h0 : (128 : Int) ≤ z := by simpa using gb
          omega
        clear gb
        have hlen := few7 (by omega) hz3 hz
        have hn3 : z / 128 * 128 ^ (out ++ [UInt8.ofNat (z % 128 + 128)]).length ≤ zig n := by rw [List.length_append]; exact next7 hz3
        have hn2 : putZ (zig n) = (out ++ [UInt8.ofNat (z % 128 + 128)]) ++ putZ (z / 128) := by rw [hz2, putZ_ge gz, List.append_assoc]; rfl
        have hb8 : SA.int .u8 (IntKind.u8.wrap (IntKind.u64.wrap ((z : Int).tmod 128 + 128))) = SA.int .u8 ((UInt8.ofNat (z % 128 + 128)).toNat : Int) := by
          have h1 : (z : Int).tmod 128 = ((z % 128 : Nat) : Int) := rfl
          rw [h1, wrapu64 (by omega) (by omega)]
          exact byte_eq (z % 128 + 128) (by omega)
        have hq : IntKind.u64.wrap ((z : Int).tdiv 128) = ((z / 128 : Nat) : Int) := by
          have h1 : (z : Int).tdiv 128 = ((z / 128 : Nat) : Int) := rfl
          rw [h1, wrapu64 (by omega) (by omega)]
        have hlo : ([] ++ [UInt8.ofNat (z % 128 + 128)] : List UInt8).length = 1 := rfl
        rcases out with _ | ⟨x, r⟩
        · conv => whnf
          refine ⟨by decide, ?_⟩
          conv => whnf
          refine ⟨Nat.le_of_ble_eq_true rfl, [encB (UInt8.ofNat (z % 128 + 128))], by show [[SA.int .u8 _]] = _; rw [hb8]; rfl, ?_⟩
          conv => whnf
          refine ⟨rfl, rfl, ?_⟩
          conv => whnf
          refine ⟨Nat.le_of_ble_eq_true rfl, fun c' hc => ?_⟩
          conv => whnf
          refine ⟨by decide, ?_⟩
          conv => whnf
          exact ⟨⟨(z / 128, [] ++ [UInt8.ofNat (z % 128 + 128)], c'), by show z / 128 < 9223372036854775808; omega, hn2, hn3, by simp <;> omega⟩, by show z / 128 < z; omega,
            leR [(1, 3)] hH hT rfl ⟨trivial, gE_below encB_plain _ _ _ _ _, trivial⟩ ⟨by show SA.int .u64 _ = SA.int .u64 _; rw [hq], gA_new (μ := sig [(1, 3)]) (i := 1) (j := 3) rfl 1 c' _ [] (UInt8.ofNat (z % 128 + 128)) rfl, trivial⟩ ⟨Fz.le_refl F, sub_gE encB_plain (gE_one [encB (UInt8.ofNat (z % 128 + 128))] rfl), trivial⟩⟩
        · replace hlen : r.length + 1 < 10 := hlen
          conv => whnf
          refine ⟨by decide, ?_⟩
          conv => whnf
          refine ⟨Nat.le_of_ble_eq_true rfl, [encB (UInt8.ofNat (z % 128 + 128))], by show [[SA.int .u8 _]] = _; rw [hb8]; rfl, ?_⟩
          conv => whnf
          refine ⟨rfl, rfl, by simp, rfl, by show (r.length + 1 + 1) * 1 ≤ 140737488355328; omega, fun c' hc => ?_⟩
          conv => whnf
          refine ⟨by decide, ?_⟩
          conv => whnf
          exact ⟨⟨(z / 128, (x :: r) ++ [UInt8.ofNat (z % 128 + 128)], c'), by show z / 128 < 9223372036854775808; omega, hn2, hn3, by simp <;> omega⟩, by show z / 128 < z; omega,
            leR [(1, 3)] hH hT rfl ⟨trivial, gE_below encB_plain _ _ _ _ _, trivial⟩ ⟨by show SA.int .u64 _ = SA.int .u64 _; rw [hq], gA_new (μ := sig [(1, 3)]) (i := 1) (j := 3) rfl 1 c' _ (x :: r) (UInt8.ofNat (z % 128 + 128)) rfl, trivial⟩ ⟨Fz.le_refl F, sub_gE encB_plain (gE_one _ (by simp)), trivial⟩⟩
      · have gz : z < 128 := by
          have h0 : ¬ (128 : Int) ≤ z := by simpa using gb
          omega
        clear gb
        rw [putZ_lt gz] at hz2
        rcases out with _ | ⟨x, r⟩
        · skip
          conv => whnf
          refine ⟨Nat.le_of_ble_eq_true rfl, [encB (UInt8.ofNat z)], by show [[SA.int .u8 _]] = _; rw [byte_eq z (by omega)]; rfl, ?_⟩
          conv => whnf
          refine ⟨rfl, rfl, ?_⟩
          conv => whnf
          refine ⟨Nat.le_of_ble_eq_true rfl, fun c' hc => ?_⟩
          conv => whnf
          refine ⟨Nat.le_of_ble_eq_true rfl, _, rfl, [UInt8.ofNat z], rfl, ?_⟩
          conv => whnf
          exact endFo (.ret (.tup [.va (.str ([] ++ [UInt8.ofNat z])), .va (.int .i64 0)])) F rfl (Fz.le_refl F) (Fz.le_refl F) ⟨by rw [e, hz2], rfl⟩ (outE_refl _) rfl
        · replace hz4 : r.length + 1 ≤ 10 := hz4
          conv => whnf
          refine ⟨Nat.le_of_ble_eq_true rfl, [encB (UInt8.ofNat z)], by show [[SA.int .u8 _]] = _; rw [byte_eq z (by omega)]; rfl, ?_⟩
          conv => whnf
          refine ⟨rfl, rfl, by simp, rfl, by show (r.length + 1 + 1) * 1 ≤ 140737488355328; omega, fun c' hc => ?_⟩
          conv => whnf
          refine ⟨by show 0 + (r.length + 1 + 1) ≤ (((x :: r).map encB) ++ [encB (UInt8.ofNat z)]).length; simp, ((x :: r) ++ [UInt8.ofNat z]).map encB, by show ((((x :: r).map encB) ++ [encB (UInt8.ofNat z)]).drop 0).take (r.length + 1 + 1) = _; rw [List.drop_zero, List.take_of_length_le (by simp)]; simp, (x :: r) ++ [UInt8.ofNat z], rfl, ?_⟩
          conv => whnf
          exact endFo (.ret (.tup [.va (.str ((x :: r) ++ [UInt8.ofNat z])), .va (.int .i64 0)])) F rfl (Fz.le_refl F) (Fz.le_refl F) ⟨by rw [e, hz2], rfl⟩ (outE_refl _) rfl
  · have g1 : n < -4611686018427387903 := by simpa using g
    conv => whnf
    exact endFo (.ret (.tup [.va (.str []), .va (.int .i64 10)])) F rfl (Fz.le_refl F) (Fz.le_refl F) ⟨by rw [bad (.inl g1)], rfl⟩ (outE_refl _) rfl
theorem putZ_len : ∀ (k z : Nat), z < 128 ^ (k + 1) → (putZ z).length ≤ k + 1
  | 0, z, h => by rw [putZ_lt (by simpa using h)]; simp
  | k + 1, z, h => by
    by_cases hz : z < 128
    · rw [putZ_lt hz]; simp
    · rw [putZ_ge hz, List.length_cons]
      have := putZ_len k (z / 128) (by rw [Nat.div_lt_iff_lt_mul (by omega), ← Nat.pow_succ]; exact h)
      omega
theorem putI_len (n : Int) (h : -4611686018427387903 ≤ n ∧ n ≤ 4611686018427387903) : (putI n).length ≤ 9 :=
  putZ_len 8 _ (Nat.lt_of_lt_of_le (zig_lt n h) (by decide))
theorem putIR_len (n : Int) : (putIR n).1.length ≤ 9 := by
  unfold putIR; split
  · simp
  · exact putI_len n (by omega)
theorem rputString_fn (F : Fz) (s : List UInt8) (hs : s.length ≤ 9000000000000000000) : Fo Tryz.prog F 36 [.va (.str s)] (fun o F' => o = .ret (.tup [.va (.str (putSR s).1), .va (.int .i64 (putSR s).2)]) ∧ F' = F) := by
  refine fo_of hΘ Tryz.func36 rfl (by decide) _ _ rfl rfl rfl ?_
  conv => whnf
  refine br (fun g => ?_) (fun g => ?_)
  · have g1 : 65536 < s.length := by have h0 : (65536 : Int) < s.length := (by simpa using g); omega
    conv => whnf
    exact endFo (.ret (.tup [.va (.str []), .va (.int .i64 10)])) F rfl (Fz.le_refl F) (Fz.le_refl F) ⟨by rw [putSR, if_pos g1], rfl⟩ (outE_refl _) rfl
  · have g1 : ¬ 65536 < s.length := by have h0 : ¬ (65536 : Int) < s.length := (by simpa using g); omega
    have e1 : putIR s.length = (putI s.length, 0) := by rw [putIR, if_neg (by omega)]
    have e2 : putSR s = (putI s.length ++ s, 0) := by rw [putSR, if_neg g1]
    conv => whnf
    refine usePu (rputInt_fn F s.length) rfl (argsE_refl _) rfl ?_
    conv => whnf
    have hl := putIR_len s.length
    refine ⟨by omega, ?_⟩
    conv => whnf
    exact endFo (.ret (.tup [.va (.str ((putIR s.length).1 ++ s)), .va (.int .i64 0)])) F rfl (Fz.le_refl F) (Fz.le_refl F) ⟨by rw [e2, e1], rfl⟩ (outE_refl _) rfl
def numbersS (l : List Int) : List UInt8 := (l.map fun n => (putIR n).1).flatten
def encS (s : List UInt8) : List SA := [.str s]
abbrev StrsAt (F : Fz) (a : SA) (l : List (List UInt8)) : Prop := Sl F 9 1 encS a l
def textS (l : List (List UInt8)) : List UInt8 := (putIR l.length).1 ++ (l.map fun s => (putSR s).1).flatten
theorem map_take_succ {α β : Type} {f : α → List β} {l : List α} {k : Nat} (g : k < l.length) : ((l.take (k + 1)).map f).flatten = ((l.take k).map f).flatten ++ f l[k] := by
  rw [List.take_succ_eq_append_getElem g, List.map_append, List.flatten_append]; simp
theorem flat_len {α β : Type} {f : α → List β} {m : Nat} (h : ∀ x, (f x).length ≤ m) : ∀ l : List α, (l.map f).flatten.length ≤ m * l.length
  | [] => by simp
  | x :: r => by
    have := flat_len h r
    have := h x
    simp only [List.map_cons, List.flatten_cons, List.length_append, List.length_cons, Nat.mul_add]; omega
theorem putSR_len (s : List UInt8) : (putSR s).1.length ≤ 65545 := by
  unfold putSR; split
  · simp
  · have := putI_len s.length (by omega)
    rw [List.length_append]; omega
set_option maxHeartbeats 1000000 in
theorem numbers_fn (F : Fz) (sa : SA) (l : List Int) (ha : IntsAt F sa l) (hl : l.length < 1000000) :
    Fo Tryz.prog F 35 [.va sa] (fun o F' => o = .ret (.va (.str (numbersS l))) ∧ F' = F) := by
  obtain ⟨han, hab, hae, hac, haL, har, rfl, ha1, ha2, ha3, ha4⟩ := ha
  refine fo_of hΘ Tryz.func35 rfl (by decide) _ _ rfl rfl rfl ?_
  conv => whnf
  refine loop_at hΘ (X := { k : Nat // k ≤ l.length }) (fun k => [(3, .va (.str (((l.take k.1).map fun n => (putIR n).1).flatten))), (4, .va (.int .i64 k.1))]) [5, 6, 7, 8, 9, 10, 11, 12, 13, 14, 15, 16, 17, 18, 19, 20, 21, 22, 23] (fz fun _ => F) 1 (fun k => l.length - k.1) ⟨0, by simp⟩
    (fun hH hT => le0 hH hT rfl (Fz.le_refl F) rfl ⟨rfl, rfl, trivial⟩) ?_
  rintro ⟨k, hk⟩ hH hT
  conv => whnf
  refine br (fun g => ?_) (fun g => ?_)
  · have g : k < l.length := by simpa using g
    have h9 := flat_len putIR_len (l.take k)
    have h8 := putIR_len l[k]
    rw [List.length_take] at h9
    conv => whnf
    refine ⟨Sl.lt ha1 g, ⟨by simp, by simpa using g⟩, ?_⟩
    conv => whnf
    refine ⟨_, ha2 (Sl.lt ha1 g), ?_⟩
    conv => whnf
    refine ⟨_, Sl.at ha4 g, ?_⟩
    conv => whnf
    refine usePu (rputInt_fn F l[k]) rfl (argsE_refl _) rfl ?_
    conv => whnf
    refine ⟨by dsimp only; omega, ?_⟩
    conv => whnf
    refine ⟨⟨k + 1, by omega⟩, by show l.length - (k + 1) < l.length - k; omega, lr0 hH hT rfl (Fz.le_refl F) rfl ⟨?_, cnt (by omega), trivial⟩⟩
    exact congrArg SA.str (map_take_succ g)
  · have g : ¬ k < l.length := by simpa using g
    conv => whnf
    refine endPu rfl (Fz.le_refl F) ?_ rfl
    show SA.str (numbersS l) = SA.str ((l.take k).map fun n => (putIR n).1).flatten
    rw [numbersS, List.take_of_length_le (by omega)]
set_option maxHeartbeats 1000000 in
theorem text_fn (F : Fz) (sa : SA) (l : List (List UInt8)) (ha : StrsAt F sa l) (hl : l.length < 1000000) (hs : ∀ s ∈ l, s.length ≤ 9000000000000000000) :
    Fo Tryz.prog F 34 [.va sa] (fun o F' => o = .ret (.va (.str (textS l))) ∧ F' = F) := by
  have hp9 := putIR_len l.length
  obtain ⟨han, hab, hae, hac, haL, har, rfl, ha1, ha2, ha3, ha4⟩ := ha
  refine fo_of hΘ Tryz.func34 rfl (by decide) _ _ rfl rfl rfl ?_
  conv => whnf
  refine usePu (rputInt_fn F l.length) rfl (argsE_refl _) rfl ?_
  conv => whnf
  refine loop_at hΘ (X := { k : Nat // k ≤ l.length }) (fun k => [(3, .va (.str ((putIR l.length).1 ++ (((l.take k.1).map fun s => (putSR s).1).flatten)))), (5, .va (.int .i64 k.1))]) [6, 7, 14, 15, 16, 17, 18, 19, 20, 21, 22, 23, 24, 25, 26, 27, 28, 29, 30] (fz fun _ => F) 1 (fun k => l.length - k.1) ⟨0, by simp⟩
    (fun hH hT => le0 hH hT rfl (Fz.le_refl F) rfl ⟨congrArg SA.str (by simp), rfl, trivial⟩) ?_
  rintro ⟨k, hk⟩ hH hT
  conv => whnf
  refine br (fun g => ?_) (fun g => ?_)
  · have g : k < l.length := by simpa using g
    have h9 := flat_len putSR_len (l.take k)
    have h8 := putSR_len l[k]
    rw [List.length_take] at h9
    conv => whnf
    refine ⟨Sl.lt ha1 g, ⟨by simp, by simpa using g⟩, ?_⟩
    conv => whnf
    refine ⟨_, ha2 (Sl.lt ha1 g), ?_⟩
    conv => whnf
    refine ⟨_, Sl.at ha4 g, ?_⟩
    conv => whnf
    refine usePu (rputString_fn F l[k] (hs _ (List.getElem_mem g))) rfl (argsE_refl _) rfl ?_
    conv => whnf
    refine ⟨by dsimp only; rw [List.length_append]; omega, ?_⟩
    conv => whnf
    refine ⟨⟨k + 1, by omega⟩, by show l.length - (k + 1) < l.length - k; omega, lr0 hH hT rfl (Fz.le_refl F) rfl ⟨?_, cnt (by omega), trivial⟩⟩
    exact congrArg SA.str (by rw [List.append_assoc, ← map_take_succ g])
  · have g : ¬ k < l.length := by simpa using g
    conv => whnf
    refine endPu rfl (Fz.le_refl F) ?_ rfl
    show SA.str (textS l) = SA.str ((putIR l.length).1 ++ ((l.take k).map fun s => (putSR s).1).flatten)
    rw [textS, List.take_of_length_le (by omega)]
end Go.Proofs.YtblllibdahkgfaaGreatDoor

namespace Go.Proofs.YtblllibdahkgfaaGreatDoor
open Go Sx
set_option maxRecDepth 100000
def decZ : List UInt8 → Nat → Nat → Nat → Option (Nat × Nat × UInt8)
  | _, 0, _, _ => none
  | [], _ + 1, _, _ => none
  | b :: r, f + 1, i, z => if 128 ≤ b.toNat then decZ r f (i + 1) (z + b.toNat % 128 * 128 ^ i) else some (z + b.toNat * 128 ^ i, i, b)
def unz (z : Nat) : Int := if z % 2 = 1 then -((z / 2 : Nat) : Int) - 1 else ((z / 2 : Nat) : Int)
def getI (s : List UInt8) (at_ : Int) : Int × Int × Int :=
  if at_ < 0 ∨ (s.length : Int) < at_ then (0, 0, 2) else
  match decZ (s.drop at_.toNat) 9 0 0 with
  | none => (0, 0, 10)
  | some (z, i, b) => if (b = 0 ∧ 0 < i) ∨ unz z < -4611686018427387903 then (0, 0, 10) else (unz z, at_ + i + 1, 0)
theorem and127 (b : UInt8) : bAnd .u8 (b.toNat : Int) 127 = ((b.toNat % 128 : Nat) : Int) := by
  have hb := b.toNat_lt
  have h1 : (BitVec.ofInt IntKind.u8.bits (b.toNat : Int) &&& BitVec.ofInt IntKind.u8.bits 127).toNat = b.toNat % 128 := by
    show (BitVec.ofInt 8 (b.toNat : Int) &&& BitVec.ofInt 8 127).toNat = _
    rw [BitVec.toNat_and, BitVec.ofInt_natCast, BitVec.toNat_ofNat]
    show b.toNat % 256 &&& 127 = _
    rw [Nat.mod_eq_of_lt hb]
    exact Nat.and_two_pow_sub_one_eq_mod b.toNat 7
  rw [bAnd, h1, wrapu8 (by omega) (by omega)]
theorem or_lt {z m i : Nat} (hz : z < 128 ^ i) : z ||| (m * 128 ^ i) = z + m * 128 ^ i := by
  have e : 128 ^ i = 2 ^ (7 * i) := by rw [Nat.pow_mul]
  rw [e] at hz ⊢
  have := Nat.two_pow_add_eq_or_of_lt hz m
  rw [Nat.mul_comm m, Nat.or_comm, ← this, Nat.add_comm]
theorem pow9 {i : Nat} (h : i ≤ 8) : 128 ^ i ≤ 72057594037927936 := by
  have : 128 ^ i ≤ 128 ^ 8 := Nat.pow_le_pow_right (by omega) h
  exact this
theorem shl7 (m i : Nat) (hm : m < 128) (hi : i ≤ 8) : shlI .u64 (m : Int) (IntKind.i64.wrap (7 * (i : Int))) = ((m * 128 ^ i : Nat) : Int) := by
  have hp := pow9 hi
  have h1 : m * 128 ^ i ≤ 127 * 72057594037927936 := Nat.mul_le_mul (by omega) hp
  have e : (IntKind.i64.wrap (7 * (i : Int))).toNat = 7 * i := by rw [wrap64_id (by omega) (by omega)]; omega
  rw [shlI, e, Nat.min_eq_left (show 7 * i ≤ IntKind.u64.bits by show 7 * i ≤ 64; omega)]
  have e2 : (m : Int) * 2 ^ (7 * i) = ((m * 128 ^ i : Nat) : Int) := by
    rw [show (128 : Nat) ^ i = 2 ^ (7 * i) by rw [Nat.pow_mul]]; simp
  rw [e2, wrapu64 (by omega) (by omega)]
theorem or7 {z m i : Nat} (hz : z < 128 ^ i) (hm : m < 128) (hi : i ≤ 8) : bOr .u64 (z : Int) ((m * 128 ^ i : Nat) : Int) = ((z + m * 128 ^ i : Nat) : Int) := by
  have hp := pow9 hi
  have h1 : m * 128 ^ i ≤ 127 * 72057594037927936 := Nat.mul_le_mul (by omega) hp
  have h2 : (BitVec.ofInt IntKind.u64.bits (z : Int) ||| BitVec.ofInt IntKind.u64.bits ((m * 128 ^ i : Nat) : Int)).toNat = z + m * 128 ^ i := by
    show (BitVec.ofInt 64 (z : Int) ||| BitVec.ofInt 64 ((m * 128 ^ i : Nat) : Int)).toNat = _
    rw [BitVec.toNat_or, BitVec.ofInt_natCast, BitVec.ofInt_natCast, BitVec.toNat_ofNat, BitVec.toNat_ofNat, Nat.mod_eq_of_lt (by omega), Nat.mod_eq_of_lt (by omega)]
    exact or_lt hz
  rw [bOr, h2, wrapu64 (by omega) (by omega)]
/-- One byte more. -/
theorem acc7 {z i : Nat} (b : UInt8) (hz : z < 128 ^ i) (hi : i ≤ 8) : bOr .u64 (z : Int) (shlI .u64 (IntKind.u64.wrap (bAnd .u8 (b.toNat : Int) 127)) (IntKind.i64.wrap (7 * (i : Int)))) = ((z + b.toNat % 128 * 128 ^ i : Nat) : Int) := by
  have hm : b.toNat % 128 < 128 := Nat.mod_lt _ (by omega)
  rw [and127, wrapu64 (by omega) (by omega), shl7 _ _ hm hi, or7 hz hm hi]
theorem acc_lt {z i m : Nat} (hz : z < 128 ^ i) (hm : m < 128) : z + m * 128 ^ i < 128 ^ (i + 1) := by
  rw [Nat.pow_succ]
  have : m * 128 ^ i ≤ 127 * 128 ^ i := Nat.mul_le_mul_right _ (by omega)
  omega
theorem and1 (z : Nat) (h : z < 18446744073709551616) : bAnd .u64 (z : Int) 1 = ((z % 2 : Nat) : Int) := by
  have h1 : (BitVec.ofInt IntKind.u64.bits (z : Int) &&& BitVec.ofInt IntKind.u64.bits 1).toNat = z % 2 := by
    show (BitVec.ofInt 64 (z : Int) &&& BitVec.ofInt 64 1).toNat = _
    rw [BitVec.toNat_and, BitVec.ofInt_natCast, BitVec.toNat_ofNat, Nat.mod_eq_of_lt h]
    exact Nat.and_one_is_mod z
  rw [bAnd, h1, wrapu64 (by omega) (by omega)]
theorem unz_eq (z : Nat) (h : z < 9223372036854775808) : bXor .i64 (IntKind.i64.wrap (shrI .u64 (z : Int) 1)) (IntKind.i64.wrap (0 - IntKind.i64.wrap (bAnd .u64 (z : Int) 1))) = unz z := by
  have e1 : shrI .u64 (z : Int) 1 = ((z / 2 : Nat) : Int) := by
    show (z : Int).fdiv (2 ^ 1) = _
    rw [Int.fdiv_eq_ediv_of_nonneg _ (by decide)]; rfl
  rw [e1, and1 z (by omega), wrap64_id (n := ((z / 2 : Nat) : Int)) (by omega) (by omega), wrap64_id (n := ((z % 2 : Nat) : Int)) (by omega) (by omega), wrap64_id (n := 0 - _) (by omega) (by omega)]
  by_cases ho : z % 2 = 1
  · rw [ho, unz, if_pos ho]
    have h2 : (BitVec.ofInt IntKind.i64.bits ((z / 2 : Nat) : Int) ^^^ BitVec.ofInt IntKind.i64.bits (0 - ((1 : Nat) : Int))).toNat = 18446744073709551615 - z / 2 := by
      show (BitVec.ofInt 64 ((z / 2 : Nat) : Int) ^^^ BitVec.ofInt 64 (0 - ((1 : Nat) : Int))).toNat = _
      have : BitVec.ofInt 64 (0 - ((1 : Nat) : Int)) = BitVec.allOnes 64 := by decide
      rw [this, BitVec.xor_allOnes, BitVec.toNat_not, BitVec.ofInt_natCast, BitVec.toNat_ofNat, Nat.mod_eq_of_lt (by omega)]
    rw [bXor, h2, IntKind.wrap_i64]; omega
  · have h0 : z % 2 = 0 := by omega
    rw [h0, unz, if_neg ho]
    have h2 : (BitVec.ofInt IntKind.i64.bits ((z / 2 : Nat) : Int) ^^^ BitVec.ofInt IntKind.i64.bits (0 - ((0 : Nat) : Int))).toNat = z / 2 := by
      show (BitVec.ofInt 64 ((z / 2 : Nat) : Int) ^^^ BitVec.ofInt 64 (0 - ((0 : Nat) : Int))).toNat = _
      have : BitVec.ofInt 64 (0 - ((0 : Nat) : Int)) = 0#64 := by decide
      rw [this, BitVec.xor_zero, BitVec.ofInt_natCast, BitVec.toNat_ofNat, Nat.mod_eq_of_lt (by omega)]
    rw [bXor, h2, wrap64_id (by omega) (by omega)]
end Go.Proofs.YtblllibdahkgfaaGreatDoor
