import Derived.Test.YtblllibdahkgfaaGreatDoorK28
import Derived.Test.YtblllibdahkgfaaGreatDoorK26

namespace Go.Proofs.YtblllibdahkgfaaGreatDoor
open Go Sx
set_option maxRecDepth 100000
theorem witEnd {F F1 : Fz} {p : Int} {t : List UInt8} {h : Hp} {nx : Nat} (ht : writeS p (witV p) = t) (hle : Fz.le F F1) (h0 : lget h 0 = some (.frz F1)) :
    Cln 1 (FoK F fun o F' => o = .ret (.va (.str (writeS p (witV p))))) (.ret (.va (.str t))) h nx := by
  rw [ht]
  exact endFo (.ret (.va (.str t))) F1 h0 hle (Fz.le_refl F1) rfl (outE_refl _) rfl
set_option maxHeartbeats 4000000 in
theorem wit2_fn (F : Fz) : Fo Tryz.prog F 29 [.va (.int .i64 2)] (fun o F' => o = .ret (.va (.str (writeS 2 (witV 2))))) := by
  have e : writeS 2 (witV 2) = numbersS [8, 0, 1, 2, 3, 4, 5, 6, 7] := by
    simp [writeS, witV, lineW, numbersS]
  refine fo_of hΘ Tryz.func29 rfl (by decide) _ _ rfl rfl rfl ?_
  conv => whnf
  refine br (fun g => absurd g (by decide)) (fun _ => ?_)
  conv => whnf
  refine br (fun _ => ?_) (fun g => absurd g (by decide))
  conv => whnf
  refine freezeC 1 (fun _ => .arr 3 1 (([8, 0, 1, 2, 3, 4, 5, 6, 7] : List Int).map encI) 9) rfl rfl rfl (fun _ _ => rfl) (fun _ _ => SB.bB_ok rfl) ?_
  intro b1 A1 k1 hb1
  refine usePu (numbers_fn A1 _ _ (Sl.new (l := ([8, 0, 1, 2, 3, 4, 5, 6, 7] : List Int)) (cap := 9) (hb1 0 rfl)) (by decide)) rfl ⟨⟨rfl, rfl, rfl, .inr ⟨rfl, rfl, rfl, rfl⟩⟩, trivial⟩ rfl ?_
  conv => whnf
  exact witEnd e k1 rfl
set_option maxHeartbeats 4000000 in
theorem wit3_fn (F : Fz) : Fo Tryz.prog F 29 [.va (.int .i64 3)] (fun o F' => o = .ret (.va (.str (writeS 3 (witV 3))))) := by
  have e : writeS 3 (witV 3) = numbersS [1, 0, 0, 1555] := by
    simp [writeS, witV, lineW, numbersS]
  refine fo_of hΘ Tryz.func29 rfl (by decide) _ _ rfl rfl rfl ?_
  conv => whnf
  refine br (fun g => absurd g (by decide)) (fun _ => ?_)
  conv => whnf
  refine br (fun g => absurd g (by decide)) (fun _ => ?_)
  conv => whnf
  refine br (fun _ => ?_) (fun g => absurd g (by decide))
  conv => whnf
  refine br (fun _ => ?_) (fun g => absurd g (by decide))
  conv => whnf
  refine freezeC 1 (fun _ => .arr 3 1 (([1, 0, 0, 1555] : List Int).map encI) 4) rfl rfl rfl (fun _ _ => rfl) (fun _ _ => SB.bB_ok rfl) ?_
  intro b1 A1 k1 hb1
  refine usePu (numbers_fn A1 _ _ (Sl.new (l := ([1, 0, 0, 1555] : List Int)) (cap := 4) (hb1 0 rfl)) (by decide)) rfl ⟨⟨rfl, rfl, rfl, .inr ⟨rfl, rfl, rfl, rfl⟩⟩, trivial⟩ rfl ?_
  conv => whnf
  exact witEnd e k1 rfl
set_option maxHeartbeats 4000000 in
theorem wit5_fn (F : Fz) : Fo Tryz.prog F 29 [.va (.int .i64 5)] (fun o F' => o = .ret (.va (.str (writeS 5 (witV 5))))) := by
  have e : writeS 5 (witV 5) = numbersS [1, 0, 0, 1555] := by
    simp [writeS, witV, lineW, numbersS]
  refine fo_of hΘ Tryz.func29 rfl (by decide) _ _ rfl rfl rfl ?_
  conv => whnf
  refine br (fun g => absurd g (by decide)) (fun _ => ?_)
  conv => whnf
  refine br (fun g => absurd g (by decide)) (fun _ => ?_)
  conv => whnf
  refine br (fun g => absurd g (by decide)) (fun _ => ?_)
  conv => whnf
  refine br (fun _ => ?_) (fun g => absurd g (by decide))
  conv => whnf
  refine freezeC 1 (fun _ => .arr 3 1 (([1, 0, 0, 1555] : List Int).map encI) 4) rfl rfl rfl (fun _ _ => rfl) (fun _ _ => SB.bB_ok rfl) ?_
  intro b1 A1 k1 hb1
  refine usePu (numbers_fn A1 _ _ (Sl.new (l := ([1, 0, 0, 1555] : List Int)) (cap := 4) (hb1 0 rfl)) (by decide)) rfl ⟨⟨rfl, rfl, rfl, .inr ⟨rfl, rfl, rfl, rfl⟩⟩, trivial⟩ rfl ?_
  conv => whnf
  exact witEnd e k1 rfl
set_option maxHeartbeats 4000000 in
theorem wit4_fn (F : Fz) : Fo Tryz.prog F 29 [.va (.int .i64 4)] (fun o F' => o = .ret (.va (.str (writeS 4 (witV 4))))) := by
  have e : writeS 4 (witV 4) = numbersS [0] := by
    simp [writeS, witV, lineW, numbersS]
  refine fo_of hΘ Tryz.func29 rfl (by decide) _ _ rfl rfl rfl ?_
  conv => whnf
  refine br (fun g => absurd g (by decide)) (fun _ => ?_)
  conv => whnf
  refine br (fun g => absurd g (by decide)) (fun _ => ?_)
  conv => whnf
  refine br (fun g => absurd g (by decide)) (fun _ => ?_)
  conv => whnf
  refine br (fun g => absurd g (by decide)) (fun _ => ?_)
  conv => whnf
  refine br (fun _ => ?_) (fun g => absurd g (by decide))
  conv => whnf
  refine freezeC 1 (fun _ => .arr 3 1 (([0] : List Int).map encI) 1) rfl rfl rfl (fun _ _ => rfl) (fun _ _ => SB.bB_ok rfl) ?_
  intro b1 A1 k1 hb1
  refine usePu (numbers_fn A1 _ _ (Sl.new (l := ([0] : List Int)) (cap := 1) (hb1 0 rfl)) (by decide)) rfl ⟨⟨rfl, rfl, rfl, .inr ⟨rfl, rfl, rfl, rfl⟩⟩, trivial⟩ rfl ?_
  conv => whnf
  exact witEnd e k1 rfl
set_option maxHeartbeats 4000000 in
theorem wit6_fn (F : Fz) : Fo Tryz.prog F 29 [.va (.int .i64 6)] (fun o F' => o = .ret (.va (.str (writeS 6 (witV 6))))) := by
  have e : writeS 6 (witV 6) = numbersS [32, 32] := by
    simp [writeS, witV, lineW, numbersS]
  refine fo_of hΘ Tryz.func29 rfl (by decide) _ _ rfl rfl rfl ?_
  conv => whnf
  refine br (fun g => absurd g (by decide)) (fun _ => ?_)
  conv => whnf
  refine br (fun g => absurd g (by decide)) (fun _ => ?_)
  conv => whnf
  refine br (fun g => absurd g (by decide)) (fun _ => ?_)
  conv => whnf
  refine br (fun g => absurd g (by decide)) (fun _ => ?_)
  conv => whnf
  refine br (fun g => absurd g (by decide)) (fun _ => ?_)
  conv => whnf
  refine br (fun _ => ?_) (fun g => absurd g (by decide))
  conv => whnf
  refine freezeC 1 (fun _ => .arr 3 1 (([32, 32] : List Int).map encI) 2) rfl rfl rfl (fun _ _ => rfl) (fun _ _ => SB.bB_ok rfl) ?_
  intro b1 A1 k1 hb1
  refine usePu (numbers_fn A1 _ _ (Sl.new (l := ([32, 32] : List Int)) (cap := 2) (hb1 0 rfl)) (by decide)) rfl ⟨⟨rfl, rfl, rfl, .inr ⟨rfl, rfl, rfl, rfl⟩⟩, trivial⟩ rfl ?_
  conv => whnf
  exact witEnd e k1 rfl
set_option maxHeartbeats 4000000 in
theorem wit8_fn (F : Fz) : Fo Tryz.prog F 29 [.va (.int .i64 8)] (fun o F' => o = .ret (.va (.str (writeS 8 (witV 8))))) := by
  have e : writeS 8 (witV 8) = numbersS [0, 0] := by
    simp [writeS, witV, lineW, numbersS]
  refine fo_of hΘ Tryz.func29 rfl (by decide) _ _ rfl rfl rfl ?_
  conv => whnf
  refine br (fun g => absurd g (by decide)) (fun _ => ?_)
  conv => whnf
  refine br (fun g => absurd g (by decide)) (fun _ => ?_)
  conv => whnf
  refine br (fun g => absurd g (by decide)) (fun _ => ?_)
  conv => whnf
  refine br (fun g => absurd g (by decide)) (fun _ => ?_)
  conv => whnf
  refine br (fun g => absurd g (by decide)) (fun _ => ?_)
  conv => whnf
  refine br (fun g => absurd g (by decide)) (fun _ => ?_)
  conv => whnf
  refine br (fun g => absurd g (by decide)) (fun _ => ?_)
  conv => whnf
  refine freezeC 1 (fun _ => .arr 3 1 (([0, 0] : List Int).map encI) 2) rfl rfl rfl (fun _ _ => rfl) (fun _ _ => SB.bB_ok rfl) ?_
  intro b1 A1 k1 hb1
  refine usePu (numbers_fn A1 _ _ (Sl.new (l := ([0, 0] : List Int)) (cap := 2) (hb1 0 rfl)) (by decide)) rfl ⟨⟨rfl, rfl, rfl, .inr ⟨rfl, rfl, rfl, rfl⟩⟩, trivial⟩ rfl ?_
  conv => whnf
  exact witEnd e k1 rfl
end Go.Proofs.YtblllibdahkgfaaGreatDoor

namespace Go.Proofs.YtblllibdahkgfaaGreatDoor
open Go Sx
set_option maxRecDepth 100000
set_option maxHeartbeats 4000000 in
theorem wit1_fn (F : Fz) : Fo Tryz.prog F 29 [.va (.int .i64 1)] (fun o F' => o = .ret (.va (.str (writeS 1 (witV 1))))) := by
  have e : writeS 1 (witV 1) = textS [[65, 32, 32, 98]] := by
    simp [writeS, witV, lineW, numbersS, textS]
  refine fo_of hΘ Tryz.func29 rfl (by decide) _ _ rfl rfl rfl ?_
  conv => whnf
  refine br (fun _ => ?_) (fun g => absurd g (by decide))
  conv => whnf
  refine freezeC 1 (fun _ => .arr 9 1 (([[65, 32, 32, 98]] : List (List UInt8)).map encS) 1) rfl rfl rfl (fun _ _ => rfl) (fun _ _ => SB.bB_ok rfl) ?_
  intro b1 A1 k1 hb1
  refine usePu (text_fn A1 _ _ (Sl.new (l := ([[65, 32, 32, 98]] : List (List UInt8))) (cap := 1) (hb1 0 rfl)) (by decide) (by simp)) rfl ⟨⟨rfl, rfl, rfl, .inr ⟨rfl, rfl, rfl, rfl⟩⟩, trivial⟩ rfl ?_
  conv => whnf
  exact witEnd e k1 rfl
/-- A loop that appends noughts. -/
theorem noughts {k : Nat} : List.replicate k (48 : UInt8) ++ [48] = List.replicate (k + 1) 48 := by rw [List.replicate_succ']
set_option maxHeartbeats 8000000 in
theorem wit7_fn (F : Fz) : Fo Tryz.prog F 29 [.va (.int .i64 7)] (fun o F' => o = .ret (.va (.str (writeS 7 (witV 7))))) := by
  obtain ⟨N, hN⟩ : ∃ N : List UInt8, List.replicate 1024 48 = N := ⟨_, rfl⟩
  have hN2 : N.length = 1024 := by rw [← hN, List.length_replicate]
  have e : writeS 7 (witV 7) = numbersS [32, 32] ++ (putSR N).1 := by
    have h1 : witV 7 = ⟨false, [], 32, 32, N⟩ := by
      rw [witV, if_neg (by decide), if_neg (by decide), if_neg (by decide), if_neg (by decide), if_neg (by decide), if_pos rfl, hN]
    rw [h1, writeS, if_neg (by simp), if_pos (by decide), if_pos rfl]
  have hps := fun G => rputString_fn G N (by rw [hN2]; decide)
  have hln := putSR_len N
  have hnn := numbersS_len [32, 32]
  have hcat : (numbersS [32, 32]).length + (putSR N).1.length ≤ 9223372036854775807 := by
    simp only [List.length_cons, List.length_nil] at hnn
    omega
  refine fo_of hΘ Tryz.func29 rfl (by decide) _ _ rfl rfl rfl ?_
  conv => whnf
  refine br (fun g => absurd g (by decide)) (fun _ => ?_)
  conv => whnf
  refine br (fun g => absurd g (by decide)) (fun _ => ?_)
  conv => whnf
  refine br (fun g => absurd g (by decide)) (fun _ => ?_)
  conv => whnf
  refine br (fun g => absurd g (by decide)) (fun _ => ?_)
  conv => whnf
  refine br (fun g => absurd g (by decide)) (fun _ => ?_)
  conv => whnf
  refine br (fun g => absurd g (by decide)) (fun _ => ?_)
  conv => whnf
  refine br (fun _ => ?_) (fun g => absurd g (by decide))
  conv => whnf
  refine loop_at hΘ (X := { y : Nat × List UInt8 × Nat // y.1 ≤ 1024 ∧ y.2.1 = List.replicate y.1 48 }) (fun y => [(3, .va (gA 1 1 y.1.2.2 y.1.2.1)), (4, .va (.int .i64 y.1.1))]) [31, 32, 33, 34, 35, 36, 37] (fun y => [(0, .frz F), (1, gE 5 1 encB y.1.2.2 y.1.2.1)]) 2 (fun y => 1024 - y.1.1) ⟨(0, [], 0), by simp⟩
    (fun hH hT => leI [(1, 1)] hH hT rfl ⟨trivial, gE_below encB_plain _ _ _ _ _, trivial⟩ ⟨rfl, rfl, trivial⟩ ⟨Fz.le_refl F, rfl, trivial⟩) ?_
  rintro ⟨⟨k, L, c⟩, hk, hL⟩ hH hT
  replace hk : k ≤ 1024 := hk
  replace hL : L = List.replicate k 48 := hL
  have hlen : L.length ≤ 1024 := by rw [hL, List.length_replicate]; exact hk
  by_cases gk : k < 1024
  · have hlt : (k : Int) < 1024 := by omega
    have hk1 : k + 1 ≤ 1024 := gk
    have hnx : L ++ [48] = List.replicate (k + 1) 48 := by rw [hL, noughts]
    have hdec : 1024 - (k + 1) < 1024 - k := by omega
    have hk62 : k < 4611686018427387904 := by omega
    rcases L with _ | ⟨l0, lr⟩
    · skip
      conv => whnf
      refine br (fun _ => ?_) (fun g => absurd hlt (of_decide_eq_false g))
      conv => whnf
      refine ⟨Nat.le_of_ble_eq_true rfl, [encB 48], rfl, ?_⟩
      conv => whnf
      refine ⟨rfl, rfl, ?_⟩
      conv => whnf
      refine ⟨by decide, fun c' hc => ?_⟩
      conv => whnf
      exact ⟨⟨(k + 1, [] ++ [48], c'), hk1, hnx⟩, hdec, leR [(1, 3)] hH hT rfl ⟨trivial, gE_below encB_plain _ _ _ _ _, trivial⟩ ⟨gA_new (μ := sig [(1, 3)]) (i := 1) (j := 3) rfl 1 c' _ [] 48 rfl, cnt hk62, trivial⟩ ⟨Fz.le_refl F, sub_gE encB_plain (gE_one _ (by simp)), trivial⟩⟩
    · have hsz : (lr.length + 1 + 1) * 1 ≤ 140737488355328 := by
        have h9 : lr.length + 1 ≤ 1024 := hlen
        omega
      conv => whnf
      refine br (fun _ => ?_) (fun g => absurd hlt (of_decide_eq_false g))
      conv => whnf
      refine ⟨Nat.le_of_ble_eq_true rfl, [encB 48], rfl, ?_⟩
      conv => whnf
      refine ⟨rfl, rfl, by simp, rfl, hsz, fun c' hc => ?_⟩
      conv => whnf
      exact ⟨⟨(k + 1, (l0 :: lr) ++ [48], c'), hk1, hnx⟩, hdec, leR [(1, 3)] hH hT rfl ⟨trivial, gE_below encB_plain _ _ _ _ _, trivial⟩ ⟨gA_new (μ := sig [(1, 3)]) (i := 1) (j := 3) rfl 1 c' _ (l0 :: lr) 48 rfl, cnt hk62, trivial⟩ ⟨Fz.le_refl F, sub_gE encB_plain (gE_one _ (by simp)), trivial⟩⟩
  · have hge : ¬ (k : Int) < 1024 := by omega
    have hk24 : k = 1024 := by omega
    rw [hk24, hN] at hL
    subst hL
    rcases L with _ | ⟨l0, lr⟩
    · exact absurd hN2 (by simp)
    have hconv : (((l0 :: lr).map encB).drop 0).take (lr.length + 1) = (l0 :: lr).map encB := by rw [List.drop_zero, List.take_of_length_le (by simp)]
    have hps' := hps F
    have hcv2 : 0 + (lr.length + 1) ≤ ((l0 :: lr).map encB).length := by simp
    conv => whnf
    refine br (fun g => absurd (of_decide_eq_true g) hge) (fun _ => ?_)
    conv => whnf
    refine ⟨rfl, ?_⟩
    conv => whnf
    refine ⟨hcv2, (l0 :: lr).map encB, hconv, l0 :: lr, rfl, ?_⟩
    conv => whnf
    refine usePu hps' rfl ⟨rfl, trivial⟩ rfl ?_
    conv => whnf
    refine freezeC 2 (fun _ => .arr 3 1 (([32, 32] : List Int).map encI) 2) rfl rfl rfl (fun _ _ => rfl) (fun _ _ => SB.bB_ok rfl) ?_
    intro b1 A1 k1 hb1
    refine usePu (numbers_fn A1 _ _ (Sl.new (l := ([32, 32] : List Int)) (cap := 2) (hb1 0 rfl)) (by decide)) rfl ⟨⟨rfl, rfl, rfl, .inr ⟨rfl, rfl, rfl, rfl⟩⟩, trivial⟩ rfl ?_
    conv => whnf
    refine ⟨hcat, ?_⟩
    conv => whnf
    exact witEnd e k1 rfl
/-- The witness. -/
theorem wit_fn (F : Fz) {p : Int} (hp : 1 ≤ p ∧ p ≤ 8) : Fo Tryz.prog F 29 [.va (.int .i64 p)] (fun o F' => o = .ret (.va (.str (writeS p (witV p))))) := by
  rcases p8 hp with rfl | rfl | rfl | rfl | rfl | rfl | rfl | rfl
  · exact wit1_fn F
  · exact wit2_fn F
  · exact wit3_fn F
  · exact wit4_fn F
  · exact wit5_fn F
  · exact wit6_fn F
  · exact wit7_fn F
  · exact wit8_fn F
end Go.Proofs.YtblllibdahkgfaaGreatDoor

namespace Go.Proofs.YtblllibdahkgfaaGreatDoor
open Go Sx
set_option maxRecDepth 100000
set_option maxHeartbeats 16000000 in
theorem law4_fn (F0 : Fz) (m0 : MLF F0) (p : Int) (hp : i64 p) (nv n1 n2 : Bool) (bv b1 b2 ev e1 e2 sv s1 s2 lv l1 l2 cv c1 c2 : Nat) (x y : List Int)
    (hv : SomeArg F0 (.slice nv 0 bv ev sv lv cv)) (hx : StepsArg F0 (.slice n1 0 b1 e1 s1 l1 c1) x) (hy : StepsArg F0 (.slice n2 0 b2 e2 s2 l2 c2) y) :
    Fo Tryz.prog F0 6 [.va (.int .i64 p), .va (.slice nv 0 bv ev sv lv cv), .va (.slice n1 0 b1 e1 s1 l1 c1), .va (.slice n2 0 b2 e2 s2 l2 c2)] (fun o F' => o = .ret (.va (.bool true)) ∧ True) := by
  have hpr := pickI_lt p 8 (by omega) hp
  have hsane := saneL F0 m0
  have hprop := property_pu p hp
  obtain ⟨P, hP⟩ : ∃ P, P = 1 + pickI p 8 := ⟨_, rfl⟩
  have hP8 : 1 ≤ P ∧ P ≤ 8 := by omega
  rw [← hP] at hprop
  have va := stepsS_valid hP8 x
  have vb := stepsS_valid hP8 y
  obtain ⟨a, hA⟩ : ∃ a, stepsS P x = a := ⟨_, rfl⟩
  obtain ⟨b, hB⟩ : ∃ b, stepsS P y = b := ⟨_, rfl⟩
  rw [hA] at va
  rw [hB] at vb
  have hlen0 := norm_le hP8 a (valid_ok va)
  have hlen : ¬ ((a.length : Nat) : Int) < ((normS a).length : Nat) := by omega
  have hwv := wit_ok hP8
  have hwi := wit_iff va vb
  have hlast : ((writeS P (runS a (witV P)) == writeS P (runS b (witV P))) == decide (normS a = normS b)) = true := by
    by_cases h : normS a = normS b
    · rw [decide_eq_true h, beq_iff_eq.2 (hwi.2 h)]; rfl
    · rw [decide_eq_false h, beq_eq_false_iff_ne.2 (fun h2 => h (hwi.1 h2))]; rfl
  have fin : ∀ (t : Bool) (F1 : Fz) (h : Hp) (nx : Nat), t = true → lget h 0 = some (.frz F1) → Fz.le F0 F1 → Cln 1 (FoK F0 fun o F' => o = .ret (.va (.bool true)) ∧ True) (.ret (.va (.bool t))) h nx := by
    intro t F1 h nx ht h0 hle
    subst ht
    exact endFo (.ret (.va (.bool true))) F1 h0 hle (Fz.le_refl F1) ⟨rfl, trivial⟩ (outE_refl _) rfl
  refine fo_of hΘ Tryz.func6 rfl (by decide) _ _ rfl rfl rfl ?_
  conv => whnf
  refine useFo hsane rfl (argsE_refl _) rfl ?_
  rintro _ F1 u1 ⟨rfl, -⟩
  conv => whnf
  refine usePu (hprop F1) rfl (argsE_refl _) rfl ?_
  conv => whnf
  refine useFo (hv P F1 hP8 u1) rfl ⟨rfl, ⟨rfl, rfl, rfl, .inr ⟨rfl, rfl, rfl, rfl⟩⟩, trivial⟩ rfl ?_
  rintro _ F2 u ⟨v, vok, rfl⟩
  have u2 := Fz.le_trans u1 u
  clear u
  conv => whnf
  refine useFo (hx P F2 hP8 u2) rfl ⟨rfl, ⟨rfl, rfl, rfl, .inr ⟨rfl, rfl, rfl, rfl⟩⟩, trivial⟩ rfl ?_
  rintro _ F3 u ⟨sa, rfl, ha⟩
  rw [hA] at ha
  have u3 := Fz.le_trans u2 u
  clear u
  have ha' := ha
  obtain ⟨han, hab, hae, hac, haL, har, rfl, ha1, ha2, ha3, ha4⟩ := ha
  conv => whnf
  refine useFo (hy P F3 hP8 u3) rfl ⟨rfl, ⟨rfl, rfl, rfl, .inr ⟨rfl, rfl, rfl, rfl⟩⟩, trivial⟩ rfl ?_
  rintro _ F4 u ⟨sb, rfl, hb⟩
  rw [hB] at hb
  have u4 := Fz.le_trans u3 u
  have ha4 := ha'.mono u
  clear u ha'
  have hb' := hb
  obtain ⟨hbn, hbb, hbe, hbc, hbL, hbr, rfl, hb1, hb2, hb3, hb4⟩ := hb
  conv => whnf
  refine useFo (normOk va F4 _ ha4) rfl ⟨rfl, ⟨rfl, rfl, rfl, .inr ⟨rfl, rfl, rfl, rfl⟩⟩, trivial⟩ rfl ?_
  rintro _ F5 u ⟨sm, rfl, hm⟩
  have u5 := Fz.le_trans u4 u
  have ha5 := ha4.mono u
  have hb5 := hb'.mono u
  clear u ha4 hb'
  have hm' := hm
  obtain ⟨hmn, hmb, hme, hmc, hmL, hmr, rfl, hm1, hm2, hm3, hm4⟩ := hm
  conv => whnf
  refine useFo (normOk vb F5 _ hb5) rfl ⟨rfl, ⟨rfl, rfl, rfl, .inr ⟨rfl, rfl, rfl, rfl⟩⟩, trivial⟩ rfl ?_
  rintro _ F6 u ⟨sn, rfl, hn⟩
  have u6 := Fz.le_trans u5 u
  have ha6 := ha5.mono u
  have hb6 := hb5.mono u
  have hm6 := hm'.mono u
  clear u ha5 hb5 hm'
  have hn' := hn
  obtain ⟨hnn, hnb, hne, hnc, hnL, hnr, rfl, hn1, hn2, hn3, hn4⟩ := hn
  conv => whnf
  refine useFo (normOk (normV va) F6 _ hm6) rfl ⟨rfl, ⟨rfl, rfl, rfl, .inr ⟨rfl, rfl, rfl, rfl⟩⟩, trivial⟩ rfl ?_
  rintro _ F7 u ⟨so, rfl, ho⟩
  rw [norm_idem] at ho
  have u7 := Fz.le_trans u6 u
  have ha7 := ha6.mono u
  have hb7 := hb6.mono u
  have hm7 := hm6.mono u
  have hn7 := hn'.mono u
  clear u ha6 hb6 hm6 hn'
  have ho' := ho
  obtain ⟨hon, hob, hoe, hoc, hoL, hor, rfl, ho1, ho2, ho3, ho4⟩ := ho
  have hap1 := applyOk va vok F7 (m0.mono u7) _ ha7
  conv => whnf
  refine useFo (hap1) rfl ⟨rfl, ⟨rfl, rfl, rfl, .inr ⟨rfl, rfl, rfl, rfl⟩⟩, rfl, trivial⟩ rfl ?_
  rintro _ F8 u rfl
  have u8 := Fz.le_trans u7 u
  have ha8 := ha7.mono u
  have hb8 := hb7.mono u
  have hm8 := hm7.mono u
  have hn8 := hn7.mono u
  have ho8 := ho'.mono u
  have hS1 := sameL F8 _ _ _ hm8 ho8 (valid_short (normV va))
  clear u ha7 hb7 hm7 hn7 ho' ho8
  conv => whnf
  iterate 4
    refine ⟨fun _ => ?_, fun g => absurd g (by simp)⟩
    conv => whnf
  refine useFo (hS1) rfl ⟨⟨rfl, rfl, rfl, .inr ⟨rfl, rfl, rfl, rfl⟩⟩, ⟨rfl, rfl, rfl, .inr ⟨rfl, rfl, rfl, rfl⟩⟩, trivial⟩ rfl ?_
  rintro _ F9 _ ⟨rfl, rfl⟩
  have his1 := isOk (normV va) vok (by rw [run_normV va vok]) F9 (m0.mono u8) _ hm8
  conv => whnf
  refine ⟨fun _ => ?_, fun g => absurd (of_decide_eq_true g) hlen⟩
  conv => whnf
  refine useFo (his1) rfl ⟨rfl, ⟨rfl, rfl, rfl, .inr ⟨rfl, rfl, rfl, rfl⟩⟩, rfl, rfl, trivial⟩ rfl ?_
  rintro _ F10 u ⟨rfl, -⟩
  have u10 := Fz.le_trans u8 u
  have ha10 := ha8.mono u
  have hb10 := hb8.mono u
  have hm10 := hm8.mono u
  have hn10 := hn8.mono u
  clear u ha8 hb8 hm8 hn8
  have hW1 := wit_fn F10 hP8
  conv => whnf
  refine useFo (hW1) rfl ⟨rfl, trivial⟩ rfl ?_
  rintro _ F11 u rfl
  have u11 := Fz.le_trans u10 u
  have ha11 := ha10.mono u
  have hb11 := hb10.mono u
  have hm11 := hm10.mono u
  have hn11 := hn10.mono u
  clear u ha10 hb10 hm10 hn10
  have hap2 := applyOk va hwv F11 (m0.mono u11) _ ha11
  conv => whnf
  refine useFo (hap2) rfl ⟨rfl, ⟨rfl, rfl, rfl, .inr ⟨rfl, rfl, rfl, rfl⟩⟩, rfl, trivial⟩ rfl ?_
  rintro _ F12 u rfl
  have u12 := Fz.le_trans u11 u
  have hb12 := hb11.mono u
  have hm12 := hm11.mono u
  have hn12 := hn11.mono u
  clear u ha11 hb11 hm11 hn11
  have hW2 := wit_fn F12 hP8
  conv => whnf
  refine useFo (hW2) rfl ⟨rfl, trivial⟩ rfl ?_
  rintro _ F13 u rfl
  have u13 := Fz.le_trans u12 u
  have hb13 := hb12.mono u
  have hm13 := hm12.mono u
  have hn13 := hn12.mono u
  clear u hb12 hm12 hn12
  have hap3 := applyOk vb hwv F13 (m0.mono u13) _ hb13
  conv => whnf
  refine useFo (hap3) rfl ⟨rfl, ⟨rfl, rfl, rfl, .inr ⟨rfl, rfl, rfl, rfl⟩⟩, rfl, trivial⟩ rfl ?_
  rintro _ F14 u rfl
  have u14 := Fz.le_trans u13 u
  have hm14 := hm13.mono u
  have hn14 := hn13.mono u
  have hS2 := same_fn F14 _ _ _ _ hm14 hn14 (valid_short (normV va))
  conv => whnf
  iterate 2
    refine ⟨fun _ => ?_, fun g => absurd g (by simp)⟩
    conv => whnf
  refine useFo (hS2) rfl ⟨⟨rfl, rfl, rfl, .inr ⟨rfl, rfl, rfl, rfl⟩⟩, ⟨rfl, rfl, rfl, .inr ⟨rfl, rfl, rfl, rfl⟩⟩, trivial⟩ rfl ?_
  rintro _ F15 _ ⟨rfl, rfl⟩
  conv => whnf
  exact fin _ F15 _ _ hlast rfl u14
end Go.Proofs.YtblllibdahkgfaaGreatDoor
