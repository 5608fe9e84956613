import Derived.Test.YtblllibdahkgfaaGreatDoorK27

namespace Go.Proofs.YtblllibdahkgfaaGreatDoor
open Go Sx
set_option maxRecDepth 100000
set_option maxHeartbeats 8000000 in
theorem pair7_fn (F : Fz) (sa sb : SA) (m nr : List Stp) (j : Int) (hml : m.length ≤ 4) (hm : StepsAt F sa m) (hn : StepsAt F sb ((5, j) :: nr)) (hl : nr.length < 1000) :
    Fo Tryz.prog F 30 [.va (.int .i64 7), .va sa, .va sb] (PairK F 7 m ((5, j) :: nr)) := by
  obtain ⟨K, hK⟩ : ∃ K : Nat, 2 ^ m.length = K := ⟨_, rfl⟩
  have hT : shlI .i64 1 (m.length : Nat) = (K : Int) := by
    rw [← hK]
    rcases four hml with h | h | h | h | h <;> rw [h] <;> rfl
  have hK16 : 1 ≤ K ∧ K ≤ 16 := by
    rw [← hK]
    rcases four hml with h | h | h | h | h <;> rw [h] <;> decide
  obtain ⟨N, hN⟩ : ∃ N : List UInt8, List.replicate K 48 = N := ⟨_, rfl⟩
  have hN2 : N.length = K := by rw [← hN, List.length_replicate]
  have hNN : List.replicate (2 ^ (m.length + 1)) (48 : UInt8) = N ++ N := by
    rw [← hN, Nat.pow_succ, hK, List.replicate_append_replicate]; congr 1; omega
  have e1 : writeS 7 (pairV 7 m ((5, j) :: nr)).1 = numbersS [shlI .i64 1 (m.length : Nat), 1] ++ (putSR N).1 := by
    rw [← hN, ← hK]
    rcases four hml with h | h | h | h | h <;> simp [writeS, pairV, lineW, numbersS, textS, h] <;> rfl
  have e2 : writeS 7 (pairV 7 m ((5, j) :: nr)).2 = numbersS [shlI .i64 2 (m.length : Nat), 1] ++ (putSR (N ++ N)).1 := by
    rw [← hNN]
    rcases four hml with h | h | h | h | h <;> simp [writeS, pairV, lineW, numbersS, textS, h] <;> rfl
  have hps := fun G => rputString_fn G N (by rw [hN2]; omega)
  have hps2 := fun G => rputString_fn G (N ++ N) (by rw [List.length_append, hN2]; omega)
  have hln := putSR_len N
  have hln2 := putSR_len (N ++ N)
  have hn1' := numbersS_len [shlI .i64 1 (m.length : Nat), 1]
  have hn2' := numbersS_len [shlI .i64 2 (m.length : Nat), 1]
  simp only [List.length_cons, List.length_nil] at hn1' hn2'
  have hcat1 : (numbersS [shlI .i64 1 (m.length : Nat), 1]).length + (putSR N).1.length ≤ 9223372036854775807 := by omega
  have hcat2 : (numbersS [shlI .i64 2 (m.length : Nat), 1]).length + (putSR (N ++ N)).1.length ≤ 9223372036854775807 := by omega
  have hcat3 : N.length + N.length ≤ 9223372036854775807 := by omega
  clear hln hln2 hn1' hn2' hK hNN
  have h0m : (0 : Int) ≤ (m.length : Nat) := Int.natCast_nonneg _
  have hk6 : ¬ ((5 : Int) = 6) := by decide
  have ghn : 0 < ((5, j) :: nr : List Stp).length := by simp
  have hlthn : (0 : Int) < (((5, j) :: nr : List Stp).length : Nat) := by rw [List.length_cons]; omega
  have hz : ¬ (((((5, j) :: nr : List Stp).length : Nat) : Int) = 0) := by rw [List.length_cons]; omega
  obtain ⟨hmn, hmb, hme, hmc, hmL, hmr, rfl, hm1, hm2, hm3, hm4⟩ := hm
  obtain ⟨hnn, hnb, hne, hnc, hnL, hnr, rfl, hn1, hn2, hn3, hn4⟩ := hn
  have hgethn : hnL[hne + ((0 : Nat) : Int).toNat]? = some (enc (5, j)) := Sl.at (k := 0) hn4 ghn
  refine fo_of hΘ Tryz.func30 rfl (by decide) _ _ rfl rfl rfl ?_
  conv => whnf
  refine br (fun g => absurd (of_decide_eq_true g) hz) (fun _ => ?_)
  conv => whnf
  refine ⟨Sl.lt hn1 ghn, ⟨by simp, hlthn⟩, ?_⟩
  conv => whnf
  refine ⟨_, hn2 (Sl.lt hn1 ghn), ?_⟩
  conv => whnf
  refine ⟨_, hgethn, ?_⟩
  conv => whnf
  refine br (fun g => absurd (of_decide_eq_true g) hk6) (fun _ => ?_)
  conv => whnf
  refine br (fun g => absurd g (by decide)) (fun _ => ?_)
  conv => whnf
  refine br (fun g => absurd g (by decide)) (fun _ => ?_)
  conv => whnf
  refine br (fun g => absurd g (by decide)) (fun _ => ?_)
  conv => whnf
  refine br (fun g => absurd g (by decide)) (fun _ => ?_)
  conv => whnf
  refine br (fun g => absurd g (by decide)) (fun _ => ?_)
  conv => whnf
  refine loop_at hΘ (X := { y : Nat × List UInt8 × Nat // y.1 ≤ K ∧ y.2.1 = List.replicate y.1 48 }) (fun y => [(10, .va (gA 1 1 y.1.2.2 y.1.2.1)), (11, .va (.int .i64 y.1.1))]) [127, 128, 129, 130, 131, 132, 133, 134, 135, 136] (fun y => [(0, .frz F), (1, gE 5 1 encB y.1.2.2 y.1.2.1)]) 2 (fun y => K - y.1.1) ⟨(0, [], 0), by simp⟩
    (fun hH hT => leI [(1, 1)] hH hT rfl ⟨trivial, gE_below encB_plain _ _ _ _ _, trivial⟩ ⟨rfl, rfl, trivial⟩ ⟨Fz.le_refl F, rfl, trivial⟩) ?_
  rintro ⟨⟨k, L, c⟩, hk, hL⟩ hH hT'
  replace hk : k ≤ K := hk
  replace hL : L = List.replicate k 48 := hL
  have hlen : L.length ≤ 16 := by rw [hL, List.length_replicate]; omega
  by_cases gk : k < K
  · have hlt : (k : Int) < shlI .i64 1 (m.length : Nat) := by rw [hT]; omega
    have hk1 : k + 1 ≤ K := gk
    have hnx : L ++ [48] = List.replicate (k + 1) 48 := by rw [hL, noughts]
    have hdec : K - (k + 1) < K - k := by omega
    have hk62 : k < 4611686018427387904 := by omega
    rcases L with _ | ⟨l0, lr⟩
    · skip
      conv => whnf
      refine ⟨h0m, ?_⟩
      conv => whnf
      refine br (fun _ => ?_) (fun g => absurd hlt (of_decide_eq_false g))
      conv => whnf
      refine ⟨Nat.le_of_ble_eq_true rfl, [encB 48], rfl, ?_⟩
      conv => whnf
      refine ⟨rfl, rfl, ?_⟩
      conv => whnf
      refine ⟨by decide, fun c' hc => ?_⟩
      conv => whnf
      exact ⟨⟨(k + 1, [] ++ [48], c'), hk1, hnx⟩, hdec, leR [(1, 3)] hH hT' rfl ⟨trivial, gE_below encB_plain _ _ _ _ _, trivial⟩ ⟨gA_new (μ := sig [(1, 3)]) (i := 1) (j := 3) rfl 1 c' _ [] 48 rfl, cnt hk62, trivial⟩ ⟨Fz.le_refl F, sub_gE encB_plain (gE_one _ (by simp)), trivial⟩⟩
    · have hsz : (lr.length + 1 + 1) * 1 ≤ 140737488355328 := by
        have h9 : lr.length + 1 ≤ 16 := hlen
        omega
      conv => whnf
      refine ⟨h0m, ?_⟩
      conv => whnf
      refine br (fun _ => ?_) (fun g => absurd hlt (of_decide_eq_false g))
      conv => whnf
      refine ⟨Nat.le_of_ble_eq_true rfl, [encB 48], rfl, ?_⟩
      conv => whnf
      refine ⟨rfl, rfl, by simp, rfl, hsz, fun c' hc => ?_⟩
      conv => whnf
      exact ⟨⟨(k + 1, (l0 :: lr) ++ [48], c'), hk1, hnx⟩, hdec, leR [(1, 3)] hH hT' rfl ⟨trivial, gE_below encB_plain _ _ _ _ _, trivial⟩ ⟨gA_new (μ := sig [(1, 3)]) (i := 1) (j := 3) rfl 1 c' _ (l0 :: lr) 48 rfl, cnt hk62, trivial⟩ ⟨Fz.le_refl F, sub_gE encB_plain (gE_one _ (by simp)), trivial⟩⟩
  · have hge : ¬ (k : Int) < shlI .i64 1 (m.length : Nat) := by rw [hT]; omega
    have hk24 : k = K := by omega
    rw [hk24, hN] at hL
    subst hL
    rcases L with _ | ⟨l0, lr⟩
    · exact absurd hN2 (by show ¬ 0 = K; omega)
    have hconv : (((l0 :: lr).map encB).drop 0).take (lr.length + 1) = (l0 :: lr).map encB := by rw [List.drop_zero, List.take_of_length_le (by simp)]
    have hps' := hps F
    have hps2' := hps2 F
    have hcv2 : 0 + (lr.length + 1) ≤ ((l0 :: lr).map encB).length := by simp
    clear hps hps2 hN hN2 hlen hT hk24 gk
    conv => whnf
    refine ⟨h0m, ?_⟩
    conv => whnf
    refine br (fun g => absurd (of_decide_eq_true g) hge) (fun _ => ?_)
    conv => whnf
    refine ⟨rfl, ?_⟩
    conv => whnf
    refine ⟨hcv2, (l0 :: lr).map encB, hconv, l0 :: lr, rfl, ?_⟩
    conv => whnf
    refine usePu hps' rfl ⟨rfl, trivial⟩ rfl ?_
    conv => whnf
    iterate 2
      refine ⟨rfl, ?_⟩
      conv => whnf
      refine ⟨hcv2, (l0 :: lr).map encB, hconv, l0 :: lr, rfl, ?_⟩
      conv => whnf
    refine ⟨hcat3, ?_⟩
    conv => whnf
    refine usePu hps2' rfl ⟨rfl, trivial⟩ rfl ?_
    conv => whnf
    refine drawP hΘ mixed (.look 0 (.look 1 (.look 2 (.look 5 (.look 7 (.look 8 (.look 9 (.look 12 (.alt 3 (.alt 4 (.look 6 (.alt 10 (.alt 11 (.look 13 (.look 14 (.look 15 .done))) .nil) .nil)) (.alt 10 (.alt 4 (.look 6 (.alt 11 (.look 13 (.look 14 (.look 15 .done))) .nil)) .nil) .nil)) (.alt 10 (.alt 3 (.alt 4 (.look 6 (.alt 11 (.look 13 (.look 14 (.look 15 .done))) .nil)) .nil) .nil) .nil)))))))))) [] (by kernel_rfl) ?_
    conv => whnf
    refine ⟨h0m, ?_⟩
    conv => whnf
    refine ⟨h0m, ?_⟩
    conv => whnf
    refine ⟨?_, ?_⟩
    · skip
      conv => whnf
      refine ⟨Fz.le_refl F, ?_⟩
      conv => whnf
      refine ⟨?_, ?_⟩
      · skip
        conv => whnf
        refine freezeC 2 (fun _ => .arr 3 1 (([shlI .i64 1 (m.length : Nat), 1] : List Int).map encI) 2) rfl rfl rfl (fun _ _ => rfl) (fun _ _ => SB.bB_ok rfl) ?_
        intro b1 A1 k1 hb1
        refine usePu (numbers_fn A1 _ _ (Sl.new (l := ([shlI .i64 1 (m.length : Nat), 1] : List Int)) (cap := 2) (hb1 0 rfl)) (by simp)) rfl ⟨⟨rfl, rfl, rfl, .inr ⟨rfl, rfl, rfl, rfl⟩⟩, trivial⟩ rfl ?_
        conv => whnf
        refine ⟨k1, ?_⟩
        conv => whnf
        refine ⟨hcat1, ?_⟩
        conv => whnf
        refine ⟨Fz.le_refl A1, ?_⟩
        conv => whnf
        refine freezeC 3 (fun _ => .arr 3 1 (([shlI .i64 2 (m.length : Nat), 1] : List Int).map encI) 2) rfl rfl rfl (fun _ _ => rfl) (fun _ _ => SB.bB_ok rfl) ?_
        intro b2 A2 k2 hb2
        refine usePu (numbers_fn A2 _ _ (Sl.new (l := ([shlI .i64 2 (m.length : Nat), 1] : List Int)) (cap := 2) (hb2 0 rfl)) (by simp)) rfl ⟨⟨rfl, rfl, rfl, .inr ⟨rfl, rfl, rfl, rfl⟩⟩, trivial⟩ rfl ?_
        conv => whnf
        refine ⟨k2, ?_⟩
        conv => whnf
        refine ⟨hcat2, ?_⟩
        conv => whnf
        exact pairEnd e1 e2 (Fz.le_trans k1 k2) rfl
      · skip
        conv => whnf
        refine ⟨Fz.le_refl F, ?_⟩
        conv => whnf
        refine freezeC 2 (fun _ => .arr 3 1 (([shlI .i64 1 (m.length : Nat), 1] : List Int).map encI) 2) rfl rfl rfl (fun _ _ => rfl) (fun _ _ => SB.bB_ok rfl) ?_
        intro b1 A1 k1 hb1
        refine usePu (numbers_fn A1 _ _ (Sl.new (l := ([shlI .i64 1 (m.length : Nat), 1] : List Int)) (cap := 2) (hb1 0 rfl)) (by simp)) rfl ⟨⟨rfl, rfl, rfl, .inr ⟨rfl, rfl, rfl, rfl⟩⟩, trivial⟩ rfl ?_
        conv => whnf
        refine ⟨k1, ?_⟩
        conv => whnf
        refine ⟨hcat1, ?_⟩
        conv => whnf
        refine freezeC 3 (fun _ => .arr 3 1 (([shlI .i64 2 (m.length : Nat), 1] : List Int).map encI) 2) rfl rfl rfl (fun _ _ => rfl) (fun _ _ => SB.bB_ok rfl) ?_
        intro b2 A2 k2 hb2
        refine usePu (numbers_fn A2 _ _ (Sl.new (l := ([shlI .i64 2 (m.length : Nat), 1] : List Int)) (cap := 2) (hb2 0 rfl)) (by simp)) rfl ⟨⟨rfl, rfl, rfl, .inr ⟨rfl, rfl, rfl, rfl⟩⟩, trivial⟩ rfl ?_
        conv => whnf
        refine ⟨k2, ?_⟩
        conv => whnf
        refine ⟨hcat2, ?_⟩
        conv => whnf
        exact pairEnd e1 e2 (Fz.le_trans k1 k2) rfl
    · skip
      conv => whnf
      refine ⟨Fz.le_refl F, ?_⟩
      conv => whnf
      refine ⟨Fz.le_refl F, ?_⟩
      conv => whnf
      refine freezeC 3 (fun _ => .arr 3 1 (([shlI .i64 1 (m.length : Nat), 1] : List Int).map encI) 2) rfl rfl rfl (fun _ _ => rfl) (fun _ _ => SB.bB_ok rfl) ?_
      intro b1 A1 k1 hb1
      refine usePu (numbers_fn A1 _ _ (Sl.new (l := ([shlI .i64 1 (m.length : Nat), 1] : List Int)) (cap := 2) (hb1 0 rfl)) (by simp)) rfl ⟨⟨rfl, rfl, rfl, .inr ⟨rfl, rfl, rfl, rfl⟩⟩, trivial⟩ rfl ?_
      conv => whnf
      refine ⟨k1, ?_⟩
      conv => whnf
      refine ⟨hcat1, ?_⟩
      conv => whnf
      refine freezeC 2 (fun _ => .arr 3 1 (([shlI .i64 2 (m.length : Nat), 1] : List Int).map encI) 2) rfl rfl rfl (fun _ _ => rfl) (fun _ _ => SB.bB_ok rfl) ?_
      intro b2 A2 k2 hb2
      refine usePu (numbers_fn A2 _ _ (Sl.new (l := ([shlI .i64 2 (m.length : Nat), 1] : List Int)) (cap := 2) (hb2 0 rfl)) (by simp)) rfl ⟨⟨rfl, rfl, rfl, .inr ⟨rfl, rfl, rfl, rfl⟩⟩, trivial⟩ rfl ?_
      conv => whnf
      refine ⟨k2, ?_⟩
      conv => whnf
      refine ⟨hcat2, ?_⟩
      conv => whnf
      exact pairEnd e1 e2 (Fz.le_trans k1 k2) rfl
end Go.Proofs.YtblllibdahkgfaaGreatDoor

namespace Go.Proofs.YtblllibdahkgfaaGreatDoor
open Go Sx
set_option maxRecDepth 100000
set_option maxHeartbeats 8000000 in
theorem pairL7_fn (F : Fz) (sa sb : SA) (m nr : List Stp) (hm : StepsAt F sa m) (hn : StepsAt F sb ((6, 0) :: nr)) (hl : nr.length < 1000) :
    Fo Tryz.prog F 30 [.va (.int .i64 7), .va sa, .va sb] (PairK F 7 m ((6, 0) :: nr)) := by
  have e1 : writeS 7 (pairV 7 m ((6, 0) :: nr)).1 = numbersS [0, 0, 0] := by
    have h : pairV 7 m ((6, 0) :: nr) = (⟨false, [], 0, 0, []⟩, ⟨false, [], 1, 1, [49]⟩) := by simp [pairV]
    rw [h]
    decide +kernel
  have e2 : writeS 7 (pairV 7 m ((6, 0) :: nr)).2 = numbersS [1, 1] ++ [2, 49] := by
    have h : pairV 7 m ((6, 0) :: nr) = (⟨false, [], 0, 0, []⟩, ⟨false, [], 1, 1, [49]⟩) := by simp [pairV]
    rw [h]
    decide +kernel
  have hcat : (numbersS [1, 1]).length + [2, 49].length ≤ 9223372036854775807 := by decide +kernel
  have ghn : 0 < ((6, 0) :: nr : List Stp).length := by simp
  have hlthn : (0 : Int) < (((6, 0) :: nr : List Stp).length : Nat) := by rw [List.length_cons]; omega
  have hz : ¬ (((((6, 0) :: nr : List Stp).length : Nat) : Int) = 0) := by rw [List.length_cons]; omega
  obtain ⟨hmn, hmb, hme, hmc, hmL, hmr, rfl, hm1, hm2, hm3, hm4⟩ := hm
  obtain ⟨hnn, hnb, hne, hnc, hnL, hnr, rfl, hn1, hn2, hn3, hn4⟩ := hn
  have hgethn : hnL[hne + ((0 : Nat) : Int).toNat]? = some (enc (6, 0)) := Sl.at (k := 0) hn4 ghn
  refine fo_of hΘ Tryz.func30 rfl (by decide) _ _ rfl rfl rfl ?_
  conv => whnf
  refine br (fun g => absurd (of_decide_eq_true g) hz) (fun _ => ?_)
  conv => whnf
  refine ⟨Sl.lt hn1 ghn, ⟨by simp, hlthn⟩, ?_⟩
  conv => whnf
  refine ⟨_, hn2 (Sl.lt hn1 ghn), ?_⟩
  conv => whnf
  refine ⟨_, hgethn, ?_⟩
  conv => whnf
  refine br (fun _ => ?_) (fun g => absurd g (by decide))
  conv => whnf
  refine br (fun g => absurd g (by decide)) (fun _ => ?_)
  conv => whnf
  refine br (fun _ => ?_) (fun g => absurd g (by decide))
  conv => whnf
  refine freezeC 1 (fun _ => .arr 3 1 (([0, 0, 0] : List Int).map encI) 3) rfl rfl rfl (fun _ _ => rfl) (fun _ _ => SB.bB_ok rfl) ?_
  intro b1 A1 k1 hb1
  refine usePu (numbers_fn A1 _ _ (Sl.new (l := ([0, 0, 0] : List Int)) (cap := 3) (hb1 0 rfl)) (by simp)) rfl ⟨⟨rfl, rfl, rfl, .inr ⟨rfl, rfl, rfl, rfl⟩⟩, trivial⟩ rfl ?_
  conv => whnf
  refine freezeC 2 (fun _ => .arr 3 1 (([1, 1] : List Int).map encI) 2) rfl rfl rfl (fun _ _ => rfl) (fun _ _ => SB.bB_ok rfl) ?_
  intro b2 A2 k2 hb2
  refine usePu (numbers_fn A2 _ _ (Sl.new (l := ([1, 1] : List Int)) (cap := 2) (hb2 0 rfl)) (by simp)) rfl ⟨⟨rfl, rfl, rfl, .inr ⟨rfl, rfl, rfl, rfl⟩⟩, trivial⟩ rfl ?_
  conv => whnf
  refine ⟨hcat, ?_⟩
  conv => whnf
  exact pairEnd e1 e2 (Fz.le_trans k1 k2) rfl
/-- The walk of pair. -/
theorem pair_fn (F : Fz) (sa sb : SA) (m n : List Stp) {P : Int} (hp : 1 ≤ P ∧ P ≤ 8) (im : m ∈ nfs P) (iN : n ∈ nfs P) (hc : coarS P m n = false) (hm : StepsAt F sa m) (hn : StepsAt F sb n) :
    Fo Tryz.prog F 30 [.va (.int .i64 P), .va sa, .va sb] (PairK F P m n) := by
  obtain ⟨h1, h2, h3, _⟩ := pair_ok hp im iN hc
  have vm := nfs_valid hp m im
  have vn := nfs_valid hp n iN
  have lm := valid_len vm
  have ln := valid_len vn
  have om := valid_ok vm
  have on' := valid_ok vn
  clear vm vn im iN hc
  rcases n with _ | ⟨⟨k, j⟩, nr⟩
  · exact absurd rfl h1
  have hnr : nr.length < 1000 := by
    rw [List.length_cons] at ln; omega
  have hml : ∀ {t : Stp} {mr : List Stp}, m = t :: mr → mr.length < 1000 := fun h => by
    rw [h, List.length_cons] at lm; omega
  rcases stepOk_cases hp (on' (k, j) (by simp)) with ⟨rfl, rfl, rfl⟩ | ⟨rfl, rfl, rfl⟩ | ⟨rfl, hq, _⟩ | ⟨rfl, rfl, hj⟩ | ⟨rfl, hq, rfl⟩ | ⟨rfl, rfl⟩
  · rcases m with _ | ⟨⟨κ, i⟩, mr⟩
    · exact pairT1_fn F sa sb [] nr hm hn (by decide) hnr
    · rcases stepOk_cases hp (om (κ, i) (by simp)) with ⟨rfl, _, rfl⟩ | ⟨rfl, _, rfl⟩ | ⟨rfl, hq, _⟩ | ⟨rfl, hq, hj⟩ | ⟨rfl, hq, rfl⟩ | ⟨rfl, rfl⟩
      · exact pairT2_fn F sa sb mr nr hm hn (hml rfl) hnr
      · exact pairT3_fn F sa sb mr nr hm hn (hml rfl) hnr
      · omega
      · omega
      · omega
      · exact absurd rfl h3
  · rcases m with _ | ⟨⟨κ, i⟩, mr⟩
    · exact pairT4_fn F sa sb [] nr hm hn (by decide) hnr
    · rcases stepOk_cases hp (om (κ, i) (by simp)) with ⟨rfl, _, rfl⟩ | ⟨rfl, _, rfl⟩ | ⟨rfl, hq, _⟩ | ⟨rfl, hq, hj⟩ | ⟨rfl, hq, rfl⟩ | ⟨rfl, rfl⟩
      · exact pairT5_fn F sa sb mr nr hm hn (hml rfl) hnr
      · exact pairT6_fn F sa sb mr nr hm hn (hml rfl) hnr
      · omega
      · omega
      · omega
      · exact absurd rfl h3
  · rcases m with _ | ⟨⟨κ, i⟩, mr⟩
    · rcases hq with rfl | rfl
      · exact pairN3_fn F sa sb nr j hm hn hnr
      · exact pairN5_fn F sa sb nr j hm hn hnr
    · have hκ : κ = 3 := by
        rcases stepOk_cases hp (om (κ, i) (by simp)) with ⟨rfl, h, rfl⟩ | ⟨rfl, h, rfl⟩ | ⟨rfl, _, _⟩ | ⟨rfl, h, _⟩ | ⟨rfl, h, rfl⟩ | ⟨rfl, rfl⟩
        · omega
        · omega
        · rfl
        · omega
        · omega
        · exact absurd rfl h3
      subst hκ
      rcases hq with rfl | rfl
      · exact pairR3_fn F sa sb mr nr j i hm hn hnr
      · exact pairR5_fn F sa sb mr nr j i hm hn hnr
  · exact pairM_fn F sa sb m nr j hj hm hn hnr
  · have hm4 : m.length ≤ 4 := h2.resolve_left (by simp)
    rcases hq with rfl | rfl
    · exact pair6_fn F sa sb m nr 0 hm4 hm hn hnr
    · exact pair7_fn F sa sb m nr 0 hm4 hm hn hnr
  · rcases p8 hp with rfl | rfl | rfl | rfl | rfl | rfl | rfl | rfl
    · exact pairL1_fn F sa sb m nr hm hn hnr
    · exact pairL2_fn F sa sb m nr hm hn hnr
    · exact pairL3_fn F sa sb m nr hm hn hnr
    · exact pairL4_fn F sa sb m nr hm hn hnr
    · exact pairL5_fn F sa sb m nr hm hn hnr
    · exact pairL6_fn F sa sb m nr hm hn hnr
    · exact pairL7_fn F sa sb m nr hm hn hnr
    · exact pairL8_fn F sa sb m nr hm hn hnr
end Go.Proofs.YtblllibdahkgfaaGreatDoor

namespace Go.Proofs.YtblllibdahkgfaaGreatDoor
open Go Sx
set_option maxRecDepth 100000
set_option maxHeartbeats 16000000 in
theorem law6_fn (F0 : Fz) (m0 : MLF F0) (p : Int) (hp : i64 p) (n1 n2 : Bool) (b1 b2 e1 e2 s1 s2 l1 l2 c1 c2 : Nat) (x y : List Int)
    (hx : StepsArg F0 (.slice n1 0 b1 e1 s1 l1 c1) x) (hy : StepsArg F0 (.slice n2 0 b2 e2 s2 l2 c2) y) :
    Fo Tryz.prog F0 8 [.va (.int .i64 p), .va (.slice n1 0 b1 e1 s1 l1 c1), .va (.slice n2 0 b2 e2 s2 l2 c2)] (fun o F' => o = .ret (.va (.bool true)) ∧ True) := by
  have hpr := pickI_lt p 8 (by omega) hp
  have hsane := saneL F0 m0
  have hprop := property_pu p hp
  obtain ⟨P, hP⟩ : ∃ P, P = 1 + pickI p 8 := ⟨_, rfl⟩
  have hP8 : 1 ≤ P ∧ P ≤ 8 := by omega
  rw [← hP] at hprop
  have va := stepsS_valid hP8 x
  have vb := stepsS_valid hP8 y
  obtain ⟨a, hA⟩ : ∃ a, stepsS P x = a := ⟨_, rfl⟩
  obtain ⟨b, hB⟩ : ∃ b, stepsS P y = b := ⟨_, rfl⟩
  rw [hA] at va
  rw [hB] at vb
  have im := norm_in va
  have iN := norm_in vb
  have vm := normV va
  have vn := normV vb
  obtain ⟨m, hM⟩ : ∃ m, normS a = m := ⟨_, rfl⟩
  obtain ⟨n, hN⟩ : ∃ n, normS b = n := ⟨_, rfl⟩
  rw [hM] at im vm
  rw [hN] at iN vn
  obtain ⟨cm, qcm⟩ : ∃ t, coarS P m n = t := ⟨_, rfl⟩
  have hok : cm = false → _ := fun h => pair_ok hP8 im iN (qcm.trans h)
  have fin : ∀ (t : Bool) (F1 : Fz) (h : Hp) (nx : Nat), t = true → lget h 0 = some (.frz F1) → Fz.le F0 F1 → Cln 1 (FoK F0 fun o F' => o = .ret (.va (.bool true)) ∧ True) (.ret (.va (.bool t))) h nx := by
    intro t F1 h nx ht h0 hle
    subst ht
    exact endFo (.ret (.va (.bool true))) F1 h0 hle (Fz.le_refl F1) ⟨rfl, trivial⟩ (outE_refl _) rfl
  have finL : ∀ (F1 : Fz) (h : Hp) (nx : Nat), lget h 0 = some (.frz F1) → Fz.le F0 F1 → Cln 1 (FoK F0 fun o F' => o = .ret (.va (.bool true)) ∧ True) (.ret (.va (.lit true))) h nx := by
    intro F1 h nx h0 hle
    exact endFo (.ret (.va (.bool true))) F1 h0 hle (Fz.le_refl F1) ⟨rfl, trivial⟩ rfl rfl
  refine fo_of hΘ Tryz.func8 rfl (by decide) _ _ rfl rfl rfl ?_
  conv => whnf
  refine useFo hsane rfl (argsE_refl _) rfl ?_
  rintro _ F1 u1 ⟨rfl, -⟩
  conv => whnf
  refine usePu (hprop F1) rfl (argsE_refl _) rfl ?_
  conv => whnf
  refine useFo (hx P F1 hP8 u1) rfl ⟨rfl, ⟨rfl, rfl, rfl, .inr ⟨rfl, rfl, rfl, rfl⟩⟩, trivial⟩ rfl ?_
  rintro _ F3 u ⟨sa, rfl, ha⟩
  rw [hA] at ha
  have u3 := Fz.le_trans u1 u
  clear u
  have k1 := normOk va F3 _ ha
  rw [hM] at k1
  obtain ⟨han, hab, hae, hac, haL, har, rfl, ha1, ha2, ha3, ha4⟩ := ha
  conv => whnf
  refine useFo (k1) rfl ⟨rfl, ⟨rfl, rfl, rfl, .inr ⟨rfl, rfl, rfl, rfl⟩⟩, trivial⟩ rfl ?_
  rintro _ F4 u ⟨sm, rfl, hm⟩
  have u4 := Fz.le_trans u3 u
  clear u
  have hm' := hm
  obtain ⟨hmn, hmb, hme, hmc, hmL, hmr, rfl, hm1, hm2, hm3, hm4⟩ := hm
  conv => whnf
  refine useFo (hy P F4 hP8 u4) rfl ⟨rfl, ⟨rfl, rfl, rfl, .inr ⟨rfl, rfl, rfl, rfl⟩⟩, trivial⟩ rfl ?_
  rintro _ F5 u ⟨sb, rfl, hb⟩
  rw [hB] at hb
  have u5 := Fz.le_trans u4 u
  have hm5 := hm'.mono u
  clear u hm'
  have k2 := normOk vb F5 _ hb
  rw [hN] at k2
  obtain ⟨hbn, hbb, hbe, hbc, hbL, hbr, rfl, hb1, hb2, hb3, hb4⟩ := hb
  conv => whnf
  refine useFo (k2) rfl ⟨rfl, ⟨rfl, rfl, rfl, .inr ⟨rfl, rfl, rfl, rfl⟩⟩, trivial⟩ rfl ?_
  rintro _ F6 u ⟨sn, rfl, hn⟩
  have u6 := Fz.le_trans u5 u
  have hm6 := hm5.mono u
  clear u hm5
  have hn6 := hn
  obtain ⟨hnn, hnb, hne, hnc, hnL, hnr, rfl, hn1, hn2, hn3, hn4⟩ := hn
  have k3 := coarL qcm F6 _ _ hm6 hn6 (valid_short vm) (valid_short vn)
  conv => whnf
  refine ⟨fun _ => ?_, fun g => absurd g (by simp)⟩
  conv => whnf
  refine br (fun g => absurd g (by simp)) (fun _ => ?_)
  conv => whnf
  refine useFo (k3) rfl ⟨rfl, ⟨rfl, rfl, rfl, .inr ⟨rfl, rfl, rfl, rfl⟩⟩, ⟨rfl, rfl, rfl, .inr ⟨rfl, rfl, rfl, rfl⟩⟩, trivial⟩ rfl ?_
  rintro _ F7 u ⟨rfl, -⟩
  have u7 := Fz.le_trans u6 u
  have hm7 := hm6.mono u
  have hn7 := hn6.mono u
  clear hm6 hn6
  rcases cm with _ | _
  · have hok' := hok rfl
    clear hok
    obtain ⟨q1, q2, q3, o1, o2, r1, r2⟩ := hok'
    rcases n with _ | ⟨⟨κ, i⟩, nr⟩
    · exact absurd rfl q1
    have hdif : writeS P (runS m (pairV P m ((κ, i) :: nr)).1) ≠ writeS P (runS m (pairV P m ((κ, i) :: nr)).2) := fun h => r2 (write_inj hP8 (run_ok vm o1) (run_ok vm o2) h)
    have hxg : ∃ g, writeS P (runS ((κ, i) :: nr) (pairV P m ((κ, i) :: nr)).1) = g := ⟨_, rfl⟩
    obtain ⟨g0, hg1⟩ := hxg
    have hg2 : writeS P (runS ((κ, i) :: nr) (pairV P m ((κ, i) :: nr)).2) = g0 := by rw [← r1]; exact hg1
    have hxk : ∃ k1 k2, writeS P (runS m (pairV P m ((κ, i) :: nr)).1) = k1 ∧ writeS P (runS m (pairV P m ((κ, i) :: nr)).2) = k2 := ⟨_, _, rfl, rfl⟩
    obtain ⟨w1, w2, hk1, hk2⟩ := hxk
    rw [hk1, hk2] at hdif
    clear r1 r2
    have hz : ¬ (((((κ, i) :: nr : List Stp).length : Nat) : Int) = 0) := by rw [List.length_cons]; omega
    have kp := pair_fn F7 _ _ m ((κ, i) :: nr) hP8 im iN qcm hm7 hn7
    by_cases h4 : m.length ≤ 4
    · have h4' : ¬ (4 : Int) < (m.length : Nat) := by omega
      conv => whnf
      refine ⟨fun _ => ?_, fun g => absurd (of_decide_eq_true g) hz⟩
      conv => whnf
      refine ⟨fun g => absurd (of_decide_eq_true g) h4', fun _ => ?_⟩
      conv => whnf
      refine useFo (kp) rfl ⟨rfl, ⟨rfl, rfl, rfl, .inr ⟨rfl, rfl, rfl, rfl⟩⟩, ⟨rfl, rfl, rfl, .inr ⟨rfl, rfl, rfl, rfl⟩⟩, trivial⟩ rfl ?_
      rintro _ F8 v8 rfl
      have u8 := Fz.le_trans u7 v8
      have hm8 := hm7.mono v8
      have hn8 := hn7.mono v8
      have a1 := applyOk vn o1 F8 (m0.mono u8) _ hn8
      rw [hg1] at a1
      conv => whnf
      refine useFo (a1) rfl ⟨rfl, ⟨rfl, rfl, rfl, .inr ⟨rfl, rfl, rfl, rfl⟩⟩, rfl, trivial⟩ rfl ?_
      rintro _ F9 v9 rfl
      have u9 := Fz.le_trans u8 v9
      have hm9 := hm8.mono v9
      have hn9 := hn8.mono v9
      have a2 := applyOk vn o2 F9 (m0.mono u9) _ hn9
      rw [hg2] at a2
      conv => whnf
      refine useFo (a2) rfl ⟨rfl, ⟨rfl, rfl, rfl, .inr ⟨rfl, rfl, rfl, rfl⟩⟩, rfl, trivial⟩ rfl ?_
      rintro _ F10 v10 rfl
      have u10 := Fz.le_trans u9 v10
      have hm10 := hm9.mono v10
      have a3 := applyOk vm o1 F10 (m0.mono u10) _ hm10
      rw [hk1] at a3
      conv => whnf
      refine useFo (a3) rfl ⟨rfl, ⟨rfl, rfl, rfl, .inr ⟨rfl, rfl, rfl, rfl⟩⟩, rfl, trivial⟩ rfl ?_
      rintro _ F11 v11 rfl
      have u11 := Fz.le_trans u10 v11
      have hm11 := hm10.mono v11
      have a4 := applyOk vm o2 F11 (m0.mono u11) _ hm11
      rw [hk2] at a4
      conv => whnf
      refine useFo (a4) rfl ⟨rfl, ⟨rfl, rfl, rfl, .inr ⟨rfl, rfl, rfl, rfl⟩⟩, rfl, trivial⟩ rfl ?_
      rintro _ F12 v12 rfl
      have u12 := Fz.le_trans u11 v12
      conv => whnf
      iterate 5
        refine ⟨fun _ => ?_, fun g => absurd g (by simp)⟩
        conv => whnf
      exact fin _ F12 _ _ (by simp [hdif]) rfl u12
    · have h4' : (4 : Int) < (m.length : Nat) := by omega
      have hκ : κ = 6 := by
        rcases q2 with h | h
        · simp at h; exact h.1
        · exact absurd h h4
      subst hκ
      have ghn : 0 < ((6, i) :: nr : List Stp).length := by simp
      have hlthn : (0 : Int) < (((6, i) :: nr : List Stp).length : Nat) := by rw [List.length_cons]; omega
      have hgethn : hnL[hne + ((0 : Nat) : Int).toNat]? = some (enc (6, i)) := Sl.at (k := 0) hn4 ghn
      have hne6 : (6 : Int) = 6 := rfl
      conv => whnf
      refine ⟨fun _ => ?_, fun g => absurd (of_decide_eq_true g) hz⟩
      conv => whnf
      refine ⟨fun _ => ?_, fun g => absurd h4' (of_decide_eq_false g)⟩
      conv => whnf
      refine ⟨Sl.lt hn1 ghn, ⟨by simp, hlthn⟩, ?_⟩
      conv => whnf
      refine ⟨_, u _ _ (hn2 (Sl.lt hn1 ghn)), ?_⟩
      conv => whnf
      refine ⟨_, hgethn, ?_⟩
      conv => whnf
      refine br (fun g => absurd g (by show ¬ (!decide ((6 : Int) = 6)) = true; decide)) (fun _ => ?_)
      conv => whnf
      refine useFo (kp) rfl ⟨rfl, ⟨rfl, rfl, rfl, .inr ⟨rfl, rfl, rfl, rfl⟩⟩, ⟨rfl, rfl, rfl, .inr ⟨rfl, rfl, rfl, rfl⟩⟩, trivial⟩ rfl ?_
      rintro _ F8 v8 rfl
      have u8 := Fz.le_trans u7 v8
      have hm8 := hm7.mono v8
      have hn8 := hn7.mono v8
      have a1 := applyOk vn o1 F8 (m0.mono u8) _ hn8
      rw [hg1] at a1
      conv => whnf
      refine useFo (a1) rfl ⟨rfl, ⟨rfl, rfl, rfl, .inr ⟨rfl, rfl, rfl, rfl⟩⟩, rfl, trivial⟩ rfl ?_
      rintro _ F9 v9 rfl
      have u9 := Fz.le_trans u8 v9
      have hm9 := hm8.mono v9
      have hn9 := hn8.mono v9
      have a2 := applyOk vn o2 F9 (m0.mono u9) _ hn9
      rw [hg2] at a2
      conv => whnf
      refine useFo (a2) rfl ⟨rfl, ⟨rfl, rfl, rfl, .inr ⟨rfl, rfl, rfl, rfl⟩⟩, rfl, trivial⟩ rfl ?_
      rintro _ F10 v10 rfl
      have u10 := Fz.le_trans u9 v10
      have hm10 := hm9.mono v10
      have a3 := applyOk vm o1 F10 (m0.mono u10) _ hm10
      rw [hk1] at a3
      conv => whnf
      refine useFo (a3) rfl ⟨rfl, ⟨rfl, rfl, rfl, .inr ⟨rfl, rfl, rfl, rfl⟩⟩, rfl, trivial⟩ rfl ?_
      rintro _ F11 v11 rfl
      have u11 := Fz.le_trans u10 v11
      have hm11 := hm10.mono v11
      have a4 := applyOk vm o2 F11 (m0.mono u11) _ hm11
      rw [hk2] at a4
      conv => whnf
      refine useFo (a4) rfl ⟨rfl, ⟨rfl, rfl, rfl, .inr ⟨rfl, rfl, rfl, rfl⟩⟩, rfl, trivial⟩ rfl ?_
      rintro _ F12 v12 rfl
      have u12 := Fz.le_trans u11 v12
      conv => whnf
      iterate 5
        refine ⟨fun _ => ?_, fun g => absurd g (by simp)⟩
        conv => whnf
      exact fin _ F12 _ _ (by simp [hdif]) rfl u12
  · conv => whnf
    exact fin true F7 _ _ rfl rfl u7
end Go.Proofs.YtblllibdahkgfaaGreatDoor
