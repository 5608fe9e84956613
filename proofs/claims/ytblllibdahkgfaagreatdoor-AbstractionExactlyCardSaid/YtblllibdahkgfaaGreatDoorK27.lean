import Derived.Test.YtblllibdahkgfaaGreatDoorK26

namespace Go.Proofs.YtblllibdahkgfaaGreatDoor
open Go Sx
set_option maxRecDepth 100000
set_option maxHeartbeats 8000000 in
theorem pairT1_fn (F : Fz) (sa sb : SA) (mr nr : List Stp) (hm : StepsAt F sa ([])) (hn : StepsAt F sb ((1, 0) :: nr)) (hml : mr.length < 1000) (hl : nr.length < 1000) :
    Fo Tryz.prog F 30 [.va (.int .i64 1), .va sa, .va sb] (PairK F 1 ([]) ((1, 0) :: nr)) := by
  have e1 : writeS 1 (pairV 1 ([]) ((1, 0) :: nr)).1 = textS [[65]] := by
    simp [writeS, pairV, lineW, numbersS, textS]
  have e2 : writeS 1 (pairV 1 ([]) ((1, 0) :: nr)).2 = textS [[97]] := by
    simp [writeS, pairV, lineW, numbersS, textS]
  have ghn : 0 < ((1, 0) :: nr : List Stp).length := by simp
  have hlthn : (0 : Int) < (((1, 0) :: nr : List Stp).length : Nat) := by rw [List.length_cons]; omega
  have hz : ¬ (((((1, 0) :: nr : List Stp).length : Nat) : Int) = 0) := by rw [List.length_cons]; omega
  obtain ⟨hmn, hmb, hme, hmc, hmL, hmr, rfl, hm1, hm2, hm3, hm4⟩ := hm
  obtain ⟨hnn, hnb, hne, hnc, hnL, hnr, rfl, hn1, hn2, hn3, hn4⟩ := hn
  have hgethn : hnL[hne + ((0 : Nat) : Int).toNat]? = some (enc (1, 0)) := Sl.at (k := 0) hn4 ghn
  refine fo_of hΘ Tryz.func30 rfl (by decide) _ _ rfl rfl rfl ?_
  conv => whnf
  refine br (fun g => absurd (of_decide_eq_true g) hz) (fun _ => ?_)
  conv => whnf
  refine ⟨Sl.lt hn1 ghn, ⟨by simp, hlthn⟩, ?_⟩
  conv => whnf
  refine ⟨_, hn2 (Sl.lt hn1 ghn), ?_⟩
  conv => whnf
  refine ⟨_, hgethn, ?_⟩
  conv => whnf
  refine br (fun g => absurd g (by decide)) (fun _ => ?_)
  conv => whnf
  refine br (fun _ => ?_) (fun g => absurd g (by decide))
  conv => whnf
  refine ⟨fun g => absurd g (by decide), fun _ => ?_⟩
  conv => whnf
  refine ⟨Sl.lt hn1 ghn, ⟨by simp, hlthn⟩, ?_⟩
  conv => whnf
  refine ⟨_, hn2 (Sl.lt hn1 ghn), ?_⟩
  conv => whnf
  refine ⟨_, hgethn, ?_⟩
  conv => whnf
  refine ⟨fun _ => ?_, fun g => absurd g (by decide)⟩
  conv => whnf
  refine freezeC 1 (fun _ => .arr 9 1 (([[65]] : List (List UInt8)).map encS) 1) rfl rfl rfl (fun _ _ => rfl) (fun _ _ => SB.bB_ok rfl) ?_
  intro b1 A1 k1 hb1
  refine usePu (text_fn A1 _ _ (Sl.new (l := ([[65]] : List (List UInt8))) (cap := 1) (hb1 0 rfl)) (by decide) (by simp)) rfl ⟨⟨rfl, rfl, rfl, .inr ⟨rfl, rfl, rfl, rfl⟩⟩, trivial⟩ rfl ?_
  conv => whnf
  refine freezeC 2 (fun _ => .arr 9 1 (([[97]] : List (List UInt8)).map encS) 1) rfl rfl rfl (fun _ _ => rfl) (fun _ _ => SB.bB_ok rfl) ?_
  intro b2 A2 k2 hb2
  refine usePu (text_fn A2 _ _ (Sl.new (l := ([[97]] : List (List UInt8))) (cap := 1) (hb2 0 rfl)) (by decide) (by simp)) rfl ⟨⟨rfl, rfl, rfl, .inr ⟨rfl, rfl, rfl, rfl⟩⟩, trivial⟩ rfl ?_
  conv => whnf
  exact pairEnd e1 e2 (Fz.le_trans k1 k2) rfl
set_option maxHeartbeats 8000000 in
theorem pairT2_fn (F : Fz) (sa sb : SA) (mr nr : List Stp) (hm : StepsAt F sa ((1, 0) :: mr)) (hn : StepsAt F sb ((1, 0) :: nr)) (hml : mr.length < 1000) (hl : nr.length < 1000) :
    Fo Tryz.prog F 30 [.va (.int .i64 1), .va sa, .va sb] (PairK F 1 ((1, 0) :: mr) ((1, 0) :: nr)) := by
  have e1 : writeS 1 (pairV 1 ((1, 0) :: mr) ((1, 0) :: nr)).1 = textS [[97, 32, 32, 98]] := by
    simp [writeS, pairV, lineW, numbersS, textS]
  have e2 : writeS 1 (pairV 1 ((1, 0) :: mr) ((1, 0) :: nr)).2 = textS [[97, 32, 98]] := by
    simp [writeS, pairV, lineW, numbersS, textS]
  have ghn : 0 < ((1, 0) :: nr : List Stp).length := by simp
  have hlthn : (0 : Int) < (((1, 0) :: nr : List Stp).length : Nat) := by rw [List.length_cons]; omega
  have hz : ¬ (((((1, 0) :: nr : List Stp).length : Nat) : Int) = 0) := by rw [List.length_cons]; omega
  have ghm : 0 < ((1, 0) :: mr : List Stp).length := by simp
  have hlthm : (0 : Int) < (((1, 0) :: mr : List Stp).length : Nat) := by rw [List.length_cons]; omega
  obtain ⟨hmn, hmb, hme, hmc, hmL, hmr, rfl, hm1, hm2, hm3, hm4⟩ := hm
  obtain ⟨hnn, hnb, hne, hnc, hnL, hnr, rfl, hn1, hn2, hn3, hn4⟩ := hn
  have hgethn : hnL[hne + ((0 : Nat) : Int).toNat]? = some (enc (1, 0)) := Sl.at (k := 0) hn4 ghn
  have hgethm : hmL[hme + ((0 : Nat) : Int).toNat]? = some (enc (1, 0)) := Sl.at (k := 0) hm4 ghm
  refine fo_of hΘ Tryz.func30 rfl (by decide) _ _ rfl rfl rfl ?_
  conv => whnf
  refine br (fun g => absurd (of_decide_eq_true g) hz) (fun _ => ?_)
  conv => whnf
  refine ⟨Sl.lt hn1 ghn, ⟨by simp, hlthn⟩, ?_⟩
  conv => whnf
  refine ⟨_, hn2 (Sl.lt hn1 ghn), ?_⟩
  conv => whnf
  refine ⟨_, hgethn, ?_⟩
  conv => whnf
  refine br (fun g => absurd g (by decide)) (fun _ => ?_)
  conv => whnf
  refine br (fun _ => ?_) (fun g => absurd g (by decide))
  conv => whnf
  refine ⟨fun _ => ?_, fun g => absurd hlthm (of_decide_eq_false g)⟩
  conv => whnf
  refine ⟨Sl.lt hm1 ghm, ⟨by simp, hlthm⟩, ?_⟩
  conv => whnf
  refine ⟨_, hm2 (Sl.lt hm1 ghm), ?_⟩
  conv => whnf
  refine ⟨_, hgethm, ?_⟩
  conv => whnf
  refine ⟨Sl.lt hn1 ghn, ⟨by simp, hlthn⟩, ?_⟩
  conv => whnf
  refine ⟨_, hn2 (Sl.lt hn1 ghn), ?_⟩
  conv => whnf
  refine ⟨_, hgethn, ?_⟩
  conv => whnf
  refine ⟨fun _ => ?_, fun g => absurd g (by decide)⟩
  conv => whnf
  refine br (fun g => absurd g (by decide)) (fun _ => ?_)
  conv => whnf
  refine freezeC 1 (fun _ => .arr 9 1 (([[97, 32, 32, 98]] : List (List UInt8)).map encS) 1) rfl rfl rfl (fun _ _ => rfl) (fun _ _ => SB.bB_ok rfl) ?_
  intro b1 A1 k1 hb1
  refine usePu (text_fn A1 _ _ (Sl.new (l := ([[97, 32, 32, 98]] : List (List UInt8))) (cap := 1) (hb1 0 rfl)) (by decide) (by simp)) rfl ⟨⟨rfl, rfl, rfl, .inr ⟨rfl, rfl, rfl, rfl⟩⟩, trivial⟩ rfl ?_
  conv => whnf
  refine freezeC 2 (fun _ => .arr 9 1 (([[97, 32, 98]] : List (List UInt8)).map encS) 1) rfl rfl rfl (fun _ _ => rfl) (fun _ _ => SB.bB_ok rfl) ?_
  intro b2 A2 k2 hb2
  refine usePu (text_fn A2 _ _ (Sl.new (l := ([[97, 32, 98]] : List (List UInt8))) (cap := 1) (hb2 0 rfl)) (by decide) (by simp)) rfl ⟨⟨rfl, rfl, rfl, .inr ⟨rfl, rfl, rfl, rfl⟩⟩, trivial⟩ rfl ?_
  conv => whnf
  exact pairEnd e1 e2 (Fz.le_trans k1 k2) rfl
set_option maxHeartbeats 8000000 in
theorem pairT3_fn (F : Fz) (sa sb : SA) (mr nr : List Stp) (hm : StepsAt F sa ((2, 0) :: mr)) (hn : StepsAt F sb ((1, 0) :: nr)) (hml : mr.length < 1000) (hl : nr.length < 1000) :
    Fo Tryz.prog F 30 [.va (.int .i64 1), .va sa, .va sb] (PairK F 1 ((2, 0) :: mr) ((1, 0) :: nr)) := by
  have e1 : writeS 1 (pairV 1 ((2, 0) :: mr) ((1, 0) :: nr)).1 = textS [[65]] := by
    simp [writeS, pairV, lineW, numbersS, textS]
  have e2 : writeS 1 (pairV 1 ((2, 0) :: mr) ((1, 0) :: nr)).2 = textS [[97]] := by
    simp [writeS, pairV, lineW, numbersS, textS]
  have ghn : 0 < ((1, 0) :: nr : List Stp).length := by simp
  have hlthn : (0 : Int) < (((1, 0) :: nr : List Stp).length : Nat) := by rw [List.length_cons]; omega
  have hz : ¬ (((((1, 0) :: nr : List Stp).length : Nat) : Int) = 0) := by rw [List.length_cons]; omega
  have ghm : 0 < ((2, 0) :: mr : List Stp).length := by simp
  have hlthm : (0 : Int) < (((2, 0) :: mr : List Stp).length : Nat) := by rw [List.length_cons]; omega
  obtain ⟨hmn, hmb, hme, hmc, hmL, hmr, rfl, hm1, hm2, hm3, hm4⟩ := hm
  obtain ⟨hnn, hnb, hne, hnc, hnL, hnr, rfl, hn1, hn2, hn3, hn4⟩ := hn
  have hgethn : hnL[hne + ((0 : Nat) : Int).toNat]? = some (enc (1, 0)) := Sl.at (k := 0) hn4 ghn
  have hgethm : hmL[hme + ((0 : Nat) : Int).toNat]? = some (enc (2, 0)) := Sl.at (k := 0) hm4 ghm
  refine fo_of hΘ Tryz.func30 rfl (by decide) _ _ rfl rfl rfl ?_
  conv => whnf
  refine br (fun g => absurd (of_decide_eq_true g) hz) (fun _ => ?_)
  conv => whnf
  refine ⟨Sl.lt hn1 ghn, ⟨by simp, hlthn⟩, ?_⟩
  conv => whnf
  refine ⟨_, hn2 (Sl.lt hn1 ghn), ?_⟩
  conv => whnf
  refine ⟨_, hgethn, ?_⟩
  conv => whnf
  refine br (fun g => absurd g (by decide)) (fun _ => ?_)
  conv => whnf
  refine br (fun _ => ?_) (fun g => absurd g (by decide))
  conv => whnf
  refine ⟨fun _ => ?_, fun g => absurd hlthm (of_decide_eq_false g)⟩
  conv => whnf
  refine ⟨Sl.lt hm1 ghm, ⟨by simp, hlthm⟩, ?_⟩
  conv => whnf
  refine ⟨_, hm2 (Sl.lt hm1 ghm), ?_⟩
  conv => whnf
  refine ⟨_, hgethm, ?_⟩
  conv => whnf
  refine ⟨Sl.lt hn1 ghn, ⟨by simp, hlthn⟩, ?_⟩
  conv => whnf
  refine ⟨_, hn2 (Sl.lt hn1 ghn), ?_⟩
  conv => whnf
  refine ⟨_, hgethn, ?_⟩
  conv => whnf
  refine ⟨fun _ => ?_, fun g => absurd g (by decide)⟩
  conv => whnf
  refine br (fun _ => ?_) (fun g => absurd g (by decide))
  conv => whnf
  refine freezeC 1 (fun _ => .arr 9 1 (([[65]] : List (List UInt8)).map encS) 1) rfl rfl rfl (fun _ _ => rfl) (fun _ _ => SB.bB_ok rfl) ?_
  intro b1 A1 k1 hb1
  refine usePu (text_fn A1 _ _ (Sl.new (l := ([[65]] : List (List UInt8))) (cap := 1) (hb1 0 rfl)) (by decide) (by simp)) rfl ⟨⟨rfl, rfl, rfl, .inr ⟨rfl, rfl, rfl, rfl⟩⟩, trivial⟩ rfl ?_
  conv => whnf
  refine freezeC 2 (fun _ => .arr 9 1 (([[97]] : List (List UInt8)).map encS) 1) rfl rfl rfl (fun _ _ => rfl) (fun _ _ => SB.bB_ok rfl) ?_
  intro b2 A2 k2 hb2
  refine usePu (text_fn A2 _ _ (Sl.new (l := ([[97]] : List (List UInt8))) (cap := 1) (hb2 0 rfl)) (by decide) (by simp)) rfl ⟨⟨rfl, rfl, rfl, .inr ⟨rfl, rfl, rfl, rfl⟩⟩, trivial⟩ rfl ?_
  conv => whnf
  exact pairEnd e1 e2 (Fz.le_trans k1 k2) rfl
set_option maxHeartbeats 8000000 in
theorem pairT4_fn (F : Fz) (sa sb : SA) (mr nr : List Stp) (hm : StepsAt F sa ([])) (hn : StepsAt F sb ((2, 0) :: nr)) (hml : mr.length < 1000) (hl : nr.length < 1000) :
    Fo Tryz.prog F 30 [.va (.int .i64 1), .va sa, .va sb] (PairK F 1 ([]) ((2, 0) :: nr)) := by
  have e1 : writeS 1 (pairV 1 ([]) ((2, 0) :: nr)).1 = textS [[97, 32, 32, 98]] := by
    simp [writeS, pairV, lineW, numbersS, textS]
  have e2 : writeS 1 (pairV 1 ([]) ((2, 0) :: nr)).2 = textS [[97, 32, 98]] := by
    simp [writeS, pairV, lineW, numbersS, textS]
  have ghn : 0 < ((2, 0) :: nr : List Stp).length := by simp
  have hlthn : (0 : Int) < (((2, 0) :: nr : List Stp).length : Nat) := by rw [List.length_cons]; omega
  have hz : ¬ (((((2, 0) :: nr : List Stp).length : Nat) : Int) = 0) := by rw [List.length_cons]; omega
  obtain ⟨hmn, hmb, hme, hmc, hmL, hmr, rfl, hm1, hm2, hm3, hm4⟩ := hm
  obtain ⟨hnn, hnb, hne, hnc, hnL, hnr, rfl, hn1, hn2, hn3, hn4⟩ := hn
  have hgethn : hnL[hne + ((0 : Nat) : Int).toNat]? = some (enc (2, 0)) := Sl.at (k := 0) hn4 ghn
  refine fo_of hΘ Tryz.func30 rfl (by decide) _ _ rfl rfl rfl ?_
  conv => whnf
  refine br (fun g => absurd (of_decide_eq_true g) hz) (fun _ => ?_)
  conv => whnf
  refine ⟨Sl.lt hn1 ghn, ⟨by simp, hlthn⟩, ?_⟩
  conv => whnf
  refine ⟨_, hn2 (Sl.lt hn1 ghn), ?_⟩
  conv => whnf
  refine ⟨_, hgethn, ?_⟩
  conv => whnf
  refine br (fun g => absurd g (by decide)) (fun _ => ?_)
  conv => whnf
  refine br (fun _ => ?_) (fun g => absurd g (by decide))
  conv => whnf
  refine ⟨fun g => absurd g (by decide), fun _ => ?_⟩
  conv => whnf
  refine ⟨Sl.lt hn1 ghn, ⟨by simp, hlthn⟩, ?_⟩
  conv => whnf
  refine ⟨_, hn2 (Sl.lt hn1 ghn), ?_⟩
  conv => whnf
  refine ⟨_, hgethn, ?_⟩
  conv => whnf
  refine ⟨fun g => absurd g (by decide), fun _ => ?_⟩
  conv => whnf
  refine freezeC 1 (fun _ => .arr 9 1 (([[97, 32, 32, 98]] : List (List UInt8)).map encS) 1) rfl rfl rfl (fun _ _ => rfl) (fun _ _ => SB.bB_ok rfl) ?_
  intro b1 A1 k1 hb1
  refine usePu (text_fn A1 _ _ (Sl.new (l := ([[97, 32, 32, 98]] : List (List UInt8))) (cap := 1) (hb1 0 rfl)) (by decide) (by simp)) rfl ⟨⟨rfl, rfl, rfl, .inr ⟨rfl, rfl, rfl, rfl⟩⟩, trivial⟩ rfl ?_
  conv => whnf
  refine freezeC 2 (fun _ => .arr 9 1 (([[97, 32, 98]] : List (List UInt8)).map encS) 1) rfl rfl rfl (fun _ _ => rfl) (fun _ _ => SB.bB_ok rfl) ?_
  intro b2 A2 k2 hb2
  refine usePu (text_fn A2 _ _ (Sl.new (l := ([[97, 32, 98]] : List (List UInt8))) (cap := 1) (hb2 0 rfl)) (by decide) (by simp)) rfl ⟨⟨rfl, rfl, rfl, .inr ⟨rfl, rfl, rfl, rfl⟩⟩, trivial⟩ rfl ?_
  conv => whnf
  exact pairEnd e1 e2 (Fz.le_trans k1 k2) rfl
set_option maxHeartbeats 8000000 in
theorem pairT5_fn (F : Fz) (sa sb : SA) (mr nr : List Stp) (hm : StepsAt F sa ((1, 0) :: mr)) (hn : StepsAt F sb ((2, 0) :: nr)) (hml : mr.length < 1000) (hl : nr.length < 1000) :
    Fo Tryz.prog F 30 [.va (.int .i64 1), .va sa, .va sb] (PairK F 1 ((1, 0) :: mr) ((2, 0) :: nr)) := by
  have e1 : writeS 1 (pairV 1 ((1, 0) :: mr) ((2, 0) :: nr)).1 = textS [[97, 32, 32, 98]] := by
    simp [writeS, pairV, lineW, numbersS, textS]
  have e2 : writeS 1 (pairV 1 ((1, 0) :: mr) ((2, 0) :: nr)).2 = textS [[97, 32, 98]] := by
    simp [writeS, pairV, lineW, numbersS, textS]
  have ghn : 0 < ((2, 0) :: nr : List Stp).length := by simp
  have hlthn : (0 : Int) < (((2, 0) :: nr : List Stp).length : Nat) := by rw [List.length_cons]; omega
  have hz : ¬ (((((2, 0) :: nr : List Stp).length : Nat) : Int) = 0) := by rw [List.length_cons]; omega
  have ghm : 0 < ((1, 0) :: mr : List Stp).length := by simp
  have hlthm : (0 : Int) < (((1, 0) :: mr : List Stp).length : Nat) := by rw [List.length_cons]; omega
  obtain ⟨hmn, hmb, hme, hmc, hmL, hmr, rfl, hm1, hm2, hm3, hm4⟩ := hm
  obtain ⟨hnn, hnb, hne, hnc, hnL, hnr, rfl, hn1, hn2, hn3, hn4⟩ := hn
  have hgethn : hnL[hne + ((0 : Nat) : Int).toNat]? = some (enc (2, 0)) := Sl.at (k := 0) hn4 ghn
  have hgethm : hmL[hme + ((0 : Nat) : Int).toNat]? = some (enc (1, 0)) := Sl.at (k := 0) hm4 ghm
  refine fo_of hΘ Tryz.func30 rfl (by decide) _ _ rfl rfl rfl ?_
  conv => whnf
  refine br (fun g => absurd (of_decide_eq_true g) hz) (fun _ => ?_)
  conv => whnf
  refine ⟨Sl.lt hn1 ghn, ⟨by simp, hlthn⟩, ?_⟩
  conv => whnf
  refine ⟨_, hn2 (Sl.lt hn1 ghn), ?_⟩
  conv => whnf
  refine ⟨_, hgethn, ?_⟩
  conv => whnf
  refine br (fun g => absurd g (by decide)) (fun _ => ?_)
  conv => whnf
  refine br (fun _ => ?_) (fun g => absurd g (by decide))
  conv => whnf
  refine ⟨fun _ => ?_, fun g => absurd hlthm (of_decide_eq_false g)⟩
  conv => whnf
  refine ⟨Sl.lt hm1 ghm, ⟨by simp, hlthm⟩, ?_⟩
  conv => whnf
  refine ⟨_, hm2 (Sl.lt hm1 ghm), ?_⟩
  conv => whnf
  refine ⟨_, hgethm, ?_⟩
  conv => whnf
  refine ⟨Sl.lt hn1 ghn, ⟨by simp, hlthn⟩, ?_⟩
  conv => whnf
  refine ⟨_, hn2 (Sl.lt hn1 ghn), ?_⟩
  conv => whnf
  refine ⟨_, hgethn, ?_⟩
  conv => whnf
  refine ⟨fun g => absurd g (by decide), fun _ => ?_⟩
  conv => whnf
  refine freezeC 1 (fun _ => .arr 9 1 (([[97, 32, 32, 98]] : List (List UInt8)).map encS) 1) rfl rfl rfl (fun _ _ => rfl) (fun _ _ => SB.bB_ok rfl) ?_
  intro b1 A1 k1 hb1
  refine usePu (text_fn A1 _ _ (Sl.new (l := ([[97, 32, 32, 98]] : List (List UInt8))) (cap := 1) (hb1 0 rfl)) (by decide) (by simp)) rfl ⟨⟨rfl, rfl, rfl, .inr ⟨rfl, rfl, rfl, rfl⟩⟩, trivial⟩ rfl ?_
  conv => whnf
  refine freezeC 2 (fun _ => .arr 9 1 (([[97, 32, 98]] : List (List UInt8)).map encS) 1) rfl rfl rfl (fun _ _ => rfl) (fun _ _ => SB.bB_ok rfl) ?_
  intro b2 A2 k2 hb2
  refine usePu (text_fn A2 _ _ (Sl.new (l := ([[97, 32, 98]] : List (List UInt8))) (cap := 1) (hb2 0 rfl)) (by decide) (by simp)) rfl ⟨⟨rfl, rfl, rfl, .inr ⟨rfl, rfl, rfl, rfl⟩⟩, trivial⟩ rfl ?_
  conv => whnf
  exact pairEnd e1 e2 (Fz.le_trans k1 k2) rfl
set_option maxHeartbeats 8000000 in
theorem pairT6_fn (F : Fz) (sa sb : SA) (mr nr : List Stp) (hm : StepsAt F sa ((2, 0) :: mr)) (hn : StepsAt F sb ((2, 0) :: nr)) (hml : mr.length < 1000) (hl : nr.length < 1000) :
    Fo Tryz.prog F 30 [.va (.int .i64 1), .va sa, .va sb] (PairK F 1 ((2, 0) :: mr) ((2, 0) :: nr)) := by
  have e1 : writeS 1 (pairV 1 ((2, 0) :: mr) ((2, 0) :: nr)).1 = textS [[97, 32, 32, 98]] := by
    simp [writeS, pairV, lineW, numbersS, textS]
  have e2 : writeS 1 (pairV 1 ((2, 0) :: mr) ((2, 0) :: nr)).2 = textS [[97, 32, 98]] := by
    simp [writeS, pairV, lineW, numbersS, textS]
  have ghn : 0 < ((2, 0) :: nr : List Stp).length := by simp
  have hlthn : (0 : Int) < (((2, 0) :: nr : List Stp).length : Nat) := by rw [List.length_cons]; omega
  have hz : ¬ (((((2, 0) :: nr : List Stp).length : Nat) : Int) = 0) := by rw [List.length_cons]; omega
  have ghm : 0 < ((2, 0) :: mr : List Stp).length := by simp
  have hlthm : (0 : Int) < (((2, 0) :: mr : List Stp).length : Nat) := by rw [List.length_cons]; omega
  obtain ⟨hmn, hmb, hme, hmc, hmL, hmr, rfl, hm1, hm2, hm3, hm4⟩ := hm
  obtain ⟨hnn, hnb, hne, hnc, hnL, hnr, rfl, hn1, hn2, hn3, hn4⟩ := hn
  have hgethn : hnL[hne + ((0 : Nat) : Int).toNat]? = some (enc (2, 0)) := Sl.at (k := 0) hn4 ghn
  have hgethm : hmL[hme + ((0 : Nat) : Int).toNat]? = some (enc (2, 0)) := Sl.at (k := 0) hm4 ghm
  refine fo_of hΘ Tryz.func30 rfl (by decide) _ _ rfl rfl rfl ?_
  conv => whnf
  refine br (fun g => absurd (of_decide_eq_true g) hz) (fun _ => ?_)
  conv => whnf
  refine ⟨Sl.lt hn1 ghn, ⟨by simp, hlthn⟩, ?_⟩
  conv => whnf
  refine ⟨_, hn2 (Sl.lt hn1 ghn), ?_⟩
  conv => whnf
  refine ⟨_, hgethn, ?_⟩
  conv => whnf
  refine br (fun g => absurd g (by decide)) (fun _ => ?_)
  conv => whnf
  refine br (fun _ => ?_) (fun g => absurd g (by decide))
  conv => whnf
  refine ⟨fun _ => ?_, fun g => absurd hlthm (of_decide_eq_false g)⟩
  conv => whnf
  refine ⟨Sl.lt hm1 ghm, ⟨by simp, hlthm⟩, ?_⟩
  conv => whnf
  refine ⟨_, hm2 (Sl.lt hm1 ghm), ?_⟩
  conv => whnf
  refine ⟨_, hgethm, ?_⟩
  conv => whnf
  refine ⟨Sl.lt hn1 ghn, ⟨by simp, hlthn⟩, ?_⟩
  conv => whnf
  refine ⟨_, hn2 (Sl.lt hn1 ghn), ?_⟩
  conv => whnf
  refine ⟨_, hgethn, ?_⟩
  conv => whnf
  refine ⟨fun g => absurd g (by decide), fun _ => ?_⟩
  conv => whnf
  refine freezeC 1 (fun _ => .arr 9 1 (([[97, 32, 32, 98]] : List (List UInt8)).map encS) 1) rfl rfl rfl (fun _ _ => rfl) (fun _ _ => SB.bB_ok rfl) ?_
  intro b1 A1 k1 hb1
  refine usePu (text_fn A1 _ _ (Sl.new (l := ([[97, 32, 32, 98]] : List (List UInt8))) (cap := 1) (hb1 0 rfl)) (by decide) (by simp)) rfl ⟨⟨rfl, rfl, rfl, .inr ⟨rfl, rfl, rfl, rfl⟩⟩, trivial⟩ rfl ?_
  conv => whnf
  refine freezeC 2 (fun _ => .arr 9 1 (([[97, 32, 98]] : List (List UInt8)).map encS) 1) rfl rfl rfl (fun _ _ => rfl) (fun _ _ => SB.bB_ok rfl) ?_
  intro b2 A2 k2 hb2
  refine usePu (text_fn A2 _ _ (Sl.new (l := ([[97, 32, 98]] : List (List UInt8))) (cap := 1) (hb2 0 rfl)) (by decide) (by simp)) rfl ⟨⟨rfl, rfl, rfl, .inr ⟨rfl, rfl, rfl, rfl⟩⟩, trivial⟩ rfl ?_
  conv => whnf
  exact pairEnd e1 e2 (Fz.le_trans k1 k2) rfl
set_option maxHeartbeats 8000000 in
theorem pairM_fn (F : Fz) (sa sb : SA) (m nr : List Stp) (j : Int) (hj : 0 ≤ j ∧ j ≤ 6) (hm : StepsAt F sa m) (hn : StepsAt F sb ((4, j) :: nr)) (hl : nr.length < 1000) :
    Fo Tryz.prog F 30 [.va (.int .i64 2), .va sa, .va sb] (PairK F 2 m ((4, j) :: nr)) := by
  have hw : IntKind.i64.wrap (j + 1) = j + 1 := wrap64_id (by omega) (by omega)
  have e1 : writeS 2 (pairV 2 m ((4, j) :: nr)).1 = numbersS [1, IntKind.i64.wrap (j + 1)] := by
    rw [hw]
    simp [writeS, pairV, lineW, numbersS, textS]
  have e2 : writeS 2 (pairV 2 m ((4, j) :: nr)).2 = numbersS [1, 0] := by
    simp [writeS, pairV, lineW, numbersS, textS]
  clear hw
  have hk6 : ¬ ((4 : Int) = 6) := by decide
  have ghn : 0 < ((4, j) :: nr : List Stp).length := by simp
  have hlthn : (0 : Int) < (((4, j) :: nr : List Stp).length : Nat) := by rw [List.length_cons]; omega
  have hz : ¬ (((((4, j) :: nr : List Stp).length : Nat) : Int) = 0) := by rw [List.length_cons]; omega
  obtain ⟨hmn, hmb, hme, hmc, hmL, hmr, rfl, hm1, hm2, hm3, hm4⟩ := hm
  obtain ⟨hnn, hnb, hne, hnc, hnL, hnr, rfl, hn1, hn2, hn3, hn4⟩ := hn
  have hgethn : hnL[hne + ((0 : Nat) : Int).toNat]? = some (enc (4, j)) := Sl.at (k := 0) hn4 ghn
  refine fo_of hΘ Tryz.func30 rfl (by decide) _ _ rfl rfl rfl ?_
  conv => whnf
  refine br (fun g => absurd (of_decide_eq_true g) hz) (fun _ => ?_)
  conv => whnf
  refine ⟨Sl.lt hn1 ghn, ⟨by simp, hlthn⟩, ?_⟩
  conv => whnf
  refine ⟨_, hn2 (Sl.lt hn1 ghn), ?_⟩
  conv => whnf
  refine ⟨_, hgethn, ?_⟩
  conv => whnf
  refine br (fun g => absurd (of_decide_eq_true g) hk6) (fun _ => ?_)
  conv => whnf
  refine br (fun g => absurd g (by decide)) (fun _ => ?_)
  conv => whnf
  refine br (fun _ => ?_) (fun g => absurd g (by decide))
  conv => whnf
  refine ⟨Sl.lt hn1 ghn, ⟨by simp, hlthn⟩, ?_⟩
  conv => whnf
  refine ⟨_, hn2 (Sl.lt hn1 ghn), ?_⟩
  conv => whnf
  refine ⟨_, hgethn, ?_⟩
  conv => whnf
  refine freezeC 1 (fun _ => .arr 3 1 (([1, IntKind.i64.wrap (j + 1)] : List Int).map encI) 2) rfl rfl rfl (fun _ _ => rfl) (fun _ _ => SB.bB_ok rfl) ?_
  intro b1 A1 k1 hb1
  refine usePu (numbers_fn A1 _ _ (Sl.new (l := ([1, IntKind.i64.wrap (j + 1)] : List Int)) (cap := 2) (hb1 0 rfl)) (by simp)) rfl ⟨⟨rfl, rfl, rfl, .inr ⟨rfl, rfl, rfl, rfl⟩⟩, trivial⟩ rfl ?_
  conv => whnf
  refine freezeC 2 (fun _ => .arr 3 1 (([1, 0] : List Int).map encI) 2) rfl rfl rfl (fun _ _ => rfl) (fun _ _ => SB.bB_ok rfl) ?_
  intro b2 A2 k2 hb2
  refine usePu (numbers_fn A2 _ _ (Sl.new (l := ([1, 0] : List Int)) (cap := 2) (hb2 0 rfl)) (by simp)) rfl ⟨⟨rfl, rfl, rfl, .inr ⟨rfl, rfl, rfl, rfl⟩⟩, trivial⟩ rfl ?_
  conv => whnf
  exact pairEnd e1 e2 (Fz.le_trans k1 k2) rfl
set_option maxHeartbeats 8000000 in
theorem pairN3_fn (F : Fz) (sa sb : SA) (nr : List Stp) (j : Int) (hm : StepsAt F sa []) (hn : StepsAt F sb ((3, j) :: nr)) (hl : nr.length < 1000) :
    Fo Tryz.prog F 30 [.va (.int .i64 3), .va sa, .va sb] (PairK F 3 [] ((3, j) :: nr)) := by
  have e1 : writeS 3 (pairV 3 [] ((3, j) :: nr)).1 = numbersS [1, 0, 0, 1] := by
    simp [writeS, pairV, lineW, numbersS, textS]
  have e2 : writeS 3 (pairV 3 [] ((3, j) :: nr)).2 = numbersS [1, 0, 0, 0] := by
    simp [writeS, pairV, lineW, numbersS, textS]
  have hk6 : ¬ ((3 : Int) = 6) := by decide
  have ghn : 0 < ((3, j) :: nr : List Stp).length := by simp
  have hlthn : (0 : Int) < (((3, j) :: nr : List Stp).length : Nat) := by rw [List.length_cons]; omega
  have hz : ¬ (((((3, j) :: nr : List Stp).length : Nat) : Int) = 0) := by rw [List.length_cons]; omega
  obtain ⟨hmn, hmb, hme, hmc, hmL, hmr, rfl, hm1, hm2, hm3, hm4⟩ := hm
  obtain ⟨hnn, hnb, hne, hnc, hnL, hnr, rfl, hn1, hn2, hn3, hn4⟩ := hn
  have hgethn : hnL[hne + ((0 : Nat) : Int).toNat]? = some (enc (3, j)) := Sl.at (k := 0) hn4 ghn
  refine fo_of hΘ Tryz.func30 rfl (by decide) _ _ rfl rfl rfl ?_
  conv => whnf
  refine br (fun g => absurd (of_decide_eq_true g) hz) (fun _ => ?_)
  conv => whnf
  refine ⟨Sl.lt hn1 ghn, ⟨by simp, hlthn⟩, ?_⟩
  conv => whnf
  refine ⟨_, hn2 (Sl.lt hn1 ghn), ?_⟩
  conv => whnf
  refine ⟨_, hgethn, ?_⟩
  conv => whnf
  refine br (fun g => absurd (of_decide_eq_true g) hk6) (fun _ => ?_)
  conv => whnf
  refine br (fun g => absurd g (by decide)) (fun _ => ?_)
  conv => whnf
  refine br (fun g => absurd g (by decide)) (fun _ => ?_)
  conv => whnf
  refine br (fun _ => ?_) (fun g => absurd g (by decide))
  conv => whnf
  refine br (fun _ => ?_) (fun g => absurd g (by decide))
  conv => whnf
  refine br (fun g => absurd g (by decide)) (fun _ => ?_)
  conv => whnf
  refine freezeC 1 (fun _ => .arr 3 1 (([1, 0, 0, 1] : List Int).map encI) 4) rfl rfl rfl (fun _ _ => rfl) (fun _ _ => SB.bB_ok rfl) ?_
  intro b1 A1 k1 hb1
  refine usePu (numbers_fn A1 _ _ (Sl.new (l := ([1, 0, 0, 1] : List Int)) (cap := 4) (hb1 0 rfl)) (by simp)) rfl ⟨⟨rfl, rfl, rfl, .inr ⟨rfl, rfl, rfl, rfl⟩⟩, trivial⟩ rfl ?_
  conv => whnf
  refine freezeC 2 (fun _ => .arr 3 1 (([1, 0, 0, 0] : List Int).map encI) 4) rfl rfl rfl (fun _ _ => rfl) (fun _ _ => SB.bB_ok rfl) ?_
  intro b2 A2 k2 hb2
  refine usePu (numbers_fn A2 _ _ (Sl.new (l := ([1, 0, 0, 0] : List Int)) (cap := 4) (hb2 0 rfl)) (by simp)) rfl ⟨⟨rfl, rfl, rfl, .inr ⟨rfl, rfl, rfl, rfl⟩⟩, trivial⟩ rfl ?_
  conv => whnf
  exact pairEnd e1 e2 (Fz.le_trans k1 k2) rfl
set_option maxHeartbeats 8000000 in
theorem pairR3_fn (F : Fz) (sa sb : SA) (mr nr : List Stp) (j N : Int) (hm : StepsAt F sa ((3, N) :: mr)) (hn : StepsAt F sb ((3, j) :: nr)) (hl : nr.length < 1000) :
    Fo Tryz.prog F 30 [.va (.int .i64 3), .va sa, .va sb] (PairK F 3 ((3, N) :: mr) ((3, j) :: nr)) := by
  have e1 : writeS 3 (pairV 3 ((3, N) :: mr) ((3, j) :: nr)).1 = numbersS [1, 0, 0, N] := by
    simp [writeS, pairV, lineW, numbersS, textS]
  have e2 : writeS 3 (pairV 3 ((3, N) :: mr) ((3, j) :: nr)).2 = numbersS [1, 0, 0, 0] := by
    simp [writeS, pairV, lineW, numbersS, textS]
  have ghm : 0 < ((3, N) :: mr : List Stp).length := by simp
  have hlthm : (0 : Int) < (((3, N) :: mr : List Stp).length : Nat) := by rw [List.length_cons]; omega
  have hk6 : ¬ ((3 : Int) = 6) := by decide
  have ghn : 0 < ((3, j) :: nr : List Stp).length := by simp
  have hlthn : (0 : Int) < (((3, j) :: nr : List Stp).length : Nat) := by rw [List.length_cons]; omega
  have hz : ¬ (((((3, j) :: nr : List Stp).length : Nat) : Int) = 0) := by rw [List.length_cons]; omega
  obtain ⟨hmn, hmb, hme, hmc, hmL, hmr, rfl, hm1, hm2, hm3, hm4⟩ := hm
  obtain ⟨hnn, hnb, hne, hnc, hnL, hnr, rfl, hn1, hn2, hn3, hn4⟩ := hn
  have hgethn : hnL[hne + ((0 : Nat) : Int).toNat]? = some (enc (3, j)) := Sl.at (k := 0) hn4 ghn
  have hgethm : hmL[hme + ((0 : Nat) : Int).toNat]? = some (enc (3, N)) := Sl.at (k := 0) hm4 ghm
  refine fo_of hΘ Tryz.func30 rfl (by decide) _ _ rfl rfl rfl ?_
  conv => whnf
  refine br (fun g => absurd (of_decide_eq_true g) hz) (fun _ => ?_)
  conv => whnf
  refine ⟨Sl.lt hn1 ghn, ⟨by simp, hlthn⟩, ?_⟩
  conv => whnf
  refine ⟨_, hn2 (Sl.lt hn1 ghn), ?_⟩
  conv => whnf
  refine ⟨_, hgethn, ?_⟩
  conv => whnf
  refine br (fun g => absurd (of_decide_eq_true g) hk6) (fun _ => ?_)
  conv => whnf
  refine br (fun g => absurd g (by decide)) (fun _ => ?_)
  conv => whnf
  refine br (fun g => absurd g (by decide)) (fun _ => ?_)
  conv => whnf
  refine br (fun _ => ?_) (fun g => absurd g (by decide))
  conv => whnf
  refine br (fun _ => ?_) (fun g => absurd g (by decide))
  conv => whnf
  refine br (fun _ => ?_) (fun g => absurd hlthm (of_decide_eq_false g))
  conv => whnf
  refine ⟨Sl.lt hm1 ghm, ⟨by simp, hlthm⟩, ?_⟩
  conv => whnf
  refine ⟨_, hm2 (Sl.lt hm1 ghm), ?_⟩
  conv => whnf
  refine ⟨_, hgethm, ?_⟩
  conv => whnf
  refine freezeC 1 (fun _ => .arr 3 1 (([1, 0, 0, N] : List Int).map encI) 4) rfl rfl rfl (fun _ _ => rfl) (fun _ _ => SB.bB_ok rfl) ?_
  intro b1 A1 k1 hb1
  refine usePu (numbers_fn A1 _ _ (Sl.new (l := ([1, 0, 0, N] : List Int)) (cap := 4) (hb1 0 rfl)) (by simp)) rfl ⟨⟨rfl, rfl, rfl, .inr ⟨rfl, rfl, rfl, rfl⟩⟩, trivial⟩ rfl ?_
  conv => whnf
  refine freezeC 2 (fun _ => .arr 3 1 (([1, 0, 0, 0] : List Int).map encI) 4) rfl rfl rfl (fun _ _ => rfl) (fun _ _ => SB.bB_ok rfl) ?_
  intro b2 A2 k2 hb2
  refine usePu (numbers_fn A2 _ _ (Sl.new (l := ([1, 0, 0, 0] : List Int)) (cap := 4) (hb2 0 rfl)) (by simp)) rfl ⟨⟨rfl, rfl, rfl, .inr ⟨rfl, rfl, rfl, rfl⟩⟩, trivial⟩ rfl ?_
  conv => whnf
  exact pairEnd e1 e2 (Fz.le_trans k1 k2) rfl
set_option maxHeartbeats 8000000 in
theorem pairN5_fn (F : Fz) (sa sb : SA) (nr : List Stp) (j : Int) (hm : StepsAt F sa []) (hn : StepsAt F sb ((3, j) :: nr)) (hl : nr.length < 1000) :
    Fo Tryz.prog F 30 [.va (.int .i64 5), .va sa, .va sb] (PairK F 5 [] ((3, j) :: nr)) := by
  have e1 : writeS 5 (pairV 5 [] ((3, j) :: nr)).1 = numbersS [1, 0, 0, 1] := by
    simp [writeS, pairV, lineW, numbersS, textS]
  have e2 : writeS 5 (pairV 5 [] ((3, j) :: nr)).2 = numbersS [1, 0, 0, 0] := by
    simp [writeS, pairV, lineW, numbersS, textS]
  have hk6 : ¬ ((3 : Int) = 6) := by decide
  have ghn : 0 < ((3, j) :: nr : List Stp).length := by simp
  have hlthn : (0 : Int) < (((3, j) :: nr : List Stp).length : Nat) := by rw [List.length_cons]; omega
  have hz : ¬ (((((3, j) :: nr : List Stp).length : Nat) : Int) = 0) := by rw [List.length_cons]; omega
  obtain ⟨hmn, hmb, hme, hmc, hmL, hmr, rfl, hm1, hm2, hm3, hm4⟩ := hm
  obtain ⟨hnn, hnb, hne, hnc, hnL, hnr, rfl, hn1, hn2, hn3, hn4⟩ := hn
  have hgethn : hnL[hne + ((0 : Nat) : Int).toNat]? = some (enc (3, j)) := Sl.at (k := 0) hn4 ghn
  refine fo_of hΘ Tryz.func30 rfl (by decide) _ _ rfl rfl rfl ?_
  conv => whnf
  refine br (fun g => absurd (of_decide_eq_true g) hz) (fun _ => ?_)
  conv => whnf
  refine ⟨Sl.lt hn1 ghn, ⟨by simp, hlthn⟩, ?_⟩
  conv => whnf
  refine ⟨_, hn2 (Sl.lt hn1 ghn), ?_⟩
  conv => whnf
  refine ⟨_, hgethn, ?_⟩
  conv => whnf
  refine br (fun g => absurd (of_decide_eq_true g) hk6) (fun _ => ?_)
  conv => whnf
  refine br (fun g => absurd g (by decide)) (fun _ => ?_)
  conv => whnf
  refine br (fun g => absurd g (by decide)) (fun _ => ?_)
  conv => whnf
  refine br (fun g => absurd g (by decide)) (fun _ => ?_)
  conv => whnf
  refine br (fun _ => ?_) (fun g => absurd g (by decide))
  conv => whnf
  refine br (fun g => absurd g (by decide)) (fun _ => ?_)
  conv => whnf
  refine freezeC 1 (fun _ => .arr 3 1 (([1, 0, 0, 1] : List Int).map encI) 4) rfl rfl rfl (fun _ _ => rfl) (fun _ _ => SB.bB_ok rfl) ?_
  intro b1 A1 k1 hb1
  refine usePu (numbers_fn A1 _ _ (Sl.new (l := ([1, 0, 0, 1] : List Int)) (cap := 4) (hb1 0 rfl)) (by simp)) rfl ⟨⟨rfl, rfl, rfl, .inr ⟨rfl, rfl, rfl, rfl⟩⟩, trivial⟩ rfl ?_
  conv => whnf
  refine freezeC 2 (fun _ => .arr 3 1 (([1, 0, 0, 0] : List Int).map encI) 4) rfl rfl rfl (fun _ _ => rfl) (fun _ _ => SB.bB_ok rfl) ?_
  intro b2 A2 k2 hb2
  refine usePu (numbers_fn A2 _ _ (Sl.new (l := ([1, 0, 0, 0] : List Int)) (cap := 4) (hb2 0 rfl)) (by simp)) rfl ⟨⟨rfl, rfl, rfl, .inr ⟨rfl, rfl, rfl, rfl⟩⟩, trivial⟩ rfl ?_
  conv => whnf
  exact pairEnd e1 e2 (Fz.le_trans k1 k2) rfl
set_option maxHeartbeats 8000000 in
theorem pairR5_fn (F : Fz) (sa sb : SA) (mr nr : List Stp) (j N : Int) (hm : StepsAt F sa ((3, N) :: mr)) (hn : StepsAt F sb ((3, j) :: nr)) (hl : nr.length < 1000) :
    Fo Tryz.prog F 30 [.va (.int .i64 5), .va sa, .va sb] (PairK F 5 ((3, N) :: mr) ((3, j) :: nr)) := by
  have e1 : writeS 5 (pairV 5 ((3, N) :: mr) ((3, j) :: nr)).1 = numbersS [1, 0, 0, N] := by
    simp [writeS, pairV, lineW, numbersS, textS]
  have e2 : writeS 5 (pairV 5 ((3, N) :: mr) ((3, j) :: nr)).2 = numbersS [1, 0, 0, 0] := by
    simp [writeS, pairV, lineW, numbersS, textS]
  have ghm : 0 < ((3, N) :: mr : List Stp).length := by simp
  have hlthm : (0 : Int) < (((3, N) :: mr : List Stp).length : Nat) := by rw [List.length_cons]; omega
  have hk6 : ¬ ((3 : Int) = 6) := by decide
  have ghn : 0 < ((3, j) :: nr : List Stp).length := by simp
  have hlthn : (0 : Int) < (((3, j) :: nr : List Stp).length : Nat) := by rw [List.length_cons]; omega
  have hz : ¬ (((((3, j) :: nr : List Stp).length : Nat) : Int) = 0) := by rw [List.length_cons]; omega
  obtain ⟨hmn, hmb, hme, hmc, hmL, hmr, rfl, hm1, hm2, hm3, hm4⟩ := hm
  obtain ⟨hnn, hnb, hne, hnc, hnL, hnr, rfl, hn1, hn2, hn3, hn4⟩ := hn
  have hgethn : hnL[hne + ((0 : Nat) : Int).toNat]? = some (enc (3, j)) := Sl.at (k := 0) hn4 ghn
  have hgethm : hmL[hme + ((0 : Nat) : Int).toNat]? = some (enc (3, N)) := Sl.at (k := 0) hm4 ghm
  refine fo_of hΘ Tryz.func30 rfl (by decide) _ _ rfl rfl rfl ?_
  conv => whnf
  refine br (fun g => absurd (of_decide_eq_true g) hz) (fun _ => ?_)
  conv => whnf
  refine ⟨Sl.lt hn1 ghn, ⟨by simp, hlthn⟩, ?_⟩
  conv => whnf
  refine ⟨_, hn2 (Sl.lt hn1 ghn), ?_⟩
  conv => whnf
  refine ⟨_, hgethn, ?_⟩
  conv => whnf
  refine br (fun g => absurd (of_decide_eq_true g) hk6) (fun _ => ?_)
  conv => whnf
  refine br (fun g => absurd g (by decide)) (fun _ => ?_)
  conv => whnf
  refine br (fun g => absurd g (by decide)) (fun _ => ?_)
  conv => whnf
  refine br (fun g => absurd g (by decide)) (fun _ => ?_)
  conv => whnf
  refine br (fun _ => ?_) (fun g => absurd g (by decide))
  conv => whnf
  refine br (fun _ => ?_) (fun g => absurd hlthm (of_decide_eq_false g))
  conv => whnf
  refine ⟨Sl.lt hm1 ghm, ⟨by simp, hlthm⟩, ?_⟩
  conv => whnf
  refine ⟨_, hm2 (Sl.lt hm1 ghm), ?_⟩
  conv => whnf
  refine ⟨_, hgethm, ?_⟩
  conv => whnf
  refine freezeC 1 (fun _ => .arr 3 1 (([1, 0, 0, N] : List Int).map encI) 4) rfl rfl rfl (fun _ _ => rfl) (fun _ _ => SB.bB_ok rfl) ?_
  intro b1 A1 k1 hb1
  refine usePu (numbers_fn A1 _ _ (Sl.new (l := ([1, 0, 0, N] : List Int)) (cap := 4) (hb1 0 rfl)) (by simp)) rfl ⟨⟨rfl, rfl, rfl, .inr ⟨rfl, rfl, rfl, rfl⟩⟩, trivial⟩ rfl ?_
  conv => whnf
  refine freezeC 2 (fun _ => .arr 3 1 (([1, 0, 0, 0] : List Int).map encI) 4) rfl rfl rfl (fun _ _ => rfl) (fun _ _ => SB.bB_ok rfl) ?_
  intro b2 A2 k2 hb2
  refine usePu (numbers_fn A2 _ _ (Sl.new (l := ([1, 0, 0, 0] : List Int)) (cap := 4) (hb2 0 rfl)) (by simp)) rfl ⟨⟨rfl, rfl, rfl, .inr ⟨rfl, rfl, rfl, rfl⟩⟩, trivial⟩ rfl ?_
  conv => whnf
  exact pairEnd e1 e2 (Fz.le_trans k1 k2) rfl
end Go.Proofs.YtblllibdahkgfaaGreatDoor

namespace Go.Proofs.YtblllibdahkgfaaGreatDoor
open Go Sx
set_option maxRecDepth 100000
theorem four {n : Nat} (h : n ≤ 4) : n = 0 ∨ n = 1 ∨ n = 2 ∨ n = 3 ∨ n = 4 := by omega
set_option maxHeartbeats 8000000 in
theorem pair6_fn (F : Fz) (sa sb : SA) (m nr : List Stp) (j : Int) (hml : m.length ≤ 4) (hm : StepsAt F sa m) (hn : StepsAt F sb ((5, j) :: nr)) (hl : nr.length < 1000) :
    Fo Tryz.prog F 30 [.va (.int .i64 6), .va sa, .va sb] (PairK F 6 m ((5, j) :: nr)) := by
  have e1 : writeS 6 (pairV 6 m ((5, j) :: nr)).1 = numbersS [shlI .i64 1 (m.length : Nat), 1] := by
    rcases four hml with h | h | h | h | h <;> simp [writeS, pairV, lineW, numbersS, textS, h] <;> rfl
  have e2 : writeS 6 (pairV 6 m ((5, j) :: nr)).2 = numbersS [shlI .i64 2 (m.length : Nat), 1] := by
    rcases four hml with h | h | h | h | h <;> simp [writeS, pairV, lineW, numbersS, textS, h] <;> rfl
  have hk6 : ¬ ((5 : Int) = 6) := by decide
  have ghn : 0 < ((5, j) :: nr : List Stp).length := by simp
  have hlthn : (0 : Int) < (((5, j) :: nr : List Stp).length : Nat) := by rw [List.length_cons]; omega
  have hz : ¬ (((((5, j) :: nr : List Stp).length : Nat) : Int) = 0) := by rw [List.length_cons]; omega
  obtain ⟨hmn, hmb, hme, hmc, hmL, hmr, rfl, hm1, hm2, hm3, hm4⟩ := hm
  obtain ⟨hnn, hnb, hne, hnc, hnL, hnr, rfl, hn1, hn2, hn3, hn4⟩ := hn
  have hgethn : hnL[hne + ((0 : Nat) : Int).toNat]? = some (enc (5, j)) := Sl.at (k := 0) hn4 ghn
  refine fo_of hΘ Tryz.func30 rfl (by decide) _ _ rfl rfl rfl ?_
  conv => whnf
  refine br (fun g => absurd (of_decide_eq_true g) hz) (fun _ => ?_)
  conv => whnf
  refine ⟨Sl.lt hn1 ghn, ⟨by simp, hlthn⟩, ?_⟩
  conv => whnf
  refine ⟨_, hn2 (Sl.lt hn1 ghn), ?_⟩
  conv => whnf
  refine ⟨_, hgethn, ?_⟩
  conv => whnf
  refine br (fun g => absurd (of_decide_eq_true g) hk6) (fun _ => ?_)
  conv => whnf
  refine br (fun g => absurd g (by decide)) (fun _ => ?_)
  conv => whnf
  refine br (fun g => absurd g (by decide)) (fun _ => ?_)
  conv => whnf
  refine br (fun g => absurd g (by decide)) (fun _ => ?_)
  conv => whnf
  refine br (fun g => absurd g (by decide)) (fun _ => ?_)
  conv => whnf
  refine br (fun _ => ?_) (fun g => absurd g (by decide))
  conv => whnf
  refine drawP hΘ mixed (.look 0 (.look 1 (.look 2 (.look 5 (.look 6 (.look 7 (.alt 3 (.alt 4 (.alt 8 (.alt 9 (.look 10 (.look 11 .done)) .nil) .nil) (.alt 8 (.alt 4 (.alt 9 (.look 10 (.look 11 .done)) .nil) .nil) .nil)) (.alt 8 (.alt 3 (.alt 4 (.alt 9 (.look 10 (.look 11 .done)) .nil) .nil) .nil) .nil)))))))) [] (by kernel_rfl) ?_
  conv => whnf
  refine ⟨Int.natCast_nonneg _, ?_⟩
  conv => whnf
  refine ⟨Int.natCast_nonneg _, ?_⟩
  conv => whnf
  refine ⟨?_, ?_⟩
  · skip
    conv => whnf
    refine ⟨Fz.le_refl F, ?_⟩
    conv => whnf
    refine ⟨?_, ?_⟩
    · skip
      conv => whnf
      refine freezeC 1 (fun _ => .arr 3 1 (([shlI .i64 1 (m.length : Nat), 1] : List Int).map encI) 2) rfl rfl rfl (fun _ _ => rfl) (fun _ _ => SB.bB_ok rfl) ?_
      intro b1 A1 k1 hb1
      refine usePu (numbers_fn A1 _ _ (Sl.new (l := ([shlI .i64 1 (m.length : Nat), 1] : List Int)) (cap := 2) (hb1 0 rfl)) (by simp)) rfl ⟨⟨rfl, rfl, rfl, .inr ⟨rfl, rfl, rfl, rfl⟩⟩, trivial⟩ rfl ?_
      conv => whnf
      refine ⟨k1, ?_⟩
      conv => whnf
      refine ⟨Fz.le_refl A1, ?_⟩
      conv => whnf
      refine freezeC 2 (fun _ => .arr 3 1 (([shlI .i64 2 (m.length : Nat), 1] : List Int).map encI) 2) rfl rfl rfl (fun _ _ => rfl) (fun _ _ => SB.bB_ok rfl) ?_
      intro b2 A2 k2 hb2
      refine usePu (numbers_fn A2 _ _ (Sl.new (l := ([shlI .i64 2 (m.length : Nat), 1] : List Int)) (cap := 2) (hb2 0 rfl)) (by simp)) rfl ⟨⟨rfl, rfl, rfl, .inr ⟨rfl, rfl, rfl, rfl⟩⟩, trivial⟩ rfl ?_
      conv => whnf
      refine ⟨k2, ?_⟩
      conv => whnf
      exact pairEnd e1 e2 (Fz.le_trans k1 k2) rfl
    · skip
      conv => whnf
      refine ⟨Fz.le_refl F, ?_⟩
      conv => whnf
      refine freezeC 1 (fun _ => .arr 3 1 (([shlI .i64 1 (m.length : Nat), 1] : List Int).map encI) 2) rfl rfl rfl (fun _ _ => rfl) (fun _ _ => SB.bB_ok rfl) ?_
      intro b1 A1 k1 hb1
      refine usePu (numbers_fn A1 _ _ (Sl.new (l := ([shlI .i64 1 (m.length : Nat), 1] : List Int)) (cap := 2) (hb1 0 rfl)) (by simp)) rfl ⟨⟨rfl, rfl, rfl, .inr ⟨rfl, rfl, rfl, rfl⟩⟩, trivial⟩ rfl ?_
      conv => whnf
      refine ⟨k1, ?_⟩
      conv => whnf
      refine freezeC 2 (fun _ => .arr 3 1 (([shlI .i64 2 (m.length : Nat), 1] : List Int).map encI) 2) rfl rfl rfl (fun _ _ => rfl) (fun _ _ => SB.bB_ok rfl) ?_
      intro b2 A2 k2 hb2
      refine usePu (numbers_fn A2 _ _ (Sl.new (l := ([shlI .i64 2 (m.length : Nat), 1] : List Int)) (cap := 2) (hb2 0 rfl)) (by simp)) rfl ⟨⟨rfl, rfl, rfl, .inr ⟨rfl, rfl, rfl, rfl⟩⟩, trivial⟩ rfl ?_
      conv => whnf
      refine ⟨k2, ?_⟩
      conv => whnf
      exact pairEnd e1 e2 (Fz.le_trans k1 k2) rfl
  · skip
    conv => whnf
    refine ⟨Fz.le_refl F, ?_⟩
    conv => whnf
    refine ⟨Fz.le_refl F, ?_⟩
    conv => whnf
    refine freezeC 2 (fun _ => .arr 3 1 (([shlI .i64 1 (m.length : Nat), 1] : List Int).map encI) 2) rfl rfl rfl (fun _ _ => rfl) (fun _ _ => SB.bB_ok rfl) ?_
    intro b1 A1 k1 hb1
    refine usePu (numbers_fn A1 _ _ (Sl.new (l := ([shlI .i64 1 (m.length : Nat), 1] : List Int)) (cap := 2) (hb1 0 rfl)) (by simp)) rfl ⟨⟨rfl, rfl, rfl, .inr ⟨rfl, rfl, rfl, rfl⟩⟩, trivial⟩ rfl ?_
    conv => whnf
    refine ⟨k1, ?_⟩
    conv => whnf
    refine freezeC 1 (fun _ => .arr 3 1 (([shlI .i64 2 (m.length : Nat), 1] : List Int).map encI) 2) rfl rfl rfl (fun _ _ => rfl) (fun _ _ => SB.bB_ok rfl) ?_
    intro b2 A2 k2 hb2
    refine usePu (numbers_fn A2 _ _ (Sl.new (l := ([shlI .i64 2 (m.length : Nat), 1] : List Int)) (cap := 2) (hb2 0 rfl)) (by simp)) rfl ⟨⟨rfl, rfl, rfl, .inr ⟨rfl, rfl, rfl, rfl⟩⟩, trivial⟩ rfl ?_
    conv => whnf
    refine ⟨k2, ?_⟩
    conv => whnf
    exact pairEnd e1 e2 (Fz.le_trans k1 k2) rfl
end Go.Proofs.YtblllibdahkgfaaGreatDoor
