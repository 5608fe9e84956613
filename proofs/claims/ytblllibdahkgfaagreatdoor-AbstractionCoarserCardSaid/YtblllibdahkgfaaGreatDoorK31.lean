import Derived.Test.YtblllibdahkgfaaGreatDoorK30

namespace Go.Proofs.YtblllibdahkgfaaGreatDoor
open Go Sx
set_option maxRecDepth 100000
theorem shr_i64 {x n : Int} (hx : i64 x) : i64 (shrI .i64 x n) := by
  unfold i64 at *
  unfold shrI
  obtain ⟨m, hm⟩ : ∃ m, min n.toNat IntKind.i64.bits = m := ⟨_, rfl⟩
  rw [hm]
  have hp : (0 : Int) < 2 ^ m := by exact_mod_cast Nat.two_pow_pos m
  obtain ⟨y, hy⟩ : ∃ y : Int, 2 ^ m = y := ⟨_, rfl⟩
  rw [hy] at hp ⊢
  rw [Int.fdiv_eq_ediv_of_nonneg _ (by omega)]
  constructor
  · rw [Int.le_ediv_iff_mul_le hp]; omega
  · have h2 : x / y ≤ 9223372036854775807 / y := Int.ediv_le_ediv hp hx.2
    have h3 : (9223372036854775807 : Int) / y ≤ 9223372036854775807 := Int.ediv_le_self _ (by omega)
    omega
theorem tmodN (i : Nat) {n : Nat} : (i : Int).tmod (n : Int) = ((i % n : Nat) : Int) := by
  rw [Int.tmod_eq_emod_of_nonneg (by omega)]; rfl
def bits2 (l : List UInt8) : Bool := l.all (fun b => b == 48 || b == 49)
theorem bits2_snoc {l : List UInt8} {b : UInt8} (h : bits2 l = true) (hb : b = 48 ∨ b = 49) : bits2 (l ++ [b]) = true := by
  unfold bits2 at *
  rw [List.all_append, h]
  rcases hb with rfl | rfl <;> rfl
theorem mul1024 {w h : Int} (hw : 0 ≤ w ∧ w ≤ 32) (hh : min w 1 ≤ h ∧ h ≤ min w 1 * 32) : 0 ≤ w * h ∧ w * h ≤ 1024 := by
  have h0 : 0 ≤ h := by omega
  refine ⟨Int.mul_nonneg hw.1 h0, ?_⟩
  have h1 : w * h ≤ 32 * h := Int.mul_le_mul_of_nonneg_right hw.2 h0
  omega
set_option maxHeartbeats 16000000 in
theorem some7_fn (F : Fz) (b off cap : Nat) (q0 : Q4) (qr : List Q4) (ha : RawAt F b off (ints4 (q0 :: qr))) (hl : qr.length < 9223372036854775808) (hx : ∀ q ∈ q0 :: qr, i64 q.1 ∧ i64 q.2.1 ∧ i64 q.2.2.1 ∧ i64 q.2.2.2) :
    Fo Tryz.prog F 24 [.va (.int .i64 7), .va (.slice false 0 b off 1 (qr.length + 1) cap)] (fun o F' => ∃ v, VOK 7 v ∧ o = .ret (.va (.str (writeS 7 v)))) := by
  have hro := ha.quad
  obtain ⟨B, hro⟩ := hro
  have hq := hro 0 (by simp)
  have hB := hq.1
  have hr0 := hq.2.1
  have hr1 := hq.2.2.1
  have hr2 := hq.2.2.2.1
  have hk0 : (off + (0 : Int).toNat * 4) * 1 + (0 + (0 : Int).toNat * 1) = off + 0 * 4 := by simp
  have hk1 : (off + (0 : Int).toNat * 4) * 1 + (0 + (1 : Int).toNat * 1) = off + 0 * 4 + 1 := by simp
  have hk2 : (off + (0 : Int).toNat * 4) * 1 + (0 + (2 : Int).toNat * 1) = off + 0 * 4 + 2 := by simp
  have hx0 := hx q0 (by simp)
  have hin0 : 0 ≤ (0 : Int) ∧ (0 : Int) < ((qr.length + 1 : Nat) : Int) := ⟨by omega, by omega⟩
  have hpos : (0 : Int) < ((qr.length + 1 : Nat) : Int) := by omega
  have pk0 := pick_pu q0.1 4 hx0.1 (by decide) F
  have hpk0 : ∃ k, pickI q0.1 4 = k := ⟨_, rfl⟩
  obtain ⟨k0, hpk0⟩ := hpk0
  have rg0 := pick4 hx0.1 (by decide) hpk0
  rw [hpk0] at pk0
  have pk1 := pick_pu q0.1 9 hx0.1 (by decide) F
  have hpk1 : ∃ k, pickI q0.1 9 = k := ⟨_, rfl⟩
  obtain ⟨k1, hpk1⟩ := hpk1
  have rg1 := pick4 hx0.1 (by decide) hpk1
  rw [hpk1] at pk1
  have pk2 := pick_pu q0.2.1 8 hx0.2.1 (by decide) F
  have hpk2 : ∃ k, pickI q0.2.1 8 = k := ⟨_, rfl⟩
  obtain ⟨k2, hpk2⟩ := hpk2
  have rg2 := pick4 hx0.2.1 (by decide) hpk2
  rw [hpk2] at pk2
  have pk3 := pick_pu q0.2.2.1 5 hx0.2.2.1 (by decide) F
  have hpk3 : ∃ k, pickI q0.2.2.1 5 = k := ⟨_, rfl⟩
  obtain ⟨k3, hpk3⟩ := hpk3
  have rg3 := pick4 hx0.2.2.1 (by decide) hpk3
  rw [hpk3] at pk3
  have pk4 := pick_pu q0.1 33 hx0.1 (by decide) F
  have hpk4 : ∃ k, pickI q0.1 33 = k := ⟨_, rfl⟩
  obtain ⟨k4, hpk4⟩ := hpk4
  have rg4 := pick4 hx0.1 (by decide) hpk4
  rw [hpk4] at pk4
  have pk5 := pick_pu q0.2.1 32 hx0.2.1 (by decide) F
  have hpk5 : ∃ k, pickI q0.2.1 32 = k := ⟨_, rfl⟩
  obtain ⟨k5, hpk5⟩ := hpk5
  have rg5 := pick4 hx0.2.1 (by decide) hpk5
  rw [hpk5] at pk5
  have eh2 : IntKind.i64.wrap (1 + k2) = 1 + k2 := wrap64_id (by omega) (by omega)
  have eh5 : IntKind.i64.wrap (1 + k5) = 1 + k5 := wrap64_id (by omega) (by omega)
  have vl : VOK 7 loseV := .inl rfl
  have el : writeS 7 loseV = [] := if_pos rfl
  clear hpk0 hpk1 hpk2 hpk3 hpk4 hpk5 hx0 hq ha
  refine fo_of hΘ Tryz.func24 rfl (by decide) _ _ rfl rfl rfl ?_
  conv => whnf
  refine ⟨fun ga => ?_, fun ga => ?_⟩
  · clear ga
    conv => whnf
    refine ⟨rfl, hin0, ?_⟩
    conv => whnf
    refine ⟨⟨by decide, by decide⟩, ?_⟩
    conv => whnf
    refine ⟨_, hB, ?_⟩
    refine hr0.rd hk0 ?_
    conv => whnf
    refine usePu pk0 rfl ⟨rfl, rfl, trivial⟩ rfl ?_
    conv => whnf
    refine br (fun g => ?_) (fun g => ?_)
    · conv => whnf
      exact someEnd vl el (Fz.le_refl F) rfl
    · clear g
      conv => whnf
      refine br (fun _ => ?_) (fun g => absurd g (by decide))
      conv => whnf
      refine br (fun _ => ?_) (fun g => absurd hpos (of_decide_eq_false g))
      conv => whnf
      refine ⟨rfl, hin0, ?_⟩
      conv => whnf
      refine ⟨⟨by decide, by decide⟩, ?_⟩
      conv => whnf
      refine ⟨_, hB, ?_⟩
      refine hr0.rd hk0 ?_
      conv => whnf
      refine usePu pk1 rfl ⟨rfl, rfl, trivial⟩ rfl ?_
      conv => whnf
      refine ⟨rfl, hin0, ?_⟩
      conv => whnf
      refine ⟨⟨by decide, by decide⟩, ?_⟩
      conv => whnf
      refine ⟨_, hB, ?_⟩
      refine hr1.rd hk1 ?_
      conv => whnf
      refine usePu pk2 rfl ⟨rfl, rfl, trivial⟩ rfl ?_
      conv => whnf
      refine ⟨rfl, hin0, ?_⟩
      conv => whnf
      refine ⟨⟨by decide, by decide⟩, ?_⟩
      conv => whnf
      refine ⟨_, hB, ?_⟩
      refine hr2.rd hk2 ?_
      conv => whnf
      refine usePu pk3 rfl ⟨rfl, rfl, trivial⟩ rfl ?_
      conv => whnf
      refine br (fun g5 => ?_) (fun g5 => ?_)
      · clear g5
        conv => whnf
        refine ⟨rfl, hin0, ?_⟩
        conv => whnf
        refine ⟨⟨by decide, by decide⟩, ?_⟩
        conv => whnf
        refine ⟨_, hB, ?_⟩
        refine hr0.rd hk0 ?_
        conv => whnf
        refine usePu pk4 rfl ⟨rfl, rfl, trivial⟩ rfl ?_
        conv => whnf
        refine ⟨rfl, hin0, ?_⟩
        conv => whnf
        refine ⟨⟨by decide, by decide⟩, ?_⟩
        conv => whnf
        refine ⟨_, hB, ?_⟩
        refine hr1.rd hk1 ?_
        conv => whnf
        refine usePu pk5 rfl ⟨rfl, rfl, trivial⟩ rfl ?_
        conv => whnf
        refine br (fun g0 => ?_) (fun g0 => ?_)
        · have g0' : k4 = 0 := of_decide_eq_true g0
          clear g0
          have hw : 0 ≤ k4 ∧ k4 ≤ 32 := ⟨by omega, by omega⟩
          have hh : min k4 1 ≤ 0 ∧ 0 ≤ min k4 1 * 32 := ⟨by omega, by omega⟩
          have hwh : 0 ≤ k4 * 0 ∧ k4 * 0 ≤ 1024 := mul1024 hw hh
          have ewh : IntKind.i64.wrap (k4 * 0) = k4 * 0 := wrap64_id (by omega) (by omega)
          conv => whnf
          refine loop_at hΘ (X := { y : Nat × List UInt8 // (y.1 : Int) ≤ k4 * 0 ∧ y.2.length = y.1 ∧ bits2 y.2 = true }) (fun y => [(6, .va (.int .i64 y.1.1))]) [66, 67, 68, 69, 70, 71, 72, 73, 74, 75, 76, 77, 78, 79, 80, 81, 82, 83, 84, 85, 86, 87, 88, 89, 90, 91, 92, 93, 94, 95, 96] (fun y => [(0, .frz F), (1, rvalE ⟨false, [], k4, 0, y.1.2⟩ 2 0), (2, gE 88 5 encL 0 [])]) 3 (fun y => (k4 * 0).toNat - y.1.1) ⟨(0, []), ⟨hwh.1, rfl, rfl⟩⟩
            (fun hH hT => leI [(2, 2)] hH hT rfl ⟨trivial, rvalE_below (by omega) _, gE_below encL_plain _ _ _ _ _, trivial⟩ ⟨rfl, trivial⟩ ⟨Fz.le_refl F, rfl, rfl, trivial⟩) ?_
          rintro ⟨⟨i, bs⟩, hi, hbl, hbs⟩ hH hT
          replace hi : (i : Int) ≤ k4 * 0 := hi
          replace hbl : bs.length = i := hbl
          replace hbs : bits2 bs = true := hbs
          by_cases gi : (i : Int) < k4 * 0
          · have hlt : (i : Int) < IntKind.i64.wrap (k4 * 0) := by rw [ewh]; exact gi
            have gm : i % (qr.length + 1) < (q0 :: qr).length := Nat.mod_lt _ (by simp)
            have em : (i : Int).tmod ((qr.length + 1 : Nat) : Int) = ((i % (qr.length + 1) : Nat) : Int) := tmodN i
            have hqm := hro (i % (qr.length + 1)) gm
            have hBm := hqm.1
            have hr3 := hqm.2.2.2.2
            have hx3 := (hx _ (List.getElem_mem gm)).2.2.2
            have hq3 : ∃ q3, (q0 :: qr)[i % (qr.length + 1)].2.2.2 = q3 := ⟨_, rfl⟩
            obtain ⟨q3, hq3⟩ := hq3
            rw [hq3] at hr3 hx3
            have hsh := shr_i64 (n := (i : Int).tmod 7) hx3
            have pk6 := pick_pu (shrI .i64 q3 ((i : Int).tmod 7)) 2 hsh (by decide) F
            have hpk6 : ∃ k, pickI (shrI .i64 q3 ((i : Int).tmod 7)) 2 = k := ⟨_, rfl⟩
            obtain ⟨k6, hpk6⟩ := hpk6
            have rg6 := pick4 hsh (by decide) hpk6
            rw [hpk6] at pk6
            have hinm : 0 ≤ (i : Int).tmod ((qr.length + 1 : Nat) : Int) ∧ (i : Int).tmod ((qr.length + 1 : Nat) : Int) < ((qr.length + 1 : Nat) : Int) := by
              rw [em]
              have : i % (qr.length + 1) < qr.length + 1 := gm
              omega
            have hk3 : (off + ((i : Int).tmod ((qr.length + 1 : Nat) : Int)).toNat * 4) * 1 + (0 + (3 : Int).toNat * 1) = off + i % (qr.length + 1) * 4 + 3 := by rw [em, Int.toNat_natCast]; omega
            have hne0 : ((qr.length + 1 : Nat) : Int) ≠ 0 := by omega
            have hk6c : k6 = 0 ∨ k6 = 1 := by omega
            have hb1 : bs.length + 1 ≤ 9223372036854775807 := by omega
            have hi1 : ((i + 1 : Nat) : Int) ≤ k4 * 0 := by omega
            have hi2 : i < 4611686018427387904 := by omega
            have hdec : (k4 * 0).toNat - (i + 1) < (k4 * 0).toNat - i := by omega
            have hbl48 : (bs ++ [(48 : UInt8)]).length = i + 1 := by rw [List.length_append, hbl]; rfl
            have hbl49 : (bs ++ [(49 : UInt8)]).length = i + 1 := by rw [List.length_append, hbl]; rfl
            have hbs48 := bits2_snoc hbs (.inl (rfl : (48 : UInt8) = 48))
            have hbs49 := bits2_snoc hbs (.inr (rfl : (49 : UInt8) = 49))
            have h7 : 0 ≤ (i : Int).tmod 7 := Int.tmod_nonneg _ (by omega)
            clear hpk6 hsh hqm hx hro hx3
            conv => whnf
            refine ⟨fun _ => ?_, fun g => absurd hlt (of_decide_eq_false g)⟩
            conv => whnf
            refine br (fun _ => ?_) (fun g => absurd g (by decide))
            conv => whnf
            refine drawP hΘ mixed (.look 0 (.look 1 (.look 2 (.look 3 (.look 4 (.look 5 (.look 6 (.look 7 (.look 8 (.look 9 (.look 10 (.look 11 (.look 12 (.alt 13 (.look 14 (.look 15 (.look 16 (.look 17 (.last 18 .done))))) .nil)))))))))))))) [1] (by kernel_rfl) ?_
            conv => whnf
            repeat' ((conv => whnf); first
              | refine ⟨rfl, ?_⟩
              | refine ⟨Fz.le_refl _, rfl, ?_⟩
              | refine ⟨Fz.le_refl _, rfl, rfl, ?_⟩
              | refine ⟨⟨by simp, by simp⟩, ?_⟩
              | fail)
            conv => whnf
            refine ⟨hne0, ?_⟩
            conv => whnf
            refine ⟨rfl, hinm, ?_⟩
            conv => whnf
            refine ⟨⟨by decide, by decide⟩, ?_⟩
            conv => whnf
            refine ⟨rfl, ?_⟩
            conv => whnf
            refine ⟨_, hBm, ?_⟩
            refine hr3.rd hk3 ?_
            conv => whnf
            refine ⟨by decide, ?_⟩
            conv => whnf
            refine ⟨h7, ?_⟩
            conv => whnf
            refine usePu pk6 rfl ⟨rfl, rfl, trivial⟩ rfl ?_
            refine ⟨Fz.le_refl F, rfl, ?_⟩
            rcases hk6c with rfl | rfl
            · conv => whnf
              refine ⟨⟨by decide, by decide⟩, ?_⟩
              conv => whnf
              refine ⟨⟨by decide, by decide⟩, ?_⟩
              conv => whnf
              refine ⟨hb1, ?_⟩
              conv => whnf
              exact ⟨⟨(i + 1, bs ++ [48]), hi1, hbl48, hbs48⟩, hdec, leR [(2, 2)] hH hT rfl ⟨trivial, rvalE_below (by omega) _, gE_below encL_plain _ _ _ _ _, trivial⟩ ⟨cnt hi2, trivial⟩ ⟨Fz.le_refl F, rfl, sub_gE encL_plain (gE_self _ _ _ _), trivial⟩⟩
            · conv => whnf
              refine ⟨⟨by decide, by decide⟩, ?_⟩
              conv => whnf
              refine ⟨⟨by decide, by decide⟩, ?_⟩
              conv => whnf
              refine ⟨hb1, ?_⟩
              conv => whnf
              exact ⟨⟨(i + 1, bs ++ [49]), hi1, hbl49, hbs49⟩, hdec, leR [(2, 2)] hH hT rfl ⟨trivial, rvalE_below (by omega) _, gE_below encL_plain _ _ _ _ _, trivial⟩ ⟨cnt hi2, trivial⟩ ⟨Fz.le_refl F, rfl, sub_gE encL_plain (gE_self _ _ _ _), trivial⟩⟩
          · have hge : ¬ (i : Int) < IntKind.i64.wrap (k4 * 0) := by rw [ewh]; exact gi
            have ei : (bs.length : Int) = k4 * 0 := by rw [hbl]; omega
            have hv := rasV (p := 7) (bits := bs) (by omega) hw hh (by rw [if_pos rfl]; exact ⟨ei, hbs⟩)
            have he : writeS 7 ⟨false, [], k4, 0, bs⟩ = rwriteS 7 ⟨false, [], k4, 0, bs⟩ := (rwriteS_of 7 ⟨false, [], k4, 0, bs⟩).symm
            have hwr := rwrite_fn F 7 ⟨false, [], k4, 0, bs⟩ 0 (by omega) (Nat.zero_le _) (fun x hx => absurd hx (by simp)) (by show bs.length ≤ 9000000000000000000; omega)
            conv => whnf
            refine ⟨fun g => absurd (of_decide_eq_true g) hge, fun _ => ?_⟩
            conv => whnf
            refine use hwr [(1, 2)] rfl ⟨rfl, rfl, trivial⟩ rfl ⟨gE_below encL_plain _ _ _ _ _, trivial⟩ (by simp [SV.below, SA.below, rvalV, gA]) ⟨sub_gE encL_plain (gE_self _ _ _ _), trivial⟩ ?_
            rintro out0 F0 h0 n0 hle ⟨hle2, rfl, rfl, rfl⟩
            conv => whnf
            exact someEnd hv he hle rfl
        · have g0' : ¬ k4 = 0 := of_decide_eq_false g0
          clear g0
          have hw : 0 ≤ k4 ∧ k4 ≤ 32 := ⟨by omega, by omega⟩
          have hh : min k4 1 ≤ IntKind.i64.wrap (1 + k5) ∧ IntKind.i64.wrap (1 + k5) ≤ min k4 1 * 32 := ⟨by rw [eh5]; omega, by rw [eh5]; omega⟩
          have hwh : 0 ≤ k4 * IntKind.i64.wrap (1 + k5) ∧ k4 * IntKind.i64.wrap (1 + k5) ≤ 1024 := mul1024 hw hh
          have ewh : IntKind.i64.wrap (k4 * IntKind.i64.wrap (1 + k5)) = k4 * IntKind.i64.wrap (1 + k5) := wrap64_id (by omega) (by omega)
          conv => whnf
          refine loop_at hΘ (X := { y : Nat × List UInt8 // (y.1 : Int) ≤ k4 * IntKind.i64.wrap (1 + k5) ∧ y.2.length = y.1 ∧ bits2 y.2 = true }) (fun y => [(6, .va (.int .i64 y.1.1))]) [66, 67, 68, 69, 70, 71, 72, 73, 74, 75, 76, 77, 78, 79, 80, 81, 82, 83, 84, 85, 86, 87, 88, 89, 90, 91, 92, 93, 94, 95, 96] (fun y => [(0, .frz F), (1, rvalE ⟨false, [], k4, IntKind.i64.wrap (1 + k5), y.1.2⟩ 2 0), (2, gE 88 5 encL 0 [])]) 3 (fun y => (k4 * IntKind.i64.wrap (1 + k5)).toNat - y.1.1) ⟨(0, []), ⟨hwh.1, rfl, rfl⟩⟩
            (fun hH hT => leI [(2, 2)] hH hT rfl ⟨trivial, rvalE_below (by omega) _, gE_below encL_plain _ _ _ _ _, trivial⟩ ⟨rfl, trivial⟩ ⟨Fz.le_refl F, rfl, rfl, trivial⟩) ?_
          rintro ⟨⟨i, bs⟩, hi, hbl, hbs⟩ hH hT
          replace hi : (i : Int) ≤ k4 * IntKind.i64.wrap (1 + k5) := hi
          replace hbl : bs.length = i := hbl
          replace hbs : bits2 bs = true := hbs
          by_cases gi : (i : Int) < k4 * IntKind.i64.wrap (1 + k5)
          · have hlt : (i : Int) < IntKind.i64.wrap (k4 * IntKind.i64.wrap (1 + k5)) := by rw [ewh]; exact gi
            have gm : i % (qr.length + 1) < (q0 :: qr).length := Nat.mod_lt _ (by simp)
            have em : (i : Int).tmod ((qr.length + 1 : Nat) : Int) = ((i % (qr.length + 1) : Nat) : Int) := tmodN i
            have hqm := hro (i % (qr.length + 1)) gm
            have hBm := hqm.1
            have hr3 := hqm.2.2.2.2
            have hx3 := (hx _ (List.getElem_mem gm)).2.2.2
            have hq3 : ∃ q3, (q0 :: qr)[i % (qr.length + 1)].2.2.2 = q3 := ⟨_, rfl⟩
            obtain ⟨q3, hq3⟩ := hq3
            rw [hq3] at hr3 hx3
            have hsh := shr_i64 (n := (i : Int).tmod 7) hx3
            have pk6 := pick_pu (shrI .i64 q3 ((i : Int).tmod 7)) 2 hsh (by decide) F
            have hpk6 : ∃ k, pickI (shrI .i64 q3 ((i : Int).tmod 7)) 2 = k := ⟨_, rfl⟩
            obtain ⟨k6, hpk6⟩ := hpk6
            have rg6 := pick4 hsh (by decide) hpk6
            rw [hpk6] at pk6
            have hinm : 0 ≤ (i : Int).tmod ((qr.length + 1 : Nat) : Int) ∧ (i : Int).tmod ((qr.length + 1 : Nat) : Int) < ((qr.length + 1 : Nat) : Int) := by
              rw [em]
              have : i % (qr.length + 1) < qr.length + 1 := gm
              omega
            have hk3 : (off + ((i : Int).tmod ((qr.length + 1 : Nat) : Int)).toNat * 4) * 1 + (0 + (3 : Int).toNat * 1) = off + i % (qr.length + 1) * 4 + 3 := by rw [em, Int.toNat_natCast]; omega
            have hne0 : ((qr.length + 1 : Nat) : Int) ≠ 0 := by omega
            have hk6c : k6 = 0 ∨ k6 = 1 := by omega
            have hb1 : bs.length + 1 ≤ 9223372036854775807 := by omega
            have hi1 : ((i + 1 : Nat) : Int) ≤ k4 * IntKind.i64.wrap (1 + k5) := by omega
            have hi2 : i < 4611686018427387904 := by omega
            have hdec : (k4 * IntKind.i64.wrap (1 + k5)).toNat - (i + 1) < (k4 * IntKind.i64.wrap (1 + k5)).toNat - i := by omega
            have hbl48 : (bs ++ [(48 : UInt8)]).length = i + 1 := by rw [List.length_append, hbl]; rfl
            have hbl49 : (bs ++ [(49 : UInt8)]).length = i + 1 := by rw [List.length_append, hbl]; rfl
            have hbs48 := bits2_snoc hbs (.inl (rfl : (48 : UInt8) = 48))
            have hbs49 := bits2_snoc hbs (.inr (rfl : (49 : UInt8) = 49))
            have h7 : 0 ≤ (i : Int).tmod 7 := Int.tmod_nonneg _ (by omega)
            clear hpk6 hsh hqm hx hro hx3
            conv => whnf
            refine ⟨fun _ => ?_, fun g => absurd hlt (of_decide_eq_false g)⟩
            conv => whnf
            refine br (fun _ => ?_) (fun g => absurd g (by decide))
            conv => whnf
            refine drawP hΘ mixed (.look 0 (.look 1 (.look 2 (.look 3 (.look 4 (.look 5 (.look 6 (.look 7 (.look 8 (.look 9 (.look 10 (.look 11 (.look 12 (.alt 13 (.look 14 (.look 15 (.look 16 (.look 17 (.last 18 .done))))) .nil)))))))))))))) [1] (by kernel_rfl) ?_
            conv => whnf
            repeat' ((conv => whnf); first
              | refine ⟨rfl, ?_⟩
              | refine ⟨Fz.le_refl _, rfl, ?_⟩
              | refine ⟨Fz.le_refl _, rfl, rfl, ?_⟩
              | refine ⟨⟨by simp, by simp⟩, ?_⟩
              | fail)
            conv => whnf
            refine ⟨hne0, ?_⟩
            conv => whnf
            refine ⟨rfl, hinm, ?_⟩
            conv => whnf
            refine ⟨⟨by decide, by decide⟩, ?_⟩
            conv => whnf
            refine ⟨rfl, ?_⟩
            conv => whnf
            refine ⟨_, hBm, ?_⟩
            refine hr3.rd hk3 ?_
            conv => whnf
            refine ⟨by decide, ?_⟩
            conv => whnf
            refine ⟨h7, ?_⟩
            conv => whnf
            refine usePu pk6 rfl ⟨rfl, rfl, trivial⟩ rfl ?_
            refine ⟨Fz.le_refl F, rfl, ?_⟩
            rcases hk6c with rfl | rfl
            · conv => whnf
              refine ⟨⟨by decide, by decide⟩, ?_⟩
              conv => whnf
              refine ⟨⟨by decide, by decide⟩, ?_⟩
              conv => whnf
              refine ⟨hb1, ?_⟩
              conv => whnf
              exact ⟨⟨(i + 1, bs ++ [48]), hi1, hbl48, hbs48⟩, hdec, leR [(2, 2)] hH hT rfl ⟨trivial, rvalE_below (by omega) _, gE_below encL_plain _ _ _ _ _, trivial⟩ ⟨cnt hi2, trivial⟩ ⟨Fz.le_refl F, rfl, sub_gE encL_plain (gE_self _ _ _ _), trivial⟩⟩
            · conv => whnf
              refine ⟨⟨by decide, by decide⟩, ?_⟩
              conv => whnf
              refine ⟨⟨by decide, by decide⟩, ?_⟩
              conv => whnf
              refine ⟨hb1, ?_⟩
              conv => whnf
              exact ⟨⟨(i + 1, bs ++ [49]), hi1, hbl49, hbs49⟩, hdec, leR [(2, 2)] hH hT rfl ⟨trivial, rvalE_below (by omega) _, gE_below encL_plain _ _ _ _ _, trivial⟩ ⟨cnt hi2, trivial⟩ ⟨Fz.le_refl F, rfl, sub_gE encL_plain (gE_self _ _ _ _), trivial⟩⟩
          · have hge : ¬ (i : Int) < IntKind.i64.wrap (k4 * IntKind.i64.wrap (1 + k5)) := by rw [ewh]; exact gi
            have ei : (bs.length : Int) = k4 * IntKind.i64.wrap (1 + k5) := by rw [hbl]; omega
            have hv := rasV (p := 7) (bits := bs) (by omega) hw hh (by rw [if_pos rfl]; exact ⟨ei, hbs⟩)
            have he : writeS 7 ⟨false, [], k4, IntKind.i64.wrap (1 + k5), bs⟩ = rwriteS 7 ⟨false, [], k4, IntKind.i64.wrap (1 + k5), bs⟩ := (rwriteS_of 7 ⟨false, [], k4, IntKind.i64.wrap (1 + k5), bs⟩).symm
            have hwr := rwrite_fn F 7 ⟨false, [], k4, IntKind.i64.wrap (1 + k5), bs⟩ 0 (by omega) (Nat.zero_le _) (fun x hx => absurd hx (by simp)) (by show bs.length ≤ 9000000000000000000; omega)
            conv => whnf
            refine ⟨fun g => absurd (of_decide_eq_true g) hge, fun _ => ?_⟩
            conv => whnf
            refine use hwr [(1, 2)] rfl ⟨rfl, rfl, trivial⟩ rfl ⟨gE_below encL_plain _ _ _ _ _, trivial⟩ (by simp [SV.below, SA.below, rvalV, gA]) ⟨sub_gE encL_plain (gE_self _ _ _ _), trivial⟩ ?_
            rintro out0 F0 h0 n0 hle ⟨hle2, rfl, rfl, rfl⟩
            conv => whnf
            exact someEnd hv he hle rfl
      · clear g5
        conv => whnf
        refine br (fun g0 => ?_) (fun g0 => ?_)
        · have g0' : k1 = 0 := of_decide_eq_true g0
          clear g0
          have hw : 0 ≤ k1 ∧ k1 ≤ 32 := ⟨by omega, by omega⟩
          have hh : min k1 1 ≤ 0 ∧ 0 ≤ min k1 1 * 32 := ⟨by omega, by omega⟩
          have hwh : 0 ≤ k1 * 0 ∧ k1 * 0 ≤ 1024 := mul1024 hw hh
          have ewh : IntKind.i64.wrap (k1 * 0) = k1 * 0 := wrap64_id (by omega) (by omega)
          conv => whnf
          refine loop_at hΘ (X := { y : Nat × List UInt8 // (y.1 : Int) ≤ k1 * 0 ∧ y.2.length = y.1 ∧ bits2 y.2 = true }) (fun y => [(6, .va (.int .i64 y.1.1))]) [66, 67, 68, 69, 70, 71, 72, 73, 74, 75, 76, 77, 78, 79, 80, 81, 82, 83, 84, 85, 86, 87, 88, 89, 90, 91, 92, 93, 94, 95, 96] (fun y => [(0, .frz F), (1, rvalE ⟨false, [], k1, 0, y.1.2⟩ 2 0), (2, gE 88 5 encL 0 [])]) 3 (fun y => (k1 * 0).toNat - y.1.1) ⟨(0, []), ⟨hwh.1, rfl, rfl⟩⟩
            (fun hH hT => leI [(2, 2)] hH hT rfl ⟨trivial, rvalE_below (by omega) _, gE_below encL_plain _ _ _ _ _, trivial⟩ ⟨rfl, trivial⟩ ⟨Fz.le_refl F, rfl, rfl, trivial⟩) ?_
          rintro ⟨⟨i, bs⟩, hi, hbl, hbs⟩ hH hT
          replace hi : (i : Int) ≤ k1 * 0 := hi
          replace hbl : bs.length = i := hbl
          replace hbs : bits2 bs = true := hbs
          by_cases gi : (i : Int) < k1 * 0
          · have hlt : (i : Int) < IntKind.i64.wrap (k1 * 0) := by rw [ewh]; exact gi
            have gm : i % (qr.length + 1) < (q0 :: qr).length := Nat.mod_lt _ (by simp)
            have em : (i : Int).tmod ((qr.length + 1 : Nat) : Int) = ((i % (qr.length + 1) : Nat) : Int) := tmodN i
            have hqm := hro (i % (qr.length + 1)) gm
            have hBm := hqm.1
            have hr3 := hqm.2.2.2.2
            have hx3 := (hx _ (List.getElem_mem gm)).2.2.2
            have hq3 : ∃ q3, (q0 :: qr)[i % (qr.length + 1)].2.2.2 = q3 := ⟨_, rfl⟩
            obtain ⟨q3, hq3⟩ := hq3
            rw [hq3] at hr3 hx3
            have hsh := shr_i64 (n := (i : Int).tmod 7) hx3
            have pk6 := pick_pu (shrI .i64 q3 ((i : Int).tmod 7)) 2 hsh (by decide) F
            have hpk6 : ∃ k, pickI (shrI .i64 q3 ((i : Int).tmod 7)) 2 = k := ⟨_, rfl⟩
            obtain ⟨k6, hpk6⟩ := hpk6
            have rg6 := pick4 hsh (by decide) hpk6
            rw [hpk6] at pk6
            have hinm : 0 ≤ (i : Int).tmod ((qr.length + 1 : Nat) : Int) ∧ (i : Int).tmod ((qr.length + 1 : Nat) : Int) < ((qr.length + 1 : Nat) : Int) := by
              rw [em]
              have : i % (qr.length + 1) < qr.length + 1 := gm
              omega
            have hk3 : (off + ((i : Int).tmod ((qr.length + 1 : Nat) : Int)).toNat * 4) * 1 + (0 + (3 : Int).toNat * 1) = off + i % (qr.length + 1) * 4 + 3 := by rw [em, Int.toNat_natCast]; omega
            have hne0 : ((qr.length + 1 : Nat) : Int) ≠ 0 := by omega
            have hk6c : k6 = 0 ∨ k6 = 1 := by omega
            have hb1 : bs.length + 1 ≤ 9223372036854775807 := by omega
            have hi1 : ((i + 1 : Nat) : Int) ≤ k1 * 0 := by omega
            have hi2 : i < 4611686018427387904 := by omega
            have hdec : (k1 * 0).toNat - (i + 1) < (k1 * 0).toNat - i := by omega
            have hbl48 : (bs ++ [(48 : UInt8)]).length = i + 1 := by rw [List.length_append, hbl]; rfl
            have hbl49 : (bs ++ [(49 : UInt8)]).length = i + 1 := by rw [List.length_append, hbl]; rfl
            have hbs48 := bits2_snoc hbs (.inl (rfl : (48 : UInt8) = 48))
            have hbs49 := bits2_snoc hbs (.inr (rfl : (49 : UInt8) = 49))
            have h7 : 0 ≤ (i : Int).tmod 7 := Int.tmod_nonneg _ (by omega)
            clear hpk6 hsh hqm hx hro hx3
            conv => whnf
            refine ⟨fun _ => ?_, fun g => absurd hlt (of_decide_eq_false g)⟩
            conv => whnf
            refine br (fun _ => ?_) (fun g => absurd g (by decide))
            conv => whnf
            refine drawP hΘ mixed (.look 0 (.look 1 (.look 2 (.look 3 (.look 4 (.look 5 (.look 6 (.look 7 (.look 8 (.look 9 (.look 10 (.look 11 (.look 12 (.alt 13 (.look 14 (.look 15 (.look 16 (.look 17 (.last 18 .done))))) .nil)))))))))))))) [1] (by kernel_rfl) ?_
            conv => whnf
            repeat' ((conv => whnf); first
              | refine ⟨rfl, ?_⟩
              | refine ⟨Fz.le_refl _, rfl, ?_⟩
              | refine ⟨Fz.le_refl _, rfl, rfl, ?_⟩
              | refine ⟨⟨by simp, by simp⟩, ?_⟩
              | fail)
            conv => whnf
            refine ⟨hne0, ?_⟩
            conv => whnf
            refine ⟨rfl, hinm, ?_⟩
            conv => whnf
            refine ⟨⟨by decide, by decide⟩, ?_⟩
            conv => whnf
            refine ⟨rfl, ?_⟩
            conv => whnf
            refine ⟨_, hBm, ?_⟩
            refine hr3.rd hk3 ?_
            conv => whnf
            refine ⟨by decide, ?_⟩
            conv => whnf
            refine ⟨h7, ?_⟩
            conv => whnf
            refine usePu pk6 rfl ⟨rfl, rfl, trivial⟩ rfl ?_
            refine ⟨Fz.le_refl F, rfl, ?_⟩
            rcases hk6c with rfl | rfl
            · conv => whnf
              refine ⟨⟨by decide, by decide⟩, ?_⟩
              conv => whnf
              refine ⟨⟨by decide, by decide⟩, ?_⟩
              conv => whnf
              refine ⟨hb1, ?_⟩
              conv => whnf
              exact ⟨⟨(i + 1, bs ++ [48]), hi1, hbl48, hbs48⟩, hdec, leR [(2, 2)] hH hT rfl ⟨trivial, rvalE_below (by omega) _, gE_below encL_plain _ _ _ _ _, trivial⟩ ⟨cnt hi2, trivial⟩ ⟨Fz.le_refl F, rfl, sub_gE encL_plain (gE_self _ _ _ _), trivial⟩⟩
            · conv => whnf
              refine ⟨⟨by decide, by decide⟩, ?_⟩
              conv => whnf
              refine ⟨⟨by decide, by decide⟩, ?_⟩
              conv => whnf
              refine ⟨hb1, ?_⟩
              conv => whnf
              exact ⟨⟨(i + 1, bs ++ [49]), hi1, hbl49, hbs49⟩, hdec, leR [(2, 2)] hH hT rfl ⟨trivial, rvalE_below (by omega) _, gE_below encL_plain _ _ _ _ _, trivial⟩ ⟨cnt hi2, trivial⟩ ⟨Fz.le_refl F, rfl, sub_gE encL_plain (gE_self _ _ _ _), trivial⟩⟩
          · have hge : ¬ (i : Int) < IntKind.i64.wrap (k1 * 0) := by rw [ewh]; exact gi
            have ei : (bs.length : Int) = k1 * 0 := by rw [hbl]; omega
            have hv := rasV (p := 7) (bits := bs) (by omega) hw hh (by rw [if_pos rfl]; exact ⟨ei, hbs⟩)
            have he : writeS 7 ⟨false, [], k1, 0, bs⟩ = rwriteS 7 ⟨false, [], k1, 0, bs⟩ := (rwriteS_of 7 ⟨false, [], k1, 0, bs⟩).symm
            have hwr := rwrite_fn F 7 ⟨false, [], k1, 0, bs⟩ 0 (by omega) (Nat.zero_le _) (fun x hx => absurd hx (by simp)) (by show bs.length ≤ 9000000000000000000; omega)
            conv => whnf
            refine ⟨fun g => absurd (of_decide_eq_true g) hge, fun _ => ?_⟩
            conv => whnf
            refine use hwr [(1, 2)] rfl ⟨rfl, rfl, trivial⟩ rfl ⟨gE_below encL_plain _ _ _ _ _, trivial⟩ (by simp [SV.below, SA.below, rvalV, gA]) ⟨sub_gE encL_plain (gE_self _ _ _ _), trivial⟩ ?_
            rintro out0 F0 h0 n0 hle ⟨hle2, rfl, rfl, rfl⟩
            conv => whnf
            exact someEnd hv he hle rfl
        · have g0' : ¬ k1 = 0 := of_decide_eq_false g0
          clear g0
          have hw : 0 ≤ k1 ∧ k1 ≤ 32 := ⟨by omega, by omega⟩
          have hh : min k1 1 ≤ IntKind.i64.wrap (1 + k2) ∧ IntKind.i64.wrap (1 + k2) ≤ min k1 1 * 32 := ⟨by rw [eh2]; omega, by rw [eh2]; omega⟩
          have hwh : 0 ≤ k1 * IntKind.i64.wrap (1 + k2) ∧ k1 * IntKind.i64.wrap (1 + k2) ≤ 1024 := mul1024 hw hh
          have ewh : IntKind.i64.wrap (k1 * IntKind.i64.wrap (1 + k2)) = k1 * IntKind.i64.wrap (1 + k2) := wrap64_id (by omega) (by omega)
          conv => whnf
          refine loop_at hΘ (X := { y : Nat × List UInt8 // (y.1 : Int) ≤ k1 * IntKind.i64.wrap (1 + k2) ∧ y.2.length = y.1 ∧ bits2 y.2 = true }) (fun y => [(6, .va (.int .i64 y.1.1))]) [66, 67, 68, 69, 70, 71, 72, 73, 74, 75, 76, 77, 78, 79, 80, 81, 82, 83, 84, 85, 86, 87, 88, 89, 90, 91, 92, 93, 94, 95, 96] (fun y => [(0, .frz F), (1, rvalE ⟨false, [], k1, IntKind.i64.wrap (1 + k2), y.1.2⟩ 2 0), (2, gE 88 5 encL 0 [])]) 3 (fun y => (k1 * IntKind.i64.wrap (1 + k2)).toNat - y.1.1) ⟨(0, []), ⟨hwh.1, rfl, rfl⟩⟩
            (fun hH hT => leI [(2, 2)] hH hT rfl ⟨trivial, rvalE_below (by omega) _, gE_below encL_plain _ _ _ _ _, trivial⟩ ⟨rfl, trivial⟩ ⟨Fz.le_refl F, rfl, rfl, trivial⟩) ?_
          rintro ⟨⟨i, bs⟩, hi, hbl, hbs⟩ hH hT
          replace hi : (i : Int) ≤ k1 * IntKind.i64.wrap (1 + k2) := hi
          replace hbl : bs.length = i := hbl
          replace hbs : bits2 bs = true := hbs
          by_cases gi : (i : Int) < k1 * IntKind.i64.wrap (1 + k2)
          · have hlt : (i : Int) < IntKind.i64.wrap (k1 * IntKind.i64.wrap (1 + k2)) := by rw [ewh]; exact gi
            have gm : i % (qr.length + 1) < (q0 :: qr).length := Nat.mod_lt _ (by simp)
            have em : (i : Int).tmod ((qr.length + 1 : Nat) : Int) = ((i % (qr.length + 1) : Nat) : Int) := tmodN i
            have hqm := hro (i % (qr.length + 1)) gm
            have hBm := hqm.1
            have hr3 := hqm.2.2.2.2
            have hx3 := (hx _ (List.getElem_mem gm)).2.2.2
            have hq3 : ∃ q3, (q0 :: qr)[i % (qr.length + 1)].2.2.2 = q3 := ⟨_, rfl⟩
            obtain ⟨q3, hq3⟩ := hq3
            rw [hq3] at hr3 hx3
            have hsh := shr_i64 (n := (i : Int).tmod 7) hx3
            have pk6 := pick_pu (shrI .i64 q3 ((i : Int).tmod 7)) 2 hsh (by decide) F
            have hpk6 : ∃ k, pickI (shrI .i64 q3 ((i : Int).tmod 7)) 2 = k := ⟨_, rfl⟩
            obtain ⟨k6, hpk6⟩ := hpk6
            have rg6 := pick4 hsh (by decide) hpk6
            rw [hpk6] at pk6
            have hinm : 0 ≤ (i : Int).tmod ((qr.length + 1 : Nat) : Int) ∧ (i : Int).tmod ((qr.length + 1 : Nat) : Int) < ((qr.length + 1 : Nat) : Int) := by
              rw [em]
              have : i % (qr.length + 1) < qr.length + 1 := gm
              omega
            have hk3 : (off + ((i : Int).tmod ((qr.length + 1 : Nat) : Int)).toNat * 4) * 1 + (0 + (3 : Int).toNat * 1) = off + i % (qr.length + 1) * 4 + 3 := by rw [em, Int.toNat_natCast]; omega
            have hne0 : ((qr.length + 1 : Nat) : Int) ≠ 0 := by omega
            have hk6c : k6 = 0 ∨ k6 = 1 := by omega
            have hb1 : bs.length + 1 ≤ 9223372036854775807 := by omega
            have hi1 : ((i + 1 : Nat) : Int) ≤ k1 * IntKind.i64.wrap (1 + k2) := by omega
            have hi2 : i < 4611686018427387904 := by omega
            have hdec : (k1 * IntKind.i64.wrap (1 + k2)).toNat - (i + 1) < (k1 * IntKind.i64.wrap (1 + k2)).toNat - i := by omega
            have hbl48 : (bs ++ [(48 : UInt8)]).length = i + 1 := by rw [List.length_append, hbl]; rfl
            have hbl49 : (bs ++ [(49 : UInt8)]).length = i + 1 := by rw [List.length_append, hbl]; rfl
            have hbs48 := bits2_snoc hbs (.inl (rfl : (48 : UInt8) = 48))
            have hbs49 := bits2_snoc hbs (.inr (rfl : (49 : UInt8) = 49))
            have h7 : 0 ≤ (i : Int).tmod 7 := Int.tmod_nonneg _ (by omega)
            clear hpk6 hsh hqm hx hro hx3
            conv => whnf
            refine ⟨fun _ => ?_, fun g => absurd hlt (of_decide_eq_false g)⟩
            conv => whnf
            refine br (fun _ => ?_) (fun g => absurd g (by decide))
            conv => whnf
            refine drawP hΘ mixed (.look 0 (.look 1 (.look 2 (.look 3 (.look 4 (.look 5 (.look 6 (.look 7 (.look 8 (.look 9 (.look 10 (.look 11 (.look 12 (.alt 13 (.look 14 (.look 15 (.look 16 (.look 17 (.last 18 .done))))) .nil)))))))))))))) [1] (by kernel_rfl) ?_
            conv => whnf
            repeat' ((conv => whnf); first
              | refine ⟨rfl, ?_⟩
              | refine ⟨Fz.le_refl _, rfl, ?_⟩
              | refine ⟨Fz.le_refl _, rfl, rfl, ?_⟩
              | refine ⟨⟨by simp, by simp⟩, ?_⟩
              | fail)
            conv => whnf
            refine ⟨hne0, ?_⟩
            conv => whnf
            refine ⟨rfl, hinm, ?_⟩
            conv => whnf
            refine ⟨⟨by decide, by decide⟩, ?_⟩
            conv => whnf
            refine ⟨rfl, ?_⟩
            conv => whnf
            refine ⟨_, hBm, ?_⟩
            refine hr3.rd hk3 ?_
            conv => whnf
            refine ⟨by decide, ?_⟩
            conv => whnf
            refine ⟨h7, ?_⟩
            conv => whnf
            refine usePu pk6 rfl ⟨rfl, rfl, trivial⟩ rfl ?_
            refine ⟨Fz.le_refl F, rfl, ?_⟩
            rcases hk6c with rfl | rfl
            · conv => whnf
              refine ⟨⟨by decide, by decide⟩, ?_⟩
              conv => whnf
              refine ⟨⟨by decide, by decide⟩, ?_⟩
              conv => whnf
              refine ⟨hb1, ?_⟩
              conv => whnf
              exact ⟨⟨(i + 1, bs ++ [48]), hi1, hbl48, hbs48⟩, hdec, leR [(2, 2)] hH hT rfl ⟨trivial, rvalE_below (by omega) _, gE_below encL_plain _ _ _ _ _, trivial⟩ ⟨cnt hi2, trivial⟩ ⟨Fz.le_refl F, rfl, sub_gE encL_plain (gE_self _ _ _ _), trivial⟩⟩
            · conv => whnf
              refine ⟨⟨by decide, by decide⟩, ?_⟩
              conv => whnf
              refine ⟨⟨by decide, by decide⟩, ?_⟩
              conv => whnf
              refine ⟨hb1, ?_⟩
              conv => whnf
              exact ⟨⟨(i + 1, bs ++ [49]), hi1, hbl49, hbs49⟩, hdec, leR [(2, 2)] hH hT rfl ⟨trivial, rvalE_below (by omega) _, gE_below encL_plain _ _ _ _ _, trivial⟩ ⟨cnt hi2, trivial⟩ ⟨Fz.le_refl F, rfl, sub_gE encL_plain (gE_self _ _ _ _), trivial⟩⟩
          · have hge : ¬ (i : Int) < IntKind.i64.wrap (k1 * IntKind.i64.wrap (1 + k2)) := by rw [ewh]; exact gi
            have ei : (bs.length : Int) = k1 * IntKind.i64.wrap (1 + k2) := by rw [hbl]; omega
            have hv := rasV (p := 7) (bits := bs) (by omega) hw hh (by rw [if_pos rfl]; exact ⟨ei, hbs⟩)
            have he : writeS 7 ⟨false, [], k1, IntKind.i64.wrap (1 + k2), bs⟩ = rwriteS 7 ⟨false, [], k1, IntKind.i64.wrap (1 + k2), bs⟩ := (rwriteS_of 7 ⟨false, [], k1, IntKind.i64.wrap (1 + k2), bs⟩).symm
            have hwr := rwrite_fn F 7 ⟨false, [], k1, IntKind.i64.wrap (1 + k2), bs⟩ 0 (by omega) (Nat.zero_le _) (fun x hx => absurd hx (by simp)) (by show bs.length ≤ 9000000000000000000; omega)
            conv => whnf
            refine ⟨fun g => absurd (of_decide_eq_true g) hge, fun _ => ?_⟩
            conv => whnf
            refine use hwr [(1, 2)] rfl ⟨rfl, rfl, trivial⟩ rfl ⟨gE_below encL_plain _ _ _ _ _, trivial⟩ (by simp [SV.below, SA.below, rvalV, gA]) ⟨sub_gE encL_plain (gE_self _ _ _ _), trivial⟩ ?_
            rintro out0 F0 h0 n0 hle ⟨hle2, rfl, rfl, rfl⟩
            conv => whnf
            exact someEnd hv he hle rfl
  · clear ga
    conv => whnf
    refine br (fun _ => ?_) (fun g => absurd g (by decide))
    conv => whnf
    refine br (fun _ => ?_) (fun g => absurd hpos (of_decide_eq_false g))
    conv => whnf
    refine ⟨rfl, hin0, ?_⟩
    conv => whnf
    refine ⟨⟨by decide, by decide⟩, ?_⟩
    conv => whnf
    refine ⟨_, hB, ?_⟩
    refine hr0.rd hk0 ?_
    conv => whnf
    refine usePu pk1 rfl ⟨rfl, rfl, trivial⟩ rfl ?_
    conv => whnf
    refine ⟨rfl, hin0, ?_⟩
    conv => whnf
    refine ⟨⟨by decide, by decide⟩, ?_⟩
    conv => whnf
    refine ⟨_, hB, ?_⟩
    refine hr1.rd hk1 ?_
    conv => whnf
    refine usePu pk2 rfl ⟨rfl, rfl, trivial⟩ rfl ?_
    conv => whnf
    refine ⟨rfl, hin0, ?_⟩
    conv => whnf
    refine ⟨⟨by decide, by decide⟩, ?_⟩
    conv => whnf
    refine ⟨_, hB, ?_⟩
    refine hr2.rd hk2 ?_
    conv => whnf
    refine usePu pk3 rfl ⟨rfl, rfl, trivial⟩ rfl ?_
    conv => whnf
    refine br (fun g5 => ?_) (fun g5 => ?_)
    · clear g5
      conv => whnf
      refine ⟨rfl, hin0, ?_⟩
      conv => whnf
      refine ⟨⟨by decide, by decide⟩, ?_⟩
      conv => whnf
      refine ⟨_, hB, ?_⟩
      refine hr0.rd hk0 ?_
      conv => whnf
      refine usePu pk4 rfl ⟨rfl, rfl, trivial⟩ rfl ?_
      conv => whnf
      refine ⟨rfl, hin0, ?_⟩
      conv => whnf
      refine ⟨⟨by decide, by decide⟩, ?_⟩
      conv => whnf
      refine ⟨_, hB, ?_⟩
      refine hr1.rd hk1 ?_
      conv => whnf
      refine usePu pk5 rfl ⟨rfl, rfl, trivial⟩ rfl ?_
      conv => whnf
      refine br (fun g0 => ?_) (fun g0 => ?_)
      · have g0' : k4 = 0 := of_decide_eq_true g0
        clear g0
        have hw : 0 ≤ k4 ∧ k4 ≤ 32 := ⟨by omega, by omega⟩
        have hh : min k4 1 ≤ 0 ∧ 0 ≤ min k4 1 * 32 := ⟨by omega, by omega⟩
        have hwh : 0 ≤ k4 * 0 ∧ k4 * 0 ≤ 1024 := mul1024 hw hh
        have ewh : IntKind.i64.wrap (k4 * 0) = k4 * 0 := wrap64_id (by omega) (by omega)
        conv => whnf
        refine loop_at hΘ (X := { y : Nat × List UInt8 // (y.1 : Int) ≤ k4 * 0 ∧ y.2.length = y.1 ∧ bits2 y.2 = true }) (fun y => [(6, .va (.int .i64 y.1.1))]) [66, 67, 68, 69, 70, 71, 72, 73, 74, 75, 76, 77, 78, 79, 80, 81, 82, 83, 84, 85, 86, 87, 88, 89, 90, 91, 92, 93, 94, 95, 96] (fun y => [(0, .frz F), (1, rvalE ⟨false, [], k4, 0, y.1.2⟩ 2 0), (2, gE 88 5 encL 0 [])]) 3 (fun y => (k4 * 0).toNat - y.1.1) ⟨(0, []), ⟨hwh.1, rfl, rfl⟩⟩
          (fun hH hT => leI [(2, 2)] hH hT rfl ⟨trivial, rvalE_below (by omega) _, gE_below encL_plain _ _ _ _ _, trivial⟩ ⟨rfl, trivial⟩ ⟨Fz.le_refl F, rfl, rfl, trivial⟩) ?_
        rintro ⟨⟨i, bs⟩, hi, hbl, hbs⟩ hH hT
        replace hi : (i : Int) ≤ k4 * 0 := hi
        replace hbl : bs.length = i := hbl
        replace hbs : bits2 bs = true := hbs
        by_cases gi : (i : Int) < k4 * 0
        · have hlt : (i : Int) < IntKind.i64.wrap (k4 * 0) := by rw [ewh]; exact gi
          have gm : i % (qr.length + 1) < (q0 :: qr).length := Nat.mod_lt _ (by simp)
          have em : (i : Int).tmod ((qr.length + 1 : Nat) : Int) = ((i % (qr.length + 1) : Nat) : Int) := tmodN i
          have hqm := hro (i % (qr.length + 1)) gm
          have hBm := hqm.1
          have hr3 := hqm.2.2.2.2
          have hx3 := (hx _ (List.getElem_mem gm)).2.2.2
          have hq3 : ∃ q3, (q0 :: qr)[i % (qr.length + 1)].2.2.2 = q3 := ⟨_, rfl⟩
          obtain ⟨q3, hq3⟩ := hq3
          rw [hq3] at hr3 hx3
          have hsh := shr_i64 (n := (i : Int).tmod 7) hx3
          have pk6 := pick_pu (shrI .i64 q3 ((i : Int).tmod 7)) 2 hsh (by decide) F
          have hpk6 : ∃ k, pickI (shrI .i64 q3 ((i : Int).tmod 7)) 2 = k := ⟨_, rfl⟩
          obtain ⟨k6, hpk6⟩ := hpk6
          have rg6 := pick4 hsh (by decide) hpk6
          rw [hpk6] at pk6
          have hinm : 0 ≤ (i : Int).tmod ((qr.length + 1 : Nat) : Int) ∧ (i : Int).tmod ((qr.length + 1 : Nat) : Int) < ((qr.length + 1 : Nat) : Int) := by
            rw [em]
            have : i % (qr.length + 1) < qr.length + 1 := gm
            omega
          have hk3 : (off + ((i : Int).tmod ((qr.length + 1 : Nat) : Int)).toNat * 4) * 1 + (0 + (3 : Int).toNat * 1) = off + i % (qr.length + 1) * 4 + 3 := by rw [em, Int.toNat_natCast]; omega
          have hne0 : ((qr.length + 1 : Nat) : Int) ≠ 0 := by omega
          have hk6c : k6 = 0 ∨ k6 = 1 := by omega
          have hb1 : bs.length + 1 ≤ 9223372036854775807 := by omega
          have hi1 : ((i + 1 : Nat) : Int) ≤ k4 * 0 := by omega
          have hi2 : i < 4611686018427387904 := by omega
          have hdec : (k4 * 0).toNat - (i + 1) < (k4 * 0).toNat - i := by omega
          have hbl48 : (bs ++ [(48 : UInt8)]).length = i + 1 := by rw [List.length_append, hbl]; rfl
          have hbl49 : (bs ++ [(49 : UInt8)]).length = i + 1 := by rw [List.length_append, hbl]; rfl
          have hbs48 := bits2_snoc hbs (.inl (rfl : (48 : UInt8) = 48))
          have hbs49 := bits2_snoc hbs (.inr (rfl : (49 : UInt8) = 49))
          have h7 : 0 ≤ (i : Int).tmod 7 := Int.tmod_nonneg _ (by omega)
          clear hpk6 hsh hqm hx hro hx3
          conv => whnf
          refine ⟨fun _ => ?_, fun g => absurd hlt (of_decide_eq_false g)⟩
          conv => whnf
          refine br (fun _ => ?_) (fun g => absurd g (by decide))
          conv => whnf
          refine drawP hΘ mixed (.look 0 (.look 1 (.look 2 (.look 3 (.look 4 (.look 5 (.look 6 (.look 7 (.look 8 (.look 9 (.look 10 (.look 11 (.look 12 (.alt 13 (.look 14 (.look 15 (.look 16 (.look 17 (.last 18 .done))))) .nil)))))))))))))) [1] (by kernel_rfl) ?_
          conv => whnf
          repeat' ((conv => whnf); first
            | refine ⟨rfl, ?_⟩
            | refine ⟨Fz.le_refl _, rfl, ?_⟩
            | refine ⟨Fz.le_refl _, rfl, rfl, ?_⟩
            | refine ⟨⟨by simp, by simp⟩, ?_⟩
            | fail)
          conv => whnf
          refine ⟨hne0, ?_⟩
          conv => whnf
          refine ⟨rfl, hinm, ?_⟩
          conv => whnf
          refine ⟨⟨by decide, by decide⟩, ?_⟩
          conv => whnf
          refine ⟨rfl, ?_⟩
          conv => whnf
          refine ⟨_, hBm, ?_⟩
          refine hr3.rd hk3 ?_
          conv => whnf
          refine ⟨by decide, ?_⟩
          conv => whnf
          refine ⟨h7, ?_⟩
          conv => whnf
          refine usePu pk6 rfl ⟨rfl, rfl, trivial⟩ rfl ?_
          refine ⟨Fz.le_refl F, rfl, ?_⟩
          rcases hk6c with rfl | rfl
          · conv => whnf
            refine ⟨⟨by decide, by decide⟩, ?_⟩
            conv => whnf
            refine ⟨⟨by decide, by decide⟩, ?_⟩
            conv => whnf
            refine ⟨hb1, ?_⟩
            conv => whnf
            exact ⟨⟨(i + 1, bs ++ [48]), hi1, hbl48, hbs48⟩, hdec, leR [(2, 2)] hH hT rfl ⟨trivial, rvalE_below (by omega) _, gE_below encL_plain _ _ _ _ _, trivial⟩ ⟨cnt hi2, trivial⟩ ⟨Fz.le_refl F, rfl, sub_gE encL_plain (gE_self _ _ _ _), trivial⟩⟩
          · conv => whnf
            refine ⟨⟨by decide, by decide⟩, ?_⟩
            conv => whnf
            refine ⟨⟨by decide, by decide⟩, ?_⟩
            conv => whnf
            refine ⟨hb1, ?_⟩
            conv => whnf
            exact ⟨⟨(i + 1, bs ++ [49]), hi1, hbl49, hbs49⟩, hdec, leR [(2, 2)] hH hT rfl ⟨trivial, rvalE_below (by omega) _, gE_below encL_plain _ _ _ _ _, trivial⟩ ⟨cnt hi2, trivial⟩ ⟨Fz.le_refl F, rfl, sub_gE encL_plain (gE_self _ _ _ _), trivial⟩⟩
        · have hge : ¬ (i : Int) < IntKind.i64.wrap (k4 * 0) := by rw [ewh]; exact gi
          have ei : (bs.length : Int) = k4 * 0 := by rw [hbl]; omega
          have hv := rasV (p := 7) (bits := bs) (by omega) hw hh (by rw [if_pos rfl]; exact ⟨ei, hbs⟩)
          have he : writeS 7 ⟨false, [], k4, 0, bs⟩ = rwriteS 7 ⟨false, [], k4, 0, bs⟩ := (rwriteS_of 7 ⟨false, [], k4, 0, bs⟩).symm
          have hwr := rwrite_fn F 7 ⟨false, [], k4, 0, bs⟩ 0 (by omega) (Nat.zero_le _) (fun x hx => absurd hx (by simp)) (by show bs.length ≤ 9000000000000000000; omega)
          conv => whnf
          refine ⟨fun g => absurd (of_decide_eq_true g) hge, fun _ => ?_⟩
          conv => whnf
          refine use hwr [(1, 2)] rfl ⟨rfl, rfl, trivial⟩ rfl ⟨gE_below encL_plain _ _ _ _ _, trivial⟩ (by simp [SV.below, SA.below, rvalV, gA]) ⟨sub_gE encL_plain (gE_self _ _ _ _), trivial⟩ ?_
          rintro out0 F0 h0 n0 hle ⟨hle2, rfl, rfl, rfl⟩
          conv => whnf
          exact someEnd hv he hle rfl
      · have g0' : ¬ k4 = 0 := of_decide_eq_false g0
        clear g0
        have hw : 0 ≤ k4 ∧ k4 ≤ 32 := ⟨by omega, by omega⟩
        have hh : min k4 1 ≤ IntKind.i64.wrap (1 + k5) ∧ IntKind.i64.wrap (1 + k5) ≤ min k4 1 * 32 := ⟨by rw [eh5]; omega, by rw [eh5]; omega⟩
        have hwh : 0 ≤ k4 * IntKind.i64.wrap (1 + k5) ∧ k4 * IntKind.i64.wrap (1 + k5) ≤ 1024 := mul1024 hw hh
        have ewh : IntKind.i64.wrap (k4 * IntKind.i64.wrap (1 + k5)) = k4 * IntKind.i64.wrap (1 + k5) := wrap64_id (by omega) (by omega)
        conv => whnf
        refine loop_at hΘ (X := { y : Nat × List UInt8 // (y.1 : Int) ≤ k4 * IntKind.i64.wrap (1 + k5) ∧ y.2.length = y.1 ∧ bits2 y.2 = true }) (fun y => [(6, .va (.int .i64 y.1.1))]) [66, 67, 68, 69, 70, 71, 72, 73, 74, 75, 76, 77, 78, 79, 80, 81, 82, 83, 84, 85, 86, 87, 88, 89, 90, 91, 92, 93, 94, 95, 96] (fun y => [(0, .frz F), (1, rvalE ⟨false, [], k4, IntKind.i64.wrap (1 + k5), y.1.2⟩ 2 0), (2, gE 88 5 encL 0 [])]) 3 (fun y => (k4 * IntKind.i64.wrap (1 + k5)).toNat - y.1.1) ⟨(0, []), ⟨hwh.1, rfl, rfl⟩⟩
          (fun hH hT => leI [(2, 2)] hH hT rfl ⟨trivial, rvalE_below (by omega) _, gE_below encL_plain _ _ _ _ _, trivial⟩ ⟨rfl, trivial⟩ ⟨Fz.le_refl F, rfl, rfl, trivial⟩) ?_
        rintro ⟨⟨i, bs⟩, hi, hbl, hbs⟩ hH hT
        replace hi : (i : Int) ≤ k4 * IntKind.i64.wrap (1 + k5) := hi
        replace hbl : bs.length = i := hbl
        replace hbs : bits2 bs = true := hbs
        by_cases gi : (i : Int) < k4 * IntKind.i64.wrap (1 + k5)
        · have hlt : (i : Int) < IntKind.i64.wrap (k4 * IntKind.i64.wrap (1 + k5)) := by rw [ewh]; exact gi
          have gm : i % (qr.length + 1) < (q0 :: qr).length := Nat.mod_lt _ (by simp)
          have em : (i : Int).tmod ((qr.length + 1 : Nat) : Int) = ((i % (qr.length + 1) : Nat) : Int) := tmodN i
          have hqm := hro (i % (qr.length + 1)) gm
          have hBm := hqm.1
          have hr3 := hqm.2.2.2.2
          have hx3 := (hx _ (List.getElem_mem gm)).2.2.2
          have hq3 : ∃ q3, (q0 :: qr)[i % (qr.length + 1)].2.2.2 = q3 := ⟨_, rfl⟩
          obtain ⟨q3, hq3⟩ := hq3
          rw [hq3] at hr3 hx3
          have hsh := shr_i64 (n := (i : Int).tmod 7) hx3
          have pk6 := pick_pu (shrI .i64 q3 ((i : Int).tmod 7)) 2 hsh (by decide) F
          have hpk6 : ∃ k, pickI (shrI .i64 q3 ((i : Int).tmod 7)) 2 = k := ⟨_, rfl⟩
          obtain ⟨k6, hpk6⟩ := hpk6
          have rg6 := pick4 hsh (by decide) hpk6
          rw [hpk6] at pk6
          have hinm : 0 ≤ (i : Int).tmod ((qr.length + 1 : Nat) : Int) ∧ (i : Int).tmod ((qr.length + 1 : Nat) : Int) < ((qr.length + 1 : Nat) : Int) := by
            rw [em]
            have : i % (qr.length + 1) < qr.length + 1 := gm
            omega
          have hk3 : (off + ((i : Int).tmod ((qr.length + 1 : Nat) : Int)).toNat * 4) * 1 + (0 + (3 : Int).toNat * 1) = off + i % (qr.length + 1) * 4 + 3 := by rw [em, Int.toNat_natCast]; omega
          have hne0 : ((qr.length + 1 : Nat) : Int) ≠ 0 := by omega
          have hk6c : k6 = 0 ∨ k6 = 1 := by omega
          have hb1 : bs.length + 1 ≤ 9223372036854775807 := by omega
          have hi1 : ((i + 1 : Nat) : Int) ≤ k4 * IntKind.i64.wrap (1 + k5) := by omega
          have hi2 : i < 4611686018427387904 := by omega
          have hdec : (k4 * IntKind.i64.wrap (1 + k5)).toNat - (i + 1) < (k4 * IntKind.i64.wrap (1 + k5)).toNat - i := by omega
          have hbl48 : (bs ++ [(48 : UInt8)]).length = i + 1 := by rw [List.length_append, hbl]; rfl
          have hbl49 : (bs ++ [(49 : UInt8)]).length = i + 1 := by rw [List.length_append, hbl]; rfl
          have hbs48 := bits2_snoc hbs (.inl (rfl : (48 : UInt8) = 48))
          have hbs49 := bits2_snoc hbs (.inr (rfl : (49 : UInt8) = 49))
          have h7 : 0 ≤ (i : Int).tmod 7 := Int.tmod_nonneg _ (by omega)
          clear hpk6 hsh hqm hx hro hx3
          conv => whnf
          refine ⟨fun _ => ?_, fun g => absurd hlt (of_decide_eq_false g)⟩
          conv => whnf
          refine br (fun _ => ?_) (fun g => absurd g (by decide))
          conv => whnf
          refine drawP hΘ mixed (.look 0 (.look 1 (.look 2 (.look 3 (.look 4 (.look 5 (.look 6 (.look 7 (.look 8 (.look 9 (.look 10 (.look 11 (.look 12 (.alt 13 (.look 14 (.look 15 (.look 16 (.look 17 (.last 18 .done))))) .nil)))))))))))))) [1] (by kernel_rfl) ?_
          conv => whnf
          repeat' ((conv => whnf); first
            | refine ⟨rfl, ?_⟩
            | refine ⟨Fz.le_refl _, rfl, ?_⟩
            | refine ⟨Fz.le_refl _, rfl, rfl, ?_⟩
            | refine ⟨⟨by simp, by simp⟩, ?_⟩
            | fail)
          conv => whnf
          refine ⟨hne0, ?_⟩
          conv => whnf
          refine ⟨rfl, hinm, ?_⟩
          conv => whnf
          refine ⟨⟨by decide, by decide⟩, ?_⟩
          conv => whnf
          refine ⟨rfl, ?_⟩
          conv => whnf
          refine ⟨_, hBm, ?_⟩
          refine hr3.rd hk3 ?_
          conv => whnf
          refine ⟨by decide, ?_⟩
          conv => whnf
          refine ⟨h7, ?_⟩
          conv => whnf
          refine usePu pk6 rfl ⟨rfl, rfl, trivial⟩ rfl ?_
          refine ⟨Fz.le_refl F, rfl, ?_⟩
          rcases hk6c with rfl | rfl
          · conv => whnf
            refine ⟨⟨by decide, by decide⟩, ?_⟩
            conv => whnf
            refine ⟨⟨by decide, by decide⟩, ?_⟩
            conv => whnf
            refine ⟨hb1, ?_⟩
            conv => whnf
            exact ⟨⟨(i + 1, bs ++ [48]), hi1, hbl48, hbs48⟩, hdec, leR [(2, 2)] hH hT rfl ⟨trivial, rvalE_below (by omega) _, gE_below encL_plain _ _ _ _ _, trivial⟩ ⟨cnt hi2, trivial⟩ ⟨Fz.le_refl F, rfl, sub_gE encL_plain (gE_self _ _ _ _), trivial⟩⟩
          · conv => whnf
            refine ⟨⟨by decide, by decide⟩, ?_⟩
            conv => whnf
            refine ⟨⟨by decide, by decide⟩, ?_⟩
            conv => whnf
            refine ⟨hb1, ?_⟩
            conv => whnf
            exact ⟨⟨(i + 1, bs ++ [49]), hi1, hbl49, hbs49⟩, hdec, leR [(2, 2)] hH hT rfl ⟨trivial, rvalE_below (by omega) _, gE_below encL_plain _ _ _ _ _, trivial⟩ ⟨cnt hi2, trivial⟩ ⟨Fz.le_refl F, rfl, sub_gE encL_plain (gE_self _ _ _ _), trivial⟩⟩
        · have hge : ¬ (i : Int) < IntKind.i64.wrap (k4 * IntKind.i64.wrap (1 + k5)) := by rw [ewh]; exact gi
          have ei : (bs.length : Int) = k4 * IntKind.i64.wrap (1 + k5) := by rw [hbl]; omega
          have hv := rasV (p := 7) (bits := bs) (by omega) hw hh (by rw [if_pos rfl]; exact ⟨ei, hbs⟩)
          have he : writeS 7 ⟨false, [], k4, IntKind.i64.wrap (1 + k5), bs⟩ = rwriteS 7 ⟨false, [], k4, IntKind.i64.wrap (1 + k5), bs⟩ := (rwriteS_of 7 ⟨false, [], k4, IntKind.i64.wrap (1 + k5), bs⟩).symm
          have hwr := rwrite_fn F 7 ⟨false, [], k4, IntKind.i64.wrap (1 + k5), bs⟩ 0 (by omega) (Nat.zero_le _) (fun x hx => absurd hx (by simp)) (by show bs.length ≤ 9000000000000000000; omega)
          conv => whnf
          refine ⟨fun g => absurd (of_decide_eq_true g) hge, fun _ => ?_⟩
          conv => whnf
          refine use hwr [(1, 2)] rfl ⟨rfl, rfl, trivial⟩ rfl ⟨gE_below encL_plain _ _ _ _ _, trivial⟩ (by simp [SV.below, SA.below, rvalV, gA]) ⟨sub_gE encL_plain (gE_self _ _ _ _), trivial⟩ ?_
          rintro out0 F0 h0 n0 hle ⟨hle2, rfl, rfl, rfl⟩
          conv => whnf
          exact someEnd hv he hle rfl
    · clear g5
      conv => whnf
      refine br (fun g0 => ?_) (fun g0 => ?_)
      · have g0' : k1 = 0 := of_decide_eq_true g0
        clear g0
        have hw : 0 ≤ k1 ∧ k1 ≤ 32 := ⟨by omega, by omega⟩
        have hh : min k1 1 ≤ 0 ∧ 0 ≤ min k1 1 * 32 := ⟨by omega, by omega⟩
        have hwh : 0 ≤ k1 * 0 ∧ k1 * 0 ≤ 1024 := mul1024 hw hh
        have ewh : IntKind.i64.wrap (k1 * 0) = k1 * 0 := wrap64_id (by omega) (by omega)
        conv => whnf
        refine loop_at hΘ (X := { y : Nat × List UInt8 // (y.1 : Int) ≤ k1 * 0 ∧ y.2.length = y.1 ∧ bits2 y.2 = true }) (fun y => [(6, .va (.int .i64 y.1.1))]) [66, 67, 68, 69, 70, 71, 72, 73, 74, 75, 76, 77, 78, 79, 80, 81, 82, 83, 84, 85, 86, 87, 88, 89, 90, 91, 92, 93, 94, 95, 96] (fun y => [(0, .frz F), (1, rvalE ⟨false, [], k1, 0, y.1.2⟩ 2 0), (2, gE 88 5 encL 0 [])]) 3 (fun y => (k1 * 0).toNat - y.1.1) ⟨(0, []), ⟨hwh.1, rfl, rfl⟩⟩
          (fun hH hT => leI [(2, 2)] hH hT rfl ⟨trivial, rvalE_below (by omega) _, gE_below encL_plain _ _ _ _ _, trivial⟩ ⟨rfl, trivial⟩ ⟨Fz.le_refl F, rfl, rfl, trivial⟩) ?_
        rintro ⟨⟨i, bs⟩, hi, hbl, hbs⟩ hH hT
        replace hi : (i : Int) ≤ k1 * 0 := hi
        replace hbl : bs.length = i := hbl
        replace hbs : bits2 bs = true := hbs
        by_cases gi : (i : Int) < k1 * 0
        · have hlt : (i : Int) < IntKind.i64.wrap (k1 * 0) := by rw [ewh]; exact gi
          have gm : i % (qr.length + 1) < (q0 :: qr).length := Nat.mod_lt _ (by simp)
          have em : (i : Int).tmod ((qr.length + 1 : Nat) : Int) = ((i % (qr.length + 1) : Nat) : Int) := tmodN i
          have hqm := hro (i % (qr.length + 1)) gm
          have hBm := hqm.1
          have hr3 := hqm.2.2.2.2
          have hx3 := (hx _ (List.getElem_mem gm)).2.2.2
          have hq3 : ∃ q3, (q0 :: qr)[i % (qr.length + 1)].2.2.2 = q3 := ⟨_, rfl⟩
          obtain ⟨q3, hq3⟩ := hq3
          rw [hq3] at hr3 hx3
          have hsh := shr_i64 (n := (i : Int).tmod 7) hx3
          have pk6 := pick_pu (shrI .i64 q3 ((i : Int).tmod 7)) 2 hsh (by decide) F
          have hpk6 : ∃ k, pickI (shrI .i64 q3 ((i : Int).tmod 7)) 2 = k := ⟨_, rfl⟩
          obtain ⟨k6, hpk6⟩ := hpk6
          have rg6 := pick4 hsh (by decide) hpk6
          rw [hpk6] at pk6
          have hinm : 0 ≤ (i : Int).tmod ((qr.length + 1 : Nat) : Int) ∧ (i : Int).tmod ((qr.length + 1 : Nat) : Int) < ((qr.length + 1 : Nat) : Int) := by
            rw [em]
            have : i % (qr.length + 1) < qr.length + 1 := gm
            omega
          have hk3 : (off + ((i : Int).tmod ((qr.length + 1 : Nat) : Int)).toNat * 4) * 1 + (0 + (3 : Int).toNat * 1) = off + i % (qr.length + 1) * 4 + 3 := by rw [em, Int.toNat_natCast]; omega
          have hne0 : ((qr.length + 1 : Nat) : Int) ≠ 0 := by omega
          have hk6c : k6 = 0 ∨ k6 = 1 := by omega
          have hb1 : bs.length + 1 ≤ 9223372036854775807 := by omega
          have hi1 : ((i + 1 : Nat) : Int) ≤ k1 * 0 := by omega
          have hi2 : i < 4611686018427387904 := by omega
          have hdec : (k1 * 0).toNat - (i + 1) < (k1 * 0).toNat - i := by omega
          have hbl48 : (bs ++ [(48 : UInt8)]).length = i + 1 := by rw [List.length_append, hbl]; rfl
          have hbl49 : (bs ++ [(49 : UInt8)]).length = i + 1 := by rw [List.length_append, hbl]; rfl
          have hbs48 := bits2_snoc hbs (.inl (rfl : (48 : UInt8) = 48))
          have hbs49 := bits2_snoc hbs (.inr (rfl : (49 : UInt8) = 49))
          have h7 : 0 ≤ (i : Int).tmod 7 := Int.tmod_nonneg _ (by omega)
          clear hpk6 hsh hqm hx hro hx3
          conv => whnf
          refine ⟨fun _ => ?_, fun g => absurd hlt (of_decide_eq_false g)⟩
          conv => whnf
          refine br (fun _ => ?_) (fun g => absurd g (by decide))
          conv => whnf
          refine drawP hΘ mixed (.look 0 (.look 1 (.look 2 (.look 3 (.look 4 (.look 5 (.look 6 (.look 7 (.look 8 (.look 9 (.look 10 (.look 11 (.look 12 (.alt 13 (.look 14 (.look 15 (.look 16 (.look 17 (.last 18 .done))))) .nil)))))))))))))) [1] (by kernel_rfl) ?_
          conv => whnf
          repeat' ((conv => whnf); first
            | refine ⟨rfl, ?_⟩
            | refine ⟨Fz.le_refl _, rfl, ?_⟩
            | refine ⟨Fz.le_refl _, rfl, rfl, ?_⟩
            | refine ⟨⟨by simp, by simp⟩, ?_⟩
            | fail)
          conv => whnf
          refine ⟨hne0, ?_⟩
          conv => whnf
          refine ⟨rfl, hinm, ?_⟩
          conv => whnf
          refine ⟨⟨by decide, by decide⟩, ?_⟩
          conv => whnf
          refine ⟨rfl, ?_⟩
          conv => whnf
          refine ⟨_, hBm, ?_⟩
          refine hr3.rd hk3 ?_
          conv => whnf
          refine ⟨by decide, ?_⟩
          conv => whnf
          refine ⟨h7, ?_⟩
          conv => whnf
          refine usePu pk6 rfl ⟨rfl, rfl, trivial⟩ rfl ?_
          refine ⟨Fz.le_refl F, rfl, ?_⟩
          rcases hk6c with rfl | rfl
          · conv => whnf
            refine ⟨⟨by decide, by decide⟩, ?_⟩
            conv => whnf
            refine ⟨⟨by decide, by decide⟩, ?_⟩
            conv => whnf
            refine ⟨hb1, ?_⟩
            conv => whnf
            exact ⟨⟨(i + 1, bs ++ [48]), hi1, hbl48, hbs48⟩, hdec, leR [(2, 2)] hH hT rfl ⟨trivial, rvalE_below (by omega) _, gE_below encL_plain _ _ _ _ _, trivial⟩ ⟨cnt hi2, trivial⟩ ⟨Fz.le_refl F, rfl, sub_gE encL_plain (gE_self _ _ _ _), trivial⟩⟩
          · conv => whnf
            refine ⟨⟨by decide, by decide⟩, ?_⟩
            conv => whnf
            refine ⟨⟨by decide, by decide⟩, ?_⟩
            conv => whnf
            refine ⟨hb1, ?_⟩
            conv => whnf
            exact ⟨⟨(i + 1, bs ++ [49]), hi1, hbl49, hbs49⟩, hdec, leR [(2, 2)] hH hT rfl ⟨trivial, rvalE_below (by omega) _, gE_below encL_plain _ _ _ _ _, trivial⟩ ⟨cnt hi2, trivial⟩ ⟨Fz.le_refl F, rfl, sub_gE encL_plain (gE_self _ _ _ _), trivial⟩⟩
        · have hge : ¬ (i : Int) < IntKind.i64.wrap (k1 * 0) := by rw [ewh]; exact gi
          have ei : (bs.length : Int) = k1 * 0 := by rw [hbl]; omega
          have hv := rasV (p := 7) (bits := bs) (by omega) hw hh (by rw [if_pos rfl]; exact ⟨ei, hbs⟩)
          have he : writeS 7 ⟨false, [], k1, 0, bs⟩ = rwriteS 7 ⟨false, [], k1, 0, bs⟩ := (rwriteS_of 7 ⟨false, [], k1, 0, bs⟩).symm
          have hwr := rwrite_fn F 7 ⟨false, [], k1, 0, bs⟩ 0 (by omega) (Nat.zero_le _) (fun x hx => absurd hx (by simp)) (by show bs.length ≤ 9000000000000000000; omega)
          conv => whnf
          refine ⟨fun g => absurd (of_decide_eq_true g) hge, fun _ => ?_⟩
          conv => whnf
          refine use hwr [(1, 2)] rfl ⟨rfl, rfl, trivial⟩ rfl ⟨gE_below encL_plain _ _ _ _ _, trivial⟩ (by simp [SV.below, SA.below, rvalV, gA]) ⟨sub_gE encL_plain (gE_self _ _ _ _), trivial⟩ ?_
          rintro out0 F0 h0 n0 hle ⟨hle2, rfl, rfl, rfl⟩
          conv => whnf
          exact someEnd hv he hle rfl
      · have g0' : ¬ k1 = 0 := of_decide_eq_false g0
        clear g0
        have hw : 0 ≤ k1 ∧ k1 ≤ 32 := ⟨by omega, by omega⟩
        have hh : min k1 1 ≤ IntKind.i64.wrap (1 + k2) ∧ IntKind.i64.wrap (1 + k2) ≤ min k1 1 * 32 := ⟨by rw [eh2]; omega, by rw [eh2]; omega⟩
        have hwh : 0 ≤ k1 * IntKind.i64.wrap (1 + k2) ∧ k1 * IntKind.i64.wrap (1 + k2) ≤ 1024 := mul1024 hw hh
        have ewh : IntKind.i64.wrap (k1 * IntKind.i64.wrap (1 + k2)) = k1 * IntKind.i64.wrap (1 + k2) := wrap64_id (by omega) (by omega)
        conv => whnf
        refine loop_at hΘ (X := { y : Nat × List UInt8 // (y.1 : Int) ≤ k1 * IntKind.i64.wrap (1 + k2) ∧ y.2.length = y.1 ∧ bits2 y.2 = true }) (fun y => [(6, .va (.int .i64 y.1.1))]) [66, 67, 68, 69, 70, 71, 72, 73, 74, 75, 76, 77, 78, 79, 80, 81, 82, 83, 84, 85, 86, 87, 88, 89, 90, 91, 92, 93, 94, 95, 96] (fun y => [(0, .frz F), (1, rvalE ⟨false, [], k1, IntKind.i64.wrap (1 + k2), y.1.2⟩ 2 0), (2, gE 88 5 encL 0 [])]) 3 (fun y => (k1 * IntKind.i64.wrap (1 + k2)).toNat - y.1.1) ⟨(0, []), ⟨hwh.1, rfl, rfl⟩⟩
          (fun hH hT => leI [(2, 2)] hH hT rfl ⟨trivial, rvalE_below (by omega) _, gE_below encL_plain _ _ _ _ _, trivial⟩ ⟨rfl, trivial⟩ ⟨Fz.le_refl F, rfl, rfl, trivial⟩) ?_
        rintro ⟨⟨i, bs⟩, hi, hbl, hbs⟩ hH hT
        replace hi : (i : Int) ≤ k1 * IntKind.i64.wrap (1 + k2) := hi
        replace hbl : bs.length = i := hbl
        replace hbs : bits2 bs = true := hbs
        by_cases gi : (i : Int) < k1 * IntKind.i64.wrap (1 + k2)
        · have hlt : (i : Int) < IntKind.i64.wrap (k1 * IntKind.i64.wrap (1 + k2)) := by rw [ewh]; exact gi
          have gm : i % (qr.length + 1) < (q0 :: qr).length := Nat.mod_lt _ (by simp)
          have em : (i : Int).tmod ((qr.length + 1 : Nat) : Int) = ((i % (qr.length + 1) : Nat) : Int) := tmodN i
          have hqm := hro (i % (qr.length + 1)) gm
          have hBm := hqm.1
          have hr3 := hqm.2.2.2.2
          have hx3 := (hx _ (List.getElem_mem gm)).2.2.2
          have hq3 : ∃ q3, (q0 :: qr)[i % (qr.length + 1)].2.2.2 = q3 := ⟨_, rfl⟩
          obtain ⟨q3, hq3⟩ := hq3
          rw [hq3] at hr3 hx3
          have hsh := shr_i64 (n := (i : Int).tmod 7) hx3
          have pk6 := pick_pu (shrI .i64 q3 ((i : Int).tmod 7)) 2 hsh (by decide) F
          have hpk6 : ∃ k, pickI (shrI .i64 q3 ((i : Int).tmod 7)) 2 = k := ⟨_, rfl⟩
          obtain ⟨k6, hpk6⟩ := hpk6
          have rg6 := pick4 hsh (by decide) hpk6
          rw [hpk6] at pk6
          have hinm : 0 ≤ (i : Int).tmod ((qr.length + 1 : Nat) : Int) ∧ (i : Int).tmod ((qr.length + 1 : Nat) : Int) < ((qr.length + 1 : Nat) : Int) := by
            rw [em]
            have : i % (qr.length + 1) < qr.length + 1 := gm
            omega
          have hk3 : (off + ((i : Int).tmod ((qr.length + 1 : Nat) : Int)).toNat * 4) * 1 + (0 + (3 : Int).toNat * 1) = off + i % (qr.length + 1) * 4 + 3 := by rw [em, Int.toNat_natCast]; omega
          have hne0 : ((qr.length + 1 : Nat) : Int) ≠ 0 := by omega
          have hk6c : k6 = 0 ∨ k6 = 1 := by omega
          have hb1 : bs.length + 1 ≤ 9223372036854775807 := by omega
          have hi1 : ((i + 1 : Nat) : Int) ≤ k1 * IntKind.i64.wrap (1 + k2) := by omega
          have hi2 : i < 4611686018427387904 := by omega
          have hdec : (k1 * IntKind.i64.wrap (1 + k2)).toNat - (i + 1) < (k1 * IntKind.i64.wrap (1 + k2)).toNat - i := by omega
          have hbl48 : (bs ++ [(48 : UInt8)]).length = i + 1 := by rw [List.length_append, hbl]; rfl
          have hbl49 : (bs ++ [(49 : UInt8)]).length = i + 1 := by rw [List.length_append, hbl]; rfl
          have hbs48 := bits2_snoc hbs (.inl (rfl : (48 : UInt8) = 48))
          have hbs49 := bits2_snoc hbs (.inr (rfl : (49 : UInt8) = 49))
          have h7 : 0 ≤ (i : Int).tmod 7 := Int.tmod_nonneg _ (by omega)
          clear hpk6 hsh hqm hx hro hx3
          conv => whnf
          refine ⟨fun _ => ?_, fun g => absurd hlt (of_decide_eq_false g)⟩
          conv => whnf
          refine br (fun _ => ?_) (fun g => absurd g (by decide))
          conv => whnf
          refine drawP hΘ mixed (.look 0 (.look 1 (.look 2 (.look 3 (.look 4 (.look 5 (.look 6 (.look 7 (.look 8 (.look 9 (.look 10 (.look 11 (.look 12 (.alt 13 (.look 14 (.look 15 (.look 16 (.look 17 (.last 18 .done))))) .nil)))))))))))))) [1] (by kernel_rfl) ?_
          conv => whnf
          repeat' ((conv => whnf); first
            | refine ⟨rfl, ?_⟩
            | refine ⟨Fz.le_refl _, rfl, ?_⟩
            | refine ⟨Fz.le_refl _, rfl, rfl, ?_⟩
            | refine ⟨⟨by simp, by simp⟩, ?_⟩
            | fail)
          conv => whnf
          refine ⟨hne0, ?_⟩
          conv => whnf
          refine ⟨rfl, hinm, ?_⟩
          conv => whnf
          refine ⟨⟨by decide, by decide⟩, ?_⟩
          conv => whnf
          refine ⟨rfl, ?_⟩
          conv => whnf
          refine ⟨_, hBm, ?_⟩
          refine hr3.rd hk3 ?_
          conv => whnf
          refine ⟨by decide, ?_⟩
          conv => whnf
          refine ⟨h7, ?_⟩
          conv => whnf
          refine usePu pk6 rfl ⟨rfl, rfl, trivial⟩ rfl ?_
          refine ⟨Fz.le_refl F, rfl, ?_⟩
          rcases hk6c with rfl | rfl
          · conv => whnf
            refine ⟨⟨by decide, by decide⟩, ?_⟩
            conv => whnf
            refine ⟨⟨by decide, by decide⟩, ?_⟩
            conv => whnf
            refine ⟨hb1, ?_⟩
            conv => whnf
            exact ⟨⟨(i + 1, bs ++ [48]), hi1, hbl48, hbs48⟩, hdec, leR [(2, 2)] hH hT rfl ⟨trivial, rvalE_below (by omega) _, gE_below encL_plain _ _ _ _ _, trivial⟩ ⟨cnt hi2, trivial⟩ ⟨Fz.le_refl F, rfl, sub_gE encL_plain (gE_self _ _ _ _), trivial⟩⟩
          · conv => whnf
            refine ⟨⟨by decide, by decide⟩, ?_⟩
            conv => whnf
            refine ⟨⟨by decide, by decide⟩, ?_⟩
            conv => whnf
            refine ⟨hb1, ?_⟩
            conv => whnf
            exact ⟨⟨(i + 1, bs ++ [49]), hi1, hbl49, hbs49⟩, hdec, leR [(2, 2)] hH hT rfl ⟨trivial, rvalE_below (by omega) _, gE_below encL_plain _ _ _ _ _, trivial⟩ ⟨cnt hi2, trivial⟩ ⟨Fz.le_refl F, rfl, sub_gE encL_plain (gE_self _ _ _ _), trivial⟩⟩
        · have hge : ¬ (i : Int) < IntKind.i64.wrap (k1 * IntKind.i64.wrap (1 + k2)) := by rw [ewh]; exact gi
          have ei : (bs.length : Int) = k1 * IntKind.i64.wrap (1 + k2) := by rw [hbl]; omega
          have hv := rasV (p := 7) (bits := bs) (by omega) hw hh (by rw [if_pos rfl]; exact ⟨ei, hbs⟩)
          have he : writeS 7 ⟨false, [], k1, IntKind.i64.wrap (1 + k2), bs⟩ = rwriteS 7 ⟨false, [], k1, IntKind.i64.wrap (1 + k2), bs⟩ := (rwriteS_of 7 ⟨false, [], k1, IntKind.i64.wrap (1 + k2), bs⟩).symm
          have hwr := rwrite_fn F 7 ⟨false, [], k1, IntKind.i64.wrap (1 + k2), bs⟩ 0 (by omega) (Nat.zero_le _) (fun x hx => absurd hx (by simp)) (by show bs.length ≤ 9000000000000000000; omega)
          conv => whnf
          refine ⟨fun g => absurd (of_decide_eq_true g) hge, fun _ => ?_⟩
          conv => whnf
          refine use hwr [(1, 2)] rfl ⟨rfl, rfl, trivial⟩ rfl ⟨gE_below encL_plain _ _ _ _ _, trivial⟩ (by simp [SV.below, SA.below, rvalV, gA]) ⟨sub_gE encL_plain (gE_self _ _ _ _), trivial⟩ ?_
          rintro out0 F0 h0 n0 hle ⟨hle2, rfl, rfl, rfl⟩
          conv => whnf
          exact someEnd hv he hle rfl
end Go.Proofs.YtblllibdahkgfaaGreatDoor
