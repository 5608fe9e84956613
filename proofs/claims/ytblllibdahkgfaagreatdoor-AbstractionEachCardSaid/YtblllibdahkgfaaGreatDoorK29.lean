import Derived.Test.YtblllibdahkgfaaGreatDoorK27
import Derived.Test.YtblllibdahkgfaaGreatDoorK28
import Derived.Test.YtblllibdahkgfaaGreatDoorK24

namespace Go.Proofs.YtblllibdahkgfaaGreatDoor
open Go Sx
set_option maxRecDepth 100000
set_option maxHeartbeats 16000000 in
theorem zso (F : Fz) (n : Bool) (b off cap : Nat) (x : List Q4) (ha : RawAt F b off (ints4 x)) (hn : x ≠ [] → n = false) (hl : x.length < 9223372036854775808) (hx : ∀ q ∈ x, i64 q.1 ∧ i64 q.2.1 ∧ i64 q.2.2.1 ∧ i64 q.2.2.2) :
  Fo Tryz.prog F 24 [.va (.int .i64 4), .va (.slice n 0 b off 1 x.length cap)] (fun o F' => ∃ v, VOK 4 v ∧ o = .ret (.va (.str (zay 4 v)))) := by
 have hro := ha.quad
 obtain ⟨B, hro⟩ := hro
 have vl : VOK 4 loseV := .inl rfl
 have el : zay 4 loseV = [] := if_pos rfl
 have h01 : ((x.length : Nat) : Int) = 1 → 0 < x.length := fun h => by omega
 refine fo_of hΘ Tryz.func24 rfl (by decide) _ _ rfl rfl rfl ?_;conv=>whnf
 refine ⟨fun ga => ?A, fun ga => ?B⟩
 case' A =>
  have g0 := h01 (of_decide_eq_true ga)
  have hnf0 := hn (fun h => by rw [h] at g0; simp at g0)
  have hk00 : (off + (0 : Int).toNat * 4) * 1 + (0 + (0 : Int).toNat * 1) = off + 0 * 4 := by simp
  have hin0 : 0 ≤ (0 : Int) ∧ (0 : Int) < (x.length : Int) := ⟨by omega, by omega⟩
  have hp0 := za3 (x[0]).1 4 (hx _ (List.getElem_mem g0)).1 (by decide) F
  clear ga;conv=>whnf
  refine ⟨hnf0, hin0, ?_⟩;conv=>whnf
  refine ⟨⟨by decide, by decide⟩, ?_⟩;conv=>whnf
  refine ⟨_, (hro 0 g0).1, ?_⟩
  refine (hro 0 g0).2.1.rd hk00 ?_;conv=>whnf
  refine usePu hp0 rfl ⟨rfl, rfl, trivial⟩ rfl ?_;conv=>whnf
  refine br (fun g => ?_) (fun g => ?_)
  ·conv=>whnf
   exact zbn vl el (Fz.le_refl F) rfl
  clear g hp0
 case' B => clear ga
 all_goals
  conv=>whnf
  refine br (fun g => absurd g (by decide)) (fun _ => ?_);conv=>whnf
  refine za0 hΘ (X := { y : Nat × Int × List RLn × Nat // SomeL 4 x.length y.1 y.2.1 y.2.2.1 }) (fun y => [(7, .va (.int .i64 y.1.2.1)), (8, .va (.int .i64 y.1.1))]) [9, 10, 11, 12, 100, 101, 102, 103, 104, 105, 106, 107, 108, 109, 110, 111, 112, 113, 114, 115, 116, 117, 118, 119, 120, 121, 122, 123, 124, 125, 126, 127, 128, 129, 130, 131, 132, 133, 134, 135, 136, 137, 138, 139, 140, 141, 142, 143, 144, 145, 146, 147, 148, 149, 150, 151, 152, 153, 154, 155, 156, 157, 158, 159, 160, 161, 162, 163, 164, 165, 166, 167, 168, 169, 170, 171, 172, 173, 174, 175, 176, 177, 178, 179, 180, 181, 182, 183, 184, 185, 186, 187, 188, 189, 190, 191, 192, 193, 194, 195, 196, 197, 198, 199, 200, 201, 202, 203] (fun y => [(0, .frz F), (1, rvalE ⟨false, y.1.2.2.1, 0, 0, []⟩ 2 y.1.2.2.2), (2, gE 88 5 encL y.1.2.2.2 y.1.2.2.1)]) 3 (fun y => x.length - y.1.1) ⟨(0, 0, [], 0), ⟨by dsimp only; omega, by dsimp only; omega, by dsimp only; simp, trivial, fun _ h => absurd h (by simp)⟩⟩
   (fun hH hT => leI [(2, 2)] hH hT rfl ⟨trivial, zad (by omega) _, zac zaa _ _ _ _ _, trivial⟩ ⟨rfl, rfl, trivial⟩ ⟨Fz.le_refl F, rfl, rfl, trivial⟩) ?_
  rintro ⟨⟨k, at_, L, c⟩, hS⟩ hH hT
  replace hS : SomeL 4 x.length k at_ L := hS
  have hL1000 : L.length ≤ 1000 := by have h1 := hS.l; have h2 := hS.i; omega
  have hv := hS.value (by omega)
  have he : zay 4 (ofV 4 ⟨false, L, 0, 0, []⟩) = zar 4 ⟨false, L, 0, 0, []⟩ := (zb8 4 _).symm
  have hwr := zcu F 4 ⟨false, L, 0, 0, []⟩ c (by omega) hL1000 (fun y hy => by have := hS.t y hy; omega) (Nat.zero_le _)
  by_cases gk : k < x.length ∧ k < 12
  ·have gk1 := gk.1
   have gi1 : (k : Int) < (x.length : Int) := by omega
   have gi2 : (k : Int) < 12 := by omega
   have hnf := hn (fun h => by rw [h] at gk1; simp at gk1)
   subst hnf
   have hq := hro k gk1
   have hB := hq.1
   have hr0 := hq.2.1
   have hr1 := hq.2.2.1
   have hr2 := hq.2.2.2.1
   have hr3 := hq.2.2.2.2
   have hk0 : (off + (k : Int).toNat * 4) * 1 + (0 + (0 : Int).toNat * 1) = off + k * 4 := by rw [Int.toNat_natCast]; omega
   have hk1 : (off + (k : Int).toNat * 4) * 1 + (0 + (1 : Int).toNat * 1) = off + k * 4 + 1 := by rw [Int.toNat_natCast]; omega
   have hk2 : (off + (k : Int).toNat * 4) * 1 + (0 + (2 : Int).toNat * 1) = off + k * 4 + 2 := by rw [Int.toNat_natCast]; omega
   have hk3 : (off + (k : Int).toNat * 4) * 1 + (0 + (3 : Int).toNat * 1) = off + k * 4 + 3 := by rw [Int.toNat_natCast]; omega
   have hx0 := hx _ (List.getElem_mem gk1)
   have hq4 : ∃ q, x[k] = q := ⟨_, rfl⟩
   obtain ⟨⟨q0, q1, q2, q3⟩, hq4⟩ := hq4
   rw [hq4] at hr0 hr1 hr2 hr3 hx0
   have hink : 0 ≤ (k : Int) ∧ (k : Int) < (x.length : Int) := by omega
   have pk0 := za3 q0 12 hx0.1 (by decide) F
   have hpk0 : ∃ k, pickI q0 12 = k := ⟨_, rfl⟩
   obtain ⟨k0, hpk0⟩ := hpk0
   have rg0 := pick4 hx0.1 (by decide) hpk0
   rw [hpk0] at pk0
   have pk1 := za3 q1 11 hx0.2.1 (by decide) F
   have hpk1 : ∃ k, pickI q1 11 = k := ⟨_, rfl⟩
   obtain ⟨k1, hpk1⟩ := hpk1
   have rg1 := pick4 hx0.2.1 (by decide) hpk1
   rw [hpk1] at pk1
   have pk2 := za3 q0 40 hx0.1 (by decide) F
   have hpk2 : ∃ k, pickI q0 40 = k := ⟨_, rfl⟩
   obtain ⟨k2, hpk2⟩ := hpk2
   have rg2 := pick4 hx0.1 (by decide) hpk2
   rw [hpk2] at pk2
   have pk3 := za3 q2 4001 hx0.2.2.1 (by decide) F
   have hpk3 : ∃ k, pickI q2 4001 = k := ⟨_, rfl⟩
   obtain ⟨k3, hpk3⟩ := hpk3
   have rg3 := pick4 hx0.2.2.1 (by decide) hpk3
   rw [hpk3] at pk3
   have pk4 := za3 q2 8 hx0.2.2.1 (by decide) F
   have hpk4 : ∃ k, pickI q2 8 = k := ⟨_, rfl⟩
   obtain ⟨k4, hpk4⟩ := hpk4
   have rg4 := pick4 hx0.2.2.1 (by decide) hpk4
   rw [hpk4] at pk4
   have hat := hS.a
   have hat2 := hS.i
   have ew : IntKind.i64.wrap (k0 + k1) = k0 + k1 := zaj (by omega) (by omega)
   have ea0 : IntKind.i64.wrap (at_ + 1) = at_ + 1 := zaj (by omega) (by omega)
   have ea : IntKind.i64.wrap (IntKind.i64.wrap (at_ + 1) + k2) = at_ + 1 + k2 := by rw [ea0, zaj (by omega) (by omega)]
   have hsl : 0 ≤ IntKind.i64.wrap (k0 + k1) := by rw [ew]; omega
   have hsl3 : 0 ≤ k0 ∧ k0 ≤ IntKind.i64.wrap (k0 + k1) := by rw [ew]; omega
   have hsl2 : IntKind.i64.wrap (k0 + k1) ≤ 23 := by rw [ew]; omega
   have hgrow : at_ ≤ IntKind.i64.wrap (IntKind.i64.wrap (at_ + 1) + k2) ∧ IntKind.i64.wrap (IntKind.i64.wrap (at_ + 1) + k2) ≤ at_ + 41 := by rw [ea]; omega
   have hdec : x.length - (k + 1) < x.length - k := by omega
   have hlt : L.length < 1000000 := by omega
   have hA0 : 0 ≤ (IntKind.i64.wrap (IntKind.i64.wrap (at_ + 1) + k2)) ∧ (IntKind.i64.wrap (IntKind.i64.wrap (at_ + 1) + k2)) ≤ 1000 := by rw [ea]; omega
   have eN0 : (IntKind.i64.wrap ((IntKind.i64.wrap (IntKind.i64.wrap (at_ + 1) + k2)).tdiv 32)) = (IntKind.i64.wrap (IntKind.i64.wrap (at_ + 1) + k2)) / 32 := by rw [Int.tdiv_eq_ediv_of_nonneg hA0.1]; exact zaj (by omega) (by omega)
   have eN1 : ((IntKind.i64.wrap (IntKind.i64.wrap (at_ + 1) + k2)).tmod 32) = (IntKind.i64.wrap (IntKind.i64.wrap (at_ + 1) + k2)) % 32 := Int.tmod_eq_emod_of_nonneg hA0.1
   have hP0 : 0 < IntKind.i64.wrap ((IntKind.i64.wrap ((IntKind.i64.wrap (IntKind.i64.wrap (at_ + 1) + k2)).tdiv 32)) + 1) := by rw [eN0, zaj (by omega) (by omega)]; omega
   have hP1 : 0 < IntKind.i64.wrap (((IntKind.i64.wrap (IntKind.i64.wrap (at_ + 1) + k2)).tmod 32) + 1) := by rw [eN1, zaj (by omega) (by omega)]; omega
   have pk5 := za3 q2 (IntKind.i64.wrap ((IntKind.i64.wrap ((IntKind.i64.wrap (IntKind.i64.wrap (at_ + 1) + k2)).tdiv 32)) + 1)) hx0.2.2.1 hP0 F
   have hpk5 : ∃ k, pickI q2 (IntKind.i64.wrap ((IntKind.i64.wrap ((IntKind.i64.wrap (IntKind.i64.wrap (at_ + 1) + k2)).tdiv 32)) + 1)) = k := ⟨_, rfl⟩
   obtain ⟨k5, hpk5⟩ := hpk5
   rw [hpk5] at pk5
   have pk6 := za3 q3 (IntKind.i64.wrap (((IntKind.i64.wrap (IntKind.i64.wrap (at_ + 1) + k2)).tmod 32) + 1)) hx0.2.2.2 hP1 F
   have hpk6 : ∃ k, pickI q3 (IntKind.i64.wrap (((IntKind.i64.wrap (IntKind.i64.wrap (at_ + 1) + k2)).tmod 32) + 1)) = k := ⟨_, rfl⟩
   obtain ⟨k6, hpk6⟩ := hpk6
   rw [hpk6] at pk6
   clear hpk5 hpk6 hP0 hP1 eN0 eN1 hA0
   clear hpk0 hpk1 hpk2 hpk3 hpk4 hq hro hx hv he hwr
   have htl : (([], (IntKind.i64.wrap ((IntKind.i64.wrap (IntKind.i64.wrap (at_ + 1) + k2)).tdiv 32)), ((IntKind.i64.wrap (IntKind.i64.wrap (at_ + 1) + k2)).tmod 32), k5, k6) : RLn).1.length ≤ 23 := Nat.zero_le _
   have hk62 : k < 4611686018427387904 := by omega
   have hnoS : SomeL 4 x.length ((k + 1 : Nat) : Int) (IntKind.i64.wrap (IntKind.i64.wrap (at_ + 1) + k2)) L := hS.no gi1 gi2 hgrow
   have hyes : fitsR 4 L ([], (IntKind.i64.wrap ((IntKind.i64.wrap (IntKind.i64.wrap (at_ + 1) + k2)).tdiv 32)), ((IntKind.i64.wrap (IntKind.i64.wrap (at_ + 1) + k2)).tmod 32), k5, k6) = true → SomeL 4 x.length ((k + 1 : Nat) : Int) (IntKind.i64.wrap (IntKind.i64.wrap (at_ + 1) + k2)) (L ++ [([], (IntKind.i64.wrap ((IntKind.i64.wrap (IntKind.i64.wrap (at_ + 1) + k2)).tdiv 32)), ((IntKind.i64.wrap (IntKind.i64.wrap (at_ + 1) + k2)).tmod 32), k5, k6)]) := fun hf => hS.yes (by omega) gi1 gi2 hgrow hf htl
   conv=>whnf
   refine ⟨fun _ => ?_, fun g => absurd gi1 (of_decide_eq_false g)⟩;conv=>whnf
   refine br (fun _ => ?_) (fun g => absurd gi2 (of_decide_eq_false g));conv=>whnf
   refine ⟨rfl, hink, ?_⟩;conv=>whnf
   refine ⟨⟨by decide, by decide⟩, ?_⟩;conv=>whnf
   refine ⟨_, hB, ?_⟩
   refine hr0.rd hk0 ?_;conv=>whnf
   refine usePu pk0 rfl ⟨rfl, rfl, trivial⟩ rfl ?_;conv=>whnf
   refine ⟨rfl, hink, ?_⟩;conv=>whnf
   refine ⟨⟨by decide, by decide⟩, ?_⟩;conv=>whnf
   refine ⟨_, hB, ?_⟩
   refine hr1.rd hk1 ?_;conv=>whnf
   refine usePu pk1 rfl ⟨rfl, rfl, trivial⟩ rfl ?_;conv=>whnf
   refine ⟨⟨hsl, hsl2⟩, ?_⟩;conv=>whnf
   refine ⟨hsl3, ?_⟩;conv=>whnf
   refine ⟨rfl, hink, ?_⟩;conv=>whnf
   refine ⟨⟨by decide, by decide⟩, ?_⟩;conv=>whnf
   refine ⟨_, hB, ?_⟩
   refine hr0.rd hk0 ?_;conv=>whnf
   refine usePu pk2 rfl ⟨rfl, rfl, trivial⟩ rfl ?_;conv=>whnf
   refine ⟨by decide, ?_⟩;conv=>whnf
   refine ⟨by decide, ?_⟩;conv=>whnf
   refine ⟨rfl, hink, ?_⟩;conv=>whnf
   refine ⟨⟨by decide, by decide⟩, ?_⟩;conv=>whnf
   refine ⟨_, hB, ?_⟩
   refine hr2.rd hk2 ?_;conv=>whnf
   refine usePu pk3 rfl ⟨rfl, rfl, trivial⟩ rfl ?_;conv=>whnf
   refine br (fun _ => ?_) (fun g => absurd g (by decide));conv=>whnf
   refine br (fun g => absurd g (by decide)) (fun _ => ?_);conv=>whnf
   refine br (fun _ => ?_) (fun g => absurd g (by decide));conv=>whnf
   refine drawP hΘ mixed (.look 0 (.look 1 (.look 2 (.look 3 (.look 4 (.look 5 (.look 6 (.look 10 (.alt 7 (.look 8 (.alt 9 (.look 11 (.alt 12 .done .nil)) .nil)) .nil))))))))) [] (by kernel_rfl) ?_;conv=>whnf
   refine ⟨rfl, hink, ?_⟩;conv=>whnf
   refine ⟨⟨by decide, by decide⟩, ?_⟩;conv=>whnf
   refine ⟨rfl, ?_⟩;conv=>whnf
   refine ⟨_, hB, ?_⟩
   refine hr2.rd hk2 ?_;conv=>whnf
   refine ⟨⟨by decide, by decide⟩, ?_⟩;conv=>whnf
   refine ⟨Fz.le_refl F, ?_⟩;conv=>whnf
   refine usePu pk5 rfl ⟨rfl, rfl, trivial⟩ rfl ?_
   refine ⟨Fz.le_refl F, ?_⟩;conv=>whnf
   refine ⟨⟨by decide, by decide⟩, ?_⟩;conv=>whnf
   refine ⟨Fz.le_refl F, ?_⟩;conv=>whnf
   refine drawP hΘ mixed (.look 0 (.look 1 (.look 2 (.look 3 (.look 4 (.look 5 (.look 6 (.look 10 (.alt 7 (.look 8 (.alt 9 (.look 11 (.alt 12 .done .nil)) .nil)) .nil))))))))) [] (by kernel_rfl) ?_;conv=>whnf
   refine ⟨rfl, hink, ?_⟩;conv=>whnf
   refine ⟨⟨by decide, by decide⟩, ?_⟩;conv=>whnf
   refine ⟨rfl, ?_⟩;conv=>whnf
   refine ⟨_, hB, ?_⟩
   refine hr3.rd hk3 ?_;conv=>whnf
   refine ⟨⟨by decide, by decide⟩, ?_⟩;conv=>whnf
   refine ⟨Fz.le_refl F, ?_⟩;conv=>whnf
   refine usePu pk6 rfl ⟨rfl, rfl, trivial⟩ rfl ?_
   refine ⟨Fz.le_refl F, ?_⟩;conv=>whnf
   refine ⟨⟨by decide, by decide⟩, ?_⟩;conv=>whnf
   refine ⟨Fz.le_refl F, ?_⟩
   rcases L with _ | ⟨l0, lr⟩
   ·have hf := zcr F 4 _ c ([], (IntKind.i64.wrap ((IntKind.i64.wrap (IntKind.i64.wrap (at_ + 1) + k2)).tdiv 32)), ((IntKind.i64.wrap (IntKind.i64.wrap (at_ + 1) + k2)).tmod 32), k5, k6) (by show 0 < 1000000; omega) hlt (by decide)
    conv=>whnf
    refine use hf [(1, 2)] rfl ⟨rfl, rfl, rfl, trivial⟩ rfl ⟨zac zaa _ _ _ _ _, trivial⟩ (by simp [SV.below, SA.below, gA, encL]) ⟨zas zaa (zao _ _ _ _), trivial⟩ ?_
    rintro out0 F1 h0 n0 hle ⟨rfl, rfl, rfl, rfl⟩;conv=>whnf
    refine br (fun g => ?_) (fun g => ?_)
    ·have hy := hyes g
     conv=>whnf
     refine ⟨Nat.le_of_ble_eq_true rfl, [encL ([], (IntKind.i64.wrap ((IntKind.i64.wrap (IntKind.i64.wrap (at_ + 1) + k2)).tdiv 32)), ((IntKind.i64.wrap (IntKind.i64.wrap (at_ + 1) + k2)).tmod 32), k5, k6)], rfl, ?_⟩;conv=>whnf
     refine ⟨rfl, rfl, ?_⟩;conv=>whnf
     refine ⟨by show 1 * 48 ≤ 140737488355328; omega, fun c' hc => ?_⟩;conv=>whnf
     exact ⟨⟨(k + 1, IntKind.i64.wrap (IntKind.i64.wrap (at_ + 1) + k2), ([]) ++ [([], (IntKind.i64.wrap ((IntKind.i64.wrap (IntKind.i64.wrap (at_ + 1) + k2)).tdiv 32)), ((IntKind.i64.wrap (IntKind.i64.wrap (at_ + 1) + k2)).tmod 32), k5, k6)], c'), hy⟩, hdec, leR [(2, 5)] hH hT rfl ⟨trivial, zad (by omega) _, zac zaa _ _ _ _ _, trivial⟩ ⟨rfl, cnt hk62, trivial⟩ ⟨Fz.le_refl F, zcv (μ := sig [(2, 5)]) rfl rfl, zas zaa (zc3 _ (by simp)), trivial⟩⟩
    ·clear g;conv=>whnf
     exact ⟨⟨(k + 1, IntKind.i64.wrap (IntKind.i64.wrap (at_ + 1) + k2), [], c), hnoS⟩, hdec, leR [(2, 2)] hH hT rfl ⟨trivial, zad (by omega) _, zac zaa _ _ _ _ _, trivial⟩ ⟨rfl, cnt hk62, trivial⟩ ⟨Fz.le_refl F, rfl, zas zaa (zao _ _ _ _), trivial⟩⟩
   ·have hsz : (lr.length + 1 + 1) * 48 ≤ 140737488355328 := by
     have h9 : lr.length + 1 < 1000000 := hlt
     omega
    have hf := zcr F 4 _ c ([], (IntKind.i64.wrap ((IntKind.i64.wrap (IntKind.i64.wrap (at_ + 1) + k2)).tdiv 32)), ((IntKind.i64.wrap (IntKind.i64.wrap (at_ + 1) + k2)).tmod 32), k5, k6) (by show 0 < 1000000; omega) hlt (by decide)
    conv=>whnf
    refine use hf [(1, 2)] rfl ⟨rfl, ⟨rfl, rfl, rfl, .inr ⟨rfl, rfl, rfl, rfl⟩⟩, rfl, trivial⟩ rfl ⟨zac zaa _ _ _ _ _, trivial⟩ (by simp [SV.below, SA.below, gA, encL]) ⟨zas zaa (zao _ _ _ _), trivial⟩ ?_
    rintro out0 F1 h0 n0 hle ⟨rfl, rfl, rfl, rfl⟩;conv=>whnf
    refine br (fun g => ?_) (fun g => ?_)
    ·have hy := hyes g
     conv=>whnf
     refine ⟨Nat.le_of_ble_eq_true rfl, [encL ([], (IntKind.i64.wrap ((IntKind.i64.wrap (IntKind.i64.wrap (at_ + 1) + k2)).tdiv 32)), ((IntKind.i64.wrap (IntKind.i64.wrap (at_ + 1) + k2)).tmod 32), k5, k6)], rfl, ?_⟩;conv=>whnf
     refine ⟨rfl, rfl, by simp, rfl, hsz, fun c' hc => ?_⟩;conv=>whnf
     exact ⟨⟨(k + 1, IntKind.i64.wrap (IntKind.i64.wrap (at_ + 1) + k2), (l0 :: lr) ++ [([], (IntKind.i64.wrap ((IntKind.i64.wrap (IntKind.i64.wrap (at_ + 1) + k2)).tdiv 32)), ((IntKind.i64.wrap (IntKind.i64.wrap (at_ + 1) + k2)).tmod 32), k5, k6)], c'), hy⟩, hdec, leR [(2, 5)] hH hT rfl ⟨trivial, zad (by omega) _, zac zaa _ _ _ _ _, trivial⟩ ⟨rfl, cnt hk62, trivial⟩ ⟨Fz.le_refl F, zcv (μ := sig [(2, 5)]) rfl rfl, zea zaa (l := l0 :: lr) rfl, trivial⟩⟩
    ·clear g;conv=>whnf
     exact ⟨⟨(k + 1, IntKind.i64.wrap (IntKind.i64.wrap (at_ + 1) + k2), l0 :: lr, c), hnoS⟩, hdec, leR [(2, 2)] hH hT rfl ⟨trivial, zad (by omega) _, zac zaa _ _ _ _ _, trivial⟩ ⟨rfl, cnt hk62, trivial⟩ ⟨Fz.le_refl F, rfl, zcs zaa, trivial⟩⟩
  ·rcases L with _ | ⟨l0, lr⟩
   ·have hor : ¬ (k : Int) < (x.length : Int) ∨ ¬ (k : Int) < 12 := by omega
    conv=>whnf
    refine ⟨fun g1 => ?_, fun g1 => ?_⟩
    ·have g1' : (k : Int) < (x.length : Int) := of_decide_eq_true g1
     have g2 : ¬ (k : Int) < 12 := hor.resolve_left (fun h => h g1')
     clear g1;conv=>whnf
     refine br (fun g => absurd (of_decide_eq_true g) g2) (fun _ => ?_);conv=>whnf
     refine use hwr [(1, 2)] rfl ⟨rfl, rfl, trivial⟩ rfl ⟨zac zaa _ _ _ _ _, trivial⟩ (by simp [SV.below, SA.below, rvalV, gA]) ⟨zas zaa (zao _ _ _ _), trivial⟩ ?_
     rintro out0 F1 h0 n0 hle ⟨hle2, rfl, rfl, rfl⟩;conv=>whnf
     exact zbn hv he hle rfl
    ·clear g1;conv=>whnf
     refine use hwr [(1, 2)] rfl ⟨rfl, rfl, trivial⟩ rfl ⟨zac zaa _ _ _ _ _, trivial⟩ (by simp [SV.below, SA.below, rvalV, gA]) ⟨zas zaa (zao _ _ _ _), trivial⟩ ?_
     rintro out0 F1 h0 n0 hle ⟨hle2, rfl, rfl, rfl⟩;conv=>whnf
     exact zbn hv he hle rfl
   ·have hor : ¬ (k : Int) < (x.length : Int) ∨ ¬ (k : Int) < 12 := by omega
    conv=>whnf
    refine ⟨fun g1 => ?_, fun g1 => ?_⟩
    ·have g1' : (k : Int) < (x.length : Int) := of_decide_eq_true g1
     have g2 : ¬ (k : Int) < 12 := hor.resolve_left (fun h => h g1')
     clear g1;conv=>whnf
     refine br (fun g => absurd (of_decide_eq_true g) g2) (fun _ => ?_);conv=>whnf
     refine use hwr [(1, 2)] rfl ⟨rfl, rfl, trivial⟩ rfl ⟨zac zaa _ _ _ _ _, trivial⟩ (by simp [SV.below, SA.below, rvalV, gA]) ⟨zas zaa (zao _ _ _ _), trivial⟩ ?_
     rintro out0 F1 h0 n0 hle ⟨hle2, rfl, rfl, rfl⟩;conv=>whnf
     exact zbn hv he hle rfl
    ·clear g1;conv=>whnf
     refine use hwr [(1, 2)] rfl ⟨rfl, rfl, trivial⟩ rfl ⟨zac zaa _ _ _ _ _, trivial⟩ (by simp [SV.below, SA.below, rvalV, gA]) ⟨zas zaa (zao _ _ _ _), trivial⟩ ?_
     rintro out0 F1 h0 n0 hle ⟨hle2, rfl, rfl, rfl⟩;conv=>whnf
     exact zbn hv he hle rfl
end Go.Proofs.YtblllibdahkgfaaGreatDoor

namespace Go.Proofs.YtblllibdahkgfaaGreatDoor
open Go Sx
set_option maxRecDepth 100000
set_option maxHeartbeats 8000000 in
theorem zp6 (F : Fz) (n : Bool) (b off cap : Nat) (p : Int) (hp : 6 ≤ p ∧ p ≤ 8) :
  Fo Tryz.prog F 24 [.va (.int .i64 p), .va (.slice n 0 b off 1 0 cap)] (fun o F' => ∃ v, VOK p v ∧ o = .ret (.va (.str (zay p v)))) := by
 have hv : VOK p ⟨false, [], 0, 0, []⟩ := by
  refine rasV hp ⟨by omega, by omega⟩ ⟨by omega, by omega⟩ ?_
  split <;> simp
 have he : zay p ⟨false, [], 0, 0, []⟩ = zar p ⟨false, [], 0, 0, []⟩ := (zb8 p ⟨false, [], 0, 0, []⟩).symm
 have hwr := zcu F p ⟨false, [], 0, 0, []⟩ 0 (by omega) (Nat.zero_le _) (fun x hx => absurd hx (by simp)) (Nat.zero_le _)
 refine fo_of hΘ Tryz.func24 rfl (by decide) _ _ rfl rfl rfl ?_;conv=>whnf
 refine ⟨fun ga => absurd ga (by decide), fun ga => ?_⟩;conv=>whnf
 refine br (fun _ => ?_) (fun g => absurd hp.1 (of_decide_eq_false g));conv=>whnf
 refine br (fun g => absurd g (by decide)) (fun _ => ?_);conv=>whnf
 refine za0 hΘ (X := Unit) (fun _ => [(6, .va (.int .i64 0))]) [66, 67, 68, 69, 70, 71, 72, 73, 74, 75, 76, 77, 78, 79, 80, 81, 82, 83, 84, 85, 86, 87, 88, 89, 90, 91, 92, 93, 94, 95, 96] (fun _ => [(0, .frz F), (1, rvalE ⟨false, [], 0, 0, []⟩ 2 0), (2, gE 88 5 encL 0 [])]) 3 (fun _ => 0) ()
  (fun hH hT => leI [(2, 2)] hH hT rfl ⟨trivial, zad (by omega) _, zac zaa _ _ _ _ _, trivial⟩ ⟨rfl, trivial⟩ ⟨Fz.le_refl F, rfl, rfl, trivial⟩) ?_
 rintro ⟨⟩ hH hT;conv=>whnf
 refine ⟨fun gb => absurd gb (by decide), fun gb => ?_⟩
 clear gb;conv=>whnf
 refine use hwr [(1, 2)] rfl ⟨rfl, rfl, trivial⟩ rfl ⟨zac zaa _ _ _ _ _, trivial⟩ (by simp [SV.below, SA.below, rvalV, gA]) ⟨zas zaa (zao _ _ _ _), trivial⟩ ?_
 rintro out0 F0 h0 n0 hle ⟨hle2, rfl, rfl, rfl⟩;conv=>whnf
 exact zbn hv he hle rfl
theorem zn7 (F : Fz) (n : Bool) (b off cap : Nat) (x : List Q4) (p : Int) (ha : RawAt F b off (ints4 x)) (hn : x ≠ [] → n = false) (hl : x.length < 9223372036854775808) (hx : ∀ q ∈ x, i64 q.1 ∧ i64 q.2.1 ∧ i64 q.2.2.1 ∧ i64 q.2.2.2) (hp : 1 ≤ p ∧ p ≤ 8) :
  Fo Tryz.prog F 24 [.va (.int .i64 p), .va (.slice n 0 b off 1 x.length cap)] (fun o F' => ∃ v, VOK p v ∧ o = .ret (.va (.str (zay p v)))) := by
 by_cases h6 : 6 ≤ p
 ·cases x with
  | nil => exact zp6 F n b off cap p (by omega)
  | cons q0 qr =>
   obtain rfl := hn (by simp)
   replace hl : qr.length + 1 < 9223372036854775808 := hl
   by_cases h7 : p = 7
   ·subst h7; exact ztz F b off cap q0 qr ha (by omega) hx
   ·exact zsi F b off cap q0 qr p (by omega) h7 ha (by omega) hx
 ·have hpc : p = 1 ∨ p = 2 ∨ p = 3 ∨ p = 4 ∨ p = 5 := by omega
  rcases hpc with rfl | rfl | rfl | rfl | rfl
  ·exact zte F n b off cap x ha hn hl hx
  ·exact zs8 F n b off cap x ha hn hl hx
  ·exact ztp F n b off cap x ha hn hl hx
  ·exact zso F n b off cap x ha hn hl hx
  ·exact zss F n b off cap x ha hn hl hx
end Go.Proofs.YtblllibdahkgfaaGreatDoor
