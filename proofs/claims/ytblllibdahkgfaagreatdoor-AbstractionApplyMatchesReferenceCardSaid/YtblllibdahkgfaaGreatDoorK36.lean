import Derived.Test.YtblllibdahkgfaaGreatDoorK35
import Derived.Test.YtblllibdahkgfaaGreatDoorK33
import Derived.Test.YtblllibdahkgfaaGreatDoorK25

namespace Go.Proofs.YtblllibdahkgfaaGreatDoor
open Go Sx
set_option maxRecDepth 100000
def hbT (W H : Nat) (bits : List UInt8) (r c : Nat) (i : Nat) : Bool := hb W H bits (2 * r + i / 2) (2 * c + i % 2)
def bitT (W H : Nat) (bits : List UInt8) (r c : Nat) : Nat → UInt8
 | 0 => 48
 | i + 1 => if hbT W H bits r c i = true then 49 else bitT W H bits r c i
theorem bitT4 (W H : Nat) (bits : List UInt8) (r c : Nat) : bitT W H bits r c 4 = zd1 W H bits r c := by
 unfold zd1 hb4
 show (if hb W H bits (2 * r + 1) (2 * c + 1) = true then 49 else if hb W H bits (2 * r + 1) (2 * c + 0) = true then 49 else if hb W H bits (2 * r + 0) (2 * c + 1) = true then 49 else if hb W H bits (2 * r + 0) (2 * c + 0) = true then 49 else (48 : UInt8)) = _
 simp only [Nat.add_zero]
 cases hb W H bits (2 * r) (2 * c) <;> cases hb W H bits (2 * r) (2 * c + 1) <;> cases hb W H bits (2 * r + 1) (2 * c) <;> cases hb W H bits (2 * r + 1) (2 * c + 1) <;> rfl
abbrev pr2 (x y : Int) : List SA := [.int .i64 x, .int .i64 y]
abbrev rows4 : List (List SA) := [pr2 0 0, pr2 0 1, pr2 1 0, pr2 1 1]
theorem ztd {i : Nat} (h : i < 4) : rows4[0 + (i : Int).toNat]? = some (pr2 (i / 2 : Nat) (i % 2 : Nat)) := by
 have hc : i = 0 ∨ i = 1 ∨ i = 2 ∨ i = 3 := by omega
 rcases hc with rfl | rfl | rfl | rfl <;> rfl
theorem zea {n : Nat} : (Ent.one (.arr 165 2 rows4 4)).below n := (SB.bB_ok rfl : SB.below n (.arr 165 2 rows4 4))
def rowsT (W H : Nat) (bits : List UInt8) (r : Nat) : List UInt8 := ((List.range r).map (zi7 W H bits)).flatten
theorem zi4 (W H : Nat) (bits : List UInt8) (r : Nat) : rowsT W H bits (r + 1) = rowsT W H bits r ++ (List.range ((W + 1) / 2)).map (zd1 W H bits r) := by
 unfold rowsT
 rw [List.range_succ, List.map_append, List.flatten_append]; simp [zi7]
theorem zlt (W H : Nat) (bits : List UInt8) (r : Nat) : (rowsT W H bits r).length = r * ((W + 1) / 2) := by
 induction r with
 | zero => simp [rowsT]
 | succ r ih => rw [zi4, List.length_append, ih, Nat.succ_mul]; simp
theorem zmz (W H : Nat) (bits : List UInt8) (r c : Nat) : (List.range c).map (zd1 W H bits r) ++ [zd1 W H bits r c] = (List.range (c + 1)).map (zd1 W H bits r) := by
 rw [List.range_succ, List.map_append]; rfl
theorem hb_no {W H : Nat} {bits : List UInt8} {i k : Nat} (h : ¬ (i < H ∧ k < W)) : hb W H bits i k = false := by
 apply Classical.byContradiction; intro h2
 have h3 := hb_iff.1 (by simpa using h2)
 exact h ⟨h3.1, h3.2.1⟩
theorem zf7 {n : Nat} (h : n ≤ 32) : IntKind.i64.wrap ((IntKind.i64.wrap ((n : Int) + 1)).tdiv 2) = (((n + 1) / 2 : Nat) : Int) := by
 rw [show IntKind.i64.wrap ((n : Int) + 1) = (n : Int) + 1 from zai (by omega) (by omega), Int.tdiv_eq_ediv_of_nonneg (by omega), zai (by omega) (by omega)]
 omega
theorem zn8 {r x : Nat} (hr : r ≤ 32) (hx : x ≤ 1) : IntKind.i64.wrap (IntKind.i64.wrap (2 * (r : Int)) + (x : Int)) = ((2 * r + x : Nat) : Int) := by
 rw [show IntKind.i64.wrap (2 * (r : Int)) = 2 * (r : Int) from zai (by omega) (by omega), zai (by omega) (by omega)]
 omega
theorem zx7 {i k W : Nat} (hi : i ≤ 64) (hk : k ≤ 64) (hW : W ≤ 32) : IntKind.i64.wrap (IntKind.i64.wrap ((i : Int) * (W : Int)) + (k : Int)) = ((i * W + k : Nat) : Int) := by
 have h1 : i * W ≤ 64 * 32 := Nat.mul_le_mul hi hW
 have h2 : (i : Int) * (W : Int) = ((i * W : Nat) : Int) := (Int.natCast_mul i W).symm
 rw [h2, show IntKind.i64.wrap ((i * W : Nat) : Int) = ((i * W : Nat) : Int) from zai (by omega) (by omega), zai (by omega) (by omega)]
 omega
theorem zzl {i k W H : Nat} (hi : i < H) (hk : k < W) : i * W + k < W * H := by
 have h1 : (i + 1) * W ≤ H * W := Nat.mul_le_mul_right W hi
 rw [Nat.succ_mul, Nat.mul_comm H W] at h1
 omega
def rawE (W H : Nat) (bits : List UInt8) : Ent := .one (.cells 57 (rvS ⟨false, [], (W : Nat), (H : Nat), bits⟩ .nilsl))
theorem zcc {n W H : Nat} {bits : List UInt8} : (rawE W H bits).below n := (SB.bB_ok rfl : SB.below n (.cells 57 (rvS ⟨false, [], (W : Nat), (H : Nat), bits⟩ .nilsl)))
theorem zn1 {F F1 : Fz} {v r : RVal} {h : Hp} {nx : Nat} (hr : halRV v = r) (h0 : lget h 0 = some (.frz F)) :
  Cln 1 (FoK F fun o F' => o = .ret (.agg (rvS (halRV v) .nilsl)) ∧ F' = F) (.ret (.agg (rvS r .nilsl))) h nx := by
 subst hr
 exact endPu h0 (Fz.le_refl F) (zar _) rfl
set_option maxHeartbeats 8000000 in
theorem zpa (F : Fz) (W H : Nat) (hW : W ≤ 32) (hH : H ≤ 32) :
  Fo Tryz.prog F 83 [.agg (rvS ⟨false, [], (W : Nat), (H : Nat), []⟩ .nilsl)] (fun o F' => o = .ret (.agg (rvS (halRV ⟨false, [], (W : Nat), (H : Nat), []⟩) .nilsl)) ∧ F' = F) := by
 have hw := zf7 hW
 have hh := zf7 hH
 have hr : halRV ⟨false, [], (W : Nat), (H : Nat), []⟩ = ⟨false, [], IntKind.i64.wrap ((IntKind.i64.wrap ((W : Int) + 1)).tdiv 2), IntKind.i64.wrap ((IntKind.i64.wrap ((H : Int) + 1)).tdiv 2), []⟩ := by
  rw [hw, hh]
  show RVal.mk false [] (((W : Nat) + 1 : Int) / 2) (((H : Nat) + 1 : Int) / 2) [] = _
  congr 1
 clear hw hh
 refine fo_of hΘ Tryz.func83 rfl (by decide) _ _ rfl rfl rfl ?_;conv=>whnf
 refine ⟨by decide, ?_⟩;conv=>whnf
 refine ⟨by decide, ?_⟩;conv=>whnf
 refine zb2 hΘ 0 ?_;conv=>whnf
 refine ⟨fun _ => ?_, fun _ => ?_⟩
 ·conv=>whnf
  refine br (fun g => absurd g (by show ¬ (!([] : List UInt8) == []) = true; decide)) (fun _ => ?_);conv=>whnf
  exact zn1 (F1 := F) hr rfl
 ·conv=>whnf
  exact zn1 (F1 := F) hr rfl
set_option maxHeartbeats 16000000 in
theorem zox (F : Fz) (W H : Nat) (bits : List UInt8) (hW : W ≤ 32) (hH : H ≤ 32) (hne : bits ≠ []) (hlen : bits.length = W * H) :
  Fo Tryz.prog F 83 [.agg (rvS ⟨false, [], (W : Nat), (H : Nat), bits⟩ .nilsl)] (fun o F' => o = .ret (.agg (rvS (halRV ⟨false, [], (W : Nat), (H : Nat), bits⟩) .nilsl)) ∧ F' = F) := by
 have hw := zf7 hW
 have hh := zf7 hH
 obtain ⟨w, hwd⟩ : ∃ w, (W + 1) / 2 = w := ⟨_, rfl⟩
 obtain ⟨h', hhd⟩ : ∃ h, (H + 1) / 2 = h := ⟨_, rfl⟩
 have hw16 : w ≤ 16 := by omega
 have hh16 : h' ≤ 16 := by omega
 rw [hwd] at hw
 rw [hhd] at hh
 have hr : ∀ t, t = rowsT W H bits h' → halRV ⟨false, [], (W : Nat), (H : Nat), bits⟩ = ⟨false, [], IntKind.i64.wrap ((IntKind.i64.wrap ((W : Int) + 1)).tdiv 2), IntKind.i64.wrap ((IntKind.i64.wrap ((H : Int) + 1)).tdiv 2), t⟩ := fun t ht => by
  rw [hw, hh, ht]
  show RVal.mk false [] (((W : Nat) + 1 : Int) / 2) (((H : Nat) + 1 : Int) / 2) (if bits = [] then [] else zfr W H bits) = _
  rw [if_neg hne]
  unfold zfr rowsT
  rw [hhd]
  congr 1 <;> omega
 refine fo_of hΘ Tryz.func83 rfl (by decide) _ _ rfl rfl rfl ?_;conv=>whnf
 refine ⟨by decide, ?_⟩;conv=>whnf
 refine ⟨by decide, ?_⟩;conv=>whnf
 refine zau hΘ (X := { y : Nat × List UInt8 × Nat // y.1 ≤ h' ∧ y.2.1 = rowsT W H bits y.1 }) (fun y => [(5, .va (gA 1 3 y.1.2.2 y.1.2.1)), (6, .va (.int .i64 y.1.1))]) [7, 8, 10, 11, 12, 21, 22, 23, 24, 25, 26, 27, 28, 29, 30, 31, 32, 33, 34, 35, 36, 37, 38, 39, 40, 41, 42, 43, 44, 45, 46, 47, 48, 49, 50, 51, 52, 53, 54, 55, 56, 57, 58, 59, 60, 61, 62, 63, 64, 65, 66, 67, 68, 69, 70, 71, 72, 73, 74, 75, 76, 77, 78, 79, 80, 81, 82]
  (fun y => [(0, .frz F), (1, rawE W H bits), (2, rvalE ⟨false, [], 0, 0, []⟩ 0 0), (3, gE 5 1 encB y.1.2.2 y.1.2.1)]) 4 (fun y => h' - y.1.1) ⟨(0, [], 0), by simp [rowsT]⟩
  (fun hH hT => leI [(3, 3)] hH hT rfl ⟨trivial, zcc, zab (by omega) _, zac zae _ _ _ _ _, trivial⟩ ⟨rfl, rfl, trivial⟩ ⟨Fz.le_refl F, rfl, rfl, rfl, trivial⟩) ?_
 rintro ⟨⟨r, o, co⟩, hr', ho⟩ hHh hT
 replace hr' : r ≤ h' := hr'
 replace ho : o = rowsT W H bits r := ho
 have hol := zlt W H bits r
 rw [hwd, ← ho] at hol
 have hol2 : r * w ≤ 16 * 16 := Nat.mul_le_mul (by omega) hw16
 by_cases gr : r < h'
 ·have hlt : (r : Int) < IntKind.i64.wrap ((IntKind.i64.wrap ((H : Int) + 1)).tdiv 2) := by rw [hh]; omega
  have hr1 : r + 1 ≤ h' := gr
  have hdec : h' - (r + 1) < h' - r := by omega
  have hr62 : r < 4611686018427387904 := by omega
  have hdoor : o = rowsT W H bits r ++ (List.range 0).map (zd1 W H bits r) := by rw [ho]; simp
  have hnd : (!(bits == [])) = true := by simpa using hne
  conv=>whnf
  refine ⟨fun _ => ?_, fun g => absurd hlt (of_decide_eq_false g)⟩;conv=>whnf
  refine br (fun _ => ?_) (fun g => absurd hnd (by rw [g]; simp));conv=>whnf
  clear hnd hol ho hlt hr
  refine zau hΘ (X := { y : Nat × List UInt8 × Nat // y.1 ≤ w ∧ y.2.1 = rowsT W H bits r ++ (List.range y.1).map (zd1 W H bits r) }) (fun y => [(5, .va (gA 1 4 y.1.2.2 y.1.2.1)), (7, .va (.int .i64 y.1.1))]) [8, 10, 11, 12, 31, 32, 33, 34, 35, 36, 37, 38, 39, 40, 41, 42, 43, 44, 45, 46, 47, 48, 49, 50, 51, 52, 53, 54, 55, 56, 57, 58, 59, 60, 61, 62, 63, 64, 65, 66, 67, 68, 69, 70, 71, 72, 73, 74, 75, 76, 77, 78, 79, 80, 81, 82]
   (fun y => [(0, .frz F), (1, rawE W H bits), (2, rvalE ⟨false, [], 0, 0, []⟩ 0 0), (3, .gone), (4, gE 5 1 encB y.1.2.2 y.1.2.1)]) 5 (fun y => w - y.1.1) ⟨(0, o, co), ⟨Nat.zero_le _, hdoor⟩⟩
   (fun hH hT => by
    rcases o with _ | ⟨o0, or'⟩
    ·exact leI [(4, 3)] hH hT rfl ⟨trivial, zcc, zab (by omega) _, trivial, zac zae _ _ _ _ _, trivial⟩ ⟨rfl, rfl, trivial⟩ ⟨Fz.le_refl F, rfl, rfl, zam zae (zao _ _ _ _), trivial⟩
    ·exact leI [(4, 3)] hH hT rfl ⟨trivial, zcc, zab (by omega) _, trivial, zac zae _ _ _ _ _, trivial⟩ ⟨⟨rfl, rfl, rfl, .inr ⟨rfl, rfl, rfl, rfl⟩⟩, rfl, trivial⟩ ⟨Fz.le_refl F, rfl, rfl, zam zae (zao _ _ _ _), trivial⟩) ?_
  rintro ⟨⟨c, q, cq⟩, hc, hq⟩ hH1 hT1
  replace hc : c ≤ w := hc
  replace hq : q = rowsT W H bits r ++ (List.range c).map (zd1 W H bits r) := hq
  by_cases gc : c < w
  ·have hlc : (c : Int) < IntKind.i64.wrap ((IntKind.i64.wrap ((W : Int) + 1)).tdiv 2) := by rw [hw]; omega
   conv=>whnf
   refine br (fun _ => ?_) (fun g => absurd hlc (of_decide_eq_false g));conv=>whnf
   have hc1 : c + 1 ≤ w := gc
   have hdec1 : w - (c + 1) < w - c := by omega
   have hc62 : c < 4611686018427387904 := by omega
   have hql : q.length ≤ 272 := by
    rw [hq, List.length_append, zlt, List.length_map, List.length_range, hwd]
    omega
   have hqn : q ++ [zd1 W H bits r c] = rowsT W H bits r ++ (List.range (c + 1)).map (zd1 W H bits r) := by
    rw [hq, List.append_assoc, zmz]
   refine zau hΘ (X := { i : Nat // i ≤ 4 }) (fun i => [(8, .va (.int .u8 (bitT W H bits r c i.1).toNat)), (42, .va (.int .i64 i.1))]) [10, 11, 12, 43, 44, 45, 46, 47, 48, 49, 50, 51, 52, 53, 54, 55, 56, 57, 58, 59, 60, 61, 62, 63, 64, 65, 66, 67, 68, 69, 70, 71, 72, 73, 74, 75, 76, 77, 78]
    (fun _ => [(0, .frz F), (1, rawE W H bits), (2, rvalE ⟨false, [], 0, 0, []⟩ 0 0), (4, gE 5 1 encB cq q), (5, .one (.arr 165 2 rows4 4))]) 6 (fun i => 4 - i.1) ⟨0, Nat.zero_le _⟩
    (fun hH hT => leI [] hH hT rfl ⟨trivial, zcc, zab (by omega) _, zac zae _ _ _ _ _, zea, trivial⟩ ⟨rfl, rfl, trivial⟩ ⟨Fz.le_refl F, rfl, rfl, zam zae (zao _ _ _ _), rfl, trivial⟩) ?_
   rintro ⟨i, hi⟩ hH2 hT2
   replace hi : i ≤ 4 := hi
   by_cases gi : i < 4
   ·have hli : (i : Int) < 4 := by omega
    have hin : 0 ≤ (i : Int) ∧ (i : Int) < 4 := by omega
    have hel := ztd gi
    have hi1 : i + 1 ≤ 4 := gi
    have hdec2 : 4 - (i + 1) < 4 - i := by omega
    have hi62 : i < 4611686018427387904 := by omega
    have hxx : ∃ x y, i / 2 = x ∧ i % 2 = y := ⟨_, _, rfl, rfl⟩
    obtain ⟨x0, x1, hx0, hx1⟩ := hxx
    have hx01 : x0 ≤ 1 ∧ x1 ≤ 1 := by omega
    rw [hx0, hx1] at hel
    have ei := zn8 (r := r) (x := x0) (by omega) hx01.1
    have ek := zn8 (r := c) (x := x1) (by omega) hx01.2
    have hstep : bitT W H bits r c (i + 1) = if hb W H bits (2 * r + x0) (2 * c + x1) = true then 49 else bitT W H bits r c i := by
     rw [← hx0, ← hx1]; rfl
    conv=>whnf
    refine br (fun _ => ?_) (fun g => absurd hli (of_decide_eq_false g));conv=>whnf
    refine ⟨rfl, hin, ?_⟩;conv=>whnf
    refine ⟨_, hel, ?_⟩;conv=>whnf
    refine ⟨⟨by decide, by decide⟩, ?_⟩;conv=>whnf
    refine ⟨⟨by decide, by decide⟩, ?_⟩;conv=>whnf
    by_cases gA' : 2 * r + x0 < H
    ·have hA : IntKind.i64.wrap (IntKind.i64.wrap (2 * (r : Int)) + (x0 : Int)) < (H : Int) := by rw [ei]; omega
     by_cases gB : 2 * c + x1 < W
     ·have hB : IntKind.i64.wrap (IntKind.i64.wrap (2 * (c : Int)) + (x1 : Int)) < (W : Int) := by rw [ek]; omega
      have hat := zx7 (i := 2 * r + x0) (k := 2 * c + x1) (W := W) (by omega) (by omega) hW
      rw [← ei, ← ek] at hat
      have hlt := zzl gA' gB
      have hge0 : 0 ≤ IntKind.i64.wrap (IntKind.i64.wrap (IntKind.i64.wrap (IntKind.i64.wrap (2 * (r : Int)) + (x0 : Int)) * (W : Int)) + IntKind.i64.wrap (IntKind.i64.wrap (2 * (c : Int)) + (x1 : Int))) := by rw [hat]; omega
      have hbx : ∃ b, bits[(2 * r + x0) * W + (2 * c + x1)]? = some b := ⟨_, List.getElem?_eq_getElem (by rw [hlen]; exact hlt)⟩
      obtain ⟨bb, hbb⟩ := hbx
      have hget : bits[(IntKind.i64.wrap (IntKind.i64.wrap (IntKind.i64.wrap (IntKind.i64.wrap (2 * (r : Int)) + (x0 : Int)) * (W : Int)) + IntKind.i64.wrap (IntKind.i64.wrap (2 * (c : Int)) + (x1 : Int)))).toNat]? = some bb := by rw [hat, Int.toNat_natCast]; exact hbb
      refine ⟨fun _ => ?_, fun g => absurd hA (of_decide_eq_false g)⟩;conv=>whnf
      refine ⟨fun _ => ?_, fun g => absurd hB (of_decide_eq_false g)⟩;conv=>whnf
      refine ⟨hge0, bb, hget, ?_⟩;conv=>whnf
      by_cases h49 : (bb.toNat : Int) = 49
      ·have hbt : hb W H bits (2 * r + x0) (2 * c + x1) = true := hb_iff.2 ⟨gA', gB, by rw [hbb, u8_eq (by decide) h49]; rfl⟩
       rw [if_pos hbt] at hstep
       refine br (fun _ => ?_) (fun g => absurd h49 (of_decide_eq_false g));conv=>whnf
       exact ⟨⟨i + 1, hi1⟩, hdec2, leR [] hH2 hT2 rfl ⟨trivial, zcc, zab (by omega) _, zac zae _ _ _ _ _, zea, trivial⟩ ⟨congrArg (fun b : UInt8 => SA.int .u8 (b.toNat : Int)) hstep, cnt hi62, trivial⟩ ⟨Fz.le_refl F, rfl, rfl, zam zae (zao _ _ _ _), rfl, trivial⟩⟩
      ·have hbt : ¬ hb W H bits (2 * r + x0) (2 * c + x1) = true := fun h => by
        have h2 := (hb_iff.1 h).2.2
        rw [hbb] at h2
        apply h49
        rw [Option.some.inj h2]; rfl
       rw [if_neg hbt] at hstep
       refine br (fun g => absurd (of_decide_eq_true g) h49) (fun _ => ?_);conv=>whnf
       exact ⟨⟨i + 1, hi1⟩, hdec2, leR [] hH2 hT2 rfl ⟨trivial, zcc, zab (by omega) _, zac zae _ _ _ _ _, zea, trivial⟩ ⟨congrArg (fun b : UInt8 => SA.int .u8 (b.toNat : Int)) hstep, cnt hi62, trivial⟩ ⟨Fz.le_refl F, rfl, rfl, zam zae (zao _ _ _ _), rfl, trivial⟩⟩
     ·have hB : ¬ IntKind.i64.wrap (IntKind.i64.wrap (2 * (c : Int)) + (x1 : Int)) < (W : Int) := by rw [ek]; omega
      have hbt : ¬ hb W H bits (2 * r + x0) (2 * c + x1) = true := by rw [hb_no (fun h => gB h.2)]; simp
      rw [if_neg hbt] at hstep
      refine ⟨fun _ => ?_, fun g => absurd hA (of_decide_eq_false g)⟩;conv=>whnf
      refine ⟨fun g => absurd (of_decide_eq_true g) hB, fun _ => ?_⟩;conv=>whnf
      exact ⟨⟨i + 1, hi1⟩, hdec2, leR [] hH2 hT2 rfl ⟨trivial, zcc, zab (by omega) _, zac zae _ _ _ _ _, zea, trivial⟩ ⟨congrArg (fun b : UInt8 => SA.int .u8 (b.toNat : Int)) hstep, cnt hi62, trivial⟩ ⟨Fz.le_refl F, rfl, rfl, zam zae (zao _ _ _ _), rfl, trivial⟩⟩
    ·have hA : ¬ IntKind.i64.wrap (IntKind.i64.wrap (2 * (r : Int)) + (x0 : Int)) < (H : Int) := by rw [ei]; omega
     have hbt : ¬ hb W H bits (2 * r + x0) (2 * c + x1) = true := by rw [hb_no (fun h => gA' h.1)]; simp
     rw [if_neg hbt] at hstep
     refine ⟨fun g => absurd (of_decide_eq_true g) hA, fun _ => ?_⟩;conv=>whnf
     exact ⟨⟨i + 1, hi1⟩, hdec2, leR [] hH2 hT2 rfl ⟨trivial, zcc, zab (by omega) _, zac zae _ _ _ _ _, zea, trivial⟩ ⟨congrArg (fun b : UInt8 => SA.int .u8 (b.toNat : Int)) hstep, cnt hi62, trivial⟩ ⟨Fz.le_refl F, rfl, rfl, zam zae (zao _ _ _ _), rfl, trivial⟩⟩
   ·have hge2 : ¬ (i : Int) < 4 := by omega
    have hi4 : i = 4 := by omega
    subst hi4
    rw [← bitT4] at hqn
    rcases q with _ | ⟨q0, qr⟩
    ·conv=>whnf
     refine br (fun g => absurd (of_decide_eq_true g) hge2) (fun _ => ?_);conv=>whnf
     refine ⟨Nat.le_of_ble_eq_true rfl, [encB (bitT W H bits r c 4)], rfl, ?_⟩;conv=>whnf
     refine ⟨rfl, rfl, ?_⟩;conv=>whnf
     refine ⟨by show 1 * 1 ≤ 140737488355328; omega, fun c' hc' => ?_⟩;conv=>whnf
     exact ⟨⟨(c + 1, [] ++ [bitT W H bits r c 4], c'), hc1, hqn⟩, hdec1, leRn [_, _, _] [_, _] [(4, 7)] hH1 hT1 rfl ⟨trivial, zcc, zab (by omega) _, trivial, zac zae _ _ _ _ _, trivial⟩ ⟨zdt (μ := sig [(4, 7)]) (i := 4) (j := 7) rfl 1 c' _ [] (bitT W H bits r c 4) rfl, cnt hc62, trivial⟩ ⟨Fz.le_refl F, rfl, rfl, zam zae (zbt _ (by simp)), trivial⟩⟩
    ·have hsz : (qr.length + 1 + 1) * 1 ≤ 140737488355328 := by
      have h9 : qr.length + 1 ≤ 272 := hql
      omega
     conv=>whnf
     refine br (fun g => absurd (of_decide_eq_true g) hge2) (fun _ => ?_);conv=>whnf
     refine ⟨Nat.le_of_ble_eq_true rfl, [encB (bitT W H bits r c 4)], rfl, ?_⟩;conv=>whnf
     refine ⟨rfl, rfl, by simp, rfl, hsz, fun c' hc' => ?_⟩;conv=>whnf
     exact ⟨⟨(c + 1, (q0 :: qr) ++ [bitT W H bits r c 4], c'), hc1, hqn⟩, hdec1, leRn [_, _, _] [_, _] [(4, 7)] hH1 hT1 rfl ⟨trivial, zcc, zab (by omega) _, trivial, zac zae _ _ _ _ _, trivial⟩ ⟨zdt (μ := sig [(4, 7)]) (i := 4) (j := 7) rfl 1 c' _ (q0 :: qr) (bitT W H bits r c 4) rfl, cnt hc62, trivial⟩ ⟨Fz.le_refl F, rfl, rfl, zam zae (zbt _ (by simp)), trivial⟩⟩
  ·have hgc : ¬ (c : Int) < IntKind.i64.wrap ((IntKind.i64.wrap ((W : Int) + 1)).tdiv 2) := by rw [hw]; omega
   have hcw : c = w := by omega
   have hrow : q = rowsT W H bits (r + 1) := by rw [zi4, hwd, ← hcw]; exact hq
   clear hq;conv=>whnf
   refine br (fun g => absurd (of_decide_eq_true g) hgc) (fun _ => ?_);conv=>whnf
   rcases q with _ | ⟨q0, qr⟩
   ·exact ⟨⟨(r + 1, [], cq), hr1, hrow⟩, hdec, leRn [_, _, _] [_, _] [(3, 4)] hHh hT rfl ⟨trivial, zcc, zab (by omega) _, zac zae _ _ _ _ _, trivial⟩ ⟨rfl, cnt hr62, trivial⟩ ⟨Fz.le_refl F, rfl, rfl, zam zae (zao _ _ _ _), trivial⟩⟩
   ·exact ⟨⟨(r + 1, q0 :: qr, cq), hr1, hrow⟩, hdec, leRn [_, _, _] [_, _] [(3, 4)] hHh hT rfl ⟨trivial, zcc, zab (by omega) _, zac zae _ _ _ _ _, trivial⟩ ⟨⟨rfl, rfl, rfl, .inr ⟨rfl, rfl, rfl, rfl⟩⟩, cnt hr62, trivial⟩ ⟨Fz.le_refl F, rfl, rfl, zam zae (zao _ _ _ _), trivial⟩⟩
 ·have hge : ¬ (r : Int) < IntKind.i64.wrap ((IntKind.i64.wrap ((H : Int) + 1)).tdiv 2) := by rw [hh]; omega
  have hrh : r = h' := by omega
  rw [hrh] at ho
  have hfin := hr o ho
  rcases o with _ | ⟨o0, or'⟩
  ·conv=>whnf
   refine ⟨fun g => absurd (of_decide_eq_true g) hge, fun _ => ?_⟩;conv=>whnf
   exact zn1 (F1 := F) hfin rfl
  ·have hconv : (((o0 :: or').map encB).drop 0).take (or'.length + 1) = (o0 :: or').map encB := by rw [List.drop_zero, List.take_of_length_le (by simp)]
   have hcv2 : 0 + (or'.length + 1) ≤ ((o0 :: or').map encB).length := by simp
   conv=>whnf
   refine ⟨fun g => absurd (of_decide_eq_true g) hge, fun _ => ?_⟩;conv=>whnf
   refine ⟨rfl, ?_⟩;conv=>whnf
   refine ⟨hcv2, (o0 :: or').map encB, hconv, o0 :: or', rfl, ?_⟩;conv=>whnf
   exact zn1 (F1 := F) hfin rfl
end Go.Proofs.YtblllibdahkgfaaGreatDoor

namespace Go.Proofs.YtblllibdahkgfaaGreatDoor
open Go Sx
set_option maxRecDepth 100000
theorem Its.nil_of {F : Fz} {a : SA} (h : Its F a []) : a = .nilsl := by
 rcases h with h | ⟨h, _⟩
 ·exact h.2
 ·exact absurd rfl h
set_option maxHeartbeats 8000000 in
theorem zq6 (F : Fz) (p nn : Int) (v : RVal) (a : SA) (hp : p = 6 ∨ p = 7) (hv : ROK p v) (hl : v.lost = false) (ha : Its F a v.lines) :
  Fo Tryz.prog F 54 [.va (.int .i64 p), .agg (enc (5, nn)), .agg (rvS v a)] (zem (5, nn) v) := by
 obtain ⟨h1, h2, h3, h4⟩ := zer hv.1 hl hp
 obtain ⟨lost, lines, w, h, bits⟩ := v
 replace hl : lost = false := hl
 subst hl
 have hln : lines = [] := by
  have h5 : lines.map (ofR p) = [] := h1
  simpa using h5
 subst hln
 have e := Its.nil_of ha
 subst e
 replace h2 : 0 ≤ w ∧ w ≤ 32 := h2
 replace h3 : min w 1 ≤ h ∧ h ≤ min w 1 * 32 := h3
 have hW : ∃ W : Nat, w = (W : Int) := ⟨w.toNat, (Int.toNat_of_nonneg h2.1).symm⟩
 obtain ⟨W, rfl⟩ := hW
 have hH : ∃ H : Nat, h = (H : Int) := ⟨h.toNat, (Int.toNat_of_nonneg (by omega)).symm⟩
 obtain ⟨H, rfl⟩ := hH
 have hW32 : W ≤ 32 := by omega
 have hH32 : H ≤ 32 := by omega
 have hal : Fo Tryz.prog F 83 [.agg (rvS ⟨false, [], (W : Nat), (H : Nat), bits⟩ .nilsl)] (fun o F' => o = .ret (.agg (rvS (halRV ⟨false, [], (W : Nat), (H : Nat), bits⟩) .nilsl)) ∧ F' = F) := by
  by_cases hb : bits = []
  ·subst hb
   exact zpa F W H hW32 hH32
  ·refine zox F W H bits hW32 hH32 hb ?_
   rcases hp with rfl | rfl
   ·rw [if_neg (by decide)] at h4
    exact absurd h4 hb
   ·rw [if_pos rfl] at h4
    have h5 : (bits.length : Int) = (W : Int) * (H : Int) := h4.1
    rw [← Int.natCast_mul] at h5
    exact Int.ofNat.inj h5
 have hS : stepR (5, nn) ⟨false, [], (W : Nat), (H : Nat), bits⟩ = halRV ⟨false, [], (W : Nat), (H : Nat), bits⟩ := by
  unfold stepR
  rw [if_neg (by rintro (h | h); cases h; exact absurd h (by show ¬ (5 : Int) = 6; decide)), if_pos rfl]
 have hz : halRV ⟨false, [], (W : Nat), (H : Nat), bits⟩ = ⟨false, [], ((W : Int) + 1) / 2, ((H : Int) + 1) / 2, if bits = [] then [] else zfr W H bits⟩ := rfl
 have hx : ∃ w h b, halRV ⟨false, [], (W : Nat), (H : Nat), bits⟩ = ⟨false, [], w, h, b⟩ := ⟨_, _, _, hz⟩
 obtain ⟨w', h', b', hx⟩ := hx
 rw [hx] at hal hS
 clear hx hz h1 h2 h3 h4 ha hv
 refine fo_of hΘ Tryz.func54 rfl (by decide) _ _ rfl rfl rfl ?_;conv=>whnf
 refine br (fun g => absurd (of_decide_eq_true g) (show ¬ (5 : Int) = 6 by decide)) (fun _ => ?_);conv=>whnf
 refine br (fun _ => ?_) (fun g => absurd (show (5 : Int) = 5 from rfl) (of_decide_eq_false g));conv=>whnf
 refine usePu hal rfl (zaf _) rfl ?_;conv=>whnf
 exact zdc hS rfl rfl (Fz.le_refl F)
theorem zth (F : Fz) (p : Int) (x : Stp) (v : RVal) (a : SA) (hp : 1 ≤ p ∧ p ≤ 8) (hok : zbn p x = true) (hv : ROK p v) (ha : Its F a v.lines) :
  Fo Tryz.prog F 54 [.va (.int .i64 p), .agg (enc x), .agg (rvS v a)] (zem x v) := by
 by_cases hl : v.lost = true
 ·obtain ⟨lost, lines, w, h, bits⟩ := v
  replace hl : lost = true := hl
  subst hl
  exact zl4 F p x w h bits lines a
 have hlf : v.lost = false := by simpa using hl
 obtain ⟨k, n⟩ := x
 have h5 : k ≠ 5 → k ≠ 6 → 1 ≤ p ∧ p ≤ 5 := fun h1 h2 => by
  rcases zb0 hp hok with ⟨_, h, _⟩ | ⟨_, h, _⟩ | ⟨_, h, _⟩ | ⟨_, h, _⟩ | ⟨h, _⟩ | ⟨h, _⟩
  ·omega
  ·omega
  ·omega
  ·omega
  ·exact absurd h h1
  ·exact absurd h h2
 by_cases hk : k = 5 ∨ k = 6
 ·rcases hk with rfl | rfl
  ·have hp67 : p = 6 ∨ p = 7 := by
    rcases zb0 hp hok with ⟨h, _⟩ | ⟨h, _⟩ | ⟨h, _⟩ | ⟨h, _⟩ | ⟨_, h, _⟩ | ⟨h, _⟩
    ·exact absurd h (by decide)
    ·exact absurd h (by decide)
    ·exact absurd h (by decide)
    ·exact absurd h (by decide)
    ·exact h
    ·exact absurd h (by decide)
   exact zq6 F p n v a hp67 hv hlf ha
  ·obtain ⟨lost, lines, w, h, bits⟩ := v
   replace hlf : lost = false := hlf
   subst hlf
   exact zrc F p n w h bits lines a
 have hp5 := h5 (fun h => hk (.inl h)) (fun h => hk (.inr h))
 obtain ⟨l1, l2, l3⟩ := zk0 hp5 hv hlf
 obtain ⟨lost, lines, w, h, bits⟩ := v
 replace hlf : lost = false := hlf
 subst hlf
 replace l1 : lines.length ≤ 64 := l1
 rcases ha with ⟨h1, h2⟩ | ⟨_, b, e, c, X, room, h1, h2, h3⟩
 ·have h1' : lines = [] := h1
  subst h1' h2
  rcases zb0 hp hok with ⟨rfl, _, _⟩ | ⟨rfl, _, _⟩ | ⟨rfl, _, _⟩ | ⟨rfl, _, _⟩ | ⟨h, _⟩ | ⟨h, _⟩
  ·exact zov F p n w h bits
  ·exact zpd F p n w h bits
  ·exact zpb F p n w h bits
  ·exact zo8 F p n w h bits
  ·exact absurd (.inl h) hk
  ·exact absurd (.inr h) hk
 ·subst h1
  rcases zb0 hp hok with ⟨rfl, _, _⟩ | ⟨rfl, _, _⟩ | ⟨rfl, h35, hn⟩ | ⟨rfl, _, _⟩ | ⟨h, _⟩ | ⟨h, _⟩
  ·exact zpc F p n lines w h bits b e c X room trivial h2 h3 l1 (fun y hy => ⟨l2 y hy, fun h => absurd h (by decide)⟩)
  ·exact zpr F p n lines w h bits b e c X room trivial h2 h3 l1 (fun y hy => ⟨l2 y hy, fun h => absurd h (by decide)⟩)
  ·exact zpi F p n lines w h bits b e c X room hn h2 h3 l1 (fun y hy => ⟨l2 y hy, fun _ => l3 h35 y hy⟩)
  ·exact zpt F p n lines w h bits b e c X room trivial h2 h3 l1 (fun y hy => ⟨l2 y hy, fun h => absurd h (by decide)⟩)
  ·exact absurd (.inl h) hk
  ·exact absurd (.inr h) hk
end Go.Proofs.YtblllibdahkgfaaGreatDoor

namespace Go.Proofs.YtblllibdahkgfaaGreatDoor
open Go Sx
set_option maxRecDepth 100000
theorem zqr {p : Int} {v : RVal} (hp : 1 ≤ p ∧ p ≤ 8) (h : ROK p v) : v.lines.length ≤ 1000 ∧ (∀ x ∈ v.lines, x.1.length ≤ 1000000) ∧ v.bits.length ≤ 9000000000000000000 := by
 by_cases hl : v.lost = true
 ·have h1 := zo7 h hl
  have h2 := congrArg Val.bits (zj3 h.1 hl)
  have h3 : v.bits = [] := h2
  rw [h1, h3]
  exact ⟨Nat.zero_le _, fun x hx => by simp at hx, Nat.zero_le _⟩
 have hlf : v.lost = false := by simpa using hl
 by_cases h5 : p ≤ 5
 ·obtain ⟨a1, a2, _⟩ := zk0 ⟨hp.1, h5⟩ h hlf
  have h3 : v.bits = [] := (zdr h.1 hlf h5).2.2.1
  rw [h3]
  exact ⟨by omega, fun x hx => by have := a2 x hx; omega, Nat.zero_le _⟩
 ·have hln : ∀ {b : Prop}, (ofV p v).lines = [] ∧ b → v.lines = [] := fun hb => by
   have h6 : v.lines.map (ofR p) = [] := hb.1
   simpa using h6
  by_cases h8 : p = 8
  ·rcases h.1 with he | ⟨_, h9⟩
   ·have h7 : v.lost = true := congrArg Val.lost he
    exact absurd h7 hl
   ·rw [if_pos h8] at h9
    have h10 : v.bits = [] := h9.2.1
    rw [hln h9, h10]
    exact ⟨Nat.zero_le _, fun x hx => by simp at hx, Nat.zero_le _⟩
  ·have h67 : p = 6 ∨ p = 7 := by omega
   have h9 := zer h.1 hlf h67
   rw [hln h9]
   refine ⟨Nat.zero_le _, fun x hx => by simp at hx, ?_⟩
   obtain ⟨_, h2, h3, h4⟩ := h9
   replace h2 : 0 ≤ v.w ∧ v.w ≤ 32 := h2
   replace h3 : min v.w 1 ≤ v.h ∧ v.h ≤ min v.w 1 * 32 := h3
   rcases h67 with h6 | h7
   ·rw [if_neg (by omega)] at h4
    have h10 : v.bits = [] := h4
    rw [h10]; exact Nat.zero_le _
   ·rw [if_pos h7] at h4
    have h10 : (v.bits.length : Int) = v.w * v.h := h4.1
    have h11 : v.w * v.h ≤ 32 * 32 := Int.mul_le_mul h2.2 (by omega) (by omega) (by omega)
    omega
theorem zrp (l : List Stp) (x : Stp) (v : RVal) : runR (l ++ [x]) v = stepR x (runR l v) := by
 unfold runR; rw [List.foldl_append]; rfl
theorem zsp {l : List Stp} {k : Nat} {v v' : RVal} {x : Stp} (g : k < l.length) (hx : l[k] = x) (h : v' = runR (l.take k) v) : stepR x v' = runR (l.take (k + 1)) v := by
 rw [List.take_succ_eq_append_getElem g, zrp, hx, h]
def rvN (v : RVal) : Ent := .one (.cells 57 (rvS v .nilsl))
theorem zr3 {n : Nat} {v : RVal} : (rvN v).below n := by
 show ∀ a ∈ _, SA.below n a
 intro a ha
 simp only [List.mem_cons, List.not_mem_nil, or_false] at ha
 rcases ha with rfl | rfl | rfl | rfl | rfl <;> trivial
def rvA (v : RVal) : Option (Nat × Nat × Nat × Nat) → Ent
 | none => rvN v
 | some (b, e, n, c) => rvSE v b e n c
def itA : Option (Nat × Nat × Nat × Nat) → SA
 | none => .nilsl
 | some (b, e, n, c) => sl0 b e n c
theorem Its.it {F : Fz} {a : SA} {l : List RLn} (h : Its F a l) : ∃ t, a = itA t := by
 rcases h with ⟨_, h⟩ | ⟨_, b, e, c, _, _, h, _⟩
 ·exact ⟨none, h⟩
 ·exact ⟨some (b, e, l.length, c), h⟩
theorem zeo {n : Nat} {v : RVal} {t : Option (Nat × Nat × Nat × Nat)} (h : 0 < n := by omega) : (rvA v t).below n := by
 rcases t with _ | ⟨b, e, m, c⟩
 ·exact zr3
 ·exact za6 h
abbrev zkv (p : Int) (l : List Stp) (s : List UInt8) : Out → Fz → Prop := fun o _ => o = .ret (.tup [.va (.str (zfq p l s).1), .va (.int .i64 (zfq p l s).2)])
theorem zhd {F F1 : Fz} {p : Int} {l : List Stp} {s t : List UInt8} {e : Int} {h : Hp} {nx : Nat} (hr : zfq p l s = (t, e)) (h0 : lget h 0 = some (.frz F1)) (hle : Fz.le F F1) :
  Cln 1 (FoK F (zkv p l s)) (.ret (.tup [.va (.str t), .va (.int .i64 e)])) h nx :=
 endFo (.ret (.tup [.va (.str t), .va (.int .i64 e)])) F1 h0 hle (Fz.le_refl F1) (by rw [zkv, hr]) (zar _) rfl
set_option maxHeartbeats 16000000 in
theorem zr1 (F : Fz) (p : Int) (l : List Stp) (s : List UInt8) (sa : SA) (ha : zaz F sa l) (hl : l.length < 1000000) (hs : s.length ≤ 1000000000000000000) :
  Fo Tryz.prog F 27 [.va (.int .i64 p), .va sa, .va (.str s)] (zkv p l s) := by
 have hval := zqc F sa l p ha hl
 have hrd := zuf F p s hs
 obtain ⟨han, hab, hae, hac, haL, har, rfl, ha1, ha2, ha3, ha4⟩ := ha
 by_cases hv : zbl p l = true
 case neg =>
  have hvf : zbl p l = false := by simpa using hv
  have e : zfq p l s = ([], 70) := if_neg hv
  rw [hvf] at hval
  refine fo_of hΘ Tryz.func27 rfl (by decide) _ _ rfl rfl rfl ?_;conv=>whnf
  refine usePu hval rfl ⟨rfl, ⟨rfl, rfl, rfl, .inr ⟨rfl, rfl, rfl, rfl⟩⟩, trivial⟩ rfl ?_;conv=>whnf
  refine useFo hrd rfl ⟨rfl, rfl, trivial⟩ rfl ?_
  rintro _ F1 u1 ⟨v, a, b, rfl, hit, hr, -⟩;conv=>whnf
  refine ⟨fun g => absurd g (by decide), fun _ => ?_⟩;conv=>whnf
  exact zhd e rfl u1
 have hp := zwi hv
 have hok := znz hv
 rw [hv] at hval
 refine fo_of hΘ Tryz.func27 rfl (by decide) _ _ rfl rfl rfl ?_;conv=>whnf
 refine usePu hval rfl ⟨rfl, ⟨rfl, rfl, rfl, .inr ⟨rfl, rfl, rfl, rfl⟩⟩, trivial⟩ rfl ?_;conv=>whnf
 refine useFo hrd rfl ⟨rfl, rfl, trivial⟩ rfl ?_
 rintro _ F1 u1 ⟨v, a, b, rfl, hit, hr, -⟩
 rcases hr with ⟨rfl, hr⟩ | ⟨rfl, hr⟩
 case inr =>
  have e : zfq p l s = ([], 70) := by rw [zfq, if_pos hv, hr]
  conv=>whnf
  refine ⟨fun _ => ?_, fun g => absurd g (by decide)⟩;conv=>whnf
  refine br (fun _ => ?_) (fun g => absurd g (by decide));conv=>whnf
  exact zhd e rfl u1
 have eA : zfq p l s = (zat p (runR l v), 0) := by rw [zfq, if_pos hv, hr]
 have hv0 := (zs6 hr).2
 have hti := Its.it hit
 obtain ⟨t, rfl⟩ := hti
 conv=>whnf
 refine ⟨fun _ => ?_, fun g => absurd g (by decide)⟩;conv=>whnf
 refine br (fun g => absurd g (by decide)) (fun _ => ?_);conv=>whnf
 refine zau hΘ (X := { y : Nat × Fz × RVal × Option (Nat × Nat × Nat × Nat) // y.1 ≤ l.length ∧ Fz.le F1 y.2.1 ∧ y.2.2.1 = runR (l.take y.1) v ∧ Its y.2.1 (itA y.2.2.2) y.2.2.1.lines }) (fun y => [(11, .va (.int .i64 y.1.1))]) [27, 28, 29, 30, 31, 32, 33, 34, 35, 36, 37, 38, 39]
  (fun y => [(0, .frz y.1.2.1), (1, rvA y.1.2.2.1 y.1.2.2.2)]) 2 (fun y => l.length - y.1.1) ⟨(0, F1, v, t), ⟨Nat.zero_le _, Fz.le_refl F1, rfl, hit⟩⟩
  (fun hH hT => by
   rcases t with _ | ⟨b, e, n, c⟩
   ·exact leI [] hH hT rfl ⟨trivial, zeo, trivial⟩ ⟨rfl, trivial⟩ ⟨Fz.le_refl F1, rfl, trivial⟩
   ·exact leI [] hH hT rfl ⟨trivial, zeo, trivial⟩ ⟨rfl, trivial⟩ ⟨Fz.le_refl F1, rfl, trivial⟩) ?_
 rintro ⟨⟨k, F2, v2, t2⟩, hk, u2, hv2, hit2⟩ hH hT
 replace hk : k ≤ l.length := hk
 replace u2 : Fz.le F1 F2 := u2
 replace hv2 : v2 = runR (l.take k) v := hv2
 replace hit2 : Its F2 (itA t2) v2.lines := hit2
 have hR2 : ROK p v2 := by rw [hv2]; exact zsy hp _ v (fun x hx => hok x (List.mem_of_mem_take hx)) hv0
 by_cases gk : k < l.length
 ·have hlt : (k : Int) < (l.length : Nat) := by omega
  have hidx : 0 ≤ (k : Int) := by omega
  have hF2 := fun h : han = false => u2 _ _ (u1 _ _ (ha2 h))
  have hex : ∃ x, l[k] = x := ⟨_, rfl⟩
  obtain ⟨x, hx⟩ := hex
  have hat : haL[hae + (k : Int).toNat]? = some (enc x) := by rw [← hx]; exact Sl.at ha4 gk
  have hokx := hok l[k] (List.getElem_mem gk)
  rw [hx] at hokx
  have hst := zth F2 p x v2 (itA t2) hp hokx hR2 hit2
  have hk1 : k + 1 ≤ l.length := gk
  have hdec : l.length - (k + 1) < l.length - k := by omega
  have hk62 : k < 4611686018427387904 := by omega
  have hvn := zsp gk hx hv2
  rcases t2 with _ | ⟨b, e, n, c⟩
  ·conv=>whnf
   refine br (fun _ => ?_) (fun g => absurd hlt (of_decide_eq_false g));conv=>whnf
   refine drawP hΘ mixed (.look 0 (.look 1 (.look 2 (.look 3 (.look 4 (.look 5 (.alt 6 (.last 7 .done) .nil))))))) [1] (by kernel_rfl) ?_;conv=>whnf
   refine ⟨Sl.lt ha1 gk, ⟨hidx, hlt⟩, ?_⟩;conv=>whnf
   refine ⟨rfl, ?_⟩;conv=>whnf
   refine ⟨_, hF2 (Sl.lt ha1 gk), ?_⟩;conv=>whnf
   refine ⟨_, hat, ?_⟩;conv=>whnf
   refine ⟨rfl, ?_⟩;conv=>whnf
   refine useFo hst rfl ⟨rfl, rfl, rfl, trivial⟩ rfl ?_
   rintro _ F3 u3 ⟨a', rfl, hit3⟩
   have hti3 := Its.it hit3
   obtain ⟨t3, rfl⟩ := hti3
   refine ⟨u3, rfl, ?_⟩
   rcases t3 with _ | ⟨b3, e3, n3, c3⟩
   ·conv=>whnf
    exact ⟨⟨(k + 1, F3, stepR x v2, none), hk1, Fz.le_trans u2 u3, hvn, hit3⟩, hdec, leR [] hH hT rfl ⟨trivial, zeo, trivial⟩ ⟨cnt hk62, trivial⟩ ⟨Fz.le_refl F3, rfl, trivial⟩⟩
   ·conv=>whnf
    exact ⟨⟨(k + 1, F3, stepR x v2, some (b3, e3, n3, c3)), hk1, Fz.le_trans u2 u3, hvn, hit3⟩, hdec, leR [] hH hT rfl ⟨trivial, zeo, trivial⟩ ⟨cnt hk62, trivial⟩ ⟨Fz.le_refl F3, rfl, trivial⟩⟩
  ·conv=>whnf
   refine br (fun _ => ?_) (fun g => absurd hlt (of_decide_eq_false g));conv=>whnf
   refine drawP hΘ mixed (.look 0 (.look 1 (.look 2 (.look 3 (.look 4 (.look 5 (.alt 6 (.last 7 .done) .nil))))))) [1] (by kernel_rfl) ?_;conv=>whnf
   refine ⟨Sl.lt ha1 gk, ⟨hidx, hlt⟩, ?_⟩;conv=>whnf
   refine ⟨rfl, ?_⟩;conv=>whnf
   refine ⟨_, hF2 (Sl.lt ha1 gk), ?_⟩;conv=>whnf
   refine ⟨_, hat, ?_⟩;conv=>whnf
   refine ⟨rfl, ?_⟩;conv=>whnf
   refine useFo hst rfl ⟨rfl, rfl, rfl, trivial⟩ rfl ?_
   rintro _ F3 u3 ⟨a', rfl, hit3⟩
   have hti3 := Its.it hit3
   obtain ⟨t3, rfl⟩ := hti3
   refine ⟨u3, rfl, ?_⟩
   rcases t3 with _ | ⟨b3, e3, n3, c3⟩
   ·conv=>whnf
    exact ⟨⟨(k + 1, F3, stepR x v2, none), hk1, Fz.le_trans u2 u3, hvn, hit3⟩, hdec, leR [] hH hT rfl ⟨trivial, zeo, trivial⟩ ⟨cnt hk62, trivial⟩ ⟨Fz.le_refl F3, rfl, trivial⟩⟩
   ·conv=>whnf
    exact ⟨⟨(k + 1, F3, stepR x v2, some (b3, e3, n3, c3)), hk1, Fz.le_trans u2 u3, hvn, hit3⟩, hdec, leR [] hH hT rfl ⟨trivial, zeo, trivial⟩ ⟨cnt hk62, trivial⟩ ⟨Fz.le_refl F3, rfl, trivial⟩⟩
 ·have hge : ¬ (k : Int) < (l.length : Nat) := by omega
  have hkl : k = l.length := by omega
  rw [hkl, List.take_of_length_le (Nat.le_refl _)] at hv2
  have hW := zqr hp hR2
  have hwf := wf_fn F2 p v2 (itA t2) hit2 hp hW.1 hW.2.1 hW.2.2
  rw [← hv2] at eA
  clear hW hit2 hR2
  rcases t2 with _ | ⟨b, e, n, c⟩
  ·conv=>whnf
   refine br (fun g => absurd (of_decide_eq_true g) hge) (fun _ => ?_);conv=>whnf
   refine usePu hwf rfl ⟨rfl, rfl, trivial⟩ rfl ?_;conv=>whnf
   exact zhd eA rfl (Fz.le_trans u1 u2)
  ·conv=>whnf
   refine br (fun g => absurd (of_decide_eq_true g) hge) (fun _ => ?_);conv=>whnf
   refine usePu hwf rfl ⟨rfl, rfl, trivial⟩ rfl ?_;conv=>whnf
   exact zhd eA rfl (Fz.le_trans u1 u2)
end Go.Proofs.YtblllibdahkgfaaGreatDoor
