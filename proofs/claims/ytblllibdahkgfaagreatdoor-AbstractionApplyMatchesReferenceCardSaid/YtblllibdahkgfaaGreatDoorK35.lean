import Derived.Test.YtblllibdahkgfaaGreatDoorK34
import Derived.Test.YtblllibdahkgfaaGreatDoorK32
import Derived.Test.YtblllibdahkgfaaGreatDoorK33

namespace Go.Proofs.YtblllibdahkgfaaGreatDoor
open Go Sx
set_option maxRecDepth 100000
abbrev zem (x : Stp) (v : RVal) : Out → Fz → Prop := fun o F' => ∃ a', o = .ret (.agg (rvS (stepR x v) a')) ∧ Its F' a' (stepR x v).lines
theorem zdc {F F1 : Fz} {x : Stp} {v r : RVal} {h : Hp} {nx : Nat} (hr : stepR x v = r) (hl : r.lines = []) (h0 : lget h 0 = some (.frz F1)) (hle : Fz.le F F1) :
  Cln 1 (FoK F (zem x v)) (.ret (.agg (rvS r .nilsl))) h nx := by
 subst hr
 exact endFo (.ret (.agg (rvS (stepR x v) .nilsl))) F1 h0 hle (Fz.le_refl F1) ⟨_, rfl, by rw [hl]; exact Its.nil⟩ (zar _) rfl
theorem zgc {α β : Type} {f : α → β} {l : List α} {k : Nat} {o : List β} {y : α} {z : β} (g : k < l.length) (hy : l[k] = y) (hz : f y = z) (h : o = (l.take k).map f) : o ++ [z] = (l.take (k + 1)).map f := by
 rw [List.take_succ_eq_append_getElem g, List.map_append, h, hy]; simp [hz]
theorem zco {μ : Mu} {i j c n : Nat} {L : List RLn} {x : RLn} {w h : Int} {bits : List UInt8} (hm : μ i 0 = (j, 0)) (hn : n = L.length + 1) : SB.cells 57 [.lit false, .slice false j 0 0 5 n c, .int .i64 w, .int .i64 h, .str bits] = SB.ren μ (.cells 57 [.lit false, gA 5 i c (L ++ [x]), .int .i64 w, .int .i64 h, .str bits]) := zch hm hn
def stpE (x : Stp) : Ent := .one (.cells 50 (enc x))
theorem zb6 {n : Nat} (x : Stp) : (stpE x).below n := (SB.bB_ok rfl : SB.below n (.cells 50 (enc x)))
theorem zvs {z n : Int} (hn : n = 10 ∨ n = 100 ∨ n = 1000) (hz : i64 z) : IntKind.i64.wrap (IntKind.i64.wrap (z.tdiv n) * n) = z.tdiv n * n := by
 have h1 : -9223372036854775808 ≤ z.tdiv n * n ∧ z.tdiv n * n ≤ 9223372036854775807 ∧ -9223372036854775808 ≤ z.tdiv n ∧ z.tdiv n ≤ 9223372036854775807 := by
  unfold i64 at hz
  by_cases h : 0 ≤ z
  ·rw [Int.tdiv_eq_ediv_of_nonneg h]
   rcases hn with rfl | rfl | rfl <;> omega
  ·have e : z.tdiv n = -((-z).tdiv n) := by rw [Int.neg_tdiv]; omega
   rw [e, Int.tdiv_eq_ediv_of_nonneg (by omega)]
   rcases hn with rfl | rfl | rfl <;> omega
 rw [zai h1.2.2.1 h1.2.2.2, zai h1.1 h1.2.1]
set_option maxHeartbeats 16000000 in
theorem zpc (F : Fz) (p nn : Int) (L : List RLn) (w h : Int) (bits : List UInt8) (b e c : Nat) (X : List (List SA)) (room : Nat) (hn : True) (hF : F b = some (.arr 88 5 X room)) (hXe : (X.drop e).take L.length = L.map encL) (hl : L.length ≤ 64) (hx : ∀ x ∈ L, x.1.length ≤ 80 ∧ ((1 : Int) = 3 → i64 x.2.2.2.1)) :
  Fo Tryz.prog F 54 [.va (.int .i64 p), .agg (enc (1, nn)), .agg (rvS ⟨false, L, w, h, bits⟩ (sl0 b e L.length c))] (zem (1, nn) ⟨false, L, w, h, bits⟩) := by
 have hS : stepR (1, nn) ⟨false, L, w, h, bits⟩ = ⟨false, L.map (zcq (1, nn)), 0, 0, []⟩ := rfl
 refine fo_of hΘ Tryz.func54 rfl (by decide) _ _ rfl rfl rfl ?_;conv=>whnf
 refine br (fun g => absurd (of_decide_eq_true g) (show ¬ (1 : Int) = 6 by decide)) (fun _ => ?_);conv=>whnf
 refine br (fun g => absurd (of_decide_eq_true g) (show ¬ (1 : Int) = 5 by decide)) (fun _ => ?_);conv=>whnf
 refine zau hΘ (X := { y : Nat × List RLn × Nat // y.1 ≤ L.length ∧ y.2.1 = (L.take y.1).map (zcq (1, nn)) }) (fun y => [(8, .va (.int .i64 y.1.1))]) [9, 24, 25, 26, 27, 28, 29, 30, 31, 32, 33, 34, 35, 36, 37, 38, 39, 40, 41, 42, 43, 44, 45, 46, 47, 48, 49, 50, 51, 52, 53, 54, 55, 56, 57, 58, 59, 60, 61, 62, 63, 64, 65, 66, 67, 68, 69, 70, 71, 72, 73, 74, 75, 76, 77, 78]
  (fun y => [(0, .frz F), (1, stpE (1, nn)), (2, rvSE ⟨false, L, w, h, bits⟩ b e L.length c), (3, rvalE ⟨false, [], 0, 0, []⟩ 0 0), (4, rvalE ⟨false, y.1.2.1, 0, 0, []⟩ 5 y.1.2.2), (5, gE 88 5 encL y.1.2.2 y.1.2.1)]) 6 (fun y => L.length - y.1.1) ⟨(0, [], 0), by simp⟩
  (fun hH hT => leI [(5, 5)] hH hT rfl ⟨trivial, zb6 _, za6, zab (by omega) _, zab (by omega) _, zac zaa _ _ _ _ _, trivial⟩ ⟨rfl, trivial⟩ ⟨Fz.le_refl F, rfl, rfl, rfl, rfl, rfl, trivial⟩) ?_
 rintro ⟨⟨k, o, co⟩, hk, ho⟩ hH hT
 replace hk : k ≤ L.length := hk
 replace ho : o = (L.take k).map (zcq (1, nn)) := ho
 have hol : o.length = k := by rw [ho, List.length_map, List.length_take]; omega
 by_cases gk : k < L.length
 ·have hex : ∃ x, L[k] = x := ⟨_, rfl⟩
  obtain ⟨⟨t, n0, n1, n2, n3⟩, hkx⟩ := hex
  have hcell : X[e + (k : Int).toNat]? = some (encL (t, n0, n1, n2, n3)) := by rw [← hkx]; exact Sl.at hXe gk
  have hlt : (k : Int) < (L.length : Nat) := by omega
  have hidx : 0 ≤ (k : Int) ∧ (k : Int) < (L.length : Nat) := by omega
  have ht := hx _ (List.getElem_mem gk)
  rw [hkx] at ht
  obtain ⟨ht1, ht2⟩ := ht
  replace ht1 : t.length ≤ 80 := ht1
  replace ht2 : (1 : Int) = 3 → i64 n2 := ht2
  have hk1 : k + 1 ≤ L.length := gk
  have hdec : L.length - (k + 1) < L.length - k := by omega
  have hk62 : k < 4611686018427387904 := by omega
  have hfold := zvh F t (by omega)
  have hnx := zgc (f := zcq (1, nn)) gk hkx (z := (t.map foldB, n0, n1, n2, n3)) (by show (Lib.toLowerA t, n0, n1, n2, n3) = _; rw [zo6]) ho
  clear hS hx ho hXe ht2
  rcases o with _ | ⟨l0, lr⟩
  ·conv=>whnf
   refine br (fun _ => ?_) (fun g => absurd hlt (of_decide_eq_false g));conv=>whnf
   refine ⟨rfl, hidx, ?_⟩;conv=>whnf
   refine ⟨_, hF, ?_⟩;conv=>whnf
   refine ⟨_, hcell, ?_⟩;conv=>whnf
   refine br (fun _ => ?_) (fun g => absurd (show (1 : Int) = 1 from rfl) (of_decide_eq_false g));conv=>whnf
   refine usePu hfold rfl ⟨rfl, trivial⟩ rfl ?_;conv=>whnf
   refine ⟨Nat.le_of_ble_eq_true rfl, [encL (t.map foldB, n0, n1, n2, n3)], rfl, ?_⟩;conv=>whnf
   refine ⟨rfl, rfl, ?_⟩;conv=>whnf
   refine ⟨by show 1 * 48 ≤ 140737488355328; omega, fun c' hc => ?_⟩;conv=>whnf
   exact ⟨⟨(k + 1, ([]) ++ [(t.map foldB, n0, n1, n2, n3)], c'), hk1, hnx⟩, hdec, leR [(5, 8)] hH hT rfl ⟨trivial, zb6 _, za6, zab (by omega) _, zab (by omega) _, zac zaa _ _ _ _ _, trivial⟩ ⟨cnt hk62, trivial⟩ ⟨Fz.le_refl F, rfl, rfl, rfl, zco (μ := sig [(5, 8)]) rfl rfl, zam zaa (zbt _ (by simp)), trivial⟩⟩
  ·have hsz : (lr.length + 1 + 1) * 48 ≤ 140737488355328 := by
    have h9 : lr.length + 1 = k := hol
    omega
   conv=>whnf
   refine br (fun _ => ?_) (fun g => absurd hlt (of_decide_eq_false g));conv=>whnf
   refine ⟨rfl, hidx, ?_⟩;conv=>whnf
   refine ⟨_, hF, ?_⟩;conv=>whnf
   refine ⟨_, hcell, ?_⟩;conv=>whnf
   refine br (fun _ => ?_) (fun g => absurd (show (1 : Int) = 1 from rfl) (of_decide_eq_false g));conv=>whnf
   refine usePu hfold rfl ⟨rfl, trivial⟩ rfl ?_;conv=>whnf
   refine ⟨Nat.le_of_ble_eq_true rfl, [encL (t.map foldB, n0, n1, n2, n3)], rfl, ?_⟩;conv=>whnf
   refine ⟨rfl, rfl, by simp, rfl, hsz, fun c' hc => ?_⟩;conv=>whnf
   exact ⟨⟨(k + 1, (l0 :: lr) ++ [(t.map foldB, n0, n1, n2, n3)], c'), hk1, hnx⟩, hdec, leR [(5, 8)] hH hT rfl ⟨trivial, zb6 _, za6, zab (by omega) _, zab (by omega) _, zac zaa _ _ _ _ _, trivial⟩ ⟨cnt hk62, trivial⟩ ⟨Fz.le_refl F, rfl, rfl, rfl, zco (μ := sig [(5, 8)]) rfl rfl, zam zaa (zbt _ (by simp)), trivial⟩⟩
 ·have hge : ¬ (k : Int) < (L.length : Nat) := by omega
  have hkL : k = L.length := by omega
  rw [hkL, List.take_of_length_le (Nat.le_refl _)] at ho
  rw [← ho] at hS
  clear ho hol
  rcases o with _ | ⟨l0, lr⟩
  ·conv=>whnf
   refine br (fun g => absurd (of_decide_eq_true g) hge) (fun _ => ?_);conv=>whnf
   exact zdc hS rfl rfl (Fz.le_refl F)
  ·conv=>whnf
   refine br (fun g => absurd (of_decide_eq_true g) hge) (fun _ => ?_);conv=>whnf
   refine zb8 5 (fun _ => .arr 88 5 ((l0 :: lr).map encL) co) rfl rfl rfl (fun _ _ => by exact ze7 zaa rfl _ _ _ _) (fun _ _ => zcv zaa _ _ _ _ _) ?_
   intro b' F' hle hb
   exact endFo (.ret (.agg (rvS ⟨false, l0 :: lr, 0, 0, []⟩ (.slice false 0 (b' 0) 0 5 (lr.length + 1) co)))) F' rfl hle (Fz.le_refl F') ⟨_, by rw [hS], by rw [hS]; exact Its.new (l := l0 :: lr) (hb 0 ⟨rfl, rfl⟩)⟩ rfl rfl
set_option maxHeartbeats 16000000 in
theorem zpr (F : Fz) (p nn : Int) (L : List RLn) (w h : Int) (bits : List UInt8) (b e c : Nat) (X : List (List SA)) (room : Nat) (hn : True) (hF : F b = some (.arr 88 5 X room)) (hXe : (X.drop e).take L.length = L.map encL) (hl : L.length ≤ 64) (hx : ∀ x ∈ L, x.1.length ≤ 80 ∧ ((2 : Int) = 3 → i64 x.2.2.2.1)) :
  Fo Tryz.prog F 54 [.va (.int .i64 p), .agg (enc (2, nn)), .agg (rvS ⟨false, L, w, h, bits⟩ (sl0 b e L.length c))] (zem (2, nn) ⟨false, L, w, h, bits⟩) := by
 have hS : stepR (2, nn) ⟨false, L, w, h, bits⟩ = ⟨false, L.map (zcq (2, nn)), 0, 0, []⟩ := rfl
 refine fo_of hΘ Tryz.func54 rfl (by decide) _ _ rfl rfl rfl ?_;conv=>whnf
 refine br (fun g => absurd (of_decide_eq_true g) (show ¬ (2 : Int) = 6 by decide)) (fun _ => ?_);conv=>whnf
 refine br (fun g => absurd (of_decide_eq_true g) (show ¬ (2 : Int) = 5 by decide)) (fun _ => ?_);conv=>whnf
 refine zau hΘ (X := { y : Nat × List RLn × Nat // y.1 ≤ L.length ∧ y.2.1 = (L.take y.1).map (zcq (2, nn)) }) (fun y => [(8, .va (.int .i64 y.1.1))]) [9, 24, 25, 26, 27, 28, 29, 30, 31, 32, 33, 34, 35, 36, 37, 38, 39, 40, 41, 42, 43, 44, 45, 46, 47, 48, 49, 50, 51, 52, 53, 54, 55, 56, 57, 58, 59, 60, 61, 62, 63, 64, 65, 66, 67, 68, 69, 70, 71, 72, 73, 74, 75, 76, 77, 78]
  (fun y => [(0, .frz F), (1, stpE (2, nn)), (2, rvSE ⟨false, L, w, h, bits⟩ b e L.length c), (3, rvalE ⟨false, [], 0, 0, []⟩ 0 0), (4, rvalE ⟨false, y.1.2.1, 0, 0, []⟩ 5 y.1.2.2), (5, gE 88 5 encL y.1.2.2 y.1.2.1)]) 6 (fun y => L.length - y.1.1) ⟨(0, [], 0), by simp⟩
  (fun hH hT => leI [(5, 5)] hH hT rfl ⟨trivial, zb6 _, za6, zab (by omega) _, zab (by omega) _, zac zaa _ _ _ _ _, trivial⟩ ⟨rfl, trivial⟩ ⟨Fz.le_refl F, rfl, rfl, rfl, rfl, rfl, trivial⟩) ?_
 rintro ⟨⟨k, o, co⟩, hk, ho⟩ hH hT
 replace hk : k ≤ L.length := hk
 replace ho : o = (L.take k).map (zcq (2, nn)) := ho
 have hol : o.length = k := by rw [ho, List.length_map, List.length_take]; omega
 by_cases gk : k < L.length
 ·have hex : ∃ x, L[k] = x := ⟨_, rfl⟩
  obtain ⟨⟨t, n0, n1, n2, n3⟩, hkx⟩ := hex
  have hcell : X[e + (k : Int).toNat]? = some (encL (t, n0, n1, n2, n3)) := by rw [← hkx]; exact Sl.at hXe gk
  have hlt : (k : Int) < (L.length : Nat) := by omega
  have hidx : 0 ≤ (k : Int) ∧ (k : Int) < (L.length : Nat) := by omega
  have ht := hx _ (List.getElem_mem gk)
  rw [hkx] at ht
  obtain ⟨ht1, ht2⟩ := ht
  replace ht1 : t.length ≤ 80 := ht1
  replace ht2 : (2 : Int) = 3 → i64 n2 := ht2
  have hk1 : k + 1 ≤ L.length := gk
  have hdec : L.length - (k + 1) < L.length - k := by omega
  have hk62 : k < 4611686018427387904 := by omega
  have hsp := zpl F t (by omega)
  have hnx := zgc (f := zcq (2, nn)) gk hkx (z := (spc false t, n0, n1, n2, n3)) rfl ho
  clear hS hx ho hXe ht2
  rcases o with _ | ⟨l0, lr⟩
  ·conv=>whnf
   refine br (fun _ => ?_) (fun g => absurd hlt (of_decide_eq_false g));conv=>whnf
   refine ⟨rfl, hidx, ?_⟩;conv=>whnf
   refine ⟨_, hF, ?_⟩;conv=>whnf
   refine ⟨_, hcell, ?_⟩;conv=>whnf
   refine br (fun g => absurd (of_decide_eq_true g) (show ¬ (2 : Int) = 1 by decide)) (fun _ => ?_);conv=>whnf
   refine br (fun _ => ?_) (fun g => absurd (show (2 : Int) = 2 from rfl) (of_decide_eq_false g));conv=>whnf
   refine usePu hsp rfl ⟨rfl, trivial⟩ rfl ?_;conv=>whnf
   refine ⟨Nat.le_of_ble_eq_true rfl, [encL (spc false t, n0, n1, n2, n3)], rfl, ?_⟩;conv=>whnf
   refine ⟨rfl, rfl, ?_⟩;conv=>whnf
   refine ⟨by show 1 * 48 ≤ 140737488355328; omega, fun c' hc => ?_⟩;conv=>whnf
   exact ⟨⟨(k + 1, ([]) ++ [(spc false t, n0, n1, n2, n3)], c'), hk1, hnx⟩, hdec, leR [(5, 8)] hH hT rfl ⟨trivial, zb6 _, za6, zab (by omega) _, zab (by omega) _, zac zaa _ _ _ _ _, trivial⟩ ⟨cnt hk62, trivial⟩ ⟨Fz.le_refl F, rfl, rfl, rfl, zco (μ := sig [(5, 8)]) rfl rfl, zam zaa (zbt _ (by simp)), trivial⟩⟩
  ·have hsz : (lr.length + 1 + 1) * 48 ≤ 140737488355328 := by
    have h9 : lr.length + 1 = k := hol
    omega
   conv=>whnf
   refine br (fun _ => ?_) (fun g => absurd hlt (of_decide_eq_false g));conv=>whnf
   refine ⟨rfl, hidx, ?_⟩;conv=>whnf
   refine ⟨_, hF, ?_⟩;conv=>whnf
   refine ⟨_, hcell, ?_⟩;conv=>whnf
   refine br (fun g => absurd (of_decide_eq_true g) (show ¬ (2 : Int) = 1 by decide)) (fun _ => ?_);conv=>whnf
   refine br (fun _ => ?_) (fun g => absurd (show (2 : Int) = 2 from rfl) (of_decide_eq_false g));conv=>whnf
   refine usePu hsp rfl ⟨rfl, trivial⟩ rfl ?_;conv=>whnf
   refine ⟨Nat.le_of_ble_eq_true rfl, [encL (spc false t, n0, n1, n2, n3)], rfl, ?_⟩;conv=>whnf
   refine ⟨rfl, rfl, by simp, rfl, hsz, fun c' hc => ?_⟩;conv=>whnf
   exact ⟨⟨(k + 1, (l0 :: lr) ++ [(spc false t, n0, n1, n2, n3)], c'), hk1, hnx⟩, hdec, leR [(5, 8)] hH hT rfl ⟨trivial, zb6 _, za6, zab (by omega) _, zab (by omega) _, zac zaa _ _ _ _ _, trivial⟩ ⟨cnt hk62, trivial⟩ ⟨Fz.le_refl F, rfl, rfl, rfl, zco (μ := sig [(5, 8)]) rfl rfl, zam zaa (zbt _ (by simp)), trivial⟩⟩
 ·have hge : ¬ (k : Int) < (L.length : Nat) := by omega
  have hkL : k = L.length := by omega
  rw [hkL, List.take_of_length_le (Nat.le_refl _)] at ho
  rw [← ho] at hS
  clear ho hol
  rcases o with _ | ⟨l0, lr⟩
  ·conv=>whnf
   refine br (fun g => absurd (of_decide_eq_true g) hge) (fun _ => ?_);conv=>whnf
   exact zdc hS rfl rfl (Fz.le_refl F)
  ·conv=>whnf
   refine br (fun g => absurd (of_decide_eq_true g) hge) (fun _ => ?_);conv=>whnf
   refine zb8 5 (fun _ => .arr 88 5 ((l0 :: lr).map encL) co) rfl rfl rfl (fun _ _ => by exact ze7 zaa rfl _ _ _ _) (fun _ _ => zcv zaa _ _ _ _ _) ?_
   intro b' F' hle hb
   exact endFo (.ret (.agg (rvS ⟨false, l0 :: lr, 0, 0, []⟩ (.slice false 0 (b' 0) 0 5 (lr.length + 1) co)))) F' rfl hle (Fz.le_refl F') ⟨_, by rw [hS], by rw [hS]; exact Its.new (l := l0 :: lr) (hb 0 ⟨rfl, rfl⟩)⟩ rfl rfl
set_option maxHeartbeats 16000000 in
theorem zpi (F : Fz) (p nn : Int) (L : List RLn) (w h : Int) (bits : List UInt8) (b e c : Nat) (X : List (List SA)) (room : Nat) (hn : nn = 10 ∨ nn = 100 ∨ nn = 1000) (hF : F b = some (.arr 88 5 X room)) (hXe : (X.drop e).take L.length = L.map encL) (hl : L.length ≤ 64) (hx : ∀ x ∈ L, x.1.length ≤ 80 ∧ ((3 : Int) = 3 → i64 x.2.2.2.1)) :
  Fo Tryz.prog F 54 [.va (.int .i64 p), .agg (enc (3, nn)), .agg (rvS ⟨false, L, w, h, bits⟩ (sl0 b e L.length c))] (zem (3, nn) ⟨false, L, w, h, bits⟩) := by
 have hS : stepR (3, nn) ⟨false, L, w, h, bits⟩ = ⟨false, L.map (zcq (3, nn)), 0, 0, []⟩ := rfl
 refine fo_of hΘ Tryz.func54 rfl (by decide) _ _ rfl rfl rfl ?_;conv=>whnf
 refine br (fun g => absurd (of_decide_eq_true g) (show ¬ (3 : Int) = 6 by decide)) (fun _ => ?_);conv=>whnf
 refine br (fun g => absurd (of_decide_eq_true g) (show ¬ (3 : Int) = 5 by decide)) (fun _ => ?_);conv=>whnf
 refine zau hΘ (X := { y : Nat × List RLn × Nat // y.1 ≤ L.length ∧ y.2.1 = (L.take y.1).map (zcq (3, nn)) }) (fun y => [(8, .va (.int .i64 y.1.1))]) [9, 24, 25, 26, 27, 28, 29, 30, 31, 32, 33, 34, 35, 36, 37, 38, 39, 40, 41, 42, 43, 44, 45, 46, 47, 48, 49, 50, 51, 52, 53, 54, 55, 56, 57, 58, 59, 60, 61, 62, 63, 64, 65, 66, 67, 68, 69, 70, 71, 72, 73, 74, 75, 76, 77, 78]
  (fun y => [(0, .frz F), (1, stpE (3, nn)), (2, rvSE ⟨false, L, w, h, bits⟩ b e L.length c), (3, rvalE ⟨false, [], 0, 0, []⟩ 0 0), (4, rvalE ⟨false, y.1.2.1, 0, 0, []⟩ 5 y.1.2.2), (5, gE 88 5 encL y.1.2.2 y.1.2.1)]) 6 (fun y => L.length - y.1.1) ⟨(0, [], 0), by simp⟩
  (fun hH hT => leI [(5, 5)] hH hT rfl ⟨trivial, zb6 _, za6, zab (by omega) _, zab (by omega) _, zac zaa _ _ _ _ _, trivial⟩ ⟨rfl, trivial⟩ ⟨Fz.le_refl F, rfl, rfl, rfl, rfl, rfl, trivial⟩) ?_
 rintro ⟨⟨k, o, co⟩, hk, ho⟩ hH hT
 replace hk : k ≤ L.length := hk
 replace ho : o = (L.take k).map (zcq (3, nn)) := ho
 have hol : o.length = k := by rw [ho, List.length_map, List.length_take]; omega
 by_cases gk : k < L.length
 ·have hex : ∃ x, L[k] = x := ⟨_, rfl⟩
  obtain ⟨⟨t, n0, n1, n2, n3⟩, hkx⟩ := hex
  have hcell : X[e + (k : Int).toNat]? = some (encL (t, n0, n1, n2, n3)) := by rw [← hkx]; exact Sl.at hXe gk
  have hlt : (k : Int) < (L.length : Nat) := by omega
  have hidx : 0 ≤ (k : Int) ∧ (k : Int) < (L.length : Nat) := by omega
  have ht := hx _ (List.getElem_mem gk)
  rw [hkx] at ht
  obtain ⟨ht1, ht2⟩ := ht
  replace ht1 : t.length ≤ 80 := ht1
  replace ht2 : (3 : Int) = 3 → i64 n2 := ht2
  have hk1 : k + 1 ≤ L.length := gk
  have hdec : L.length - (k + 1) < L.length - k := by omega
  have hk62 : k < 4611686018427387904 := by omega
  have hn0 : nn ≠ 0 := by omega
  have hnx := zgc (f := zcq (3, nn)) gk hkx (z := (t, n0, n1, IntKind.i64.wrap (IntKind.i64.wrap (n2.tdiv nn) * nn), n3)) (by rw [zvs hn (ht2 rfl)]; rfl) ho
  clear hS hx ho hXe ht2
  rcases o with _ | ⟨l0, lr⟩
  ·conv=>whnf
   refine br (fun _ => ?_) (fun g => absurd hlt (of_decide_eq_false g));conv=>whnf
   refine ⟨rfl, hidx, ?_⟩;conv=>whnf
   refine ⟨_, hF, ?_⟩;conv=>whnf
   refine ⟨_, hcell, ?_⟩;conv=>whnf
   refine br (fun g => absurd (of_decide_eq_true g) (show ¬ (3 : Int) = 1 by decide)) (fun _ => ?_);conv=>whnf
   refine br (fun g => absurd (of_decide_eq_true g) (show ¬ (3 : Int) = 2 by decide)) (fun _ => ?_);conv=>whnf
   refine br (fun _ => ?_) (fun g => absurd (show (3 : Int) = 3 from rfl) (of_decide_eq_false g));conv=>whnf
   refine drawP hΘ mixed (.look 0 (.look 1 (.look 3 (.look 4 (.look 6 (.look 7 (.look 9 (.alt 2 (.look 5 (.look 8 (.look 10 (.alt 11 .done .nil)))) .nil)))))))) [1] (by kernel_rfl) ?_;conv=>whnf
   repeat' ((conv=>whnf); first
    | refine ⟨rfl, ?_⟩
    | refine ⟨Fz.le_refl _, rfl, ?_⟩
    | refine ⟨Fz.le_refl _, rfl, rfl, ?_⟩
    | refine ⟨⟨by simp, by simp⟩, ?_⟩
    | fail)
   refine ⟨hn0, ?_⟩;conv=>whnf
   refine ⟨⟨by decide, by decide⟩, ?_⟩;conv=>whnf
   refine ⟨Fz.le_refl F, rfl, ?_⟩;conv=>whnf
   refine ⟨Nat.le_of_ble_eq_true rfl, [encL (t, n0, n1, IntKind.i64.wrap (IntKind.i64.wrap (n2.tdiv nn) * nn), n3)], rfl, ?_⟩;conv=>whnf
   refine ⟨rfl, rfl, ?_⟩;conv=>whnf
   refine ⟨by show 1 * 48 ≤ 140737488355328; omega, fun c' hc => ?_⟩;conv=>whnf
   exact ⟨⟨(k + 1, ([]) ++ [(t, n0, n1, IntKind.i64.wrap (IntKind.i64.wrap (n2.tdiv nn) * nn), n3)], c'), hk1, hnx⟩, hdec, leR [(5, 8)] hH hT rfl ⟨trivial, zb6 _, za6, zab (by omega) _, zab (by omega) _, zac zaa _ _ _ _ _, trivial⟩ ⟨cnt hk62, trivial⟩ ⟨Fz.le_refl F, rfl, rfl, rfl, zco (μ := sig [(5, 8)]) rfl rfl, zam zaa (zbt _ (by simp)), trivial⟩⟩
  ·have hsz : (lr.length + 1 + 1) * 48 ≤ 140737488355328 := by
    have h9 : lr.length + 1 = k := hol
    omega
   conv=>whnf
   refine br (fun _ => ?_) (fun g => absurd hlt (of_decide_eq_false g));conv=>whnf
   refine ⟨rfl, hidx, ?_⟩;conv=>whnf
   refine ⟨_, hF, ?_⟩;conv=>whnf
   refine ⟨_, hcell, ?_⟩;conv=>whnf
   refine br (fun g => absurd (of_decide_eq_true g) (show ¬ (3 : Int) = 1 by decide)) (fun _ => ?_);conv=>whnf
   refine br (fun g => absurd (of_decide_eq_true g) (show ¬ (3 : Int) = 2 by decide)) (fun _ => ?_);conv=>whnf
   refine br (fun _ => ?_) (fun g => absurd (show (3 : Int) = 3 from rfl) (of_decide_eq_false g));conv=>whnf
   refine drawP hΘ mixed (.look 0 (.look 1 (.look 3 (.look 4 (.look 6 (.look 7 (.look 9 (.alt 2 (.look 5 (.look 8 (.look 10 (.alt 11 .done .nil)))) .nil)))))))) [1] (by kernel_rfl) ?_;conv=>whnf
   repeat' ((conv=>whnf); first
    | refine ⟨rfl, ?_⟩
    | refine ⟨Fz.le_refl _, rfl, ?_⟩
    | refine ⟨Fz.le_refl _, rfl, rfl, ?_⟩
    | refine ⟨⟨by simp, by simp⟩, ?_⟩
    | fail)
   refine ⟨hn0, ?_⟩;conv=>whnf
   refine ⟨⟨by decide, by decide⟩, ?_⟩;conv=>whnf
   refine ⟨Fz.le_refl F, rfl, ?_⟩;conv=>whnf
   refine ⟨Nat.le_of_ble_eq_true rfl, [encL (t, n0, n1, IntKind.i64.wrap (IntKind.i64.wrap (n2.tdiv nn) * nn), n3)], rfl, ?_⟩;conv=>whnf
   refine ⟨rfl, rfl, by simp, rfl, hsz, fun c' hc => ?_⟩;conv=>whnf
   exact ⟨⟨(k + 1, (l0 :: lr) ++ [(t, n0, n1, IntKind.i64.wrap (IntKind.i64.wrap (n2.tdiv nn) * nn), n3)], c'), hk1, hnx⟩, hdec, leR [(5, 8)] hH hT rfl ⟨trivial, zb6 _, za6, zab (by omega) _, zab (by omega) _, zac zaa _ _ _ _ _, trivial⟩ ⟨cnt hk62, trivial⟩ ⟨Fz.le_refl F, rfl, rfl, rfl, zco (μ := sig [(5, 8)]) rfl rfl, zam zaa (zbt _ (by simp)), trivial⟩⟩
 ·have hge : ¬ (k : Int) < (L.length : Nat) := by omega
  have hkL : k = L.length := by omega
  rw [hkL, List.take_of_length_le (Nat.le_refl _)] at ho
  rw [← ho] at hS
  clear ho hol
  rcases o with _ | ⟨l0, lr⟩
  ·conv=>whnf
   refine br (fun g => absurd (of_decide_eq_true g) hge) (fun _ => ?_);conv=>whnf
   exact zdc hS rfl rfl (Fz.le_refl F)
  ·conv=>whnf
   refine br (fun g => absurd (of_decide_eq_true g) hge) (fun _ => ?_);conv=>whnf
   refine zb8 5 (fun _ => .arr 88 5 ((l0 :: lr).map encL) co) rfl rfl rfl (fun _ _ => by exact ze7 zaa rfl _ _ _ _) (fun _ _ => zcv zaa _ _ _ _ _) ?_
   intro b' F' hle hb
   exact endFo (.ret (.agg (rvS ⟨false, l0 :: lr, 0, 0, []⟩ (.slice false 0 (b' 0) 0 5 (lr.length + 1) co)))) F' rfl hle (Fz.le_refl F') ⟨_, by rw [hS], by rw [hS]; exact Its.new (l := l0 :: lr) (hb 0 ⟨rfl, rfl⟩)⟩ rfl rfl
set_option maxHeartbeats 16000000 in
theorem zpt (F : Fz) (p nn : Int) (L : List RLn) (w h : Int) (bits : List UInt8) (b e c : Nat) (X : List (List SA)) (room : Nat) (hn : True) (hF : F b = some (.arr 88 5 X room)) (hXe : (X.drop e).take L.length = L.map encL) (hl : L.length ≤ 64) (hx : ∀ x ∈ L, x.1.length ≤ 80 ∧ ((4 : Int) = 3 → i64 x.2.2.2.1)) :
  Fo Tryz.prog F 54 [.va (.int .i64 p), .agg (enc (4, nn)), .agg (rvS ⟨false, L, w, h, bits⟩ (sl0 b e L.length c))] (zem (4, nn) ⟨false, L, w, h, bits⟩) := by
 have hS : stepR (4, nn) ⟨false, L, w, h, bits⟩ = ⟨false, L.map (zcq (4, nn)), 0, 0, []⟩ := rfl
 refine fo_of hΘ Tryz.func54 rfl (by decide) _ _ rfl rfl rfl ?_;conv=>whnf
 refine br (fun g => absurd (of_decide_eq_true g) (show ¬ (4 : Int) = 6 by decide)) (fun _ => ?_);conv=>whnf
 refine br (fun g => absurd (of_decide_eq_true g) (show ¬ (4 : Int) = 5 by decide)) (fun _ => ?_);conv=>whnf
 refine zau hΘ (X := { y : Nat × List RLn × Nat // y.1 ≤ L.length ∧ y.2.1 = (L.take y.1).map (zcq (4, nn)) }) (fun y => [(8, .va (.int .i64 y.1.1))]) [9, 24, 25, 26, 27, 28, 29, 30, 31, 32, 33, 34, 35, 36, 37, 38, 39, 40, 41, 42, 43, 44, 45, 46, 47, 48, 49, 50, 51, 52, 53, 54, 55, 56, 57, 58, 59, 60, 61, 62, 63, 64, 65, 66, 67, 68, 69, 70, 71, 72, 73, 74, 75, 76, 77, 78]
  (fun y => [(0, .frz F), (1, stpE (4, nn)), (2, rvSE ⟨false, L, w, h, bits⟩ b e L.length c), (3, rvalE ⟨false, [], 0, 0, []⟩ 0 0), (4, rvalE ⟨false, y.1.2.1, 0, 0, []⟩ 5 y.1.2.2), (5, gE 88 5 encL y.1.2.2 y.1.2.1)]) 6 (fun y => L.length - y.1.1) ⟨(0, [], 0), by simp⟩
  (fun hH hT => leI [(5, 5)] hH hT rfl ⟨trivial, zb6 _, za6, zab (by omega) _, zab (by omega) _, zac zaa _ _ _ _ _, trivial⟩ ⟨rfl, trivial⟩ ⟨Fz.le_refl F, rfl, rfl, rfl, rfl, rfl, trivial⟩) ?_
 rintro ⟨⟨k, o, co⟩, hk, ho⟩ hH hT
 replace hk : k ≤ L.length := hk
 replace ho : o = (L.take k).map (zcq (4, nn)) := ho
 have hol : o.length = k := by rw [ho, List.length_map, List.length_take]; omega
 by_cases gk : k < L.length
 ·have hex : ∃ x, L[k] = x := ⟨_, rfl⟩
  obtain ⟨⟨t, n0, n1, n2, n3⟩, hkx⟩ := hex
  have hcell : X[e + (k : Int).toNat]? = some (encL (t, n0, n1, n2, n3)) := by rw [← hkx]; exact Sl.at hXe gk
  have hlt : (k : Int) < (L.length : Nat) := by omega
  have hidx : 0 ≤ (k : Int) ∧ (k : Int) < (L.length : Nat) := by omega
  have ht := hx _ (List.getElem_mem gk)
  rw [hkx] at ht
  obtain ⟨ht1, ht2⟩ := ht
  replace ht1 : t.length ≤ 80 := ht1
  replace ht2 : (4 : Int) = 3 → i64 n2 := ht2
  have hk1 : k + 1 ≤ L.length := gk
  have hdec : L.length - (k + 1) < L.length - k := by omega
  have hk62 : k < 4611686018427387904 := by omega
  have hnx1 := fun h : n0 > nn => zgc (f := zcq (4, nn)) gk hkx (z := (t, 0, n1, n2, n3)) (by show (t, (if n0 > nn then 0 else n0), n1, n2, n3) = _; rw [if_pos h]) ho
  have hnx2 := fun h : ¬ n0 > nn => zgc (f := zcq (4, nn)) gk hkx (z := (t, n0, n1, n2, n3)) (by show (t, (if n0 > nn then 0 else n0), n1, n2, n3) = _; rw [if_neg h]) ho
  clear hS hx ho hXe ht2
  rcases o with _ | ⟨l0, lr⟩
  ·conv=>whnf
   refine br (fun _ => ?_) (fun g => absurd hlt (of_decide_eq_false g));conv=>whnf
   refine ⟨rfl, hidx, ?_⟩;conv=>whnf
   refine ⟨_, hF, ?_⟩;conv=>whnf
   refine ⟨_, hcell, ?_⟩;conv=>whnf
   refine br (fun g => absurd (of_decide_eq_true g) (show ¬ (4 : Int) = 1 by decide)) (fun _ => ?_);conv=>whnf
   refine br (fun g => absurd (of_decide_eq_true g) (show ¬ (4 : Int) = 2 by decide)) (fun _ => ?_);conv=>whnf
   refine br (fun g => absurd (of_decide_eq_true g) (show ¬ (4 : Int) = 3 by decide)) (fun _ => ?_);conv=>whnf
   refine br (fun _ => ?_) (fun g => absurd (show (4 : Int) = 4 from rfl) (of_decide_eq_false g));conv=>whnf
   refine ⟨⟨by decide, by decide⟩, ?_⟩;conv=>whnf
   by_cases hgt : n0 > nn
   ·have hnx := hnx1 hgt
    refine br (fun _ => ?_) (fun g => absurd hgt (of_decide_eq_false g));conv=>whnf
    refine ⟨⟨by decide, by decide⟩, ?_⟩;conv=>whnf
    refine ⟨Nat.le_of_ble_eq_true rfl, [encL (t, 0, n1, n2, n3)], rfl, ?_⟩;conv=>whnf
    refine ⟨rfl, rfl, ?_⟩;conv=>whnf
    refine ⟨by show 1 * 48 ≤ 140737488355328; omega, fun c' hc => ?_⟩;conv=>whnf
    exact ⟨⟨(k + 1, ([]) ++ [(t, 0, n1, n2, n3)], c'), hk1, hnx⟩, hdec, leR [(5, 8)] hH hT rfl ⟨trivial, zb6 _, za6, zab (by omega) _, zab (by omega) _, zac zaa _ _ _ _ _, trivial⟩ ⟨cnt hk62, trivial⟩ ⟨Fz.le_refl F, rfl, rfl, rfl, zco (μ := sig [(5, 8)]) rfl rfl, zam zaa (zbt _ (by simp)), trivial⟩⟩
   ·have hnx := hnx2 hgt
    refine br (fun g => absurd (of_decide_eq_true g) hgt) (fun _ => ?_);conv=>whnf
    refine ⟨Nat.le_of_ble_eq_true rfl, [encL (t, n0, n1, n2, n3)], rfl, ?_⟩;conv=>whnf
    refine ⟨rfl, rfl, ?_⟩;conv=>whnf
    refine ⟨by show 1 * 48 ≤ 140737488355328; omega, fun c' hc => ?_⟩;conv=>whnf
    exact ⟨⟨(k + 1, ([]) ++ [(t, n0, n1, n2, n3)], c'), hk1, hnx⟩, hdec, leR [(5, 8)] hH hT rfl ⟨trivial, zb6 _, za6, zab (by omega) _, zab (by omega) _, zac zaa _ _ _ _ _, trivial⟩ ⟨cnt hk62, trivial⟩ ⟨Fz.le_refl F, rfl, rfl, rfl, zco (μ := sig [(5, 8)]) rfl rfl, zam zaa (zbt _ (by simp)), trivial⟩⟩
  ·have hsz : (lr.length + 1 + 1) * 48 ≤ 140737488355328 := by
    have h9 : lr.length + 1 = k := hol
    omega
   conv=>whnf
   refine br (fun _ => ?_) (fun g => absurd hlt (of_decide_eq_false g));conv=>whnf
   refine ⟨rfl, hidx, ?_⟩;conv=>whnf
   refine ⟨_, hF, ?_⟩;conv=>whnf
   refine ⟨_, hcell, ?_⟩;conv=>whnf
   refine br (fun g => absurd (of_decide_eq_true g) (show ¬ (4 : Int) = 1 by decide)) (fun _ => ?_);conv=>whnf
   refine br (fun g => absurd (of_decide_eq_true g) (show ¬ (4 : Int) = 2 by decide)) (fun _ => ?_);conv=>whnf
   refine br (fun g => absurd (of_decide_eq_true g) (show ¬ (4 : Int) = 3 by decide)) (fun _ => ?_);conv=>whnf
   refine br (fun _ => ?_) (fun g => absurd (show (4 : Int) = 4 from rfl) (of_decide_eq_false g));conv=>whnf
   refine ⟨⟨by decide, by decide⟩, ?_⟩;conv=>whnf
   by_cases hgt : n0 > nn
   ·have hnx := hnx1 hgt
    refine br (fun _ => ?_) (fun g => absurd hgt (of_decide_eq_false g));conv=>whnf
    refine ⟨⟨by decide, by decide⟩, ?_⟩;conv=>whnf
    refine ⟨Nat.le_of_ble_eq_true rfl, [encL (t, 0, n1, n2, n3)], rfl, ?_⟩;conv=>whnf
    refine ⟨rfl, rfl, by simp, rfl, hsz, fun c' hc => ?_⟩;conv=>whnf
    exact ⟨⟨(k + 1, (l0 :: lr) ++ [(t, 0, n1, n2, n3)], c'), hk1, hnx⟩, hdec, leR [(5, 8)] hH hT rfl ⟨trivial, zb6 _, za6, zab (by omega) _, zab (by omega) _, zac zaa _ _ _ _ _, trivial⟩ ⟨cnt hk62, trivial⟩ ⟨Fz.le_refl F, rfl, rfl, rfl, zco (μ := sig [(5, 8)]) rfl rfl, zam zaa (zbt _ (by simp)), trivial⟩⟩
   ·have hnx := hnx2 hgt
    refine br (fun g => absurd (of_decide_eq_true g) hgt) (fun _ => ?_);conv=>whnf
    refine ⟨Nat.le_of_ble_eq_true rfl, [encL (t, n0, n1, n2, n3)], rfl, ?_⟩;conv=>whnf
    refine ⟨rfl, rfl, by simp, rfl, hsz, fun c' hc => ?_⟩;conv=>whnf
    exact ⟨⟨(k + 1, (l0 :: lr) ++ [(t, n0, n1, n2, n3)], c'), hk1, hnx⟩, hdec, leR [(5, 8)] hH hT rfl ⟨trivial, zb6 _, za6, zab (by omega) _, zab (by omega) _, zac zaa _ _ _ _ _, trivial⟩ ⟨cnt hk62, trivial⟩ ⟨Fz.le_refl F, rfl, rfl, rfl, zco (μ := sig [(5, 8)]) rfl rfl, zam zaa (zbt _ (by simp)), trivial⟩⟩
 ·have hge : ¬ (k : Int) < (L.length : Nat) := by omega
  have hkL : k = L.length := by omega
  rw [hkL, List.take_of_length_le (Nat.le_refl _)] at ho
  rw [← ho] at hS
  clear ho hol
  rcases o with _ | ⟨l0, lr⟩
  ·conv=>whnf
   refine br (fun g => absurd (of_decide_eq_true g) hge) (fun _ => ?_);conv=>whnf
   exact zdc hS rfl rfl (Fz.le_refl F)
  ·conv=>whnf
   refine br (fun g => absurd (of_decide_eq_true g) hge) (fun _ => ?_);conv=>whnf
   refine zb8 5 (fun _ => .arr 88 5 ((l0 :: lr).map encL) co) rfl rfl rfl (fun _ _ => by exact ze7 zaa rfl _ _ _ _) (fun _ _ => zcv zaa _ _ _ _ _) ?_
   intro b' F' hle hb
   exact endFo (.ret (.agg (rvS ⟨false, l0 :: lr, 0, 0, []⟩ (.slice false 0 (b' 0) 0 5 (lr.length + 1) co)))) F' rfl hle (Fz.le_refl F') ⟨_, by rw [hS], by rw [hS]; exact Its.new (l := l0 :: lr) (hb 0 ⟨rfl, rfl⟩)⟩ rfl rfl
set_option maxHeartbeats 8000000 in
theorem zov (F : Fz) (p nn : Int) (w h : Int) (bits : List UInt8) :
  Fo Tryz.prog F 54 [.va (.int .i64 p), .agg (enc (1, nn)), .agg (rvS ⟨false, [], w, h, bits⟩ .nilsl)] (zem (1, nn) ⟨false, [], w, h, bits⟩) := by
 have hS : stepR (1, nn) ⟨false, [], w, h, bits⟩ = ⟨false, [], 0, 0, []⟩ := rfl
 refine fo_of hΘ Tryz.func54 rfl (by decide) _ _ rfl rfl rfl ?_;conv=>whnf
 refine br (fun g => absurd (of_decide_eq_true g) (show ¬ (1 : Int) = 6 by decide)) (fun _ => ?_);conv=>whnf
 refine br (fun g => absurd (of_decide_eq_true g) (show ¬ (1 : Int) = 5 by decide)) (fun _ => ?_);conv=>whnf
 refine zb2 hΘ 0 ?_;conv=>whnf
 refine br (fun g => absurd g (by decide)) (fun _ => ?_);conv=>whnf
 exact zdc hS rfl rfl (Fz.le_refl F)
set_option maxHeartbeats 8000000 in
theorem zpd (F : Fz) (p nn : Int) (w h : Int) (bits : List UInt8) :
  Fo Tryz.prog F 54 [.va (.int .i64 p), .agg (enc (2, nn)), .agg (rvS ⟨false, [], w, h, bits⟩ .nilsl)] (zem (2, nn) ⟨false, [], w, h, bits⟩) := by
 have hS : stepR (2, nn) ⟨false, [], w, h, bits⟩ = ⟨false, [], 0, 0, []⟩ := rfl
 refine fo_of hΘ Tryz.func54 rfl (by decide) _ _ rfl rfl rfl ?_;conv=>whnf
 refine br (fun g => absurd (of_decide_eq_true g) (show ¬ (2 : Int) = 6 by decide)) (fun _ => ?_);conv=>whnf
 refine br (fun g => absurd (of_decide_eq_true g) (show ¬ (2 : Int) = 5 by decide)) (fun _ => ?_);conv=>whnf
 refine zb2 hΘ 0 ?_;conv=>whnf
 refine br (fun g => absurd g (by decide)) (fun _ => ?_);conv=>whnf
 exact zdc hS rfl rfl (Fz.le_refl F)
set_option maxHeartbeats 8000000 in
theorem zpb (F : Fz) (p nn : Int) (w h : Int) (bits : List UInt8) :
  Fo Tryz.prog F 54 [.va (.int .i64 p), .agg (enc (3, nn)), .agg (rvS ⟨false, [], w, h, bits⟩ .nilsl)] (zem (3, nn) ⟨false, [], w, h, bits⟩) := by
 have hS : stepR (3, nn) ⟨false, [], w, h, bits⟩ = ⟨false, [], 0, 0, []⟩ := rfl
 refine fo_of hΘ Tryz.func54 rfl (by decide) _ _ rfl rfl rfl ?_;conv=>whnf
 refine br (fun g => absurd (of_decide_eq_true g) (show ¬ (3 : Int) = 6 by decide)) (fun _ => ?_);conv=>whnf
 refine br (fun g => absurd (of_decide_eq_true g) (show ¬ (3 : Int) = 5 by decide)) (fun _ => ?_);conv=>whnf
 refine zb2 hΘ 0 ?_;conv=>whnf
 refine br (fun g => absurd g (by decide)) (fun _ => ?_);conv=>whnf
 exact zdc hS rfl rfl (Fz.le_refl F)
set_option maxHeartbeats 8000000 in
theorem zo8 (F : Fz) (p nn : Int) (w h : Int) (bits : List UInt8) :
  Fo Tryz.prog F 54 [.va (.int .i64 p), .agg (enc (4, nn)), .agg (rvS ⟨false, [], w, h, bits⟩ .nilsl)] (zem (4, nn) ⟨false, [], w, h, bits⟩) := by
 have hS : stepR (4, nn) ⟨false, [], w, h, bits⟩ = ⟨false, [], 0, 0, []⟩ := rfl
 refine fo_of hΘ Tryz.func54 rfl (by decide) _ _ rfl rfl rfl ?_;conv=>whnf
 refine br (fun g => absurd (of_decide_eq_true g) (show ¬ (4 : Int) = 6 by decide)) (fun _ => ?_);conv=>whnf
 refine br (fun g => absurd (of_decide_eq_true g) (show ¬ (4 : Int) = 5 by decide)) (fun _ => ?_);conv=>whnf
 refine zb2 hΘ 0 ?_;conv=>whnf
 refine br (fun g => absurd g (by decide)) (fun _ => ?_);conv=>whnf
 exact zdc hS rfl rfl (Fz.le_refl F)
set_option maxHeartbeats 8000000 in
theorem zl4 (F : Fz) (p : Int) (x : Stp) (w h : Int) (bits : List UInt8) (lines : List RLn) (a : SA) :
  Fo Tryz.prog F 54 [.va (.int .i64 p), .agg (enc x), .agg (rvS ⟨true, lines, w, h, bits⟩ a)] (zem x ⟨true, lines, w, h, bits⟩) := by
 have hS : stepR x ⟨true, lines, w, h, bits⟩ = lostR := if_pos (.inl rfl)
 refine fo_of hΘ Tryz.func54 rfl (by decide) _ _ rfl rfl rfl ?_;conv=>whnf
 exact zdc hS rfl rfl (Fz.le_refl F)
set_option maxHeartbeats 8000000 in
theorem zrc (F : Fz) (p nn : Int) (w h : Int) (bits : List UInt8) (lines : List RLn) (a : SA) :
  Fo Tryz.prog F 54 [.va (.int .i64 p), .agg (enc (6, nn)), .agg (rvS ⟨false, lines, w, h, bits⟩ a)] (zem (6, nn) ⟨false, lines, w, h, bits⟩) := by
 have hS : stepR (6, nn) ⟨false, lines, w, h, bits⟩ = lostR := if_pos (.inr rfl)
 refine fo_of hΘ Tryz.func54 rfl (by decide) _ _ rfl rfl rfl ?_;conv=>whnf
 refine br (fun _ => ?_) (fun g => absurd (show (6 : Int) = 6 from rfl) (of_decide_eq_false g));conv=>whnf
 exact zdc hS rfl rfl (Fz.le_refl F)
end Go.Proofs.YtblllibdahkgfaaGreatDoor
