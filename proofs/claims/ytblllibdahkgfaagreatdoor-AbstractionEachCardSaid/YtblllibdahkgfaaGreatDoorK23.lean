import Derived.Test.YtblllibdahkgfaaGreatDoorK22
import Derived.Test.YtblllibdahkgfaaGreatDoorK19

namespace Go.Proofs.YtblllibdahkgfaaGreatDoor
open Go Sx
set_option maxRecDepth 100000
theorem zov (p : Int) (x : RLn) : (zbc p x).length ≤ 66000 := by
 unfold zbc
 have h1 := zbv x.1
 have h2 := zes (f := fun n => (putIR n).1) zaq ((numsOf x).take (colN p))
 have h3 : ((numsOf x).take (colN p)).length ≤ 4 := by rw [List.length_take]; show min _ 4 ≤ 4; omega
 rw [List.length_append]
 split
 ·omega
 ·simp only [List.length_nil]; omega
theorem zdi {p : Int} {l : List RLn} {k : Nat} {ob : List UInt8} {x : RLn} (gk : k < l.length) (hx : l[k] = x) (h : ob = (putIR (l.length : Nat)).1 ++ ((l.take k).map (zbc p)).flatten) : ob ++ zbc p x = (putIR (l.length : Nat)).1 ++ ((l.take (k + 1)).map (zbc p)).flatten := by
 rw [zc9 gk, hx, h, List.append_assoc]
theorem zec {p : Int} {l : List RLn} {k : Nat} {ob : List UInt8} (hl : l.length ≤ 1000) (h : ob = (putIR (l.length : Nat)).1 ++ ((l.take k).map (zbc p)).flatten) : ob.length ≤ 100000000 := by
 have h1 := zaq (l.length : Nat)
 have h2 := zes (zov p) (l.take k)
 have h3 : (l.take k).length ≤ 1000 := by rw [List.length_take]; omega
 rw [h, List.length_append]; omega
def rvalE (v : RVal) (i c : Nat) : Ent := .one (.cells 57 [.lit v.lost, gA 5 i c v.lines, .int .i64 v.w, .int .i64 v.h, .str v.bits])
theorem zad {v : RVal} {n i : Nat} (h : i < n) (c : Nat) : (rvalE v i c).below n := by
 show ∀ a ∈ _, SA.below n a
 intro a ha
 simp only [List.mem_cons, List.not_mem_nil, or_false] at ha
 rcases ha with rfl | rfl | rfl | rfl | rfl
 ·trivial
 ·exact zg6 h _ _ _
 ·trivial
 ·trivial
 ·trivial
set_option maxHeartbeats 8000000 in
theorem zmb (F : Fz) (L : List RLn) (w h : Int) (bits : List UInt8) (c : Nat) (hne : L ≠ []) (hl : L.length ≤ 1000) (hx : ∀ x ∈ L, x.1.length ≤ 1000000) :
  Ct Tryz.prog 32 [.va (.int .i64 1), rvalV ⟨false, L, w, h, bits⟩ 1 c] F [(1, gE 88 5 encL c L)] 2
   (fun o F0 h0 n0 => Fz.le F F0 ∧ n0 = 2 ∧ o = .ret (.va (.str (zar 1 ⟨false, L, w, h, bits⟩))) ∧ h0 = [(1, gE 88 5 encL c L)]) := by
 have hW : zar 1 ⟨false, L, w, h, bits⟩ = (putIR (L.length : Nat)).1 ++ (L.map (zbc 1)).flatten := rfl
 have fin : ∀ (t : List UInt8) (F1 : Fz) (hh : Hp) (nx : Nat), zar 1 ⟨false, L, w, h, bits⟩ = t → Fz.le F F1 → lget hh 0 = some (.frz F1) → lget hh 1 = some (gE 88 5 encL c L) →
   Cln 2 (fun o F0 h0 n0 => Fz.le F F0 ∧ (Fz.le F F0 ∧ n0 = 2 ∧ o = .ret (.va (.str (zar 1 ⟨false, L, w, h, bits⟩))) ∧ h0 = [(1, gE 88 5 encL c L)])) (.ret (.va (.str t))) hh nx := by
  intro t F1 hh nx hb hle h0 h1
  rw [hb]
  exact clean [] (.ret (.va (.str t))) F1 [(1, gE 88 5 encL c L)] 2 ⟨hle, hle, rfl, rfl, rfl⟩ (zat _) rfl rfl trivial ⟨zac zaa _ _ _ _ _, trivial⟩ ⟨by simp only [entE, aget, Ent.ren]; rw [h0]; exact Fz.le_refl F1, by simp only [entE, aget]; rw [h1]; exact zas zaa (zao _ _ _ _), trivial⟩
 have hp0 := zak F (L.length : Nat)
 have hcol := zce 1 F
 rw [show ((colN 1 : Nat) : Int) = 0 by decide] at hcol
 rcases L with _ | ⟨a0, ar⟩
 ·exact absurd rfl hne
 refine ct_of hΘ Tryz.func32 rfl (by decide) _ _ rfl rfl rfl ?_;conv=>whnf
 refine br (fun g => absurd g (by decide)) (fun _ => ?_);conv=>whnf
 refine usePu hp0 rfl ⟨rfl, trivial⟩ rfl ?_;conv=>whnf
 refine za0 hΘ (X := { x : Nat × List UInt8 // x.1 ≤ ar.length + 1 ∧ x.2 = (putIR ((a0 :: ar).length : Nat)).1 ++ (((a0 :: ar).take x.1).map (zbc 1)).flatten }) (fun x => [(5, .va (.str x.1.2)), (12, .va (.int .i64 x.1.1))]) [13, 14, 15, 16, 17, 60, 61, 62, 63, 64, 65, 66, 67, 68, 69, 70, 71, 72, 73, 74, 75, 76, 77, 78, 79, 80, 81, 82, 83, 84, 85, 86, 87, 88, 89, 90, 91, 92, 93, 94, 95, 96, 97, 98, 99, 100, 101, 102]
  (fun _ => [(0, .frz F), (1, gE 88 5 encL c (a0 :: ar)), (2, rvalE ⟨false, a0 :: ar, w, h, bits⟩ 1 c)]) 3 (fun x => ar.length + 1 - x.1.1) ⟨(0, (putIR ((a0 :: ar).length : Nat)).1), by simp⟩
  (fun hH hT => leI [] hH hT rfl ⟨trivial, zac zaa _ _ _ _ _, zad (by omega) _, trivial⟩ ⟨rfl, rfl, trivial⟩ ⟨Fz.le_refl F, zas zaa (zao _ _ _ _), rfl, trivial⟩) ?_
 rintro ⟨⟨k, ob⟩, hk, hob⟩ hH hT
 replace hk : k ≤ ar.length + 1 := hk
 replace hob : ob = (putIR ((a0 :: ar).length : Nat)).1 ++ (((a0 :: ar).take k).map (zbc 1)).flatten := hob
 have hobl := zec hl hob
 have hfin : k = ar.length + 1 → zar 1 ⟨false, a0 :: ar, w, h, bits⟩ = ob := fun gk => by
  rw [hW, hob, gk, List.take_of_length_le (by simp)]
 by_cases gk : k < ar.length + 1
 ·have gl : k < (a0 :: ar).length := gk
  have hex : ∃ x, (a0 :: ar)[k] = x := ⟨_, rfl⟩
  obtain ⟨⟨t, n0, n1, n2, n3⟩, hkx⟩ := hex
  have hcell : ((a0 :: ar).map encL)[0 + (k : Int).toNat]? = some (encL (t, n0, n1, n2, n3)) := by rw [Nat.zero_add, Int.toNat_natCast, List.getElem?_map, List.getElem?_eq_getElem gl, hkx]; rfl
  have hlt : (k : Int) < ((ar.length + 1 : Nat) : Int) := by omega
  have hidx : 0 ≤ (k : Int) ∧ (k : Int) < ((ar.length + 1 : Nat) : Int) := by omega
  have hnext := zdi gl hkx hob
  have e0 := zaq n0
  have e1 := zaq n1
  have e2 := zaq n2
  have e3 := zaq n3
  have et := zbv t
  have ht := hx _ (List.getElem_mem gl)
  rw [hkx] at ht
  replace ht : t.length ≤ 1000000 := ht
  have pt := zbi F t (by omega)
  have p0 := zak F n0
  have p1 := zak F n1
  have p2 := zak F n2
  have p3 := zak F n3
  have hk1 : k + 1 ≤ ar.length + 1 := gk
  have hdec : ar.length + 1 - (k + 1) < ar.length + 1 - k := by omega
  have hkm : k < 4611686018427387904 := by
   have h9 : ar.length + 1 ≤ 1000 := hl
   omega
  clear hfin hx hob
  have hnx : ob ++ (putSR t).1 = (putIR ((a0 :: ar).length : Nat)).1 ++ (((a0 :: ar).take (k + 1)).map (zbc 1)).flatten := by rw [← hnext]; exact congrArg (ob ++ ·) (List.append_nil _).symm
  have hb1 : ob.length + (putSR t).1.length ≤ 9223372036854775807 := by omega
  conv=>whnf
  refine br (fun _ => ?_) (fun g => absurd hlt (of_decide_eq_false g));conv=>whnf
  refine br (fun _ => ?_) (fun g => absurd g (by decide));conv=>whnf
  refine ⟨rfl, hidx, ?_⟩;conv=>whnf
  refine ⟨rfl, _, hcell, ?_⟩;conv=>whnf
  refine usePu pt rfl ⟨rfl, trivial⟩ rfl ?_;conv=>whnf
  refine ⟨hb1, ?_⟩;conv=>whnf
  refine zb4 hΘ 0 ?_;conv=>whnf
  refine usePu hcol rfl ⟨rfl, trivial⟩ rfl ?_;conv=>whnf
  refine br (fun g => absurd g (by decide)) (fun _ => ?_);conv=>whnf
  exact ⟨⟨(k + 1, ob ++ (putSR t).1), hk1, hnx⟩, hdec, leR [] hH hT rfl ⟨trivial, zac zaa _ _ _ _ _, zad (by omega) _, trivial⟩ ⟨rfl, cnt hkm, trivial⟩ ⟨Fz.le_refl F, zas zaa (zao _ _ _ _), rfl, trivial⟩⟩
 ·have gk : k = ar.length + 1 := by omega
  have hge : ¬ (k : Int) < ((ar.length + 1 : Nat) : Int) := by omega
  have e := hfin gk
  conv=>whnf
  refine br (fun g => absurd (of_decide_eq_true g) hge) (fun _ => ?_);conv=>whnf
  exact fin _ F _ _ e (Fz.le_refl F) rfl rfl
set_option maxHeartbeats 8000000 in
theorem zl5 (F : Fz) (L : List RLn) (w h : Int) (bits : List UInt8) (c : Nat) (hne : L ≠ []) (hl : L.length ≤ 1000) (hx : ∀ x ∈ L, x.1.length ≤ 1000000) :
  Ct Tryz.prog 32 [.va (.int .i64 2), rvalV ⟨false, L, w, h, bits⟩ 1 c] F [(1, gE 88 5 encL c L)] 2
   (fun o F0 h0 n0 => Fz.le F F0 ∧ n0 = 2 ∧ o = .ret (.va (.str (zar 2 ⟨false, L, w, h, bits⟩))) ∧ h0 = [(1, gE 88 5 encL c L)]) := by
 have hW : zar 2 ⟨false, L, w, h, bits⟩ = (putIR (L.length : Nat)).1 ++ (L.map (zbc 2)).flatten := rfl
 have fin : ∀ (t : List UInt8) (F1 : Fz) (hh : Hp) (nx : Nat), zar 2 ⟨false, L, w, h, bits⟩ = t → Fz.le F F1 → lget hh 0 = some (.frz F1) → lget hh 1 = some (gE 88 5 encL c L) →
   Cln 2 (fun o F0 h0 n0 => Fz.le F F0 ∧ (Fz.le F F0 ∧ n0 = 2 ∧ o = .ret (.va (.str (zar 2 ⟨false, L, w, h, bits⟩))) ∧ h0 = [(1, gE 88 5 encL c L)])) (.ret (.va (.str t))) hh nx := by
  intro t F1 hh nx hb hle h0 h1
  rw [hb]
  exact clean [] (.ret (.va (.str t))) F1 [(1, gE 88 5 encL c L)] 2 ⟨hle, hle, rfl, rfl, rfl⟩ (zat _) rfl rfl trivial ⟨zac zaa _ _ _ _ _, trivial⟩ ⟨by simp only [entE, aget, Ent.ren]; rw [h0]; exact Fz.le_refl F1, by simp only [entE, aget]; rw [h1]; exact zas zaa (zao _ _ _ _), trivial⟩
 have hp0 := zak F (L.length : Nat)
 have hcol := zce 2 F
 rw [show ((colN 2 : Nat) : Int) = 1 by decide] at hcol
 rcases L with _ | ⟨a0, ar⟩
 ·exact absurd rfl hne
 refine ct_of hΘ Tryz.func32 rfl (by decide) _ _ rfl rfl rfl ?_;conv=>whnf
 refine br (fun g => absurd g (by decide)) (fun _ => ?_);conv=>whnf
 refine usePu hp0 rfl ⟨rfl, trivial⟩ rfl ?_;conv=>whnf
 refine za0 hΘ (X := { x : Nat × List UInt8 // x.1 ≤ ar.length + 1 ∧ x.2 = (putIR ((a0 :: ar).length : Nat)).1 ++ (((a0 :: ar).take x.1).map (zbc 2)).flatten }) (fun x => [(5, .va (.str x.1.2)), (12, .va (.int .i64 x.1.1))]) [13, 14, 15, 16, 17, 60, 61, 62, 63, 64, 65, 66, 67, 68, 69, 70, 71, 72, 73, 74, 75, 76, 77, 78, 79, 80, 81, 82, 83, 84, 85, 86, 87, 88, 89, 90, 91, 92, 93, 94, 95, 96, 97, 98, 99, 100, 101, 102]
  (fun _ => [(0, .frz F), (1, gE 88 5 encL c (a0 :: ar)), (2, rvalE ⟨false, a0 :: ar, w, h, bits⟩ 1 c)]) 3 (fun x => ar.length + 1 - x.1.1) ⟨(0, (putIR ((a0 :: ar).length : Nat)).1), by simp⟩
  (fun hH hT => leI [] hH hT rfl ⟨trivial, zac zaa _ _ _ _ _, zad (by omega) _, trivial⟩ ⟨rfl, rfl, trivial⟩ ⟨Fz.le_refl F, zas zaa (zao _ _ _ _), rfl, trivial⟩) ?_
 rintro ⟨⟨k, ob⟩, hk, hob⟩ hH hT
 replace hk : k ≤ ar.length + 1 := hk
 replace hob : ob = (putIR ((a0 :: ar).length : Nat)).1 ++ (((a0 :: ar).take k).map (zbc 2)).flatten := hob
 have hobl := zec hl hob
 have hfin : k = ar.length + 1 → zar 2 ⟨false, a0 :: ar, w, h, bits⟩ = ob := fun gk => by
  rw [hW, hob, gk, List.take_of_length_le (by simp)]
 by_cases gk : k < ar.length + 1
 ·have gl : k < (a0 :: ar).length := gk
  have hex : ∃ x, (a0 :: ar)[k] = x := ⟨_, rfl⟩
  obtain ⟨⟨t, n0, n1, n2, n3⟩, hkx⟩ := hex
  have hcell : ((a0 :: ar).map encL)[0 + (k : Int).toNat]? = some (encL (t, n0, n1, n2, n3)) := by rw [Nat.zero_add, Int.toNat_natCast, List.getElem?_map, List.getElem?_eq_getElem gl, hkx]; rfl
  have hlt : (k : Int) < ((ar.length + 1 : Nat) : Int) := by omega
  have hidx : 0 ≤ (k : Int) ∧ (k : Int) < ((ar.length + 1 : Nat) : Int) := by omega
  have hnext := zdi gl hkx hob
  have e0 := zaq n0
  have e1 := zaq n1
  have e2 := zaq n2
  have e3 := zaq n3
  have et := zbv t
  have ht := hx _ (List.getElem_mem gl)
  rw [hkx] at ht
  replace ht : t.length ≤ 1000000 := ht
  have pt := zbi F t (by omega)
  have p0 := zak F n0
  have p1 := zak F n1
  have p2 := zak F n2
  have p3 := zak F n3
  have hk1 : k + 1 ≤ ar.length + 1 := gk
  have hdec : ar.length + 1 - (k + 1) < ar.length + 1 - k := by omega
  have hkm : k < 4611686018427387904 := by
   have h9 : ar.length + 1 ≤ 1000 := hl
   omega
  clear hfin hx hob
  have hb0 : (ob).length + (putIR n0).1.length ≤ 9223372036854775807 := by (try simp only [List.length_append]); omega
  have hnx : ob ++ (putIR n0).1 = (putIR ((a0 :: ar).length : Nat)).1 ++ (((a0 :: ar).take (k + 1)).map (zbc 2)).flatten := by
   rw [← hnext, show zbc 2 (t, n0, n1, n2, n3) = [(putIR n0).1].flatten from rfl]
   simp only [List.flatten_cons, List.flatten_nil, List.append_nil, List.append_assoc]
  conv=>whnf
  refine br (fun _ => ?_) (fun g => absurd hlt (of_decide_eq_false g));conv=>whnf
  refine br (fun g => absurd g (by decide)) (fun _ => ?_);conv=>whnf
  refine zb4 hΘ 1 ?_;conv=>whnf
  refine usePu hcol rfl ⟨rfl, trivial⟩ rfl ?_;conv=>whnf
  refine br (fun _ => ?_) (fun g => absurd g (by decide));conv=>whnf
  refine ⟨rfl, hidx, ?_⟩;conv=>whnf
  refine ⟨by decide, ?_⟩;conv=>whnf
  refine ⟨rfl, _, hcell, ?_⟩;conv=>whnf
  refine usePu p0 rfl ⟨rfl, trivial⟩ rfl ?_;conv=>whnf
  refine ⟨hb0, ?_⟩;conv=>whnf
  refine sr_go hΘ ?_;conv=>whnf
  refine usePu hcol rfl ⟨rfl, trivial⟩ rfl ?_;conv=>whnf
  refine br (fun g => absurd g (by decide)) (fun _ => ?_);conv=>whnf
  exact ⟨⟨(k + 1, ob ++ (putIR n0).1), hk1, hnx⟩, hdec, leR [] hH hT rfl ⟨trivial, zac zaa _ _ _ _ _, zad (by omega) _, trivial⟩ ⟨rfl, cnt hkm, trivial⟩ ⟨Fz.le_refl F, zas zaa (zao _ _ _ _), rfl, trivial⟩⟩
 ·have gk : k = ar.length + 1 := by omega
  have hge : ¬ (k : Int) < ((ar.length + 1 : Nat) : Int) := by omega
  have e := hfin gk
  conv=>whnf
  refine br (fun g => absurd (of_decide_eq_true g) hge) (fun _ => ?_);conv=>whnf
  exact fin _ F _ _ e (Fz.le_refl F) rfl rfl
set_option maxHeartbeats 8000000 in
theorem zml (F : Fz) (L : List RLn) (w h : Int) (bits : List UInt8) (c : Nat) (hne : L ≠ []) (hl : L.length ≤ 1000) (hx : ∀ x ∈ L, x.1.length ≤ 1000000) :
  Ct Tryz.prog 32 [.va (.int .i64 3), rvalV ⟨false, L, w, h, bits⟩ 1 c] F [(1, gE 88 5 encL c L)] 2
   (fun o F0 h0 n0 => Fz.le F F0 ∧ n0 = 2 ∧ o = .ret (.va (.str (zar 3 ⟨false, L, w, h, bits⟩))) ∧ h0 = [(1, gE 88 5 encL c L)]) := by
 have hW : zar 3 ⟨false, L, w, h, bits⟩ = (putIR (L.length : Nat)).1 ++ (L.map (zbc 3)).flatten := rfl
 have fin : ∀ (t : List UInt8) (F1 : Fz) (hh : Hp) (nx : Nat), zar 3 ⟨false, L, w, h, bits⟩ = t → Fz.le F F1 → lget hh 0 = some (.frz F1) → lget hh 1 = some (gE 88 5 encL c L) →
   Cln 2 (fun o F0 h0 n0 => Fz.le F F0 ∧ (Fz.le F F0 ∧ n0 = 2 ∧ o = .ret (.va (.str (zar 3 ⟨false, L, w, h, bits⟩))) ∧ h0 = [(1, gE 88 5 encL c L)])) (.ret (.va (.str t))) hh nx := by
  intro t F1 hh nx hb hle h0 h1
  rw [hb]
  exact clean [] (.ret (.va (.str t))) F1 [(1, gE 88 5 encL c L)] 2 ⟨hle, hle, rfl, rfl, rfl⟩ (zat _) rfl rfl trivial ⟨zac zaa _ _ _ _ _, trivial⟩ ⟨by simp only [entE, aget, Ent.ren]; rw [h0]; exact Fz.le_refl F1, by simp only [entE, aget]; rw [h1]; exact zas zaa (zao _ _ _ _), trivial⟩
 have hp0 := zak F (L.length : Nat)
 have hcol := zce 3 F
 rw [show ((colN 3 : Nat) : Int) = 3 by decide] at hcol
 rcases L with _ | ⟨a0, ar⟩
 ·exact absurd rfl hne
 refine ct_of hΘ Tryz.func32 rfl (by decide) _ _ rfl rfl rfl ?_;conv=>whnf
 refine br (fun g => absurd g (by decide)) (fun _ => ?_);conv=>whnf
 refine usePu hp0 rfl ⟨rfl, trivial⟩ rfl ?_;conv=>whnf
 refine za0 hΘ (X := { x : Nat × List UInt8 // x.1 ≤ ar.length + 1 ∧ x.2 = (putIR ((a0 :: ar).length : Nat)).1 ++ (((a0 :: ar).take x.1).map (zbc 3)).flatten }) (fun x => [(5, .va (.str x.1.2)), (12, .va (.int .i64 x.1.1))]) [13, 14, 15, 16, 17, 60, 61, 62, 63, 64, 65, 66, 67, 68, 69, 70, 71, 72, 73, 74, 75, 76, 77, 78, 79, 80, 81, 82, 83, 84, 85, 86, 87, 88, 89, 90, 91, 92, 93, 94, 95, 96, 97, 98, 99, 100, 101, 102]
  (fun _ => [(0, .frz F), (1, gE 88 5 encL c (a0 :: ar)), (2, rvalE ⟨false, a0 :: ar, w, h, bits⟩ 1 c)]) 3 (fun x => ar.length + 1 - x.1.1) ⟨(0, (putIR ((a0 :: ar).length : Nat)).1), by simp⟩
  (fun hH hT => leI [] hH hT rfl ⟨trivial, zac zaa _ _ _ _ _, zad (by omega) _, trivial⟩ ⟨rfl, rfl, trivial⟩ ⟨Fz.le_refl F, zas zaa (zao _ _ _ _), rfl, trivial⟩) ?_
 rintro ⟨⟨k, ob⟩, hk, hob⟩ hH hT
 replace hk : k ≤ ar.length + 1 := hk
 replace hob : ob = (putIR ((a0 :: ar).length : Nat)).1 ++ (((a0 :: ar).take k).map (zbc 3)).flatten := hob
 have hobl := zec hl hob
 have hfin : k = ar.length + 1 → zar 3 ⟨false, a0 :: ar, w, h, bits⟩ = ob := fun gk => by
  rw [hW, hob, gk, List.take_of_length_le (by simp)]
 by_cases gk : k < ar.length + 1
 ·have gl : k < (a0 :: ar).length := gk
  have hex : ∃ x, (a0 :: ar)[k] = x := ⟨_, rfl⟩
  obtain ⟨⟨t, n0, n1, n2, n3⟩, hkx⟩ := hex
  have hcell : ((a0 :: ar).map encL)[0 + (k : Int).toNat]? = some (encL (t, n0, n1, n2, n3)) := by rw [Nat.zero_add, Int.toNat_natCast, List.getElem?_map, List.getElem?_eq_getElem gl, hkx]; rfl
  have hlt : (k : Int) < ((ar.length + 1 : Nat) : Int) := by omega
  have hidx : 0 ≤ (k : Int) ∧ (k : Int) < ((ar.length + 1 : Nat) : Int) := by omega
  have hnext := zdi gl hkx hob
  have e0 := zaq n0
  have e1 := zaq n1
  have e2 := zaq n2
  have e3 := zaq n3
  have et := zbv t
  have ht := hx _ (List.getElem_mem gl)
  rw [hkx] at ht
  replace ht : t.length ≤ 1000000 := ht
  have pt := zbi F t (by omega)
  have p0 := zak F n0
  have p1 := zak F n1
  have p2 := zak F n2
  have p3 := zak F n3
  have hk1 : k + 1 ≤ ar.length + 1 := gk
  have hdec : ar.length + 1 - (k + 1) < ar.length + 1 - k := by omega
  have hkm : k < 4611686018427387904 := by
   have h9 : ar.length + 1 ≤ 1000 := hl
   omega
  clear hfin hx hob
  have hb0 : (ob).length + (putIR n0).1.length ≤ 9223372036854775807 := by (try simp only [List.length_append]); omega
  have hb1 : (ob ++ (putIR n0).1).length + (putIR n1).1.length ≤ 9223372036854775807 := by (try simp only [List.length_append]); omega
  have hb2 : (ob ++ (putIR n0).1 ++ (putIR n1).1).length + (putIR n2).1.length ≤ 9223372036854775807 := by (try simp only [List.length_append]); omega
  have hnx : ob ++ (putIR n0).1 ++ (putIR n1).1 ++ (putIR n2).1 = (putIR ((a0 :: ar).length : Nat)).1 ++ (((a0 :: ar).take (k + 1)).map (zbc 3)).flatten := by
   rw [← hnext, show zbc 3 (t, n0, n1, n2, n3) = [(putIR n0).1, (putIR n1).1, (putIR n2).1].flatten from rfl]
   simp only [List.flatten_cons, List.flatten_nil, List.append_nil, List.append_assoc]
  conv=>whnf
  refine br (fun _ => ?_) (fun g => absurd hlt (of_decide_eq_false g));conv=>whnf
  refine br (fun g => absurd g (by decide)) (fun _ => ?_);conv=>whnf
  refine zb4 hΘ 3 ?_;conv=>whnf
  refine usePu hcol rfl ⟨rfl, trivial⟩ rfl ?_;conv=>whnf
  refine br (fun _ => ?_) (fun g => absurd g (by decide));conv=>whnf
  refine ⟨rfl, hidx, ?_⟩;conv=>whnf
  refine ⟨by decide, ?_⟩;conv=>whnf
  refine ⟨rfl, _, hcell, ?_⟩;conv=>whnf
  refine usePu p0 rfl ⟨rfl, trivial⟩ rfl ?_;conv=>whnf
  refine ⟨hb0, ?_⟩;conv=>whnf
  refine sr_go hΘ ?_;conv=>whnf
  refine usePu hcol rfl ⟨rfl, trivial⟩ rfl ?_;conv=>whnf
  refine br (fun _ => ?_) (fun g => absurd g (by decide));conv=>whnf
  refine ⟨rfl, hidx, ?_⟩;conv=>whnf
  refine ⟨by decide, ?_⟩;conv=>whnf
  refine ⟨rfl, _, hcell, ?_⟩;conv=>whnf
  refine usePu p1 rfl ⟨rfl, trivial⟩ rfl ?_;conv=>whnf
  refine ⟨hb1, ?_⟩;conv=>whnf
  refine sr_go hΘ ?_;conv=>whnf
  refine usePu hcol rfl ⟨rfl, trivial⟩ rfl ?_;conv=>whnf
  refine br (fun _ => ?_) (fun g => absurd g (by decide));conv=>whnf
  refine ⟨rfl, hidx, ?_⟩;conv=>whnf
  refine ⟨by decide, ?_⟩;conv=>whnf
  refine ⟨rfl, _, hcell, ?_⟩;conv=>whnf
  refine usePu p2 rfl ⟨rfl, trivial⟩ rfl ?_;conv=>whnf
  refine ⟨hb2, ?_⟩;conv=>whnf
  refine sr_go hΘ ?_;conv=>whnf
  refine usePu hcol rfl ⟨rfl, trivial⟩ rfl ?_;conv=>whnf
  refine br (fun g => absurd g (by decide)) (fun _ => ?_);conv=>whnf
  exact ⟨⟨(k + 1, ob ++ (putIR n0).1 ++ (putIR n1).1 ++ (putIR n2).1), hk1, hnx⟩, hdec, leR [] hH hT rfl ⟨trivial, zac zaa _ _ _ _ _, zad (by omega) _, trivial⟩ ⟨rfl, cnt hkm, trivial⟩ ⟨Fz.le_refl F, zas zaa (zao _ _ _ _), rfl, trivial⟩⟩
 ·have gk : k = ar.length + 1 := by omega
  have hge : ¬ (k : Int) < ((ar.length + 1 : Nat) : Int) := by omega
  have e := hfin gk
  conv=>whnf
  refine br (fun g => absurd (of_decide_eq_true g) hge) (fun _ => ?_);conv=>whnf
  exact fin _ F _ _ e (Fz.le_refl F) rfl rfl
set_option maxHeartbeats 8000000 in
theorem zmk (F : Fz) (L : List RLn) (w h : Int) (bits : List UInt8) (c : Nat) (hne : L ≠ []) (hl : L.length ≤ 1000) (hx : ∀ x ∈ L, x.1.length ≤ 1000000) :
  Ct Tryz.prog 32 [.va (.int .i64 4), rvalV ⟨false, L, w, h, bits⟩ 1 c] F [(1, gE 88 5 encL c L)] 2
   (fun o F0 h0 n0 => Fz.le F F0 ∧ n0 = 2 ∧ o = .ret (.va (.str (zar 4 ⟨false, L, w, h, bits⟩))) ∧ h0 = [(1, gE 88 5 encL c L)]) := by
 have hW : zar 4 ⟨false, L, w, h, bits⟩ = (putIR (L.length : Nat)).1 ++ (L.map (zbc 4)).flatten := rfl
 have fin : ∀ (t : List UInt8) (F1 : Fz) (hh : Hp) (nx : Nat), zar 4 ⟨false, L, w, h, bits⟩ = t → Fz.le F F1 → lget hh 0 = some (.frz F1) → lget hh 1 = some (gE 88 5 encL c L) →
   Cln 2 (fun o F0 h0 n0 => Fz.le F F0 ∧ (Fz.le F F0 ∧ n0 = 2 ∧ o = .ret (.va (.str (zar 4 ⟨false, L, w, h, bits⟩))) ∧ h0 = [(1, gE 88 5 encL c L)])) (.ret (.va (.str t))) hh nx := by
  intro t F1 hh nx hb hle h0 h1
  rw [hb]
  exact clean [] (.ret (.va (.str t))) F1 [(1, gE 88 5 encL c L)] 2 ⟨hle, hle, rfl, rfl, rfl⟩ (zat _) rfl rfl trivial ⟨zac zaa _ _ _ _ _, trivial⟩ ⟨by simp only [entE, aget, Ent.ren]; rw [h0]; exact Fz.le_refl F1, by simp only [entE, aget]; rw [h1]; exact zas zaa (zao _ _ _ _), trivial⟩
 have hp0 := zak F (L.length : Nat)
 have hcol := zce 4 F
 rw [show ((colN 4 : Nat) : Int) = 4 by decide] at hcol
 rcases L with _ | ⟨a0, ar⟩
 ·exact absurd rfl hne
 refine ct_of hΘ Tryz.func32 rfl (by decide) _ _ rfl rfl rfl ?_;conv=>whnf
 refine br (fun g => absurd g (by decide)) (fun _ => ?_);conv=>whnf
 refine usePu hp0 rfl ⟨rfl, trivial⟩ rfl ?_;conv=>whnf
 refine za0 hΘ (X := { x : Nat × List UInt8 // x.1 ≤ ar.length + 1 ∧ x.2 = (putIR ((a0 :: ar).length : Nat)).1 ++ (((a0 :: ar).take x.1).map (zbc 4)).flatten }) (fun x => [(5, .va (.str x.1.2)), (12, .va (.int .i64 x.1.1))]) [13, 14, 15, 16, 17, 60, 61, 62, 63, 64, 65, 66, 67, 68, 69, 70, 71, 72, 73, 74, 75, 76, 77, 78, 79, 80, 81, 82, 83, 84, 85, 86, 87, 88, 89, 90, 91, 92, 93, 94, 95, 96, 97, 98, 99, 100, 101, 102]
  (fun _ => [(0, .frz F), (1, gE 88 5 encL c (a0 :: ar)), (2, rvalE ⟨false, a0 :: ar, w, h, bits⟩ 1 c)]) 3 (fun x => ar.length + 1 - x.1.1) ⟨(0, (putIR ((a0 :: ar).length : Nat)).1), by simp⟩
  (fun hH hT => leI [] hH hT rfl ⟨trivial, zac zaa _ _ _ _ _, zad (by omega) _, trivial⟩ ⟨rfl, rfl, trivial⟩ ⟨Fz.le_refl F, zas zaa (zao _ _ _ _), rfl, trivial⟩) ?_
 rintro ⟨⟨k, ob⟩, hk, hob⟩ hH hT
 replace hk : k ≤ ar.length + 1 := hk
 replace hob : ob = (putIR ((a0 :: ar).length : Nat)).1 ++ (((a0 :: ar).take k).map (zbc 4)).flatten := hob
 have hobl := zec hl hob
 have hfin : k = ar.length + 1 → zar 4 ⟨false, a0 :: ar, w, h, bits⟩ = ob := fun gk => by
  rw [hW, hob, gk, List.take_of_length_le (by simp)]
 by_cases gk : k < ar.length + 1
 ·have gl : k < (a0 :: ar).length := gk
  have hex : ∃ x, (a0 :: ar)[k] = x := ⟨_, rfl⟩
  obtain ⟨⟨t, n0, n1, n2, n3⟩, hkx⟩ := hex
  have hcell : ((a0 :: ar).map encL)[0 + (k : Int).toNat]? = some (encL (t, n0, n1, n2, n3)) := by rw [Nat.zero_add, Int.toNat_natCast, List.getElem?_map, List.getElem?_eq_getElem gl, hkx]; rfl
  have hlt : (k : Int) < ((ar.length + 1 : Nat) : Int) := by omega
  have hidx : 0 ≤ (k : Int) ∧ (k : Int) < ((ar.length + 1 : Nat) : Int) := by omega
  have hnext := zdi gl hkx hob
  have e0 := zaq n0
  have e1 := zaq n1
  have e2 := zaq n2
  have e3 := zaq n3
  have et := zbv t
  have ht := hx _ (List.getElem_mem gl)
  rw [hkx] at ht
  replace ht : t.length ≤ 1000000 := ht
  have pt := zbi F t (by omega)
  have p0 := zak F n0
  have p1 := zak F n1
  have p2 := zak F n2
  have p3 := zak F n3
  have hk1 : k + 1 ≤ ar.length + 1 := gk
  have hdec : ar.length + 1 - (k + 1) < ar.length + 1 - k := by omega
  have hkm : k < 4611686018427387904 := by
   have h9 : ar.length + 1 ≤ 1000 := hl
   omega
  clear hfin hx hob
  have hb0 : (ob).length + (putIR n0).1.length ≤ 9223372036854775807 := by (try simp only [List.length_append]); omega
  have hb1 : (ob ++ (putIR n0).1).length + (putIR n1).1.length ≤ 9223372036854775807 := by (try simp only [List.length_append]); omega
  have hb2 : (ob ++ (putIR n0).1 ++ (putIR n1).1).length + (putIR n2).1.length ≤ 9223372036854775807 := by (try simp only [List.length_append]); omega
  have hb3 : (ob ++ (putIR n0).1 ++ (putIR n1).1 ++ (putIR n2).1).length + (putIR n3).1.length ≤ 9223372036854775807 := by (try simp only [List.length_append]); omega
  have hnx : ob ++ (putIR n0).1 ++ (putIR n1).1 ++ (putIR n2).1 ++ (putIR n3).1 = (putIR ((a0 :: ar).length : Nat)).1 ++ (((a0 :: ar).take (k + 1)).map (zbc 4)).flatten := by
   rw [← hnext, show zbc 4 (t, n0, n1, n2, n3) = [(putIR n0).1, (putIR n1).1, (putIR n2).1, (putIR n3).1].flatten from rfl]
   simp only [List.flatten_cons, List.flatten_nil, List.append_nil, List.append_assoc]
  conv=>whnf
  refine br (fun _ => ?_) (fun g => absurd hlt (of_decide_eq_false g));conv=>whnf
  refine br (fun g => absurd g (by decide)) (fun _ => ?_);conv=>whnf
  refine zb4 hΘ 4 ?_;conv=>whnf
  refine usePu hcol rfl ⟨rfl, trivial⟩ rfl ?_;conv=>whnf
  refine br (fun _ => ?_) (fun g => absurd g (by decide));conv=>whnf
  refine ⟨rfl, hidx, ?_⟩;conv=>whnf
  refine ⟨by decide, ?_⟩;conv=>whnf
  refine ⟨rfl, _, hcell, ?_⟩;conv=>whnf
  refine usePu p0 rfl ⟨rfl, trivial⟩ rfl ?_;conv=>whnf
  refine ⟨hb0, ?_⟩;conv=>whnf
  refine sr_go hΘ ?_;conv=>whnf
  refine usePu hcol rfl ⟨rfl, trivial⟩ rfl ?_;conv=>whnf
  refine br (fun _ => ?_) (fun g => absurd g (by decide));conv=>whnf
  refine ⟨rfl, hidx, ?_⟩;conv=>whnf
  refine ⟨by decide, ?_⟩;conv=>whnf
  refine ⟨rfl, _, hcell, ?_⟩;conv=>whnf
  refine usePu p1 rfl ⟨rfl, trivial⟩ rfl ?_;conv=>whnf
  refine ⟨hb1, ?_⟩;conv=>whnf
  refine sr_go hΘ ?_;conv=>whnf
  refine usePu hcol rfl ⟨rfl, trivial⟩ rfl ?_;conv=>whnf
  refine br (fun _ => ?_) (fun g => absurd g (by decide));conv=>whnf
  refine ⟨rfl, hidx, ?_⟩;conv=>whnf
  refine ⟨by decide, ?_⟩;conv=>whnf
  refine ⟨rfl, _, hcell, ?_⟩;conv=>whnf
  refine usePu p2 rfl ⟨rfl, trivial⟩ rfl ?_;conv=>whnf
  refine ⟨hb2, ?_⟩;conv=>whnf
  refine sr_go hΘ ?_;conv=>whnf
  refine usePu hcol rfl ⟨rfl, trivial⟩ rfl ?_;conv=>whnf
  refine br (fun _ => ?_) (fun g => absurd g (by decide));conv=>whnf
  refine ⟨rfl, hidx, ?_⟩;conv=>whnf
  refine ⟨by decide, ?_⟩;conv=>whnf
  refine ⟨rfl, _, hcell, ?_⟩;conv=>whnf
  refine usePu p3 rfl ⟨rfl, trivial⟩ rfl ?_;conv=>whnf
  refine ⟨hb3, ?_⟩;conv=>whnf
  refine sr_go hΘ ?_;conv=>whnf
  refine usePu hcol rfl ⟨rfl, trivial⟩ rfl ?_;conv=>whnf
  refine br (fun g => absurd g (by decide)) (fun _ => ?_);conv=>whnf
  exact ⟨⟨(k + 1, ob ++ (putIR n0).1 ++ (putIR n1).1 ++ (putIR n2).1 ++ (putIR n3).1), hk1, hnx⟩, hdec, leR [] hH hT rfl ⟨trivial, zac zaa _ _ _ _ _, zad (by omega) _, trivial⟩ ⟨rfl, cnt hkm, trivial⟩ ⟨Fz.le_refl F, zas zaa (zao _ _ _ _), rfl, trivial⟩⟩
 ·have gk : k = ar.length + 1 := by omega
  have hge : ¬ (k : Int) < ((ar.length + 1 : Nat) : Int) := by omega
  have e := hfin gk
  conv=>whnf
  refine br (fun g => absurd (of_decide_eq_true g) hge) (fun _ => ?_);conv=>whnf
  exact fin _ F _ _ e (Fz.le_refl F) rfl rfl
set_option maxHeartbeats 8000000 in
theorem zm1 (F : Fz) (L : List RLn) (w h : Int) (bits : List UInt8) (c : Nat) (hne : L ≠ []) (hl : L.length ≤ 1000) (hx : ∀ x ∈ L, x.1.length ≤ 1000000) :
  Ct Tryz.prog 32 [.va (.int .i64 5), rvalV ⟨false, L, w, h, bits⟩ 1 c] F [(1, gE 88 5 encL c L)] 2
   (fun o F0 h0 n0 => Fz.le F F0 ∧ n0 = 2 ∧ o = .ret (.va (.str (zar 5 ⟨false, L, w, h, bits⟩))) ∧ h0 = [(1, gE 88 5 encL c L)]) := by
 have hW : zar 5 ⟨false, L, w, h, bits⟩ = (putIR (L.length : Nat)).1 ++ (L.map (zbc 5)).flatten := rfl
 have fin : ∀ (t : List UInt8) (F1 : Fz) (hh : Hp) (nx : Nat), zar 5 ⟨false, L, w, h, bits⟩ = t → Fz.le F F1 → lget hh 0 = some (.frz F1) → lget hh 1 = some (gE 88 5 encL c L) →
   Cln 2 (fun o F0 h0 n0 => Fz.le F F0 ∧ (Fz.le F F0 ∧ n0 = 2 ∧ o = .ret (.va (.str (zar 5 ⟨false, L, w, h, bits⟩))) ∧ h0 = [(1, gE 88 5 encL c L)])) (.ret (.va (.str t))) hh nx := by
  intro t F1 hh nx hb hle h0 h1
  rw [hb]
  exact clean [] (.ret (.va (.str t))) F1 [(1, gE 88 5 encL c L)] 2 ⟨hle, hle, rfl, rfl, rfl⟩ (zat _) rfl rfl trivial ⟨zac zaa _ _ _ _ _, trivial⟩ ⟨by simp only [entE, aget, Ent.ren]; rw [h0]; exact Fz.le_refl F1, by simp only [entE, aget]; rw [h1]; exact zas zaa (zao _ _ _ _), trivial⟩
 have hp0 := zak F (L.length : Nat)
 have hcol := zce 5 F
 rw [show ((colN 5 : Nat) : Int) = 3 by decide] at hcol
 rcases L with _ | ⟨a0, ar⟩
 ·exact absurd rfl hne
 refine ct_of hΘ Tryz.func32 rfl (by decide) _ _ rfl rfl rfl ?_;conv=>whnf
 refine br (fun g => absurd g (by decide)) (fun _ => ?_);conv=>whnf
 refine usePu hp0 rfl ⟨rfl, trivial⟩ rfl ?_;conv=>whnf
 refine za0 hΘ (X := { x : Nat × List UInt8 // x.1 ≤ ar.length + 1 ∧ x.2 = (putIR ((a0 :: ar).length : Nat)).1 ++ (((a0 :: ar).take x.1).map (zbc 5)).flatten }) (fun x => [(5, .va (.str x.1.2)), (12, .va (.int .i64 x.1.1))]) [13, 14, 15, 16, 17, 60, 61, 62, 63, 64, 65, 66, 67, 68, 69, 70, 71, 72, 73, 74, 75, 76, 77, 78, 79, 80, 81, 82, 83, 84, 85, 86, 87, 88, 89, 90, 91, 92, 93, 94, 95, 96, 97, 98, 99, 100, 101, 102]
  (fun _ => [(0, .frz F), (1, gE 88 5 encL c (a0 :: ar)), (2, rvalE ⟨false, a0 :: ar, w, h, bits⟩ 1 c)]) 3 (fun x => ar.length + 1 - x.1.1) ⟨(0, (putIR ((a0 :: ar).length : Nat)).1), by simp⟩
  (fun hH hT => leI [] hH hT rfl ⟨trivial, zac zaa _ _ _ _ _, zad (by omega) _, trivial⟩ ⟨rfl, rfl, trivial⟩ ⟨Fz.le_refl F, zas zaa (zao _ _ _ _), rfl, trivial⟩) ?_
 rintro ⟨⟨k, ob⟩, hk, hob⟩ hH hT
 replace hk : k ≤ ar.length + 1 := hk
 replace hob : ob = (putIR ((a0 :: ar).length : Nat)).1 ++ (((a0 :: ar).take k).map (zbc 5)).flatten := hob
 have hobl := zec hl hob
 have hfin : k = ar.length + 1 → zar 5 ⟨false, a0 :: ar, w, h, bits⟩ = ob := fun gk => by
  rw [hW, hob, gk, List.take_of_length_le (by simp)]
 by_cases gk : k < ar.length + 1
 ·have gl : k < (a0 :: ar).length := gk
  have hex : ∃ x, (a0 :: ar)[k] = x := ⟨_, rfl⟩
  obtain ⟨⟨t, n0, n1, n2, n3⟩, hkx⟩ := hex
  have hcell : ((a0 :: ar).map encL)[0 + (k : Int).toNat]? = some (encL (t, n0, n1, n2, n3)) := by rw [Nat.zero_add, Int.toNat_natCast, List.getElem?_map, List.getElem?_eq_getElem gl, hkx]; rfl
  have hlt : (k : Int) < ((ar.length + 1 : Nat) : Int) := by omega
  have hidx : 0 ≤ (k : Int) ∧ (k : Int) < ((ar.length + 1 : Nat) : Int) := by omega
  have hnext := zdi gl hkx hob
  have e0 := zaq n0
  have e1 := zaq n1
  have e2 := zaq n2
  have e3 := zaq n3
  have et := zbv t
  have ht := hx _ (List.getElem_mem gl)
  rw [hkx] at ht
  replace ht : t.length ≤ 1000000 := ht
  have pt := zbi F t (by omega)
  have p0 := zak F n0
  have p1 := zak F n1
  have p2 := zak F n2
  have p3 := zak F n3
  have hk1 : k + 1 ≤ ar.length + 1 := gk
  have hdec : ar.length + 1 - (k + 1) < ar.length + 1 - k := by omega
  have hkm : k < 4611686018427387904 := by
   have h9 : ar.length + 1 ≤ 1000 := hl
   omega
  clear hfin hx hob
  have hb0 : (ob).length + (putIR n0).1.length ≤ 9223372036854775807 := by (try simp only [List.length_append]); omega
  have hb1 : (ob ++ (putIR n0).1).length + (putIR n1).1.length ≤ 9223372036854775807 := by (try simp only [List.length_append]); omega
  have hb2 : (ob ++ (putIR n0).1 ++ (putIR n1).1).length + (putIR n2).1.length ≤ 9223372036854775807 := by (try simp only [List.length_append]); omega
  have hnx : ob ++ (putIR n0).1 ++ (putIR n1).1 ++ (putIR n2).1 = (putIR ((a0 :: ar).length : Nat)).1 ++ (((a0 :: ar).take (k + 1)).map (zbc 5)).flatten := by
   rw [← hnext, show zbc 5 (t, n0, n1, n2, n3) = [(putIR n0).1, (putIR n1).1, (putIR n2).1].flatten from rfl]
   simp only [List.flatten_cons, List.flatten_nil, List.append_nil, List.append_assoc]
  conv=>whnf
  refine br (fun _ => ?_) (fun g => absurd hlt (of_decide_eq_false g));conv=>whnf
  refine br (fun g => absurd g (by decide)) (fun _ => ?_);conv=>whnf
  refine zb4 hΘ 3 ?_;conv=>whnf
  refine usePu hcol rfl ⟨rfl, trivial⟩ rfl ?_;conv=>whnf
  refine br (fun _ => ?_) (fun g => absurd g (by decide));conv=>whnf
  refine ⟨rfl, hidx, ?_⟩;conv=>whnf
  refine ⟨by decide, ?_⟩;conv=>whnf
  refine ⟨rfl, _, hcell, ?_⟩;conv=>whnf
  refine usePu p0 rfl ⟨rfl, trivial⟩ rfl ?_;conv=>whnf
  refine ⟨hb0, ?_⟩;conv=>whnf
  refine sr_go hΘ ?_;conv=>whnf
  refine usePu hcol rfl ⟨rfl, trivial⟩ rfl ?_;conv=>whnf
  refine br (fun _ => ?_) (fun g => absurd g (by decide));conv=>whnf
  refine ⟨rfl, hidx, ?_⟩;conv=>whnf
  refine ⟨by decide, ?_⟩;conv=>whnf
  refine ⟨rfl, _, hcell, ?_⟩;conv=>whnf
  refine usePu p1 rfl ⟨rfl, trivial⟩ rfl ?_;conv=>whnf
  refine ⟨hb1, ?_⟩;conv=>whnf
  refine sr_go hΘ ?_;conv=>whnf
  refine usePu hcol rfl ⟨rfl, trivial⟩ rfl ?_;conv=>whnf
  refine br (fun _ => ?_) (fun g => absurd g (by decide));conv=>whnf
  refine ⟨rfl, hidx, ?_⟩;conv=>whnf
  refine ⟨by decide, ?_⟩;conv=>whnf
  refine ⟨rfl, _, hcell, ?_⟩;conv=>whnf
  refine usePu p2 rfl ⟨rfl, trivial⟩ rfl ?_;conv=>whnf
  refine ⟨hb2, ?_⟩;conv=>whnf
  refine sr_go hΘ ?_;conv=>whnf
  refine usePu hcol rfl ⟨rfl, trivial⟩ rfl ?_;conv=>whnf
  refine br (fun g => absurd g (by decide)) (fun _ => ?_);conv=>whnf
  exact ⟨⟨(k + 1, ob ++ (putIR n0).1 ++ (putIR n1).1 ++ (putIR n2).1), hk1, hnx⟩, hdec, leR [] hH hT rfl ⟨trivial, zac zaa _ _ _ _ _, zad (by omega) _, trivial⟩ ⟨rfl, cnt hkm, trivial⟩ ⟨Fz.le_refl F, zas zaa (zao _ _ _ _), rfl, trivial⟩⟩
 ·have gk : k = ar.length + 1 := by omega
  have hge : ¬ (k : Int) < ((ar.length + 1 : Nat) : Int) := by omega
  have e := hfin gk
  conv=>whnf
  refine br (fun g => absurd (of_decide_eq_true g) hge) (fun _ => ?_);conv=>whnf
  exact fin _ F _ _ e (Fz.le_refl F) rfl rfl
end Go.Proofs.YtblllibdahkgfaaGreatDoor

namespace Go.Proofs.YtblllibdahkgfaaGreatDoor
open Go Sx
set_option maxRecDepth 100000
theorem rwEnd {F F1 : Fz} {p : Int} {v : RVal} {c : Nat} {t : List UInt8} {hh : Hp} {nx : Nat} (hb : zar p v = t) (hle : Fz.le F F1) (h0 : lget hh 0 = some (.frz F1)) (h1 : lget hh 1 = some (gE 88 5 encL c v.lines)) :
  Cln 2 (fun o F0 h0 n0 => Fz.le F F0 ∧ (Fz.le F F0 ∧ n0 = 2 ∧ o = .ret (.va (.str (zar p v))) ∧ h0 = [(1, gE 88 5 encL c v.lines)])) (.ret (.va (.str t))) hh nx := by
 subst hb
 exact clean [] (.ret (.va (.str (zar p v)))) F1 [(1, gE 88 5 encL c v.lines)] 2 ⟨hle, hle, rfl, rfl, rfl⟩ (zat _) rfl rfl trivial ⟨zac zaa _ _ _ _ _, trivial⟩ ⟨by simp only [entE, aget, Ent.ren]; rw [h0]; exact Fz.le_refl F1, by simp only [entE, aget]; rw [h1]; exact zas zaa (zao _ _ _ _), trivial⟩
set_option maxHeartbeats 8000000 in
theorem zlr (F : Fz) (p w h : Int) (bits : List UInt8) (c : Nat) (hp : ¬ 6 ≤ p) :
  Ct Tryz.prog 32 [.va (.int .i64 p), rvalV ⟨false, [], w, h, bits⟩ 1 c] F [(1, gE 88 5 encL c [])] 2
   (fun o F0 h0 n0 => Fz.le F F0 ∧ n0 = 2 ∧ o = .ret (.va (.str (zar p ⟨false, [], w, h, bits⟩))) ∧ h0 = [(1, gE 88 5 encL c [])]) := by
 have hW : zar p ⟨false, [], w, h, bits⟩ = (putIR 0).1 := by
  rw [zar, if_neg (by simp), if_neg hp]; exact List.append_nil _
 have hp0 := zak F 0
 refine ct_of hΘ Tryz.func32 rfl (by decide) _ _ rfl rfl rfl ?_;conv=>whnf
 refine br (fun g => absurd (of_decide_eq_true g) hp) (fun _ => ?_);conv=>whnf
 refine usePu hp0 rfl ⟨rfl, trivial⟩ rfl ?_;conv=>whnf
 refine zb4 hΘ 0 ?_;conv=>whnf
 refine br (fun g => absurd g (by decide)) (fun _ => ?_);conv=>whnf
 exact rwEnd hW (Fz.le_refl F) rfl rfl
theorem zcu (F : Fz) (p : Int) (v : RVal) (c : Nat) (hp : 1 ≤ p ∧ p ≤ 8) (hl : v.lines.length ≤ 1000) (hx : ∀ x ∈ v.lines, x.1.length ≤ 1000000) (hb : v.bits.length ≤ 9000000000000000000) :
  Ct Tryz.prog 32 [.va (.int .i64 p), rvalV v 1 c] F [(1, gE 88 5 encL c v.lines)] 2
   (fun o F0 h0 n0 => Fz.le F F0 ∧ n0 = 2 ∧ o = .ret (.va (.str (zar p v))) ∧ h0 = [(1, gE 88 5 encL c v.lines)]) := by
 by_cases h6 : 6 ≤ p
 ·exact zo2 F p v c h6 hb
 obtain ⟨lost, L, w, h, bits⟩ := v
 cases lost with
 | true =>
  refine ct_of hΘ Tryz.func32 rfl (by decide) _ _ rfl rfl rfl ?_;conv=>whnf
  exact rwEnd (v := ⟨true, L, w, h, bits⟩) (t := []) rfl (Fz.le_refl F) rfl rfl
 | false =>
  by_cases hne : L = []
  ·subst hne
   exact zlr F p w h bits c h6
  have hpc : p = 1 ∨ p = 2 ∨ p = 3 ∨ p = 4 ∨ p = 5 := by omega
  rcases hpc with rfl | rfl | rfl | rfl | rfl
  ·exact zmb F L w h bits c hne hl hx
  ·exact zl5 F L w h bits c hne hl hx
  ·exact zml F L w h bits c hne hl hx
  ·exact zmk F L w h bits c hne hl hx
  ·exact zm1 F L w h bits c hne hl hx
end Go.Proofs.YtblllibdahkgfaaGreatDoor

namespace Go.Proofs.YtblllibdahkgfaaGreatDoor
open Go Sx
theorem zv2 (n : Int) : unz (zig n) = n := by
 unfold zig unz
 split <;> split <;> omega
theorem zpd (z : Nat) : putZ z ≠ [] := by
 by_cases h : z < 128
 ·rw [zeb h]; simp
 ·rw [ze4 h]; simp
theorem zrh (z : Nat) : ∀ (r : List UInt8) (f i acc : Nat), (putZ z).length ≤ f → ∃ b, decZ (putZ z ++ r) f i acc = some (acc + z * 128 ^ i, i + ((putZ z).length - 1), b) ∧ (b = 0 → z = 0) := by
 induction z using Nat.strongRecOn with
 | _ z ih =>
  intro r f i acc hf
  by_cases hz : z < 128
  ·rw [zeb hz] at hf ⊢
   obtain ⟨f, rfl⟩ : ∃ g, f = g + 1 := ⟨f - 1, by simp at hf; omega⟩
   have e : (UInt8.ofNat z).toNat = z := by rw [UInt8.toNat_ofNat']; exact Nat.mod_eq_of_lt (by omega)
   refine ⟨UInt8.ofNat z, ?_, fun h => ?_⟩
   ·rw [List.cons_append, List.nil_append, decZ, if_neg (by rw [e]; omega), e]; rfl
   ·rw [h] at e; exact e.symm
  ·have h1 := ih (z / 128) (by omega)
   rw [ze4 hz] at hf ⊢
   obtain ⟨f, rfl⟩ : ∃ g, f = g + 1 := ⟨f - 1, by simp at hf; omega⟩
   have e : (UInt8.ofNat (z % 128 + 128)).toNat = z % 128 + 128 := by rw [UInt8.toNat_ofNat']; exact Nat.mod_eq_of_lt (by omega)
   obtain ⟨b, h2, h3⟩ := h1 r f (i + 1) (acc + (z % 128 + 128) % 128 * 128 ^ i) (by simp at hf; omega)
   have hne : 0 < (putZ (z / 128)).length := List.length_pos_iff.2 (zpd _)
   refine ⟨b, ?_, fun hb => ?_⟩
   ·rw [List.cons_append, decZ, if_pos (by rw [e]; omega), e, h2, Nat.pow_succ]
    have e2 : acc + (z % 128 + 128) % 128 * 128 ^ i + z / 128 * (128 ^ i * 128) = acc + z * 128 ^ i := by
     have h4 : z * 128 ^ i = (z % 128 + 128 * (z / 128)) * 128 ^ i := by rw [Nat.mod_add_div]
     have h5 : (z % 128 + 128) % 128 = z % 128 := by omega
     rw [h4, h5, Nat.add_mul, Nat.mul_comm (128 ^ i) 128, ← Nat.mul_assoc, Nat.mul_comm (z / 128) 128]
     omega
    rw [e2, List.length_cons]
    have e3 : i + 1 + ((putZ (z / 128)).length - 1) = i + ((putZ (z / 128)).length + 1 - 1) := by omega
    rw [e3]
   ·have := h3 hb; omega
def okI (n : Int) : Prop := -4611686018427387903 ≤ n ∧ n ≤ 4611686018427387903
theorem zjd {n : Int} (h : okI n) : (putIR n).1 = putI n := by
 unfold okI at h
 rw [putIR, if_neg (by omega)]
theorem zhq (n : Int) : putI n ≠ [] := zpd _
theorem zdg (pre r : List UInt8) {n : Int} (h : okI n) : getI (pre ++ (putI n ++ r)) (pre.length : Nat) = (n, (((pre ++ putI n).length : Nat) : Int), 0) := by
 have hl := zkc n h
 have hne : 0 < (putI n).length := List.length_pos_iff.2 (zhq n)
 obtain ⟨b, h1, h2⟩ := zrh (zig n) r 9 0 0 hl
 rw [getI, if_neg (by rw [List.length_append]; omega), Int.toNat_natCast, List.drop_left]
 show (match decZ (putZ (zig n) ++ r) 9 0 0 with | none => _ | some (z, i, b) => _) = _
 rw [h1]
 have e1 : 0 + zig n * 128 ^ 0 = zig n := by simp
 simp only [e1, zv2]
 have hn : okI n := h
 unfold okI at h
 rw [if_neg]
 ·have e2 : ((0 + ((putZ (zig n)).length - 1) : Nat) : Int) + 1 = (putI n).length := by
   show ((0 + ((putI n).length - 1) : Nat) : Int) + 1 = _
   omega
  rw [List.length_append]
  have : (pre.length : Int) + ((0 + ((putZ (zig n)).length - 1) : Nat) : Int) + 1 = ((pre.length + (putI n).length : Nat) : Int) := by omega
  rw [this]
 ·rintro (⟨h3, h4⟩ | h3)
  ·have hz := h2 h3
   rw [hz, zeb (by omega)] at h4
   simp at h4
  ·omega
theorem zng (pre r t : List UInt8) (h : t.length ≤ 65536) : getS (pre ++ ((putSR t).1 ++ r)) (pre.length : Nat) = (t, (((pre ++ (putSR t).1).length : Nat) : Int), 0) := by
 have e : (putSR t).1 = putI t.length ++ t := by rw [putSR, if_neg (by omega)]
 have hok : okI (t.length : Int) := by unfold okI; omega
 rw [e]
 have hg := zdg pre (t ++ r) hok
 rw [List.append_assoc, getS, hg]
 dsimp only
 rw [if_neg (by simp), if_neg]
 ·have e1 : ((((pre ++ putI t.length).length : Nat) : Int) + (t.length : Int)).toNat = (pre ++ putI t.length ++ t).length := by
   rw [List.length_append (bs := t)]; omega
  have e2 : pre ++ (putI t.length ++ (t ++ r)) = (pre ++ putI t.length ++ t) ++ r := by simp only [List.append_assoc]
  rw [e1, e2, List.take_left, Int.toNat_natCast, List.drop_left]
  refine Prod.ext rfl (Prod.ext ?_ rfl)
  show (((pre ++ putI t.length).length : Nat) : Int) + (t.length : Int) = _
  show _ = (((pre ++ (putI t.length ++ t)).length : Nat) : Int)
  simp only [List.length_append]; omega
 ·rintro (h1 | h1 | h1)
  ·omega
  ·omega
  ·simp only [List.length_append] at h1; omega
theorem zq4 (pre r : List UInt8) {n lo hi : Int} (h : okI n) (h2 : lo ≤ n ∧ n ≤ hi) : zbb (pre ++ (putI n ++ r)) (pre.length : Nat) lo hi = true := by
 rw [zaz, zdg pre r h]
 exact ⟨rfl, h2⟩
theorem zwq {acc : List Int} (ha : ∀ x ∈ acc, okI x) (k : Nat) : okI (acc.getD k 0) := by
 rw [List.getD_eq_getElem?_getD]
 cases h : acc[k]? with
 | none => show okI 0; unfold okI; omega
 | some x => exact ha x (List.mem_of_getElem? h)
theorem zxc {p : Int} {acc : List Int} (ha : ∀ x ∈ acc, okI x) {x : Int} (h : (bnd p acc).1 ≤ x ∧ x ≤ (bnd p acc).2) : okI x := by
 unfold bnd at h
 have h2 := zwq ha (acc.length - 2)
 unfold okI at h2 ⊢
 split at h
 ·dsimp only at h; omega
 split at h
 ·dsimp only at h; omega
 split at h
 ·dsimp only at h; omega
 split at h
 ·dsimp only at h; omega
 ·dsimp only at h; omega
theorem zep (x : Int) (r : List Int) : za2 (x :: r) = (putIR x).1 ++ za2 r := rfl
theorem zlm {p : Int} (r : List UInt8) : ∀ (n acc : List Int) (pre : List UInt8), (∀ x ∈ acc, okI x) → zdw p acc n → numsS (pre ++ (za2 n ++ r)) p n.length acc (pre.length : Nat) = some (acc ++ n, (((pre ++ za2 n).length : Nat) : Int))
 | [], acc, pre, _, _ => by
  show some (acc, _) = _
  simp [za2]
 | x :: n, acc, pre, ha, h => by
  have hx := zxc ha h.1
  have ih := zlm r n (acc ++ [x]) (pre ++ putI x) (fun z hz => by rcases List.mem_append.1 hz with h | h; exact ha z h; rw [List.mem_singleton.1 h]; exact hx) h.2
  rw [zep, zjd hx, List.append_assoc, List.length_cons, numsS, if_pos (zq4 pre _ hx h.1), zdg pre _ hx]
  dsimp only
  rw [List.append_assoc] at ih
  rw [ih]
  simp only [List.append_assoc, List.singleton_append]
theorem zro {p : Int} {before : List Ln} {x : Ln} (pre r : List UInt8) (h : lnOk p before x) : lineS (pre ++ (lineW p x ++ r)) p before (pre.length : Nat) = some (x, (((pre ++ lineW p x).length : Nat) : Int)) := by
 unfold lnOk at h
 unfold lineS
 split at h
 ·rename_i hp
  obtain ⟨t, n⟩ := x
  obtain ⟨h1, h2, h3⟩ := h
  replace h1 : n = [] := h1
  subst h1
  have e : lineW p (t, []) = (putSR t).1 := by rw [lineW, if_pos hp]; exact List.append_nil _
  replace h2 : t.length ≤ 80 := h2
  rw [if_pos hp, e, zng pre r t (by omega)]
  exact if_pos ⟨rfl, h2, h3⟩
 ·rename_i hp
  obtain ⟨t, n⟩ := x
  obtain ⟨h1, h2, h3, h4⟩ := h
  replace h1 : t = [] := h1
  subst h1
  replace h2 : n.length = cols p := h2
  have e : lineW p ([], n) = za2 n := by rw [lineW, if_neg hp]; rfl
  rw [if_neg hp, e, ← h2, zlm r n [] pre (fun _ h => absurd h (by simp)) h3]
  dsimp only
  rw [List.nil_append]
  by_cases hp2 : p = 2
  ·rw [if_pos hp2]
  ·rw [if_neg hp2]
   cases hl : before.getLast? with
   | none => rfl
   | some y => exact if_pos (h4 hp2 y hl)
theorem zis {p : Int} (r : List UInt8) : ∀ (l acc : List Ln) (pre : List UInt8), lnsOk p acc l → zb6 (pre ++ ((l.map (lineW p)).flatten ++ r)) p l.length acc (pre.length : Nat) = some (acc ++ l, (((pre ++ (l.map (lineW p)).flatten).length : Nat) : Int))
 | [], acc, pre, _ => by
  show some (acc, _) = _
  simp
 | x :: l, acc, pre, h => by
  have ih := zis r l (acc ++ [x]) (pre ++ lineW p x) h.2
  rw [List.map_cons, List.flatten_cons, List.append_assoc, List.length_cons, zb6, zro pre _ h.1]
  dsimp only
  rw [List.append_assoc] at ih
  rw [ih]
  simp only [List.append_assoc, List.singleton_append]
theorem zkv {n : Int} (h : okI n) : za2 [n] = putI n := by
 rw [zep, zjd h]; exact List.append_nil _
theorem zh2 {n m : Int} (h : okI n) (h2 : okI m) : za2 [n, m] = putI n ++ putI m := by
 rw [zep, zjd h, zkv h2]
theorem zf4 {p : Int} {v : Val} (hp : 1 ≤ p ∧ p ≤ 8) (hv : VOK p v) : readS p (zay p v) = some v := by
 rcases hv with rfl | ⟨hl, hv⟩
 ·have e : zay p loseV = [] := if_pos rfl
  rw [e, readS, if_neg (by omega), if_pos rfl]; rfl
 obtain ⟨lost, L, w, h, bits⟩ := v
 replace hl : lost = false := hl
 subst hl
 dsimp only at hv
 by_cases h8 : p = 8
 ·rw [if_pos h8] at hv
  obtain ⟨rfl, rfl, hw, hh⟩ := hv
  have ow : okI w := by unfold okI; omega
  have oh : okI h := by unfold okI; omega
  have e : zay p ⟨false, [], w, h, []⟩ = putI w ++ putI h := by
   rw [zay, if_neg (by simp), if_pos (by omega), if_neg (by omega), List.append_nil, zh2 ow oh]
  have g1 := zdg [] (putI h) ow
  have g2 := zdg (putI w) [] oh
  rw [List.nil_append, List.nil_append] at g1
  rw [List.append_nil] at g2
  replace g1 : getI (putI w ++ putI h) 0 = (w, ((putI w).length : Int), 0) := g1
  rw [e, readS, if_neg (by omega), if_neg (by simp [zhq]), if_pos h8, g1]
  dsimp only
  rw [g2, if_pos]
  exact ⟨zaz.2 (by rw [g1]; exact ⟨rfl, hw⟩), zaz.2 (by rw [g2]; exact ⟨rfl, hh⟩), rfl⟩
 rw [if_neg h8] at hv
 by_cases h6 : 6 ≤ p
 ·rw [if_pos h6] at hv
  obtain ⟨rfl, hw, hh, hb⟩ := hv
  have ow : okI w := by unfold okI; omega
  have oh : okI h := by unfold okI; omega
  by_cases h7 : p = 7
  ·rw [if_pos h7] at hb
   have hbl : bits.length ≤ 65536 := by
    have h5 : w * h ≤ 32 * h := Int.mul_le_mul_of_nonneg_right hw.2 (by omega)
    omega
   have e : zay p ⟨false, [], w, h, bits⟩ = putI w ++ (putI h ++ (putSR bits).1) := by
    rw [zay, if_neg (by simp), if_pos (by omega), if_pos h7, zh2 ow oh, List.append_assoc]
   have g1 := zdg [] (putI h ++ (putSR bits).1) ow
   have g2 := zdg (putI w) (putSR bits).1 oh
   have g3 := zng (putI w ++ putI h) [] bits hbl
   rw [List.nil_append, List.nil_append] at g1
   rw [List.append_nil, List.append_assoc (putI w)] at g3
   replace g1 : getI (putI w ++ (putI h ++ (putSR bits).1)) 0 = (w, ((putI w).length : Int), 0) := g1
   rw [e, readS, if_neg (by omega), if_neg (by simp [zhq]), if_neg h8, if_pos h6, g1]
   dsimp only
   rw [g2]
   dsimp only
   rw [if_pos ⟨zaz.2 (by rw [g1]; exact ⟨rfl, hw⟩), zaz.2 (by rw [g2]; exact ⟨rfl, hh⟩)⟩, if_pos h7, g3]
   exact if_pos ⟨rfl, hb.1, hb.2, by simp only [List.append_assoc]⟩
  ·rw [if_neg h7] at hb
   subst hb
   have e : zay p ⟨false, [], w, h, []⟩ = putI w ++ putI h := by
    rw [zay, if_neg (by simp), if_pos (by omega), if_neg (by omega), List.append_nil, zh2 ow oh]
   have g1 := zdg [] (putI h) ow
   have g2 := zdg (putI w) [] oh
   rw [List.nil_append, List.nil_append] at g1
   rw [List.append_nil] at g2
   replace g1 : getI (putI w ++ putI h) 0 = (w, ((putI w).length : Int), 0) := g1
   rw [e, readS, if_neg (by omega), if_neg (by simp [zhq]), if_neg h8, if_pos h6, g1]
   dsimp only
   rw [g2]
   dsimp only
   rw [if_pos ⟨zaz.2 (by rw [g1]; exact ⟨rfl, hw⟩), zaz.2 (by rw [g2]; exact ⟨rfl, hh⟩)⟩, if_neg h7]
   exact if_pos rfl
 ·rw [if_neg h6] at hv
  obtain ⟨rfl, rfl, rfl, hl, ho⟩ := hv
  have on : okI (L.length : Int) := by unfold okI; omega
  have e : zay p ⟨false, L, 0, 0, []⟩ = putI L.length ++ (L.map (lineW p)).flatten := by
   rw [zay, if_neg (by simp), if_neg h6, zkv on]
  have g1 := zdg [] ((L.map (lineW p)).flatten) on
  have g2 := zis [] L [] (putI L.length) ho
  rw [List.nil_append, List.nil_append] at g1
  rw [List.append_nil] at g2
  replace g1 : getI (putI L.length ++ (L.map (lineW p)).flatten) 0 = ((L.length : Int), ((putI L.length).length : Int), 0) := g1
  rw [e, readS, if_neg (by omega), if_neg (by simp [zhq]), if_neg h8, if_neg h6, if_pos (zaz.2 (by rw [g1]; exact ⟨rfl, by dsimp only; omega, by dsimp only; omega⟩)), g1]
  dsimp only
  rw [Int.toNat_natCast, g2]
  dsimp only
  rw [List.nil_append]
  exact if_pos rfl
end Go.Proofs.YtblllibdahkgfaaGreatDoor
