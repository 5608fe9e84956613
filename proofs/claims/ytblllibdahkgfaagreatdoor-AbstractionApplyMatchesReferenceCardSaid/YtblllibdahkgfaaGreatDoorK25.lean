import Derived.Test.YtblllibdahkgfaaGreatDoorK24
import Derived.Test.YtblllibdahkgfaaGreatDoorK20
import Derived.Test.YtblllibdahkgfaaGreatDoorK22

namespace Go.Proofs.YtblllibdahkgfaaGreatDoor
open Go Sx
set_option maxRecDepth 100000
theorem zow (p : Int) (x : RLn) : (zba p x).length ≤ 66000 := by
 unfold zba
 have h1 := zby x.1
 have h2 := zez (f := fun n => (putIR n).1) zas ((numsOf x).take (colN p))
 have h3 : ((numsOf x).take (colN p)).length ≤ 4 := by rw [List.length_take]; show min _ 4 ≤ 4; omega
 rw [List.length_append]
 split
 ·omega
 ·simp only [List.length_nil]; omega
theorem zdo {p : Int} {l : List RLn} {k : Nat} {ob : List UInt8} {x : RLn} (gk : k < l.length) (hx : l[k] = x) (h : ob = (putIR (l.length : Nat)).1 ++ ((l.take k).map (zba p)).flatten) : ob ++ zba p x = (putIR (l.length : Nat)).1 ++ ((l.take (k + 1)).map (zba p)).flatten := by
 rw [zc9 gk, hx, h, List.append_assoc]
theorem zei {p : Int} {l : List RLn} {k : Nat} {ob : List UInt8} (hl : l.length ≤ 1000) (h : ob = (putIR (l.length : Nat)).1 ++ ((l.take k).map (zba p)).flatten) : ob.length ≤ 100000000 := by
 have h1 := zas (l.length : Nat)
 have h2 := zez (zow p) (l.take k)
 have h3 : (l.take k).length ≤ 1000 := by rw [List.length_take]; omega
 rw [h, List.length_append]; omega
def rvalE (v : RVal) (i c : Nat) : Ent := .one (.cells 57 [.lit v.lost, gA 5 i c v.lines, .int .i64 v.w, .int .i64 v.h, .str v.bits])
theorem zab {v : RVal} {n i : Nat} (h : i < n) (c : Nat) : (rvalE v i c).below n := by
 show ∀ a ∈ _, SA.below n a
 intro a ha
 simp only [List.mem_cons, List.not_mem_nil, or_false] at ha
 rcases ha with rfl | rfl | rfl | rfl | rfl
 ·trivial
 ·exact zh9 h _ _ _
 ·trivial
 ·trivial
 ·trivial
set_option maxHeartbeats 8000000 in
theorem zmu (F : Fz) (L : List RLn) (w h : Int) (bits : List UInt8) (c : Nat) (hne : L ≠ []) (hl : L.length ≤ 1000) (hx : ∀ x ∈ L, x.1.length ≤ 1000000) :
  Ct Tryz.prog 32 [.va (.int .i64 1), rvalV ⟨false, L, w, h, bits⟩ 1 c] F [(1, gE 88 5 encL c L)] 2
   (fun o F0 h0 n0 => Fz.le F F0 ∧ n0 = 2 ∧ o = .ret (.va (.str (zat 1 ⟨false, L, w, h, bits⟩))) ∧ h0 = [(1, gE 88 5 encL c L)]) := by
 have hW : zat 1 ⟨false, L, w, h, bits⟩ = (putIR (L.length : Nat)).1 ++ (L.map (zba 1)).flatten := rfl
 have fin : ∀ (t : List UInt8) (F1 : Fz) (hh : Hp) (nx : Nat), zat 1 ⟨false, L, w, h, bits⟩ = t → Fz.le F F1 → lget hh 0 = some (.frz F1) → lget hh 1 = some (gE 88 5 encL c L) →
   Cln 2 (fun o F0 h0 n0 => Fz.le F F0 ∧ (Fz.le F F0 ∧ n0 = 2 ∧ o = .ret (.va (.str (zat 1 ⟨false, L, w, h, bits⟩))) ∧ h0 = [(1, gE 88 5 encL c L)])) (.ret (.va (.str t))) hh nx := by
  intro t F1 hh nx hb hle h0 h1
  rw [hb]
  exact clean [] (.ret (.va (.str t))) F1 [(1, gE 88 5 encL c L)] 2 ⟨hle, hle, rfl, rfl, rfl⟩ (zar _) rfl rfl trivial ⟨zac zaa _ _ _ _ _, trivial⟩ ⟨by simp only [entE, aget, Ent.ren]; rw [h0]; exact Fz.le_refl F1, by simp only [entE, aget]; rw [h1]; exact zam zaa (zao _ _ _ _), trivial⟩
 have hp0 := zal F (L.length : Nat)
 have hcol := zcm 1 F
 rw [show ((colN 1 : Nat) : Int) = 0 by decide] at hcol
 rcases L with _ | ⟨a0, ar⟩
 ·exact absurd rfl hne
 refine ct_of hΘ Tryz.func32 rfl (by decide) _ _ rfl rfl rfl ?_;conv=>whnf
 refine br (fun g => absurd g (by decide)) (fun _ => ?_);conv=>whnf
 refine usePu hp0 rfl ⟨rfl, trivial⟩ rfl ?_;conv=>whnf
 refine zau hΘ (X := { x : Nat × List UInt8 // x.1 ≤ ar.length + 1 ∧ x.2 = (putIR ((a0 :: ar).length : Nat)).1 ++ (((a0 :: ar).take x.1).map (zba 1)).flatten }) (fun x => [(5, .va (.str x.1.2)), (12, .va (.int .i64 x.1.1))]) [13, 14, 15, 16, 17, 60, 61, 62, 63, 64, 65, 66, 67, 68, 69, 70, 71, 72, 73, 74, 75, 76, 77, 78, 79, 80, 81, 82, 83, 84, 85, 86, 87, 88, 89, 90, 91, 92, 93, 94, 95, 96, 97, 98, 99, 100, 101, 102]
  (fun _ => [(0, .frz F), (1, gE 88 5 encL c (a0 :: ar)), (2, rvalE ⟨false, a0 :: ar, w, h, bits⟩ 1 c)]) 3 (fun x => ar.length + 1 - x.1.1) ⟨(0, (putIR ((a0 :: ar).length : Nat)).1), by simp⟩
  (fun hH hT => leI [] hH hT rfl ⟨trivial, zac zaa _ _ _ _ _, zab (by omega) _, trivial⟩ ⟨rfl, rfl, trivial⟩ ⟨Fz.le_refl F, zam zaa (zao _ _ _ _), rfl, trivial⟩) ?_
 rintro ⟨⟨k, ob⟩, hk, hob⟩ hH hT
 replace hk : k ≤ ar.length + 1 := hk
 replace hob : ob = (putIR ((a0 :: ar).length : Nat)).1 ++ (((a0 :: ar).take k).map (zba 1)).flatten := hob
 have hobl := zei hl hob
 have hfin : k = ar.length + 1 → zat 1 ⟨false, a0 :: ar, w, h, bits⟩ = ob := fun gk => by
  rw [hW, hob, gk, List.take_of_length_le (by simp)]
 by_cases gk : k < ar.length + 1
 ·have gl : k < (a0 :: ar).length := gk
  have hex : ∃ x, (a0 :: ar)[k] = x := ⟨_, rfl⟩
  obtain ⟨⟨t, n0, n1, n2, n3⟩, hkx⟩ := hex
  have hcell : ((a0 :: ar).map encL)[0 + (k : Int).toNat]? = some (encL (t, n0, n1, n2, n3)) := by rw [Nat.zero_add, Int.toNat_natCast, List.getElem?_map, List.getElem?_eq_getElem gl, hkx]; rfl
  have hlt : (k : Int) < ((ar.length + 1 : Nat) : Int) := by omega
  have hidx : 0 ≤ (k : Int) ∧ (k : Int) < ((ar.length + 1 : Nat) : Int) := by omega
  have hnext := zdo gl hkx hob
  have e0 := zas n0
  have e1 := zas n1
  have e2 := zas n2
  have e3 := zas n3
  have et := zby t
  have ht := hx _ (List.getElem_mem gl)
  rw [hkx] at ht
  replace ht : t.length ≤ 1000000 := ht
  have pt := zbj F t (by omega)
  have p0 := zal F n0
  have p1 := zal F n1
  have p2 := zal F n2
  have p3 := zal F n3
  have hk1 : k + 1 ≤ ar.length + 1 := gk
  have hdec : ar.length + 1 - (k + 1) < ar.length + 1 - k := by omega
  have hkm : k < 4611686018427387904 := by
   have h9 : ar.length + 1 ≤ 1000 := hl
   omega
  clear hfin hx hob
  have hnx : ob ++ (putSR t).1 = (putIR ((a0 :: ar).length : Nat)).1 ++ (((a0 :: ar).take (k + 1)).map (zba 1)).flatten := by rw [← hnext]; exact congrArg (ob ++ ·) (List.append_nil _).symm
  have hb1 : ob.length + (putSR t).1.length ≤ 9223372036854775807 := by omega
  conv=>whnf
  refine br (fun _ => ?_) (fun g => absurd hlt (of_decide_eq_false g));conv=>whnf
  refine br (fun _ => ?_) (fun g => absurd g (by decide));conv=>whnf
  refine ⟨rfl, hidx, ?_⟩;conv=>whnf
  refine ⟨rfl, _, hcell, ?_⟩;conv=>whnf
  refine usePu pt rfl ⟨rfl, trivial⟩ rfl ?_;conv=>whnf
  refine ⟨hb1, ?_⟩;conv=>whnf
  refine zb2 hΘ 0 ?_;conv=>whnf
  refine usePu hcol rfl ⟨rfl, trivial⟩ rfl ?_;conv=>whnf
  refine br (fun g => absurd g (by decide)) (fun _ => ?_);conv=>whnf
  exact ⟨⟨(k + 1, ob ++ (putSR t).1), hk1, hnx⟩, hdec, leR [] hH hT rfl ⟨trivial, zac zaa _ _ _ _ _, zab (by omega) _, trivial⟩ ⟨rfl, cnt hkm, trivial⟩ ⟨Fz.le_refl F, zam zaa (zao _ _ _ _), rfl, trivial⟩⟩
 ·have gk : k = ar.length + 1 := by omega
  have hge : ¬ (k : Int) < ((ar.length + 1 : Nat) : Int) := by omega
  have e := hfin gk
  conv=>whnf
  refine br (fun g => absurd (of_decide_eq_true g) hge) (fun _ => ?_);conv=>whnf
  exact fin _ F _ _ e (Fz.le_refl F) rfl rfl
set_option maxHeartbeats 8000000 in
theorem zml (F : Fz) (L : List RLn) (w h : Int) (bits : List UInt8) (c : Nat) (hne : L ≠ []) (hl : L.length ≤ 1000) (hx : ∀ x ∈ L, x.1.length ≤ 1000000) :
  Ct Tryz.prog 32 [.va (.int .i64 2), rvalV ⟨false, L, w, h, bits⟩ 1 c] F [(1, gE 88 5 encL c L)] 2
   (fun o F0 h0 n0 => Fz.le F F0 ∧ n0 = 2 ∧ o = .ret (.va (.str (zat 2 ⟨false, L, w, h, bits⟩))) ∧ h0 = [(1, gE 88 5 encL c L)]) := by
 have hW : zat 2 ⟨false, L, w, h, bits⟩ = (putIR (L.length : Nat)).1 ++ (L.map (zba 2)).flatten := rfl
 have fin : ∀ (t : List UInt8) (F1 : Fz) (hh : Hp) (nx : Nat), zat 2 ⟨false, L, w, h, bits⟩ = t → Fz.le F F1 → lget hh 0 = some (.frz F1) → lget hh 1 = some (gE 88 5 encL c L) →
   Cln 2 (fun o F0 h0 n0 => Fz.le F F0 ∧ (Fz.le F F0 ∧ n0 = 2 ∧ o = .ret (.va (.str (zat 2 ⟨false, L, w, h, bits⟩))) ∧ h0 = [(1, gE 88 5 encL c L)])) (.ret (.va (.str t))) hh nx := by
  intro t F1 hh nx hb hle h0 h1
  rw [hb]
  exact clean [] (.ret (.va (.str t))) F1 [(1, gE 88 5 encL c L)] 2 ⟨hle, hle, rfl, rfl, rfl⟩ (zar _) rfl rfl trivial ⟨zac zaa _ _ _ _ _, trivial⟩ ⟨by simp only [entE, aget, Ent.ren]; rw [h0]; exact Fz.le_refl F1, by simp only [entE, aget]; rw [h1]; exact zam zaa (zao _ _ _ _), trivial⟩
 have hp0 := zal F (L.length : Nat)
 have hcol := zcm 2 F
 rw [show ((colN 2 : Nat) : Int) = 1 by decide] at hcol
 rcases L with _ | ⟨a0, ar⟩
 ·exact absurd rfl hne
 refine ct_of hΘ Tryz.func32 rfl (by decide) _ _ rfl rfl rfl ?_;conv=>whnf
 refine br (fun g => absurd g (by decide)) (fun _ => ?_);conv=>whnf
 refine usePu hp0 rfl ⟨rfl, trivial⟩ rfl ?_;conv=>whnf
 refine zau hΘ (X := { x : Nat × List UInt8 // x.1 ≤ ar.length + 1 ∧ x.2 = (putIR ((a0 :: ar).length : Nat)).1 ++ (((a0 :: ar).take x.1).map (zba 2)).flatten }) (fun x => [(5, .va (.str x.1.2)), (12, .va (.int .i64 x.1.1))]) [13, 14, 15, 16, 17, 60, 61, 62, 63, 64, 65, 66, 67, 68, 69, 70, 71, 72, 73, 74, 75, 76, 77, 78, 79, 80, 81, 82, 83, 84, 85, 86, 87, 88, 89, 90, 91, 92, 93, 94, 95, 96, 97, 98, 99, 100, 101, 102]
  (fun _ => [(0, .frz F), (1, gE 88 5 encL c (a0 :: ar)), (2, rvalE ⟨false, a0 :: ar, w, h, bits⟩ 1 c)]) 3 (fun x => ar.length + 1 - x.1.1) ⟨(0, (putIR ((a0 :: ar).length : Nat)).1), by simp⟩
  (fun hH hT => leI [] hH hT rfl ⟨trivial, zac zaa _ _ _ _ _, zab (by omega) _, trivial⟩ ⟨rfl, rfl, trivial⟩ ⟨Fz.le_refl F, zam zaa (zao _ _ _ _), rfl, trivial⟩) ?_
 rintro ⟨⟨k, ob⟩, hk, hob⟩ hH hT
 replace hk : k ≤ ar.length + 1 := hk
 replace hob : ob = (putIR ((a0 :: ar).length : Nat)).1 ++ (((a0 :: ar).take k).map (zba 2)).flatten := hob
 have hobl := zei hl hob
 have hfin : k = ar.length + 1 → zat 2 ⟨false, a0 :: ar, w, h, bits⟩ = ob := fun gk => by
  rw [hW, hob, gk, List.take_of_length_le (by simp)]
 by_cases gk : k < ar.length + 1
 ·have gl : k < (a0 :: ar).length := gk
  have hex : ∃ x, (a0 :: ar)[k] = x := ⟨_, rfl⟩
  obtain ⟨⟨t, n0, n1, n2, n3⟩, hkx⟩ := hex
  have hcell : ((a0 :: ar).map encL)[0 + (k : Int).toNat]? = some (encL (t, n0, n1, n2, n3)) := by rw [Nat.zero_add, Int.toNat_natCast, List.getElem?_map, List.getElem?_eq_getElem gl, hkx]; rfl
  have hlt : (k : Int) < ((ar.length + 1 : Nat) : Int) := by omega
  have hidx : 0 ≤ (k : Int) ∧ (k : Int) < ((ar.length + 1 : Nat) : Int) := by omega
  have hnext := zdo gl hkx hob
  have e0 := zas n0
  have e1 := zas n1
  have e2 := zas n2
  have e3 := zas n3
  have et := zby t
  have ht := hx _ (List.getElem_mem gl)
  rw [hkx] at ht
  replace ht : t.length ≤ 1000000 := ht
  have pt := zbj F t (by omega)
  have p0 := zal F n0
  have p1 := zal F n1
  have p2 := zal F n2
  have p3 := zal F n3
  have hk1 : k + 1 ≤ ar.length + 1 := gk
  have hdec : ar.length + 1 - (k + 1) < ar.length + 1 - k := by omega
  have hkm : k < 4611686018427387904 := by
   have h9 : ar.length + 1 ≤ 1000 := hl
   omega
  clear hfin hx hob
  have hb0 : (ob).length + (putIR n0).1.length ≤ 9223372036854775807 := by (try simp only [List.length_append]); omega
  have hnx : ob ++ (putIR n0).1 = (putIR ((a0 :: ar).length : Nat)).1 ++ (((a0 :: ar).take (k + 1)).map (zba 2)).flatten := by
   rw [← hnext, show zba 2 (t, n0, n1, n2, n3) = [(putIR n0).1].flatten from rfl]
   simp only [List.flatten_cons, List.flatten_nil, List.append_nil, List.append_assoc]
  conv=>whnf
  refine br (fun _ => ?_) (fun g => absurd hlt (of_decide_eq_false g));conv=>whnf
  refine br (fun g => absurd g (by decide)) (fun _ => ?_);conv=>whnf
  refine zb2 hΘ 1 ?_;conv=>whnf
  refine usePu hcol rfl ⟨rfl, trivial⟩ rfl ?_;conv=>whnf
  refine br (fun _ => ?_) (fun g => absurd g (by decide));conv=>whnf
  refine ⟨rfl, hidx, ?_⟩;conv=>whnf
  refine ⟨by decide, ?_⟩;conv=>whnf
  refine ⟨rfl, _, hcell, ?_⟩;conv=>whnf
  refine usePu p0 rfl ⟨rfl, trivial⟩ rfl ?_;conv=>whnf
  refine ⟨hb0, ?_⟩;conv=>whnf
  refine sr_go hΘ ?_;conv=>whnf
  refine usePu hcol rfl ⟨rfl, trivial⟩ rfl ?_;conv=>whnf
  refine br (fun g => absurd g (by decide)) (fun _ => ?_);conv=>whnf
  exact ⟨⟨(k + 1, ob ++ (putIR n0).1), hk1, hnx⟩, hdec, leR [] hH hT rfl ⟨trivial, zac zaa _ _ _ _ _, zab (by omega) _, trivial⟩ ⟨rfl, cnt hkm, trivial⟩ ⟨Fz.le_refl F, zam zaa (zao _ _ _ _), rfl, trivial⟩⟩
 ·have gk : k = ar.length + 1 := by omega
  have hge : ¬ (k : Int) < ((ar.length + 1 : Nat) : Int) := by omega
  have e := hfin gk
  conv=>whnf
  refine br (fun g => absurd (of_decide_eq_true g) hge) (fun _ => ?_);conv=>whnf
  exact fin _ F _ _ e (Fz.le_refl F) rfl rfl
set_option maxHeartbeats 8000000 in
theorem znc (F : Fz) (L : List RLn) (w h : Int) (bits : List UInt8) (c : Nat) (hne : L ≠ []) (hl : L.length ≤ 1000) (hx : ∀ x ∈ L, x.1.length ≤ 1000000) :
  Ct Tryz.prog 32 [.va (.int .i64 3), rvalV ⟨false, L, w, h, bits⟩ 1 c] F [(1, gE 88 5 encL c L)] 2
   (fun o F0 h0 n0 => Fz.le F F0 ∧ n0 = 2 ∧ o = .ret (.va (.str (zat 3 ⟨false, L, w, h, bits⟩))) ∧ h0 = [(1, gE 88 5 encL c L)]) := by
 have hW : zat 3 ⟨false, L, w, h, bits⟩ = (putIR (L.length : Nat)).1 ++ (L.map (zba 3)).flatten := rfl
 have fin : ∀ (t : List UInt8) (F1 : Fz) (hh : Hp) (nx : Nat), zat 3 ⟨false, L, w, h, bits⟩ = t → Fz.le F F1 → lget hh 0 = some (.frz F1) → lget hh 1 = some (gE 88 5 encL c L) →
   Cln 2 (fun o F0 h0 n0 => Fz.le F F0 ∧ (Fz.le F F0 ∧ n0 = 2 ∧ o = .ret (.va (.str (zat 3 ⟨false, L, w, h, bits⟩))) ∧ h0 = [(1, gE 88 5 encL c L)])) (.ret (.va (.str t))) hh nx := by
  intro t F1 hh nx hb hle h0 h1
  rw [hb]
  exact clean [] (.ret (.va (.str t))) F1 [(1, gE 88 5 encL c L)] 2 ⟨hle, hle, rfl, rfl, rfl⟩ (zar _) rfl rfl trivial ⟨zac zaa _ _ _ _ _, trivial⟩ ⟨by simp only [entE, aget, Ent.ren]; rw [h0]; exact Fz.le_refl F1, by simp only [entE, aget]; rw [h1]; exact zam zaa (zao _ _ _ _), trivial⟩
 have hp0 := zal F (L.length : Nat)
 have hcol := zcm 3 F
 rw [show ((colN 3 : Nat) : Int) = 3 by decide] at hcol
 rcases L with _ | ⟨a0, ar⟩
 ·exact absurd rfl hne
 refine ct_of hΘ Tryz.func32 rfl (by decide) _ _ rfl rfl rfl ?_;conv=>whnf
 refine br (fun g => absurd g (by decide)) (fun _ => ?_);conv=>whnf
 refine usePu hp0 rfl ⟨rfl, trivial⟩ rfl ?_;conv=>whnf
 refine zau hΘ (X := { x : Nat × List UInt8 // x.1 ≤ ar.length + 1 ∧ x.2 = (putIR ((a0 :: ar).length : Nat)).1 ++ (((a0 :: ar).take x.1).map (zba 3)).flatten }) (fun x => [(5, .va (.str x.1.2)), (12, .va (.int .i64 x.1.1))]) [13, 14, 15, 16, 17, 60, 61, 62, 63, 64, 65, 66, 67, 68, 69, 70, 71, 72, 73, 74, 75, 76, 77, 78, 79, 80, 81, 82, 83, 84, 85, 86, 87, 88, 89, 90, 91, 92, 93, 94, 95, 96, 97, 98, 99, 100, 101, 102]
  (fun _ => [(0, .frz F), (1, gE 88 5 encL c (a0 :: ar)), (2, rvalE ⟨false, a0 :: ar, w, h, bits⟩ 1 c)]) 3 (fun x => ar.length + 1 - x.1.1) ⟨(0, (putIR ((a0 :: ar).length : Nat)).1), by simp⟩
  (fun hH hT => leI [] hH hT rfl ⟨trivial, zac zaa _ _ _ _ _, zab (by omega) _, trivial⟩ ⟨rfl, rfl, trivial⟩ ⟨Fz.le_refl F, zam zaa (zao _ _ _ _), rfl, trivial⟩) ?_
 rintro ⟨⟨k, ob⟩, hk, hob⟩ hH hT
 replace hk : k ≤ ar.length + 1 := hk
 replace hob : ob = (putIR ((a0 :: ar).length : Nat)).1 ++ (((a0 :: ar).take k).map (zba 3)).flatten := hob
 have hobl := zei hl hob
 have hfin : k = ar.length + 1 → zat 3 ⟨false, a0 :: ar, w, h, bits⟩ = ob := fun gk => by
  rw [hW, hob, gk, List.take_of_length_le (by simp)]
 by_cases gk : k < ar.length + 1
 ·have gl : k < (a0 :: ar).length := gk
  have hex : ∃ x, (a0 :: ar)[k] = x := ⟨_, rfl⟩
  obtain ⟨⟨t, n0, n1, n2, n3⟩, hkx⟩ := hex
  have hcell : ((a0 :: ar).map encL)[0 + (k : Int).toNat]? = some (encL (t, n0, n1, n2, n3)) := by rw [Nat.zero_add, Int.toNat_natCast, List.getElem?_map, List.getElem?_eq_getElem gl, hkx]; rfl
  have hlt : (k : Int) < ((ar.length + 1 : Nat) : Int) := by omega
  have hidx : 0 ≤ (k : Int) ∧ (k : Int) < ((ar.length + 1 : Nat) : Int) := by omega
  have hnext := zdo gl hkx hob
  have e0 := zas n0
  have e1 := zas n1
  have e2 := zas n2
  have e3 := zas n3
  have et := zby t
  have ht := hx _ (List.getElem_mem gl)
  rw [hkx] at ht
  replace ht : t.length ≤ 1000000 := ht
  have pt := zbj F t (by omega)
  have p0 := zal F n0
  have p1 := zal F n1
  have p2 := zal F n2
  have p3 := zal F n3
  have hk1 : k + 1 ≤ ar.length + 1 := gk
  have hdec : ar.length + 1 - (k + 1) < ar.length + 1 - k := by omega
  have hkm : k < 4611686018427387904 := by
   have h9 : ar.length + 1 ≤ 1000 := hl
   omega
  clear hfin hx hob
  have hb0 : (ob).length + (putIR n0).1.length ≤ 9223372036854775807 := by (try simp only [List.length_append]); omega
  have hb1 : (ob ++ (putIR n0).1).length + (putIR n1).1.length ≤ 9223372036854775807 := by (try simp only [List.length_append]); omega
  have hb2 : (ob ++ (putIR n0).1 ++ (putIR n1).1).length + (putIR n2).1.length ≤ 9223372036854775807 := by (try simp only [List.length_append]); omega
  have hnx : ob ++ (putIR n0).1 ++ (putIR n1).1 ++ (putIR n2).1 = (putIR ((a0 :: ar).length : Nat)).1 ++ (((a0 :: ar).take (k + 1)).map (zba 3)).flatten := by
   rw [← hnext, show zba 3 (t, n0, n1, n2, n3) = [(putIR n0).1, (putIR n1).1, (putIR n2).1].flatten from rfl]
   simp only [List.flatten_cons, List.flatten_nil, List.append_nil, List.append_assoc]
  conv=>whnf
  refine br (fun _ => ?_) (fun g => absurd hlt (of_decide_eq_false g));conv=>whnf
  refine br (fun g => absurd g (by decide)) (fun _ => ?_);conv=>whnf
  refine zb2 hΘ 3 ?_;conv=>whnf
  refine usePu hcol rfl ⟨rfl, trivial⟩ rfl ?_;conv=>whnf
  refine br (fun _ => ?_) (fun g => absurd g (by decide));conv=>whnf
  refine ⟨rfl, hidx, ?_⟩;conv=>whnf
  refine ⟨by decide, ?_⟩;conv=>whnf
  refine ⟨rfl, _, hcell, ?_⟩;conv=>whnf
  refine usePu p0 rfl ⟨rfl, trivial⟩ rfl ?_;conv=>whnf
  refine ⟨hb0, ?_⟩;conv=>whnf
  refine sr_go hΘ ?_;conv=>whnf
  refine usePu hcol rfl ⟨rfl, trivial⟩ rfl ?_;conv=>whnf
  refine br (fun _ => ?_) (fun g => absurd g (by decide));conv=>whnf
  refine ⟨rfl, hidx, ?_⟩;conv=>whnf
  refine ⟨by decide, ?_⟩;conv=>whnf
  refine ⟨rfl, _, hcell, ?_⟩;conv=>whnf
  refine usePu p1 rfl ⟨rfl, trivial⟩ rfl ?_;conv=>whnf
  refine ⟨hb1, ?_⟩;conv=>whnf
  refine sr_go hΘ ?_;conv=>whnf
  refine usePu hcol rfl ⟨rfl, trivial⟩ rfl ?_;conv=>whnf
  refine br (fun _ => ?_) (fun g => absurd g (by decide));conv=>whnf
  refine ⟨rfl, hidx, ?_⟩;conv=>whnf
  refine ⟨by decide, ?_⟩;conv=>whnf
  refine ⟨rfl, _, hcell, ?_⟩;conv=>whnf
  refine usePu p2 rfl ⟨rfl, trivial⟩ rfl ?_;conv=>whnf
  refine ⟨hb2, ?_⟩;conv=>whnf
  refine sr_go hΘ ?_;conv=>whnf
  refine usePu hcol rfl ⟨rfl, trivial⟩ rfl ?_;conv=>whnf
  refine br (fun g => absurd g (by decide)) (fun _ => ?_);conv=>whnf
  exact ⟨⟨(k + 1, ob ++ (putIR n0).1 ++ (putIR n1).1 ++ (putIR n2).1), hk1, hnx⟩, hdec, leR [] hH hT rfl ⟨trivial, zac zaa _ _ _ _ _, zab (by omega) _, trivial⟩ ⟨rfl, cnt hkm, trivial⟩ ⟨Fz.le_refl F, zam zaa (zao _ _ _ _), rfl, trivial⟩⟩
 ·have gk : k = ar.length + 1 := by omega
  have hge : ¬ (k : Int) < ((ar.length + 1 : Nat) : Int) := by omega
  have e := hfin gk
  conv=>whnf
  refine br (fun g => absurd (of_decide_eq_true g) hge) (fun _ => ?_);conv=>whnf
  exact fin _ F _ _ e (Fz.le_refl F) rfl rfl
set_option maxHeartbeats 8000000 in
theorem znf (F : Fz) (L : List RLn) (w h : Int) (bits : List UInt8) (c : Nat) (hne : L ≠ []) (hl : L.length ≤ 1000) (hx : ∀ x ∈ L, x.1.length ≤ 1000000) :
  Ct Tryz.prog 32 [.va (.int .i64 4), rvalV ⟨false, L, w, h, bits⟩ 1 c] F [(1, gE 88 5 encL c L)] 2
   (fun o F0 h0 n0 => Fz.le F F0 ∧ n0 = 2 ∧ o = .ret (.va (.str (zat 4 ⟨false, L, w, h, bits⟩))) ∧ h0 = [(1, gE 88 5 encL c L)]) := by
 have hW : zat 4 ⟨false, L, w, h, bits⟩ = (putIR (L.length : Nat)).1 ++ (L.map (zba 4)).flatten := rfl
 have fin : ∀ (t : List UInt8) (F1 : Fz) (hh : Hp) (nx : Nat), zat 4 ⟨false, L, w, h, bits⟩ = t → Fz.le F F1 → lget hh 0 = some (.frz F1) → lget hh 1 = some (gE 88 5 encL c L) →
   Cln 2 (fun o F0 h0 n0 => Fz.le F F0 ∧ (Fz.le F F0 ∧ n0 = 2 ∧ o = .ret (.va (.str (zat 4 ⟨false, L, w, h, bits⟩))) ∧ h0 = [(1, gE 88 5 encL c L)])) (.ret (.va (.str t))) hh nx := by
  intro t F1 hh nx hb hle h0 h1
  rw [hb]
  exact clean [] (.ret (.va (.str t))) F1 [(1, gE 88 5 encL c L)] 2 ⟨hle, hle, rfl, rfl, rfl⟩ (zar _) rfl rfl trivial ⟨zac zaa _ _ _ _ _, trivial⟩ ⟨by simp only [entE, aget, Ent.ren]; rw [h0]; exact Fz.le_refl F1, by simp only [entE, aget]; rw [h1]; exact zam zaa (zao _ _ _ _), trivial⟩
 have hp0 := zal F (L.length : Nat)
 have hcol := zcm 4 F
 rw [show ((colN 4 : Nat) : Int) = 4 by decide] at hcol
 rcases L with _ | ⟨a0, ar⟩
 ·exact absurd rfl hne
 refine ct_of hΘ Tryz.func32 rfl (by decide) _ _ rfl rfl rfl ?_;conv=>whnf
 refine br (fun g => absurd g (by decide)) (fun _ => ?_);conv=>whnf
 refine usePu hp0 rfl ⟨rfl, trivial⟩ rfl ?_;conv=>whnf
 refine zau hΘ (X := { x : Nat × List UInt8 // x.1 ≤ ar.length + 1 ∧ x.2 = (putIR ((a0 :: ar).length : Nat)).1 ++ (((a0 :: ar).take x.1).map (zba 4)).flatten }) (fun x => [(5, .va (.str x.1.2)), (12, .va (.int .i64 x.1.1))]) [13, 14, 15, 16, 17, 60, 61, 62, 63, 64, 65, 66, 67, 68, 69, 70, 71, 72, 73, 74, 75, 76, 77, 78, 79, 80, 81, 82, 83, 84, 85, 86, 87, 88, 89, 90, 91, 92, 93, 94, 95, 96, 97, 98, 99, 100, 101, 102]
  (fun _ => [(0, .frz F), (1, gE 88 5 encL c (a0 :: ar)), (2, rvalE ⟨false, a0 :: ar, w, h, bits⟩ 1 c)]) 3 (fun x => ar.length + 1 - x.1.1) ⟨(0, (putIR ((a0 :: ar).length : Nat)).1), by simp⟩
  (fun hH hT => leI [] hH hT rfl ⟨trivial, zac zaa _ _ _ _ _, zab (by omega) _, trivial⟩ ⟨rfl, rfl, trivial⟩ ⟨Fz.le_refl F, zam zaa (zao _ _ _ _), rfl, trivial⟩) ?_
 rintro ⟨⟨k, ob⟩, hk, hob⟩ hH hT
 replace hk : k ≤ ar.length + 1 := hk
 replace hob : ob = (putIR ((a0 :: ar).length : Nat)).1 ++ (((a0 :: ar).take k).map (zba 4)).flatten := hob
 have hobl := zei hl hob
 have hfin : k = ar.length + 1 → zat 4 ⟨false, a0 :: ar, w, h, bits⟩ = ob := fun gk => by
  rw [hW, hob, gk, List.take_of_length_le (by simp)]
 by_cases gk : k < ar.length + 1
 ·have gl : k < (a0 :: ar).length := gk
  have hex : ∃ x, (a0 :: ar)[k] = x := ⟨_, rfl⟩
  obtain ⟨⟨t, n0, n1, n2, n3⟩, hkx⟩ := hex
  have hcell : ((a0 :: ar).map encL)[0 + (k : Int).toNat]? = some (encL (t, n0, n1, n2, n3)) := by rw [Nat.zero_add, Int.toNat_natCast, List.getElem?_map, List.getElem?_eq_getElem gl, hkx]; rfl
  have hlt : (k : Int) < ((ar.length + 1 : Nat) : Int) := by omega
  have hidx : 0 ≤ (k : Int) ∧ (k : Int) < ((ar.length + 1 : Nat) : Int) := by omega
  have hnext := zdo gl hkx hob
  have e0 := zas n0
  have e1 := zas n1
  have e2 := zas n2
  have e3 := zas n3
  have et := zby t
  have ht := hx _ (List.getElem_mem gl)
  rw [hkx] at ht
  replace ht : t.length ≤ 1000000 := ht
  have pt := zbj F t (by omega)
  have p0 := zal F n0
  have p1 := zal F n1
  have p2 := zal F n2
  have p3 := zal F n3
  have hk1 : k + 1 ≤ ar.length + 1 := gk
  have hdec : ar.length + 1 - (k + 1) < ar.length + 1 - k := by omega
  have hkm : k < 4611686018427387904 := by
   have h9 : ar.length + 1 ≤ 1000 := hl
   omega
  clear hfin hx hob
  have hb0 : (ob).length + (putIR n0).1.length ≤ 9223372036854775807 := by (try simp only [List.length_append]); omega
  have hb1 : (ob ++ (putIR n0).1).length + (putIR n1).1.length ≤ 9223372036854775807 := by (try simp only [List.length_append]); omega
  have hb2 : (ob ++ (putIR n0).1 ++ (putIR n1).1).length + (putIR n2).1.length ≤ 9223372036854775807 := by (try simp only [List.length_append]); omega
  have hb3 : (ob ++ (putIR n0).1 ++ (putIR n1).1 ++ (putIR n2).1).length + (putIR n3).1.length ≤ 9223372036854775807 := by (try simp only [List.length_append]); omega
  have hnx : ob ++ (putIR n0).1 ++ (putIR n1).1 ++ (putIR n2).1 ++ (putIR n3).1 = (putIR ((a0 :: ar).length : Nat)).1 ++ (((a0 :: ar).take (k + 1)).map (zba 4)).flatten := by
   rw [← hnext, show zba 4 (t, n0, n1, n2, n3) = [(putIR n0).1, (putIR n1).1, (putIR n2).1, (putIR n3).1].flatten from rfl]
   simp only [List.flatten_cons, List.flatten_nil, List.append_nil, List.append_assoc]
  conv=>whnf
  refine br (fun _ => ?_) (fun g => absurd hlt (of_decide_eq_false g));conv=>whnf
  refine br (fun g => absurd g (by decide)) (fun _ => ?_);conv=>whnf
  refine zb2 hΘ 4 ?_;conv=>whnf
  refine usePu hcol rfl ⟨rfl, trivial⟩ rfl ?_;conv=>whnf
  refine br (fun _ => ?_) (fun g => absurd g (by decide));conv=>whnf
  refine ⟨rfl, hidx, ?_⟩;conv=>whnf
  refine ⟨by decide, ?_⟩;conv=>whnf
  refine ⟨rfl, _, hcell, ?_⟩;conv=>whnf
  refine usePu p0 rfl ⟨rfl, trivial⟩ rfl ?_;conv=>whnf
  refine ⟨hb0, ?_⟩;conv=>whnf
  refine sr_go hΘ ?_;conv=>whnf
  refine usePu hcol rfl ⟨rfl, trivial⟩ rfl ?_;conv=>whnf
  refine br (fun _ => ?_) (fun g => absurd g (by decide));conv=>whnf
  refine ⟨rfl, hidx, ?_⟩;conv=>whnf
  refine ⟨by decide, ?_⟩;conv=>whnf
  refine ⟨rfl, _, hcell, ?_⟩;conv=>whnf
  refine usePu p1 rfl ⟨rfl, trivial⟩ rfl ?_;conv=>whnf
  refine ⟨hb1, ?_⟩;conv=>whnf
  refine sr_go hΘ ?_;conv=>whnf
  refine usePu hcol rfl ⟨rfl, trivial⟩ rfl ?_;conv=>whnf
  refine br (fun _ => ?_) (fun g => absurd g (by decide));conv=>whnf
  refine ⟨rfl, hidx, ?_⟩;conv=>whnf
  refine ⟨by decide, ?_⟩;conv=>whnf
  refine ⟨rfl, _, hcell, ?_⟩;conv=>whnf
  refine usePu p2 rfl ⟨rfl, trivial⟩ rfl ?_;conv=>whnf
  refine ⟨hb2, ?_⟩;conv=>whnf
  refine sr_go hΘ ?_;conv=>whnf
  refine usePu hcol rfl ⟨rfl, trivial⟩ rfl ?_;conv=>whnf
  refine br (fun _ => ?_) (fun g => absurd g (by decide));conv=>whnf
  refine ⟨rfl, hidx, ?_⟩;conv=>whnf
  refine ⟨by decide, ?_⟩;conv=>whnf
  refine ⟨rfl, _, hcell, ?_⟩;conv=>whnf
  refine usePu p3 rfl ⟨rfl, trivial⟩ rfl ?_;conv=>whnf
  refine ⟨hb3, ?_⟩;conv=>whnf
  refine sr_go hΘ ?_;conv=>whnf
  refine usePu hcol rfl ⟨rfl, trivial⟩ rfl ?_;conv=>whnf
  refine br (fun g => absurd g (by decide)) (fun _ => ?_);conv=>whnf
  exact ⟨⟨(k + 1, ob ++ (putIR n0).1 ++ (putIR n1).1 ++ (putIR n2).1 ++ (putIR n3).1), hk1, hnx⟩, hdec, leR [] hH hT rfl ⟨trivial, zac zaa _ _ _ _ _, zab (by omega) _, trivial⟩ ⟨rfl, cnt hkm, trivial⟩ ⟨Fz.le_refl F, zam zaa (zao _ _ _ _), rfl, trivial⟩⟩
 ·have gk : k = ar.length + 1 := by omega
  have hge : ¬ (k : Int) < ((ar.length + 1 : Nat) : Int) := by omega
  have e := hfin gk
  conv=>whnf
  refine br (fun g => absurd (of_decide_eq_true g) hge) (fun _ => ?_);conv=>whnf
  exact fin _ F _ _ e (Fz.le_refl F) rfl rfl
set_option maxHeartbeats 8000000 in
theorem zm2 (F : Fz) (L : List RLn) (w h : Int) (bits : List UInt8) (c : Nat) (hne : L ≠ []) (hl : L.length ≤ 1000) (hx : ∀ x ∈ L, x.1.length ≤ 1000000) :
  Ct Tryz.prog 32 [.va (.int .i64 5), rvalV ⟨false, L, w, h, bits⟩ 1 c] F [(1, gE 88 5 encL c L)] 2
   (fun o F0 h0 n0 => Fz.le F F0 ∧ n0 = 2 ∧ o = .ret (.va (.str (zat 5 ⟨false, L, w, h, bits⟩))) ∧ h0 = [(1, gE 88 5 encL c L)]) := by
 have hW : zat 5 ⟨false, L, w, h, bits⟩ = (putIR (L.length : Nat)).1 ++ (L.map (zba 5)).flatten := rfl
 have fin : ∀ (t : List UInt8) (F1 : Fz) (hh : Hp) (nx : Nat), zat 5 ⟨false, L, w, h, bits⟩ = t → Fz.le F F1 → lget hh 0 = some (.frz F1) → lget hh 1 = some (gE 88 5 encL c L) →
   Cln 2 (fun o F0 h0 n0 => Fz.le F F0 ∧ (Fz.le F F0 ∧ n0 = 2 ∧ o = .ret (.va (.str (zat 5 ⟨false, L, w, h, bits⟩))) ∧ h0 = [(1, gE 88 5 encL c L)])) (.ret (.va (.str t))) hh nx := by
  intro t F1 hh nx hb hle h0 h1
  rw [hb]
  exact clean [] (.ret (.va (.str t))) F1 [(1, gE 88 5 encL c L)] 2 ⟨hle, hle, rfl, rfl, rfl⟩ (zar _) rfl rfl trivial ⟨zac zaa _ _ _ _ _, trivial⟩ ⟨by simp only [entE, aget, Ent.ren]; rw [h0]; exact Fz.le_refl F1, by simp only [entE, aget]; rw [h1]; exact zam zaa (zao _ _ _ _), trivial⟩
 have hp0 := zal F (L.length : Nat)
 have hcol := zcm 5 F
 rw [show ((colN 5 : Nat) : Int) = 3 by decide] at hcol
 rcases L with _ | ⟨a0, ar⟩
 ·exact absurd rfl hne
 refine ct_of hΘ Tryz.func32 rfl (by decide) _ _ rfl rfl rfl ?_;conv=>whnf
 refine br (fun g => absurd g (by decide)) (fun _ => ?_);conv=>whnf
 refine usePu hp0 rfl ⟨rfl, trivial⟩ rfl ?_;conv=>whnf
 refine zau hΘ (X := { x : Nat × List UInt8 // x.1 ≤ ar.length + 1 ∧ x.2 = (putIR ((a0 :: ar).length : Nat)).1 ++ (((a0 :: ar).take x.1).map (zba 5)).flatten }) (fun x => [(5, .va (.str x.1.2)), (12, .va (.int .i64 x.1.1))]) [13, 14, 15, 16, 17, 60, 61, 62, 63, 64, 65, 66, 67, 68, 69, 70, 71, 72, 73, 74, 75, 76, 77, 78, 79, 80, 81, 82, 83, 84, 85, 86, 87, 88, 89, 90, 91, 92, 93, 94, 95, 96, 97, 98, 99, 100, 101, 102]
  (fun _ => [(0, .frz F), (1, gE 88 5 encL c (a0 :: ar)), (2, rvalE ⟨false, a0 :: ar, w, h, bits⟩ 1 c)]) 3 (fun x => ar.length + 1 - x.1.1) ⟨(0, (putIR ((a0 :: ar).length : Nat)).1), by simp⟩
  (fun hH hT => leI [] hH hT rfl ⟨trivial, zac zaa _ _ _ _ _, zab (by omega) _, trivial⟩ ⟨rfl, rfl, trivial⟩ ⟨Fz.le_refl F, zam zaa (zao _ _ _ _), rfl, trivial⟩) ?_
 rintro ⟨⟨k, ob⟩, hk, hob⟩ hH hT
 replace hk : k ≤ ar.length + 1 := hk
 replace hob : ob = (putIR ((a0 :: ar).length : Nat)).1 ++ (((a0 :: ar).take k).map (zba 5)).flatten := hob
 have hobl := zei hl hob
 have hfin : k = ar.length + 1 → zat 5 ⟨false, a0 :: ar, w, h, bits⟩ = ob := fun gk => by
  rw [hW, hob, gk, List.take_of_length_le (by simp)]
 by_cases gk : k < ar.length + 1
 ·have gl : k < (a0 :: ar).length := gk
  have hex : ∃ x, (a0 :: ar)[k] = x := ⟨_, rfl⟩
  obtain ⟨⟨t, n0, n1, n2, n3⟩, hkx⟩ := hex
  have hcell : ((a0 :: ar).map encL)[0 + (k : Int).toNat]? = some (encL (t, n0, n1, n2, n3)) := by rw [Nat.zero_add, Int.toNat_natCast, List.getElem?_map, List.getElem?_eq_getElem gl, hkx]; rfl
  have hlt : (k : Int) < ((ar.length + 1 : Nat) : Int) := by omega
  have hidx : 0 ≤ (k : Int) ∧ (k : Int) < ((ar.length + 1 : Nat) : Int) := by omega
  have hnext := zdo gl hkx hob
  have e0 := zas n0
  have e1 := zas n1
  have e2 := zas n2
  have e3 := zas n3
  have et := zby t
  have ht := hx _ (List.getElem_mem gl)
  rw [hkx] at ht
  replace ht : t.length ≤ 1000000 := ht
  have pt := zbj F t (by omega)
  have p0 := zal F n0
  have p1 := zal F n1
  have p2 := zal F n2
  have p3 := zal F n3
  have hk1 : k + 1 ≤ ar.length + 1 := gk
  have hdec : ar.length + 1 - (k + 1) < ar.length + 1 - k := by omega
  have hkm : k < 4611686018427387904 := by
   have h9 : ar.length + 1 ≤ 1000 := hl
   omega
  clear hfin hx hob
  have hb0 : (ob).length + (putIR n0).1.length ≤ 9223372036854775807 := by (try simp only [List.length_append]); omega
  have hb1 : (ob ++ (putIR n0).1).length + (putIR n1).1.length ≤ 9223372036854775807 := by (try simp only [List.length_append]); omega
  have hb2 : (ob ++ (putIR n0).1 ++ (putIR n1).1).length + (putIR n2).1.length ≤ 9223372036854775807 := by (try simp only [List.length_append]); omega
  have hnx : ob ++ (putIR n0).1 ++ (putIR n1).1 ++ (putIR n2).1 = (putIR ((a0 :: ar).length : Nat)).1 ++ (((a0 :: ar).take (k + 1)).map (zba 5)).flatten := by
   rw [← hnext, show zba 5 (t, n0, n1, n2, n3) = [(putIR n0).1, (putIR n1).1, (putIR n2).1].flatten from rfl]
   simp only [List.flatten_cons, List.flatten_nil, List.append_nil, List.append_assoc]
  conv=>whnf
  refine br (fun _ => ?_) (fun g => absurd hlt (of_decide_eq_false g));conv=>whnf
  refine br (fun g => absurd g (by decide)) (fun _ => ?_);conv=>whnf
  refine zb2 hΘ 3 ?_;conv=>whnf
  refine usePu hcol rfl ⟨rfl, trivial⟩ rfl ?_;conv=>whnf
  refine br (fun _ => ?_) (fun g => absurd g (by decide));conv=>whnf
  refine ⟨rfl, hidx, ?_⟩;conv=>whnf
  refine ⟨by decide, ?_⟩;conv=>whnf
  refine ⟨rfl, _, hcell, ?_⟩;conv=>whnf
  refine usePu p0 rfl ⟨rfl, trivial⟩ rfl ?_;conv=>whnf
  refine ⟨hb0, ?_⟩;conv=>whnf
  refine sr_go hΘ ?_;conv=>whnf
  refine usePu hcol rfl ⟨rfl, trivial⟩ rfl ?_;conv=>whnf
  refine br (fun _ => ?_) (fun g => absurd g (by decide));conv=>whnf
  refine ⟨rfl, hidx, ?_⟩;conv=>whnf
  refine ⟨by decide, ?_⟩;conv=>whnf
  refine ⟨rfl, _, hcell, ?_⟩;conv=>whnf
  refine usePu p1 rfl ⟨rfl, trivial⟩ rfl ?_;conv=>whnf
  refine ⟨hb1, ?_⟩;conv=>whnf
  refine sr_go hΘ ?_;conv=>whnf
  refine usePu hcol rfl ⟨rfl, trivial⟩ rfl ?_;conv=>whnf
  refine br (fun _ => ?_) (fun g => absurd g (by decide));conv=>whnf
  refine ⟨rfl, hidx, ?_⟩;conv=>whnf
  refine ⟨by decide, ?_⟩;conv=>whnf
  refine ⟨rfl, _, hcell, ?_⟩;conv=>whnf
  refine usePu p2 rfl ⟨rfl, trivial⟩ rfl ?_;conv=>whnf
  refine ⟨hb2, ?_⟩;conv=>whnf
  refine sr_go hΘ ?_;conv=>whnf
  refine usePu hcol rfl ⟨rfl, trivial⟩ rfl ?_;conv=>whnf
  refine br (fun g => absurd g (by decide)) (fun _ => ?_);conv=>whnf
  exact ⟨⟨(k + 1, ob ++ (putIR n0).1 ++ (putIR n1).1 ++ (putIR n2).1), hk1, hnx⟩, hdec, leR [] hH hT rfl ⟨trivial, zac zaa _ _ _ _ _, zab (by omega) _, trivial⟩ ⟨rfl, cnt hkm, trivial⟩ ⟨Fz.le_refl F, zam zaa (zao _ _ _ _), rfl, trivial⟩⟩
 ·have gk : k = ar.length + 1 := by omega
  have hge : ¬ (k : Int) < ((ar.length + 1 : Nat) : Int) := by omega
  have e := hfin gk
  conv=>whnf
  refine br (fun g => absurd (of_decide_eq_true g) hge) (fun _ => ?_);conv=>whnf
  exact fin _ F _ _ e (Fz.le_refl F) rfl rfl
end Go.Proofs.YtblllibdahkgfaaGreatDoor

namespace Go.Proofs.YtblllibdahkgfaaGreatDoor
open Go Sx
set_option maxRecDepth 100000
theorem rwEnd {F F1 : Fz} {p : Int} {v : RVal} {c : Nat} {t : List UInt8} {hh : Hp} {nx : Nat} (hb : zat p v = t) (hle : Fz.le F F1) (h0 : lget hh 0 = some (.frz F1)) (h1 : lget hh 1 = some (gE 88 5 encL c v.lines)) :
  Cln 2 (fun o F0 h0 n0 => Fz.le F F0 ∧ (Fz.le F F0 ∧ n0 = 2 ∧ o = .ret (.va (.str (zat p v))) ∧ h0 = [(1, gE 88 5 encL c v.lines)])) (.ret (.va (.str t))) hh nx := by
 subst hb
 exact clean [] (.ret (.va (.str (zat p v)))) F1 [(1, gE 88 5 encL c v.lines)] 2 ⟨hle, hle, rfl, rfl, rfl⟩ (zar _) rfl rfl trivial ⟨zac zaa _ _ _ _ _, trivial⟩ ⟨by simp only [entE, aget, Ent.ren]; rw [h0]; exact Fz.le_refl F1, by simp only [entE, aget]; rw [h1]; exact zam zaa (zao _ _ _ _), trivial⟩
set_option maxHeartbeats 8000000 in
theorem zkz (F : Fz) (p w h : Int) (bits : List UInt8) (c : Nat) (hp : ¬ 6 ≤ p) :
  Ct Tryz.prog 32 [.va (.int .i64 p), rvalV ⟨false, [], w, h, bits⟩ 1 c] F [(1, gE 88 5 encL c [])] 2
   (fun o F0 h0 n0 => Fz.le F F0 ∧ n0 = 2 ∧ o = .ret (.va (.str (zat p ⟨false, [], w, h, bits⟩))) ∧ h0 = [(1, gE 88 5 encL c [])]) := by
 have hW : zat p ⟨false, [], w, h, bits⟩ = (putIR 0).1 := by
  rw [zat, if_neg (by simp), if_neg hp]; exact List.append_nil _
 have hp0 := zal F 0
 refine ct_of hΘ Tryz.func32 rfl (by decide) _ _ rfl rfl rfl ?_;conv=>whnf
 refine br (fun g => absurd (of_decide_eq_true g) hp) (fun _ => ?_);conv=>whnf
 refine usePu hp0 rfl ⟨rfl, trivial⟩ rfl ?_;conv=>whnf
 refine zb2 hΘ 0 ?_;conv=>whnf
 refine br (fun g => absurd g (by decide)) (fun _ => ?_);conv=>whnf
 exact rwEnd hW (Fz.le_refl F) rfl rfl
theorem zc3 (F : Fz) (p : Int) (v : RVal) (c : Nat) (hp : 1 ≤ p ∧ p ≤ 8) (hl : v.lines.length ≤ 1000) (hx : ∀ x ∈ v.lines, x.1.length ≤ 1000000) (hb : v.bits.length ≤ 9000000000000000000) :
  Ct Tryz.prog 32 [.va (.int .i64 p), rvalV v 1 c] F [(1, gE 88 5 encL c v.lines)] 2
   (fun o F0 h0 n0 => Fz.le F F0 ∧ n0 = 2 ∧ o = .ret (.va (.str (zat p v))) ∧ h0 = [(1, gE 88 5 encL c v.lines)]) := by
 by_cases h6 : 6 ≤ p
 ·exact zpw F p v c h6 hb
 obtain ⟨lost, L, w, h, bits⟩ := v
 cases lost with
 | true =>
  refine ct_of hΘ Tryz.func32 rfl (by decide) _ _ rfl rfl rfl ?_;conv=>whnf
  exact rwEnd (v := ⟨true, L, w, h, bits⟩) (t := []) rfl (Fz.le_refl F) rfl rfl
 | false =>
  by_cases hne : L = []
  ·subst hne
   exact zkz F p w h bits c h6
  have hpc : p = 1 ∨ p = 2 ∨ p = 3 ∨ p = 4 ∨ p = 5 := by omega
  rcases hpc with rfl | rfl | rfl | rfl | rfl
  ·exact zmu F L w h bits c hne hl hx
  ·exact zml F L w h bits c hne hl hx
  ·exact znc F L w h bits c hne hl hx
  ·exact znf F L w h bits c hne hl hx
  ·exact zm2 F L w h bits c hne hl hx
end Go.Proofs.YtblllibdahkgfaaGreatDoor

namespace Go.Proofs.YtblllibdahkgfaaGreatDoor
open Go Sx
end Go.Proofs.YtblllibdahkgfaaGreatDoor

namespace Go.Proofs.YtblllibdahkgfaaGreatDoor
open Go Sx
theorem zj3 {p : Int} {v : Val} (h : VOK p v) (hl : v.lost = true) : v = loseV := by
 rcases h with rfl | ⟨h, _⟩
 ·rfl
 ·rw [h] at hl; cases hl
theorem p8 {p : Int} (hp : 1 ≤ p ∧ p ≤ 8) : p = 1 ∨ p = 2 ∨ p = 3 ∨ p = 4 ∨ p = 5 ∨ p = 6 ∨ p = 7 ∨ p = 8 := by omega
end Go.Proofs.YtblllibdahkgfaaGreatDoor

namespace Go.Proofs.YtblllibdahkgfaaGreatDoor
open Go Sx
instance decNums (p : Int) : ∀ (l acc : List Int), Decidable (zed p acc l)
 | [], _ => isTrue trivial
 | x :: r, acc => @instDecidableAnd _ _ inferInstance (decNums p r (acc ++ [x]))
instance decLn (p : Int) (before : List Ln) (x : Ln) : Decidable (lnOk p before x) := by
 unfold lnOk
 have : Decidable (∀ y, before.getLast? = some y → cmpL (y.2.take 2) (x.2.take 2) < 0) := by
  cases h : before.getLast? with
  | none => exact isTrue (fun y hy => by cases hy)
  | some z =>
   by_cases hz : cmpL (z.2.take 2) (x.2.take 2) < 0
   ·exact isTrue (fun y hy => by cases hy; exact hz)
   ·exact isFalse (fun hy => hz (hy z rfl))
 infer_instance
instance decLns (p : Int) : ∀ (l acc : List Ln), Decidable (lnsOk p acc l)
 | [], _ => isTrue trivial
 | x :: r, acc => @instDecidableAnd _ _ (decLn p acc x) (decLns p r (acc ++ [x]))
def VOK1 (p : Int) (v : Val) : Prop := v.lost = false ∧
  if p = 8 then v.lines = [] ∧ v.bits = [] ∧ (0 ≤ v.w ∧ v.w ≤ 64) ∧ (0 ≤ v.h ∧ v.h ≤ 64)
  else if 6 ≤ p then v.lines = [] ∧ (0 ≤ v.w ∧ v.w ≤ 32) ∧ (min v.w 1 ≤ v.h ∧ v.h ≤ min v.w 1 * 32) ∧ (if p = 7 then (v.bits.length : Int) = v.w * v.h ∧ v.bits.all (fun b => b == 48 || b == 49) = true else v.bits = [])
  else v.w = 0 ∧ v.h = 0 ∧ v.bits = [] ∧ v.lines.length ≤ 64 ∧ lnsOk p [] v.lines
theorem VOK1.ok {p : Int} {v : Val} (h : VOK1 p v) : VOK p v := .inr h
instance decVOK (p : Int) (v : Val) : Decidable (VOK1 p v) := by unfold VOK1; infer_instance
end Go.Proofs.YtblllibdahkgfaaGreatDoor

namespace Go.Proofs.YtblllibdahkgfaaGreatDoor
open Go Sx
end Go.Proofs.YtblllibdahkgfaaGreatDoor

namespace Go.Proofs.YtblllibdahkgfaaGreatDoor
open Go Sx
set_option maxRecDepth 100000
theorem zpg {p : Int} {v : Val} (hv : Fits v) : (zbe p v).length ≤ 100000000000 := by
 unfold zbe
 split
 ·simp
 split
 ·have h1 := zdq [v.w, v.h]
  have h2 := zby v.bits
  rw [List.length_append]
  simp only [List.length_cons, List.length_nil] at h1
  split
  ·omega
  ·simp only [List.length_nil]; omega
 ·have h1 := zdq [(v.lines.length : Int)]
  have h2 := zgn (p := p) v.lines (fun x hx => (hv.h2 x hx).2)
  have h3 := hv.h1
  rw [List.length_append]
  simp only [List.length_cons, List.length_nil] at h1
  have h4 : 74545 * v.lines.length ≤ 74545 * 1000 := Nat.mul_le_mul_left _ h3
  omega
theorem saneL (F : Fz) (hM : MLF F) : Fo Tryz.prog F 11 [] (fun o F' => o = .ret (.va (.lit true)) ∧ True) := zh3 (zxc F hM)
abbrev ztr (F0 : Fz) (s : SA) (x : List Int) : Prop := ∀ (P : Int) G, 1 ≤ P ∧ P ≤ 8 → Fz.le F0 G → Fo Tryz.prog G 14 [.va (.int .i64 P), .va s] (fun o F' => ∃ sc, o = .ret (.va sc) ∧ zaz F' sc (ze6 P x))
abbrev zsk (F0 : Fz) (s : SA) : Prop := ∀ (P : Int) G, 1 ≤ P ∧ P ≤ 8 → Fz.le F0 G → Fo Tryz.prog G 24 [.va (.int .i64 P), .va s] (fun o F' => ∃ v, VOK P v ∧ o = .ret (.va (.str (zbe P v))))
end Go.Proofs.YtblllibdahkgfaaGreatDoor

namespace Go.Proofs.YtblllibdahkgfaaGreatDoor
open Go Sx
set_option maxRecDepth 100000
end Go.Proofs.YtblllibdahkgfaaGreatDoor
