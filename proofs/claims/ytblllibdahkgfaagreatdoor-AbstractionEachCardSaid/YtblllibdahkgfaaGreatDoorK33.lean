import Derived.Test.YtblllibdahkgfaaGreatDoorK23
import Derived.Test.YtblllibdahkgfaaGreatDoorK30
import Derived.Test.YtblllibdahkgfaaGreatDoorK31
import Derived.Test.YtblllibdahkgfaaGreatDoorK32
import Derived.Test.YtblllibdahkgfaaGreatDoorK24

namespace Go.Proofs.YtblllibdahkgfaaGreatDoor
open Go Sx
set_option maxRecDepth 100000
abbrev sl0 (b e n c : Nat) : SA := .slice false 0 b e 5 n c
def rvSE (v : RVal) (b e n c : Nat) : Ent := .one (.cells 57 (rvS v (sl0 b e n c)))
theorem zb2 {n0 : Nat} {v : RVal} {b e n c : Nat} (h : 0 < n0 := by omega) : (rvSE v b e n c).below n0 := by
 show ∀ a ∈ _, SA.below n0 a
 intro a ha
 simp only [List.mem_cons, List.not_mem_nil, or_false] at ha
 rcases ha with rfl | rfl | rfl | rfl | rfl
 ·trivial
 ·exact .inr h
 ·trivial
 ·trivial
 ·trivial
theorem wfEnd {F F1 : Fz} {p : Int} {v : RVal} {t : List UInt8} {h : Hp} {nx : Nat} (hb : zar p v = t) (h0 : lget h 0 = some (.frz F)) :
  Cln 1 (FoK F fun o F' => o = .ret (.va (.str (zar p v))) ∧ F' = F) (.ret (.va (.str t))) h nx := by
 subst hb
 exact endPu h0 (Fz.le_refl F) (zat _) rfl
set_option maxHeartbeats 8000000 in
theorem zwk (F : Fz) (L : List RLn) (w h : Int) (bits : List UInt8) (b e c : Nat) (X : List (List SA)) (room : Nat) (hF : F b = some (.arr 88 5 X room)) (hXe : (X.drop e).take L.length = L.map encL) (hl : L.length ≤ 1000) (hx : ∀ x ∈ L, x.1.length ≤ 1000000) :
  Fo Tryz.prog F 32 [.va (.int .i64 1), .agg (rvS ⟨false, L, w, h, bits⟩ (sl0 b e L.length c))] (fun o F' => o = .ret (.va (.str (zar 1 ⟨false, L, w, h, bits⟩))) ∧ F' = F) := by
 have hW : zar 1 ⟨false, L, w, h, bits⟩ = (putIR (L.length : Nat)).1 ++ (L.map (zbc 1)).flatten := rfl
 have hp0 := zak F (L.length : Nat)
 have hcol := zce 1 F
 rw [show ((colN 1 : Nat) : Int) = 0 by decide] at hcol
 refine fo_of hΘ Tryz.func32 rfl (by decide) _ _ rfl rfl rfl ?_;conv=>whnf
 refine br (fun g => absurd g (by decide)) (fun _ => ?_);conv=>whnf
 refine usePu hp0 rfl ⟨rfl, trivial⟩ rfl ?_;conv=>whnf
 refine za0 hΘ (X := { x : Nat × List UInt8 // x.1 ≤ L.length ∧ x.2 = (putIR (L.length : Nat)).1 ++ ((L.take x.1).map (zbc 1)).flatten }) (fun x => [(5, .va (.str x.1.2)), (12, .va (.int .i64 x.1.1))]) [13, 14, 15, 16, 17, 60, 61, 62, 63, 64, 65, 66, 67, 68, 69, 70, 71, 72, 73, 74, 75, 76, 77, 78, 79, 80, 81, 82, 83, 84, 85, 86, 87, 88, 89, 90, 91, 92, 93, 94, 95, 96, 97, 98, 99, 100, 101, 102]
  (fun _ => [(0, .frz F), (1, rvSE ⟨false, L, w, h, bits⟩ b e L.length c)]) 2 (fun x => L.length - x.1.1) ⟨(0, (putIR (L.length : Nat)).1), by simp⟩
  (fun hH hT => leI [] hH hT rfl ⟨trivial, zb2, trivial⟩ ⟨rfl, rfl, trivial⟩ ⟨Fz.le_refl F, rfl, trivial⟩) ?_
 rintro ⟨⟨k, ob⟩, hk, hob⟩ hH hT
 replace hk : k ≤ L.length := hk
 replace hob : ob = (putIR (L.length : Nat)).1 ++ ((L.take k).map (zbc 1)).flatten := hob
 have hobl := zec hl hob
 have hfin : k = L.length → zar 1 ⟨false, L, w, h, bits⟩ = ob := fun gk => by
  rw [hW, hob, gk, List.take_of_length_le (Nat.le_refl _)]
 by_cases gk : k < L.length
 ·have hex : ∃ x, L[k] = x := ⟨_, rfl⟩
  obtain ⟨⟨t, n0, n1, n2, n3⟩, hkx⟩ := hex
  have hcell : X[e + (k : Int).toNat]? = some (encL (t, n0, n1, n2, n3)) := by rw [← hkx]; exact Sl.at hXe gk
  have hlt : (k : Int) < (L.length : Nat) := by omega
  have hidx : 0 ≤ (k : Int) ∧ (k : Int) < (L.length : Nat) := by omega
  have hnext := zdi gk hkx hob
  have e0 := zaq n0
  have e1 := zaq n1
  have e2 := zaq n2
  have e3 := zaq n3
  have et := zbv t
  have ht := hx _ (List.getElem_mem gk)
  rw [hkx] at ht
  replace ht : t.length ≤ 1000000 := ht
  have pt := zbi F t (by omega)
  have p0 := zak F n0
  have p1 := zak F n1
  have p2 := zak F n2
  have p3 := zak F n3
  have hk1 : k + 1 ≤ L.length := gk
  have hdec : L.length - (k + 1) < L.length - k := by omega
  have hkm : k < 4611686018427387904 := by omega
  clear hfin hx hob
  have hnx : ob ++ (putSR t).1 = (putIR (L.length : Nat)).1 ++ ((L.take (k + 1)).map (zbc 1)).flatten := by rw [← hnext]; exact congrArg (ob ++ ·) (List.append_nil _).symm
  have hb1 : ob.length + (putSR t).1.length ≤ 9223372036854775807 := by omega
  conv=>whnf
  refine br (fun _ => ?_) (fun g => absurd hlt (of_decide_eq_false g));conv=>whnf
  refine br (fun _ => ?_) (fun g => absurd g (by decide));conv=>whnf
  refine ⟨rfl, hidx, ?_⟩;conv=>whnf
  refine ⟨_, hF, ?_⟩;conv=>whnf
  refine ⟨_, hcell, ?_⟩;conv=>whnf
  refine usePu pt rfl ⟨rfl, trivial⟩ rfl ?_;conv=>whnf
  refine ⟨hb1, ?_⟩;conv=>whnf
  refine zb4 hΘ 0 ?_;conv=>whnf
  refine usePu hcol rfl ⟨rfl, trivial⟩ rfl ?_;conv=>whnf
  refine br (fun g => absurd g (by decide)) (fun _ => ?_);conv=>whnf
  exact ⟨⟨(k + 1, ob ++ (putSR t).1), hk1, hnx⟩, hdec, leR [] hH hT rfl ⟨trivial, zb2, trivial⟩ ⟨rfl, cnt hkm, trivial⟩ ⟨Fz.le_refl F, rfl, trivial⟩⟩
 ·have gk : k = L.length := by omega
  have hge : ¬ (k : Int) < (L.length : Nat) := by omega
  have e := hfin gk
  conv=>whnf
  refine br (fun g => absurd (of_decide_eq_true g) hge) (fun _ => ?_);conv=>whnf
  exact wfEnd (F1 := F) e rfl
set_option maxHeartbeats 8000000 in
theorem zva (F : Fz) (L : List RLn) (w h : Int) (bits : List UInt8) (b e c : Nat) (X : List (List SA)) (room : Nat) (hF : F b = some (.arr 88 5 X room)) (hXe : (X.drop e).take L.length = L.map encL) (hl : L.length ≤ 1000) (hx : ∀ x ∈ L, x.1.length ≤ 1000000) :
  Fo Tryz.prog F 32 [.va (.int .i64 2), .agg (rvS ⟨false, L, w, h, bits⟩ (sl0 b e L.length c))] (fun o F' => o = .ret (.va (.str (zar 2 ⟨false, L, w, h, bits⟩))) ∧ F' = F) := by
 have hW : zar 2 ⟨false, L, w, h, bits⟩ = (putIR (L.length : Nat)).1 ++ (L.map (zbc 2)).flatten := rfl
 have hp0 := zak F (L.length : Nat)
 have hcol := zce 2 F
 rw [show ((colN 2 : Nat) : Int) = 1 by decide] at hcol
 refine fo_of hΘ Tryz.func32 rfl (by decide) _ _ rfl rfl rfl ?_;conv=>whnf
 refine br (fun g => absurd g (by decide)) (fun _ => ?_);conv=>whnf
 refine usePu hp0 rfl ⟨rfl, trivial⟩ rfl ?_;conv=>whnf
 refine za0 hΘ (X := { x : Nat × List UInt8 // x.1 ≤ L.length ∧ x.2 = (putIR (L.length : Nat)).1 ++ ((L.take x.1).map (zbc 2)).flatten }) (fun x => [(5, .va (.str x.1.2)), (12, .va (.int .i64 x.1.1))]) [13, 14, 15, 16, 17, 60, 61, 62, 63, 64, 65, 66, 67, 68, 69, 70, 71, 72, 73, 74, 75, 76, 77, 78, 79, 80, 81, 82, 83, 84, 85, 86, 87, 88, 89, 90, 91, 92, 93, 94, 95, 96, 97, 98, 99, 100, 101, 102]
  (fun _ => [(0, .frz F), (1, rvSE ⟨false, L, w, h, bits⟩ b e L.length c)]) 2 (fun x => L.length - x.1.1) ⟨(0, (putIR (L.length : Nat)).1), by simp⟩
  (fun hH hT => leI [] hH hT rfl ⟨trivial, zb2, trivial⟩ ⟨rfl, rfl, trivial⟩ ⟨Fz.le_refl F, rfl, trivial⟩) ?_
 rintro ⟨⟨k, ob⟩, hk, hob⟩ hH hT
 replace hk : k ≤ L.length := hk
 replace hob : ob = (putIR (L.length : Nat)).1 ++ ((L.take k).map (zbc 2)).flatten := hob
 have hobl := zec hl hob
 have hfin : k = L.length → zar 2 ⟨false, L, w, h, bits⟩ = ob := fun gk => by
  rw [hW, hob, gk, List.take_of_length_le (Nat.le_refl _)]
 by_cases gk : k < L.length
 ·have hex : ∃ x, L[k] = x := ⟨_, rfl⟩
  obtain ⟨⟨t, n0, n1, n2, n3⟩, hkx⟩ := hex
  have hcell : X[e + (k : Int).toNat]? = some (encL (t, n0, n1, n2, n3)) := by rw [← hkx]; exact Sl.at hXe gk
  have hlt : (k : Int) < (L.length : Nat) := by omega
  have hidx : 0 ≤ (k : Int) ∧ (k : Int) < (L.length : Nat) := by omega
  have hnext := zdi gk hkx hob
  have e0 := zaq n0
  have e1 := zaq n1
  have e2 := zaq n2
  have e3 := zaq n3
  have et := zbv t
  have ht := hx _ (List.getElem_mem gk)
  rw [hkx] at ht
  replace ht : t.length ≤ 1000000 := ht
  have pt := zbi F t (by omega)
  have p0 := zak F n0
  have p1 := zak F n1
  have p2 := zak F n2
  have p3 := zak F n3
  have hk1 : k + 1 ≤ L.length := gk
  have hdec : L.length - (k + 1) < L.length - k := by omega
  have hkm : k < 4611686018427387904 := by omega
  clear hfin hx hob
  have hb0 : (ob).length + (putIR n0).1.length ≤ 9223372036854775807 := by (try simp only [List.length_append]); omega
  have hnx : ob ++ (putIR n0).1 = (putIR (L.length : Nat)).1 ++ ((L.take (k + 1)).map (zbc 2)).flatten := by
   rw [← hnext, show zbc 2 (t, n0, n1, n2, n3) = [(putIR n0).1].flatten from rfl]
   simp only [List.flatten_cons, List.flatten_nil, List.append_nil, List.append_assoc]
  conv=>whnf
  refine br (fun _ => ?_) (fun g => absurd hlt (of_decide_eq_false g));conv=>whnf
  refine br (fun g => absurd g (by decide)) (fun _ => ?_);conv=>whnf
  refine zb4 hΘ 1 ?_;conv=>whnf
  refine usePu hcol rfl ⟨rfl, trivial⟩ rfl ?_;conv=>whnf
  refine br (fun _ => ?_) (fun g => absurd g (by decide));conv=>whnf
  refine ⟨rfl, hidx, ?_⟩;conv=>whnf
  refine ⟨by decide, ?_⟩;conv=>whnf
  refine ⟨_, hF, ?_⟩;conv=>whnf
  refine ⟨_, hcell, ?_⟩;conv=>whnf
  refine usePu p0 rfl ⟨rfl, trivial⟩ rfl ?_;conv=>whnf
  refine ⟨hb0, ?_⟩;conv=>whnf
  refine sr_go hΘ ?_;conv=>whnf
  refine usePu hcol rfl ⟨rfl, trivial⟩ rfl ?_;conv=>whnf
  refine br (fun g => absurd g (by decide)) (fun _ => ?_);conv=>whnf
  exact ⟨⟨(k + 1, ob ++ (putIR n0).1), hk1, hnx⟩, hdec, leR [] hH hT rfl ⟨trivial, zb2, trivial⟩ ⟨rfl, cnt hkm, trivial⟩ ⟨Fz.le_refl F, rfl, trivial⟩⟩
 ·have gk : k = L.length := by omega
  have hge : ¬ (k : Int) < (L.length : Nat) := by omega
  have e := hfin gk
  conv=>whnf
  refine br (fun g => absurd (of_decide_eq_true g) hge) (fun _ => ?_);conv=>whnf
  exact wfEnd (F1 := F) e rfl
set_option maxHeartbeats 8000000 in
theorem zu9 (F : Fz) (L : List RLn) (w h : Int) (bits : List UInt8) (b e c : Nat) (X : List (List SA)) (room : Nat) (hF : F b = some (.arr 88 5 X room)) (hXe : (X.drop e).take L.length = L.map encL) (hl : L.length ≤ 1000) (hx : ∀ x ∈ L, x.1.length ≤ 1000000) :
  Fo Tryz.prog F 32 [.va (.int .i64 3), .agg (rvS ⟨false, L, w, h, bits⟩ (sl0 b e L.length c))] (fun o F' => o = .ret (.va (.str (zar 3 ⟨false, L, w, h, bits⟩))) ∧ F' = F) := by
 have hW : zar 3 ⟨false, L, w, h, bits⟩ = (putIR (L.length : Nat)).1 ++ (L.map (zbc 3)).flatten := rfl
 have hp0 := zak F (L.length : Nat)
 have hcol := zce 3 F
 rw [show ((colN 3 : Nat) : Int) = 3 by decide] at hcol
 refine fo_of hΘ Tryz.func32 rfl (by decide) _ _ rfl rfl rfl ?_;conv=>whnf
 refine br (fun g => absurd g (by decide)) (fun _ => ?_);conv=>whnf
 refine usePu hp0 rfl ⟨rfl, trivial⟩ rfl ?_;conv=>whnf
 refine za0 hΘ (X := { x : Nat × List UInt8 // x.1 ≤ L.length ∧ x.2 = (putIR (L.length : Nat)).1 ++ ((L.take x.1).map (zbc 3)).flatten }) (fun x => [(5, .va (.str x.1.2)), (12, .va (.int .i64 x.1.1))]) [13, 14, 15, 16, 17, 60, 61, 62, 63, 64, 65, 66, 67, 68, 69, 70, 71, 72, 73, 74, 75, 76, 77, 78, 79, 80, 81, 82, 83, 84, 85, 86, 87, 88, 89, 90, 91, 92, 93, 94, 95, 96, 97, 98, 99, 100, 101, 102]
  (fun _ => [(0, .frz F), (1, rvSE ⟨false, L, w, h, bits⟩ b e L.length c)]) 2 (fun x => L.length - x.1.1) ⟨(0, (putIR (L.length : Nat)).1), by simp⟩
  (fun hH hT => leI [] hH hT rfl ⟨trivial, zb2, trivial⟩ ⟨rfl, rfl, trivial⟩ ⟨Fz.le_refl F, rfl, trivial⟩) ?_
 rintro ⟨⟨k, ob⟩, hk, hob⟩ hH hT
 replace hk : k ≤ L.length := hk
 replace hob : ob = (putIR (L.length : Nat)).1 ++ ((L.take k).map (zbc 3)).flatten := hob
 have hobl := zec hl hob
 have hfin : k = L.length → zar 3 ⟨false, L, w, h, bits⟩ = ob := fun gk => by
  rw [hW, hob, gk, List.take_of_length_le (Nat.le_refl _)]
 by_cases gk : k < L.length
 ·have hex : ∃ x, L[k] = x := ⟨_, rfl⟩
  obtain ⟨⟨t, n0, n1, n2, n3⟩, hkx⟩ := hex
  have hcell : X[e + (k : Int).toNat]? = some (encL (t, n0, n1, n2, n3)) := by rw [← hkx]; exact Sl.at hXe gk
  have hlt : (k : Int) < (L.length : Nat) := by omega
  have hidx : 0 ≤ (k : Int) ∧ (k : Int) < (L.length : Nat) := by omega
  have hnext := zdi gk hkx hob
  have e0 := zaq n0
  have e1 := zaq n1
  have e2 := zaq n2
  have e3 := zaq n3
  have et := zbv t
  have ht := hx _ (List.getElem_mem gk)
  rw [hkx] at ht
  replace ht : t.length ≤ 1000000 := ht
  have pt := zbi F t (by omega)
  have p0 := zak F n0
  have p1 := zak F n1
  have p2 := zak F n2
  have p3 := zak F n3
  have hk1 : k + 1 ≤ L.length := gk
  have hdec : L.length - (k + 1) < L.length - k := by omega
  have hkm : k < 4611686018427387904 := by omega
  clear hfin hx hob
  have hb0 : (ob).length + (putIR n0).1.length ≤ 9223372036854775807 := by (try simp only [List.length_append]); omega
  have hb1 : (ob ++ (putIR n0).1).length + (putIR n1).1.length ≤ 9223372036854775807 := by (try simp only [List.length_append]); omega
  have hb2 : (ob ++ (putIR n0).1 ++ (putIR n1).1).length + (putIR n2).1.length ≤ 9223372036854775807 := by (try simp only [List.length_append]); omega
  have hnx : ob ++ (putIR n0).1 ++ (putIR n1).1 ++ (putIR n2).1 = (putIR (L.length : Nat)).1 ++ ((L.take (k + 1)).map (zbc 3)).flatten := by
   rw [← hnext, show zbc 3 (t, n0, n1, n2, n3) = [(putIR n0).1, (putIR n1).1, (putIR n2).1].flatten from rfl]
   simp only [List.flatten_cons, List.flatten_nil, List.append_nil, List.append_assoc]
  conv=>whnf
  refine br (fun _ => ?_) (fun g => absurd hlt (of_decide_eq_false g));conv=>whnf
  refine br (fun g => absurd g (by decide)) (fun _ => ?_);conv=>whnf
  refine zb4 hΘ 3 ?_;conv=>whnf
  refine usePu hcol rfl ⟨rfl, trivial⟩ rfl ?_;conv=>whnf
  refine br (fun _ => ?_) (fun g => absurd g (by decide));conv=>whnf
  refine ⟨rfl, hidx, ?_⟩;conv=>whnf
  refine ⟨by decide, ?_⟩;conv=>whnf
  refine ⟨_, hF, ?_⟩;conv=>whnf
  refine ⟨_, hcell, ?_⟩;conv=>whnf
  refine usePu p0 rfl ⟨rfl, trivial⟩ rfl ?_;conv=>whnf
  refine ⟨hb0, ?_⟩;conv=>whnf
  refine sr_go hΘ ?_;conv=>whnf
  refine usePu hcol rfl ⟨rfl, trivial⟩ rfl ?_;conv=>whnf
  refine br (fun _ => ?_) (fun g => absurd g (by decide));conv=>whnf
  refine ⟨rfl, hidx, ?_⟩;conv=>whnf
  refine ⟨by decide, ?_⟩;conv=>whnf
  refine ⟨_, hF, ?_⟩;conv=>whnf
  refine ⟨_, hcell, ?_⟩;conv=>whnf
  refine usePu p1 rfl ⟨rfl, trivial⟩ rfl ?_;conv=>whnf
  refine ⟨hb1, ?_⟩;conv=>whnf
  refine sr_go hΘ ?_;conv=>whnf
  refine usePu hcol rfl ⟨rfl, trivial⟩ rfl ?_;conv=>whnf
  refine br (fun _ => ?_) (fun g => absurd g (by decide));conv=>whnf
  refine ⟨rfl, hidx, ?_⟩;conv=>whnf
  refine ⟨by decide, ?_⟩;conv=>whnf
  refine ⟨_, hF, ?_⟩;conv=>whnf
  refine ⟨_, hcell, ?_⟩;conv=>whnf
  refine usePu p2 rfl ⟨rfl, trivial⟩ rfl ?_;conv=>whnf
  refine ⟨hb2, ?_⟩;conv=>whnf
  refine sr_go hΘ ?_;conv=>whnf
  refine usePu hcol rfl ⟨rfl, trivial⟩ rfl ?_;conv=>whnf
  refine br (fun g => absurd g (by decide)) (fun _ => ?_);conv=>whnf
  exact ⟨⟨(k + 1, ob ++ (putIR n0).1 ++ (putIR n1).1 ++ (putIR n2).1), hk1, hnx⟩, hdec, leR [] hH hT rfl ⟨trivial, zb2, trivial⟩ ⟨rfl, cnt hkm, trivial⟩ ⟨Fz.le_refl F, rfl, trivial⟩⟩
 ·have gk : k = L.length := by omega
  have hge : ¬ (k : Int) < (L.length : Nat) := by omega
  have e := hfin gk
  conv=>whnf
  refine br (fun g => absurd (of_decide_eq_true g) hge) (fun _ => ?_);conv=>whnf
  exact wfEnd (F1 := F) e rfl
set_option maxHeartbeats 8000000 in
theorem zv1 (F : Fz) (L : List RLn) (w h : Int) (bits : List UInt8) (b e c : Nat) (X : List (List SA)) (room : Nat) (hF : F b = some (.arr 88 5 X room)) (hXe : (X.drop e).take L.length = L.map encL) (hl : L.length ≤ 1000) (hx : ∀ x ∈ L, x.1.length ≤ 1000000) :
  Fo Tryz.prog F 32 [.va (.int .i64 4), .agg (rvS ⟨false, L, w, h, bits⟩ (sl0 b e L.length c))] (fun o F' => o = .ret (.va (.str (zar 4 ⟨false, L, w, h, bits⟩))) ∧ F' = F) := by
 have hW : zar 4 ⟨false, L, w, h, bits⟩ = (putIR (L.length : Nat)).1 ++ (L.map (zbc 4)).flatten := rfl
 have hp0 := zak F (L.length : Nat)
 have hcol := zce 4 F
 rw [show ((colN 4 : Nat) : Int) = 4 by decide] at hcol
 refine fo_of hΘ Tryz.func32 rfl (by decide) _ _ rfl rfl rfl ?_;conv=>whnf
 refine br (fun g => absurd g (by decide)) (fun _ => ?_);conv=>whnf
 refine usePu hp0 rfl ⟨rfl, trivial⟩ rfl ?_;conv=>whnf
 refine za0 hΘ (X := { x : Nat × List UInt8 // x.1 ≤ L.length ∧ x.2 = (putIR (L.length : Nat)).1 ++ ((L.take x.1).map (zbc 4)).flatten }) (fun x => [(5, .va (.str x.1.2)), (12, .va (.int .i64 x.1.1))]) [13, 14, 15, 16, 17, 60, 61, 62, 63, 64, 65, 66, 67, 68, 69, 70, 71, 72, 73, 74, 75, 76, 77, 78, 79, 80, 81, 82, 83, 84, 85, 86, 87, 88, 89, 90, 91, 92, 93, 94, 95, 96, 97, 98, 99, 100, 101, 102]
  (fun _ => [(0, .frz F), (1, rvSE ⟨false, L, w, h, bits⟩ b e L.length c)]) 2 (fun x => L.length - x.1.1) ⟨(0, (putIR (L.length : Nat)).1), by simp⟩
  (fun hH hT => leI [] hH hT rfl ⟨trivial, zb2, trivial⟩ ⟨rfl, rfl, trivial⟩ ⟨Fz.le_refl F, rfl, trivial⟩) ?_
 rintro ⟨⟨k, ob⟩, hk, hob⟩ hH hT
 replace hk : k ≤ L.length := hk
 replace hob : ob = (putIR (L.length : Nat)).1 ++ ((L.take k).map (zbc 4)).flatten := hob
 have hobl := zec hl hob
 have hfin : k = L.length → zar 4 ⟨false, L, w, h, bits⟩ = ob := fun gk => by
  rw [hW, hob, gk, List.take_of_length_le (Nat.le_refl _)]
 by_cases gk : k < L.length
 ·have hex : ∃ x, L[k] = x := ⟨_, rfl⟩
  obtain ⟨⟨t, n0, n1, n2, n3⟩, hkx⟩ := hex
  have hcell : X[e + (k : Int).toNat]? = some (encL (t, n0, n1, n2, n3)) := by rw [← hkx]; exact Sl.at hXe gk
  have hlt : (k : Int) < (L.length : Nat) := by omega
  have hidx : 0 ≤ (k : Int) ∧ (k : Int) < (L.length : Nat) := by omega
  have hnext := zdi gk hkx hob
  have e0 := zaq n0
  have e1 := zaq n1
  have e2 := zaq n2
  have e3 := zaq n3
  have et := zbv t
  have ht := hx _ (List.getElem_mem gk)
  rw [hkx] at ht
  replace ht : t.length ≤ 1000000 := ht
  have pt := zbi F t (by omega)
  have p0 := zak F n0
  have p1 := zak F n1
  have p2 := zak F n2
  have p3 := zak F n3
  have hk1 : k + 1 ≤ L.length := gk
  have hdec : L.length - (k + 1) < L.length - k := by omega
  have hkm : k < 4611686018427387904 := by omega
  clear hfin hx hob
  have hb0 : (ob).length + (putIR n0).1.length ≤ 9223372036854775807 := by (try simp only [List.length_append]); omega
  have hb1 : (ob ++ (putIR n0).1).length + (putIR n1).1.length ≤ 9223372036854775807 := by (try simp only [List.length_append]); omega
  have hb2 : (ob ++ (putIR n0).1 ++ (putIR n1).1).length + (putIR n2).1.length ≤ 9223372036854775807 := by (try simp only [List.length_append]); omega
  have hb3 : (ob ++ (putIR n0).1 ++ (putIR n1).1 ++ (putIR n2).1).length + (putIR n3).1.length ≤ 9223372036854775807 := by (try simp only [List.length_append]); omega
  have hnx : ob ++ (putIR n0).1 ++ (putIR n1).1 ++ (putIR n2).1 ++ (putIR n3).1 = (putIR (L.length : Nat)).1 ++ ((L.take (k + 1)).map (zbc 4)).flatten := by
   rw [← hnext, show zbc 4 (t, n0, n1, n2, n3) = [(putIR n0).1, (putIR n1).1, (putIR n2).1, (putIR n3).1].flatten from rfl]
   simp only [List.flatten_cons, List.flatten_nil, List.append_nil, List.append_assoc]
  conv=>whnf
  refine br (fun _ => ?_) (fun g => absurd hlt (of_decide_eq_false g));conv=>whnf
  refine br (fun g => absurd g (by decide)) (fun _ => ?_);conv=>whnf
  refine zb4 hΘ 4 ?_;conv=>whnf
  refine usePu hcol rfl ⟨rfl, trivial⟩ rfl ?_;conv=>whnf
  refine br (fun _ => ?_) (fun g => absurd g (by decide));conv=>whnf
  refine ⟨rfl, hidx, ?_⟩;conv=>whnf
  refine ⟨by decide, ?_⟩;conv=>whnf
  refine ⟨_, hF, ?_⟩;conv=>whnf
  refine ⟨_, hcell, ?_⟩;conv=>whnf
  refine usePu p0 rfl ⟨rfl, trivial⟩ rfl ?_;conv=>whnf
  refine ⟨hb0, ?_⟩;conv=>whnf
  refine sr_go hΘ ?_;conv=>whnf
  refine usePu hcol rfl ⟨rfl, trivial⟩ rfl ?_;conv=>whnf
  refine br (fun _ => ?_) (fun g => absurd g (by decide));conv=>whnf
  refine ⟨rfl, hidx, ?_⟩;conv=>whnf
  refine ⟨by decide, ?_⟩;conv=>whnf
  refine ⟨_, hF, ?_⟩;conv=>whnf
  refine ⟨_, hcell, ?_⟩;conv=>whnf
  refine usePu p1 rfl ⟨rfl, trivial⟩ rfl ?_;conv=>whnf
  refine ⟨hb1, ?_⟩;conv=>whnf
  refine sr_go hΘ ?_;conv=>whnf
  refine usePu hcol rfl ⟨rfl, trivial⟩ rfl ?_;conv=>whnf
  refine br (fun _ => ?_) (fun g => absurd g (by decide));conv=>whnf
  refine ⟨rfl, hidx, ?_⟩;conv=>whnf
  refine ⟨by decide, ?_⟩;conv=>whnf
  refine ⟨_, hF, ?_⟩;conv=>whnf
  refine ⟨_, hcell, ?_⟩;conv=>whnf
  refine usePu p2 rfl ⟨rfl, trivial⟩ rfl ?_;conv=>whnf
  refine ⟨hb2, ?_⟩;conv=>whnf
  refine sr_go hΘ ?_;conv=>whnf
  refine usePu hcol rfl ⟨rfl, trivial⟩ rfl ?_;conv=>whnf
  refine br (fun _ => ?_) (fun g => absurd g (by decide));conv=>whnf
  refine ⟨rfl, hidx, ?_⟩;conv=>whnf
  refine ⟨by decide, ?_⟩;conv=>whnf
  refine ⟨_, hF, ?_⟩;conv=>whnf
  refine ⟨_, hcell, ?_⟩;conv=>whnf
  refine usePu p3 rfl ⟨rfl, trivial⟩ rfl ?_;conv=>whnf
  refine ⟨hb3, ?_⟩;conv=>whnf
  refine sr_go hΘ ?_;conv=>whnf
  refine usePu hcol rfl ⟨rfl, trivial⟩ rfl ?_;conv=>whnf
  refine br (fun g => absurd g (by decide)) (fun _ => ?_);conv=>whnf
  exact ⟨⟨(k + 1, ob ++ (putIR n0).1 ++ (putIR n1).1 ++ (putIR n2).1 ++ (putIR n3).1), hk1, hnx⟩, hdec, leR [] hH hT rfl ⟨trivial, zb2, trivial⟩ ⟨rfl, cnt hkm, trivial⟩ ⟨Fz.le_refl F, rfl, trivial⟩⟩
 ·have gk : k = L.length := by omega
  have hge : ¬ (k : Int) < (L.length : Nat) := by omega
  have e := hfin gk
  conv=>whnf
  refine br (fun g => absurd (of_decide_eq_true g) hge) (fun _ => ?_);conv=>whnf
  exact wfEnd (F1 := F) e rfl
set_option maxHeartbeats 8000000 in
theorem zwj (F : Fz) (L : List RLn) (w h : Int) (bits : List UInt8) (b e c : Nat) (X : List (List SA)) (room : Nat) (hF : F b = some (.arr 88 5 X room)) (hXe : (X.drop e).take L.length = L.map encL) (hl : L.length ≤ 1000) (hx : ∀ x ∈ L, x.1.length ≤ 1000000) :
  Fo Tryz.prog F 32 [.va (.int .i64 5), .agg (rvS ⟨false, L, w, h, bits⟩ (sl0 b e L.length c))] (fun o F' => o = .ret (.va (.str (zar 5 ⟨false, L, w, h, bits⟩))) ∧ F' = F) := by
 have hW : zar 5 ⟨false, L, w, h, bits⟩ = (putIR (L.length : Nat)).1 ++ (L.map (zbc 5)).flatten := rfl
 have hp0 := zak F (L.length : Nat)
 have hcol := zce 5 F
 rw [show ((colN 5 : Nat) : Int) = 3 by decide] at hcol
 refine fo_of hΘ Tryz.func32 rfl (by decide) _ _ rfl rfl rfl ?_;conv=>whnf
 refine br (fun g => absurd g (by decide)) (fun _ => ?_);conv=>whnf
 refine usePu hp0 rfl ⟨rfl, trivial⟩ rfl ?_;conv=>whnf
 refine za0 hΘ (X := { x : Nat × List UInt8 // x.1 ≤ L.length ∧ x.2 = (putIR (L.length : Nat)).1 ++ ((L.take x.1).map (zbc 5)).flatten }) (fun x => [(5, .va (.str x.1.2)), (12, .va (.int .i64 x.1.1))]) [13, 14, 15, 16, 17, 60, 61, 62, 63, 64, 65, 66, 67, 68, 69, 70, 71, 72, 73, 74, 75, 76, 77, 78, 79, 80, 81, 82, 83, 84, 85, 86, 87, 88, 89, 90, 91, 92, 93, 94, 95, 96, 97, 98, 99, 100, 101, 102]
  (fun _ => [(0, .frz F), (1, rvSE ⟨false, L, w, h, bits⟩ b e L.length c)]) 2 (fun x => L.length - x.1.1) ⟨(0, (putIR (L.length : Nat)).1), by simp⟩
  (fun hH hT => leI [] hH hT rfl ⟨trivial, zb2, trivial⟩ ⟨rfl, rfl, trivial⟩ ⟨Fz.le_refl F, rfl, trivial⟩) ?_
 rintro ⟨⟨k, ob⟩, hk, hob⟩ hH hT
 replace hk : k ≤ L.length := hk
 replace hob : ob = (putIR (L.length : Nat)).1 ++ ((L.take k).map (zbc 5)).flatten := hob
 have hobl := zec hl hob
 have hfin : k = L.length → zar 5 ⟨false, L, w, h, bits⟩ = ob := fun gk => by
  rw [hW, hob, gk, List.take_of_length_le (Nat.le_refl _)]
 by_cases gk : k < L.length
 ·have hex : ∃ x, L[k] = x := ⟨_, rfl⟩
  obtain ⟨⟨t, n0, n1, n2, n3⟩, hkx⟩ := hex
  have hcell : X[e + (k : Int).toNat]? = some (encL (t, n0, n1, n2, n3)) := by rw [← hkx]; exact Sl.at hXe gk
  have hlt : (k : Int) < (L.length : Nat) := by omega
  have hidx : 0 ≤ (k : Int) ∧ (k : Int) < (L.length : Nat) := by omega
  have hnext := zdi gk hkx hob
  have e0 := zaq n0
  have e1 := zaq n1
  have e2 := zaq n2
  have e3 := zaq n3
  have et := zbv t
  have ht := hx _ (List.getElem_mem gk)
  rw [hkx] at ht
  replace ht : t.length ≤ 1000000 := ht
  have pt := zbi F t (by omega)
  have p0 := zak F n0
  have p1 := zak F n1
  have p2 := zak F n2
  have p3 := zak F n3
  have hk1 : k + 1 ≤ L.length := gk
  have hdec : L.length - (k + 1) < L.length - k := by omega
  have hkm : k < 4611686018427387904 := by omega
  clear hfin hx hob
  have hb0 : (ob).length + (putIR n0).1.length ≤ 9223372036854775807 := by (try simp only [List.length_append]); omega
  have hb1 : (ob ++ (putIR n0).1).length + (putIR n1).1.length ≤ 9223372036854775807 := by (try simp only [List.length_append]); omega
  have hb2 : (ob ++ (putIR n0).1 ++ (putIR n1).1).length + (putIR n2).1.length ≤ 9223372036854775807 := by (try simp only [List.length_append]); omega
  have hnx : ob ++ (putIR n0).1 ++ (putIR n1).1 ++ (putIR n2).1 = (putIR (L.length : Nat)).1 ++ ((L.take (k + 1)).map (zbc 5)).flatten := by
   rw [← hnext, show zbc 5 (t, n0, n1, n2, n3) = [(putIR n0).1, (putIR n1).1, (putIR n2).1].flatten from rfl]
   simp only [List.flatten_cons, List.flatten_nil, List.append_nil, List.append_assoc]
  conv=>whnf
  refine br (fun _ => ?_) (fun g => absurd hlt (of_decide_eq_false g));conv=>whnf
  refine br (fun g => absurd g (by decide)) (fun _ => ?_);conv=>whnf
  refine zb4 hΘ 3 ?_;conv=>whnf
  refine usePu hcol rfl ⟨rfl, trivial⟩ rfl ?_;conv=>whnf
  refine br (fun _ => ?_) (fun g => absurd g (by decide));conv=>whnf
  refine ⟨rfl, hidx, ?_⟩;conv=>whnf
  refine ⟨by decide, ?_⟩;conv=>whnf
  refine ⟨_, hF, ?_⟩;conv=>whnf
  refine ⟨_, hcell, ?_⟩;conv=>whnf
  refine usePu p0 rfl ⟨rfl, trivial⟩ rfl ?_;conv=>whnf
  refine ⟨hb0, ?_⟩;conv=>whnf
  refine sr_go hΘ ?_;conv=>whnf
  refine usePu hcol rfl ⟨rfl, trivial⟩ rfl ?_;conv=>whnf
  refine br (fun _ => ?_) (fun g => absurd g (by decide));conv=>whnf
  refine ⟨rfl, hidx, ?_⟩;conv=>whnf
  refine ⟨by decide, ?_⟩;conv=>whnf
  refine ⟨_, hF, ?_⟩;conv=>whnf
  refine ⟨_, hcell, ?_⟩;conv=>whnf
  refine usePu p1 rfl ⟨rfl, trivial⟩ rfl ?_;conv=>whnf
  refine ⟨hb1, ?_⟩;conv=>whnf
  refine sr_go hΘ ?_;conv=>whnf
  refine usePu hcol rfl ⟨rfl, trivial⟩ rfl ?_;conv=>whnf
  refine br (fun _ => ?_) (fun g => absurd g (by decide));conv=>whnf
  refine ⟨rfl, hidx, ?_⟩;conv=>whnf
  refine ⟨by decide, ?_⟩;conv=>whnf
  refine ⟨_, hF, ?_⟩;conv=>whnf
  refine ⟨_, hcell, ?_⟩;conv=>whnf
  refine usePu p2 rfl ⟨rfl, trivial⟩ rfl ?_;conv=>whnf
  refine ⟨hb2, ?_⟩;conv=>whnf
  refine sr_go hΘ ?_;conv=>whnf
  refine usePu hcol rfl ⟨rfl, trivial⟩ rfl ?_;conv=>whnf
  refine br (fun g => absurd g (by decide)) (fun _ => ?_);conv=>whnf
  exact ⟨⟨(k + 1, ob ++ (putIR n0).1 ++ (putIR n1).1 ++ (putIR n2).1), hk1, hnx⟩, hdec, leR [] hH hT rfl ⟨trivial, zb2, trivial⟩ ⟨rfl, cnt hkm, trivial⟩ ⟨Fz.le_refl F, rfl, trivial⟩⟩
 ·have gk : k = L.length := by omega
  have hge : ¬ (k : Int) < (L.length : Nat) := by omega
  have e := hfin gk
  conv=>whnf
  refine br (fun g => absurd (of_decide_eq_true g) hge) (fun _ => ?_);conv=>whnf
  exact wfEnd (F1 := F) e rfl
set_option maxHeartbeats 8000000 in
theorem zr3 (F : Fz) (p w h : Int) (bits : List UInt8) (hp : ¬ 6 ≤ p) :
  Fo Tryz.prog F 32 [.va (.int .i64 p), .agg (rvS ⟨false, [], w, h, bits⟩ .nilsl)] (fun o F' => o = .ret (.va (.str (zar p ⟨false, [], w, h, bits⟩))) ∧ F' = F) := by
 have hW : zar p ⟨false, [], w, h, bits⟩ = (putIR 0).1 := by
  rw [zar, if_neg (by simp), if_neg hp]; exact List.append_nil _
 have hp0 := zak F 0
 refine fo_of hΘ Tryz.func32 rfl (by decide) _ _ rfl rfl rfl ?_;conv=>whnf
 refine br (fun g => absurd (of_decide_eq_true g) hp) (fun _ => ?_);conv=>whnf
 refine usePu hp0 rfl ⟨rfl, trivial⟩ rfl ?_;conv=>whnf
 refine zb4 hΘ 0 ?_;conv=>whnf
 refine br (fun g => absurd g (by decide)) (fun _ => ?_);conv=>whnf
 exact wfEnd (F1 := F) hW rfl
set_option maxHeartbeats 8000000 in
theorem zx2 (F : Fz) (p : Int) (lines : List RLn) (w h : Int) (bits : List UInt8) (a : SA) (hp : 6 ≤ p) (hvb : bits.length ≤ 9000000000000000000) :
  Fo Tryz.prog F 32 [.va (.int .i64 p), .agg (rvS ⟨false, lines, w, h, bits⟩ a)] (fun o F' => o = .ret (.va (.str (zar p ⟨false, lines, w, h, bits⟩))) ∧ F' = F) := by
 refine fo_of hΘ Tryz.func32 rfl (by decide) _ _ rfl rfl rfl ?_;conv=>whnf
 refine br (fun g => ?_) (fun g => absurd hp (of_decide_eq_false g))
 ·clear g
  have lb := zbv bits
  have pb := zbi F bits hvb
  have lw := zaq w
  have lh := zaq h
  have pw := zak F w
  have ph := zak F h
  conv=>whnf
  refine rounds hΘ 3 ?_;conv=>whnf
  refine br (fun _ => ?_) (fun g => absurd g (by decide));conv=>whnf
  refine ⟨rfl, by decide, ?_⟩;conv=>whnf
  refine ⟨_, rfl, ?_⟩;conv=>whnf
  refine usePu pw rfl ⟨rfl, trivial⟩ rfl ?_;conv=>whnf
  refine ⟨by show 0 + (putIR w).1.length ≤ 9223372036854775807; omega, ?_⟩;conv=>whnf
  refine br (fun _ => ?_) (fun g => absurd g (by decide));conv=>whnf
  refine ⟨rfl, by decide, ?_⟩;conv=>whnf
  refine ⟨_, rfl, ?_⟩;conv=>whnf
  refine usePu ph rfl ⟨rfl, trivial⟩ rfl ?_;conv=>whnf
  refine ⟨by show ([] ++ (putIR w).1).length + (putIR h).1.length ≤ 9223372036854775807; rw [List.nil_append]; omega, ?_⟩;conv=>whnf
  refine br (fun g => absurd g (by decide)) (fun _ => ?_);conv=>whnf
  refine br (fun g => ?_) (fun g => ?_)
  ·have g7 : p = 7 := of_decide_eq_true g
   have e : zar p ⟨false, lines, w, h, bits⟩ = [] ++ (putIR w).1 ++ (putIR h).1 ++ (putSR bits).1 := by
    show (if false = true then [] else _) = _
    rw [if_neg (by simp), if_pos hp, if_pos g7, List.nil_append]
   conv=>whnf
   refine usePu pb rfl ⟨rfl, trivial⟩ rfl ?_;conv=>whnf
   refine ⟨by show ([] ++ (putIR w).1 ++ (putIR h).1).length + (putSR bits).1.length ≤ 9223372036854775807; rw [List.nil_append, List.length_append]; omega, ?_⟩;conv=>whnf
   exact wfEnd (F1 := F) e rfl
  ·have g7 : ¬ p = 7 := of_decide_eq_false g
   have e : zar p ⟨false, lines, w, h, bits⟩ = [] ++ (putIR w).1 ++ (putIR h).1 := by
    show (if false = true then [] else _) = _
    rw [if_neg (by simp), if_pos hp, if_neg g7, List.nil_append, List.append_nil]
   conv=>whnf
   exact wfEnd (F1 := F) e rfl
theorem wf_fn (F : Fz) (p : Int) (v : RVal) (a : SA) (ha : Its F a v.lines) (hp : 1 ≤ p ∧ p ≤ 8) (hl : v.lines.length ≤ 1000) (hx : ∀ x ∈ v.lines, x.1.length ≤ 1000000) (hb : v.bits.length ≤ 9000000000000000000) :
  Fo Tryz.prog F 32 [.va (.int .i64 p), .agg (rvS v a)] (fun o F' => o = .ret (.va (.str (zar p v))) ∧ F' = F) := by
 obtain ⟨lost, L, w, h, bits⟩ := v
 cases lost with
 | true =>
  refine fo_of hΘ Tryz.func32 rfl (by decide) _ _ rfl rfl rfl ?_;conv=>whnf
  exact wfEnd (F1 := F) (v := ⟨true, L, w, h, bits⟩) (t := []) rfl rfl
 | false =>
  by_cases h6 : 6 ≤ p
  ·exact zx2 F p L w h bits a h6 hb
  rcases ha with ⟨h1, h2⟩ | ⟨_, b, e, c, X, room, h1, h2, h3⟩
  ·have h1' : L = [] := h1
   subst h1' h2
   exact zr3 F p w h bits h6
  ·subst h1
   have hpc : p = 1 ∨ p = 2 ∨ p = 3 ∨ p = 4 ∨ p = 5 := by omega
   rcases hpc with rfl | rfl | rfl | rfl | rfl
   ·exact zwk F L w h bits b e c X room h2 h3 hl hx
   ·exact zva F L w h bits b e c X room h2 h3 hl hx
   ·exact zu9 F L w h bits b e c X room h2 h3 hl hx
   ·exact zv1 F L w h bits b e c X room h2 h3 hl hx
   ·exact zwj F L w h bits b e c X room h2 h3 hl hx
end Go.Proofs.YtblllibdahkgfaaGreatDoor

namespace Go.Proofs.YtblllibdahkgfaaGreatDoor
open Go Sx
set_option maxRecDepth 100000
end Go.Proofs.YtblllibdahkgfaaGreatDoor

namespace Go.Proofs.YtblllibdahkgfaaGreatDoor
open Go Sx
set_option maxRecDepth 100000
end Go.Proofs.YtblllibdahkgfaaGreatDoor

namespace Go.Proofs.YtblllibdahkgfaaGreatDoor
open Go Sx
set_option maxRecDepth 100000
theorem Its.nil_of {F : Fz} {a : SA} (h : Its F a []) : a = .nilsl := by
 rcases h with h | ⟨h, _⟩
 ·exact h.2
 ·exact absurd rfl h
end Go.Proofs.YtblllibdahkgfaaGreatDoor

namespace Go.Proofs.YtblllibdahkgfaaGreatDoor
open Go Sx
set_option maxRecDepth 100000
def itA : Option (Nat × Nat × Nat × Nat) → SA
 | none => .nilsl
 | some (b, e, n, c) => sl0 b e n c
theorem Its.it {F : Fz} {a : SA} {l : List RLn} (h : Its F a l) : ∃ t, a = itA t := by
 rcases h with ⟨_, h⟩ | ⟨_, b, e, c, _, _, h, _⟩
 ·exact ⟨none, h⟩
 ·exact ⟨some (b, e, l.length, c), h⟩
end Go.Proofs.YtblllibdahkgfaaGreatDoor
