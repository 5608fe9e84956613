import Derived.Test.YtblllibdahkgfaaGreatDoorK20
import Derived.Test.YtblllibdahkgfaaGreatDoorK10

namespace Go.Proofs.YtblllibdahkgfaaGreatDoor
open Go Sx
set_option maxRecDepth 100000
def stepOf (p x : Int) : List Stp :=
 if 0 < pickI x 8 then
  if p = 1 then [(1 + (pickI (x.tdiv 8) 21).tmod 2, 0)] else if p = 2 then [(4, (pickI (x.tdiv 8) 21).tmod 7)]
  else if p = 3 ∨ p = 5 then [(3, if (pickI (x.tdiv 8) 21).tmod 3 = 0 then 10 else if (pickI (x.tdiv 8) 21).tmod 3 = 1 then 100 else 1000)] else if p = 6 ∨ p = 7 then [(5, 0)] else []
 else [(6, 0)]
def zev (p : Int) (x : List Int) : List Stp := ((x.take 8).map (stepOf p)).flatten
theorem zic {c n : Int} (hc : i64 c) (hn : 0 < n) : 0 ≤ pickI c n ∧ pickI c n < n := by
 unfold pickI i64 at *
 split
 ·exact ⟨Int.tmod_nonneg _ (by omega), Int.tmod_lt_of_pos _ hn⟩
 ·exact ⟨Int.tmod_nonneg _ (by omega), Int.tmod_lt_of_pos _ hn⟩
theorem tdiv8 {x : Int} (h : i64 x) : IntKind.i64.wrap (x.tdiv 8) = x.tdiv 8 ∧ i64 (x.tdiv 8) := by
 unfold i64 at *
 have h1 : -9223372036854775808 ≤ x.tdiv 8 ∧ x.tdiv 8 ≤ 9223372036854775807 := by
  by_cases hx : 0 ≤ x
  ·rw [Int.tdiv_eq_ediv_of_nonneg hx]; omega
  ·have e : x.tdiv 8 = -((-x).tdiv 8) := by rw [Int.neg_tdiv]; omega
   rw [e, Int.tdiv_eq_ediv_of_nonneg (by omega)]; omega
 exact ⟨zaj h1.1 h1.2, h1⟩
theorem zia {p : Int} {x : List Int} {k : Nat} (g : k < x.length) (g8 : k < 8) : (((x.take 8).take (k + 1)).map (stepOf p)).flatten = (((x.take 8).take k).map (stepOf p)).flatten ++ stepOf p x[k] := by
 have g' : k < (x.take 8).length := by rw [List.length_take]; omega
 rw [List.take_succ_eq_append_getElem g', List.map_append, List.flatten_append]
 simp
theorem zon (p x : Int) : (stepOf p x).length ≤ 1 := by
 unfold stepOf
 split
 ·split
  ·simp
  ·split
   ·simp
   ·split
    ·simp
    ·split <;> simp
 ·simp
theorem zfz (p : Int) : ∀ (l : List Int), ((l.map (stepOf p)).flatten).length ≤ l.length
 | [] => by simp
 | a :: r => by
  have h1 := zon p a
  have h2 := zfz p r
  simp only [List.map_cons, List.flatten_cons, List.length_append, List.length_cons]; omega
set_option maxHeartbeats 8000000 in
theorem ztb (F : Fz) (sa : SA) (x : List Int) (p : Int) (ha : zeh F sa x) (hl : x.length < 1000000000000000000) (hx : ∀ a ∈ x, i64 a) (hp : 1 ≤ p ∧ p ≤ 8) :
  Fo Tryz.prog F 14 [.va (.int .i64 p), .va sa] (fun o F' => ∃ sc, o = .ret (.va sc) ∧ za4 F' sc (zev p x)) := by
 obtain ⟨han, hab, hae, hac, haL, har, rfl, ha1, ha2, ha3, ha4⟩ := ha
 refine fo_of hΘ Tryz.func14 rfl (by decide) _ _ rfl rfl rfl ?_;conv=>whnf
 refine za0 hΘ (X := { q : Nat × List Stp × Nat // (q.1 ≤ x.length ∧ q.1 ≤ 8) ∧ q.2.1 = (((x.take 8).take q.1).map (stepOf p)).flatten }) (fun q => [(5, .va (oA 1 q.1.2.2 q.1.2.1)), (6, .va (.int .i64 q.1.1))]) [7, 8, 9, 10, 11, 12, 13, 14, 15, 16, 17, 18, 19, 20, 21, 22, 23, 24, 25, 26, 27, 28, 29, 30, 31, 32, 33, 34, 35, 36, 37, 38, 39, 40, 41, 42, 43, 44, 45, 46, 47, 48, 49, 50, 51, 52, 53, 54, 55, 56, 57, 58, 59, 60, 61, 62, 63, 64]
  (fun q => [(0, .frz F), (1, oE q.1.2.2 q.1.2.1)]) 2 (fun q => x.length - q.1.1) ⟨(0, [], 0), by simp⟩
  (fun hH hT => leI [(1, 1)] hH hT rfl ⟨trivial, zaw _ _ _, trivial⟩ ⟨rfl, rfl, trivial⟩ ⟨Fz.le_refl F, rfl, trivial⟩) ?_
 rintro ⟨⟨k, out, co⟩, hk, hout⟩ hH hT
 replace hk : k ≤ x.length ∧ k ≤ 8 := hk
 replace hout : out = (((x.take 8).take k).map (stepOf p)).flatten := hout
 have fin : k = x.length ∨ k = 8 → out = zev p x := fun h => by
  rw [hout, zev, List.take_of_length_le (by rw [List.length_take]; omega)]
 have hol : out.length ≤ 100 := by
  rw [hout]
  have h1 := zfz p ((x.take 8).take k)
  rw [List.length_take, List.length_take] at h1
  omega
 conv=>whnf
 refine ⟨fun ga => ?_, fun ga => ?_⟩
 ·have gk : k < x.length := by
    have h0 : (k : Int) < (x.length : Int) := of_decide_eq_true ga
    omega
  clear ga;conv=>whnf
  refine br (fun gb => ?_) (fun gb => ?_)
  ·have g8 : k < 8 := by
     have h0 : (k : Int) < 8 := of_decide_eq_true gb
     omega
   clear gb
   have hxk := hx _ (List.getElem_mem gk)
   have h8 := tdiv8 hxk
   have hr := zic (n := 21) h8.2 (by decide)
   have hnext := zia (p := p) gk g8
   rw [← hout] at hnext
   conv=>whnf
   refine ⟨Sl.lt ha1 gk, ⟨by simp, by simpa using gk⟩, ?_⟩;conv=>whnf
   refine ⟨_, ha2 (Sl.lt ha1 gk), ?_⟩;conv=>whnf
   refine ⟨_, Sl.at ha4 gk, ?_⟩;conv=>whnf
   refine usePu (za3 x[k] 8 hxk (by decide) F) rfl (zaf _) rfl ?_;conv=>whnf
   refine ⟨Sl.lt ha1 gk, ⟨by simp, by simpa using gk⟩, ?_⟩;conv=>whnf
   refine ⟨_, ha2 (Sl.lt ha1 gk), ?_⟩;conv=>whnf
   refine ⟨_, Sl.at ha4 gk, ?_⟩;conv=>whnf
   refine ⟨by decide, ?_⟩;conv=>whnf
   refine usePu (za3 (x[k].tdiv 8) 21 h8.2 (by decide) F) rfl ⟨congrArg (SA.int .i64) h8.1.symm, rfl, trivial⟩ rfl ?_;conv=>whnf
   refine br (fun gm => ?_) (fun gm => ?_)
   ·have gm' : 0 < pickI x[k] 8 := of_decide_eq_true gm
    clear gm;conv=>whnf
    refine br (fun g1 => ?_) (fun g1 => ?_)
    ·have g1' : p = 1 := of_decide_eq_true g1
     clear g1
     have hstep : stepOf p x[k] = [(1 + (pickI (x[k].tdiv 8) 21).tmod 2, 0)] := by rw [stepOf, if_pos gm', if_pos g1']
     have h0 : 0 ≤ (pickI (x[k].tdiv 8) 21).tmod 2 := Int.tmod_nonneg _ hr.1
     have h1 : (pickI (x[k].tdiv 8) 21).tmod 2 < 2 := Int.tmod_lt_of_pos _ (by decide)
     have hget : [[SA.int .i64 1], [SA.int .i64 2]][0 + ((pickI (x[k].tdiv 8) 21).tmod 2).toNat]? = some [SA.int .i64 (1 + (pickI (x[k].tdiv 8) 21).tmod 2)] := by
      have hc : (pickI (x[k].tdiv 8) 21).tmod 2 = 0 ∨ (pickI (x[k].tdiv 8) 21).tmod 2 = 1 := by omega
      rcases hc with h | h <;> rw [h] <;> rfl
     have hout' : out ++ [(1 + (pickI (x[k].tdiv 8) 21).tmod 2, 0)] = (((x.take 8).take (k + 1)).map (stepOf p)).flatten := by rw [hnext, hstep]
     clear hnext hstep
     rcases out with _ | ⟨yo, ro⟩
     ·conv=>whnf
      refine ⟨by decide, ?_⟩;conv=>whnf
      refine ⟨rfl, ⟨h0, h1⟩, ?_⟩;conv=>whnf
      refine ⟨_, hget, ?_⟩;conv=>whnf
      refine ⟨Nat.le_refl 1, [enc (1 + (pickI (x[k].tdiv 8) 21).tmod 2, 0)], rfl, ?_⟩;conv=>whnf
      refine ⟨rfl, rfl, ?_⟩;conv=>whnf
      refine ⟨by show 1 * 16 ≤ 140737488355328; omega, fun c' hc => ?_⟩;conv=>whnf
      exact ⟨⟨(k + 1, ([] : List Stp) ++ [(1 + (pickI (x[k].tdiv 8) 21).tmod 2, 0)], c'), by show k + 1 ≤ x.length ∧ k + 1 ≤ 8; omega, hout'⟩, by show x.length - (k + 1) < x.length - k; omega, leR [(1, 5)] hH hT rfl ⟨trivial, zaw _ _ _, trivial⟩ ⟨(zby (μ := sig [(1, 5)]) (i := 1) (j := 5) rfl c' _ ([]) (1 + (pickI (x[k].tdiv 8) 21).tmod 2, 0) rfl), cnt (by omega), trivial⟩ ⟨Fz.le_refl F, zbg (zbx [enc (1 + (pickI (x[k].tdiv 8) 21).tmod 2, 0)] rfl), trivial⟩⟩
     ·conv=>whnf
      refine ⟨by decide, ?_⟩;conv=>whnf
      refine ⟨rfl, ⟨h0, h1⟩, ?_⟩;conv=>whnf
      refine ⟨_, hget, ?_⟩;conv=>whnf
      replace hol : ro.length + 1 ≤ 100 := hol
      refine ⟨Nat.le_refl 1, [enc (1 + (pickI (x[k].tdiv 8) 21).tmod 2, 0)], rfl, ?_⟩;conv=>whnf
      refine ⟨rfl, rfl, by simp, rfl, by show (ro.length + 1 + 1) * 16 ≤ 140737488355328; omega, fun c' hc => ?_⟩;conv=>whnf
      exact ⟨⟨(k + 1, (yo :: ro : List Stp) ++ [(1 + (pickI (x[k].tdiv 8) 21).tmod 2, 0)], c'), by show k + 1 ≤ x.length ∧ k + 1 ≤ 8; omega, hout'⟩, by show x.length - (k + 1) < x.length - k; omega, leR [(1, 5)] hH hT rfl ⟨trivial, zaw _ _ _, trivial⟩ ⟨(zby (μ := sig [(1, 5)]) (i := 1) (j := 5) rfl c' _ (yo :: ro) (1 + (pickI (x[k].tdiv 8) 21).tmod 2, 0) rfl), cnt (by omega), trivial⟩ ⟨Fz.le_refl F, zbg (zbx _ (by simp)), trivial⟩⟩
    ·have n1 : ¬ p = 1 := of_decide_eq_false g1
     clear g1;conv=>whnf
     refine br (fun g1 => ?_) (fun g1 => ?_)
     ·have g2 : p = 2 := of_decide_eq_true g1
      clear g1
      have hstep : stepOf p x[k] = [(4, (pickI (x[k].tdiv 8) 21).tmod 7)] := by rw [stepOf, if_pos gm', if_neg n1, if_pos g2]
      have hout' : out ++ [(4, (pickI (x[k].tdiv 8) 21).tmod 7)] = (((x.take 8).take (k + 1)).map (stepOf p)).flatten := by rw [hnext, hstep]
      clear hnext hstep
      rcases out with _ | ⟨yo, ro⟩
      ·conv=>whnf
       refine ⟨by decide, ?_⟩;conv=>whnf
       refine ⟨Nat.le_refl 1, [enc (4, (pickI (x[k].tdiv 8) 21).tmod 7)], rfl, ?_⟩;conv=>whnf
       refine ⟨rfl, rfl, ?_⟩;conv=>whnf
       refine ⟨by show 1 * 16 ≤ 140737488355328; omega, fun c' hc => ?_⟩;conv=>whnf
       exact ⟨⟨(k + 1, ([] : List Stp) ++ [(4, (pickI (x[k].tdiv 8) 21).tmod 7)], c'), by show k + 1 ≤ x.length ∧ k + 1 ≤ 8; omega, hout'⟩, by show x.length - (k + 1) < x.length - k; omega, leR [(1, 4)] hH hT rfl ⟨trivial, zaw _ _ _, trivial⟩ ⟨(zby (μ := sig [(1, 4)]) (i := 1) (j := 4) rfl c' _ ([]) (4, (pickI (x[k].tdiv 8) 21).tmod 7) rfl), cnt (by omega), trivial⟩ ⟨Fz.le_refl F, zbg (zbx [enc (4, (pickI (x[k].tdiv 8) 21).tmod 7)] rfl), trivial⟩⟩
      ·conv=>whnf
       refine ⟨by decide, ?_⟩;conv=>whnf
       replace hol : ro.length + 1 ≤ 100 := hol
       refine ⟨Nat.le_refl 1, [enc (4, (pickI (x[k].tdiv 8) 21).tmod 7)], rfl, ?_⟩;conv=>whnf
       refine ⟨rfl, rfl, by simp, rfl, by show (ro.length + 1 + 1) * 16 ≤ 140737488355328; omega, fun c' hc => ?_⟩;conv=>whnf
       exact ⟨⟨(k + 1, (yo :: ro : List Stp) ++ [(4, (pickI (x[k].tdiv 8) 21).tmod 7)], c'), by show k + 1 ≤ x.length ∧ k + 1 ≤ 8; omega, hout'⟩, by show x.length - (k + 1) < x.length - k; omega, leR [(1, 4)] hH hT rfl ⟨trivial, zaw _ _ _, trivial⟩ ⟨(zby (μ := sig [(1, 4)]) (i := 1) (j := 4) rfl c' _ (yo :: ro) (4, (pickI (x[k].tdiv 8) 21).tmod 7) rfl), cnt (by omega), trivial⟩ ⟨Fz.le_refl F, zbg (zbx _ (by simp)), trivial⟩⟩
     ·have n2 : ¬ p = 2 := of_decide_eq_false g1
      clear g1;conv=>whnf
      refine br (fun g1 => ?_) (fun g1 => ?_)
      ·have g3 : p = 3 := of_decide_eq_true g1
       clear g1
       have hstep : stepOf p x[k] = [(3, if (pickI (x[k].tdiv 8) 21).tmod 3 = 0 then 10 else if (pickI (x[k].tdiv 8) 21).tmod 3 = 1 then 100 else 1000)] := by rw [stepOf, if_pos gm', if_neg n1, if_neg n2, if_pos (.inl g3)]
       have h0 : 0 ≤ (pickI (x[k].tdiv 8) 21).tmod 3 := Int.tmod_nonneg _ hr.1
       have h1 : (pickI (x[k].tdiv 8) 21).tmod 3 < 3 := Int.tmod_lt_of_pos _ (by decide)
       have hget : [[SA.int .i64 10], [SA.int .i64 100], [SA.int .i64 1000]][0 + ((pickI (x[k].tdiv 8) 21).tmod 3).toNat]? = some [SA.int .i64 (if (pickI (x[k].tdiv 8) 21).tmod 3 = 0 then 10 else if (pickI (x[k].tdiv 8) 21).tmod 3 = 1 then 100 else 1000)] := by
        have hc : (pickI (x[k].tdiv 8) 21).tmod 3 = 0 ∨ (pickI (x[k].tdiv 8) 21).tmod 3 = 1 ∨ (pickI (x[k].tdiv 8) 21).tmod 3 = 2 := by omega
        rcases hc with h | h | h <;> rw [h] <;> rfl
       have hout' : out ++ [(3, if (pickI (x[k].tdiv 8) 21).tmod 3 = 0 then 10 else if (pickI (x[k].tdiv 8) 21).tmod 3 = 1 then 100 else 1000)] = (((x.take 8).take (k + 1)).map (stepOf p)).flatten := by rw [hnext, hstep]
       clear hnext hstep
       rcases out with _ | ⟨yo, ro⟩
       ·conv=>whnf
        refine br (fun _ => ?_) (fun g => absurd g3 (of_decide_eq_false g));conv=>whnf
        refine ⟨by decide, ?_⟩;conv=>whnf
        refine ⟨rfl, ⟨h0, h1⟩, ?_⟩;conv=>whnf
        refine ⟨_, hget, ?_⟩;conv=>whnf
        refine ⟨Nat.le_refl 1, [enc (3, if (pickI (x[k].tdiv 8) 21).tmod 3 = 0 then 10 else if (pickI (x[k].tdiv 8) 21).tmod 3 = 1 then 100 else 1000)], rfl, ?_⟩;conv=>whnf
        refine ⟨rfl, rfl, ?_⟩;conv=>whnf
        refine ⟨by show 1 * 16 ≤ 140737488355328; omega, fun c' hc => ?_⟩;conv=>whnf
        exact ⟨⟨(k + 1, ([] : List Stp) ++ [(3, if (pickI (x[k].tdiv 8) 21).tmod 3 = 0 then 10 else if (pickI (x[k].tdiv 8) 21).tmod 3 = 1 then 100 else 1000)], c'), by show k + 1 ≤ x.length ∧ k + 1 ≤ 8; omega, hout'⟩, by show x.length - (k + 1) < x.length - k; omega, leR [(1, 5)] hH hT rfl ⟨trivial, zaw _ _ _, trivial⟩ ⟨(zby (μ := sig [(1, 5)]) (i := 1) (j := 5) rfl c' _ ([]) (3, if (pickI (x[k].tdiv 8) 21).tmod 3 = 0 then 10 else if (pickI (x[k].tdiv 8) 21).tmod 3 = 1 then 100 else 1000) rfl), cnt (by omega), trivial⟩ ⟨Fz.le_refl F, zbg (zbx [enc (3, if (pickI (x[k].tdiv 8) 21).tmod 3 = 0 then 10 else if (pickI (x[k].tdiv 8) 21).tmod 3 = 1 then 100 else 1000)] rfl), trivial⟩⟩
       ·conv=>whnf
        refine br (fun _ => ?_) (fun g => absurd g3 (of_decide_eq_false g));conv=>whnf
        refine ⟨by decide, ?_⟩;conv=>whnf
        refine ⟨rfl, ⟨h0, h1⟩, ?_⟩;conv=>whnf
        refine ⟨_, hget, ?_⟩;conv=>whnf
        replace hol : ro.length + 1 ≤ 100 := hol
        refine ⟨Nat.le_refl 1, [enc (3, if (pickI (x[k].tdiv 8) 21).tmod 3 = 0 then 10 else if (pickI (x[k].tdiv 8) 21).tmod 3 = 1 then 100 else 1000)], rfl, ?_⟩;conv=>whnf
        refine ⟨rfl, rfl, by simp, rfl, by show (ro.length + 1 + 1) * 16 ≤ 140737488355328; omega, fun c' hc => ?_⟩;conv=>whnf
        exact ⟨⟨(k + 1, (yo :: ro : List Stp) ++ [(3, if (pickI (x[k].tdiv 8) 21).tmod 3 = 0 then 10 else if (pickI (x[k].tdiv 8) 21).tmod 3 = 1 then 100 else 1000)], c'), by show k + 1 ≤ x.length ∧ k + 1 ≤ 8; omega, hout'⟩, by show x.length - (k + 1) < x.length - k; omega, leR [(1, 5)] hH hT rfl ⟨trivial, zaw _ _ _, trivial⟩ ⟨(zby (μ := sig [(1, 5)]) (i := 1) (j := 5) rfl c' _ (yo :: ro) (3, if (pickI (x[k].tdiv 8) 21).tmod 3 = 0 then 10 else if (pickI (x[k].tdiv 8) 21).tmod 3 = 1 then 100 else 1000) rfl), cnt (by omega), trivial⟩ ⟨Fz.le_refl F, zbg (zbx _ (by simp)), trivial⟩⟩
      ·have n3 : ¬ p = 3 := of_decide_eq_false g1
       clear g1;conv=>whnf
       refine br (fun g1 => ?_) (fun g1 => ?_)
       ·have g3 : p = 5 := of_decide_eq_true g1
        clear g1
        have hstep : stepOf p x[k] = [(3, if (pickI (x[k].tdiv 8) 21).tmod 3 = 0 then 10 else if (pickI (x[k].tdiv 8) 21).tmod 3 = 1 then 100 else 1000)] := by rw [stepOf, if_pos gm', if_neg n1, if_neg n2, if_pos (.inr g3)]
        have h0 : 0 ≤ (pickI (x[k].tdiv 8) 21).tmod 3 := Int.tmod_nonneg _ hr.1
        have h1 : (pickI (x[k].tdiv 8) 21).tmod 3 < 3 := Int.tmod_lt_of_pos _ (by decide)
        have hget : [[SA.int .i64 10], [SA.int .i64 100], [SA.int .i64 1000]][0 + ((pickI (x[k].tdiv 8) 21).tmod 3).toNat]? = some [SA.int .i64 (if (pickI (x[k].tdiv 8) 21).tmod 3 = 0 then 10 else if (pickI (x[k].tdiv 8) 21).tmod 3 = 1 then 100 else 1000)] := by
         have hc : (pickI (x[k].tdiv 8) 21).tmod 3 = 0 ∨ (pickI (x[k].tdiv 8) 21).tmod 3 = 1 ∨ (pickI (x[k].tdiv 8) 21).tmod 3 = 2 := by omega
         rcases hc with h | h | h <;> rw [h] <;> rfl
        have hout' : out ++ [(3, if (pickI (x[k].tdiv 8) 21).tmod 3 = 0 then 10 else if (pickI (x[k].tdiv 8) 21).tmod 3 = 1 then 100 else 1000)] = (((x.take 8).take (k + 1)).map (stepOf p)).flatten := by rw [hnext, hstep]
        clear hnext hstep
        rcases out with _ | ⟨yo, ro⟩
        ·conv=>whnf
         refine ⟨by decide, ?_⟩;conv=>whnf
         refine ⟨rfl, ⟨h0, h1⟩, ?_⟩;conv=>whnf
         refine ⟨_, hget, ?_⟩;conv=>whnf
         refine ⟨Nat.le_refl 1, [enc (3, if (pickI (x[k].tdiv 8) 21).tmod 3 = 0 then 10 else if (pickI (x[k].tdiv 8) 21).tmod 3 = 1 then 100 else 1000)], rfl, ?_⟩;conv=>whnf
         refine ⟨rfl, rfl, ?_⟩;conv=>whnf
         refine ⟨by show 1 * 16 ≤ 140737488355328; omega, fun c' hc => ?_⟩;conv=>whnf
         exact ⟨⟨(k + 1, ([] : List Stp) ++ [(3, if (pickI (x[k].tdiv 8) 21).tmod 3 = 0 then 10 else if (pickI (x[k].tdiv 8) 21).tmod 3 = 1 then 100 else 1000)], c'), by show k + 1 ≤ x.length ∧ k + 1 ≤ 8; omega, hout'⟩, by show x.length - (k + 1) < x.length - k; omega, leR [(1, 5)] hH hT rfl ⟨trivial, zaw _ _ _, trivial⟩ ⟨(zby (μ := sig [(1, 5)]) (i := 1) (j := 5) rfl c' _ ([]) (3, if (pickI (x[k].tdiv 8) 21).tmod 3 = 0 then 10 else if (pickI (x[k].tdiv 8) 21).tmod 3 = 1 then 100 else 1000) rfl), cnt (by omega), trivial⟩ ⟨Fz.le_refl F, zbg (zbx [enc (3, if (pickI (x[k].tdiv 8) 21).tmod 3 = 0 then 10 else if (pickI (x[k].tdiv 8) 21).tmod 3 = 1 then 100 else 1000)] rfl), trivial⟩⟩
        ·conv=>whnf
         refine ⟨by decide, ?_⟩;conv=>whnf
         refine ⟨rfl, ⟨h0, h1⟩, ?_⟩;conv=>whnf
         refine ⟨_, hget, ?_⟩;conv=>whnf
         replace hol : ro.length + 1 ≤ 100 := hol
         refine ⟨Nat.le_refl 1, [enc (3, if (pickI (x[k].tdiv 8) 21).tmod 3 = 0 then 10 else if (pickI (x[k].tdiv 8) 21).tmod 3 = 1 then 100 else 1000)], rfl, ?_⟩;conv=>whnf
         refine ⟨rfl, rfl, by simp, rfl, by show (ro.length + 1 + 1) * 16 ≤ 140737488355328; omega, fun c' hc => ?_⟩;conv=>whnf
         exact ⟨⟨(k + 1, (yo :: ro : List Stp) ++ [(3, if (pickI (x[k].tdiv 8) 21).tmod 3 = 0 then 10 else if (pickI (x[k].tdiv 8) 21).tmod 3 = 1 then 100 else 1000)], c'), by show k + 1 ≤ x.length ∧ k + 1 ≤ 8; omega, hout'⟩, by show x.length - (k + 1) < x.length - k; omega, leR [(1, 5)] hH hT rfl ⟨trivial, zaw _ _ _, trivial⟩ ⟨(zby (μ := sig [(1, 5)]) (i := 1) (j := 5) rfl c' _ (yo :: ro) (3, if (pickI (x[k].tdiv 8) 21).tmod 3 = 0 then 10 else if (pickI (x[k].tdiv 8) 21).tmod 3 = 1 then 100 else 1000) rfl), cnt (by omega), trivial⟩ ⟨Fz.le_refl F, zbg (zbx _ (by simp)), trivial⟩⟩
       ·have n5 : ¬ p = 5 := of_decide_eq_false g1
        clear g1;conv=>whnf
        refine br (fun g1 => ?_) (fun g1 => ?_)
        ·have g6 : p = 6 := of_decide_eq_true g1
         clear g1
         have hstep : stepOf p x[k] = [(5, 0)] := by rw [stepOf, if_pos gm', if_neg n1, if_neg n2, if_neg (by omega), if_pos (.inl g6)]
         have hout' : out ++ [(5, 0)] = (((x.take 8).take (k + 1)).map (stepOf p)).flatten := by rw [hnext, hstep]
         clear hnext hstep
         rcases out with _ | ⟨yo, ro⟩
         ·conv=>whnf
          refine br (fun _ => ?_) (fun g => absurd g6 (of_decide_eq_false g));conv=>whnf
          refine ⟨Nat.le_refl 1, [enc (5, 0)], rfl, ?_⟩;conv=>whnf
          refine ⟨rfl, rfl, ?_⟩;conv=>whnf
          refine ⟨by show 1 * 16 ≤ 140737488355328; omega, fun c' hc => ?_⟩;conv=>whnf
          exact ⟨⟨(k + 1, ([] : List Stp) ++ [(5, 0)], c'), by show k + 1 ≤ x.length ∧ k + 1 ≤ 8; omega, hout'⟩, by show x.length - (k + 1) < x.length - k; omega, leR [(1, 4)] hH hT rfl ⟨trivial, zaw _ _ _, trivial⟩ ⟨(zby (μ := sig [(1, 4)]) (i := 1) (j := 4) rfl c' _ ([]) (5, 0) rfl), cnt (by omega), trivial⟩ ⟨Fz.le_refl F, zbg (zbx [enc (5, 0)] rfl), trivial⟩⟩
         ·conv=>whnf
          refine br (fun _ => ?_) (fun g => absurd g6 (of_decide_eq_false g));conv=>whnf
          replace hol : ro.length + 1 ≤ 100 := hol
          refine ⟨Nat.le_refl 1, [enc (5, 0)], rfl, ?_⟩;conv=>whnf
          refine ⟨rfl, rfl, by simp, rfl, by show (ro.length + 1 + 1) * 16 ≤ 140737488355328; omega, fun c' hc => ?_⟩;conv=>whnf
          exact ⟨⟨(k + 1, (yo :: ro : List Stp) ++ [(5, 0)], c'), by show k + 1 ≤ x.length ∧ k + 1 ≤ 8; omega, hout'⟩, by show x.length - (k + 1) < x.length - k; omega, leR [(1, 4)] hH hT rfl ⟨trivial, zaw _ _ _, trivial⟩ ⟨(zby (μ := sig [(1, 4)]) (i := 1) (j := 4) rfl c' _ (yo :: ro) (5, 0) rfl), cnt (by omega), trivial⟩ ⟨Fz.le_refl F, zbg (zbx _ (by simp)), trivial⟩⟩
        ·have n6 : ¬ p = 6 := of_decide_eq_false g1
         clear g1;conv=>whnf
         refine br (fun g1 => ?_) (fun g1 => ?_)
         ·have g6 : p = 7 := of_decide_eq_true g1
          clear g1
          have hstep : stepOf p x[k] = [(5, 0)] := by rw [stepOf, if_pos gm', if_neg n1, if_neg n2, if_neg (by omega), if_pos (.inr g6)]
          have hout' : out ++ [(5, 0)] = (((x.take 8).take (k + 1)).map (stepOf p)).flatten := by rw [hnext, hstep]
          clear hnext hstep
          rcases out with _ | ⟨yo, ro⟩
          ·conv=>whnf
           refine ⟨Nat.le_refl 1, [enc (5, 0)], rfl, ?_⟩;conv=>whnf
           refine ⟨rfl, rfl, ?_⟩;conv=>whnf
           refine ⟨by show 1 * 16 ≤ 140737488355328; omega, fun c' hc => ?_⟩;conv=>whnf
           exact ⟨⟨(k + 1, ([] : List Stp) ++ [(5, 0)], c'), by show k + 1 ≤ x.length ∧ k + 1 ≤ 8; omega, hout'⟩, by show x.length - (k + 1) < x.length - k; omega, leR [(1, 4)] hH hT rfl ⟨trivial, zaw _ _ _, trivial⟩ ⟨(zby (μ := sig [(1, 4)]) (i := 1) (j := 4) rfl c' _ ([]) (5, 0) rfl), cnt (by omega), trivial⟩ ⟨Fz.le_refl F, zbg (zbx [enc (5, 0)] rfl), trivial⟩⟩
          ·conv=>whnf
           replace hol : ro.length + 1 ≤ 100 := hol
           refine ⟨Nat.le_refl 1, [enc (5, 0)], rfl, ?_⟩;conv=>whnf
           refine ⟨rfl, rfl, by simp, rfl, by show (ro.length + 1 + 1) * 16 ≤ 140737488355328; omega, fun c' hc => ?_⟩;conv=>whnf
           exact ⟨⟨(k + 1, (yo :: ro : List Stp) ++ [(5, 0)], c'), by show k + 1 ≤ x.length ∧ k + 1 ≤ 8; omega, hout'⟩, by show x.length - (k + 1) < x.length - k; omega, leR [(1, 4)] hH hT rfl ⟨trivial, zaw _ _ _, trivial⟩ ⟨(zby (μ := sig [(1, 4)]) (i := 1) (j := 4) rfl c' _ (yo :: ro) (5, 0) rfl), cnt (by omega), trivial⟩ ⟨Fz.le_refl F, zbg (zbx _ (by simp)), trivial⟩⟩
         ·have n7 : ¬ p = 7 := of_decide_eq_false g1
          clear g1
          have hstep : stepOf p x[k] = [] := by rw [stepOf, if_pos gm', if_neg n1, if_neg n2, if_neg (by omega), if_neg (by omega)]
          have hout' : out = (((x.take 8).take (k + 1)).map (stepOf p)).flatten := by rw [hnext, hstep, List.append_nil]
          clear hnext hstep
          rcases out with _ | ⟨yo, ro⟩
          ·conv=>whnf
           exact ⟨⟨(k + 1, ([] : List Stp), co), by show k + 1 ≤ x.length ∧ k + 1 ≤ 8; omega, hout'⟩, by show x.length - (k + 1) < x.length - k; omega, leR [(1, 1)] hH hT rfl ⟨trivial, zaw _ _ _, trivial⟩ ⟨rfl, cnt (by omega), trivial⟩ ⟨Fz.le_refl F, zbg (zc1 _ _), trivial⟩⟩
          ·conv=>whnf
           exact ⟨⟨(k + 1, (yo :: ro : List Stp), co), by show k + 1 ≤ x.length ∧ k + 1 ≤ 8; omega, hout'⟩, by show x.length - (k + 1) < x.length - k; omega, leR [(1, 1)] hH hT rfl ⟨trivial, zaw _ _ _, trivial⟩ ⟨⟨rfl, rfl, rfl, .inr ⟨rfl, rfl, rfl, rfl⟩⟩, cnt (by omega), trivial⟩ ⟨Fz.le_refl F, zbg (zc1 _ _), trivial⟩⟩
   ·have gm' : ¬ 0 < pickI x[k] 8 := of_decide_eq_false gm
    clear gm
    have hstep : stepOf p x[k] = [(6, 0)] := by rw [stepOf, if_neg gm']
    have hout' : out ++ [(6, 0)] = (((x.take 8).take (k + 1)).map (stepOf p)).flatten := by rw [hnext, hstep]
    clear hnext hstep
    rcases out with _ | ⟨yo, ro⟩
    ·conv=>whnf
     refine ⟨Nat.le_refl 1, [enc (6, 0)], rfl, ?_⟩;conv=>whnf
     refine ⟨rfl, rfl, ?_⟩;conv=>whnf
     refine ⟨by show 1 * 16 ≤ 140737488355328; omega, fun c' hc => ?_⟩;conv=>whnf
     exact ⟨⟨(k + 1, ([] : List Stp) ++ [(6, 0)], c'), by show k + 1 ≤ x.length ∧ k + 1 ≤ 8; omega, hout'⟩, by show x.length - (k + 1) < x.length - k; omega, leR [(1, 4)] hH hT rfl ⟨trivial, zaw _ _ _, trivial⟩ ⟨(zby (μ := sig [(1, 4)]) (i := 1) (j := 4) rfl c' _ ([]) (6, 0) rfl), cnt (by omega), trivial⟩ ⟨Fz.le_refl F, zbg (zbx [enc (6, 0)] rfl), trivial⟩⟩
    ·conv=>whnf
     replace hol : ro.length + 1 ≤ 100 := hol
     refine ⟨Nat.le_refl 1, [enc (6, 0)], rfl, ?_⟩;conv=>whnf
     refine ⟨rfl, rfl, by simp, rfl, by show (ro.length + 1 + 1) * 16 ≤ 140737488355328; omega, fun c' hc => ?_⟩;conv=>whnf
     exact ⟨⟨(k + 1, (yo :: ro : List Stp) ++ [(6, 0)], c'), by show k + 1 ≤ x.length ∧ k + 1 ≤ 8; omega, hout'⟩, by show x.length - (k + 1) < x.length - k; omega, leR [(1, 4)] hH hT rfl ⟨trivial, zaw _ _ _, trivial⟩ ⟨(zby (μ := sig [(1, 4)]) (i := 1) (j := 4) rfl c' _ (yo :: ro) (6, 0) rfl), cnt (by omega), trivial⟩ ⟨Fz.le_refl F, zbg (zbx _ (by simp)), trivial⟩⟩
  ·have g8 : k = 8 := by
     have h0 : ¬ (k : Int) < 8 := of_decide_eq_false gb
     omega
   have hf := fin (.inr g8)
   rcases out with _ | ⟨yo, ro⟩
   ·conv=>whnf
    exact endFo (.ret (.va (.slice true 0 0 0 2 0 0))) F rfl (Fz.le_refl F) (Fz.le_refl F) ⟨_, rfl, by rw [← hf]; exact Sl.nil⟩ ⟨rfl, rfl, rfl⟩ rfl
   ·conv=>whnf
    refine zcd 1 (fun _ => .arr 50 2 ((yo :: ro).map enc) co) rfl rfl rfl (fun _ _ => zd8 _ (yo :: ro) co) (fun _ _ => zcj _ _ _) ?_
    intro b F' hle hb
    exact endFo (.ret (.va (.slice false 0 (b 0) 0 2 (ro.length + 1) co))) F' rfl hle (Fz.le_refl F') ⟨_, rfl, by rw [← hf]; exact Sl.new (l := yo :: ro) (hb 0 ⟨rfl, rfl⟩)⟩ ⟨rfl, rfl, rfl, .inr ⟨rfl, rfl, rfl, rfl⟩⟩ rfl
 ·have gk : k = x.length := by
    have h0 : ¬ (k : Int) < (x.length : Int) := by simpa using ga
    omega
  clear ga
  have hf := fin (.inl gk)
  rcases out with _ | ⟨yo, ro⟩
  ·conv=>whnf
   exact endFo (.ret (.va (.slice true 0 0 0 2 0 0))) F rfl (Fz.le_refl F) (Fz.le_refl F) ⟨_, rfl, by rw [← hf]; exact Sl.nil⟩ ⟨rfl, rfl, rfl⟩ rfl
  ·conv=>whnf
   refine zcd 1 (fun _ => .arr 50 2 ((yo :: ro).map enc) co) rfl rfl rfl (fun _ _ => zd8 _ (yo :: ro) co) (fun _ _ => zcj _ _ _) ?_
   intro b F' hle hb
   exact endFo (.ret (.va (.slice false 0 (b 0) 0 2 (ro.length + 1) co))) F' rfl hle (Fz.le_refl F') ⟨_, rfl, by rw [← hf]; exact Sl.new (l := yo :: ro) (hb 0 ⟨rfl, rfl⟩)⟩ ⟨rfl, rfl, rfl, .inr ⟨rfl, rfl, rfl, rfl⟩⟩ rfl
end Go.Proofs.YtblllibdahkgfaaGreatDoor

namespace Go.Proofs.YtblllibdahkgfaaGreatDoor
open Go Sx
set_option maxRecDepth 100000
end Go.Proofs.YtblllibdahkgfaaGreatDoor

namespace Go.Proofs.YtblllibdahkgfaaGreatDoor
open Go Sx
set_option maxRecDepth 100000
end Go.Proofs.YtblllibdahkgfaaGreatDoor

namespace Go.Proofs.YtblllibdahkgfaaGreatDoor
open Go Sx
set_option maxRecDepth 100000
end Go.Proofs.YtblllibdahkgfaaGreatDoor

namespace Go.Proofs.YtblllibdahkgfaaGreatDoor
open Go Sx
set_option maxRecDepth 100000
def vals : List UInt8 → Nat
 | [] => 0
 | b :: r => b.toNat % 128 + 128 * vals r
theorem zhb : ∀ (l : List UInt8) (b : UInt8), vals (l ++ [b]) = vals l + b.toNat % 128 * 128 ^ l.length
 | [], b => by simp [vals]
 | x :: r, b => by
  simp only [List.cons_append, vals, zhb r b, List.length_cons, Nat.pow_succ, Nat.mul_add]
  have : 128 * (b.toNat % 128 * 128 ^ r.length) = b.toNat % 128 * (128 ^ r.length * 128) := by
   rw [Nat.mul_comm (128 ^ r.length) 128, ← Nat.mul_assoc, ← Nat.mul_assoc, Nat.mul_comm 128 (b.toNat % 128)]
  omega
theorem zvx (z : Nat) : putZ z ≠ [] := by
 by_cases h : z < 128
 ·rw [zeb h]; simp
 ·rw [ze4 h]; simp
theorem zkz : ∀ (pre : List UInt8) (b : UInt8), (∀ x ∈ pre, 128 ≤ x.toNat) → b.toNat < 128 → (pre = [] ∨ b ≠ 0) → putZ (vals (pre ++ [b])) = pre ++ [b]
 | [], b, _, hb, _ => by
  have e : vals ([] ++ [b]) = b.toNat := by simp [vals, Nat.mod_eq_of_lt hb]
  rw [e, zeb hb]; simp
 | x :: r, b, hp, hb, hn => by
  have hb0 : b ≠ 0 := by rcases hn with h | h; cases h; exact h
  have hpos : 0 < b.toNat := by
   refine Nat.pos_of_ne_zero fun h => hb0 (UInt8.toNat_inj.1 (by simpa using h))
  have ih := zkz r b (fun y hy => hp y (List.mem_cons_of_mem _ hy)) hb (.inr hb0)
  have hv : 1 ≤ vals (r ++ [b]) := by
   rw [zhb, Nat.mod_eq_of_lt hb]
   have : 1 * 1 ≤ b.toNat * 128 ^ r.length := Nat.mul_le_mul hpos (Nat.pow_pos (by omega))
   omega
  have hx := hp x (List.mem_cons_self ..)
  have hx2 := x.toNat_lt
  have e : vals ((x :: r) ++ [b]) = x.toNat % 128 + 128 * vals (r ++ [b]) := rfl
  rw [e, ze4 (by omega), show (x.toNat % 128 + 128 * vals (r ++ [b])) / 128 = vals (r ++ [b]) by omega, ih, show (x.toNat % 128 + 128 * vals (r ++ [b])) % 128 + 128 = x.toNat by omega]
  simp
theorem zpt (z : Nat) : ∀ l : List UInt8, putZ z = l ++ [0] → l = [] := by
 induction z using Nat.strongRecOn with
 | _ z ih =>
  intro l h
  by_cases hz : z < 128
  ·rw [zeb hz] at h
   cases l with
   | nil => rfl
   | cons y r => cases r <;> simp at h
  ·rw [ze4 hz] at h
   cases l with
   | nil => rfl
   | cons y r =>
    simp only [List.cons_append, List.cons.injEq] at h
    have hr := ih (z / 128) (by omega) r h.2
    subst hr
    have h2 := h.2
    by_cases hz2 : z / 128 < 128
    ·rw [zeb hz2] at h2
     simp only [List.nil_append, List.cons.injEq, and_true] at h2
     have h3 := congrArg UInt8.toNat h2
     rw [UInt8.toNat_ofNat', Nat.mod_eq_of_lt (by omega)] at h3
     have h4 : z / 128 = 0 := h3
     omega
    ·rw [ze4 hz2] at h2
     simp only [List.nil_append, List.cons.injEq] at h2
     exact absurd h2.2 (zvx _)
theorem zv7 (z : Nat) : zig (unz z) = z := by
 unfold zig unz
 split <;> split <;> omega
theorem zl0 {z : Nat} (h : ¬ unz z < -4611686018427387903) (hz : z < 9223372036854775808) : putIR (unz z) = (putZ z, 0) := by
 have h2 : unz z ≤ 4611686018427387903 := by unfold unz; split <;> omega
 rw [putIR, if_neg (by omega), putI, zv7]
theorem zi2 {z : Nat} (h : unz z < -4611686018427387903) : putIR (unz z) = ([], 10) := by
 rw [putIR, if_pos (.inl h)]
theorem zrk (pre : List UInt8) (b : UInt8) (hp : ∀ x ∈ pre, 128 ≤ x.toNat) (hb : b.toNat < 128) : putZ (vals (pre ++ [b])) = pre ++ [b] ↔ ¬ (b = 0 ∧ 0 < pre.length) := by
 constructor
 ·rintro h ⟨rfl, hl⟩
  have := zpt _ _ h
  subst this; simp at hl
 ·intro h
  refine zkz pre b hp hb ?_
  by_cases h0 : b = 0
  ·exact .inl (List.eq_nil_of_length_eq_zero (by
    have : ¬ 0 < pre.length := fun h' => h ⟨h0, h'⟩
    omega))
  ·exact .inr h0
end Go.Proofs.YtblllibdahkgfaaGreatDoor

namespace Go.Proofs.YtblllibdahkgfaaGreatDoor
open Go Sx
set_option maxRecDepth 100000
set_option maxHeartbeats 4000000 in
theorem zq8 (F : Fz) (s : List UInt8) (p : Int) (hs : s.length ≤ 1000000000000000000) (hp : i64 p) :
  Fo Tryz.prog F 86 [.va (.str s), .va (.int .i64 p)] (fun o F' => o = .ret (.tup [.va (.int .i64 (getI s p).1), .va (.int .i64 (getI s p).2.1), .va (.int .i64 (getI s p).2.2)]) ∧ F' = F) := by
 have fin : ∀ (n x e : Int) (h : Hp) (nx : Nat), getI s p = (n, x, e) → lget h 0 = some (.frz F) →
   Cln 1 (FoK F fun o F' => o = .ret (.tup [.va (.int .i64 (getI s p).1), .va (.int .i64 (getI s p).2.1), .va (.int .i64 (getI s p).2.2)]) ∧ F' = F) (.ret (.tup [.va (.int .i64 n), .va (.int .i64 x), .va (.int .i64 e)])) h nx := by
  intro n x e h nx hv h0
  exact endFo (.ret (.tup [.va (.int .i64 n), .va (.int .i64 x), .va (.int .i64 e)])) F h0 (Fz.le_refl F) (Fz.le_refl F) ⟨by rw [hv], rfl⟩ (zat _) rfl
 refine fo_of hΘ Tryz.func86 rfl (by decide) _ _ rfl rfl rfl ?_;conv=>whnf
 refine ⟨fun g => ?_, fun g => ?_⟩
 ·have g1 : ¬ p < 0 := by simpa using g
  conv=>whnf
  refine br (fun g => ?_) (fun g => ?_)
  ·have g2 : (s.length : Int) < p := by simpa using g
   conv=>whnf
   exact fin 0 0 2 _ _ (by rw [getI, if_pos (.inr g2)]) rfl
  ·have g2 : ¬ (s.length : Int) < p := by simpa using g
   have hex : ∃ a : Nat, p = a ∧ a ≤ s.length := ⟨p.toNat, by omega, by omega⟩
   obtain ⟨a, ea, hal⟩ := hex
   subst ea
   have hg : getI s a = match decZ (s.drop a) 9 0 0 with
    | none => (0, 0, 10)
    | some (z, i, b) => if (b = 0 ∧ 0 < i) ∨ unz z < -4611686018427387903 then (0, 0, 10) else (unz z, a + i + 1, 0) := by
    rw [getI, if_neg (by omega)]; rfl
   have hno : decZ (s.drop a) 9 0 0 = none → getI s a = (0, 0, 10) := fun h => by rw [hg, h]
   conv=>whnf
   refine za0 hΘ (X := { x : Nat × Nat // (x.1 ≤ 9 ∧ a + x.1 ≤ s.length) ∧ x.2 < 128 ^ x.1 ∧ decZ (s.drop a) 9 0 0 = decZ (s.drop (a + x.1)) (9 - x.1) x.1 x.2 ∧ (∀ y ∈ (s.drop a).take x.1, 128 ≤ y.toNat) ∧ vals ((s.drop a).take x.1) = x.2 }) (fun x => [(7, .va (.int .u64 x.1.2)), (8, .va (.int .i64 x.1.1))]) [4, 5, 6, 9, 10, 11, 12, 21, 22, 23, 24, 25, 26, 27, 28, 29, 30, 31, 32, 33, 34, 35, 36, 37, 38, 39, 40, 41, 42, 43, 44, 45, 46, 47, 48, 49, 50, 51, 52, 53, 54, 55, 56, 57, 58, 59, 60, 61, 62, 63, 64, 65, 66, 67, 68, 69, 70, 71, 72, 73, 74, 75, 76, 77, 78, 79] (fz fun _ => F) 1 (fun x => 9 - x.1.1) ⟨(0, 0), by simp [hal], by simp, rfl, by simp, by simp [vals]⟩
    (fun hH hT => le0 hH hT rfl (Fz.le_refl F) rfl ⟨rfl, rfl, trivial⟩) ?_
   rintro ⟨⟨i, z⟩, hi, hz, hd, hpre, hv⟩ hH hT
   replace hi : i ≤ 9 ∧ a + i ≤ s.length := hi
   replace hz : z < 128 ^ i := hz
   replace hd : decZ (s.drop a) 9 0 0 = decZ (s.drop (a + i)) (9 - i) i z := hd
   replace hpre : ∀ y ∈ (s.drop a).take i, 128 ≤ y.toNat := hpre
   replace hv : vals ((s.drop a).take i) = z := hv
   have hplen : ((s.drop a).take i).length = i := by rw [List.length_take, List.length_drop]; omega
   have ew : IntKind.i64.wrap ((a : Int) + i) = ((a + i : Nat) : Int) := by rw [zaj (by omega) (by omega)]; rfl
   conv=>whnf
   refine ⟨fun gb => ?_, fun gb => ?_⟩
   ·have gi : i < 9 := by
     have h0 : (i : Int) < 9 := by simpa using gb
     omega
    clear gb
    have h9 : 9 - i = (9 - (i + 1)) + 1 := by omega
    conv=>whnf
    refine br (fun gc => ?_) (fun gc => ?_)
    ·have gl : a + i < s.length := by
      have h0 : IntKind.i64.wrap ((a : Int) + i) < (s.length : Int) := by simpa using gc
      rw [ew] at h0; omega
     clear gc
     have hd2 := hd
     rw [drop_at gl, h9, decZ] at hd2
     have hm : s[a + i].toNat % 128 < 128 := Nat.mod_lt _ (by omega)
     have hlt := znn hz hm
     have hsh := shl7 (s[a + i].toNat % 128) i hm (by omega)
     have htm : (s[a + i].toNat : Int).tmod 128 = ((s[a + i].toNat % 128 : Nat) : Int) := rfl
     have hp9 : 128 ^ (i + 1) ≤ 9223372036854775808 := by
      have : 128 ^ (i + 1) ≤ 128 ^ 9 := Nat.pow_le_pow_right (by omega) (by omega)
      exact this
     have hb8 := s[a + i].toNat_lt
     have hb64 : IntKind.u64.wrap (s[a + i].toNat : Int) = (s[a + i].toNat : Int) := zc4 (by omega) (by omega)
     have hacc : IntKind.u64.wrap ((z : Int) + shlI .u64 ((IntKind.u64.wrap (s[a + i].toNat : Int)).tmod 128) (IntKind.i64.wrap (7 * (i : Int)))) = ((z + s[a + i].toNat % 128 * 128 ^ i : Nat) : Int) := by
      rw [hb64, htm, hsh, zc4 (by omega) (by omega)]; omega
     have hsnoc : (s.drop a).take (i + 1) = (s.drop a).take i ++ [s[a + i]] := by
      have h1 : i < (s.drop a).length := by rw [List.length_drop]; omega
      rw [List.take_succ_eq_append_getElem h1]
      simp
     have hv2 : vals ((s.drop a).take (i + 1)) = z + s[a + i].toNat % 128 * 128 ^ i := by rw [hsnoc, zhb, hv, hplen]
     conv=>whnf
     refine ⟨by dsimp only; rw [ew]; omega, s[a + i], by dsimp only; rw [ew, Int.toNat_natCast, List.getElem?_eq_getElem gl], ?_⟩;conv=>whnf
     refine ⟨by decide, ?_⟩;conv=>whnf
     refine ⟨by dsimp only; rw [zaj (by omega) (by omega)]; omega, ?_⟩;conv=>whnf
     refine br (fun gd => ?_) (fun gd => ?_)
     ·have g128 : 128 ≤ s[a + i].toNat := by
       have h0 : (128 : Int) ≤ IntKind.u64.wrap (s[a + i].toNat : Int) := of_decide_eq_true gd
       rw [hb64] at h0; omega
      clear gd
      rw [if_pos g128] at hd2
      have hp2 : ∀ y ∈ (s.drop a).take (i + 1), 128 ≤ y.toNat := by
       intro y hy
       rw [hsnoc] at hy
       rcases List.mem_append.1 hy with h | h
       ·exact hpre y h
       ·rw [List.mem_singleton.1 h]; exact g128
      conv=>whnf
      refine ⟨⟨(i + 1, z + s[a + i].toNat % 128 * 128 ^ i), by show i + 1 ≤ 9 ∧ a + (i + 1) ≤ s.length; omega, hlt, hd2, hp2, hv2⟩, by show 9 - (i + 1) < 9 - i; omega, lr0 hH hT rfl (Fz.le_refl F) rfl ⟨?_, cnt (by omega), trivial⟩⟩
      exact congrArg (SA.int .u64) hacc.symm
     ·have g128 : ¬ 128 ≤ s[a + i].toNat := by
       have h0 : ¬ (128 : Int) ≤ IntKind.u64.wrap (s[a + i].toNat : Int) := of_decide_eq_false gd
       rw [hb64] at h0; omega
      clear gd
      rw [if_neg g128] at hd2
      have hmm : s[a + i].toNat % 128 = s[a + i].toNat := Nat.mod_eq_of_lt (by omega)
      rw [hmm] at hacc hlt hv2
      have hZ : ∃ Z, Z = z + s[a + i].toNat * 128 ^ i := ⟨_, rfl⟩
      obtain ⟨Z, hZ⟩ := hZ
      rw [← hZ] at hacc hlt hv2 hd2
      have hZ9 : Z < 9223372036854775808 := by omega
      have hget : getI s a = if (s[a + i] = 0 ∧ 0 < i) ∨ unz Z < -4611686018427387903 then (0, 0, 10) else (unz Z, (a : Int) + i + 1, 0) := by rw [hg, hd2]
      have hb1 : Z = vals ((s.drop a).take i ++ [s[a + i]]) := by rw [← hv2, hsnoc]
      have hown := zrk ((s.drop a).take i) s[a + i] hpre (by omega)
      rw [← hb1, ← hsnoc, hplen] at hown
      have hput := zak F (unz Z)
      have hr : unz Z < -4611686018427387903 ∨ ¬ unz Z < -4611686018427387903 := Decidable.em _
      have hsl : (s.take (a + i + 1)).drop a = (s.drop a).take (i + 1) := by rw [List.drop_take]; congr 1; omega
      have he2 : IntKind.i64.wrap (IntKind.i64.wrap ((a : Int) + i) + 1) = ((a + i + 1 : Nat) : Int) := by rw [ew, zaj (by omega) (by omega)]; omega
      have hb2 : 0 ≤ IntKind.i64.wrap (IntKind.i64.wrap ((a : Int) + i) + 1) ∧ IntKind.i64.wrap (IntKind.i64.wrap ((a : Int) + i) + 1) ≤ (s.length : Int) := by rw [he2]; omega
      have hb3 : 0 ≤ (a : Int) ∧ (a : Int) ≤ IntKind.i64.wrap (IntKind.i64.wrap ((a : Int) + i) + 1) := by rw [he2]; omega
      have he3 : IntKind.i64.wrap (IntKind.i64.wrap ((a : Int) + i) + 1) = (a : Int) + i + 1 := by rw [he2]; omega
      have hcmp : (putZ Z == List.drop (a : Int).toNat (List.take (IntKind.i64.wrap (IntKind.i64.wrap ((a : Int) + i) + 1)).toNat s)) = decide (¬ (s[a + i] = 0 ∧ 0 < i)) := by
       rw [he2, Int.toNat_natCast, Int.toNat_natCast, hsl, Bool.eq_iff_iff, beq_iff_eq, decide_eq_true_iff]
       exact hown
      have hbad : (!(putZ Z == List.drop (a : Int).toNat (List.take (IntKind.i64.wrap (IntKind.i64.wrap ((a : Int) + i) + 1)).toNat s))) = true → s[a + i] = 0 ∧ 0 < i := fun h => by
       rw [hcmp] at h
       exact Decidable.byContradiction fun h' => by
        rw [decide_eq_true h'] at h; cases h
      have hgood : (!(putZ Z == List.drop (a : Int).toNat (List.take (IntKind.i64.wrap (IntKind.i64.wrap ((a : Int) + i) + 1)).toNat s))) = false → ¬ (s[a + i] = 0 ∧ 0 < i) := fun h => by
       rw [hcmp] at h
       exact of_decide_eq_true (by
        rw [Bool.not_eq_false'] at h; exact h)
      clear hcmp
      have hq0 : IntKind.i64.wrap (IntKind.u64.wrap ((IntKind.u64.wrap ((z : Int) + shlI .u64 ((IntKind.u64.wrap (s[a + i].toNat : Int)).tmod 128) (IntKind.i64.wrap (7 * (i : Int))))).tdiv 2)) = ((Z / 2 : Nat) : Int) := by
       have h1 : (Z : Int).tdiv 2 = ((Z / 2 : Nat) : Int) := rfl
       rw [hacc, h1, zc4 (by omega) (by omega), zaj (by omega) (by omega)]
      have hmod : ((IntKind.u64.wrap ((z : Int) + shlI .u64 ((IntKind.u64.wrap (s[a + i].toNat : Int)).tmod 128) (IntKind.i64.wrap (7 * (i : Int))))).tmod 2) = ((Z % 2 : Nat) : Int) := by
       rw [hacc]; rfl
      conv=>whnf
      refine ⟨by decide, ?_⟩;conv=>whnf
      refine ⟨by decide, ?_⟩;conv=>whnf
      refine br (fun gp => ?_) (fun gp => ?_)
      ·have hodd : Z % 2 = 1 := by
        have h0 := of_decide_eq_true gp
        rw [hmod] at h0; omega
       have hu : IntKind.i64.wrap (IntKind.i64.wrap (0 - IntKind.i64.wrap (IntKind.u64.wrap ((IntKind.u64.wrap ((z : Int) + shlI .u64 ((IntKind.u64.wrap (s[a + i].toNat : Int)).tmod 128) (IntKind.i64.wrap (7 * (i : Int))))).tdiv 2))) - 1) = unz Z := by
        have hn1 : IntKind.i64.wrap (0 - ((Z / 2 : Nat) : Int)) = -((Z / 2 : Nat) : Int) := by rw [zaj (by omega) (by omega)]; omega
        rw [hq0, hn1, zaj (by omega) (by omega), unz, if_pos hodd]
       clear gp hq0 hmod
       rcases hr with hr | hr
       ·rw [zi2 hr] at hput
        conv=>whnf
        refine usePu hput rfl ⟨congrArg (SA.int .i64) hu.symm, trivial⟩ rfl ?_;conv=>whnf
        refine ⟨fun g => absurd g (by simp), fun _ => ?_⟩;conv=>whnf
        exact fin 0 0 10 _ _ (by rw [hget, if_pos (.inr hr)]) rfl
       ·rw [zl0 hr hZ9] at hput
        conv=>whnf
        refine usePu hput rfl ⟨congrArg (SA.int .i64) hu.symm, trivial⟩ rfl ?_;conv=>whnf
        refine ⟨fun _ => ?_, fun g => absurd g (by simp)⟩;conv=>whnf
        refine ⟨hb2, ?_⟩;conv=>whnf
        refine ⟨hb3, ?_⟩;conv=>whnf
        refine br (fun gx => ?_) (fun gx => ?_)
        ·have hx := hbad gx
         conv=>whnf
         exact fin 0 0 10 _ _ (by rw [hget, if_pos (.inl hx)]) rfl
        ·have hx := hgood gx
         conv=>whnf
         exact fin _ _ 0 _ _ (by rw [hget, if_neg (by rintro (h | h); exact hx h; exact hr h), ← hu, ← he3]) rfl
      ·have hev : ¬ Z % 2 = 1 := by
        have h0 := of_decide_eq_false gp
        rw [hmod] at h0; omega
       have hu : IntKind.i64.wrap (IntKind.u64.wrap ((IntKind.u64.wrap ((z : Int) + shlI .u64 ((IntKind.u64.wrap (s[a + i].toNat : Int)).tmod 128) (IntKind.i64.wrap (7 * (i : Int))))).tdiv 2)) = unz Z := by
        rw [hq0, unz, if_neg hev]
       clear gp hq0 hmod
       rcases hr with hr | hr
       ·rw [zi2 hr] at hput
        conv=>whnf
        refine usePu hput rfl ⟨congrArg (SA.int .i64) hu.symm, trivial⟩ rfl ?_;conv=>whnf
        refine ⟨fun g => absurd g (by simp), fun _ => ?_⟩;conv=>whnf
        exact fin 0 0 10 _ _ (by rw [hget, if_pos (.inr hr)]) rfl
       ·rw [zl0 hr hZ9] at hput
        conv=>whnf
        refine usePu hput rfl ⟨congrArg (SA.int .i64) hu.symm, trivial⟩ rfl ?_;conv=>whnf
        refine ⟨fun _ => ?_, fun g => absurd g (by simp)⟩;conv=>whnf
        refine ⟨hb2, ?_⟩;conv=>whnf
        refine ⟨hb3, ?_⟩;conv=>whnf
        refine br (fun gx => ?_) (fun gx => ?_)
        ·have hx := hbad gx
         conv=>whnf
         exact fin 0 0 10 _ _ (by rw [hget, if_pos (.inl hx)]) rfl
        ·have hx := hgood gx
         conv=>whnf
         exact fin _ _ 0 _ _ (by rw [hget, if_neg (by rintro (h | h); exact hx h; exact hr h), ← hu, ← he3]) rfl
    ·have gl : s.length ≤ a + i := by
      have h0 : ¬ IntKind.i64.wrap ((a : Int) + i) < (s.length : Int) := by simpa using gc
      rw [ew] at h0; omega
     have hz : decZ (s.drop a) 9 0 0 = none := by rw [hd, List.drop_of_length_le gl, zly]
     conv=>whnf
     exact fin 0 0 10 _ _ (hno hz) rfl
   ·have gi : i = 9 := by
     have h0 : ¬ (i : Int) < 9 := by simpa using gb
     omega
    subst gi
    have hz : decZ (s.drop a) 9 0 0 = none := by rw [hd]; cases s.drop (a + 9) <;> rfl
    conv=>whnf
    exact fin 0 0 10 _ _ (hno hz) rfl
 ·have g1 : p < 0 := by simpa using g
  conv=>whnf
  exact fin 0 0 2 _ _ (by rw [getI, if_pos (.inl g1)]) rfl
end Go.Proofs.YtblllibdahkgfaaGreatDoor

namespace Go.Proofs.YtblllibdahkgfaaGreatDoor
open Go Sx
set_option maxRecDepth 100000
set_option maxHeartbeats 4000000 in
theorem zoq (F : Fz) (s : List UInt8) (p : Int) (hs : s.length ≤ 1000000000000000000) (hp : i64 p) :
  Fo Tryz.prog F 87 [.va (.str s), .va (.int .i64 p)] (fun o F' => o = .ret (.tup [.va (.str (getS s p).1), .va (.int .i64 (getS s p).2.1), .va (.int .i64 (getS s p).2.2)]) ∧ F' = F) := by
 have fin : ∀ (n : List UInt8) (x e : Int) (h : Hp) (nx : Nat), getS s p = (n, x, e) → lget h 0 = some (.frz F) →
   Cln 1 (FoK F fun o F' => o = .ret (.tup [.va (.str (getS s p).1), .va (.int .i64 (getS s p).2.1), .va (.int .i64 (getS s p).2.2)]) ∧ F' = F) (.ret (.tup [.va (.str n), .va (.int .i64 x), .va (.int .i64 e)])) h nx := by
  intro n x e h nx hv h0
  exact endFo (.ret (.tup [.va (.str n), .va (.int .i64 x), .va (.int .i64 e)])) F h0 (Fz.le_refl F) (Fz.le_refl F) ⟨by rw [hv], rfl⟩ (zat _) rfl
 have hi := zq8 F s p hs hp
 have hok := @zdy s p
 have hge : ∀ n x e, getI s p = (n, x, e) → getS s p = if e ≠ 0 then ([], 0, e) else if n < 0 ∨ 65536 < n ∨ (s.length : Int) - x < n then ([], 0, 10) else ((s.take (x + n).toNat).drop x.toNat, x + n, 0) := fun n x e h => by rw [getS, h]
 obtain ⟨n, x, e, hg⟩ : ∃ n x e, getI s p = (n, x, e) := ⟨_, _, _, rfl⟩
 have hge := hge n x e hg
 rw [hg] at hi hok
 replace hok : e = 0 → 0 ≤ p ∧ p < x ∧ x ≤ s.length ∧ -4611686018427387903 ≤ n ∧ n ≤ 4611686018427387903 := hok
 refine fo_of hΘ Tryz.func87 rfl (by decide) _ _ rfl rfl rfl ?_;conv=>whnf
 refine usePu (hi) rfl (zaf _) rfl ?_;conv=>whnf
 refine br (fun g => ?_) (fun g => ?_)
 ·have g1 : e ≠ 0 := by simpa using g
  conv=>whnf
  exact fin [] 0 e _ _ (by rw [hge, if_pos g1]) rfl
 ·have g1 : e = 0 := by simpa using g
  have hb := hok g1
  have hge2 : getS s p = if n < 0 ∨ 65536 < n ∨ (s.length : Int) - x < n then ([], 0, 10) else ((s.take (x + n).toNat).drop x.toNat, x + n, 0) := by rw [hge, if_neg (by simp [g1])]
  have ew : IntKind.i64.wrap ((s.length : Int) - x) = s.length - x := zaj (by omega) (by omega)
  conv=>whnf
  refine ⟨fun ga => ?_, fun ga => ?_⟩
  ·have ga' : ¬ n < 0 := of_decide_eq_false ga
   conv=>whnf
   refine ⟨fun gb => ?_, fun gb => ?_⟩
   ·have gb' : ¬ 65536 < n := of_decide_eq_false gb
    conv=>whnf
    refine br (fun gc => ?_) (fun gc => ?_)
    ·have gc' : (s.length : Int) - x < n := by have h0 := of_decide_eq_true gc; rw [← ew]; exact h0
     conv=>whnf
     exact fin [] 0 10 _ _ (by rw [hge2, if_pos (.inr (.inr gc'))]) rfl
    ·have gc' : ¬ (s.length : Int) - x < n := by have h0 := of_decide_eq_false gc; rw [← ew]; exact h0
     have e2 : IntKind.i64.wrap (x + n) = x + n := zaj (by omega) (by omega)
     conv=>whnf
     refine ⟨⟨by dsimp only; rw [e2]; omega, by dsimp only; rw [e2]; omega⟩, ⟨by dsimp only; omega, by dsimp only; rw [e2]; omega⟩, ?_⟩;conv=>whnf
     refine fin _ _ 0 _ _ ?_ rfl
     rw [hge2, if_neg (by omega), e2]
   ·have gb' : 65536 < n := of_decide_eq_true gb
    conv=>whnf
    exact fin [] 0 10 _ _ (by rw [hge2, if_pos (.inr (.inl gb'))]) rfl
  ·have ga' : n < 0 := of_decide_eq_true ga
   conv=>whnf
   exact fin [] 0 10 _ _ (by rw [hge2, if_pos (.inl ga')]) rfl
end Go.Proofs.YtblllibdahkgfaaGreatDoor
