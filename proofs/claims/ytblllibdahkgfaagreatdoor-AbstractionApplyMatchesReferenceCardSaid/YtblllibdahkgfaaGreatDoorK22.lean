import Derived.Test.YtblllibdahkgfaaGreatDoorK21
import Derived.Test.YtblllibdahkgfaaGreatDoorK10

namespace Go.Proofs.YtblllibdahkgfaaGreatDoor
open Go Sx
set_option maxRecDepth 100000
def stepOf (p x : Int) : List Stp :=
 if 0 < pickI x 8 then
  if p = 1 then [(1 + (pickI (x.tdiv 8) 21).tmod 2, 0)] else if p = 2 then [(4, (pickI (x.tdiv 8) 21).tmod 7)]
  else if p = 3 ∨ p = 5 then [(3, if (pickI (x.tdiv 8) 21).tmod 3 = 0 then 10 else if (pickI (x.tdiv 8) 21).tmod 3 = 1 then 100 else 1000)] else if p = 6 ∨ p = 7 then [(5, 0)] else []
 else [(6, 0)]
def ze6 (p : Int) (x : List Int) : List Stp := ((x.take 8).map (stepOf p)).flatten
theorem zi8 {c n : Int} (hc : i64 c) (hn : 0 < n) : 0 ≤ pickI c n ∧ pickI c n < n := by
 unfold pickI i64 at *
 split
 ·exact ⟨Int.tmod_nonneg _ (by omega), Int.tmod_lt_of_pos _ hn⟩
 ·exact ⟨Int.tmod_nonneg _ (by omega), Int.tmod_lt_of_pos _ hn⟩
theorem tdiv8 {x : Int} (h : i64 x) : IntKind.i64.wrap (x.tdiv 8) = x.tdiv 8 ∧ i64 (x.tdiv 8) := by
 unfold i64 at *
 have h1 : -9223372036854775808 ≤ x.tdiv 8 ∧ x.tdiv 8 ≤ 9223372036854775807 := by
  by_cases hx : 0 ≤ x
  ·rw [Int.tdiv_eq_ediv_of_nonneg hx]; omega
  ·have e : x.tdiv 8 = -((-x).tdiv 8) := by rw [Int.neg_tdiv]; omega
   rw [e, Int.tdiv_eq_ediv_of_nonneg (by omega)]; omega
 exact ⟨zai h1.1 h1.2, h1⟩
theorem zjm {p : Int} {x : List Int} {k : Nat} (g : k < x.length) (g8 : k < 8) : (((x.take 8).take (k + 1)).map (stepOf p)).flatten = (((x.take 8).take k).map (stepOf p)).flatten ++ stepOf p x[k] := by
 have g' : k < (x.take 8).length := by rw [List.length_take]; omega
 rw [List.take_succ_eq_append_getElem g', List.map_append, List.flatten_append]
 simp
theorem zo5 (p x : Int) : (stepOf p x).length ≤ 1 := by
 unfold stepOf
 split
 ·split
  ·simp
  ·split
   ·simp
   ·split
    ·simp
    ·split <;> simp
 ·simp
theorem zge (p : Int) : ∀ (l : List Int), ((l.map (stepOf p)).flatten).length ≤ l.length
 | [] => by simp
 | a :: r => by
  have h1 := zo5 p a
  have h2 := zge p r
  simp only [List.map_cons, List.flatten_cons, List.length_append, List.length_cons]; omega
set_option maxHeartbeats 8000000 in
theorem zt9 (F : Fz) (sa : SA) (x : List Int) (p : Int) (ha : zel F sa x) (hl : x.length < 1000000000000000000) (hx : ∀ a ∈ x, i64 a) (hp : 1 ≤ p ∧ p ≤ 8) :
  Fo Tryz.prog F 14 [.va (.int .i64 p), .va sa] (fun o F' => ∃ sc, o = .ret (.va sc) ∧ zaz F' sc (ze6 p x)) := by
 obtain ⟨han, hab, hae, hac, haL, har, rfl, ha1, ha2, ha3, ha4⟩ := ha
 refine fo_of hΘ Tryz.func14 rfl (by decide) _ _ rfl rfl rfl ?_;conv=>whnf
 refine zau hΘ (X := { q : Nat × List Stp × Nat // (q.1 ≤ x.length ∧ q.1 ≤ 8) ∧ q.2.1 = (((x.take 8).take q.1).map (stepOf p)).flatten }) (fun q => [(5, .va (oA 1 q.1.2.2 q.1.2.1)), (6, .va (.int .i64 q.1.1))]) [7, 8, 9, 10, 11, 12, 13, 14, 15, 16, 17, 18, 19, 20, 21, 22, 23, 24, 25, 26, 27, 28, 29, 30, 31, 32, 33, 34, 35, 36, 37, 38, 39, 40, 41, 42, 43, 44, 45, 46, 47, 48, 49, 50, 51, 52, 53, 54, 55, 56, 57, 58, 59, 60, 61, 62, 63, 64]
  (fun q => [(0, .frz F), (1, oE q.1.2.2 q.1.2.1)]) 2 (fun q => x.length - q.1.1) ⟨(0, [], 0), by simp⟩
  (fun hH hT => leI [(1, 1)] hH hT rfl ⟨trivial, zax _ _ _, trivial⟩ ⟨rfl, rfl, trivial⟩ ⟨Fz.le_refl F, rfl, trivial⟩) ?_
 rintro ⟨⟨k, out, co⟩, hk, hout⟩ hH hT
 replace hk : k ≤ x.length ∧ k ≤ 8 := hk
 replace hout : out = (((x.take 8).take k).map (stepOf p)).flatten := hout
 have fin : k = x.length ∨ k = 8 → out = ze6 p x := fun h => by
  rw [hout, ze6, List.take_of_length_le (by rw [List.length_take]; omega)]
 have hol : out.length ≤ 100 := by
  rw [hout]
  have h1 := zge p ((x.take 8).take k)
  rw [List.length_take, List.length_take] at h1
  omega
 conv=>whnf
 refine ⟨fun ga => ?_, fun ga => ?_⟩
 ·have gk : k < x.length := by
    have h0 : (k : Int) < (x.length : Int) := of_decide_eq_true ga
    omega
  clear ga;conv=>whnf
  refine br (fun gb => ?_) (fun gb => ?_)
  ·have g8 : k < 8 := by
     have h0 : (k : Int) < 8 := of_decide_eq_true gb
     omega
   clear gb
   have hxk := hx _ (List.getElem_mem gk)
   have h8 := tdiv8 hxk
   have hr := zi8 (n := 21) h8.2 (by decide)
   have hnext := zjm (p := p) gk g8
   rw [← hout] at hnext
   conv=>whnf
   refine ⟨Sl.lt ha1 gk, ⟨by simp, by simpa using gk⟩, ?_⟩;conv=>whnf
   refine ⟨_, ha2 (Sl.lt ha1 gk), ?_⟩;conv=>whnf
   refine ⟨_, Sl.at ha4 gk, ?_⟩;conv=>whnf
   refine usePu (za1 x[k] 8 hxk (by decide) F) rfl (zaf _) rfl ?_;conv=>whnf
   refine ⟨Sl.lt ha1 gk, ⟨by simp, by simpa using gk⟩, ?_⟩;conv=>whnf
   refine ⟨_, ha2 (Sl.lt ha1 gk), ?_⟩;conv=>whnf
   refine ⟨_, Sl.at ha4 gk, ?_⟩;conv=>whnf
   refine ⟨by decide, ?_⟩;conv=>whnf
   refine usePu (za1 (x[k].tdiv 8) 21 h8.2 (by decide) F) rfl ⟨congrArg (SA.int .i64) h8.1.symm, rfl, trivial⟩ rfl ?_;conv=>whnf
   refine br (fun gm => ?_) (fun gm => ?_)
   ·have gm' : 0 < pickI x[k] 8 := of_decide_eq_true gm
    clear gm;conv=>whnf
    refine br (fun g1 => ?_) (fun g1 => ?_)
    ·have g1' : p = 1 := of_decide_eq_true g1
     clear g1
     have hstep : stepOf p x[k] = [(1 + (pickI (x[k].tdiv 8) 21).tmod 2, 0)] := by rw [stepOf, if_pos gm', if_pos g1']
     have h0 : 0 ≤ (pickI (x[k].tdiv 8) 21).tmod 2 := Int.tmod_nonneg _ hr.1
     have h1 : (pickI (x[k].tdiv 8) 21).tmod 2 < 2 := Int.tmod_lt_of_pos _ (by decide)
     have hget : [[SA.int .i64 1], [SA.int .i64 2]][0 + ((pickI (x[k].tdiv 8) 21).tmod 2).toNat]? = some [SA.int .i64 (1 + (pickI (x[k].tdiv 8) 21).tmod 2)] := by
      have hc : (pickI (x[k].tdiv 8) 21).tmod 2 = 0 ∨ (pickI (x[k].tdiv 8) 21).tmod 2 = 1 := by omega
      rcases hc with h | h <;> rw [h] <;> rfl
     have hout' : out ++ [(1 + (pickI (x[k].tdiv 8) 21).tmod 2, 0)] = (((x.take 8).take (k + 1)).map (stepOf p)).flatten := by rw [hnext, hstep]
     clear hnext hstep
     rcases out with _ | ⟨yo, ro⟩
     ·conv=>whnf
      refine ⟨by decide, ?_⟩;conv=>whnf
      refine ⟨rfl, ⟨h0, h1⟩, ?_⟩;conv=>whnf
      refine ⟨_, hget, ?_⟩;conv=>whnf
      refine ⟨Nat.le_refl 1, [enc (1 + (pickI (x[k].tdiv 8) 21).tmod 2, 0)], rfl, ?_⟩;conv=>whnf
      refine ⟨rfl, rfl, ?_⟩;conv=>whnf
      refine ⟨by show 1 * 16 ≤ 140737488355328; omega, fun c' hc => ?_⟩;conv=>whnf
      exact ⟨⟨(k + 1, ([] : List Stp) ++ [(1 + (pickI (x[k].tdiv 8) 21).tmod 2, 0)], c'), by show k + 1 ≤ x.length ∧ k + 1 ≤ 8; omega, hout'⟩, by show x.length - (k + 1) < x.length - k; omega, leR [(1, 5)] hH hT rfl ⟨trivial, zax _ _ _, trivial⟩ ⟨(zb1 (μ := sig [(1, 5)]) (i := 1) (j := 5) rfl c' _ ([]) (1 + (pickI (x[k].tdiv 8) 21).tmod 2, 0) rfl), cnt (by omega), trivial⟩ ⟨Fz.le_refl F, zbh (zbz [enc (1 + (pickI (x[k].tdiv 8) 21).tmod 2, 0)] rfl), trivial⟩⟩
     ·conv=>whnf
      refine ⟨by decide, ?_⟩;conv=>whnf
      refine ⟨rfl, ⟨h0, h1⟩, ?_⟩;conv=>whnf
      refine ⟨_, hget, ?_⟩;conv=>whnf
      replace hol : ro.length + 1 ≤ 100 := hol
      refine ⟨Nat.le_refl 1, [enc (1 + (pickI (x[k].tdiv 8) 21).tmod 2, 0)], rfl, ?_⟩;conv=>whnf
      refine ⟨rfl, rfl, by simp, rfl, by show (ro.length + 1 + 1) * 16 ≤ 140737488355328; omega, fun c' hc => ?_⟩;conv=>whnf
      exact ⟨⟨(k + 1, (yo :: ro : List Stp) ++ [(1 + (pickI (x[k].tdiv 8) 21).tmod 2, 0)], c'), by show k + 1 ≤ x.length ∧ k + 1 ≤ 8; omega, hout'⟩, by show x.length - (k + 1) < x.length - k; omega, leR [(1, 5)] hH hT rfl ⟨trivial, zax _ _ _, trivial⟩ ⟨(zb1 (μ := sig [(1, 5)]) (i := 1) (j := 5) rfl c' _ (yo :: ro) (1 + (pickI (x[k].tdiv 8) 21).tmod 2, 0) rfl), cnt (by omega), trivial⟩ ⟨Fz.le_refl F, zbh (zbz _ (by simp)), trivial⟩⟩
    ·have n1 : ¬ p = 1 := of_decide_eq_false g1
     clear g1;conv=>whnf
     refine br (fun g1 => ?_) (fun g1 => ?_)
     ·have g2 : p = 2 := of_decide_eq_true g1
      clear g1
      have hstep : stepOf p x[k] = [(4, (pickI (x[k].tdiv 8) 21).tmod 7)] := by rw [stepOf, if_pos gm', if_neg n1, if_pos g2]
      have hout' : out ++ [(4, (pickI (x[k].tdiv 8) 21).tmod 7)] = (((x.take 8).take (k + 1)).map (stepOf p)).flatten := by rw [hnext, hstep]
      clear hnext hstep
      rcases out with _ | ⟨yo, ro⟩
      ·conv=>whnf
       refine ⟨by decide, ?_⟩;conv=>whnf
       refine ⟨Nat.le_refl 1, [enc (4, (pickI (x[k].tdiv 8) 21).tmod 7)], rfl, ?_⟩;conv=>whnf
       refine ⟨rfl, rfl, ?_⟩;conv=>whnf
       refine ⟨by show 1 * 16 ≤ 140737488355328; omega, fun c' hc => ?_⟩;conv=>whnf
       exact ⟨⟨(k + 1, ([] : List Stp) ++ [(4, (pickI (x[k].tdiv 8) 21).tmod 7)], c'), by show k + 1 ≤ x.length ∧ k + 1 ≤ 8; omega, hout'⟩, by show x.length - (k + 1) < x.length - k; omega, leR [(1, 4)] hH hT rfl ⟨trivial, zax _ _ _, trivial⟩ ⟨(zb1 (μ := sig [(1, 4)]) (i := 1) (j := 4) rfl c' _ ([]) (4, (pickI (x[k].tdiv 8) 21).tmod 7) rfl), cnt (by omega), trivial⟩ ⟨Fz.le_refl F, zbh (zbz [enc (4, (pickI (x[k].tdiv 8) 21).tmod 7)] rfl), trivial⟩⟩
      ·conv=>whnf
       refine ⟨by decide, ?_⟩;conv=>whnf
       replace hol : ro.length + 1 ≤ 100 := hol
       refine ⟨Nat.le_refl 1, [enc (4, (pickI (x[k].tdiv 8) 21).tmod 7)], rfl, ?_⟩;conv=>whnf
       refine ⟨rfl, rfl, by simp, rfl, by show (ro.length + 1 + 1) * 16 ≤ 140737488355328; omega, fun c' hc => ?_⟩;conv=>whnf
       exact ⟨⟨(k + 1, (yo :: ro : List Stp) ++ [(4, (pickI (x[k].tdiv 8) 21).tmod 7)], c'), by show k + 1 ≤ x.length ∧ k + 1 ≤ 8; omega, hout'⟩, by show x.length - (k + 1) < x.length - k; omega, leR [(1, 4)] hH hT rfl ⟨trivial, zax _ _ _, trivial⟩ ⟨(zb1 (μ := sig [(1, 4)]) (i := 1) (j := 4) rfl c' _ (yo :: ro) (4, (pickI (x[k].tdiv 8) 21).tmod 7) rfl), cnt (by omega), trivial⟩ ⟨Fz.le_refl F, zbh (zbz _ (by simp)), trivial⟩⟩
     ·have n2 : ¬ p = 2 := of_decide_eq_false g1
      clear g1;conv=>whnf
      refine br (fun g1 => ?_) (fun g1 => ?_)
      ·have g3 : p = 3 := of_decide_eq_true g1
       clear g1
       have hstep : stepOf p x[k] = [(3, if (pickI (x[k].tdiv 8) 21).tmod 3 = 0 then 10 else if (pickI (x[k].tdiv 8) 21).tmod 3 = 1 then 100 else 1000)] := by rw [stepOf, if_pos gm', if_neg n1, if_neg n2, if_pos (.inl g3)]
       have h0 : 0 ≤ (pickI (x[k].tdiv 8) 21).tmod 3 := Int.tmod_nonneg _ hr.1
       have h1 : (pickI (x[k].tdiv 8) 21).tmod 3 < 3 := Int.tmod_lt_of_pos _ (by decide)
       have hget : [[SA.int .i64 10], [SA.int .i64 100], [SA.int .i64 1000]][0 + ((pickI (x[k].tdiv 8) 21).tmod 3).toNat]? = some [SA.int .i64 (if (pickI (x[k].tdiv 8) 21).tmod 3 = 0 then 10 else if (pickI (x[k].tdiv 8) 21).tmod 3 = 1 then 100 else 1000)] := by
        have hc : (pickI (x[k].tdiv 8) 21).tmod 3 = 0 ∨ (pickI (x[k].tdiv 8) 21).tmod 3 = 1 ∨ (pickI (x[k].tdiv 8) 21).tmod 3 = 2 := by omega
        rcases hc with h | h | h <;> rw [h] <;> rfl
       have hout' : out ++ [(3, if (pickI (x[k].tdiv 8) 21).tmod 3 = 0 then 10 else if (pickI (x[k].tdiv 8) 21).tmod 3 = 1 then 100 else 1000)] = (((x.take 8).take (k + 1)).map (stepOf p)).flatten := by rw [hnext, hstep]
       clear hnext hstep
       rcases out with _ | ⟨yo, ro⟩
       ·conv=>whnf
        refine br (fun _ => ?_) (fun g => absurd g3 (of_decide_eq_false g));conv=>whnf
        refine ⟨by decide, ?_⟩;conv=>whnf
        refine ⟨rfl, ⟨h0, h1⟩, ?_⟩;conv=>whnf
        refine ⟨_, hget, ?_⟩;conv=>whnf
        refine ⟨Nat.le_refl 1, [enc (3, if (pickI (x[k].tdiv 8) 21).tmod 3 = 0 then 10 else if (pickI (x[k].tdiv 8) 21).tmod 3 = 1 then 100 else 1000)], rfl, ?_⟩;conv=>whnf
        refine ⟨rfl, rfl, ?_⟩;conv=>whnf
        refine ⟨by show 1 * 16 ≤ 140737488355328; omega, fun c' hc => ?_⟩;conv=>whnf
        exact ⟨⟨(k + 1, ([] : List Stp) ++ [(3, if (pickI (x[k].tdiv 8) 21).tmod 3 = 0 then 10 else if (pickI (x[k].tdiv 8) 21).tmod 3 = 1 then 100 else 1000)], c'), by show k + 1 ≤ x.length ∧ k + 1 ≤ 8; omega, hout'⟩, by show x.length - (k + 1) < x.length - k; omega, leR [(1, 5)] hH hT rfl ⟨trivial, zax _ _ _, trivial⟩ ⟨(zb1 (μ := sig [(1, 5)]) (i := 1) (j := 5) rfl c' _ ([]) (3, if (pickI (x[k].tdiv 8) 21).tmod 3 = 0 then 10 else if (pickI (x[k].tdiv 8) 21).tmod 3 = 1 then 100 else 1000) rfl), cnt (by omega), trivial⟩ ⟨Fz.le_refl F, zbh (zbz [enc (3, if (pickI (x[k].tdiv 8) 21).tmod 3 = 0 then 10 else if (pickI (x[k].tdiv 8) 21).tmod 3 = 1 then 100 else 1000)] rfl), trivial⟩⟩
       ·conv=>whnf
        refine br (fun _ => ?_) (fun g => absurd g3 (of_decide_eq_false g));conv=>whnf
        refine ⟨by decide, ?_⟩;conv=>whnf
        refine ⟨rfl, ⟨h0, h1⟩, ?_⟩;conv=>whnf
        refine ⟨_, hget, ?_⟩;conv=>whnf
        replace hol : ro.length + 1 ≤ 100 := hol
        refine ⟨Nat.le_refl 1, [enc (3, if (pickI (x[k].tdiv 8) 21).tmod 3 = 0 then 10 else if (pickI (x[k].tdiv 8) 21).tmod 3 = 1 then 100 else 1000)], rfl, ?_⟩;conv=>whnf
        refine ⟨rfl, rfl, by simp, rfl, by show (ro.length + 1 + 1) * 16 ≤ 140737488355328; omega, fun c' hc => ?_⟩;conv=>whnf
        exact ⟨⟨(k + 1, (yo :: ro : List Stp) ++ [(3, if (pickI (x[k].tdiv 8) 21).tmod 3 = 0 then 10 else if (pickI (x[k].tdiv 8) 21).tmod 3 = 1 then 100 else 1000)], c'), by show k + 1 ≤ x.length ∧ k + 1 ≤ 8; omega, hout'⟩, by show x.length - (k + 1) < x.length - k; omega, leR [(1, 5)] hH hT rfl ⟨trivial, zax _ _ _, trivial⟩ ⟨(zb1 (μ := sig [(1, 5)]) (i := 1) (j := 5) rfl c' _ (yo :: ro) (3, if (pickI (x[k].tdiv 8) 21).tmod 3 = 0 then 10 else if (pickI (x[k].tdiv 8) 21).tmod 3 = 1 then 100 else 1000) rfl), cnt (by omega), trivial⟩ ⟨Fz.le_refl F, zbh (zbz _ (by simp)), trivial⟩⟩
      ·have n3 : ¬ p = 3 := of_decide_eq_false g1
       clear g1;conv=>whnf
       refine br (fun g1 => ?_) (fun g1 => ?_)
       ·have g3 : p = 5 := of_decide_eq_true g1
        clear g1
        have hstep : stepOf p x[k] = [(3, if (pickI (x[k].tdiv 8) 21).tmod 3 = 0 then 10 else if (pickI (x[k].tdiv 8) 21).tmod 3 = 1 then 100 else 1000)] := by rw [stepOf, if_pos gm', if_neg n1, if_neg n2, if_pos (.inr g3)]
        have h0 : 0 ≤ (pickI (x[k].tdiv 8) 21).tmod 3 := Int.tmod_nonneg _ hr.1
        have h1 : (pickI (x[k].tdiv 8) 21).tmod 3 < 3 := Int.tmod_lt_of_pos _ (by decide)
        have hget : [[SA.int .i64 10], [SA.int .i64 100], [SA.int .i64 1000]][0 + ((pickI (x[k].tdiv 8) 21).tmod 3).toNat]? = some [SA.int .i64 (if (pickI (x[k].tdiv 8) 21).tmod 3 = 0 then 10 else if (pickI (x[k].tdiv 8) 21).tmod 3 = 1 then 100 else 1000)] := by
         have hc : (pickI (x[k].tdiv 8) 21).tmod 3 = 0 ∨ (pickI (x[k].tdiv 8) 21).tmod 3 = 1 ∨ (pickI (x[k].tdiv 8) 21).tmod 3 = 2 := by omega
         rcases hc with h | h | h <;> rw [h] <;> rfl
        have hout' : out ++ [(3, if (pickI (x[k].tdiv 8) 21).tmod 3 = 0 then 10 else if (pickI (x[k].tdiv 8) 21).tmod 3 = 1 then 100 else 1000)] = (((x.take 8).take (k + 1)).map (stepOf p)).flatten := by rw [hnext, hstep]
        clear hnext hstep
        rcases out with _ | ⟨yo, ro⟩
        ·conv=>whnf
         refine ⟨by decide, ?_⟩;conv=>whnf
         refine ⟨rfl, ⟨h0, h1⟩, ?_⟩;conv=>whnf
         refine ⟨_, hget, ?_⟩;conv=>whnf
         refine ⟨Nat.le_refl 1, [enc (3, if (pickI (x[k].tdiv 8) 21).tmod 3 = 0 then 10 else if (pickI (x[k].tdiv 8) 21).tmod 3 = 1 then 100 else 1000)], rfl, ?_⟩;conv=>whnf
         refine ⟨rfl, rfl, ?_⟩;conv=>whnf
         refine ⟨by show 1 * 16 ≤ 140737488355328; omega, fun c' hc => ?_⟩;conv=>whnf
         exact ⟨⟨(k + 1, ([] : List Stp) ++ [(3, if (pickI (x[k].tdiv 8) 21).tmod 3 = 0 then 10 else if (pickI (x[k].tdiv 8) 21).tmod 3 = 1 then 100 else 1000)], c'), by show k + 1 ≤ x.length ∧ k + 1 ≤ 8; omega, hout'⟩, by show x.length - (k + 1) < x.length - k; omega, leR [(1, 5)] hH hT rfl ⟨trivial, zax _ _ _, trivial⟩ ⟨(zb1 (μ := sig [(1, 5)]) (i := 1) (j := 5) rfl c' _ ([]) (3, if (pickI (x[k].tdiv 8) 21).tmod 3 = 0 then 10 else if (pickI (x[k].tdiv 8) 21).tmod 3 = 1 then 100 else 1000) rfl), cnt (by omega), trivial⟩ ⟨Fz.le_refl F, zbh (zbz [enc (3, if (pickI (x[k].tdiv 8) 21).tmod 3 = 0 then 10 else if (pickI (x[k].tdiv 8) 21).tmod 3 = 1 then 100 else 1000)] rfl), trivial⟩⟩
        ·conv=>whnf
         refine ⟨by decide, ?_⟩;conv=>whnf
         refine ⟨rfl, ⟨h0, h1⟩, ?_⟩;conv=>whnf
         refine ⟨_, hget, ?_⟩;conv=>whnf
         replace hol : ro.length + 1 ≤ 100 := hol
         refine ⟨Nat.le_refl 1, [enc (3, if (pickI (x[k].tdiv 8) 21).tmod 3 = 0 then 10 else if (pickI (x[k].tdiv 8) 21).tmod 3 = 1 then 100 else 1000)], rfl, ?_⟩;conv=>whnf
         refine ⟨rfl, rfl, by simp, rfl, by show (ro.length + 1 + 1) * 16 ≤ 140737488355328; omega, fun c' hc => ?_⟩;conv=>whnf
         exact ⟨⟨(k + 1, (yo :: ro : List Stp) ++ [(3, if (pickI (x[k].tdiv 8) 21).tmod 3 = 0 then 10 else if (pickI (x[k].tdiv 8) 21).tmod 3 = 1 then 100 else 1000)], c'), by show k + 1 ≤ x.length ∧ k + 1 ≤ 8; omega, hout'⟩, by show x.length - (k + 1) < x.length - k; omega, leR [(1, 5)] hH hT rfl ⟨trivial, zax _ _ _, trivial⟩ ⟨(zb1 (μ := sig [(1, 5)]) (i := 1) (j := 5) rfl c' _ (yo :: ro) (3, if (pickI (x[k].tdiv 8) 21).tmod 3 = 0 then 10 else if (pickI (x[k].tdiv 8) 21).tmod 3 = 1 then 100 else 1000) rfl), cnt (by omega), trivial⟩ ⟨Fz.le_refl F, zbh (zbz _ (by simp)), trivial⟩⟩
       ·have n5 : ¬ p = 5 := of_decide_eq_false g1
        clear g1;conv=>whnf
        refine br (fun g1 => ?_) (fun g1 => ?_)
        ·have g6 : p = 6 := of_decide_eq_true g1
         clear g1
         have hstep : stepOf p x[k] = [(5, 0)] := by rw [stepOf, if_pos gm', if_neg n1, if_neg n2, if_neg (by omega), if_pos (.inl g6)]
         have hout' : out ++ [(5, 0)] = (((x.take 8).take (k + 1)).map (stepOf p)).flatten := by rw [hnext, hstep]
         clear hnext hstep
         rcases out with _ | ⟨yo, ro⟩
         ·conv=>whnf
          refine br (fun _ => ?_) (fun g => absurd g6 (of_decide_eq_false g));conv=>whnf
          refine ⟨Nat.le_refl 1, [enc (5, 0)], rfl, ?_⟩;conv=>whnf
          refine ⟨rfl, rfl, ?_⟩;conv=>whnf
          refine ⟨by show 1 * 16 ≤ 140737488355328; omega, fun c' hc => ?_⟩;conv=>whnf
          exact ⟨⟨(k + 1, ([] : List Stp) ++ [(5, 0)], c'), by show k + 1 ≤ x.length ∧ k + 1 ≤ 8; omega, hout'⟩, by show x.length - (k + 1) < x.length - k; omega, leR [(1, 4)] hH hT rfl ⟨trivial, zax _ _ _, trivial⟩ ⟨(zb1 (μ := sig [(1, 4)]) (i := 1) (j := 4) rfl c' _ ([]) (5, 0) rfl), cnt (by omega), trivial⟩ ⟨Fz.le_refl F, zbh (zbz [enc (5, 0)] rfl), trivial⟩⟩
         ·conv=>whnf
          refine br (fun _ => ?_) (fun g => absurd g6 (of_decide_eq_false g));conv=>whnf
          replace hol : ro.length + 1 ≤ 100 := hol
          refine ⟨Nat.le_refl 1, [enc (5, 0)], rfl, ?_⟩;conv=>whnf
          refine ⟨rfl, rfl, by simp, rfl, by show (ro.length + 1 + 1) * 16 ≤ 140737488355328; omega, fun c' hc => ?_⟩;conv=>whnf
          exact ⟨⟨(k + 1, (yo :: ro : List Stp) ++ [(5, 0)], c'), by show k + 1 ≤ x.length ∧ k + 1 ≤ 8; omega, hout'⟩, by show x.length - (k + 1) < x.length - k; omega, leR [(1, 4)] hH hT rfl ⟨trivial, zax _ _ _, trivial⟩ ⟨(zb1 (μ := sig [(1, 4)]) (i := 1) (j := 4) rfl c' _ (yo :: ro) (5, 0) rfl), cnt (by omega), trivial⟩ ⟨Fz.le_refl F, zbh (zbz _ (by simp)), trivial⟩⟩
        ·have n6 : ¬ p = 6 := of_decide_eq_false g1
         clear g1;conv=>whnf
         refine br (fun g1 => ?_) (fun g1 => ?_)
         ·have g6 : p = 7 := of_decide_eq_true g1
          clear g1
          have hstep : stepOf p x[k] = [(5, 0)] := by rw [stepOf, if_pos gm', if_neg n1, if_neg n2, if_neg (by omega), if_pos (.inr g6)]
          have hout' : out ++ [(5, 0)] = (((x.take 8).take (k + 1)).map (stepOf p)).flatten := by rw [hnext, hstep]
          clear hnext hstep
          rcases out with _ | ⟨yo, ro⟩
          ·conv=>whnf
           refine ⟨Nat.le_refl 1, [enc (5, 0)], rfl, ?_⟩;conv=>whnf
           refine ⟨rfl, rfl, ?_⟩;conv=>whnf
           refine ⟨by show 1 * 16 ≤ 140737488355328; omega, fun c' hc => ?_⟩;conv=>whnf
           exact ⟨⟨(k + 1, ([] : List Stp) ++ [(5, 0)], c'), by show k + 1 ≤ x.length ∧ k + 1 ≤ 8; omega, hout'⟩, by show x.length - (k + 1) < x.length - k; omega, leR [(1, 4)] hH hT rfl ⟨trivial, zax _ _ _, trivial⟩ ⟨(zb1 (μ := sig [(1, 4)]) (i := 1) (j := 4) rfl c' _ ([]) (5, 0) rfl), cnt (by omega), trivial⟩ ⟨Fz.le_refl F, zbh (zbz [enc (5, 0)] rfl), trivial⟩⟩
          ·conv=>whnf
           replace hol : ro.length + 1 ≤ 100 := hol
           refine ⟨Nat.le_refl 1, [enc (5, 0)], rfl, ?_⟩;conv=>whnf
           refine ⟨rfl, rfl, by simp, rfl, by show (ro.length + 1 + 1) * 16 ≤ 140737488355328; omega, fun c' hc => ?_⟩;conv=>whnf
           exact ⟨⟨(k + 1, (yo :: ro : List Stp) ++ [(5, 0)], c'), by show k + 1 ≤ x.length ∧ k + 1 ≤ 8; omega, hout'⟩, by show x.length - (k + 1) < x.length - k; omega, leR [(1, 4)] hH hT rfl ⟨trivial, zax _ _ _, trivial⟩ ⟨(zb1 (μ := sig [(1, 4)]) (i := 1) (j := 4) rfl c' _ (yo :: ro) (5, 0) rfl), cnt (by omega), trivial⟩ ⟨Fz.le_refl F, zbh (zbz _ (by simp)), trivial⟩⟩
         ·have n7 : ¬ p = 7 := of_decide_eq_false g1
          clear g1
          have hstep : stepOf p x[k] = [] := by rw [stepOf, if_pos gm', if_neg n1, if_neg n2, if_neg (by omega), if_neg (by omega)]
          have hout' : out = (((x.take 8).take (k + 1)).map (stepOf p)).flatten := by rw [hnext, hstep, List.append_nil]
          clear hnext hstep
          rcases out with _ | ⟨yo, ro⟩
          ·conv=>whnf
           exact ⟨⟨(k + 1, ([] : List Stp), co), by show k + 1 ≤ x.length ∧ k + 1 ≤ 8; omega, hout'⟩, by show x.length - (k + 1) < x.length - k; omega, leR [(1, 1)] hH hT rfl ⟨trivial, zax _ _ _, trivial⟩ ⟨rfl, cnt (by omega), trivial⟩ ⟨Fz.le_refl F, zbh (zc8 _ _), trivial⟩⟩
          ·conv=>whnf
           exact ⟨⟨(k + 1, (yo :: ro : List Stp), co), by show k + 1 ≤ x.length ∧ k + 1 ≤ 8; omega, hout'⟩, by show x.length - (k + 1) < x.length - k; omega, leR [(1, 1)] hH hT rfl ⟨trivial, zax _ _ _, trivial⟩ ⟨⟨rfl, rfl, rfl, .inr ⟨rfl, rfl, rfl, rfl⟩⟩, cnt (by omega), trivial⟩ ⟨Fz.le_refl F, zbh (zc8 _ _), trivial⟩⟩
   ·have gm' : ¬ 0 < pickI x[k] 8 := of_decide_eq_false gm
    clear gm
    have hstep : stepOf p x[k] = [(6, 0)] := by rw [stepOf, if_neg gm']
    have hout' : out ++ [(6, 0)] = (((x.take 8).take (k + 1)).map (stepOf p)).flatten := by rw [hnext, hstep]
    clear hnext hstep
    rcases out with _ | ⟨yo, ro⟩
    ·conv=>whnf
     refine ⟨Nat.le_refl 1, [enc (6, 0)], rfl, ?_⟩;conv=>whnf
     refine ⟨rfl, rfl, ?_⟩;conv=>whnf
     refine ⟨by show 1 * 16 ≤ 140737488355328; omega, fun c' hc => ?_⟩;conv=>whnf
     exact ⟨⟨(k + 1, ([] : List Stp) ++ [(6, 0)], c'), by show k + 1 ≤ x.length ∧ k + 1 ≤ 8; omega, hout'⟩, by show x.length - (k + 1) < x.length - k; omega, leR [(1, 4)] hH hT rfl ⟨trivial, zax _ _ _, trivial⟩ ⟨(zb1 (μ := sig [(1, 4)]) (i := 1) (j := 4) rfl c' _ ([]) (6, 0) rfl), cnt (by omega), trivial⟩ ⟨Fz.le_refl F, zbh (zbz [enc (6, 0)] rfl), trivial⟩⟩
    ·conv=>whnf
     replace hol : ro.length + 1 ≤ 100 := hol
     refine ⟨Nat.le_refl 1, [enc (6, 0)], rfl, ?_⟩;conv=>whnf
     refine ⟨rfl, rfl, by simp, rfl, by show (ro.length + 1 + 1) * 16 ≤ 140737488355328; omega, fun c' hc => ?_⟩;conv=>whnf
     exact ⟨⟨(k + 1, (yo :: ro : List Stp) ++ [(6, 0)], c'), by show k + 1 ≤ x.length ∧ k + 1 ≤ 8; omega, hout'⟩, by show x.length - (k + 1) < x.length - k; omega, leR [(1, 4)] hH hT rfl ⟨trivial, zax _ _ _, trivial⟩ ⟨(zb1 (μ := sig [(1, 4)]) (i := 1) (j := 4) rfl c' _ (yo :: ro) (6, 0) rfl), cnt (by omega), trivial⟩ ⟨Fz.le_refl F, zbh (zbz _ (by simp)), trivial⟩⟩
  ·have g8 : k = 8 := by
     have h0 : ¬ (k : Int) < 8 := of_decide_eq_false gb
     omega
   have hf := fin (.inr g8)
   rcases out with _ | ⟨yo, ro⟩
   ·conv=>whnf
    exact endFo (.ret (.va (.slice true 0 0 0 2 0 0))) F rfl (Fz.le_refl F) (Fz.le_refl F) ⟨_, rfl, by rw [← hf]; exact Sl.nil⟩ ⟨rfl, rfl, rfl⟩ rfl
   ·conv=>whnf
    refine zb8 1 (fun _ => .arr 50 2 ((yo :: ro).map enc) co) rfl rfl rfl (fun _ _ => zdv _ (yo :: ro) co) (fun _ _ => zcd _ _ _) ?_
    intro b F' hle hb
    exact endFo (.ret (.va (.slice false 0 (b 0) 0 2 (ro.length + 1) co))) F' rfl hle (Fz.le_refl F') ⟨_, rfl, by rw [← hf]; exact Sl.new (l := yo :: ro) (hb 0 ⟨rfl, rfl⟩)⟩ ⟨rfl, rfl, rfl, .inr ⟨rfl, rfl, rfl, rfl⟩⟩ rfl
 ·have gk : k = x.length := by
    have h0 : ¬ (k : Int) < (x.length : Int) := by simpa using ga
    omega
  clear ga
  have hf := fin (.inl gk)
  rcases out with _ | ⟨yo, ro⟩
  ·conv=>whnf
   exact endFo (.ret (.va (.slice true 0 0 0 2 0 0))) F rfl (Fz.le_refl F) (Fz.le_refl F) ⟨_, rfl, by rw [← hf]; exact Sl.nil⟩ ⟨rfl, rfl, rfl⟩ rfl
  ·conv=>whnf
   refine zb8 1 (fun _ => .arr 50 2 ((yo :: ro).map enc) co) rfl rfl rfl (fun _ _ => zdv _ (yo :: ro) co) (fun _ _ => zcd _ _ _) ?_
   intro b F' hle hb
   exact endFo (.ret (.va (.slice false 0 (b 0) 0 2 (ro.length + 1) co))) F' rfl hle (Fz.le_refl F') ⟨_, rfl, by rw [← hf]; exact Sl.new (l := yo :: ro) (hb 0 ⟨rfl, rfl⟩)⟩ ⟨rfl, rfl, rfl, .inr ⟨rfl, rfl, rfl, rfl⟩⟩ rfl
end Go.Proofs.YtblllibdahkgfaaGreatDoor

namespace Go.Proofs.YtblllibdahkgfaaGreatDoor
open Go Sx
set_option maxRecDepth 100000
theorem zwp (F : Fz) (sa : SA) (l : List Stp) (ha : zaz F sa l) (hl : l.length < 1000000000000000000) (hcap : l.length ≤ capN sa) :
  Fo Tryz.prog F 13 [.va sa] (fun o F' => ∃ sc, o = .ret (.va sc) ∧ zaz F' sc (l.take 66)) := by
 obtain ⟨han, hab, hae, hac, haL, har, rfl, ha1, ha2, ha3, ha4⟩ := ha
 replace hcap : l.length ≤ hac := hcap
 have hz : (if (66 : Int) < ((l.length : Nat) : Int) then (66 : Int) else ((l.length : Nat) : Int)).toNat = (l.take 66).length := by
  rw [List.length_take]; split <;> omega
 have hzz : 0 ≤ (if (66 : Int) < ((l.length : Nat) : Int) then (66 : Int) else ((l.length : Nat) : Int)) ∧ (if (66 : Int) < ((l.length : Nat) : Int) then (66 : Int) else ((l.length : Nat) : Int)) ≤ (hac : Int) := by split <;> omega
 have htk : ∀ e : Nat, e = hae → (haL.drop e).take (l.take 66).length = (l.take 66).map enc := fun e he => by
  subst he
  have h1 : (l.take 66).length ≤ l.length := by rw [List.length_take]; omega
  rw [List.map_take, ← ha4, List.take_take, List.length_take, Nat.min_comm]
 have hl66 : (l.take 66).length ≤ 66 := by rw [List.length_take]; omega
 rcases han with _ | _
 ·refine fo_of hΘ Tryz.func13 rfl (by decide) _ _ rfl rfl rfl ?_;conv=>whnf
  refine ⟨hzz, ?_⟩;conv=>whnf
  refine ⟨_, _, _, ha2 rfl, ?_, (l.take 66).map enc, ?_, ?_⟩
  ·show (if hac = 0 then hae else hae + 0) + ((if (66 : Int) < ((l.length : Nat) : Int) then (66 : Int) else ((l.length : Nat) : Int)).toNat - 0) ≤ haL.length
   rw [hz]
   have h1 : (l.take 66).length ≤ l.length := by rw [List.length_take]; omega
   have h2 : (if hac = 0 then hae else hae + 0) = hae := by split <;> rfl
   rw [h2]; omega
  ·show (haL.drop (if hac = 0 then hae else hae + 0)).take ((if (66 : Int) < ((l.length : Nat) : Int) then (66 : Int) else ((l.length : Nat) : Int)).toNat - 0) = _
   rw [hz]; exact htk _ (by split <;> rfl)
  conv=>whnf
  refine ⟨rfl, rfl, rfl, by rw [List.length_map]; show (0 + (l.take 66).length) * 16 ≤ 140737488355328; omega, fun c hc => ?_⟩
  clear hc;conv=>whnf
  refine zb8 2 (fun _ => .arr 50 2 ((l.take 66).map enc) c) rfl rfl rfl (fun _ _ => zrh (by simp [chunk]) _ _) (fun _ _ => zcd _ _ _) ?_
  intro b F' hle hb
  refine endFo (.ret (.va (.slice false 0 (b 0) 0 2 (l.take 66).length c))) F' rfl hle (Fz.le_refl F') ⟨_, rfl, Sl.new (hb 0 rfl)⟩ ⟨rfl, ?_, rfl, .inr ⟨rfl, rfl, rfl, rfl⟩⟩ rfl
  show (l.take 66).length = 0 + ((l.take 66).map enc).length
  rw [List.length_map, Nat.zero_add]
 ·have hnil : l = [] := ha1 rfl
  subst hnil
  refine fo_of hΘ Tryz.func13 rfl (by decide) _ _ rfl rfl rfl ?_;conv=>whnf
  refine ⟨hzz, ?_⟩;conv=>whnf
  refine ⟨rfl, ?_⟩;conv=>whnf
  refine ⟨rfl, rfl, rfl, Nat.le_of_ble_eq_true rfl, fun c hc => ?_⟩
  clear hc;conv=>whnf
  refine zb8 2 (fun _ => .arr 50 2 [] c) rfl rfl rfl (fun _ _ => rfl) (fun _ _ => SB.bB_ok rfl) ?_
  intro b F' hle hb
  exact endFo (.ret (.va (.slice false 0 (b 0) 0 2 0 c))) F' rfl hle (Fz.le_refl F') ⟨_, rfl, Sl.new (l := ([] : List Stp)) (hb 0 rfl)⟩ ⟨rfl, rfl, rfl, .inr ⟨rfl, rfl, rfl, rfl⟩⟩ rfl
theorem zi0 (l : List Stp) : (l.take 66).length < 1000000 := by rw [List.length_take]; omega
theorem zir (p : Int) (x : List Int) : (ze6 p x).length < 1000000 := by
 have := zge p (x.take 8)
 rw [List.length_take] at this
 unfold ze6; omega
end Go.Proofs.YtblllibdahkgfaaGreatDoor

namespace Go.Proofs.YtblllibdahkgfaaGreatDoor
open Go Sx
set_option maxRecDepth 100000
def foldB (b : UInt8) : UInt8 := if 65 ≤ b.toNat ∧ b.toNat ≤ 90 then UInt8.ofNat (b.toNat + 32) else b
theorem zm3 (b : UInt8) : foldB b = Lib.lowerB b := by
 unfold foldB Lib.lowerB Lib.isUpperB
 by_cases h : 65 ≤ b.toNat ∧ b.toNat ≤ 90
 ·have h1 : (65 : UInt8) ≤ b := UInt8.le_iff_toNat_le.2 h.1
  have h2 : b ≤ (90 : UInt8) := UInt8.le_iff_toNat_le.2 h.2
  rw [if_pos h, if_pos (by simp [h1, h2])]
  apply UInt8.toNat_inj.1
  rw [UInt8.toNat_add, UInt8.toNat_ofNat']
  rfl
 ·rw [if_neg h, if_neg]
  intro h'
  simp only [Bool.and_eq_true, decide_eq_true_eq] at h'
  exact h ⟨UInt8.le_iff_toNat_le.1 h'.1, UInt8.le_iff_toNat_le.1 h'.2⟩
theorem zo6 (s : List UInt8) : s.map foldB = Lib.toLowerA s := by
 unfold Lib.toLowerA
 exact List.map_congr_left fun b _ => zm3 b
set_option maxHeartbeats 4000000 in
theorem zvh (F : Fz) (s : List UInt8) (hs : s.length < 1000000) : Fo Tryz.prog F 84 [.va (.str s)] (fun o F' => o = .ret (.va (.str (s.map foldB))) ∧ F' = F) := by
 refine fo_of hΘ Tryz.func84 rfl (by decide) _ _ rfl rfl rfl ?_;conv=>whnf
 refine zau hΘ (X := { x : Nat × List UInt8 × Nat // x.1 ≤ s.length ∧ x.2.1 = (s.take x.1).map foldB }) (fun x => [(3, .va (gA 1 1 x.1.2.2 x.1.2.1)), (4, .va (.int .i64 x.1.1))]) [5, 6, 7, 8, 9, 10, 11, 12, 13, 14, 15, 16, 17, 18, 19, 20, 21, 22, 23, 24, 25, 26, 27]
  (fun x => [(0, .frz F), (1, gE 5 1 encB x.1.2.2 x.1.2.1)]) 2 (fun x => s.length - x.1.1) ⟨(0, [], 0), by simp⟩
  (fun hH hT => leI [(1, 1)] hH hT rfl ⟨trivial, zac zae _ _ _ _ _, trivial⟩ ⟨rfl, rfl, trivial⟩ ⟨Fz.le_refl F, rfl, trivial⟩) ?_
 rintro ⟨⟨k, out, c⟩, hk, ho⟩ hH hT
 replace hk : k ≤ s.length := hk
 replace ho : out = (s.take k).map foldB := ho
 have hol : out.length = k := by rw [ho, List.length_map, List.length_take]; omega
 conv=>whnf
 refine br (fun gb => ?_) (fun gb => ?_)
 ·have gk : k < s.length := by
   have h0 : (k : Int) < (s.length : Int) := of_decide_eq_true gb
   omega
  clear gb
  have hnext : (s.take (k + 1)).map foldB = out ++ [foldB s[k]] := by rw [List.take_succ_eq_append_getElem gk, List.map_append, ho]; rfl
  have hlt := UInt8.toNat_lt s[k]
  conv=>whnf
  refine ⟨by dsimp only; omega, s[k], by dsimp only; rw [Int.toNat_natCast, List.getElem?_eq_getElem gk], ?_⟩;conv=>whnf
  refine ⟨fun ga => ?_, fun ga => ?_⟩
  ·have g65 : 65 ≤ s[k].toNat := by
    have h0 : (65 : Int) ≤ s[k].toNat := of_decide_eq_true ga
    omega
   clear ga;conv=>whnf
   refine br (fun gc => ?_) (fun gc => ?_)
   ·have g90 : s[k].toNat ≤ 90 := by
     have h0 : (s[k].toNat : Int) ≤ 90 := of_decide_eq_true gc
     omega
    clear gc
    have hf : SA.int .u8 (IntKind.u8.wrap (IntKind.u8.wrap ((s[k].toNat : Int) - 65) + 97)) = SA.int .u8 ((foldB s[k]).toNat : Int) := by
     have h1 := zri (n := (s[k].toNat : Int) - 65) (by omega) (by omega)
     rw [foldB, if_pos ⟨g65, g90⟩, h1, show (s[k].toNat : Int) - 65 + 97 = ((s[k].toNat + 32 : Nat) : Int) by omega]
     exact zju _ (by omega)
    rcases out with _ | ⟨yo, ro⟩
    ·conv=>whnf
     refine ⟨Nat.le_of_ble_eq_true rfl, [encB (foldB s[k])], by show [[SA.int .u8 _]] = _; rw [hf]; rfl, ?_⟩;conv=>whnf
     refine ⟨rfl, rfl, Nat.le_of_ble_eq_true rfl, fun c' hc => ?_⟩
     clear hc;conv=>whnf
     exact ⟨⟨(k + 1, ([] : List UInt8) ++ [foldB s[k]], c'), by show k + 1 ≤ s.length; omega, hnext.symm⟩, by show s.length - (k + 1) < s.length - k; omega, leR [(1, 3)] hH hT rfl ⟨trivial, zac zae _ _ _ _ _, trivial⟩ ⟨zdt (μ := sig [(1, 3)]) (i := 1) (j := 3) rfl 1 c' _ ([]) (foldB s[k]) rfl, cnt (by omega), trivial⟩ ⟨Fz.le_refl F, zam zae (zbt [encB (foldB s[k])] rfl), trivial⟩⟩
    ·skip
     replace hol : ro.length + 1 = k := hol
     conv=>whnf
     refine ⟨Nat.le_of_ble_eq_true rfl, [encB (foldB s[k])], by show [[SA.int .u8 _]] = _; rw [hf]; rfl, ?_⟩;conv=>whnf
     refine ⟨rfl, rfl, by simp, rfl, by show (ro.length + 1 + 1) * 1 ≤ 140737488355328; omega, fun c' hc => ?_⟩
     clear hc;conv=>whnf
     exact ⟨⟨(k + 1, (yo :: ro : List UInt8) ++ [foldB s[k]], c'), by show k + 1 ≤ s.length; omega, hnext.symm⟩, by show s.length - (k + 1) < s.length - k; omega, leR [(1, 3)] hH hT rfl ⟨trivial, zac zae _ _ _ _ _, trivial⟩ ⟨zdt (μ := sig [(1, 3)]) (i := 1) (j := 3) rfl 1 c' _ (yo :: ro) (foldB s[k]) rfl, cnt (by omega), trivial⟩ ⟨Fz.le_refl F, zam zae (zbt _ (by simp)), trivial⟩⟩
   ·have g90 : ¬ s[k].toNat ≤ 90 := by
     have h0 : ¬ (s[k].toNat : Int) ≤ 90 := of_decide_eq_false gc
     omega
    clear gc
    have hf : SA.int .u8 (s[k].toNat : Int) = SA.int .u8 ((foldB s[k]).toNat : Int) := by rw [foldB, if_neg (fun h => g90 h.2)]
    rcases out with _ | ⟨yo, ro⟩
    ·conv=>whnf
     refine ⟨Nat.le_of_ble_eq_true rfl, [encB (foldB s[k])], by show [[SA.int .u8 _]] = _; rw [hf]; rfl, ?_⟩;conv=>whnf
     refine ⟨rfl, rfl, Nat.le_of_ble_eq_true rfl, fun c' hc => ?_⟩
     clear hc;conv=>whnf
     exact ⟨⟨(k + 1, ([] : List UInt8) ++ [foldB s[k]], c'), by show k + 1 ≤ s.length; omega, hnext.symm⟩, by show s.length - (k + 1) < s.length - k; omega, leR [(1, 3)] hH hT rfl ⟨trivial, zac zae _ _ _ _ _, trivial⟩ ⟨zdt (μ := sig [(1, 3)]) (i := 1) (j := 3) rfl 1 c' _ ([]) (foldB s[k]) rfl, cnt (by omega), trivial⟩ ⟨Fz.le_refl F, zam zae (zbt [encB (foldB s[k])] rfl), trivial⟩⟩
    ·skip
     replace hol : ro.length + 1 = k := hol
     conv=>whnf
     refine ⟨Nat.le_of_ble_eq_true rfl, [encB (foldB s[k])], by show [[SA.int .u8 _]] = _; rw [hf]; rfl, ?_⟩;conv=>whnf
     refine ⟨rfl, rfl, by simp, rfl, by show (ro.length + 1 + 1) * 1 ≤ 140737488355328; omega, fun c' hc => ?_⟩
     clear hc;conv=>whnf
     exact ⟨⟨(k + 1, (yo :: ro : List UInt8) ++ [foldB s[k]], c'), by show k + 1 ≤ s.length; omega, hnext.symm⟩, by show s.length - (k + 1) < s.length - k; omega, leR [(1, 3)] hH hT rfl ⟨trivial, zac zae _ _ _ _ _, trivial⟩ ⟨zdt (μ := sig [(1, 3)]) (i := 1) (j := 3) rfl 1 c' _ (yo :: ro) (foldB s[k]) rfl, cnt (by omega), trivial⟩ ⟨Fz.le_refl F, zam zae (zbt _ (by simp)), trivial⟩⟩
  ·have g65 : ¬ 65 ≤ s[k].toNat := by
    have h0 : ¬ (65 : Int) ≤ s[k].toNat := of_decide_eq_false ga
    omega
   clear ga
   have hf : SA.int .u8 (s[k].toNat : Int) = SA.int .u8 ((foldB s[k]).toNat : Int) := by rw [foldB, if_neg (fun h => g65 h.1)]
   rcases out with _ | ⟨yo, ro⟩
   ·conv=>whnf
    refine ⟨Nat.le_of_ble_eq_true rfl, [encB (foldB s[k])], by show [[SA.int .u8 _]] = _; rw [hf]; rfl, ?_⟩;conv=>whnf
    refine ⟨rfl, rfl, Nat.le_of_ble_eq_true rfl, fun c' hc => ?_⟩
    clear hc;conv=>whnf
    exact ⟨⟨(k + 1, ([] : List UInt8) ++ [foldB s[k]], c'), by show k + 1 ≤ s.length; omega, hnext.symm⟩, by show s.length - (k + 1) < s.length - k; omega, leR [(1, 3)] hH hT rfl ⟨trivial, zac zae _ _ _ _ _, trivial⟩ ⟨zdt (μ := sig [(1, 3)]) (i := 1) (j := 3) rfl 1 c' _ ([]) (foldB s[k]) rfl, cnt (by omega), trivial⟩ ⟨Fz.le_refl F, zam zae (zbt [encB (foldB s[k])] rfl), trivial⟩⟩
   ·skip
    replace hol : ro.length + 1 = k := hol
    conv=>whnf
    refine ⟨Nat.le_of_ble_eq_true rfl, [encB (foldB s[k])], by show [[SA.int .u8 _]] = _; rw [hf]; rfl, ?_⟩;conv=>whnf
    refine ⟨rfl, rfl, by simp, rfl, by show (ro.length + 1 + 1) * 1 ≤ 140737488355328; omega, fun c' hc => ?_⟩
    clear hc;conv=>whnf
    exact ⟨⟨(k + 1, (yo :: ro : List UInt8) ++ [foldB s[k]], c'), by show k + 1 ≤ s.length; omega, hnext.symm⟩, by show s.length - (k + 1) < s.length - k; omega, leR [(1, 3)] hH hT rfl ⟨trivial, zac zae _ _ _ _ _, trivial⟩ ⟨zdt (μ := sig [(1, 3)]) (i := 1) (j := 3) rfl 1 c' _ (yo :: ro) (foldB s[k]) rfl, cnt (by omega), trivial⟩ ⟨Fz.le_refl F, zam zae (zbt _ (by simp)), trivial⟩⟩
 ·have gk : ¬ k < s.length := by
   have h0 : ¬ (k : Int) < (s.length : Int) := of_decide_eq_false gb
   omega
  clear gb
  have hout : out = s.map foldB := by rw [ho, List.take_of_length_le (by omega)]
  rcases out with _ | ⟨yo, ro⟩
  ·conv=>whnf
   exact endFo (.ret (.va (.str []))) F rfl (Fz.le_refl F) (Fz.le_refl F) ⟨by rw [hout], rfl⟩ (zar _) rfl
  ·conv=>whnf
   refine ⟨rfl, ?_⟩;conv=>whnf
   refine ⟨by simp, (yo :: ro).map encB, by simp [List.take_of_length_le], yo :: ro, rfl, ?_⟩;conv=>whnf
   exact endFo (.ret (.va (.str (yo :: ro)))) F rfl (Fz.le_refl F) (Fz.le_refl F) ⟨by rw [hout], rfl⟩ (zar _) rfl
end Go.Proofs.YtblllibdahkgfaaGreatDoor
