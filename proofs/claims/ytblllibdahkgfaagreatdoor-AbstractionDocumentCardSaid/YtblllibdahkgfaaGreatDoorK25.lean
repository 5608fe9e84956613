import Derived.Test.YtblllibdahkgfaaGreatDoorK24
import Derived.Test.YtblllibdahkgfaaGreatDoorK12
import Derived.Test.YtblllibdahkgfaaGreatDoorK10
import Derived.Test.YtblllibdahkgfaaGreatDoorK22

namespace Go.Proofs.YtblllibdahkgfaaGreatDoor
open Go Sx
set_option maxRecDepth 100000
def stepOf (p x : Int) : List Stp :=
  if 0 < pickI x 8 then
    if p = 1 then [(1 + (pickI (x.tdiv 8) 21).tmod 2, 0)] else if p = 2 then [(4, (pickI (x.tdiv 8) 21).tmod 7)]
    else if p = 3 ∨ p = 5 then [(3, if (pickI (x.tdiv 8) 21).tmod 3 = 0 then 10 else if (pickI (x.tdiv 8) 21).tmod 3 = 1 then 100 else 1000)] else if p = 6 ∨ p = 7 then [(5, 0)] else []
  else [(6, 0)]
def stepsS (p : Int) (x : List Int) : List Stp := ((x.take 8).map (stepOf p)).flatten
theorem pick_range {c n : Int} (hc : i64 c) (hn : 0 < n) : 0 ≤ pickI c n ∧ pickI c n < n := by
  unfold pickI i64 at *
  split
  · exact ⟨Int.tmod_nonneg _ (by omega), Int.tmod_lt_of_pos _ hn⟩
  · exact ⟨Int.tmod_nonneg _ (by omega), Int.tmod_lt_of_pos _ hn⟩
theorem tdiv8 {x : Int} (h : i64 x) : IntKind.i64.wrap (x.tdiv 8) = x.tdiv 8 ∧ i64 (x.tdiv 8) := by
  unfold i64 at *
  have h1 : -9223372036854775808 ≤ x.tdiv 8 ∧ x.tdiv 8 ≤ 9223372036854775807 := by
    by_cases hx : 0 ≤ x
    · rw [Int.tdiv_eq_ediv_of_nonneg hx]; omega
    · have e : x.tdiv 8 = -((-x).tdiv 8) := by rw [Int.neg_tdiv]; omega
      rw [e, Int.tdiv_eq_ediv_of_nonneg (by omega)]; omega
  exact ⟨wrap64_id h1.1 h1.2, h1⟩
theorem steps_succ {p : Int} {x : List Int} {k : Nat} (g : k < x.length) (g8 : k < 8) : (((x.take 8).take (k + 1)).map (stepOf p)).flatten = (((x.take 8).take k).map (stepOf p)).flatten ++ stepOf p x[k] := by
  have g' : k < (x.take 8).length := by rw [List.length_take]; omega
  rw [List.take_succ_eq_append_getElem g', List.map_append, List.flatten_append]
  simp
theorem stepOf_len (p x : Int) : (stepOf p x).length ≤ 1 := by
  unfold stepOf
  split
  · split
    · simp
    · split
      · simp
      · split
        · simp
        · split <;> simp
  · simp
theorem steps_len (p : Int) : ∀ (l : List Int), ((l.map (stepOf p)).flatten).length ≤ l.length
  | [] => by simp
  | a :: r => by
    have h1 := stepOf_len p a
    have h2 := steps_len p r
    simp only [List.map_cons, List.flatten_cons, List.length_append, List.length_cons]; omega
set_option maxHeartbeats 8000000 in
theorem steps_fn (F : Fz) (sa : SA) (x : List Int) (p : Int) (ha : IntsAt F sa x) (hl : x.length < 1000000000000000000) (hx : ∀ a ∈ x, i64 a) (hp : 1 ≤ p ∧ p ≤ 8) :
    Fo Tryz.prog F 14 [.va (.int .i64 p), .va sa] (fun o F' => ∃ sc, o = .ret (.va sc) ∧ StepsAt F' sc (stepsS p x)) := by
  obtain ⟨han, hab, hae, hac, haL, har, rfl, ha1, ha2, ha3, ha4⟩ := ha
  refine fo_of hΘ Tryz.func14 rfl (by decide) _ _ rfl rfl rfl ?_
  conv => whnf
  refine loop_at hΘ (X := { q : Nat × List Stp × Nat // (q.1 ≤ x.length ∧ q.1 ≤ 8) ∧ q.2.1 = (((x.take 8).take q.1).map (stepOf p)).flatten }) (fun q => [(5, .va (oA 1 q.1.2.2 q.1.2.1)), (6, .va (.int .i64 q.1.1))]) [7, 8, 9, 10, 11, 12, 13, 14, 15, 16, 17, 18, 19, 20, 21, 22, 23, 24, 25, 26, 27, 28, 29, 30, 31, 32, 33, 34, 35, 36, 37, 38, 39, 40, 41, 42, 43, 44, 45, 46, 47, 48, 49, 50, 51, 52, 53, 54, 55, 56, 57, 58, 59, 60, 61, 62, 63, 64]
    (fun q => [(0, .frz F), (1, oE q.1.2.2 q.1.2.1)]) 2 (fun q => x.length - q.1.1) ⟨(0, [], 0), by simp⟩
    (fun hH hT => leI [(1, 1)] hH hT rfl ⟨trivial, oE_below _ _ _, trivial⟩ ⟨rfl, rfl, trivial⟩ ⟨Fz.le_refl F, rfl, trivial⟩) ?_
  rintro ⟨⟨k, out, co⟩, hk, hout⟩ hH hT
  replace hk : k ≤ x.length ∧ k ≤ 8 := hk
  replace hout : out = (((x.take 8).take k).map (stepOf p)).flatten := hout
  have fin : k = x.length ∨ k = 8 → out = stepsS p x := fun h => by
    rw [hout, stepsS, List.take_of_length_le (by rw [List.length_take]; omega)]
  have hol : out.length ≤ 100 := by
    rw [hout]
    have h1 := steps_len p ((x.take 8).take k)
    rw [List.length_take, List.length_take] at h1
    omega
  conv => whnf
  refine ⟨fun ga => ?_, fun ga => ?_⟩
  · have gk : k < x.length := by
        have h0 : (k : Int) < (x.length : Int) := of_decide_eq_true ga
        omega
    clear ga
    conv => whnf
    refine br (fun gb => ?_) (fun gb => ?_)
    · have g8 : k < 8 := by
          have h0 : (k : Int) < 8 := of_decide_eq_true gb
          omega
      clear gb
      have hxk := hx _ (List.getElem_mem gk)
      have h8 := tdiv8 hxk
      have hr := pick_range (n := 21) h8.2 (by decide)
      have hnext := steps_succ (p := p) gk g8
      rw [← hout] at hnext
      conv => whnf
      refine ⟨Sl.lt ha1 gk, ⟨by simp, by simpa using gk⟩, ?_⟩
      conv => whnf
      refine ⟨_, ha2 (Sl.lt ha1 gk), ?_⟩
      conv => whnf
      refine ⟨_, Sl.at ha4 gk, ?_⟩
      conv => whnf
      refine usePu (pick_pu x[k] 8 hxk (by decide) F) rfl (argsE_refl _) rfl ?_
      conv => whnf
      refine ⟨Sl.lt ha1 gk, ⟨by simp, by simpa using gk⟩, ?_⟩
      conv => whnf
      refine ⟨_, ha2 (Sl.lt ha1 gk), ?_⟩
      conv => whnf
      refine ⟨_, Sl.at ha4 gk, ?_⟩
      conv => whnf
      refine ⟨by decide, ?_⟩
      conv => whnf
      refine usePu (pick_pu (x[k].tdiv 8) 21 h8.2 (by decide) F) rfl ⟨congrArg (SA.int .i64) h8.1.symm, rfl, trivial⟩ rfl ?_
      conv => whnf
      refine br (fun gm => ?_) (fun gm => ?_)
      · have gm' : 0 < pickI x[k] 8 := of_decide_eq_true gm
        clear gm
        conv => whnf
        refine br (fun g1 => ?_) (fun g1 => ?_)
        · have g1' : p = 1 := of_decide_eq_true g1
          clear g1
          have hstep : stepOf p x[k] = [(1 + (pickI (x[k].tdiv 8) 21).tmod 2, 0)] := by rw [stepOf, if_pos gm', if_pos g1']
          have h0 : 0 ≤ (pickI (x[k].tdiv 8) 21).tmod 2 := Int.tmod_nonneg _ hr.1
          have h1 : (pickI (x[k].tdiv 8) 21).tmod 2 < 2 := Int.tmod_lt_of_pos _ (by decide)
          have hget : [[SA.int .i64 1], [SA.int .i64 2]][0 + ((pickI (x[k].tdiv 8) 21).tmod 2).toNat]? = some [SA.int .i64 (1 + (pickI (x[k].tdiv 8) 21).tmod 2)] := by
            have hc : (pickI (x[k].tdiv 8) 21).tmod 2 = 0 ∨ (pickI (x[k].tdiv 8) 21).tmod 2 = 1 := by omega
            rcases hc with h | h <;> rw [h] <;> rfl
          have hout' : out ++ [(1 + (pickI (x[k].tdiv 8) 21).tmod 2, 0)] = (((x.take 8).take (k + 1)).map (stepOf p)).flatten := by rw [hnext, hstep]
          clear hnext hstep
          rcases out with _ | ⟨yo, ro⟩
          · skip
            conv => whnf
            refine ⟨by decide, ?_⟩
            conv => whnf
            refine ⟨rfl, ⟨h0, h1⟩, ?_⟩
            conv => whnf
            refine ⟨_, hget, ?_⟩
            conv => whnf
            refine ⟨Nat.le_refl 1, [enc (1 + (pickI (x[k].tdiv 8) 21).tmod 2, 0)], rfl, ?_⟩
            conv => whnf
            refine ⟨rfl, rfl, ?_⟩
            conv => whnf
            refine ⟨by show 1 * 16 ≤ 140737488355328; omega, fun c' hc => ?_⟩
            conv => whnf
            exact ⟨⟨(k + 1, ([] : List Stp) ++ [(1 + (pickI (x[k].tdiv 8) 21).tmod 2, 0)], c'), by show k + 1 ≤ x.length ∧ k + 1 ≤ 8; omega, hout'⟩, by show x.length - (k + 1) < x.length - k; omega, leR [(1, 5)] hH hT rfl ⟨trivial, oE_below _ _ _, trivial⟩ ⟨(oA_new (μ := sig [(1, 5)]) (i := 1) (j := 5) rfl c' _ ([]) (1 + (pickI (x[k].tdiv 8) 21).tmod 2, 0) rfl), cnt (by omega), trivial⟩ ⟨Fz.le_refl F, sub_oE (oE_one [enc (1 + (pickI (x[k].tdiv 8) 21).tmod 2, 0)] rfl), trivial⟩⟩
          · skip
            conv => whnf
            refine ⟨by decide, ?_⟩
            conv => whnf
            refine ⟨rfl, ⟨h0, h1⟩, ?_⟩
            conv => whnf
            refine ⟨_, hget, ?_⟩
            conv => whnf
            replace hol : ro.length + 1 ≤ 100 := hol
            refine ⟨Nat.le_refl 1, [enc (1 + (pickI (x[k].tdiv 8) 21).tmod 2, 0)], rfl, ?_⟩
            conv => whnf
            refine ⟨rfl, rfl, by simp, rfl, by show (ro.length + 1 + 1) * 16 ≤ 140737488355328; omega, fun c' hc => ?_⟩
            conv => whnf
            exact ⟨⟨(k + 1, (yo :: ro : List Stp) ++ [(1 + (pickI (x[k].tdiv 8) 21).tmod 2, 0)], c'), by show k + 1 ≤ x.length ∧ k + 1 ≤ 8; omega, hout'⟩, by show x.length - (k + 1) < x.length - k; omega, leR [(1, 5)] hH hT rfl ⟨trivial, oE_below _ _ _, trivial⟩ ⟨(oA_new (μ := sig [(1, 5)]) (i := 1) (j := 5) rfl c' _ (yo :: ro) (1 + (pickI (x[k].tdiv 8) 21).tmod 2, 0) rfl), cnt (by omega), trivial⟩ ⟨Fz.le_refl F, sub_oE (oE_one _ (by simp)), trivial⟩⟩
        · have n1 : ¬ p = 1 := of_decide_eq_false g1
          clear g1
          conv => whnf
          refine br (fun g1 => ?_) (fun g1 => ?_)
          · have g2 : p = 2 := of_decide_eq_true g1
            clear g1
            have hstep : stepOf p x[k] = [(4, (pickI (x[k].tdiv 8) 21).tmod 7)] := by rw [stepOf, if_pos gm', if_neg n1, if_pos g2]
            have hout' : out ++ [(4, (pickI (x[k].tdiv 8) 21).tmod 7)] = (((x.take 8).take (k + 1)).map (stepOf p)).flatten := by rw [hnext, hstep]
            clear hnext hstep
            rcases out with _ | ⟨yo, ro⟩
            · skip
              conv => whnf
              refine ⟨by decide, ?_⟩
              conv => whnf
              refine ⟨Nat.le_refl 1, [enc (4, (pickI (x[k].tdiv 8) 21).tmod 7)], rfl, ?_⟩
              conv => whnf
              refine ⟨rfl, rfl, ?_⟩
              conv => whnf
              refine ⟨by show 1 * 16 ≤ 140737488355328; omega, fun c' hc => ?_⟩
              conv => whnf
              exact ⟨⟨(k + 1, ([] : List Stp) ++ [(4, (pickI (x[k].tdiv 8) 21).tmod 7)], c'), by show k + 1 ≤ x.length ∧ k + 1 ≤ 8; omega, hout'⟩, by show x.length - (k + 1) < x.length - k; omega, leR [(1, 4)] hH hT rfl ⟨trivial, oE_below _ _ _, trivial⟩ ⟨(oA_new (μ := sig [(1, 4)]) (i := 1) (j := 4) rfl c' _ ([]) (4, (pickI (x[k].tdiv 8) 21).tmod 7) rfl), cnt (by omega), trivial⟩ ⟨Fz.le_refl F, sub_oE (oE_one [enc (4, (pickI (x[k].tdiv 8) 21).tmod 7)] rfl), trivial⟩⟩
            · skip
              conv => whnf
              refine ⟨by decide, ?_⟩
              conv => whnf
              replace hol : ro.length + 1 ≤ 100 := hol
              refine ⟨Nat.le_refl 1, [enc (4, (pickI (x[k].tdiv 8) 21).tmod 7)], rfl, ?_⟩
              conv => whnf
              refine ⟨rfl, rfl, by simp, rfl, by show (ro.length + 1 + 1) * 16 ≤ 140737488355328; omega, fun c' hc => ?_⟩
              conv => whnf
              exact ⟨⟨(k + 1, (yo :: ro : List Stp) ++ [(4, (pickI (x[k].tdiv 8) 21).tmod 7)], c'), by show k + 1 ≤ x.length ∧ k + 1 ≤ 8; omega, hout'⟩, by show x.length - (k + 1) < x.length - k; omega, leR [(1, 4)] hH hT rfl ⟨trivial, oE_below _ _ _, trivial⟩ ⟨(oA_new (μ := sig [(1, 4)]) (i := 1) (j := 4) rfl c' _ (yo :: ro) (4, (pickI (x[k].tdiv 8) 21).tmod 7) rfl), cnt (by omega), trivial⟩ ⟨Fz.le_refl F, sub_oE (oE_one _ (by simp)), trivial⟩⟩
          · have n2 : ¬ p = 2 := of_decide_eq_false g1
            clear g1
            conv => whnf
            refine br (fun g1 => ?_) (fun g1 => ?_)
            · have g3 : p = 3 := of_decide_eq_true g1
              clear g1
              have hstep : stepOf p x[k] = [(3, if (pickI (x[k].tdiv 8) 21).tmod 3 = 0 then 10 else if (pickI (x[k].tdiv 8) 21).tmod 3 = 1 then 100 else 1000)] := by rw [stepOf, if_pos gm', if_neg n1, if_neg n2, if_pos (.inl g3)]
              have h0 : 0 ≤ (pickI (x[k].tdiv 8) 21).tmod 3 := Int.tmod_nonneg _ hr.1
              have h1 : (pickI (x[k].tdiv 8) 21).tmod 3 < 3 := Int.tmod_lt_of_pos _ (by decide)
              have hget : [[SA.int .i64 10], [SA.int .i64 100], [SA.int .i64 1000]][0 + ((pickI (x[k].tdiv 8) 21).tmod 3).toNat]? = some [SA.int .i64 (if (pickI (x[k].tdiv 8) 21).tmod 3 = 0 then 10 else if (pickI (x[k].tdiv 8) 21).tmod 3 = 1 then 100 else 1000)] := by
                have hc : (pickI (x[k].tdiv 8) 21).tmod 3 = 0 ∨ (pickI (x[k].tdiv 8) 21).tmod 3 = 1 ∨ (pickI (x[k].tdiv 8) 21).tmod 3 = 2 := by omega
                rcases hc with h | h | h <;> rw [h] <;> rfl
              have hout' : out ++ [(3, if (pickI (x[k].tdiv 8) 21).tmod 3 = 0 then 10 else if (pickI (x[k].tdiv 8) 21).tmod 3 = 1 then 100 else 1000)] = (((x.take 8).take (k + 1)).map (stepOf p)).flatten := by rw [hnext, hstep]
              clear hnext hstep
              rcases out with _ | ⟨yo, ro⟩
              · skip
                conv => whnf
                refine br (fun _ => ?_) (fun g => absurd g3 (of_decide_eq_false g))
                conv => whnf
                refine ⟨by decide, ?_⟩
                conv => whnf
                refine ⟨rfl, ⟨h0, h1⟩, ?_⟩
                conv => whnf
                refine ⟨_, hget, ?_⟩
                conv => whnf
                refine ⟨Nat.le_refl 1, [enc (3, if (pickI (x[k].tdiv 8) 21).tmod 3 = 0 then 10 else if (pickI (x[k].tdiv 8) 21).tmod 3 = 1 then 100 else 1000)], rfl, ?_⟩
                conv => whnf
                refine ⟨rfl, rfl, ?_⟩
                conv => whnf
                refine ⟨by show 1 * 16 ≤ 140737488355328; omega, fun c' hc => ?_⟩
                conv => whnf
                exact ⟨⟨(k + 1, ([] : List Stp) ++ [(3, if (pickI (x[k].tdiv 8) 21).tmod 3 = 0 then 10 else if (pickI (x[k].tdiv 8) 21).tmod 3 = 1 then 100 else 1000)], c'), by show k + 1 ≤ x.length ∧ k + 1 ≤ 8; omega, hout'⟩, by show x.length - (k + 1) < x.length - k; omega, leR [(1, 5)] hH hT rfl ⟨trivial, oE_below _ _ _, trivial⟩ ⟨(oA_new (μ := sig [(1, 5)]) (i := 1) (j := 5) rfl c' _ ([]) (3, if (pickI (x[k].tdiv 8) 21).tmod 3 = 0 then 10 else if (pickI (x[k].tdiv 8) 21).tmod 3 = 1 then 100 else 1000) rfl), cnt (by omega), trivial⟩ ⟨Fz.le_refl F, sub_oE (oE_one [enc (3, if (pickI (x[k].tdiv 8) 21).tmod 3 = 0 then 10 else if (pickI (x[k].tdiv 8) 21).tmod 3 = 1 then 100 else 1000)] rfl), trivial⟩⟩
              · skip
                conv => whnf
                refine br (fun _ => ?_) (fun g => absurd g3 (of_decide_eq_false g))
                conv => whnf
                refine ⟨by decide, ?_⟩
                conv => whnf
                refine ⟨rfl, ⟨h0, h1⟩, ?_⟩
                conv => whnf
                refine ⟨_, hget, ?_⟩
                conv => whnf
                replace hol : ro.length + 1 ≤ 100 := hol
                refine ⟨Nat.le_refl 1, [enc (3, if (pickI (x[k].tdiv 8) 21).tmod 3 = 0 then 10 else if (pickI (x[k].tdiv 8) 21).tmod 3 = 1 then 100 else 1000)], rfl, ?_⟩
                conv => whnf
                refine ⟨rfl, rfl, by simp, rfl, by show (ro.length + 1 + 1) * 16 ≤ 140737488355328; omega, fun c' hc => ?_⟩
                conv => whnf
                exact ⟨⟨(k + 1, (yo :: ro : List Stp) ++ [(3, if (pickI (x[k].tdiv 8) 21).tmod 3 = 0 then 10 else if (pickI (x[k].tdiv 8) 21).tmod 3 = 1 then 100 else 1000)], c'), by show k + 1 ≤ x.length ∧ k + 1 ≤ 8; omega, hout'⟩, by show x.length - (k + 1) < x.length - k; omega, leR [(1, 5)] hH hT rfl ⟨trivial, oE_below _ _ _, trivial⟩ ⟨(oA_new (μ := sig [(1, 5)]) (i := 1) (j := 5) rfl c' _ (yo :: ro) (3, if (pickI (x[k].tdiv 8) 21).tmod 3 = 0 then 10 else if (pickI (x[k].tdiv 8) 21).tmod 3 = 1 then 100 else 1000) rfl), cnt (by omega), trivial⟩ ⟨Fz.le_refl F, sub_oE (oE_one _ (by simp)), trivial⟩⟩
            · have n3 : ¬ p = 3 := of_decide_eq_false g1
              clear g1
              conv => whnf
              refine br (fun g1 => ?_) (fun g1 => ?_)
              · have g3 : p = 5 := of_decide_eq_true g1
                clear g1
                have hstep : stepOf p x[k] = [(3, if (pickI (x[k].tdiv 8) 21).tmod 3 = 0 then 10 else if (pickI (x[k].tdiv 8) 21).tmod 3 = 1 then 100 else 1000)] := by rw [stepOf, if_pos gm', if_neg n1, if_neg n2, if_pos (.inr g3)]
                have h0 : 0 ≤ (pickI (x[k].tdiv 8) 21).tmod 3 := Int.tmod_nonneg _ hr.1
                have h1 : (pickI (x[k].tdiv 8) 21).tmod 3 < 3 := Int.tmod_lt_of_pos _ (by decide)
                have hget : [[SA.int .i64 10], [SA.int .i64 100], [SA.int .i64 1000]][0 + ((pickI (x[k].tdiv 8) 21).tmod 3).toNat]? = some [SA.int .i64 (if (pickI (x[k].tdiv 8) 21).tmod 3 = 0 then 10 else if (pickI (x[k].tdiv 8) 21).tmod 3 = 1 then 100 else 1000)] := by
                  have hc : (pickI (x[k].tdiv 8) 21).tmod 3 = 0 ∨ (pickI (x[k].tdiv 8) 21).tmod 3 = 1 ∨ (pickI (x[k].tdiv 8) 21).tmod 3 = 2 := by omega
                  rcases hc with h | h | h <;> rw [h] <;> rfl
                have hout' : out ++ [(3, if (pickI (x[k].tdiv 8) 21).tmod 3 = 0 then 10 else if (pickI (x[k].tdiv 8) 21).tmod 3 = 1 then 100 else 1000)] = (((x.take 8).take (k + 1)).map (stepOf p)).flatten := by rw [hnext, hstep]
                clear hnext hstep
                rcases out with _ | ⟨yo, ro⟩
                · skip
                  conv => whnf
                  refine ⟨by decide, ?_⟩
                  conv => whnf
                  refine ⟨rfl, ⟨h0, h1⟩, ?_⟩
                  conv => whnf
                  refine ⟨_, hget, ?_⟩
                  conv => whnf
                  refine ⟨Nat.le_refl 1, [enc (3, if (pickI (x[k].tdiv 8) 21).tmod 3 = 0 then 10 else if (pickI (x[k].tdiv 8) 21).tmod 3 = 1 then 100 else 1000)], rfl, ?_⟩
                  conv => whnf
                  refine ⟨rfl, rfl, ?_⟩
                  conv => whnf
                  refine ⟨by show 1 * 16 ≤ 140737488355328; omega, fun c' hc => ?_⟩
                  conv => whnf
                  exact ⟨⟨(k + 1, ([] : List Stp) ++ [(3, if (pickI (x[k].tdiv 8) 21).tmod 3 = 0 then 10 else if (pickI (x[k].tdiv 8) 21).tmod 3 = 1 then 100 else 1000)], c'), by show k + 1 ≤ x.length ∧ k + 1 ≤ 8; omega, hout'⟩, by show x.length - (k + 1) < x.length - k; omega, leR [(1, 5)] hH hT rfl ⟨trivial, oE_below _ _ _, trivial⟩ ⟨(oA_new (μ := sig [(1, 5)]) (i := 1) (j := 5) rfl c' _ ([]) (3, if (pickI (x[k].tdiv 8) 21).tmod 3 = 0 then 10 else if (pickI (x[k].tdiv 8) 21).tmod 3 = 1 then 100 else 1000) rfl), cnt (by omega), trivial⟩ ⟨Fz.le_refl F, sub_oE (oE_one [enc (3, if (pickI (x[k].tdiv 8) 21).tmod 3 = 0 then 10 else if (pickI (x[k].tdiv 8) 21).tmod 3 = 1 then 100 else 1000)] rfl), trivial⟩⟩
                · skip
                  conv => whnf
                  refine ⟨by decide, ?_⟩
                  conv => whnf
                  refine ⟨rfl, ⟨h0, h1⟩, ?_⟩
                  conv => whnf
                  refine ⟨_, hget, ?_⟩
                  conv => whnf
                  replace hol : ro.length + 1 ≤ 100 := hol
                  refine ⟨Nat.le_refl 1, [enc (3, if (pickI (x[k].tdiv 8) 21).tmod 3 = 0 then 10 else if (pickI (x[k].tdiv 8) 21).tmod 3 = 1 then 100 else 1000)], rfl, ?_⟩
                  conv => whnf
                  refine ⟨rfl, rfl, by simp, rfl, by show (ro.length + 1 + 1) * 16 ≤ 140737488355328; omega, fun c' hc => ?_⟩
                  conv => whnf
                  exact ⟨⟨(k + 1, (yo :: ro : List Stp) ++ [(3, if (pickI (x[k].tdiv 8) 21).tmod 3 = 0 then 10 else if (pickI (x[k].tdiv 8) 21).tmod 3 = 1 then 100 else 1000)], c'), by show k + 1 ≤ x.length ∧ k + 1 ≤ 8; omega, hout'⟩, by show x.length - (k + 1) < x.length - k; omega, leR [(1, 5)] hH hT rfl ⟨trivial, oE_below _ _ _, trivial⟩ ⟨(oA_new (μ := sig [(1, 5)]) (i := 1) (j := 5) rfl c' _ (yo :: ro) (3, if (pickI (x[k].tdiv 8) 21).tmod 3 = 0 then 10 else if (pickI (x[k].tdiv 8) 21).tmod 3 = 1 then 100 else 1000) rfl), cnt (by omega), trivial⟩ ⟨Fz.le_refl F, sub_oE (oE_one _ (by simp)), trivial⟩⟩
              · have n5 : ¬ p = 5 := of_decide_eq_false g1
                clear g1
                conv => whnf
                refine br (fun g1 => ?_) (fun g1 => ?_)
                · have g6 : p = 6 := of_decide_eq_true g1
                  clear g1
                  have hstep : stepOf p x[k] = [(5, 0)] := by rw [stepOf, if_pos gm', if_neg n1, if_neg n2, if_neg (by omega), if_pos (.inl g6)]
                  have hout' : out ++ [(5, 0)] = (((x.take 8).take (k + 1)).map (stepOf p)).flatten := by rw [hnext, hstep]
                  clear hnext hstep
                  rcases out with _ | ⟨yo, ro⟩
                  · skip
                    conv => whnf
                    refine br (fun _ => ?_) (fun g => absurd g6 (of_decide_eq_false g))
                    conv => whnf
                    refine ⟨Nat.le_refl 1, [enc (5, 0)], rfl, ?_⟩
                    conv => whnf
                    refine ⟨rfl, rfl, ?_⟩
                    conv => whnf
                    refine ⟨by show 1 * 16 ≤ 140737488355328; omega, fun c' hc => ?_⟩
                    conv => whnf
                    exact ⟨⟨(k + 1, ([] : List Stp) ++ [(5, 0)], c'), by show k + 1 ≤ x.length ∧ k + 1 ≤ 8; omega, hout'⟩, by show x.length - (k + 1) < x.length - k; omega, leR [(1, 4)] hH hT rfl ⟨trivial, oE_below _ _ _, trivial⟩ ⟨(oA_new (μ := sig [(1, 4)]) (i := 1) (j := 4) rfl c' _ ([]) (5, 0) rfl), cnt (by omega), trivial⟩ ⟨Fz.le_refl F, sub_oE (oE_one [enc (5, 0)] rfl), trivial⟩⟩
                  · skip
                    conv => whnf
                    refine br (fun _ => ?_) (fun g => absurd g6 (of_decide_eq_false g))
                    conv => whnf
                    replace hol : ro.length + 1 ≤ 100 := hol
                    refine ⟨Nat.le_refl 1, [enc (5, 0)], rfl, ?_⟩
                    conv => whnf
                    refine ⟨rfl, rfl, by simp, rfl, by show (ro.length + 1 + 1) * 16 ≤ 140737488355328; omega, fun c' hc => ?_⟩
                    conv => whnf
                    exact ⟨⟨(k + 1, (yo :: ro : List Stp) ++ [(5, 0)], c'), by show k + 1 ≤ x.length ∧ k + 1 ≤ 8; omega, hout'⟩, by show x.length - (k + 1) < x.length - k; omega, leR [(1, 4)] hH hT rfl ⟨trivial, oE_below _ _ _, trivial⟩ ⟨(oA_new (μ := sig [(1, 4)]) (i := 1) (j := 4) rfl c' _ (yo :: ro) (5, 0) rfl), cnt (by omega), trivial⟩ ⟨Fz.le_refl F, sub_oE (oE_one _ (by simp)), trivial⟩⟩
                · have n6 : ¬ p = 6 := of_decide_eq_false g1
                  clear g1
                  conv => whnf
                  refine br (fun g1 => ?_) (fun g1 => ?_)
                  · have g6 : p = 7 := of_decide_eq_true g1
                    clear g1
                    have hstep : stepOf p x[k] = [(5, 0)] := by rw [stepOf, if_pos gm', if_neg n1, if_neg n2, if_neg (by omega), if_pos (.inr g6)]
                    have hout' : out ++ [(5, 0)] = (((x.take 8).take (k + 1)).map (stepOf p)).flatten := by rw [hnext, hstep]
                    clear hnext hstep
                    rcases out with _ | ⟨yo, ro⟩
                    · skip
                      conv => whnf
                      refine ⟨Nat.le_refl 1, [enc (5, 0)], rfl, ?_⟩
                      conv => whnf
                      refine ⟨rfl, rfl, ?_⟩
                      conv => whnf
                      refine ⟨by show 1 * 16 ≤ 140737488355328; omega, fun c' hc => ?_⟩
                      conv => whnf
                      exact ⟨⟨(k + 1, ([] : List Stp) ++ [(5, 0)], c'), by show k + 1 ≤ x.length ∧ k + 1 ≤ 8; omega, hout'⟩, by show x.length - (k + 1) < x.length - k; omega, leR [(1, 4)] hH hT rfl ⟨trivial, oE_below _ _ _, trivial⟩ ⟨(oA_new (μ := sig [(1, 4)]) (i := 1) (j := 4) rfl c' _ ([]) (5, 0) rfl), cnt (by omega), trivial⟩ ⟨Fz.le_refl F, sub_oE (oE_one [enc (5, 0)] rfl), trivial⟩⟩
                    · skip
                      conv => whnf
                      replace hol : ro.length + 1 ≤ 100 := hol
                      refine ⟨Nat.le_refl 1, [enc (5, 0)], rfl, ?_⟩
                      conv => whnf
                      refine ⟨rfl, rfl, by simp, rfl, by show (ro.length + 1 + 1) * 16 ≤ 140737488355328; omega, fun c' hc => ?_⟩
                      conv => whnf
                      exact ⟨⟨(k + 1, (yo :: ro : List Stp) ++ [(5, 0)], c'), by show k + 1 ≤ x.length ∧ k + 1 ≤ 8; omega, hout'⟩, by show x.length - (k + 1) < x.length - k; omega, leR [(1, 4)] hH hT rfl ⟨trivial, oE_below _ _ _, trivial⟩ ⟨(oA_new (μ := sig [(1, 4)]) (i := 1) (j := 4) rfl c' _ (yo :: ro) (5, 0) rfl), cnt (by omega), trivial⟩ ⟨Fz.le_refl F, sub_oE (oE_one _ (by simp)), trivial⟩⟩
                  · have n7 : ¬ p = 7 := of_decide_eq_false g1
                    clear g1
                    have hstep : stepOf p x[k] = [] := by rw [stepOf, if_pos gm', if_neg n1, if_neg n2, if_neg (by omega), if_neg (by omega)]
                    have hout' : out = (((x.take 8).take (k + 1)).map (stepOf p)).flatten := by rw [hnext, hstep, List.append_nil]
                    clear hnext hstep
                    rcases out with _ | ⟨yo, ro⟩
                    · skip
                      conv => whnf
                      exact ⟨⟨(k + 1, ([] : List Stp), co), by show k + 1 ≤ x.length ∧ k + 1 ≤ 8; omega, hout'⟩, by show x.length - (k + 1) < x.length - k; omega, leR [(1, 1)] hH hT rfl ⟨trivial, oE_below _ _ _, trivial⟩ ⟨rfl, cnt (by omega), trivial⟩ ⟨Fz.le_refl F, sub_oE (oE_self _ _), trivial⟩⟩
                    · skip
                      conv => whnf
                      exact ⟨⟨(k + 1, (yo :: ro : List Stp), co), by show k + 1 ≤ x.length ∧ k + 1 ≤ 8; omega, hout'⟩, by show x.length - (k + 1) < x.length - k; omega, leR [(1, 1)] hH hT rfl ⟨trivial, oE_below _ _ _, trivial⟩ ⟨⟨rfl, rfl, rfl, .inr ⟨rfl, rfl, rfl, rfl⟩⟩, cnt (by omega), trivial⟩ ⟨Fz.le_refl F, sub_oE (oE_self _ _), trivial⟩⟩
      · have gm' : ¬ 0 < pickI x[k] 8 := of_decide_eq_false gm
        clear gm
        have hstep : stepOf p x[k] = [(6, 0)] := by rw [stepOf, if_neg gm']
        have hout' : out ++ [(6, 0)] = (((x.take 8).take (k + 1)).map (stepOf p)).flatten := by rw [hnext, hstep]
        clear hnext hstep
        rcases out with _ | ⟨yo, ro⟩
        · skip
          conv => whnf
          refine ⟨Nat.le_refl 1, [enc (6, 0)], rfl, ?_⟩
          conv => whnf
          refine ⟨rfl, rfl, ?_⟩
          conv => whnf
          refine ⟨by show 1 * 16 ≤ 140737488355328; omega, fun c' hc => ?_⟩
          conv => whnf
          exact ⟨⟨(k + 1, ([] : List Stp) ++ [(6, 0)], c'), by show k + 1 ≤ x.length ∧ k + 1 ≤ 8; omega, hout'⟩, by show x.length - (k + 1) < x.length - k; omega, leR [(1, 4)] hH hT rfl ⟨trivial, oE_below _ _ _, trivial⟩ ⟨(oA_new (μ := sig [(1, 4)]) (i := 1) (j := 4) rfl c' _ ([]) (6, 0) rfl), cnt (by omega), trivial⟩ ⟨Fz.le_refl F, sub_oE (oE_one [enc (6, 0)] rfl), trivial⟩⟩
        · skip
          conv => whnf
          replace hol : ro.length + 1 ≤ 100 := hol
          refine ⟨Nat.le_refl 1, [enc (6, 0)], rfl, ?_⟩
          conv => whnf
          refine ⟨rfl, rfl, by simp, rfl, by show (ro.length + 1 + 1) * 16 ≤ 140737488355328; omega, fun c' hc => ?_⟩
          conv => whnf
          exact ⟨⟨(k + 1, (yo :: ro : List Stp) ++ [(6, 0)], c'), by show k + 1 ≤ x.length ∧ k + 1 ≤ 8; omega, hout'⟩, by show x.length - (k + 1) < x.length - k; omega, leR [(1, 4)] hH hT rfl ⟨trivial, oE_below _ _ _, trivial⟩ ⟨(oA_new (μ := sig [(1, 4)]) (i := 1) (j := 4) rfl c' _ (yo :: ro) (6, 0) rfl), cnt (by omega), trivial⟩ ⟨Fz.le_refl F, sub_oE (oE_one _ (by simp)), trivial⟩⟩
    · have g8 : k = 8 := by
          have h0 : ¬ (k : Int) < 8 := of_decide_eq_false gb
          omega
      have hf := fin (.inr g8)
      rcases out with _ | ⟨yo, ro⟩
      · skip
        conv => whnf
        exact endFo (.ret (.va (.slice true 0 0 0 2 0 0))) F rfl (Fz.le_refl F) (Fz.le_refl F) ⟨_, rfl, by rw [← hf]; exact Sl.nil⟩ ⟨rfl, rfl, rfl⟩ rfl
      · skip
        conv => whnf
        refine freezeE 1 (fun _ => .arr 50 2 ((yo :: ro).map enc) co) rfl rfl rfl (fun _ _ => encB_ren _ (yo :: ro) co) (fun _ _ => encB_below _ _ _) ?_
        intro b F' hle hb
        exact endFo (.ret (.va (.slice false 0 (b 0) 0 2 (ro.length + 1) co))) F' rfl hle (Fz.le_refl F') ⟨_, rfl, by rw [← hf]; exact Sl.new (l := yo :: ro) (hb 0 ⟨rfl, rfl⟩)⟩ ⟨rfl, rfl, rfl, .inr ⟨rfl, rfl, rfl, rfl⟩⟩ rfl
  · have gk : k = x.length := by
        have h0 : ¬ (k : Int) < (x.length : Int) := by simpa using ga
        omega
    clear ga
    have hf := fin (.inl gk)
    rcases out with _ | ⟨yo, ro⟩
    · skip
      conv => whnf
      exact endFo (.ret (.va (.slice true 0 0 0 2 0 0))) F rfl (Fz.le_refl F) (Fz.le_refl F) ⟨_, rfl, by rw [← hf]; exact Sl.nil⟩ ⟨rfl, rfl, rfl⟩ rfl
    · skip
      conv => whnf
      refine freezeE 1 (fun _ => .arr 50 2 ((yo :: ro).map enc) co) rfl rfl rfl (fun _ _ => encB_ren _ (yo :: ro) co) (fun _ _ => encB_below _ _ _) ?_
      intro b F' hle hb
      exact endFo (.ret (.va (.slice false 0 (b 0) 0 2 (ro.length + 1) co))) F' rfl hle (Fz.le_refl F') ⟨_, rfl, by rw [← hf]; exact Sl.new (l := yo :: ro) (hb 0 ⟨rfl, rfl⟩)⟩ ⟨rfl, rfl, rfl, .inr ⟨rfl, rfl, rfl, rfl⟩⟩ rfl
end Go.Proofs.YtblllibdahkgfaaGreatDoor

namespace Go.Proofs.YtblllibdahkgfaaGreatDoor
open Go Sx
set_option maxRecDepth 100000
end Go.Proofs.YtblllibdahkgfaaGreatDoor

namespace Go.Proofs.YtblllibdahkgfaaGreatDoor
open Go Sx
set_option maxRecDepth 100000
end Go.Proofs.YtblllibdahkgfaaGreatDoor

namespace Go.Proofs.YtblllibdahkgfaaGreatDoor
open Go Sx
set_option maxRecDepth 100000
end Go.Proofs.YtblllibdahkgfaaGreatDoor

namespace Go.Proofs.YtblllibdahkgfaaGreatDoor
open Go Sx
set_option maxRecDepth 100000
def vals : List UInt8 → Nat
  | [] => 0
  | b :: r => b.toNat % 128 + 128 * vals r
end Go.Proofs.YtblllibdahkgfaaGreatDoor

namespace Go.Proofs.YtblllibdahkgfaaGreatDoor
open Go Sx
set_option maxRecDepth 100000
end Go.Proofs.YtblllibdahkgfaaGreatDoor

namespace Go.Proofs.YtblllibdahkgfaaGreatDoor
open Go Sx
set_option maxRecDepth 100000
end Go.Proofs.YtblllibdahkgfaaGreatDoor

namespace Go.Proofs.YtblllibdahkgfaaGreatDoor
open Go Sx
set_option maxRecDepth 100000
/-- How many numbers a line of a property has. -/
def colN (p : Int) : Nat := if p = 2 then 1 else if p = 3 ∨ p = 5 then 3 else if p = 4 then 4 else 0
end Go.Proofs.YtblllibdahkgfaaGreatDoor

namespace Go.Proofs.YtblllibdahkgfaaGreatDoor
open Go Sx
set_option maxRecDepth 100000
abbrev RLn := List UInt8 × Int × Int × Int × Int
def inR (n lo hi : Int) : Bool := decide (lo ≤ n) && decide (n ≤ hi)
end Go.Proofs.YtblllibdahkgfaaGreatDoor

namespace Go.Proofs.YtblllibdahkgfaaGreatDoor
open Go Sx
set_option maxRecDepth 100000
end Go.Proofs.YtblllibdahkgfaaGreatDoor

namespace Go.Proofs.YtblllibdahkgfaaGreatDoor
open Go Sx
set_option maxRecDepth 100000
end Go.Proofs.YtblllibdahkgfaaGreatDoor

namespace Go.Proofs.YtblllibdahkgfaaGreatDoor
open Go Sx
set_option maxRecDepth 100000
end Go.Proofs.YtblllibdahkgfaaGreatDoor

/- Loops of a few rounds, one round at a time. No program is named here. -/
namespace Sx
open Go Go.RowKit
section
variable {P : Program} {Θ : Tys} {st : St} {Q : SE → St → Prop} {body : Code}
end
end Sx

namespace Go.Proofs.YtblllibdahkgfaaGreatDoor
open Go Sx
set_option maxRecDepth 100000
structure RVal where
  lost : Bool
  lines : List RLn
  w : Int
  h : Int
  bits : List UInt8
def numsOf (x : RLn) : List Int := [x.2.1, x.2.2.1, x.2.2.2.1, x.2.2.2.2]
end Go.Proofs.YtblllibdahkgfaaGreatDoor

namespace Go.Proofs.YtblllibdahkgfaaGreatDoor
open Go Sx
set_option maxRecDepth 100000
end Go.Proofs.YtblllibdahkgfaaGreatDoor

namespace Go.Proofs.YtblllibdahkgfaaGreatDoor
open Go Sx
set_option maxRecDepth 100000
end Go.Proofs.YtblllibdahkgfaaGreatDoor

namespace Go.Proofs.YtblllibdahkgfaaGreatDoor
open Go Sx
theorem unz_zig (n : Int) : unz (zig n) = n := by
  unfold zig unz
  split <;> split <;> omega
theorem putZ_nn (z : Nat) : putZ z ≠ [] := by
  by_cases h : z < 128
  · rw [putZ_lt h]; simp
  · rw [putZ_ge h]; simp
theorem decZ_putZ (z : Nat) : ∀ (r : List UInt8) (f i acc : Nat), (putZ z).length ≤ f → ∃ b, decZ (putZ z ++ r) f i acc = some (acc + z * 128 ^ i, i + ((putZ z).length - 1), b) ∧ (b = 0 → z = 0) := by
  induction z using Nat.strongRecOn with
  | _ z ih =>
    intro r f i acc hf
    by_cases hz : z < 128
    · rw [putZ_lt hz] at hf ⊢
      obtain ⟨f, rfl⟩ : ∃ g, f = g + 1 := ⟨f - 1, by simp at hf; omega⟩
      have e : (UInt8.ofNat z).toNat = z := by rw [UInt8.toNat_ofNat']; exact Nat.mod_eq_of_lt (by omega)
      refine ⟨UInt8.ofNat z, ?_, fun h => ?_⟩
      · rw [List.cons_append, List.nil_append, decZ, if_neg (by rw [e]; omega), e]; rfl
      · rw [h] at e; exact e.symm
    · have h1 := ih (z / 128) (by omega)
      rw [putZ_ge hz] at hf ⊢
      obtain ⟨f, rfl⟩ : ∃ g, f = g + 1 := ⟨f - 1, by simp at hf; omega⟩
      have e : (UInt8.ofNat (z % 128 + 128)).toNat = z % 128 + 128 := by rw [UInt8.toNat_ofNat']; exact Nat.mod_eq_of_lt (by omega)
      obtain ⟨b, h2, h3⟩ := h1 r f (i + 1) (acc + (z % 128 + 128) % 128 * 128 ^ i) (by simp at hf; omega)
      have hne : 0 < (putZ (z / 128)).length := List.length_pos_iff.2 (putZ_nn _)
      refine ⟨b, ?_, fun hb => ?_⟩
      · rw [List.cons_append, decZ, if_pos (by rw [e]; omega), e, h2, Nat.pow_succ]
        have e2 : acc + (z % 128 + 128) % 128 * 128 ^ i + z / 128 * (128 ^ i * 128) = acc + z * 128 ^ i := by
          have h4 : z * 128 ^ i = (z % 128 + 128 * (z / 128)) * 128 ^ i := by rw [Nat.mod_add_div]
          have h5 : (z % 128 + 128) % 128 = z % 128 := by omega
          rw [h4, h5, Nat.add_mul, Nat.mul_comm (128 ^ i) 128, ← Nat.mul_assoc, Nat.mul_comm (z / 128) 128]
          omega
        rw [e2, List.length_cons]
        have e3 : i + 1 + ((putZ (z / 128)).length - 1) = i + ((putZ (z / 128)).length + 1 - 1) := by omega
        rw [e3]
      · have := h3 hb; omega
/-- The numbers on the wire. -/
def okI (n : Int) : Prop := -4611686018427387903 ≤ n ∧ n ≤ 4611686018427387903
theorem putIR_ok {n : Int} (h : okI n) : (putIR n).1 = putI n := by
  unfold okI at h
  rw [putIR, if_neg (by omega)]
theorem putI_ne (n : Int) : putI n ≠ [] := putZ_nn _
theorem getI_put (pre r : List UInt8) {n : Int} (h : okI n) : getI (pre ++ (putI n ++ r)) (pre.length : Nat) = (n, (((pre ++ putI n).length : Nat) : Int), 0) := by
  have hl := putI_len n h
  have hne : 0 < (putI n).length := List.length_pos_iff.2 (putI_ne n)
  obtain ⟨b, h1, h2⟩ := decZ_putZ (zig n) r 9 0 0 hl
  rw [getI, if_neg (by rw [List.length_append]; omega), Int.toNat_natCast, List.drop_left]
  show (match decZ (putZ (zig n) ++ r) 9 0 0 with | none => _ | some (z, i, b) => _) = _
  rw [h1]
  have e1 : 0 + zig n * 128 ^ 0 = zig n := by simp
  simp only [e1, unz_zig]
  have hn : okI n := h
  unfold okI at h
  rw [if_neg]
  · have e2 : ((0 + ((putZ (zig n)).length - 1) : Nat) : Int) + 1 = (putI n).length := by
      show ((0 + ((putI n).length - 1) : Nat) : Int) + 1 = _
      omega
    rw [List.length_append]
    have : (pre.length : Int) + ((0 + ((putZ (zig n)).length - 1) : Nat) : Int) + 1 = ((pre.length + (putI n).length : Nat) : Int) := by omega
    rw [this]
  · rintro (⟨h3, h4⟩ | h3)
    · have hz := h2 h3
      rw [hz, putZ_lt (by omega)] at h4
      simp at h4
    · omega
theorem getS_put (pre r t : List UInt8) (h : t.length ≤ 65536) : getS (pre ++ ((putSR t).1 ++ r)) (pre.length : Nat) = (t, (((pre ++ (putSR t).1).length : Nat) : Int), 0) := by
  have e : (putSR t).1 = putI t.length ++ t := by rw [putSR, if_neg (by omega)]
  have hok : okI (t.length : Int) := by unfold okI; omega
  rw [e]
  have hg := getI_put pre (t ++ r) hok
  rw [List.append_assoc, getS, hg]
  dsimp only
  rw [if_neg (by simp), if_neg]
  · have e1 : ((((pre ++ putI t.length).length : Nat) : Int) + (t.length : Int)).toNat = (pre ++ putI t.length ++ t).length := by
      rw [List.length_append (bs := t)]; omega
    have e2 : pre ++ (putI t.length ++ (t ++ r)) = (pre ++ putI t.length ++ t) ++ r := by simp only [List.append_assoc]
    rw [e1, e2, List.take_left, Int.toNat_natCast, List.drop_left]
    refine Prod.ext rfl (Prod.ext ?_ rfl)
    show (((pre ++ putI t.length).length : Nat) : Int) + (t.length : Int) = _
    show _ = (((pre ++ (putI t.length ++ t)).length : Nat) : Int)
    simp only [List.length_append]; omega
  · rintro (h1 | h1 | h1)
    · omega
    · omega
    · simp only [List.length_append] at h1; omega
theorem numOk_put (pre r : List UInt8) {n lo hi : Int} (h : okI n) (h2 : lo ≤ n ∧ n ≤ hi) : numOkR (pre ++ (putI n ++ r)) (pre.length : Nat) lo hi = true := by
  rw [numOkR_iff, getI_put pre r h]
  exact ⟨rfl, h2⟩
theorem getD_ok {acc : List Int} (ha : ∀ x ∈ acc, okI x) (k : Nat) : okI (acc.getD k 0) := by
  rw [List.getD_eq_getElem?_getD]
  cases h : acc[k]? with
  | none => show okI 0; unfold okI; omega
  | some x => exact ha x (List.mem_of_getElem? h)
theorem bnd_ok {p : Int} {acc : List Int} (ha : ∀ x ∈ acc, okI x) {x : Int} (h : (bnd p acc).1 ≤ x ∧ x ≤ (bnd p acc).2) : okI x := by
  unfold bnd at h
  have h2 := getD_ok ha (acc.length - 2)
  unfold okI at h2 ⊢
  split at h
  · dsimp only at h; omega
  split at h
  · dsimp only at h; omega
  split at h
  · dsimp only at h; omega
  split at h
  · dsimp only at h; omega
  · dsimp only at h; omega
theorem numbersS_cons (x : Int) (r : List Int) : numbersS (x :: r) = (putIR x).1 ++ numbersS r := rfl
theorem numsS_put {p : Int} (r : List UInt8) : ∀ (n acc : List Int) (pre : List UInt8), (∀ x ∈ acc, okI x) → numsOk p acc n → numsS (pre ++ (numbersS n ++ r)) p n.length acc (pre.length : Nat) = some (acc ++ n, (((pre ++ numbersS n).length : Nat) : Int))
  | [], acc, pre, _, _ => by
    show some (acc, _) = _
    simp [numbersS]
  | x :: n, acc, pre, ha, h => by
    have hx := bnd_ok ha h.1
    have ih := numsS_put r n (acc ++ [x]) (pre ++ putI x) (fun z hz => by rcases List.mem_append.1 hz with h | h; exact ha z h; rw [List.mem_singleton.1 h]; exact hx) h.2
    rw [numbersS_cons, putIR_ok hx, List.append_assoc, List.length_cons, numsS, if_pos (numOk_put pre _ hx h.1), getI_put pre _ hx]
    dsimp only
    rw [List.append_assoc] at ih
    rw [ih]
    simp only [List.append_assoc, List.singleton_append]
theorem lineS_put {p : Int} {before : List Ln} {x : Ln} (pre r : List UInt8) (h : lnOk p before x) : lineS (pre ++ (lineW p x ++ r)) p before (pre.length : Nat) = some (x, (((pre ++ lineW p x).length : Nat) : Int)) := by
  unfold lnOk at h
  unfold lineS
  split at h
  · rename_i hp
    obtain ⟨t, n⟩ := x
    obtain ⟨h1, h2, h3⟩ := h
    replace h1 : n = [] := h1
    subst h1
    have e : lineW p (t, []) = (putSR t).1 := by rw [lineW, if_pos hp]; exact List.append_nil _
    replace h2 : t.length ≤ 80 := h2
    rw [if_pos hp, e, getS_put pre r t (by omega)]
    exact if_pos ⟨rfl, h2, h3⟩
  · rename_i hp
    obtain ⟨t, n⟩ := x
    obtain ⟨h1, h2, h3, h4⟩ := h
    replace h1 : t = [] := h1
    subst h1
    replace h2 : n.length = cols p := h2
    have e : lineW p ([], n) = numbersS n := by rw [lineW, if_neg hp]; rfl
    rw [if_neg hp, e, ← h2, numsS_put r n [] pre (fun _ h => absurd h (by simp)) h3]
    dsimp only
    rw [List.nil_append]
    by_cases hp2 : p = 2
    · rw [if_pos hp2]
    · rw [if_neg hp2]
      cases hl : before.getLast? with
      | none => rfl
      | some y => exact if_pos (h4 hp2 y hl)
theorem linesS_put {p : Int} (r : List UInt8) : ∀ (l acc : List Ln) (pre : List UInt8), lnsOk p acc l → linesS (pre ++ ((l.map (lineW p)).flatten ++ r)) p l.length acc (pre.length : Nat) = some (acc ++ l, (((pre ++ (l.map (lineW p)).flatten).length : Nat) : Int))
  | [], acc, pre, _ => by
    show some (acc, _) = _
    simp
  | x :: l, acc, pre, h => by
    have ih := linesS_put r l (acc ++ [x]) (pre ++ lineW p x) h.2
    rw [List.map_cons, List.flatten_cons, List.append_assoc, List.length_cons, linesS, lineS_put pre _ h.1]
    dsimp only
    rw [List.append_assoc] at ih
    rw [ih]
    simp only [List.append_assoc, List.singleton_append]
theorem numbersS1 {n : Int} (h : okI n) : numbersS [n] = putI n := by
  rw [numbersS_cons, putIR_ok h]; exact List.append_nil _
theorem numbersS2 {n m : Int} (h : okI n) (h2 : okI m) : numbersS [n, m] = putI n ++ putI m := by
  rw [numbersS_cons, putIR_ok h, numbersS1 h2]
/-- A value is read from what is written of it. -/
theorem read_write {p : Int} {v : Val} (hp : 1 ≤ p ∧ p ≤ 8) (hv : VOK p v) : readS p (writeS p v) = some v := by
  rcases hv with rfl | ⟨hl, hv⟩
  · have e : writeS p loseV = [] := if_pos rfl
    rw [e, readS, if_neg (by omega), if_pos rfl]; rfl
  obtain ⟨lost, L, w, h, bits⟩ := v
  replace hl : lost = false := hl
  subst hl
  dsimp only at hv
  by_cases h8 : p = 8
  · rw [if_pos h8] at hv
    obtain ⟨rfl, rfl, hw, hh⟩ := hv
    have ow : okI w := by unfold okI; omega
    have oh : okI h := by unfold okI; omega
    have e : writeS p ⟨false, [], w, h, []⟩ = putI w ++ putI h := by
      rw [writeS, if_neg (by simp), if_pos (by omega), if_neg (by omega), List.append_nil, numbersS2 ow oh]
    have g1 := getI_put [] (putI h) ow
    have g2 := getI_put (putI w) [] oh
    rw [List.nil_append, List.nil_append] at g1
    rw [List.append_nil] at g2
    replace g1 : getI (putI w ++ putI h) 0 = (w, ((putI w).length : Int), 0) := g1
    rw [e, readS, if_neg (by omega), if_neg (by simp [putI_ne]), if_pos h8, g1]
    dsimp only
    rw [g2, if_pos]
    exact ⟨numOkR_iff.2 (by rw [g1]; exact ⟨rfl, hw⟩), numOkR_iff.2 (by rw [g2]; exact ⟨rfl, hh⟩), rfl⟩
  rw [if_neg h8] at hv
  by_cases h6 : 6 ≤ p
  · rw [if_pos h6] at hv
    obtain ⟨rfl, hw, hh, hb⟩ := hv
    have ow : okI w := by unfold okI; omega
    have oh : okI h := by unfold okI; omega
    by_cases h7 : p = 7
    · rw [if_pos h7] at hb
      have hbl : bits.length ≤ 65536 := by
        have h5 : w * h ≤ 32 * h := Int.mul_le_mul_of_nonneg_right hw.2 (by omega)
        omega
      have e : writeS p ⟨false, [], w, h, bits⟩ = putI w ++ (putI h ++ (putSR bits).1) := by
        rw [writeS, if_neg (by simp), if_pos (by omega), if_pos h7, numbersS2 ow oh, List.append_assoc]
      have g1 := getI_put [] (putI h ++ (putSR bits).1) ow
      have g2 := getI_put (putI w) (putSR bits).1 oh
      have g3 := getS_put (putI w ++ putI h) [] bits hbl
      rw [List.nil_append, List.nil_append] at g1
      rw [List.append_nil, List.append_assoc (putI w)] at g3
      replace g1 : getI (putI w ++ (putI h ++ (putSR bits).1)) 0 = (w, ((putI w).length : Int), 0) := g1
      rw [e, readS, if_neg (by omega), if_neg (by simp [putI_ne]), if_neg h8, if_pos h6, g1]
      dsimp only
      rw [g2]
      dsimp only
      rw [if_pos ⟨numOkR_iff.2 (by rw [g1]; exact ⟨rfl, hw⟩), numOkR_iff.2 (by rw [g2]; exact ⟨rfl, hh⟩)⟩, if_pos h7, g3]
      exact if_pos ⟨rfl, hb.1, hb.2, by simp only [List.append_assoc]⟩
    · rw [if_neg h7] at hb
      subst hb
      have e : writeS p ⟨false, [], w, h, []⟩ = putI w ++ putI h := by
        rw [writeS, if_neg (by simp), if_pos (by omega), if_neg (by omega), List.append_nil, numbersS2 ow oh]
      have g1 := getI_put [] (putI h) ow
      have g2 := getI_put (putI w) [] oh
      rw [List.nil_append, List.nil_append] at g1
      rw [List.append_nil] at g2
      replace g1 : getI (putI w ++ putI h) 0 = (w, ((putI w).length : Int), 0) := g1
      rw [e, readS, if_neg (by omega), if_neg (by simp [putI_ne]), if_neg h8, if_pos h6, g1]
      dsimp only
      rw [g2]
      dsimp only
      rw [if_pos ⟨numOkR_iff.2 (by rw [g1]; exact ⟨rfl, hw⟩), numOkR_iff.2 (by rw [g2]; exact ⟨rfl, hh⟩)⟩, if_neg h7]
      exact if_pos rfl
  · rw [if_neg h6] at hv
    obtain ⟨rfl, rfl, rfl, hl, ho⟩ := hv
    have on : okI (L.length : Int) := by unfold okI; omega
    have e : writeS p ⟨false, L, 0, 0, []⟩ = putI L.length ++ (L.map (lineW p)).flatten := by
      rw [writeS, if_neg (by simp), if_neg h6, numbersS1 on]
    have g1 := getI_put [] ((L.map (lineW p)).flatten) on
    have g2 := linesS_put [] L [] (putI L.length) ho
    rw [List.nil_append, List.nil_append] at g1
    rw [List.append_nil] at g2
    replace g1 : getI (putI L.length ++ (L.map (lineW p)).flatten) 0 = ((L.length : Int), ((putI L.length).length : Int), 0) := g1
    rw [e, readS, if_neg (by omega), if_neg (by simp [putI_ne]), if_neg h8, if_neg h6, if_pos (numOkR_iff.2 (by rw [g1]; exact ⟨rfl, by dsimp only; omega, by dsimp only; omega⟩)), g1]
    dsimp only
    rw [Int.toNat_natCast, g2]
    dsimp only
    rw [List.nil_append]
    exact if_pos rfl
end Go.Proofs.YtblllibdahkgfaaGreatDoor

namespace Go.Proofs.YtblllibdahkgfaaGreatDoor
open Go Sx
def sts (p : Int) : List Stp :=
  (6, 0) :: if p = 1 then [(1, 0), (2, 0)] else if p = 2 then [(4, 0), (4, 1), (4, 2), (4, 3), (4, 4), (4, 5), (4, 6)] else if p = 3 ∨ p = 5 then [(3, 10), (3, 100), (3, 1000)] else if p = 6 ∨ p = 7 then [(5, 0)] else []
theorem p8 {p : Int} (hp : 1 ≤ p ∧ p ≤ 8) : p = 1 ∨ p = 2 ∨ p = 3 ∨ p = 4 ∨ p = 5 ∨ p = 6 ∨ p = 7 ∨ p = 8 := by omega
end Go.Proofs.YtblllibdahkgfaaGreatDoor

namespace Go.Proofs.YtblllibdahkgfaaGreatDoor
open Go Sx
theorem apply_write {p : Int} {l : List Stp} {v : Val} (hl : validS p l = true) (hv : VOK p v) : applyS p l (writeS p v) = (writeS p (runS l v), 0) := by
  rw [applyS, if_pos hl, read_write (valid_p hl) hv]
theorem run_ok {p : Int} {l : List Stp} {v : Val} (hl : validS p l = true) (hv : VOK p v) : VOK p (runS l v) := VOK_run (valid_p hl) l v (valid_ok hl) hv
instance decNums (p : Int) : ∀ (l acc : List Int), Decidable (numsOk p acc l)
  | [], _ => isTrue trivial
  | x :: r, acc => @instDecidableAnd _ _ inferInstance (decNums p r (acc ++ [x]))
instance decLn (p : Int) (before : List Ln) (x : Ln) : Decidable (lnOk p before x) := by
  unfold lnOk
  have : Decidable (∀ y, before.getLast? = some y → cmpL (y.2.take 2) (x.2.take 2) < 0) := by
    cases h : before.getLast? with
    | none => exact isTrue (fun y hy => by cases hy)
    | some z =>
      by_cases hz : cmpL (z.2.take 2) (x.2.take 2) < 0
      · exact isTrue (fun y hy => by cases hy; exact hz)
      · exact isFalse (fun hy => hz (hy z rfl))
  infer_instance
instance decLns (p : Int) : ∀ (l acc : List Ln), Decidable (lnsOk p acc l)
  | [], _ => isTrue trivial
  | x :: r, acc => @instDecidableAnd _ _ (decLn p acc x) (decLns p r (acc ++ [x]))
/-- A value that is not lost. -/
def VOK1 (p : Int) (v : Val) : Prop := v.lost = false ∧
    if p = 8 then v.lines = [] ∧ v.bits = [] ∧ (0 ≤ v.w ∧ v.w ≤ 64) ∧ (0 ≤ v.h ∧ v.h ≤ 64)
    else if 6 ≤ p then v.lines = [] ∧ (0 ≤ v.w ∧ v.w ≤ 32) ∧ (min v.w 1 ≤ v.h ∧ v.h ≤ min v.w 1 * 32) ∧ (if p = 7 then (v.bits.length : Int) = v.w * v.h ∧ v.bits.all (fun b => b == 48 || b == 49) = true else v.bits = [])
    else v.w = 0 ∧ v.h = 0 ∧ v.bits = [] ∧ v.lines.length ≤ 64 ∧ lnsOk p [] v.lines
theorem VOK1.ok {p : Int} {v : Val} (h : VOK1 p v) : VOK p v := .inr h
instance decVOK (p : Int) (v : Val) : Decidable (VOK1 p v) := by unfold VOK1; infer_instance
theorem nilV {p : Int} (hp : 1 ≤ p ∧ p ≤ 8) : validS p [] = true := by
  rcases p8 hp with rfl | rfl | rfl | rfl | rfl | rfl | rfl | rfl <;> decide
end Go.Proofs.YtblllibdahkgfaaGreatDoor
