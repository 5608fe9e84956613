import Derived.Test.YtblllibdahkgfaaGreatDoorK24
import Derived.Test.YtblllibdahkgfaaGreatDoorK11

namespace Go.Proofs.YtblllibdahkgfaaGreatDoor
open Go Sx
set_option maxRecDepth 100000
def stepOf (p x : Int) : List Stp :=
  if 0 < pickI x 8 then
    if p = 1 then [(1 + (pickI (x.tdiv 8) 21).tmod 2, 0)] else if p = 2 then [(4, (pickI (x.tdiv 8) 21).tmod 7)]
    else if p = 3 ∨ p = 5 then [(3, if (pickI (x.tdiv 8) 21).tmod 3 = 0 then 10 else if (pickI (x.tdiv 8) 21).tmod 3 = 1 then 100 else 1000)] else if p = 6 ∨ p = 7 then [(5, 0)] else []
  else [(6, 0)]
def stepsS (p : Int) (x : List Int) : List Stp := ((x.take 8).map (stepOf p)).flatten
theorem pick_range {c n : Int} (hc : i64 c) (hn : 0 < n) : 0 ≤ pickI c n ∧ pickI c n < n := by
  unfold pickI i64 at *
  split
  · exact ⟨Int.tmod_nonneg _ (by omega), Int.tmod_lt_of_pos _ hn⟩
  · exact ⟨Int.tmod_nonneg _ (by omega), Int.tmod_lt_of_pos _ hn⟩
theorem tdiv8 {x : Int} (h : i64 x) : IntKind.i64.wrap (x.tdiv 8) = x.tdiv 8 ∧ i64 (x.tdiv 8) := by
  unfold i64 at *
  have h1 : -9223372036854775808 ≤ x.tdiv 8 ∧ x.tdiv 8 ≤ 9223372036854775807 := by
    by_cases hx : 0 ≤ x
    · rw [Int.tdiv_eq_ediv_of_nonneg hx]; omega
    · have e : x.tdiv 8 = -((-x).tdiv 8) := by rw [Int.neg_tdiv]; omega
      rw [e, Int.tdiv_eq_ediv_of_nonneg (by omega)]; omega
  exact ⟨wrap64_id h1.1 h1.2, h1⟩
theorem steps_succ {p : Int} {x : List Int} {k : Nat} (g : k < x.length) (g8 : k < 8) : (((x.take 8).take (k + 1)).map (stepOf p)).flatten = (((x.take 8).take k).map (stepOf p)).flatten ++ stepOf p x[k] := by
  have g' : k < (x.take 8).length := by rw [List.length_take]; omega
  rw [List.take_succ_eq_append_getElem g', List.map_append, List.flatten_append]
  simp
theorem stepOf_len (p x : Int) : (stepOf p x).length ≤ 1 := by
  unfold stepOf
  split
  · split
    · simp
    · split
      · simp
      · split
        · simp
        · split <;> simp
  · simp
theorem steps_len (p : Int) : ∀ (l : List Int), ((l.map (stepOf p)).flatten).length ≤ l.length
  | [] => by simp
  | a :: r => by
    have h1 := stepOf_len p a
    have h2 := steps_len p r
    simp only [List.map_cons, List.flatten_cons, List.length_append, List.length_cons]; omega
set_option maxHeartbeats 8000000 in
theorem steps_fn (F : Fz) (sa : SA) (x : List Int) (p : Int) (ha : IntsAt F sa x) (hl : x.length < 1000000000000000000) (hx : ∀ a ∈ x, i64 a) (hp : 1 ≤ p ∧ p ≤ 8) :
    Fo Tryz.prog F 14 [.va (.int .i64 p), .va sa] (fun o F' => ∃ sc, o = .ret (.va sc) ∧ StepsAt F' sc (stepsS p x)) := by
  obtain ⟨han, hab, hae, hac, haL, har, rfl, ha1, ha2, ha3, ha4⟩ := ha
  refine fo_of hΘ Tryz.func14 rfl (by decide) _ _ rfl rfl rfl ?_
  conv => whnf
  refine loop_at hΘ (X := { q : Nat × List Stp × Nat // (q.1 ≤ x.length ∧ q.1 ≤ 8) ∧ q.2.1 = (((x.take 8).take q.1).map (stepOf p)).flatten }) (fun q => [(5, .va (oA 1 q.1.2.2 q.1.2.1)), (6, .va (.int .i64 q.1.1))]) [7, 8, 9, 10, 11, 12, 13, 14, 15, 16, 17, 18, 19, 20, 21, 22, 23, 24, 25, 26, 27, 28, 29, 30, 31, 32, 33, 34, 35, 36, 37, 38, 39, 40, 41, 42, 43, 44, 45, 46, 47, 48, 49, 50, 51, 52, 53, 54, 55, 56, 57, 58, 59, 60, 61, 62, 63, 64]
    (fun q => [(0, .frz F), (1, oE q.1.2.2 q.1.2.1)]) 2 (fun q => x.length - q.1.1) ⟨(0, [], 0), by simp⟩
    (fun hH hT => leI [(1, 1)] hH hT rfl ⟨trivial, oE_below _ _ _, trivial⟩ ⟨rfl, rfl, trivial⟩ ⟨Fz.le_refl F, rfl, trivial⟩) ?_
  rintro ⟨⟨k, out, co⟩, hk, hout⟩ hH hT
  replace hk : k ≤ x.length ∧ k ≤ 8 := hk
  replace hout : out = (((x.take 8).take k).map (stepOf p)).flatten := hout
  have fin : k = x.length ∨ k = 8 → out = stepsS p x := fun h => by
    rw [hout, stepsS, List.take_of_length_le (by rw [List.length_take]; omega)]
  have hol : out.length ≤ 100 := by
    rw [hout]
    have h1 := steps_len p ((x.take 8).take k)
    rw [List.length_take, List.length_take] at h1
    omega
  conv => whnf
  refine ⟨fun ga => ?_, fun ga => ?_⟩
  · have gk : k < x.length := by
        have h0 : (k : Int) < (x.length : Int) := of_decide_eq_true ga
        omega
    clear ga
    conv => whnf
    refine br (fun gb => ?_) (fun gb => ?_)
    · have g8 : k < 8 := by
          have h0 : (k : Int) < 8 := of_decide_eq_true gb
          omega
      clear gb
      have hxk := hx _ (List.getElem_mem gk)
      have h8 := tdiv8 hxk
      have hr := pick_range (n := 21) h8.2 (by decide)
      have hnext := steps_succ (p := p) gk g8
      rw [← hout] at hnext
      conv => whnf
      refine ⟨Sl.lt ha1 gk, ⟨by simp, by simpa using gk⟩, ?_⟩
      conv => whnf
      refine ⟨_, ha2 (Sl.lt ha1 gk), ?_⟩
      conv => whnf
      refine ⟨_, Sl.at ha4 gk, ?_⟩
      conv => whnf
      refine usePu (pick_pu x[k] 8 hxk (by decide) F) rfl (argsE_refl _) rfl ?_
      conv => whnf
      refine ⟨Sl.lt ha1 gk, ⟨by simp, by simpa using gk⟩, ?_⟩
      conv => whnf
      refine ⟨_, ha2 (Sl.lt ha1 gk), ?_⟩
      conv => whnf
      refine ⟨_, Sl.at ha4 gk, ?_⟩
      conv => whnf
      refine ⟨by decide, ?_⟩
      conv => whnf
      refine usePu (pick_pu (x[k].tdiv 8) 21 h8.2 (by decide) F) rfl ⟨congrArg (SA.int .i64) h8.1.symm, rfl, trivial⟩ rfl ?_
      conv => whnf
      refine br (fun gm => ?_) (fun gm => ?_)
      · have gm' : 0 < pickI x[k] 8 := of_decide_eq_true gm
        clear gm
        conv => whnf
        refine br (fun g1 => ?_) (fun g1 => ?_)
        · have g1' : p = 1 := of_decide_eq_true g1
          clear g1
          have hstep : stepOf p x[k] = [(1 + (pickI (x[k].tdiv 8) 21).tmod 2, 0)] := by rw [stepOf, if_pos gm', if_pos g1']
          have h0 : 0 ≤ (pickI (x[k].tdiv 8) 21).tmod 2 := Int.tmod_nonneg _ hr.1
          have h1 : (pickI (x[k].tdiv 8) 21).tmod 2 < 2 := Int.tmod_lt_of_pos _ (by decide)
          have hget : [[SA.int .i64 1], [SA.int .i64 2]][0 + ((pickI (x[k].tdiv 8) 21).tmod 2).toNat]? = some [SA.int .i64 (1 + (pickI (x[k].tdiv 8) 21).tmod 2)] := by
            have hc : (pickI (x[k].tdiv 8) 21).tmod 2 = 0 ∨ (pickI (x[k].tdiv 8) 21).tmod 2 = 1 := by omega
            rcases hc with h | h <;> rw [h] <;> rfl
          have hout' : out ++ [(1 + (pickI (x[k].tdiv 8) 21).tmod 2, 0)] = (((x.take 8).take (k + 1)).map (stepOf p)).flatten := by rw [hnext, hstep]
          clear hnext hstep
          rcases out with _ | ⟨yo, ro⟩
          · skip
            conv => whnf
            refine ⟨by decide, ?_⟩
            conv => whnf
            refine ⟨rfl, ⟨h0, h1⟩, ?_⟩
            conv => whnf
            refine ⟨_, hget, ?_⟩
            conv => whnf
            refine ⟨Nat.le_refl 1, [enc (1 + (pickI (x[k].tdiv 8) 21).tmod 2, 0)], rfl, ?_⟩
            conv => whnf
            refine ⟨rfl, rfl, ?_⟩
            conv => whnf
            refine ⟨by show 1 * 16 ≤ 140737488355328; omega, fun c' hc => ?_⟩
            conv => whnf
            exact ⟨⟨(k + 1, ([] : List Stp) ++ [(1 + (pickI (x[k].tdiv 8) 21).tmod 2, 0)], c'), by show k + 1 ≤ x.length ∧ k + 1 ≤ 8; omega, hout'⟩, by show x.length - (k + 1) < x.length - k; omega, leR [(1, 5)] hH hT rfl ⟨trivial, oE_below _ _ _, trivial⟩ ⟨(oA_new (μ := sig [(1, 5)]) (i := 1) (j := 5) rfl c' _ ([]) (1 + (pickI (x[k].tdiv 8) 21).tmod 2, 0) rfl), cnt (by omega), trivial⟩ ⟨Fz.le_refl F, sub_oE (oE_one [enc (1 + (pickI (x[k].tdiv 8) 21).tmod 2, 0)] rfl), trivial⟩⟩
          · skip
            conv => whnf
            refine ⟨by decide, ?_⟩
            conv => whnf
            refine ⟨rfl, ⟨h0, h1⟩, ?_⟩
            conv => whnf
            refine ⟨_, hget, ?_⟩
            conv => whnf
            replace hol : ro.length + 1 ≤ 100 := hol
            refine ⟨Nat.le_refl 1, [enc (1 + (pickI (x[k].tdiv 8) 21).tmod 2, 0)], rfl, ?_⟩
            conv => whnf
            refine ⟨rfl, rfl, by simp, rfl, by show (ro.length + 1 + 1) * 16 ≤ 140737488355328; omega, fun c' hc => ?_⟩
            conv => whnf
            exact ⟨⟨(k + 1, (yo :: ro : List Stp) ++ [(1 + (pickI (x[k].tdiv 8) 21).tmod 2, 0)], c'), by show k + 1 ≤ x.length ∧ k + 1 ≤ 8; omega, hout'⟩, by show x.length - (k + 1) < x.length - k; omega, leR [(1, 5)] hH hT rfl ⟨trivial, oE_below _ _ _, trivial⟩ ⟨(oA_new (μ := sig [(1, 5)]) (i := 1) (j := 5) rfl c' _ (yo :: ro) (1 + (pickI (x[k].tdiv 8) 21).tmod 2, 0) rfl), cnt (by omega), trivial⟩ ⟨Fz.le_refl F, sub_oE (oE_one _ (by simp)), trivial⟩⟩
        · have n1 : ¬ p = 1 := of_decide_eq_false g1
          clear g1
          conv => whnf
          refine br (fun g1 => ?_) (fun g1 => ?_)
          · have g2 : p = 2 := of_decide_eq_true g1
            clear g1
            have hstep : stepOf p x[k] = [(4, (pickI (x[k].tdiv 8) 21).tmod 7)] := by rw [stepOf, if_pos gm', if_neg n1, if_pos g2]
            have hout' : out ++ [(4, (pickI (x[k].tdiv 8) 21).tmod 7)] = (((x.take 8).take (k + 1)).map (stepOf p)).flatten := by rw [hnext, hstep]
            clear hnext hstep
            rcases out with _ | ⟨yo, ro⟩
            · skip
              conv => whnf
              refine ⟨by decide, ?_⟩
              conv => whnf
              refine ⟨Nat.le_refl 1, [enc (4, (pickI (x[k].tdiv 8) 21).tmod 7)], rfl, ?_⟩
              conv => whnf
              refine ⟨rfl, rfl, ?_⟩
              conv => whnf
              refine ⟨by show 1 * 16 ≤ 140737488355328; omega, fun c' hc => ?_⟩
              conv => whnf
              exact ⟨⟨(k + 1, ([] : List Stp) ++ [(4, (pickI (x[k].tdiv 8) 21).tmod 7)], c'), by show k + 1 ≤ x.length ∧ k + 1 ≤ 8; omega, hout'⟩, by show x.length - (k + 1) < x.length - k; omega, leR [(1, 4)] hH hT rfl ⟨trivial, oE_below _ _ _, trivial⟩ ⟨(oA_new (μ := sig [(1, 4)]) (i := 1) (j := 4) rfl c' _ ([]) (4, (pickI (x[k].tdiv 8) 21).tmod 7) rfl), cnt (by omega), trivial⟩ ⟨Fz.le_refl F, sub_oE (oE_one [enc (4, (pickI (x[k].tdiv 8) 21).tmod 7)] rfl), trivial⟩⟩
            · skip
              conv => whnf
              refine ⟨by decide, ?_⟩
              conv => whnf
              replace hol : ro.length + 1 ≤ 100 := hol
              refine ⟨Nat.le_refl 1, [enc (4, (pickI (x[k].tdiv 8) 21).tmod 7)], rfl, ?_⟩
              conv => whnf
              refine ⟨rfl, rfl, by simp, rfl, by show (ro.length + 1 + 1) * 16 ≤ 140737488355328; omega, fun c' hc => ?_⟩
              conv => whnf
              exact ⟨⟨(k + 1, (yo :: ro : List Stp) ++ [(4, (pickI (x[k].tdiv 8) 21).tmod 7)], c'), by show k + 1 ≤ x.length ∧ k + 1 ≤ 8; omega, hout'⟩, by show x.length - (k + 1) < x.length - k; omega, leR [(1, 4)] hH hT rfl ⟨trivial, oE_below _ _ _, trivial⟩ ⟨(oA_new (μ := sig [(1, 4)]) (i := 1) (j := 4) rfl c' _ (yo :: ro) (4, (pickI (x[k].tdiv 8) 21).tmod 7) rfl), cnt (by omega), trivial⟩ ⟨Fz.le_refl F, sub_oE (oE_one _ (by simp)), trivial⟩⟩
          · have n2 : ¬ p = 2 := of_decide_eq_false g1
            clear g1
            conv => whnf
            refine br (fun g1 => ?_) (fun g1 => ?_)
            · have g3 : p = 3 := of_decide_eq_true g1
              clear g1
              have hstep : stepOf p x[k] = [(3, if (pickI (x[k].tdiv 8) 21).tmod 3 = 0 then 10 else if (pickI (x[k].tdiv 8) 21).tmod 3 = 1 then 100 else 1000)] := by rw [stepOf, if_pos gm', if_neg n1, if_neg n2, if_pos (.inl g3)]
              have h0 : 0 ≤ (pickI (x[k].tdiv 8) 21).tmod 3 := Int.tmod_nonneg _ hr.1
              have h1 : (pickI (x[k].tdiv 8) 21).tmod 3 < 3 := Int.tmod_lt_of_pos _ (by decide)
              have hget : [[SA.int .i64 10], [SA.int .i64 100], [SA.int .i64 1000]][0 + ((pickI (x[k].tdiv 8) 21).tmod 3).toNat]? = some [SA.int .i64 (if (pickI (x[k].tdiv 8) 21).tmod 3 = 0 then 10 else if (pickI (x[k].tdiv 8) 21).tmod 3 = 1 then 100 else 1000)] := by
                have hc : (pickI (x[k].tdiv 8) 21).tmod 3 = 0 ∨ (pickI (x[k].tdiv 8) 21).tmod 3 = 1 ∨ (pickI (x[k].tdiv 8) 21).tmod 3 = 2 := by omega
                rcases hc with h | h | h <;> rw [h] <;> rfl
              have hout' : out ++ [(3, if (pickI (x[k].tdiv 8) 21).tmod 3 = 0 then 10 else if (pickI (x[k].tdiv 8) 21).tmod 3 = 1 then 100 else 1000)] = (((x.take 8).take (k + 1)).map (stepOf p)).flatten := by rw [hnext, hstep]
              clear hnext hstep
              rcases out with _ | ⟨yo, ro⟩
              · skip
                conv => whnf
                refine br (fun _ => ?_) (fun g => absurd g3 (of_decide_eq_false g))
                conv => whnf
                refine ⟨by decide, ?_⟩
                conv => whnf
                refine ⟨rfl, ⟨h0, h1⟩, ?_⟩
                conv => whnf
                refine ⟨_, hget, ?_⟩
                conv => whnf
                refine ⟨Nat.le_refl 1, [enc (3, if (pickI (x[k].tdiv 8) 21).tmod 3 = 0 then 10 else if (pickI (x[k].tdiv 8) 21).tmod 3 = 1 then 100 else 1000)], rfl, ?_⟩
                conv => whnf
                refine ⟨rfl, rfl, ?_⟩
                conv => whnf
                refine ⟨by show 1 * 16 ≤ 140737488355328; omega, fun c' hc => ?_⟩
                conv => whnf
                exact ⟨⟨(k + 1, ([] : List Stp) ++ [(3, if (pickI (x[k].tdiv 8) 21).tmod 3 = 0 then 10 else if (pickI (x[k].tdiv 8) 21).tmod 3 = 1 then 100 else 1000)], c'), by show k + 1 ≤ x.length ∧ k + 1 ≤ 8; omega, hout'⟩, by show x.length - (k + 1) < x.length - k; omega, leR [(1, 5)] hH hT rfl ⟨trivial, oE_below _ _ _, trivial⟩ ⟨(oA_new (μ := sig [(1, 5)]) (i := 1) (j := 5) rfl c' _ ([]) (3, if (pickI (x[k].tdiv 8) 21).tmod 3 = 0 then 10 else if (pickI (x[k].tdiv 8) 21).tmod 3 = 1 then 100 else 1000) rfl), cnt (by omega), trivial⟩ ⟨Fz.le_refl F, sub_oE (oE_one [enc (3, if (pickI (x[k].tdiv 8) 21).tmod 3 = 0 then 10 else if (pickI (x[k].tdiv 8) 21).tmod 3 = 1 then 100 else 1000)] rfl), trivial⟩⟩
              · skip
                conv => whnf
                refine br (fun _ => ?_) (fun g => absurd g3 (of_decide_eq_false g))
                conv => whnf
                refine ⟨by decide, ?_⟩
                conv => whnf
                refine ⟨rfl, ⟨h0, h1⟩, ?_⟩
                conv => whnf
                refine ⟨_, hget, ?_⟩
                conv => whnf
                replace hol : ro.length + 1 ≤ 100 := hol
                refine ⟨Nat.le_refl 1, [enc (3, if (pickI (x[k].tdiv 8) 21).tmod 3 = 0 then 10 else if (pickI (x[k].tdiv 8) 21).tmod 3 = 1 then 100 else 1000)], rfl, ?_⟩
                conv => whnf
                refine ⟨rfl, rfl, by simp, rfl, by show (ro.length + 1 + 1) * 16 ≤ 140737488355328; omega, fun c' hc => ?_⟩
                conv => whnf
                exact ⟨⟨(k + 1, (yo :: ro : List Stp) ++ [(3, if (pickI (x[k].tdiv 8) 21).tmod 3 = 0 then 10 else if (pickI (x[k].tdiv 8) 21).tmod 3 = 1 then 100 else 1000)], c'), by show k + 1 ≤ x.length ∧ k + 1 ≤ 8; omega, hout'⟩, by show x.length - (k + 1) < x.length - k; omega, leR [(1, 5)] hH hT rfl ⟨trivial, oE_below _ _ _, trivial⟩ ⟨(oA_new (μ := sig [(1, 5)]) (i := 1) (j := 5) rfl c' _ (yo :: ro) (3, if (pickI (x[k].tdiv 8) 21).tmod 3 = 0 then 10 else if (pickI (x[k].tdiv 8) 21).tmod 3 = 1 then 100 else 1000) rfl), cnt (by omega), trivial⟩ ⟨Fz.le_refl F, sub_oE (oE_one _ (by simp)), trivial⟩⟩
            · have n3 : ¬ p = 3 := of_decide_eq_false g1
              clear g1
              conv => whnf
              refine br (fun g1 => ?_) (fun g1 => ?_)
              · have g3 : p = 5 := of_decide_eq_true g1
                clear g1
                have hstep : stepOf p x[k] = [(3, if (pickI (x[k].tdiv 8) 21).tmod 3 = 0 then 10 else if (pickI (x[k].tdiv 8) 21).tmod 3 = 1 then 100 else 1000)] := by rw [stepOf, if_pos gm', if_neg n1, if_neg n2, if_pos (.inr g3)]
                have h0 : 0 ≤ (pickI (x[k].tdiv 8) 21).tmod 3 := Int.tmod_nonneg _ hr.1
                have h1 : (pickI (x[k].tdiv 8) 21).tmod 3 < 3 := Int.tmod_lt_of_pos _ (by decide)
                have hget : [[SA.int .i64 10], [SA.int .i64 100], [SA.int .i64 1000]][0 + ((pickI (x[k].tdiv 8) 21).tmod 3).toNat]? = some [SA.int .i64 (if (pickI (x[k].tdiv 8) 21).tmod 3 = 0 then 10 else if (pickI (x[k].tdiv 8) 21).tmod 3 = 1 then 100 else 1000)] := by
                  have hc : (pickI (x[k].tdiv 8) 21).tmod 3 = 0 ∨ (pickI (x[k].tdiv 8) 21).tmod 3 = 1 ∨ (pickI (x[k].tdiv 8) 21).tmod 3 = 2 := by omega
                  rcases hc with h | h | h <;> rw [h] <;> rfl
                have hout' : out ++ [(3, if (pickI (x[k].tdiv 8) 21).tmod 3 = 0 then 10 else if (pickI (x[k].tdiv 8) 21).tmod 3 = 1 then 100 else 1000)] = (((x.take 8).take (k + 1)).map (stepOf p)).flatten := by rw [hnext, hstep]
                clear hnext hstep
                rcases out with _ | ⟨yo, ro⟩
                · skip
                  conv => whnf
                  refine ⟨by decide, ?_⟩
                  conv => whnf
                  refine ⟨rfl, ⟨h0, h1⟩, ?_⟩
                  conv => whnf
                  refine ⟨_, hget, ?_⟩
                  conv => whnf
                  refine ⟨Nat.le_refl 1, [enc (3, if (pickI (x[k].tdiv 8) 21).tmod 3 = 0 then 10 else if (pickI (x[k].tdiv 8) 21).tmod 3 = 1 then 100 else 1000)], rfl, ?_⟩
                  conv => whnf
                  refine ⟨rfl, rfl, ?_⟩
                  conv => whnf
                  refine ⟨by show 1 * 16 ≤ 140737488355328; omega, fun c' hc => ?_⟩
                  conv => whnf
                  exact ⟨⟨(k + 1, ([] : List Stp) ++ [(3, if (pickI (x[k].tdiv 8) 21).tmod 3 = 0 then 10 else if (pickI (x[k].tdiv 8) 21).tmod 3 = 1 then 100 else 1000)], c'), by show k + 1 ≤ x.length ∧ k + 1 ≤ 8; omega, hout'⟩, by show x.length - (k + 1) < x.length - k; omega, leR [(1, 5)] hH hT rfl ⟨trivial, oE_below _ _ _, trivial⟩ ⟨(oA_new (μ := sig [(1, 5)]) (i := 1) (j := 5) rfl c' _ ([]) (3, if (pickI (x[k].tdiv 8) 21).tmod 3 = 0 then 10 else if (pickI (x[k].tdiv 8) 21).tmod 3 = 1 then 100 else 1000) rfl), cnt (by omega), trivial⟩ ⟨Fz.le_refl F, sub_oE (oE_one [enc (3, if (pickI (x[k].tdiv 8) 21).tmod 3 = 0 then 10 else if (pickI (x[k].tdiv 8) 21).tmod 3 = 1 then 100 else 1000)] rfl), trivial⟩⟩
                · skip
                  conv => whnf
                  refine ⟨by decide, ?_⟩
                  conv => whnf
                  refine ⟨rfl, ⟨h0, h1⟩, ?_⟩
                  conv => whnf
                  refine ⟨_, hget, ?_⟩
                  conv => whnf
                  replace hol : ro.length + 1 ≤ 100 := hol
                  refine ⟨Nat.le_refl 1, [enc (3, if (pickI (x[k].tdiv 8) 21).tmod 3 = 0 then 10 else if (pickI (x[k].tdiv 8) 21).tmod 3 = 1 then 100 else 1000)], rfl, ?_⟩
                  conv => whnf
                  refine ⟨rfl, rfl, by simp, rfl, by show (ro.length + 1 + 1) * 16 ≤ 140737488355328; omega, fun c' hc => ?_⟩
                  conv => whnf
                  exact ⟨⟨(k + 1, (yo :: ro : List Stp) ++ [(3, if (pickI (x[k].tdiv 8) 21).tmod 3 = 0 then 10 else if (pickI (x[k].tdiv 8) 21).tmod 3 = 1 then 100 else 1000)], c'), by show k + 1 ≤ x.length ∧ k + 1 ≤ 8; omega, hout'⟩, by show x.length - (k + 1) < x.length - k; omega, leR [(1, 5)] hH hT rfl ⟨trivial, oE_below _ _ _, trivial⟩ ⟨(oA_new (μ := sig [(1, 5)]) (i := 1) (j := 5) rfl c' _ (yo :: ro) (3, if (pickI (x[k].tdiv 8) 21).tmod 3 = 0 then 10 else if (pickI (x[k].tdiv 8) 21).tmod 3 = 1 then 100 else 1000) rfl), cnt (by omega), trivial⟩ ⟨Fz.le_refl F, sub_oE (oE_one _ (by simp)), trivial⟩⟩
              · have n5 : ¬ p = 5 := of_decide_eq_false g1
                clear g1
                conv => whnf
                refine br (fun g1 => ?_) (fun g1 => ?_)
                · have g6 : p = 6 := of_decide_eq_true g1
                  clear g1
                  have hstep : stepOf p x[k] = [(5, 0)] := by rw [stepOf, if_pos gm', if_neg n1, if_neg n2, if_neg (by omega), if_pos (.inl g6)]
                  have hout' : out ++ [(5, 0)] = (((x.take 8).take (k + 1)).map (stepOf p)).flatten := by rw [hnext, hstep]
                  clear hnext hstep
                  rcases out with _ | ⟨yo, ro⟩
                  · skip
                    conv => whnf
                    refine br (fun _ => ?_) (fun g => absurd g6 (of_decide_eq_false g))
                    conv => whnf
                    refine ⟨Nat.le_refl 1, [enc (5, 0)], rfl, ?_⟩
                    conv => whnf
                    refine ⟨rfl, rfl, ?_⟩
                    conv => whnf
                    refine ⟨by show 1 * 16 ≤ 140737488355328; omega, fun c' hc => ?_⟩
                    conv => whnf
                    exact ⟨⟨(k + 1, ([] : List Stp) ++ [(5, 0)], c'), by show k + 1 ≤ x.length ∧ k + 1 ≤ 8; omega, hout'⟩, by show x.length - (k + 1) < x.length - k; omega, leR [(1, 4)] hH hT rfl ⟨trivial, oE_below _ _ _, trivial⟩ ⟨(oA_new (μ := sig [(1, 4)]) (i := 1) (j := 4) rfl c' _ ([]) (5, 0) rfl), cnt (by omega), trivial⟩ ⟨Fz.le_refl F, sub_oE (oE_one [enc (5, 0)] rfl), trivial⟩⟩
                  · skip
                    conv => whnf
                    refine br (fun _ => ?_) (fun g => absurd g6 (of_decide_eq_false g))
                    conv => whnf
                    replace hol : ro.length + 1 ≤ 100 := hol
                    refine ⟨Nat.le_refl 1, [enc (5, 0)], rfl, ?_⟩
                    conv => whnf
                    refine ⟨rfl, rfl, by simp, rfl, by show (ro.length + 1 + 1) * 16 ≤ 140737488355328; omega, fun c' hc => ?_⟩
                    conv => whnf
                    exact ⟨⟨(k + 1, (yo :: ro : List Stp) ++ [(5, 0)], c'), by show k + 1 ≤ x.length ∧ k + 1 ≤ 8; omega, hout'⟩, by show x.length - (k + 1) < x.length - k; omega, leR [(1, 4)] hH hT rfl ⟨trivial, oE_below _ _ _, trivial⟩ ⟨(oA_new (μ := sig [(1, 4)]) (i := 1) (j := 4) rfl c' _ (yo :: ro) (5, 0) rfl), cnt (by omega), trivial⟩ ⟨Fz.le_refl F, sub_oE (oE_one _ (by simp)), trivial⟩⟩
                · have n6 : ¬ p = 6 := of_decide_eq_false g1
                  clear g1
                  conv => whnf
                  refine br (fun g1 => ?_) (fun g1 => ?_)
                  · have g6 : p = 7 := of_decide_eq_true g1
                    clear g1
                    have hstep : stepOf p x[k] = [(5, 0)] := by rw [stepOf, if_pos gm', if_neg n1, if_neg n2, if_neg (by omega), if_pos (.inr g6)]
                    have hout' : out ++ [(5, 0)] = (((x.take 8).take (k + 1)).map (stepOf p)).flatten := by rw [hnext, hstep]
                    clear hnext hstep
                    rcases out with _ | ⟨yo, ro⟩
                    · skip
                      conv => whnf
                      refine ⟨Nat.le_refl 1, [enc (5, 0)], rfl, ?_⟩
                      conv => whnf
                      refine ⟨rfl, rfl, ?_⟩
                      conv => whnf
                      refine ⟨by show 1 * 16 ≤ 140737488355328; omega, fun c' hc => ?_⟩
                      conv => whnf
                      exact ⟨⟨(k + 1, ([] : List Stp) ++ [(5, 0)], c'), by show k + 1 ≤ x.length ∧ k + 1 ≤ 8; omega, hout'⟩, by show x.length - (k + 1) < x.length - k; omega, leR [(1, 4)] hH hT rfl ⟨trivial, oE_below _ _ _, trivial⟩ ⟨(oA_new (μ := sig [(1, 4)]) (i := 1) (j := 4) rfl c' _ ([]) (5, 0) rfl), cnt (by omega), trivial⟩ ⟨Fz.le_refl F, sub_oE (oE_one [enc (5, 0)] rfl), trivial⟩⟩
                    · skip
                      conv => whnf
                      replace hol : ro.length + 1 ≤ 100 := hol
                      refine ⟨Nat.le_refl 1, [enc (5, 0)], rfl, ?_⟩
                      conv => whnf
                      refine ⟨rfl, rfl, by simp, rfl, by show (ro.length + 1 + 1) * 16 ≤ 140737488355328; omega, fun c' hc => ?_⟩
                      conv => whnf
                      exact ⟨⟨(k + 1, (yo :: ro : List Stp) ++ [(5, 0)], c'), by show k + 1 ≤ x.length ∧ k + 1 ≤ 8; omega, hout'⟩, by show x.length - (k + 1) < x.length - k; omega, leR [(1, 4)] hH hT rfl ⟨trivial, oE_below _ _ _, trivial⟩ ⟨(oA_new (μ := sig [(1, 4)]) (i := 1) (j := 4) rfl c' _ (yo :: ro) (5, 0) rfl), cnt (by omega), trivial⟩ ⟨Fz.le_refl F, sub_oE (oE_one _ (by simp)), trivial⟩⟩
                  · have n7 : ¬ p = 7 := of_decide_eq_false g1
                    clear g1
                    have hstep : stepOf p x[k] = [] := by rw [stepOf, if_pos gm', if_neg n1, if_neg n2, if_neg (by omega), if_neg (by omega)]
                    have hout' : out = (((x.take 8).take (k + 1)).map (stepOf p)).flatten := by rw [hnext, hstep, List.append_nil]
                    clear hnext hstep
                    rcases out with _ | ⟨yo, ro⟩
                    · skip
                      conv => whnf
                      exact ⟨⟨(k + 1, ([] : List Stp), co), by show k + 1 ≤ x.length ∧ k + 1 ≤ 8; omega, hout'⟩, by show x.length - (k + 1) < x.length - k; omega, leR [(1, 1)] hH hT rfl ⟨trivial, oE_below _ _ _, trivial⟩ ⟨rfl, cnt (by omega), trivial⟩ ⟨Fz.le_refl F, sub_oE (oE_self _ _), trivial⟩⟩
                    · skip
                      conv => whnf
                      exact ⟨⟨(k + 1, (yo :: ro : List Stp), co), by show k + 1 ≤ x.length ∧ k + 1 ≤ 8; omega, hout'⟩, by show x.length - (k + 1) < x.length - k; omega, leR [(1, 1)] hH hT rfl ⟨trivial, oE_below _ _ _, trivial⟩ ⟨⟨rfl, rfl, rfl, .inr ⟨rfl, rfl, rfl, rfl⟩⟩, cnt (by omega), trivial⟩ ⟨Fz.le_refl F, sub_oE (oE_self _ _), trivial⟩⟩
      · have gm' : ¬ 0 < pickI x[k] 8 := of_decide_eq_false gm
        clear gm
        have hstep : stepOf p x[k] = [(6, 0)] := by rw [stepOf, if_neg gm']
        have hout' : out ++ [(6, 0)] = (((x.take 8).take (k + 1)).map (stepOf p)).flatten := by rw [hnext, hstep]
        clear hnext hstep
        rcases out with _ | ⟨yo, ro⟩
        · skip
          conv => whnf
          refine ⟨Nat.le_refl 1, [enc (6, 0)], rfl, ?_⟩
          conv => whnf
          refine ⟨rfl, rfl, ?_⟩
          conv => whnf
          refine ⟨by show 1 * 16 ≤ 140737488355328; omega, fun c' hc => ?_⟩
          conv => whnf
          exact ⟨⟨(k + 1, ([] : List Stp) ++ [(6, 0)], c'), by show k + 1 ≤ x.length ∧ k + 1 ≤ 8; omega, hout'⟩, by show x.length - (k + 1) < x.length - k; omega, leR [(1, 4)] hH hT rfl ⟨trivial, oE_below _ _ _, trivial⟩ ⟨(oA_new (μ := sig [(1, 4)]) (i := 1) (j := 4) rfl c' _ ([]) (6, 0) rfl), cnt (by omega), trivial⟩ ⟨Fz.le_refl F, sub_oE (oE_one [enc (6, 0)] rfl), trivial⟩⟩
        · skip
          conv => whnf
          replace hol : ro.length + 1 ≤ 100 := hol
          refine ⟨Nat.le_refl 1, [enc (6, 0)], rfl, ?_⟩
          conv => whnf
          refine ⟨rfl, rfl, by simp, rfl, by show (ro.length + 1 + 1) * 16 ≤ 140737488355328; omega, fun c' hc => ?_⟩
          conv => whnf
          exact ⟨⟨(k + 1, (yo :: ro : List Stp) ++ [(6, 0)], c'), by show k + 1 ≤ x.length ∧ k + 1 ≤ 8; omega, hout'⟩, by show x.length - (k + 1) < x.length - k; omega, leR [(1, 4)] hH hT rfl ⟨trivial, oE_below _ _ _, trivial⟩ ⟨(oA_new (μ := sig [(1, 4)]) (i := 1) (j := 4) rfl c' _ (yo :: ro) (6, 0) rfl), cnt (by omega), trivial⟩ ⟨Fz.le_refl F, sub_oE (oE_one _ (by simp)), trivial⟩⟩
    · have g8 : k = 8 := by
          have h0 : ¬ (k : Int) < 8 := of_decide_eq_false gb
          omega
      have hf := fin (.inr g8)
      rcases out with _ | ⟨yo, ro⟩
      · skip
        conv => whnf
        exact endFo (.ret (.va (.slice true 0 0 0 2 0 0))) F rfl (Fz.le_refl F) (Fz.le_refl F) ⟨_, rfl, by rw [← hf]; exact Sl.nil⟩ ⟨rfl, rfl, rfl⟩ rfl
      · skip
        conv => whnf
        refine freezeE 1 (fun _ => .arr 50 2 ((yo :: ro).map enc) co) rfl rfl rfl (fun _ _ => encB_ren _ (yo :: ro) co) (fun _ _ => encB_below _ _ _) ?_
        intro b F' hle hb
        exact endFo (.ret (.va (.slice false 0 (b 0) 0 2 (ro.length + 1) co))) F' rfl hle (Fz.le_refl F') ⟨_, rfl, by rw [← hf]; exact Sl.new (l := yo :: ro) (hb 0 ⟨rfl, rfl⟩)⟩ ⟨rfl, rfl, rfl, .inr ⟨rfl, rfl, rfl, rfl⟩⟩ rfl
  · have gk : k = x.length := by
        have h0 : ¬ (k : Int) < (x.length : Int) := by simpa using ga
        omega
    clear ga
    have hf := fin (.inl gk)
    rcases out with _ | ⟨yo, ro⟩
    · skip
      conv => whnf
      exact endFo (.ret (.va (.slice true 0 0 0 2 0 0))) F rfl (Fz.le_refl F) (Fz.le_refl F) ⟨_, rfl, by rw [← hf]; exact Sl.nil⟩ ⟨rfl, rfl, rfl⟩ rfl
    · skip
      conv => whnf
      refine freezeE 1 (fun _ => .arr 50 2 ((yo :: ro).map enc) co) rfl rfl rfl (fun _ _ => encB_ren _ (yo :: ro) co) (fun _ _ => encB_below _ _ _) ?_
      intro b F' hle hb
      exact endFo (.ret (.va (.slice false 0 (b 0) 0 2 (ro.length + 1) co))) F' rfl hle (Fz.le_refl F') ⟨_, rfl, by rw [← hf]; exact Sl.new (l := yo :: ro) (hb 0 ⟨rfl, rfl⟩)⟩ ⟨rfl, rfl, rfl, .inr ⟨rfl, rfl, rfl, rfl⟩⟩ rfl
end Go.Proofs.YtblllibdahkgfaaGreatDoor

namespace Go.Proofs.YtblllibdahkgfaaGreatDoor
open Go Sx
set_option maxRecDepth 100000
end Go.Proofs.YtblllibdahkgfaaGreatDoor

namespace Go.Proofs.YtblllibdahkgfaaGreatDoor
open Go Sx
set_option maxRecDepth 100000
end Go.Proofs.YtblllibdahkgfaaGreatDoor

namespace Go.Proofs.YtblllibdahkgfaaGreatDoor
open Go Sx
set_option maxRecDepth 100000
end Go.Proofs.YtblllibdahkgfaaGreatDoor

namespace Go.Proofs.YtblllibdahkgfaaGreatDoor
open Go Sx
set_option maxRecDepth 100000
end Go.Proofs.YtblllibdahkgfaaGreatDoor

namespace Go.Proofs.YtblllibdahkgfaaGreatDoor
open Go Sx
set_option maxRecDepth 100000
end Go.Proofs.YtblllibdahkgfaaGreatDoor

namespace Go.Proofs.YtblllibdahkgfaaGreatDoor
open Go Sx
set_option maxRecDepth 100000
end Go.Proofs.YtblllibdahkgfaaGreatDoor

namespace Go.Proofs.YtblllibdahkgfaaGreatDoor
open Go Sx
set_option maxRecDepth 100000
def colN (p : Int) : Nat := if p = 2 then 1 else if p = 3 ∨ p = 5 then 3 else if p = 4 then 4 else 0
theorem rcols_pu (p : Int) : Pu Tryz.prog 57 [.va (.int .i64 p)] (.va (.int .i64 (colN p : Nat))) := by
  intro F
  have h2 : p = 2 → colN p = 1 := fun h => by rw [colN, if_pos h]
  have h3 : p = 3 ∨ p = 5 → colN p = 3 := fun h => by rw [colN, if_neg (by omega), if_pos h]
  have h4 : p = 4 → colN p = 4 := fun h => by rw [colN, if_neg (by omega), if_neg (by omega), if_pos h]
  have h0 : ¬ p = 2 → ¬ p = 3 → ¬ p = 5 → ¬ p = 4 → colN p = 0 := fun a b c d => by rw [colN, if_neg a, if_neg (by omega), if_neg d]
  have e2 : ∀ h : p = 2, ((colN p : Nat) : Int) = 1 := fun h => by rw [h2 h]; rfl
  have e3 : ∀ h : p = 3 ∨ p = 5, ((colN p : Nat) : Int) = 3 := fun h => by rw [h3 h]; rfl
  have e4 : ∀ h : p = 4, ((colN p : Nat) : Int) = 4 := fun h => by rw [h4 h]; rfl
  have e0 : ¬ p = 2 → ¬ p = 3 → ¬ p = 5 → ¬ p = 4 → ((colN p : Nat) : Int) = 0 := fun a b c d => by rw [h0 a b c d]; rfl
  clear h2 h3 h4 h0
  refine fo_of hΘ Tryz.func57 rfl (by decide) _ _ rfl rfl rfl ?_
  conv => whnf
  refine br (fun g => ?_) (fun g => ?_)
  · conv => whnf
    exact endPu rfl (Fz.le_refl F) (congrArg (SA.int .i64) (e2 (of_decide_eq_true g))) rfl
  · have g2 : ¬ p = 2 := of_decide_eq_false g
    conv => whnf
    refine br (fun g => ?_) (fun g => ?_)
    · conv => whnf
      refine br (fun _ => ?_) (fun g' => absurd (of_decide_eq_true g) (of_decide_eq_false g'))
      conv => whnf
      exact endPu rfl (Fz.le_refl F) (congrArg (SA.int .i64) (e3 (.inl (of_decide_eq_true g)))) rfl
    · have g3 : ¬ p = 3 := of_decide_eq_false g
      conv => whnf
      refine br (fun g => ?_) (fun g => ?_)
      · conv => whnf
        exact endPu rfl (Fz.le_refl F) (congrArg (SA.int .i64) (e3 (.inr (of_decide_eq_true g)))) rfl
      · have g5 : ¬ p = 5 := of_decide_eq_false g
        conv => whnf
        refine br (fun g => ?_) (fun g => ?_)
        · conv => whnf
          exact endPu rfl (Fz.le_refl F) (congrArg (SA.int .i64) (e4 (of_decide_eq_true g))) rfl
        · have g4 : ¬ p = 4 := of_decide_eq_false g
          conv => whnf
          exact endPu rfl (Fz.le_refl F) (congrArg (SA.int .i64) (e0 g2 g3 g5 g4)) rfl
end Go.Proofs.YtblllibdahkgfaaGreatDoor

namespace Go.Proofs.YtblllibdahkgfaaGreatDoor
open Go Sx
set_option maxRecDepth 100000
abbrev RLn := List UInt8 × Int × Int × Int × Int
def encL (x : RLn) : List SA := [.str x.1, .int .i64 x.2.1, .int .i64 x.2.2.1, .int .i64 x.2.2.2.1, .int .i64 x.2.2.2.2]
theorem encL_plain : Plain encL := fun x => ⟨fun μ => rfl, fun a ha => by
  simp [encL] at ha
  rcases ha with rfl | rfl | rfl | rfl | rfl <;> trivial⟩
def inR (n lo hi : Int) : Bool := decide (lo ≤ n) && decide (n ≤ hi)
def afterL (l : List RLn) (x : RLn) : Bool :=
  match l.getLast? with
  | none => true
  | some y => !(decide (x.2.1 < y.2.1) || (decide (y.2.1 = x.2.1) && decide (x.2.2.1 ≤ y.2.2.1)))
def fitsR (p : Int) (l : List RLn) (x : RLn) : Bool :=
  if p = 1 then x.1.all (fun b => decide (32 ≤ b.toNat) && decide (b.toNat ≤ 126)) && decide (x.1.length ≤ 80)
  else if p = 2 then inR x.2.1 0 7
  else if inR x.2.1 0 31 = true ∧ inR x.2.2.1 0 31 = true ∧ afterL l x = true then
    if p = 3 then inR x.2.2.2.1 (-1000000) 1000000 else if p = 5 then inR x.2.2.2.1 (-1000000000000) 1000000000000 else inR x.2.2.2.1 0 x.2.1 && inR x.2.2.2.2 0 x.2.2.1
  else false
theorem withinL {n lo hi : Int} {b : Bool} (h : inR n lo hi = b) (F : Fz) : Fo Tryz.prog F 45 [.va (.int .i64 n), .va (.int .i64 lo), .va (.int .i64 hi)] (fun o F' => o = .ret (.va (.lit b)) ∧ F' = F) := by
  have h1 := rwithin_pu n lo hi F
  rw [show (decide (lo ≤ n) && decide (n ≤ hi)) = b from h] at h1
  exact Fo_lit h1
theorem afterL_nil (x : RLn) : afterL [] x = true := rfl
theorem fits_no {p : Int} {l : List RLn} {x : RLn} (g1 : ¬ p = 1) (g2 : ¬ p = 2) (h : inR x.2.1 0 31 = false ∨ inR x.2.2.1 0 31 = false ∨ afterL l x = false) : fitsR p l x = false := by
  rw [fitsR, if_neg g1, if_neg g2, if_neg]
  rintro ⟨h1, h2, h3⟩
  rcases h with h | h | h
  · rw [h1] at h; cases h
  · rw [h2] at h; cases h
  · rw [h3] at h; cases h
theorem fits_3 {p : Int} {l : List RLn} {x : RLn} (g : p = 3) (h1 : inR x.2.1 0 31 = true) (h2 : inR x.2.2.1 0 31 = true) (h3 : afterL l x = true) : fitsR p l x = inR x.2.2.2.1 (-1000000) 1000000 := by
  rw [fitsR, if_neg (by omega), if_neg (by omega), if_pos ⟨h1, h2, h3⟩, if_pos g]
theorem fits_5 {p : Int} {l : List RLn} {x : RLn} (g : p = 5) (h1 : inR x.2.1 0 31 = true) (h2 : inR x.2.2.1 0 31 = true) (h3 : afterL l x = true) : fitsR p l x = inR x.2.2.2.1 (-1000000000000) 1000000000000 := by
  rw [fitsR, if_neg (by omega), if_neg (by omega), if_pos ⟨h1, h2, h3⟩, if_neg (by omega), if_pos g]
theorem fits_4 {p : Int} {l : List RLn} {x : RLn} (g1 : ¬ p = 1) (g2 : ¬ p = 2) (g3 : ¬ p = 3) (g5 : ¬ p = 5) (h1 : inR x.2.1 0 31 = true) (h2 : inR x.2.2.1 0 31 = true) (h3 : afterL l x = true) : fitsR p l x = (inR x.2.2.2.1 0 x.2.1 && inR x.2.2.2.2 0 x.2.2.1) := by
  rw [fitsR, if_neg g1, if_neg g2, if_pos ⟨h1, h2, h3⟩, if_neg g3, if_neg g5]
end Go.Proofs.YtblllibdahkgfaaGreatDoor

namespace Go.Proofs.YtblllibdahkgfaaGreatDoor
open Go Sx
set_option maxRecDepth 100000
set_option maxHeartbeats 8000000 in
theorem fits_fn (F : Fz) (p : Int) (l : List RLn) (c : Nat) (x : RLn) (hx : x.1.length < 1000000) (hl : l.length < 1000000) (np : ¬ p = 1) :
    Ct Tryz.prog 49 [.va (.int .i64 p), .va (gA 5 1 c l), .agg (encL x)] F [(1, gE 88 5 encL c l)] 2
      (fun o F0 h0 n0 => F = F0 ∧ n0 = 2 ∧ o = .ret (.va (.bool (fitsR p l x))) ∧ h0 = [(1, gE 88 5 encL c l)]) := by
  have fin : ∀ (b : Bool) (a : SA) (h : Hp) (nx : Nat), fitsR p l x = b → atomE (.bool b) a → lget h 0 = some (.frz F) → lget h 1 = some (gE 88 5 encL c l) → a.ren (resP h) = a →
      Cln 2 (fun o F0 h0 n0 => Fz.le F F0 ∧ (F = F0 ∧ n0 = 2 ∧ o = .ret (.va (.bool (fitsR p l x))) ∧ h0 = [(1, gE 88 5 encL c l)])) (.ret (.va a)) h nx := by
    intro b a h nx hb ha h0 h1 hr
    subst hb
    exact clean [] (.ret (.va (.bool (fitsR p l x)))) F [(1, gE 88 5 encL c l)] 2 ⟨Fz.le_refl F, rfl, rfl, rfl, rfl⟩ (by show atomE _ (a.ren (resP h)); rw [hr]; exact ha) rfl rfl trivial ⟨gE_below encL_plain _ _ _ _ _, trivial⟩ ⟨by simp only [entE, aget, Ent.ren]; rw [h0]; exact Fz.le_refl F, by simp only [entE, aget]; rw [h1]; exact sub_gE encL_plain (gE_self _ _ _ _), trivial⟩
  obtain ⟨b0, hb0⟩ : ∃ b, inR x.2.1 0 31 = b := ⟨_, rfl⟩
  obtain ⟨b1, hb1⟩ : ∃ b, inR x.2.2.1 0 31 = b := ⟨_, rfl⟩
  obtain ⟨b3, hb3⟩ : ∃ b, inR x.2.2.2.1 (-1000000) 1000000 = b := ⟨_, rfl⟩
  obtain ⟨b5, hb5⟩ : ∃ b, inR x.2.2.2.1 (-1000000000000) 1000000000000 = b := ⟨_, rfl⟩
  obtain ⟨b4, hb4⟩ : ∃ b, inR x.2.2.2.1 0 x.2.1 = b := ⟨_, rfl⟩
  obtain ⟨b6, hb6⟩ : ∃ b, inR x.2.2.2.2 0 x.2.2.1 = b := ⟨_, rfl⟩
  have w0 := withinL hb0 F
  have w1 := withinL hb1 F
  have w3 := withinL hb3 F
  have w5 := withinL hb5 F
  have w4 := withinL hb4 F
  have w6 := withinL hb6 F
  have w7 := rwithin_pu x.2.1 0 7 F
  refine ct_of hΘ Tryz.func49 rfl (by decide) _ _ rfl rfl rfl ?_
  conv => whnf
  refine br (fun g => absurd (of_decide_eq_true g) np) (fun g => ?_)
  · clear g
    conv => whnf
    refine br (fun g => ?_) (fun g => ?_)
    · have g2 : p = 2 := of_decide_eq_true g
      have e : fitsR p l x = (decide (0 ≤ x.2.1) && decide (x.2.1 ≤ 7)) := by rw [fitsR, if_neg np, if_pos g2]; rfl
      conv => whnf
      refine ⟨by decide, ?_⟩
      conv => whnf
      refine usePu w7 rfl ⟨rfl, rfl, rfl, trivial⟩ rfl ?_
      conv => whnf
      exact fin _ _ _ _ e rfl rfl rfl rfl
    · have g2 : ¬ p = 2 := of_decide_eq_false g
      clear g
      rcases b0 with _ | _
      · have e := fits_no (l := l) np g2 (.inl hb0)
        conv => whnf
        refine ⟨by decide, ?_⟩
        conv => whnf
        refine usePu w0 rfl ⟨rfl, rfl, rfl, trivial⟩ rfl ?_
        conv => whnf
        exact fin _ _ _ _ e rfl rfl rfl rfl
      · skip
        conv => whnf
        refine ⟨by decide, ?_⟩
        conv => whnf
        refine usePu w0 rfl ⟨rfl, rfl, rfl, trivial⟩ rfl ?_
        conv => whnf
        refine ⟨by decide, ?_⟩
        conv => whnf
        refine usePu w1 rfl ⟨rfl, rfl, rfl, trivial⟩ rfl ?_
        rcases b1 with _ | _
        · have e := fits_no (l := l) np g2 (.inr (.inl hb1))
          conv => whnf
          exact fin _ _ _ _ e rfl rfl rfl rfl
        · rcases l with _ | ⟨y, r⟩
          · have h3 := afterL_nil x
            conv => whnf
            refine br (fun g => absurd g (by decide)) (fun _ => ?_)
            conv => whnf
            refine br (fun g => ?_) (fun g => ?_)
            · have e := (fits_3 (of_decide_eq_true g) hb0 hb1 h3).trans hb3
              conv => whnf
              refine ⟨by decide, ?_⟩
              conv => whnf
              refine usePu w3 rfl ⟨rfl, rfl, rfl, trivial⟩ rfl ?_
              conv => whnf
              exact fin _ _ _ _ e rfl rfl rfl rfl
            · have g3 : ¬ p = 3 := of_decide_eq_false g
              clear g
              conv => whnf
              refine br (fun g => ?_) (fun g => ?_)
              · have e := (fits_5 (of_decide_eq_true g) hb0 hb1 h3).trans hb5
                conv => whnf
                refine ⟨by decide, ?_⟩
                conv => whnf
                refine usePu w5 rfl ⟨rfl, rfl, rfl, trivial⟩ rfl ?_
                conv => whnf
                exact fin _ _ _ _ e rfl rfl rfl rfl
              · have g5 : ¬ p = 5 := of_decide_eq_false g
                clear g
                have e := fits_4 np g2 g3 g5 hb0 hb1 h3
                rw [hb4, hb6] at e
                conv => whnf
                refine ⟨by decide, ?_⟩
                conv => whnf
                refine ⟨by decide, ?_⟩
                conv => whnf
                refine usePu w4 rfl ⟨rfl, rfl, rfl, trivial⟩ rfl ?_
                rcases b4 with _ | _
                · skip
                  conv => whnf
                  exact fin _ _ _ _ e rfl rfl rfl rfl
                · skip
                  conv => whnf
                  refine ⟨by decide, ?_⟩
                  conv => whnf
                  refine ⟨by decide, ?_⟩
                  conv => whnf
                  refine usePu w6 rfl ⟨rfl, rfl, rfl, trivial⟩ rfl ?_
                  conv => whnf
                  exact fin _ _ _ _ e rfl rfl rfl rfl
          · have hw : IntKind.i64.wrap (((r.length + 1 : Nat) : Int) - 1) = ((r.length : Nat) : Int) := by
              have : r.length + 1 < 1000000 := hl
              rw [wrap64_id (by omega) (by omega)]; omega
            have hz : ∃ z, (y :: r)[r.length]? = some z := ⟨_, List.getElem?_eq_getElem (by simp)⟩
            obtain ⟨z, hz⟩ := hz
            have hz2 : ((y :: r).map encL)[r.length]? = some (encL z) := by rw [List.getElem?_map, hz]; rfl
            have hlast : (y :: r).getLast? = some z := by rw [List.getLast?_eq_getElem?]; exact hz
            have haft : afterL (y :: r) x = !(decide (x.2.1 < z.2.1) || (decide (z.2.1 = x.2.1) && decide (x.2.2.1 ≤ z.2.2.1))) := by rw [afterL, hlast]
            conv => whnf
            refine br (fun _ => ?_) (fun g => absurd (of_decide_eq_false g) (by omega))
            have hw1 : 0 ≤ IntKind.i64.wrap (((r.length + 1 : Nat) : Int) - 1) ∧ IntKind.i64.wrap (((r.length + 1 : Nat) : Int) - 1) < ((r.length + 1 : Nat) : Int) := by rw [hw]; omega
            have hz3 : ((y :: r).map encL)[0 + (IntKind.i64.wrap (((r.length + 1 : Nat) : Int) - 1)).toNat]? = some (encL z) := by rw [hw, Int.toNat_natCast, Nat.zero_add]; exact hz2
            conv => whnf
            refine ⟨rfl, hw1, ?_⟩
            conv => whnf
            refine ⟨rfl, _, hz3, ?_⟩
            conv => whnf
            refine ⟨by decide, ?_⟩
            conv => whnf
            refine ⟨by decide, ?_⟩
            refine ⟨fun ga => ?_, fun ga => ?_⟩
            · have ga' : ¬ x.2.1 < z.2.1 := of_decide_eq_false ga
              clear ga
              conv => whnf
              refine ⟨by decide, ?_⟩
              conv => whnf
              refine ⟨by decide, ?_⟩
              conv => whnf
              refine ⟨fun gb => ?_, fun gb => ?_⟩
              · have gb' : z.2.1 = x.2.1 := of_decide_eq_true gb
                clear gb
                conv => whnf
                refine ⟨by decide, ?_⟩
                conv => whnf
                refine ⟨by decide, ?_⟩
                conv => whnf
                refine br (fun gc => ?_) (fun gc => ?_)
                · have gc' : x.2.2.1 ≤ z.2.2.1 := of_decide_eq_true gc
                  have h3 : afterL (y :: r) x = false := by rw [haft, decide_eq_true gb', decide_eq_true gc']; simp
                  have e := fits_no np g2 (.inr (.inr h3))
                  conv => whnf
                  exact fin _ _ _ _ e rfl rfl rfl rfl
                · have gc' : ¬ x.2.2.1 ≤ z.2.2.1 := of_decide_eq_false gc
                  have h3 : afterL (y :: r) x = true := by rw [haft, decide_eq_false ga', decide_eq_false gc']; simp
                  clear gc
                  conv => whnf
                  refine br (fun g => ?_) (fun g => ?_)
                  · have e := (fits_3 (of_decide_eq_true g) hb0 hb1 h3).trans hb3
                    conv => whnf
                    refine ⟨by decide, ?_⟩
                    conv => whnf
                    refine usePu w3 rfl ⟨rfl, rfl, rfl, trivial⟩ rfl ?_
                    conv => whnf
                    exact fin _ _ _ _ e rfl rfl rfl rfl
                  · have g3 : ¬ p = 3 := of_decide_eq_false g
                    clear g
                    conv => whnf
                    refine br (fun g => ?_) (fun g => ?_)
                    · have e := (fits_5 (of_decide_eq_true g) hb0 hb1 h3).trans hb5
                      conv => whnf
                      refine ⟨by decide, ?_⟩
                      conv => whnf
                      refine usePu w5 rfl ⟨rfl, rfl, rfl, trivial⟩ rfl ?_
                      conv => whnf
                      exact fin _ _ _ _ e rfl rfl rfl rfl
                    · have g5 : ¬ p = 5 := of_decide_eq_false g
                      clear g
                      have e := fits_4 np g2 g3 g5 hb0 hb1 h3
                      rw [hb4, hb6] at e
                      conv => whnf
                      refine ⟨by decide, ?_⟩
                      conv => whnf
                      refine ⟨by decide, ?_⟩
                      conv => whnf
                      refine usePu w4 rfl ⟨rfl, rfl, rfl, trivial⟩ rfl ?_
                      rcases b4 with _ | _
                      · skip
                        conv => whnf
                        exact fin _ _ _ _ e rfl rfl rfl rfl
                      · skip
                        conv => whnf
                        refine ⟨by decide, ?_⟩
                        conv => whnf
                        refine ⟨by decide, ?_⟩
                        conv => whnf
                        refine usePu w6 rfl ⟨rfl, rfl, rfl, trivial⟩ rfl ?_
                        conv => whnf
                        exact fin _ _ _ _ e rfl rfl rfl rfl
              · have gb' : ¬ z.2.1 = x.2.1 := of_decide_eq_false gb
                have h3 : afterL (y :: r) x = true := by rw [haft, decide_eq_false ga', decide_eq_false gb']; simp
                clear gb
                conv => whnf
                refine br (fun g => ?_) (fun g => ?_)
                · have e := (fits_3 (of_decide_eq_true g) hb0 hb1 h3).trans hb3
                  conv => whnf
                  refine ⟨by decide, ?_⟩
                  conv => whnf
                  refine usePu w3 rfl ⟨rfl, rfl, rfl, trivial⟩ rfl ?_
                  conv => whnf
                  exact fin _ _ _ _ e rfl rfl rfl rfl
                · have g3 : ¬ p = 3 := of_decide_eq_false g
                  clear g
                  conv => whnf
                  refine br (fun g => ?_) (fun g => ?_)
                  · have e := (fits_5 (of_decide_eq_true g) hb0 hb1 h3).trans hb5
                    conv => whnf
                    refine ⟨by decide, ?_⟩
                    conv => whnf
                    refine usePu w5 rfl ⟨rfl, rfl, rfl, trivial⟩ rfl ?_
                    conv => whnf
                    exact fin _ _ _ _ e rfl rfl rfl rfl
                  · have g5 : ¬ p = 5 := of_decide_eq_false g
                    clear g
                    have e := fits_4 np g2 g3 g5 hb0 hb1 h3
                    rw [hb4, hb6] at e
                    conv => whnf
                    refine ⟨by decide, ?_⟩
                    conv => whnf
                    refine ⟨by decide, ?_⟩
                    conv => whnf
                    refine usePu w4 rfl ⟨rfl, rfl, rfl, trivial⟩ rfl ?_
                    rcases b4 with _ | _
                    · skip
                      conv => whnf
                      exact fin _ _ _ _ e rfl rfl rfl rfl
                    · skip
                      conv => whnf
                      refine ⟨by decide, ?_⟩
                      conv => whnf
                      refine ⟨by decide, ?_⟩
                      conv => whnf
                      refine usePu w6 rfl ⟨rfl, rfl, rfl, trivial⟩ rfl ?_
                      conv => whnf
                      exact fin _ _ _ _ e rfl rfl rfl rfl
            · have ga' : x.2.1 < z.2.1 := of_decide_eq_true ga
              have h3 : afterL (y :: r) x = false := by rw [haft, decide_eq_true ga']; simp
              have e := fits_no np g2 (.inr (.inr h3))
              clear ga
              conv => whnf
              exact fin _ _ _ _ e rfl rfl rfl rfl
end Go.Proofs.YtblllibdahkgfaaGreatDoor
