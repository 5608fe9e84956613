import Derived.Test.YtblllibdahkgfaaGreatDoorK26
import Derived.Test.YtblllibdahkgfaaGreatDoorK25
import Derived.Test.YtblllibdahkgfaaGreatDoorK12

namespace Go.Proofs.YtblllibdahkgfaaGreatDoor
open Go Sx
set_option maxRecDepth 100000
theorem rdO_mk {cs : Array Value} {t : TypeId} {fr : Nat × Nat} {i : Nat} {z : Int} (h : cs[i]? = some (.int .i64 z)) : RdO (.cells cs t fr) i 1 [.int .i64 z] := by
  refine ⟨rfl, fun a ha => ?_, fun ρ => ⟨t, fr, cs.toList.take i, cs.toList.drop (i + 1), ?_, ?_⟩⟩
  · simp at ha; subst ha; trivial
  · have hi := (Array.getElem?_eq_some_iff.1 h).1
    have he : cs[i] = .int .i64 z := (Array.getElem?_eq_some_iff.1 h).2
    congr 1
    apply Array.toList_inj.1
    have hl : i < cs.toList.length := by simpa using hi
    have e1 : cs.toList = cs.toList.take i ++ cs.toList[i] :: cs.toList.drop (i + 1) := by
      rw [← List.drop_eq_getElem_cons hl, List.take_append_drop]
    have e2 : cs.toList[i] = .int .i64 z := by simpa using he
    rw [e2] at e1
    simpa [SA.den] using e1
  · have hi := (Array.getElem?_eq_some_iff.1 h).1
    rw [List.length_take, Array.length_toList]; omega
theorem RawB.rd {B : SB} {i : Nat} {z : Int} {p : Pl} {K : List SA → Prop} (h : RawB B i z) (hp : p.e * p.sz + p.o = i) (hk : K [.int .i64 z]) : rdB B p 1 K := by
  cases B with
  | obj o =>
    cases o with
    | cells cs t fr => exact ⟨_, by rw [hp]; exact rdO_mk h, hk⟩
    | _ => exact h.elim
  | cells t l =>
    simp only [rdB]
    rw [hp, takeAt_get l i _ h]
    exact hk
  | arr t sz L room => exact h.elim
theorem RawAt.rdO {F : Fz} {b off : Nat} {zs : List Int} (h : RawAt F b off zs) : ∃ B, ∀ (k : Nat) (g : k < zs.length), F b = some B ∧ RawB B (off + k) zs[k] := by
  rcases h with h | ⟨B, h1, h2⟩
  · exact ⟨.cells 0 [], fun k g => by subst h; simp at g⟩
  · exact ⟨B, fun k g => ⟨h1, h2 k g⟩⟩
set_option maxHeartbeats 8000000 in
theorem steps_raw (F : Fz) (b0 off cap : Nat) (x : List Int) (p : Int) (ha : RawAt F b0 off x) (hl : x.length < 9223372036854775808) (hx : ∀ a ∈ x, i64 a) (hp : 1 ≤ p ∧ p ≤ 8) :
    Fo Tryz.prog F 14 [.va (.int .i64 p), .va (.slice false 0 b0 off 1 x.length cap)] (fun o F' => ∃ sc, o = .ret (.va sc) ∧ StepsAt F' sc (stepsS p x)) := by
  have hro := ha.rdO
  obtain ⟨ob, hro⟩ := hro
  clear ha
  refine fo_of hΘ Tryz.func14 rfl (by decide) _ _ rfl rfl rfl ?_
  conv => whnf
  refine loop_at hΘ (X := { q : Nat × List Stp × Nat // (q.1 ≤ x.length ∧ q.1 ≤ 8) ∧ q.2.1 = (((x.take 8).take q.1).map (stepOf p)).flatten }) (fun q => [(5, .va (oA 1 q.1.2.2 q.1.2.1)), (6, .va (.int .i64 q.1.1))]) [7, 8, 9, 10, 11, 12, 13, 14, 15, 16, 17, 18, 19, 20, 21, 22, 23, 24, 25, 26, 27, 28, 29, 30, 31, 32, 33, 34, 35, 36, 37, 38, 39, 40, 41, 42, 43, 44, 45, 46, 47, 48, 49, 50, 51, 52, 53, 54, 55, 56, 57, 58, 59, 60, 61, 62, 63, 64]
    (fun q => [(0, .frz F), (1, oE q.1.2.2 q.1.2.1)]) 2 (fun q => x.length - q.1.1) ⟨(0, [], 0), by simp⟩
    (fun hH hT => leI [(1, 1)] hH hT rfl ⟨trivial, oE_below _ _ _, trivial⟩ ⟨rfl, rfl, trivial⟩ ⟨Fz.le_refl F, rfl, trivial⟩) ?_
  rintro ⟨⟨k, out, co⟩, hk, hout⟩ hH hT
  replace hk : k ≤ x.length ∧ k ≤ 8 := hk
  have hro2 : ∀ (k : Nat) (g : k < x.length), (off + (k : Int).toNat) * 1 + 0 = off + k := fun k g => by
    simp
  replace hout : out = (((x.take 8).take k).map (stepOf p)).flatten := hout
  have fin : k = x.length ∨ k = 8 → out = stepsS p x := fun h => by
    rw [hout, stepsS, List.take_of_length_le (by rw [List.length_take]; omega)]
  have hol : out.length ≤ 100 := by
    rw [hout]
    have h1 := steps_len p ((x.take 8).take k)
    rw [List.length_take, List.length_take] at h1
    omega
  conv => whnf
  refine ⟨fun ga => ?_, fun ga => ?_⟩
  · have gk : k < x.length := by
        have h0 : (k : Int) < (x.length : Int) := of_decide_eq_true ga
        omega
    clear ga
    conv => whnf
    refine br (fun gb => ?_) (fun gb => ?_)
    · have g8 : k < 8 := by
          have h0 : (k : Int) < 8 := of_decide_eq_true gb
          omega
      clear gb
      have hxk := hx _ (List.getElem_mem gk)
      have h8 := tdiv8 hxk
      have hr := pick_range (n := 21) h8.2 (by decide)
      have hnext := steps_succ (p := p) gk g8
      rw [← hout] at hnext
      conv => whnf
      refine ⟨rfl, ⟨by simp, by simpa using gk⟩, ?_⟩
      conv => whnf
      refine ⟨_, (hro k gk).1, ?_⟩
      refine (hro k gk).2.rd (hro2 k gk) ?_
      conv => whnf
      refine usePu (pick_pu x[k] 8 hxk (by decide) F) rfl (argsE_refl _) rfl ?_
      conv => whnf
      refine ⟨rfl, ⟨by simp, by simpa using gk⟩, ?_⟩
      conv => whnf
      refine ⟨_, (hro k gk).1, ?_⟩
      refine (hro k gk).2.rd (hro2 k gk) ?_
      conv => whnf
      refine ⟨by decide, ?_⟩
      conv => whnf
      refine usePu (pick_pu (x[k].tdiv 8) 21 h8.2 (by decide) F) rfl ⟨congrArg (SA.int .i64) h8.1.symm, rfl, trivial⟩ rfl ?_
      conv => whnf
      refine br (fun gm => ?_) (fun gm => ?_)
      · have gm' : 0 < pickI x[k] 8 := of_decide_eq_true gm
        clear gm
        conv => whnf
        refine br (fun g1 => ?_) (fun g1 => ?_)
        · have g1' : p = 1 := of_decide_eq_true g1
          clear g1
          have hstep : stepOf p x[k] = [(1 + (pickI (x[k].tdiv 8) 21).tmod 2, 0)] := by rw [stepOf, if_pos gm', if_pos g1']
          have h0 : 0 ≤ (pickI (x[k].tdiv 8) 21).tmod 2 := Int.tmod_nonneg _ hr.1
          have h1 : (pickI (x[k].tdiv 8) 21).tmod 2 < 2 := Int.tmod_lt_of_pos _ (by decide)
          have hget : [[SA.int .i64 1], [SA.int .i64 2]][0 + ((pickI (x[k].tdiv 8) 21).tmod 2).toNat]? = some [SA.int .i64 (1 + (pickI (x[k].tdiv 8) 21).tmod 2)] := by
            have hc : (pickI (x[k].tdiv 8) 21).tmod 2 = 0 ∨ (pickI (x[k].tdiv 8) 21).tmod 2 = 1 := by omega
            rcases hc with h | h <;> rw [h] <;> rfl
          have hout' : out ++ [(1 + (pickI (x[k].tdiv 8) 21).tmod 2, 0)] = (((x.take 8).take (k + 1)).map (stepOf p)).flatten := by rw [hnext, hstep]
          clear hnext hstep
          rcases out with _ | ⟨yo, ro⟩
          · skip
            conv => whnf
            refine ⟨by decide, ?_⟩
            conv => whnf
            refine ⟨rfl, ⟨h0, h1⟩, ?_⟩
            conv => whnf
            refine ⟨_, hget, ?_⟩
            conv => whnf
            refine ⟨Nat.le_refl 1, [enc (1 + (pickI (x[k].tdiv 8) 21).tmod 2, 0)], rfl, ?_⟩
            conv => whnf
            refine ⟨rfl, rfl, ?_⟩
            conv => whnf
            refine ⟨by show 1 * 16 ≤ 140737488355328; omega, fun c' hc => ?_⟩
            conv => whnf
            exact ⟨⟨(k + 1, ([] : List Stp) ++ [(1 + (pickI (x[k].tdiv 8) 21).tmod 2, 0)], c'), by show k + 1 ≤ x.length ∧ k + 1 ≤ 8; omega, hout'⟩, by show x.length - (k + 1) < x.length - k; omega, leR [(1, 5)] hH hT rfl ⟨trivial, oE_below _ _ _, trivial⟩ ⟨(oA_new (μ := sig [(1, 5)]) (i := 1) (j := 5) rfl c' _ ([]) (1 + (pickI (x[k].tdiv 8) 21).tmod 2, 0) rfl), cnt (by omega), trivial⟩ ⟨Fz.le_refl F, sub_oE (oE_one [enc (1 + (pickI (x[k].tdiv 8) 21).tmod 2, 0)] rfl), trivial⟩⟩
          · skip
            conv => whnf
            refine ⟨by decide, ?_⟩
            conv => whnf
            refine ⟨rfl, ⟨h0, h1⟩, ?_⟩
            conv => whnf
            refine ⟨_, hget, ?_⟩
            conv => whnf
            replace hol : ro.length + 1 ≤ 100 := hol
            refine ⟨Nat.le_refl 1, [enc (1 + (pickI (x[k].tdiv 8) 21).tmod 2, 0)], rfl, ?_⟩
            conv => whnf
            refine ⟨rfl, rfl, by simp, rfl, by show (ro.length + 1 + 1) * 16 ≤ 140737488355328; omega, fun c' hc => ?_⟩
            conv => whnf
            exact ⟨⟨(k + 1, (yo :: ro : List Stp) ++ [(1 + (pickI (x[k].tdiv 8) 21).tmod 2, 0)], c'), by show k + 1 ≤ x.length ∧ k + 1 ≤ 8; omega, hout'⟩, by show x.length - (k + 1) < x.length - k; omega, leR [(1, 5)] hH hT rfl ⟨trivial, oE_below _ _ _, trivial⟩ ⟨(oA_new (μ := sig [(1, 5)]) (i := 1) (j := 5) rfl c' _ (yo :: ro) (1 + (pickI (x[k].tdiv 8) 21).tmod 2, 0) rfl), cnt (by omega), trivial⟩ ⟨Fz.le_refl F, sub_oE (oE_one _ (by simp)), trivial⟩⟩
        · have n1 : ¬ p = 1 := of_decide_eq_false g1
          clear g1
          conv => whnf
          refine br (fun g1 => ?_) (fun g1 => ?_)
          · have g2 : p = 2 := of_decide_eq_true g1
            clear g1
            have hstep : stepOf p x[k] = [(4, (pickI (x[k].tdiv 8) 21).tmod 7)] := by rw [stepOf, if_pos gm', if_neg n1, if_pos g2]
            have hout' : out ++ [(4, (pickI (x[k].tdiv 8) 21).tmod 7)] = (((x.take 8).take (k + 1)).map (stepOf p)).flatten := by rw [hnext, hstep]
            clear hnext hstep
            rcases out with _ | ⟨yo, ro⟩
            · skip
              conv => whnf
              refine ⟨by decide, ?_⟩
              conv => whnf
              refine ⟨Nat.le_refl 1, [enc (4, (pickI (x[k].tdiv 8) 21).tmod 7)], rfl, ?_⟩
              conv => whnf
              refine ⟨rfl, rfl, ?_⟩
              conv => whnf
              refine ⟨by show 1 * 16 ≤ 140737488355328; omega, fun c' hc => ?_⟩
              conv => whnf
              exact ⟨⟨(k + 1, ([] : List Stp) ++ [(4, (pickI (x[k].tdiv 8) 21).tmod 7)], c'), by show k + 1 ≤ x.length ∧ k + 1 ≤ 8; omega, hout'⟩, by show x.length - (k + 1) < x.length - k; omega, leR [(1, 4)] hH hT rfl ⟨trivial, oE_below _ _ _, trivial⟩ ⟨(oA_new (μ := sig [(1, 4)]) (i := 1) (j := 4) rfl c' _ ([]) (4, (pickI (x[k].tdiv 8) 21).tmod 7) rfl), cnt (by omega), trivial⟩ ⟨Fz.le_refl F, sub_oE (oE_one [enc (4, (pickI (x[k].tdiv 8) 21).tmod 7)] rfl), trivial⟩⟩
            · skip
              conv => whnf
              refine ⟨by decide, ?_⟩
              conv => whnf
              replace hol : ro.length + 1 ≤ 100 := hol
              refine ⟨Nat.le_refl 1, [enc (4, (pickI (x[k].tdiv 8) 21).tmod 7)], rfl, ?_⟩
              conv => whnf
              refine ⟨rfl, rfl, by simp, rfl, by show (ro.length + 1 + 1) * 16 ≤ 140737488355328; omega, fun c' hc => ?_⟩
              conv => whnf
              exact ⟨⟨(k + 1, (yo :: ro : List Stp) ++ [(4, (pickI (x[k].tdiv 8) 21).tmod 7)], c'), by show k + 1 ≤ x.length ∧ k + 1 ≤ 8; omega, hout'⟩, by show x.length - (k + 1) < x.length - k; omega, leR [(1, 4)] hH hT rfl ⟨trivial, oE_below _ _ _, trivial⟩ ⟨(oA_new (μ := sig [(1, 4)]) (i := 1) (j := 4) rfl c' _ (yo :: ro) (4, (pickI (x[k].tdiv 8) 21).tmod 7) rfl), cnt (by omega), trivial⟩ ⟨Fz.le_refl F, sub_oE (oE_one _ (by simp)), trivial⟩⟩
          · have n2 : ¬ p = 2 := of_decide_eq_false g1
            clear g1
            conv => whnf
            refine br (fun g1 => ?_) (fun g1 => ?_)
            · have g3 : p = 3 := of_decide_eq_true g1
              clear g1
              have hstep : stepOf p x[k] = [(3, if (pickI (x[k].tdiv 8) 21).tmod 3 = 0 then 10 else if (pickI (x[k].tdiv 8) 21).tmod 3 = 1 then 100 else 1000)] := by rw [stepOf, if_pos gm', if_neg n1, if_neg n2, if_pos (.inl g3)]
              have h0 : 0 ≤ (pickI (x[k].tdiv 8) 21).tmod 3 := Int.tmod_nonneg _ hr.1
              have h1 : (pickI (x[k].tdiv 8) 21).tmod 3 < 3 := Int.tmod_lt_of_pos _ (by decide)
              have hget : [[SA.int .i64 10], [SA.int .i64 100], [SA.int .i64 1000]][0 + ((pickI (x[k].tdiv 8) 21).tmod 3).toNat]? = some [SA.int .i64 (if (pickI (x[k].tdiv 8) 21).tmod 3 = 0 then 10 else if (pickI (x[k].tdiv 8) 21).tmod 3 = 1 then 100 else 1000)] := by
                have hc : (pickI (x[k].tdiv 8) 21).tmod 3 = 0 ∨ (pickI (x[k].tdiv 8) 21).tmod 3 = 1 ∨ (pickI (x[k].tdiv 8) 21).tmod 3 = 2 := by omega
                rcases hc with h | h | h <;> rw [h] <;> rfl
              have hout' : out ++ [(3, if (pickI (x[k].tdiv 8) 21).tmod 3 = 0 then 10 else if (pickI (x[k].tdiv 8) 21).tmod 3 = 1 then 100 else 1000)] = (((x.take 8).take (k + 1)).map (stepOf p)).flatten := by rw [hnext, hstep]
              clear hnext hstep
              rcases out with _ | ⟨yo, ro⟩
              · skip
                conv => whnf
                refine br (fun _ => ?_) (fun g => absurd g3 (of_decide_eq_false g))
                conv => whnf
                refine ⟨by decide, ?_⟩
                conv => whnf
                refine ⟨rfl, ⟨h0, h1⟩, ?_⟩
                conv => whnf
                refine ⟨_, hget, ?_⟩
                conv => whnf
                refine ⟨Nat.le_refl 1, [enc (3, if (pickI (x[k].tdiv 8) 21).tmod 3 = 0 then 10 else if (pickI (x[k].tdiv 8) 21).tmod 3 = 1 then 100 else 1000)], rfl, ?_⟩
                conv => whnf
                refine ⟨rfl, rfl, ?_⟩
                conv => whnf
                refine ⟨by show 1 * 16 ≤ 140737488355328; omega, fun c' hc => ?_⟩
                conv => whnf
                exact ⟨⟨(k + 1, ([] : List Stp) ++ [(3, if (pickI (x[k].tdiv 8) 21).tmod 3 = 0 then 10 else if (pickI (x[k].tdiv 8) 21).tmod 3 = 1 then 100 else 1000)], c'), by show k + 1 ≤ x.length ∧ k + 1 ≤ 8; omega, hout'⟩, by show x.length - (k + 1) < x.length - k; omega, leR [(1, 5)] hH hT rfl ⟨trivial, oE_below _ _ _, trivial⟩ ⟨(oA_new (μ := sig [(1, 5)]) (i := 1) (j := 5) rfl c' _ ([]) (3, if (pickI (x[k].tdiv 8) 21).tmod 3 = 0 then 10 else if (pickI (x[k].tdiv 8) 21).tmod 3 = 1 then 100 else 1000) rfl), cnt (by omega), trivial⟩ ⟨Fz.le_refl F, sub_oE (oE_one [enc (3, if (pickI (x[k].tdiv 8) 21).tmod 3 = 0 then 10 else if (pickI (x[k].tdiv 8) 21).tmod 3 = 1 then 100 else 1000)] rfl), trivial⟩⟩
              · skip
                conv => whnf
                refine br (fun _ => ?_) (fun g => absurd g3 (of_decide_eq_false g))
                conv => whnf
                refine ⟨by decide, ?_⟩
                conv => whnf
                refine ⟨rfl, ⟨h0, h1⟩, ?_⟩
                conv => whnf
                refine ⟨_, hget, ?_⟩
                conv => whnf
                replace hol : ro.length + 1 ≤ 100 := hol
                refine ⟨Nat.le_refl 1, [enc (3, if (pickI (x[k].tdiv 8) 21).tmod 3 = 0 then 10 else if (pickI (x[k].tdiv 8) 21).tmod 3 = 1 then 100 else 1000)], rfl, ?_⟩
                conv => whnf
                refine ⟨rfl, rfl, by simp, rfl, by show (ro.length + 1 + 1) * 16 ≤ 140737488355328; omega, fun c' hc => ?_⟩
                conv => whnf
                exact ⟨⟨(k + 1, (yo :: ro : List Stp) ++ [(3, if (pickI (x[k].tdiv 8) 21).tmod 3 = 0 then 10 else if (pickI (x[k].tdiv 8) 21).tmod 3 = 1 then 100 else 1000)], c'), by show k + 1 ≤ x.length ∧ k + 1 ≤ 8; omega, hout'⟩, by show x.length - (k + 1) < x.length - k; omega, leR [(1, 5)] hH hT rfl ⟨trivial, oE_below _ _ _, trivial⟩ ⟨(oA_new (μ := sig [(1, 5)]) (i := 1) (j := 5) rfl c' _ (yo :: ro) (3, if (pickI (x[k].tdiv 8) 21).tmod 3 = 0 then 10 else if (pickI (x[k].tdiv 8) 21).tmod 3 = 1 then 100 else 1000) rfl), cnt (by omega), trivial⟩ ⟨Fz.le_refl F, sub_oE (oE_one _ (by simp)), trivial⟩⟩
            · have n3 : ¬ p = 3 := of_decide_eq_false g1
              clear g1
              conv => whnf
              refine br (fun g1 => ?_) (fun g1 => ?_)
              · have g3 : p = 5 := of_decide_eq_true g1
                clear g1
                have hstep : stepOf p x[k] = [(3, if (pickI (x[k].tdiv 8) 21).tmod 3 = 0 then 10 else if (pickI (x[k].tdiv 8) 21).tmod 3 = 1 then 100 else 1000)] := by rw [stepOf, if_pos gm', if_neg n1, if_neg n2, if_pos (.inr g3)]
                have h0 : 0 ≤ (pickI (x[k].tdiv 8) 21).tmod 3 := Int.tmod_nonneg _ hr.1
                have h1 : (pickI (x[k].tdiv 8) 21).tmod 3 < 3 := Int.tmod_lt_of_pos _ (by decide)
                have hget : [[SA.int .i64 10], [SA.int .i64 100], [SA.int .i64 1000]][0 + ((pickI (x[k].tdiv 8) 21).tmod 3).toNat]? = some [SA.int .i64 (if (pickI (x[k].tdiv 8) 21).tmod 3 = 0 then 10 else if (pickI (x[k].tdiv 8) 21).tmod 3 = 1 then 100 else 1000)] := by
                  have hc : (pickI (x[k].tdiv 8) 21).tmod 3 = 0 ∨ (pickI (x[k].tdiv 8) 21).tmod 3 = 1 ∨ (pickI (x[k].tdiv 8) 21).tmod 3 = 2 := by omega
                  rcases hc with h | h | h <;> rw [h] <;> rfl
                have hout' : out ++ [(3, if (pickI (x[k].tdiv 8) 21).tmod 3 = 0 then 10 else if (pickI (x[k].tdiv 8) 21).tmod 3 = 1 then 100 else 1000)] = (((x.take 8).take (k + 1)).map (stepOf p)).flatten := by rw [hnext, hstep]
                clear hnext hstep
                rcases out with _ | ⟨yo, ro⟩
                · skip
                  conv => whnf
                  refine ⟨by decide, ?_⟩
                  conv => whnf
                  refine ⟨rfl, ⟨h0, h1⟩, ?_⟩
                  conv => whnf
                  refine ⟨_, hget, ?_⟩
                  conv => whnf
                  refine ⟨Nat.le_refl 1, [enc (3, if (pickI (x[k].tdiv 8) 21).tmod 3 = 0 then 10 else if (pickI (x[k].tdiv 8) 21).tmod 3 = 1 then 100 else 1000)], rfl, ?_⟩
                  conv => whnf
                  refine ⟨rfl, rfl, ?_⟩
                  conv => whnf
                  refine ⟨by show 1 * 16 ≤ 140737488355328; omega, fun c' hc => ?_⟩
                  conv => whnf
                  exact ⟨⟨(k + 1, ([] : List Stp) ++ [(3, if (pickI (x[k].tdiv 8) 21).tmod 3 = 0 then 10 else if (pickI (x[k].tdiv 8) 21).tmod 3 = 1 then 100 else 1000)], c'), by show k + 1 ≤ x.length ∧ k + 1 ≤ 8; omega, hout'⟩, by show x.length - (k + 1) < x.length - k; omega, leR [(1, 5)] hH hT rfl ⟨trivial, oE_below _ _ _, trivial⟩ ⟨(oA_new (μ := sig [(1, 5)]) (i := 1) (j := 5) rfl c' _ ([]) (3, if (pickI (x[k].tdiv 8) 21).tmod 3 = 0 then 10 else if (pickI (x[k].tdiv 8) 21).tmod 3 = 1 then 100 else 1000) rfl), cnt (by omega), trivial⟩ ⟨Fz.le_refl F, sub_oE (oE_one [enc (3, if (pickI (x[k].tdiv 8) 21).tmod 3 = 0 then 10 else if (pickI (x[k].tdiv 8) 21).tmod 3 = 1 then 100 else 1000)] rfl), trivial⟩⟩
                · skip
                  conv => whnf
                  refine ⟨by decide, ?_⟩
                  conv => whnf
                  refine ⟨rfl, ⟨h0, h1⟩, ?_⟩
                  conv => whnf
                  refine ⟨_, hget, ?_⟩
                  conv => whnf
                  replace hol : ro.length + 1 ≤ 100 := hol
                  refine ⟨Nat.le_refl 1, [enc (3, if (pickI (x[k].tdiv 8) 21).tmod 3 = 0 then 10 else if (pickI (x[k].tdiv 8) 21).tmod 3 = 1 then 100 else 1000)], rfl, ?_⟩
                  conv => whnf
                  refine ⟨rfl, rfl, by simp, rfl, by show (ro.length + 1 + 1) * 16 ≤ 140737488355328; omega, fun c' hc => ?_⟩
                  conv => whnf
                  exact ⟨⟨(k + 1, (yo :: ro : List Stp) ++ [(3, if (pickI (x[k].tdiv 8) 21).tmod 3 = 0 then 10 else if (pickI (x[k].tdiv 8) 21).tmod 3 = 1 then 100 else 1000)], c'), by show k + 1 ≤ x.length ∧ k + 1 ≤ 8; omega, hout'⟩, by show x.length - (k + 1) < x.length - k; omega, leR [(1, 5)] hH hT rfl ⟨trivial, oE_below _ _ _, trivial⟩ ⟨(oA_new (μ := sig [(1, 5)]) (i := 1) (j := 5) rfl c' _ (yo :: ro) (3, if (pickI (x[k].tdiv 8) 21).tmod 3 = 0 then 10 else if (pickI (x[k].tdiv 8) 21).tmod 3 = 1 then 100 else 1000) rfl), cnt (by omega), trivial⟩ ⟨Fz.le_refl F, sub_oE (oE_one _ (by simp)), trivial⟩⟩
              · have n5 : ¬ p = 5 := of_decide_eq_false g1
                clear g1
                conv => whnf
                refine br (fun g1 => ?_) (fun g1 => ?_)
                · have g6 : p = 6 := of_decide_eq_true g1
                  clear g1
                  have hstep : stepOf p x[k] = [(5, 0)] := by rw [stepOf, if_pos gm', if_neg n1, if_neg n2, if_neg (by omega), if_pos (.inl g6)]
                  have hout' : out ++ [(5, 0)] = (((x.take 8).take (k + 1)).map (stepOf p)).flatten := by rw [hnext, hstep]
                  clear hnext hstep
                  rcases out with _ | ⟨yo, ro⟩
                  · skip
                    conv => whnf
                    refine br (fun _ => ?_) (fun g => absurd g6 (of_decide_eq_false g))
                    conv => whnf
                    refine ⟨Nat.le_refl 1, [enc (5, 0)], rfl, ?_⟩
                    conv => whnf
                    refine ⟨rfl, rfl, ?_⟩
                    conv => whnf
                    refine ⟨by show 1 * 16 ≤ 140737488355328; omega, fun c' hc => ?_⟩
                    conv => whnf
                    exact ⟨⟨(k + 1, ([] : List Stp) ++ [(5, 0)], c'), by show k + 1 ≤ x.length ∧ k + 1 ≤ 8; omega, hout'⟩, by show x.length - (k + 1) < x.length - k; omega, leR [(1, 4)] hH hT rfl ⟨trivial, oE_below _ _ _, trivial⟩ ⟨(oA_new (μ := sig [(1, 4)]) (i := 1) (j := 4) rfl c' _ ([]) (5, 0) rfl), cnt (by omega), trivial⟩ ⟨Fz.le_refl F, sub_oE (oE_one [enc (5, 0)] rfl), trivial⟩⟩
                  · skip
                    conv => whnf
                    refine br (fun _ => ?_) (fun g => absurd g6 (of_decide_eq_false g))
                    conv => whnf
                    replace hol : ro.length + 1 ≤ 100 := hol
                    refine ⟨Nat.le_refl 1, [enc (5, 0)], rfl, ?_⟩
                    conv => whnf
                    refine ⟨rfl, rfl, by simp, rfl, by show (ro.length + 1 + 1) * 16 ≤ 140737488355328; omega, fun c' hc => ?_⟩
                    conv => whnf
                    exact ⟨⟨(k + 1, (yo :: ro : List Stp) ++ [(5, 0)], c'), by show k + 1 ≤ x.length ∧ k + 1 ≤ 8; omega, hout'⟩, by show x.length - (k + 1) < x.length - k; omega, leR [(1, 4)] hH hT rfl ⟨trivial, oE_below _ _ _, trivial⟩ ⟨(oA_new (μ := sig [(1, 4)]) (i := 1) (j := 4) rfl c' _ (yo :: ro) (5, 0) rfl), cnt (by omega), trivial⟩ ⟨Fz.le_refl F, sub_oE (oE_one _ (by simp)), trivial⟩⟩
                · have n6 : ¬ p = 6 := of_decide_eq_false g1
                  clear g1
                  conv => whnf
                  refine br (fun g1 => ?_) (fun g1 => ?_)
                  · have g6 : p = 7 := of_decide_eq_true g1
                    clear g1
                    have hstep : stepOf p x[k] = [(5, 0)] := by rw [stepOf, if_pos gm', if_neg n1, if_neg n2, if_neg (by omega), if_pos (.inr g6)]
                    have hout' : out ++ [(5, 0)] = (((x.take 8).take (k + 1)).map (stepOf p)).flatten := by rw [hnext, hstep]
                    clear hnext hstep
                    rcases out with _ | ⟨yo, ro⟩
                    · skip
                      conv => whnf
                      refine ⟨Nat.le_refl 1, [enc (5, 0)], rfl, ?_⟩
                      conv => whnf
                      refine ⟨rfl, rfl, ?_⟩
                      conv => whnf
                      refine ⟨by show 1 * 16 ≤ 140737488355328; omega, fun c' hc => ?_⟩
                      conv => whnf
                      exact ⟨⟨(k + 1, ([] : List Stp) ++ [(5, 0)], c'), by show k + 1 ≤ x.length ∧ k + 1 ≤ 8; omega, hout'⟩, by show x.length - (k + 1) < x.length - k; omega, leR [(1, 4)] hH hT rfl ⟨trivial, oE_below _ _ _, trivial⟩ ⟨(oA_new (μ := sig [(1, 4)]) (i := 1) (j := 4) rfl c' _ ([]) (5, 0) rfl), cnt (by omega), trivial⟩ ⟨Fz.le_refl F, sub_oE (oE_one [enc (5, 0)] rfl), trivial⟩⟩
                    · skip
                      conv => whnf
                      replace hol : ro.length + 1 ≤ 100 := hol
                      refine ⟨Nat.le_refl 1, [enc (5, 0)], rfl, ?_⟩
                      conv => whnf
                      refine ⟨rfl, rfl, by simp, rfl, by show (ro.length + 1 + 1) * 16 ≤ 140737488355328; omega, fun c' hc => ?_⟩
                      conv => whnf
                      exact ⟨⟨(k + 1, (yo :: ro : List Stp) ++ [(5, 0)], c'), by show k + 1 ≤ x.length ∧ k + 1 ≤ 8; omega, hout'⟩, by show x.length - (k + 1) < x.length - k; omega, leR [(1, 4)] hH hT rfl ⟨trivial, oE_below _ _ _, trivial⟩ ⟨(oA_new (μ := sig [(1, 4)]) (i := 1) (j := 4) rfl c' _ (yo :: ro) (5, 0) rfl), cnt (by omega), trivial⟩ ⟨Fz.le_refl F, sub_oE (oE_one _ (by simp)), trivial⟩⟩
                  · have n7 : ¬ p = 7 := of_decide_eq_false g1
                    clear g1
                    have hstep : stepOf p x[k] = [] := by rw [stepOf, if_pos gm', if_neg n1, if_neg n2, if_neg (by omega), if_neg (by omega)]
                    have hout' : out = (((x.take 8).take (k + 1)).map (stepOf p)).flatten := by rw [hnext, hstep, List.append_nil]
                    clear hnext hstep
                    rcases out with _ | ⟨yo, ro⟩
                    · skip
                      conv => whnf
                      exact ⟨⟨(k + 1, ([] : List Stp), co), by show k + 1 ≤ x.length ∧ k + 1 ≤ 8; omega, hout'⟩, by show x.length - (k + 1) < x.length - k; omega, leR [(1, 1)] hH hT rfl ⟨trivial, oE_below _ _ _, trivial⟩ ⟨rfl, cnt (by omega), trivial⟩ ⟨Fz.le_refl F, sub_oE (oE_self _ _), trivial⟩⟩
                    · skip
                      conv => whnf
                      exact ⟨⟨(k + 1, (yo :: ro : List Stp), co), by show k + 1 ≤ x.length ∧ k + 1 ≤ 8; omega, hout'⟩, by show x.length - (k + 1) < x.length - k; omega, leR [(1, 1)] hH hT rfl ⟨trivial, oE_below _ _ _, trivial⟩ ⟨⟨rfl, rfl, rfl, .inr ⟨rfl, rfl, rfl, rfl⟩⟩, cnt (by omega), trivial⟩ ⟨Fz.le_refl F, sub_oE (oE_self _ _), trivial⟩⟩
      · have gm' : ¬ 0 < pickI x[k] 8 := of_decide_eq_false gm
        clear gm
        have hstep : stepOf p x[k] = [(6, 0)] := by rw [stepOf, if_neg gm']
        have hout' : out ++ [(6, 0)] = (((x.take 8).take (k + 1)).map (stepOf p)).flatten := by rw [hnext, hstep]
        clear hnext hstep
        rcases out with _ | ⟨yo, ro⟩
        · skip
          conv => whnf
          refine ⟨Nat.le_refl 1, [enc (6, 0)], rfl, ?_⟩
          conv => whnf
          refine ⟨rfl, rfl, ?_⟩
          conv => whnf
          refine ⟨by show 1 * 16 ≤ 140737488355328; omega, fun c' hc => ?_⟩
          conv => whnf
          exact ⟨⟨(k + 1, ([] : List Stp) ++ [(6, 0)], c'), by show k + 1 ≤ x.length ∧ k + 1 ≤ 8; omega, hout'⟩, by show x.length - (k + 1) < x.length - k; omega, leR [(1, 4)] hH hT rfl ⟨trivial, oE_below _ _ _, trivial⟩ ⟨(oA_new (μ := sig [(1, 4)]) (i := 1) (j := 4) rfl c' _ ([]) (6, 0) rfl), cnt (by omega), trivial⟩ ⟨Fz.le_refl F, sub_oE (oE_one [enc (6, 0)] rfl), trivial⟩⟩
        · skip
          conv => whnf
          replace hol : ro.length + 1 ≤ 100 := hol
          refine ⟨Nat.le_refl 1, [enc (6, 0)], rfl, ?_⟩
          conv => whnf
          refine ⟨rfl, rfl, by simp, rfl, by show (ro.length + 1 + 1) * 16 ≤ 140737488355328; omega, fun c' hc => ?_⟩
          conv => whnf
          exact ⟨⟨(k + 1, (yo :: ro : List Stp) ++ [(6, 0)], c'), by show k + 1 ≤ x.length ∧ k + 1 ≤ 8; omega, hout'⟩, by show x.length - (k + 1) < x.length - k; omega, leR [(1, 4)] hH hT rfl ⟨trivial, oE_below _ _ _, trivial⟩ ⟨(oA_new (μ := sig [(1, 4)]) (i := 1) (j := 4) rfl c' _ (yo :: ro) (6, 0) rfl), cnt (by omega), trivial⟩ ⟨Fz.le_refl F, sub_oE (oE_one _ (by simp)), trivial⟩⟩
    · have g8 : k = 8 := by
          have h0 : ¬ (k : Int) < 8 := of_decide_eq_false gb
          omega
      have hf := fin (.inr g8)
      rcases out with _ | ⟨yo, ro⟩
      · skip
        conv => whnf
        exact endFo (.ret (.va (.slice true 0 0 0 2 0 0))) F rfl (Fz.le_refl F) (Fz.le_refl F) ⟨_, rfl, by rw [← hf]; exact Sl.nil⟩ ⟨rfl, rfl, rfl⟩ rfl
      · skip
        conv => whnf
        refine freezeE 1 (fun _ => .arr 50 2 ((yo :: ro).map enc) co) rfl rfl rfl (fun _ _ => encB_ren _ (yo :: ro) co) (fun _ _ => encB_below _ _ _) ?_
        intro b F' hle hb
        exact endFo (.ret (.va (.slice false 0 (b 0) 0 2 (ro.length + 1) co))) F' rfl hle (Fz.le_refl F') ⟨_, rfl, by rw [← hf]; exact Sl.new (l := yo :: ro) (hb 0 ⟨rfl, rfl⟩)⟩ ⟨rfl, rfl, rfl, .inr ⟨rfl, rfl, rfl, rfl⟩⟩ rfl
  · have gk : k = x.length := by
        have h0 : ¬ (k : Int) < (x.length : Int) := by simpa using ga
        omega
    clear ga
    have hf := fin (.inl gk)
    rcases out with _ | ⟨yo, ro⟩
    · skip
      conv => whnf
      exact endFo (.ret (.va (.slice true 0 0 0 2 0 0))) F rfl (Fz.le_refl F) (Fz.le_refl F) ⟨_, rfl, by rw [← hf]; exact Sl.nil⟩ ⟨rfl, rfl, rfl⟩ rfl
    · skip
      conv => whnf
      refine freezeE 1 (fun _ => .arr 50 2 ((yo :: ro).map enc) co) rfl rfl rfl (fun _ _ => encB_ren _ (yo :: ro) co) (fun _ _ => encB_below _ _ _) ?_
      intro b F' hle hb
      exact endFo (.ret (.va (.slice false 0 (b 0) 0 2 (ro.length + 1) co))) F' rfl hle (Fz.le_refl F') ⟨_, rfl, by rw [← hf]; exact Sl.new (l := yo :: ro) (hb 0 ⟨rfl, rfl⟩)⟩ ⟨rfl, rfl, rfl, .inr ⟨rfl, rfl, rfl, rfl⟩⟩ rfl
end Go.Proofs.YtblllibdahkgfaaGreatDoor
