import Derived.Test.YtblllibdahkgfaaGreatDoorK16

namespace Go.Proofs.YtblllibdahkgfaaGreatDoor
open Go Sx
set_option maxRecDepth 100000

/-- The reference's normal form. -/
def rnum (κ : Int) (s : List Int) : Int := if κ = 3 then mx s else if κ = 4 then mn s else 0
def rmost (κ : Int) : Nat := if κ = 5 then 5 else 1
def rpiece (κ : Int) (s : List Int) : List Stp := List.replicate (min s.length (rmost κ)) (κ, rnum κ s)
def rpieces (l : List Stp) : List (List Stp) := [rpiece 1 (sel 1 l), rpiece 2 (sel 2 l), rpiece 3 (sel 3 l), rpiece 4 (sel 4 l), rpiece 5 (sel 5 l)]
def rnormS (l : List Stp) : List Stp := if sel 6 l = [] then (rpieces l).flatten else [(6, 0)]

theorem rpieces_succ {l : List Stp} {k : Nat} {out : List Stp} (p : List Stp) (h : out = ((rpieces l).take k).flatten) (hk : (rpieces l)[k]? = some p) : out ++ p = ((rpieces l).take (k + 1)).flatten := by
  have hl := (List.getElem?_eq_some_iff.1 hk).1
  have he := (List.getElem?_eq_some_iff.1 hk).2
  rw [take_flatten_succ hl, he, h]
theorem rpiece_len (κ : Int) (s : List Int) : (rpiece κ s).length ≤ 5 := by
  unfold rpiece rmost; rw [List.length_replicate]; split <;> omega
theorem rpieces_len (l : List Stp) (k : Nat) : ((rpieces l).take k).flatten.length ≤ 100 := by
  refine Nat.le_trans (take_flatten_le _ k) ?_
  have h1 := rpiece_len 1 (sel 1 l); have h2 := rpiece_len 2 (sel 2 l); have h3 := rpiece_len 3 (sel 3 l); have h4 := rpiece_len 4 (sel 4 l); have h5 := rpiece_len 5 (sel 5 l)
  simp only [rpieces, List.flatten_cons, List.flatten_nil, List.length_append, List.length_nil]; omega

set_option maxHeartbeats 8000000 in
theorem rnormalE_fn (F : Fz) (sa : SA) (l : List Stp) (p : Int) (ha : StepsAt F sa l) (hl : l.length < 1000000) :
    Fo Tryz.prog F 16 [.va (.int .i64 p), .va sa] (fun o F' => ∃ sc, o = .ret (.tup [.va sc, .va (.int .i64 (if validS p l = true then 0 else 70))]) ∧ StepsAt F' sc (if validS p l = true then rnormS l else [])) := by
  have hv := rvalid_fn F sa l p ha hl
  have hcnt := fun κ => count_fn F sa l κ ha hl
  have hsel := fun κ => sel_le κ l
  obtain ⟨han, hab, hae, hac, haL, har, rfl, ha1, ha2, ha3, ha4⟩ := ha
  refine fo_of hΘ Tryz.func16 rfl (by decide) _ _ rfl rfl rfl ?_
  conv => whnf
  refine usePu (hv) rfl (argsE_refl _) rfl ?_
  conv => whnf
  refine br (fun g => ?_) (fun g => ?_)
  · have g1 : validS p l = false := not_t g
    conv => whnf
    exact endFo (.ret (.tup [.va (.slice true 0 0 0 2 0 0), .va (.int .i64 70)])) F rfl (Fz.le_refl F) (Fz.le_refl F) ⟨_, by rw [g1]; rfl, by rw [g1]; exact Sl.nil⟩ ⟨⟨rfl, rfl, rfl⟩, rfl, trivial⟩ rfl
  · have g1 : validS p l = true := by simpa using g
    conv => whnf
    refine usePu (hcnt 6) rfl (argsE_refl _) rfl ?_
    conv => whnf
    refine br (fun g => ?_) (fun g => ?_)
    · have g6 : ¬ sel 6 l = [] := by intro h; rw [h] at g; simp at g
      conv => whnf
      refine freezeE 1 (fun _ => .arr 50 2 [enc (6, 0)] 1) rfl rfl rfl (fun _ _ => rfl) (fun _ _ => SB.bB_ok rfl) ?_
      intro b F' hle hb
      refine endFo (.ret (.tup [.va (.slice false 0 (b 0) 0 2 1 1), .va (.int .i64 0)])) F' rfl hle (Fz.le_refl F') ⟨_, by rw [g1]; rfl, ?_⟩ ⟨⟨rfl, rfl, rfl, .inr ⟨rfl, rfl, rfl, rfl⟩⟩, rfl, trivial⟩ rfl
      rw [g1, if_pos rfl, rnormS, if_neg g6]
      exact Sl.new (l := [(6, 0)]) (hb 0 rfl)
    · have g6 : sel 6 l = [] := by
        have : ¬ (0 : Int) < (sel 6 l).length := by simpa using g
        exact List.length_eq_zero_iff.1 (by omega)
      conv => whnf
      refine loop_at hΘ (X := { x : Nat × List Stp × Nat // x.1 ≤ 5 ∧ x.2.1 = ((rpieces l).take x.1).flatten }) (fun x => [(10, .va (oA 2 x.1.2.2 x.1.2.1)), (36, .va (.int .i64 x.1.1))]) [12, 13, 14, 15, 16, 17, 18, 37, 38, 39, 40, 41, 42, 43, 44, 45, 46, 47, 48, 49, 50, 51, 52, 53, 54, 55, 56, 57, 58, 59, 60, 61, 62, 63, 64, 65, 66, 67, 68, 69, 70, 71, 72, 73, 74]
        (fun x => [(0, .frz F), (2, oE x.1.2.2 x.1.2.1)]) 3 (fun x => 5 - x.1.1) ⟨(0, [], 0), by simp⟩
        (fun hH hT => leI [(2, 2)] hH hT rfl ⟨trivial, oE_below _ _ _, trivial⟩ ⟨rfl, rfl, trivial⟩ ⟨Fz.le_refl F, rfl, trivial⟩) ?_
      rintro ⟨⟨k, out, co⟩, hk, hout⟩ hH hT
      replace hk : k ≤ 5 := hk
      replace hout : out = ((rpieces l).take k).flatten := hout
      conv => whnf
      refine br (fun gb => ?_) (fun gb => ?_)
      · have gk : k < 5 := by have h0 : (k : Int) < 5 := (by simpa using gb); omega
        clear gb
        have hol : out.length ≤ 100 := by rw [hout]; exact rpieces_len _ _
        have hcs : k = 0 ∨ k = 1 ∨ k = 2 ∨ k = 3 ∨ k = 4 := by omega
        rcases hcs with rfl | rfl | rfl | rfl | rfl
        · have hn := hsel 1
          have hout' := rpieces_succ _ hout rfl
          conv => whnf
          refine ⟨rfl, ⟨by simp, by simp⟩, ?_⟩
          conv => whnf
          refine ⟨[.int .i64 1], rfl, ?_⟩
          conv => whnf
          refine usePu (hcnt 1) rfl (argsE_refl _) rfl ?_
          conv => whnf
          refine br (fun g => absurd g (by simp)) (fun _ => ?_)
          conv => whnf
          refine br (fun g => absurd g (by simp)) (fun _ => ?_)
          conv => whnf
          refine br (fun g => absurd g (by simp)) (fun _ => ?_)
          conv => whnf
          have hrp : rpiece 1 (sel 1 l) = List.replicate (min (sel 1 l).length 1) (1, 0) := rfl
          rw [hrp] at hout'
          refine loop_at hΘ (X := { q : Nat × List Stp × Nat // q.1 ≤ min (sel 1 l).length 1 ∧ q.2.1 = out ++ List.replicate q.1 (1, 0) }) (fun x => [(10, .va (oA 4 x.1.2.2 x.1.2.1)), (18, .va (.int .i64 x.1.1))]) [60, 61, 62, 63, 64, 65, 66, 67, 68, 69, 70, 71, 72, 73]
            (fun x => [(0, .frz F), (2, .gone), (4, oE x.1.2.2 x.1.2.1)]) 5 (fun x => min (sel 1 l).length 1 - x.1.1) ⟨(0, out, co), by simp⟩ ?_ ?_
          · intro hH hT
            rcases out with _ | ⟨xo, ro⟩
            · exact leI [(4, 2)] hH hT rfl ⟨trivial, trivial, oE_below _ _ _, trivial⟩ ⟨rfl, rfl, trivial⟩ ⟨Fz.le_refl F, sub_oE (oE_self _ _), trivial⟩
            · exact leI [(4, 2)] hH hT rfl ⟨trivial, trivial, oE_below _ _ _, trivial⟩ ⟨⟨rfl, rfl, rfl, .inr ⟨rfl, rfl, rfl, rfl⟩⟩, rfl, trivial⟩ ⟨Fz.le_refl F, sub_oE (oE_self _ _), trivial⟩
          rintro ⟨⟨j, oi, ci⟩, hj, hoi⟩ hHi hTi
          replace hj : j ≤ min (sel 1 l).length 1 := hj
          replace hoi : oi = out ++ List.replicate j (1, 0) := hoi
          have hoil : oi.length ≤ 200 := by rw [hoi, List.length_append, List.length_replicate]; omega
          have hoi' : oi ++ [(1, 0)] = out ++ List.replicate (j + 1) (1, 0) := by rw [List.replicate_succ', ← List.append_assoc, hoi]
          conv => whnf
          refine ⟨fun ga => ?_, fun ga => ?_⟩
          · have ga' : j < (sel 1 l).length := by have h0 : (j : Int) < (sel 1 l).length := (by simpa using ga); omega
            clear ga
            conv => whnf
            refine br (fun gb => ?_) (fun gb => ?_)
            · have gb' : j < 1 := by have h0 : (j : Int) < 1 := (by simpa using gb); omega
              clear gb
              rcases oi with _ | ⟨yo, ro⟩
              · skip
                conv => whnf
                refine ⟨Nat.le_refl 1, [enc (1, 0)], rfl, ?_⟩
                conv => whnf
                refine ⟨rfl, rfl, ?_⟩
                conv => whnf
                refine ⟨by show 1 * 16 ≤ 140737488355328; omega, fun c' hc => ?_⟩
                conv => whnf
                exact ⟨⟨(j + 1, [] ++ [(1, 0)], c'), by show j + 1 ≤ min (sel 1 l).length 1; omega, hoi'⟩, by show min (sel 1 l).length 1 - (j + 1) < min (sel 1 l).length 1 - j; omega, leR [(4, 6)] hHi hTi rfl ⟨trivial, trivial, oE_below _ _ _, trivial⟩ ⟨(oA_new (μ := sig [(4, 6)]) (i := 4) (j := 6) rfl c' _ ([]) (1, 0) rfl), cnt (by omega), trivial⟩ ⟨Fz.le_refl F, sub_oE (oE_one [enc (1, 0)] rfl), trivial⟩⟩
              · replace hoil : ro.length + 1 ≤ 200 := hoil
                conv => whnf
                refine ⟨Nat.le_refl 1, [enc (1, 0)], rfl, ?_⟩
                conv => whnf
                refine ⟨rfl, rfl, by simp, rfl, by show (ro.length + 1 + 1) * 16 ≤ 140737488355328; omega, fun c' hc => ?_⟩
                conv => whnf
                exact ⟨⟨(j + 1, yo :: ro ++ [(1, 0)], c'), by show j + 1 ≤ min (sel 1 l).length 1; omega, hoi'⟩, by show min (sel 1 l).length 1 - (j + 1) < min (sel 1 l).length 1 - j; omega, leR [(4, 6)] hHi hTi rfl ⟨trivial, trivial, oE_below _ _ _, trivial⟩ ⟨(oA_new (μ := sig [(4, 6)]) (i := 4) (j := 6) rfl c' _ (yo :: ro) (1, 0) rfl), cnt (by omega), trivial⟩ ⟨Fz.le_refl F, sub_oE (oE_one _ (by simp)), trivial⟩⟩
            · have gb' : ¬ j < 1 := by have h0 : ¬ (j : Int) < 1 := (by simpa using gb); omega
              have gj : j = min (sel 1 l).length 1 := by omega
              have hoo : oi = ((rpieces l).take 1).flatten := by rw [hoi, ← hout', gj]
              rcases oi with _ | ⟨yo, ro⟩
              · conv => whnf
                exact ⟨⟨(1, [], ci), by simp, hoo⟩, by show 5 - 1 < 5 - 0; omega, leRn [_, _, _] [_, _] [(2, 4)] hH hT rfl ⟨trivial, oE_below _ _ _, trivial⟩ ⟨rfl, rfl, trivial⟩ ⟨Fz.le_refl F, sub_oE (oE_self _ _), trivial⟩⟩
              · conv => whnf
                exact ⟨⟨(1, yo :: ro, ci), by simp, hoo⟩, by show 5 - 1 < 5 - 0; omega, leRn [_, _, _] [_, _] [(2, 4)] hH hT rfl ⟨trivial, oE_below _ _ _, trivial⟩ ⟨⟨rfl, rfl, rfl, .inr ⟨rfl, rfl, rfl, rfl⟩⟩, rfl, trivial⟩ ⟨Fz.le_refl F, sub_oE (oE_self _ _), trivial⟩⟩
          · have ga' : ¬ j < (sel 1 l).length := by have h0 : ¬ (j : Int) < (sel 1 l).length := (by simpa using ga); omega
            have gj : j = min (sel 1 l).length 1 := by omega
            have hoo : oi = ((rpieces l).take 1).flatten := by rw [hoi, ← hout', gj]
            rcases oi with _ | ⟨yo, ro⟩
            · conv => whnf
              exact ⟨⟨(1, [], ci), by simp, hoo⟩, by show 5 - 1 < 5 - 0; omega, leRn [_, _, _] [_, _] [(2, 4)] hH hT rfl ⟨trivial, oE_below _ _ _, trivial⟩ ⟨rfl, rfl, trivial⟩ ⟨Fz.le_refl F, sub_oE (oE_self _ _), trivial⟩⟩
            · conv => whnf
              exact ⟨⟨(1, yo :: ro, ci), by simp, hoo⟩, by show 5 - 1 < 5 - 0; omega, leRn [_, _, _] [_, _] [(2, 4)] hH hT rfl ⟨trivial, oE_below _ _ _, trivial⟩ ⟨⟨rfl, rfl, rfl, .inr ⟨rfl, rfl, rfl, rfl⟩⟩, rfl, trivial⟩ ⟨Fz.le_refl F, sub_oE (oE_self _ _), trivial⟩⟩
        · have hn := hsel 2
          have hout' := rpieces_succ _ hout rfl
          conv => whnf
          refine ⟨rfl, ⟨by simp, by simp⟩, ?_⟩
          conv => whnf
          refine ⟨[.int .i64 2], rfl, ?_⟩
          conv => whnf
          refine usePu (hcnt 2) rfl (argsE_refl _) rfl ?_
          conv => whnf
          refine br (fun g => absurd g (by simp)) (fun _ => ?_)
          conv => whnf
          refine br (fun g => absurd g (by simp)) (fun _ => ?_)
          conv => whnf
          refine br (fun g => absurd g (by simp)) (fun _ => ?_)
          conv => whnf
          have hrp : rpiece 2 (sel 2 l) = List.replicate (min (sel 2 l).length 1) (2, 0) := rfl
          rw [hrp] at hout'
          refine loop_at hΘ (X := { q : Nat × List Stp × Nat // q.1 ≤ min (sel 2 l).length 1 ∧ q.2.1 = out ++ List.replicate q.1 (2, 0) }) (fun x => [(10, .va (oA 4 x.1.2.2 x.1.2.1)), (18, .va (.int .i64 x.1.1))]) [60, 61, 62, 63, 64, 65, 66, 67, 68, 69, 70, 71, 72, 73]
            (fun x => [(0, .frz F), (2, .gone), (4, oE x.1.2.2 x.1.2.1)]) 5 (fun x => min (sel 2 l).length 1 - x.1.1) ⟨(0, out, co), by simp⟩ ?_ ?_
          · intro hH hT
            rcases out with _ | ⟨xo, ro⟩
            · exact leI [(4, 2)] hH hT rfl ⟨trivial, trivial, oE_below _ _ _, trivial⟩ ⟨rfl, rfl, trivial⟩ ⟨Fz.le_refl F, sub_oE (oE_self _ _), trivial⟩
            · exact leI [(4, 2)] hH hT rfl ⟨trivial, trivial, oE_below _ _ _, trivial⟩ ⟨⟨rfl, rfl, rfl, .inr ⟨rfl, rfl, rfl, rfl⟩⟩, rfl, trivial⟩ ⟨Fz.le_refl F, sub_oE (oE_self _ _), trivial⟩
          rintro ⟨⟨j, oi, ci⟩, hj, hoi⟩ hHi hTi
          replace hj : j ≤ min (sel 2 l).length 1 := hj
          replace hoi : oi = out ++ List.replicate j (2, 0) := hoi
          have hoil : oi.length ≤ 200 := by rw [hoi, List.length_append, List.length_replicate]; omega
          have hoi' : oi ++ [(2, 0)] = out ++ List.replicate (j + 1) (2, 0) := by rw [List.replicate_succ', ← List.append_assoc, hoi]
          conv => whnf
          refine ⟨fun ga => ?_, fun ga => ?_⟩
          · have ga' : j < (sel 2 l).length := by have h0 : (j : Int) < (sel 2 l).length := (by simpa using ga); omega
            clear ga
            conv => whnf
            refine br (fun gb => ?_) (fun gb => ?_)
            · have gb' : j < 1 := by have h0 : (j : Int) < 1 := (by simpa using gb); omega
              clear gb
              rcases oi with _ | ⟨yo, ro⟩
              · skip
                conv => whnf
                refine ⟨Nat.le_refl 1, [enc (2, 0)], rfl, ?_⟩
                conv => whnf
                refine ⟨rfl, rfl, ?_⟩
                conv => whnf
                refine ⟨by show 1 * 16 ≤ 140737488355328; omega, fun c' hc => ?_⟩
                conv => whnf
                exact ⟨⟨(j + 1, [] ++ [(2, 0)], c'), by show j + 1 ≤ min (sel 2 l).length 1; omega, hoi'⟩, by show min (sel 2 l).length 1 - (j + 1) < min (sel 2 l).length 1 - j; omega, leR [(4, 6)] hHi hTi rfl ⟨trivial, trivial, oE_below _ _ _, trivial⟩ ⟨(oA_new (μ := sig [(4, 6)]) (i := 4) (j := 6) rfl c' _ ([]) (2, 0) rfl), cnt (by omega), trivial⟩ ⟨Fz.le_refl F, sub_oE (oE_one [enc (2, 0)] rfl), trivial⟩⟩
              · replace hoil : ro.length + 1 ≤ 200 := hoil
                conv => whnf
                refine ⟨Nat.le_refl 1, [enc (2, 0)], rfl, ?_⟩
                conv => whnf
                refine ⟨rfl, rfl, by simp, rfl, by show (ro.length + 1 + 1) * 16 ≤ 140737488355328; omega, fun c' hc => ?_⟩
                conv => whnf
                exact ⟨⟨(j + 1, yo :: ro ++ [(2, 0)], c'), by show j + 1 ≤ min (sel 2 l).length 1; omega, hoi'⟩, by show min (sel 2 l).length 1 - (j + 1) < min (sel 2 l).length 1 - j; omega, leR [(4, 6)] hHi hTi rfl ⟨trivial, trivial, oE_below _ _ _, trivial⟩ ⟨(oA_new (μ := sig [(4, 6)]) (i := 4) (j := 6) rfl c' _ (yo :: ro) (2, 0) rfl), cnt (by omega), trivial⟩ ⟨Fz.le_refl F, sub_oE (oE_one _ (by simp)), trivial⟩⟩
            · have gb' : ¬ j < 1 := by have h0 : ¬ (j : Int) < 1 := (by simpa using gb); omega
              have gj : j = min (sel 2 l).length 1 := by omega
              have hoo : oi = ((rpieces l).take 2).flatten := by rw [hoi, ← hout', gj]
              rcases oi with _ | ⟨yo, ro⟩
              · conv => whnf
                exact ⟨⟨(2, [], ci), by simp, hoo⟩, by show 5 - 2 < 5 - 1; omega, leRn [_, _, _] [_, _] [(2, 4)] hH hT rfl ⟨trivial, oE_below _ _ _, trivial⟩ ⟨rfl, rfl, trivial⟩ ⟨Fz.le_refl F, sub_oE (oE_self _ _), trivial⟩⟩
              · conv => whnf
                exact ⟨⟨(2, yo :: ro, ci), by simp, hoo⟩, by show 5 - 2 < 5 - 1; omega, leRn [_, _, _] [_, _] [(2, 4)] hH hT rfl ⟨trivial, oE_below _ _ _, trivial⟩ ⟨⟨rfl, rfl, rfl, .inr ⟨rfl, rfl, rfl, rfl⟩⟩, rfl, trivial⟩ ⟨Fz.le_refl F, sub_oE (oE_self _ _), trivial⟩⟩
          · have ga' : ¬ j < (sel 2 l).length := by have h0 : ¬ (j : Int) < (sel 2 l).length := (by simpa using ga); omega
            have gj : j = min (sel 2 l).length 1 := by omega
            have hoo : oi = ((rpieces l).take 2).flatten := by rw [hoi, ← hout', gj]
            rcases oi with _ | ⟨yo, ro⟩
            · conv => whnf
              exact ⟨⟨(2, [], ci), by simp, hoo⟩, by show 5 - 2 < 5 - 1; omega, leRn [_, _, _] [_, _] [(2, 4)] hH hT rfl ⟨trivial, oE_below _ _ _, trivial⟩ ⟨rfl, rfl, trivial⟩ ⟨Fz.le_refl F, sub_oE (oE_self _ _), trivial⟩⟩
            · conv => whnf
              exact ⟨⟨(2, yo :: ro, ci), by simp, hoo⟩, by show 5 - 2 < 5 - 1; omega, leRn [_, _, _] [_, _] [(2, 4)] hH hT rfl ⟨trivial, oE_below _ _ _, trivial⟩ ⟨⟨rfl, rfl, rfl, .inr ⟨rfl, rfl, rfl, rfl⟩⟩, rfl, trivial⟩ ⟨Fz.le_refl F, sub_oE (oE_self _ _), trivial⟩⟩
        · have hn := hsel 3
          have hout' := rpieces_succ _ hout rfl
          conv => whnf
          refine ⟨rfl, ⟨by simp, by simp⟩, ?_⟩
          conv => whnf
          refine ⟨[.int .i64 3], rfl, ?_⟩
          conv => whnf
          refine usePu (hcnt 3) rfl (argsE_refl _) rfl ?_
          conv => whnf
          refine br (fun _ => ?_) (fun g => absurd g (by simp))
          conv => whnf
          skip
          conv => whnf
          skip
          conv => whnf
          have hrp : rpiece 3 (sel 3 l) = List.replicate (min (sel 3 l).length 1) (3, mx (sel 3 l)) := rfl
          rw [hrp] at hout'
          refine loop_at hΘ (X := { q : Nat × List Stp × Nat // q.1 ≤ min (sel 3 l).length 1 ∧ q.2.1 = out ++ List.replicate q.1 (3, mx (sel 3 l)) }) (fun x => [(10, .va (oA 4 x.1.2.2 x.1.2.1)), (18, .va (.int .i64 x.1.1))]) [60, 61, 62, 63, 64, 65, 66, 67, 68, 69, 70, 71, 72, 73]
            (fun x => [(0, .frz F), (2, .gone), (4, oE x.1.2.2 x.1.2.1)]) 5 (fun x => min (sel 3 l).length 1 - x.1.1) ⟨(0, out, co), by simp⟩ ?_ ?_
          · intro hH hT
            rcases out with _ | ⟨xo, ro⟩
            · exact leI [(4, 2)] hH hT rfl ⟨trivial, trivial, oE_below _ _ _, trivial⟩ ⟨rfl, rfl, trivial⟩ ⟨Fz.le_refl F, sub_oE (oE_self _ _), trivial⟩
            · exact leI [(4, 2)] hH hT rfl ⟨trivial, trivial, oE_below _ _ _, trivial⟩ ⟨⟨rfl, rfl, rfl, .inr ⟨rfl, rfl, rfl, rfl⟩⟩, rfl, trivial⟩ ⟨Fz.le_refl F, sub_oE (oE_self _ _), trivial⟩
          rintro ⟨⟨j, oi, ci⟩, hj, hoi⟩ hHi hTi
          replace hj : j ≤ min (sel 3 l).length 1 := hj
          replace hoi : oi = out ++ List.replicate j (3, mx (sel 3 l)) := hoi
          have hoil : oi.length ≤ 200 := by rw [hoi, List.length_append, List.length_replicate]; omega
          have hoi' : oi ++ [(3, mx (sel 3 l))] = out ++ List.replicate (j + 1) (3, mx (sel 3 l)) := by rw [List.replicate_succ', ← List.append_assoc, hoi]
          conv => whnf
          refine ⟨fun ga => ?_, fun ga => ?_⟩
          · have ga' : j < (sel 3 l).length := by have h0 : (j : Int) < (sel 3 l).length := (by simpa using ga); omega
            clear ga
            conv => whnf
            refine br (fun gb => ?_) (fun gb => ?_)
            · have gb' : j < 1 := by have h0 : (j : Int) < 1 := (by simpa using gb); omega
              clear gb
              rcases oi with _ | ⟨yo, ro⟩
              · skip
                conv => whnf
                refine ⟨Nat.le_refl 1, [enc (3, mx (sel 3 l))], rfl, ?_⟩
                conv => whnf
                refine ⟨rfl, rfl, ?_⟩
                conv => whnf
                refine ⟨by show 1 * 16 ≤ 140737488355328; omega, fun c' hc => ?_⟩
                conv => whnf
                exact ⟨⟨(j + 1, [] ++ [(3, mx (sel 3 l))], c'), by show j + 1 ≤ min (sel 3 l).length 1; omega, hoi'⟩, by show min (sel 3 l).length 1 - (j + 1) < min (sel 3 l).length 1 - j; omega, leR [(4, 6)] hHi hTi rfl ⟨trivial, trivial, oE_below _ _ _, trivial⟩ ⟨(oA_new (μ := sig [(4, 6)]) (i := 4) (j := 6) rfl c' _ ([]) (3, mx (sel 3 l)) rfl), cnt (by omega), trivial⟩ ⟨Fz.le_refl F, sub_oE (oE_one [enc (3, mx (sel 3 l))] rfl), trivial⟩⟩
              · replace hoil : ro.length + 1 ≤ 200 := hoil
                conv => whnf
                refine ⟨Nat.le_refl 1, [enc (3, mx (sel 3 l))], rfl, ?_⟩
                conv => whnf
                refine ⟨rfl, rfl, by simp, rfl, by show (ro.length + 1 + 1) * 16 ≤ 140737488355328; omega, fun c' hc => ?_⟩
                conv => whnf
                exact ⟨⟨(j + 1, yo :: ro ++ [(3, mx (sel 3 l))], c'), by show j + 1 ≤ min (sel 3 l).length 1; omega, hoi'⟩, by show min (sel 3 l).length 1 - (j + 1) < min (sel 3 l).length 1 - j; omega, leR [(4, 6)] hHi hTi rfl ⟨trivial, trivial, oE_below _ _ _, trivial⟩ ⟨(oA_new (μ := sig [(4, 6)]) (i := 4) (j := 6) rfl c' _ (yo :: ro) (3, mx (sel 3 l)) rfl), cnt (by omega), trivial⟩ ⟨Fz.le_refl F, sub_oE (oE_one _ (by simp)), trivial⟩⟩
            · have gb' : ¬ j < 1 := by have h0 : ¬ (j : Int) < 1 := (by simpa using gb); omega
              have gj : j = min (sel 3 l).length 1 := by omega
              have hoo : oi = ((rpieces l).take 3).flatten := by rw [hoi, ← hout', gj]
              rcases oi with _ | ⟨yo, ro⟩
              · conv => whnf
                exact ⟨⟨(3, [], ci), by simp, hoo⟩, by show 5 - 3 < 5 - 2; omega, leRn [_, _, _] [_, _] [(2, 4)] hH hT rfl ⟨trivial, oE_below _ _ _, trivial⟩ ⟨rfl, rfl, trivial⟩ ⟨Fz.le_refl F, sub_oE (oE_self _ _), trivial⟩⟩
              · conv => whnf
                exact ⟨⟨(3, yo :: ro, ci), by simp, hoo⟩, by show 5 - 3 < 5 - 2; omega, leRn [_, _, _] [_, _] [(2, 4)] hH hT rfl ⟨trivial, oE_below _ _ _, trivial⟩ ⟨⟨rfl, rfl, rfl, .inr ⟨rfl, rfl, rfl, rfl⟩⟩, rfl, trivial⟩ ⟨Fz.le_refl F, sub_oE (oE_self _ _), trivial⟩⟩
          · have ga' : ¬ j < (sel 3 l).length := by have h0 : ¬ (j : Int) < (sel 3 l).length := (by simpa using ga); omega
            have gj : j = min (sel 3 l).length 1 := by omega
            have hoo : oi = ((rpieces l).take 3).flatten := by rw [hoi, ← hout', gj]
            rcases oi with _ | ⟨yo, ro⟩
            · conv => whnf
              exact ⟨⟨(3, [], ci), by simp, hoo⟩, by show 5 - 3 < 5 - 2; omega, leRn [_, _, _] [_, _] [(2, 4)] hH hT rfl ⟨trivial, oE_below _ _ _, trivial⟩ ⟨rfl, rfl, trivial⟩ ⟨Fz.le_refl F, sub_oE (oE_self _ _), trivial⟩⟩
            · conv => whnf
              exact ⟨⟨(3, yo :: ro, ci), by simp, hoo⟩, by show 5 - 3 < 5 - 2; omega, leRn [_, _, _] [_, _] [(2, 4)] hH hT rfl ⟨trivial, oE_below _ _ _, trivial⟩ ⟨⟨rfl, rfl, rfl, .inr ⟨rfl, rfl, rfl, rfl⟩⟩, rfl, trivial⟩ ⟨Fz.le_refl F, sub_oE (oE_self _ _), trivial⟩⟩
        · have hn := hsel 4
          have hout' := rpieces_succ _ hout rfl
          conv => whnf
          refine ⟨rfl, ⟨by simp, by simp⟩, ?_⟩
          conv => whnf
          refine ⟨[.int .i64 4], rfl, ?_⟩
          conv => whnf
          refine usePu (hcnt 4) rfl (argsE_refl _) rfl ?_
          conv => whnf
          refine br (fun g => absurd g (by simp)) (fun _ => ?_)
          conv => whnf
          refine br (fun _ => ?_) (fun g => absurd g (by simp))
          conv => whnf
          skip
          conv => whnf
          have hrp : rpiece 4 (sel 4 l) = List.replicate (min (sel 4 l).length 1) (4, mn (sel 4 l)) := rfl
          rw [hrp] at hout'
          refine loop_at hΘ (X := { q : Nat × List Stp × Nat // q.1 ≤ min (sel 4 l).length 1 ∧ q.2.1 = out ++ List.replicate q.1 (4, mn (sel 4 l)) }) (fun x => [(10, .va (oA 4 x.1.2.2 x.1.2.1)), (18, .va (.int .i64 x.1.1))]) [60, 61, 62, 63, 64, 65, 66, 67, 68, 69, 70, 71, 72, 73]
            (fun x => [(0, .frz F), (2, .gone), (4, oE x.1.2.2 x.1.2.1)]) 5 (fun x => min (sel 4 l).length 1 - x.1.1) ⟨(0, out, co), by simp⟩ ?_ ?_
          · intro hH hT
            rcases out with _ | ⟨xo, ro⟩
            · exact leI [(4, 2)] hH hT rfl ⟨trivial, trivial, oE_below _ _ _, trivial⟩ ⟨rfl, rfl, trivial⟩ ⟨Fz.le_refl F, sub_oE (oE_self _ _), trivial⟩
            · exact leI [(4, 2)] hH hT rfl ⟨trivial, trivial, oE_below _ _ _, trivial⟩ ⟨⟨rfl, rfl, rfl, .inr ⟨rfl, rfl, rfl, rfl⟩⟩, rfl, trivial⟩ ⟨Fz.le_refl F, sub_oE (oE_self _ _), trivial⟩
          rintro ⟨⟨j, oi, ci⟩, hj, hoi⟩ hHi hTi
          replace hj : j ≤ min (sel 4 l).length 1 := hj
          replace hoi : oi = out ++ List.replicate j (4, mn (sel 4 l)) := hoi
          have hoil : oi.length ≤ 200 := by rw [hoi, List.length_append, List.length_replicate]; omega
          have hoi' : oi ++ [(4, mn (sel 4 l))] = out ++ List.replicate (j + 1) (4, mn (sel 4 l)) := by rw [List.replicate_succ', ← List.append_assoc, hoi]
          conv => whnf
          refine ⟨fun ga => ?_, fun ga => ?_⟩
          · have ga' : j < (sel 4 l).length := by have h0 : (j : Int) < (sel 4 l).length := (by simpa using ga); omega
            clear ga
            conv => whnf
            refine br (fun gb => ?_) (fun gb => ?_)
            · have gb' : j < 1 := by have h0 : (j : Int) < 1 := (by simpa using gb); omega
              clear gb
              rcases oi with _ | ⟨yo, ro⟩
              · skip
                conv => whnf
                refine ⟨Nat.le_refl 1, [enc (4, mn (sel 4 l))], rfl, ?_⟩
                conv => whnf
                refine ⟨rfl, rfl, ?_⟩
                conv => whnf
                refine ⟨by show 1 * 16 ≤ 140737488355328; omega, fun c' hc => ?_⟩
                conv => whnf
                exact ⟨⟨(j + 1, [] ++ [(4, mn (sel 4 l))], c'), by show j + 1 ≤ min (sel 4 l).length 1; omega, hoi'⟩, by show min (sel 4 l).length 1 - (j + 1) < min (sel 4 l).length 1 - j; omega, leR [(4, 6)] hHi hTi rfl ⟨trivial, trivial, oE_below _ _ _, trivial⟩ ⟨(oA_new (μ := sig [(4, 6)]) (i := 4) (j := 6) rfl c' _ ([]) (4, mn (sel 4 l)) rfl), cnt (by omega), trivial⟩ ⟨Fz.le_refl F, sub_oE (oE_one [enc (4, mn (sel 4 l))] rfl), trivial⟩⟩
              · replace hoil : ro.length + 1 ≤ 200 := hoil
                conv => whnf
                refine ⟨Nat.le_refl 1, [enc (4, mn (sel 4 l))], rfl, ?_⟩
                conv => whnf
                refine ⟨rfl, rfl, by simp, rfl, by show (ro.length + 1 + 1) * 16 ≤ 140737488355328; omega, fun c' hc => ?_⟩
                conv => whnf
                exact ⟨⟨(j + 1, yo :: ro ++ [(4, mn (sel 4 l))], c'), by show j + 1 ≤ min (sel 4 l).length 1; omega, hoi'⟩, by show min (sel 4 l).length 1 - (j + 1) < min (sel 4 l).length 1 - j; omega, leR [(4, 6)] hHi hTi rfl ⟨trivial, trivial, oE_below _ _ _, trivial⟩ ⟨(oA_new (μ := sig [(4, 6)]) (i := 4) (j := 6) rfl c' _ (yo :: ro) (4, mn (sel 4 l)) rfl), cnt (by omega), trivial⟩ ⟨Fz.le_refl F, sub_oE (oE_one _ (by simp)), trivial⟩⟩
            · have gb' : ¬ j < 1 := by have h0 : ¬ (j : Int) < 1 := (by simpa using gb); omega
              have gj : j = min (sel 4 l).length 1 := by omega
              have hoo : oi = ((rpieces l).take 4).flatten := by rw [hoi, ← hout', gj]
              rcases oi with _ | ⟨yo, ro⟩
              · conv => whnf
                exact ⟨⟨(4, [], ci), by simp, hoo⟩, by show 5 - 4 < 5 - 3; omega, leRn [_, _, _] [_, _] [(2, 4)] hH hT rfl ⟨trivial, oE_below _ _ _, trivial⟩ ⟨rfl, rfl, trivial⟩ ⟨Fz.le_refl F, sub_oE (oE_self _ _), trivial⟩⟩
              · conv => whnf
                exact ⟨⟨(4, yo :: ro, ci), by simp, hoo⟩, by show 5 - 4 < 5 - 3; omega, leRn [_, _, _] [_, _] [(2, 4)] hH hT rfl ⟨trivial, oE_below _ _ _, trivial⟩ ⟨⟨rfl, rfl, rfl, .inr ⟨rfl, rfl, rfl, rfl⟩⟩, rfl, trivial⟩ ⟨Fz.le_refl F, sub_oE (oE_self _ _), trivial⟩⟩
          · have ga' : ¬ j < (sel 4 l).length := by have h0 : ¬ (j : Int) < (sel 4 l).length := (by simpa using ga); omega
            have gj : j = min (sel 4 l).length 1 := by omega
            have hoo : oi = ((rpieces l).take 4).flatten := by rw [hoi, ← hout', gj]
            rcases oi with _ | ⟨yo, ro⟩
            · conv => whnf
              exact ⟨⟨(4, [], ci), by simp, hoo⟩, by show 5 - 4 < 5 - 3; omega, leRn [_, _, _] [_, _] [(2, 4)] hH hT rfl ⟨trivial, oE_below _ _ _, trivial⟩ ⟨rfl, rfl, trivial⟩ ⟨Fz.le_refl F, sub_oE (oE_self _ _), trivial⟩⟩
            · conv => whnf
              exact ⟨⟨(4, yo :: ro, ci), by simp, hoo⟩, by show 5 - 4 < 5 - 3; omega, leRn [_, _, _] [_, _] [(2, 4)] hH hT rfl ⟨trivial, oE_below _ _ _, trivial⟩ ⟨⟨rfl, rfl, rfl, .inr ⟨rfl, rfl, rfl, rfl⟩⟩, rfl, trivial⟩ ⟨Fz.le_refl F, sub_oE (oE_self _ _), trivial⟩⟩
        · have hn := hsel 5
          have hout' := rpieces_succ _ hout rfl
          conv => whnf
          refine ⟨rfl, ⟨by simp, by simp⟩, ?_⟩
          conv => whnf
          refine ⟨[.int .i64 5], rfl, ?_⟩
          conv => whnf
          refine usePu (hcnt 5) rfl (argsE_refl _) rfl ?_
          conv => whnf
          refine br (fun g => absurd g (by simp)) (fun _ => ?_)
          conv => whnf
          refine br (fun g => absurd g (by simp)) (fun _ => ?_)
          conv => whnf
          refine br (fun _ => ?_) (fun g => absurd g (by simp))
          conv => whnf
          have hrp : rpiece 5 (sel 5 l) = List.replicate (min (sel 5 l).length 5) (5, 0) := rfl
          rw [hrp] at hout'
          refine loop_at hΘ (X := { q : Nat × List Stp × Nat // q.1 ≤ min (sel 5 l).length 5 ∧ q.2.1 = out ++ List.replicate q.1 (5, 0) }) (fun x => [(10, .va (oA 4 x.1.2.2 x.1.2.1)), (18, .va (.int .i64 x.1.1))]) [60, 61, 62, 63, 64, 65, 66, 67, 68, 69, 70, 71, 72, 73]
            (fun x => [(0, .frz F), (2, .gone), (4, oE x.1.2.2 x.1.2.1)]) 5 (fun x => min (sel 5 l).length 5 - x.1.1) ⟨(0, out, co), by simp⟩ ?_ ?_
          · intro hH hT
            rcases out with _ | ⟨xo, ro⟩
            · exact leI [(4, 2)] hH hT rfl ⟨trivial, trivial, oE_below _ _ _, trivial⟩ ⟨rfl, rfl, trivial⟩ ⟨Fz.le_refl F, sub_oE (oE_self _ _), trivial⟩
            · exact leI [(4, 2)] hH hT rfl ⟨trivial, trivial, oE_below _ _ _, trivial⟩ ⟨⟨rfl, rfl, rfl, .inr ⟨rfl, rfl, rfl, rfl⟩⟩, rfl, trivial⟩ ⟨Fz.le_refl F, sub_oE (oE_self _ _), trivial⟩
          rintro ⟨⟨j, oi, ci⟩, hj, hoi⟩ hHi hTi
          replace hj : j ≤ min (sel 5 l).length 5 := hj
          replace hoi : oi = out ++ List.replicate j (5, 0) := hoi
          have hoil : oi.length ≤ 200 := by rw [hoi, List.length_append, List.length_replicate]; omega
          have hoi' : oi ++ [(5, 0)] = out ++ List.replicate (j + 1) (5, 0) := by rw [List.replicate_succ', ← List.append_assoc, hoi]
          conv => whnf
          refine ⟨fun ga => ?_, fun ga => ?_⟩
          · have ga' : j < (sel 5 l).length := by have h0 : (j : Int) < (sel 5 l).length := (by simpa using ga); omega
            clear ga
            conv => whnf
            refine br (fun gb => ?_) (fun gb => ?_)
            · have gb' : j < 5 := by have h0 : (j : Int) < 5 := (by simpa using gb); omega
              clear gb
              rcases oi with _ | ⟨yo, ro⟩
              · skip
                conv => whnf
                refine ⟨Nat.le_refl 1, [enc (5, 0)], rfl, ?_⟩
                conv => whnf
                refine ⟨rfl, rfl, ?_⟩
                conv => whnf
                refine ⟨by show 1 * 16 ≤ 140737488355328; omega, fun c' hc => ?_⟩
                conv => whnf
                exact ⟨⟨(j + 1, [] ++ [(5, 0)], c'), by show j + 1 ≤ min (sel 5 l).length 5; omega, hoi'⟩, by show min (sel 5 l).length 5 - (j + 1) < min (sel 5 l).length 5 - j; omega, leR [(4, 6)] hHi hTi rfl ⟨trivial, trivial, oE_below _ _ _, trivial⟩ ⟨(oA_new (μ := sig [(4, 6)]) (i := 4) (j := 6) rfl c' _ ([]) (5, 0) rfl), cnt (by omega), trivial⟩ ⟨Fz.le_refl F, sub_oE (oE_one [enc (5, 0)] rfl), trivial⟩⟩
              · replace hoil : ro.length + 1 ≤ 200 := hoil
                conv => whnf
                refine ⟨Nat.le_refl 1, [enc (5, 0)], rfl, ?_⟩
                conv => whnf
                refine ⟨rfl, rfl, by simp, rfl, by show (ro.length + 1 + 1) * 16 ≤ 140737488355328; omega, fun c' hc => ?_⟩
                conv => whnf
                exact ⟨⟨(j + 1, yo :: ro ++ [(5, 0)], c'), by show j + 1 ≤ min (sel 5 l).length 5; omega, hoi'⟩, by show min (sel 5 l).length 5 - (j + 1) < min (sel 5 l).length 5 - j; omega, leR [(4, 6)] hHi hTi rfl ⟨trivial, trivial, oE_below _ _ _, trivial⟩ ⟨(oA_new (μ := sig [(4, 6)]) (i := 4) (j := 6) rfl c' _ (yo :: ro) (5, 0) rfl), cnt (by omega), trivial⟩ ⟨Fz.le_refl F, sub_oE (oE_one _ (by simp)), trivial⟩⟩
            · have gb' : ¬ j < 5 := by have h0 : ¬ (j : Int) < 5 := (by simpa using gb); omega
              have gj : j = min (sel 5 l).length 5 := by omega
              have hoo : oi = ((rpieces l).take 5).flatten := by rw [hoi, ← hout', gj]
              rcases oi with _ | ⟨yo, ro⟩
              · conv => whnf
                exact ⟨⟨(5, [], ci), by simp, hoo⟩, by show 5 - 5 < 5 - 4; omega, leRn [_, _, _] [_, _] [(2, 4)] hH hT rfl ⟨trivial, oE_below _ _ _, trivial⟩ ⟨rfl, rfl, trivial⟩ ⟨Fz.le_refl F, sub_oE (oE_self _ _), trivial⟩⟩
              · conv => whnf
                exact ⟨⟨(5, yo :: ro, ci), by simp, hoo⟩, by show 5 - 5 < 5 - 4; omega, leRn [_, _, _] [_, _] [(2, 4)] hH hT rfl ⟨trivial, oE_below _ _ _, trivial⟩ ⟨⟨rfl, rfl, rfl, .inr ⟨rfl, rfl, rfl, rfl⟩⟩, rfl, trivial⟩ ⟨Fz.le_refl F, sub_oE (oE_self _ _), trivial⟩⟩
          · have ga' : ¬ j < (sel 5 l).length := by have h0 : ¬ (j : Int) < (sel 5 l).length := (by simpa using ga); omega
            have gj : j = min (sel 5 l).length 5 := by omega
            have hoo : oi = ((rpieces l).take 5).flatten := by rw [hoi, ← hout', gj]
            rcases oi with _ | ⟨yo, ro⟩
            · conv => whnf
              exact ⟨⟨(5, [], ci), by simp, hoo⟩, by show 5 - 5 < 5 - 4; omega, leRn [_, _, _] [_, _] [(2, 4)] hH hT rfl ⟨trivial, oE_below _ _ _, trivial⟩ ⟨rfl, rfl, trivial⟩ ⟨Fz.le_refl F, sub_oE (oE_self _ _), trivial⟩⟩
            · conv => whnf
              exact ⟨⟨(5, yo :: ro, ci), by simp, hoo⟩, by show 5 - 5 < 5 - 4; omega, leRn [_, _, _] [_, _] [(2, 4)] hH hT rfl ⟨trivial, oE_below _ _ _, trivial⟩ ⟨⟨rfl, rfl, rfl, .inr ⟨rfl, rfl, rfl, rfl⟩⟩, rfl, trivial⟩ ⟨Fz.le_refl F, sub_oE (oE_self _ _), trivial⟩⟩
      · have gk : k = 5 := by have h0 : ¬ (k : Int) < 5 := (by simpa using gb); omega
        subst gk
        have hfin : out = rnormS l := by rw [rnormS, if_pos g6]; exact hout
        rcases out with _ | ⟨xo, ro⟩
        · conv => whnf
          exact endFo (.ret (.tup [.va (.slice true 0 0 0 2 0 0), .va (.int .i64 0)])) F rfl (Fz.le_refl F) (Fz.le_refl F) ⟨_, by rw [g1]; rfl, by rw [g1, if_pos rfl, ← hfin]; exact Sl.nil⟩ ⟨⟨rfl, rfl, rfl⟩, rfl, trivial⟩ rfl
        · conv => whnf
          refine freezeE 2 (fun _ => .arr 50 2 ((xo :: ro).map enc) co) rfl rfl rfl (fun _ _ => ?_) (fun _ _ => encB_below _ _ _) ?_
          · exact encB_ren _ (xo :: ro) co
          intro b F' hle hb
          refine endFo (.ret (.tup [.va (.slice false 0 (b 0) 0 2 (ro.length + 1) co), .va (.int .i64 0)])) F' rfl hle (Fz.le_refl F') ⟨_, by rw [g1]; rfl, ?_⟩ ⟨⟨rfl, rfl, rfl, .inr ⟨rfl, rfl, rfl, rfl⟩⟩, rfl, trivial⟩ rfl
          rw [g1, if_pos rfl, ← hfin]
          exact Sl.new (l := xo :: ro) (hb 0 ⟨rfl, rfl⟩)
end Go.Proofs.YtblllibdahkgfaaGreatDoor
