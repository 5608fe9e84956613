import Derived.Test.YtblllibdahkgfaaGreatDoorK28
import Derived.Test.YtblllibdahkgfaaGreatDoorK26
import Derived.Test.YtblllibdahkgfaaGreatDoorK25
import Derived.Test.YtblllibdahkgfaaGreatDoorK22

namespace Go.Proofs.YtblllibdahkgfaaGreatDoor
open Go Sx
set_option maxRecDepth 100000
theorem cwithin_pu (n lo hi : Int) : Pu Tryz.prog 151 [.va (.int .i64 n), .va (.int .i64 lo), .va (.int .i64 hi)] (.va (.bool (inR n lo hi))) := by
  intro F
  refine fo_of hΘ Tryz.func151 rfl (by decide) _ _ rfl rfl rfl ?_
  conv => whnf
  refine ⟨fun g => ?_, fun g => ?_⟩
  · conv => whnf
    refine endPu rfl (Fz.le_refl F) (ob ?_) rfl
    unfold inR; rw [g, Bool.true_and]
  · conv => whnf
    refine endPu rfl (Fz.le_refl F) (ob ?_) rfl
    unfold inR; rw [g, Bool.false_and]
theorem cwithinL {n lo hi : Int} {b : Bool} (h : inR n lo hi = b) (F : Fz) : Fo Tryz.prog F 151 [.va (.int .i64 n), .va (.int .i64 lo), .va (.int .i64 hi)] (fun o F' => o = .ret (.va (.lit b)) ∧ F' = F) := by
  have h1 := cwithin_pu n lo hi F
  rw [h] at h1
  exact Fo_lit h1
/-- The cells of a document. -/
abbrev docS (a b : SA) (w : Int) (s : List UInt8) : List SA := [a, b, .int .i64 w, .str s]
def hgt (w : Int) (s : List UInt8) : Int := if w < 1 then 0 else (s.length : Int).tdiv w
set_option maxHeartbeats 4000000 in
theorem height_fn (F : Fz) (a b : SA) (w : Int) (s : List UInt8) (hs : s.length ≤ 1000000000000000000) : Fo Tryz.prog F 123 [.agg (docS a b w s)] (fun o F' => o = .ret (.va (.int .i64 (hgt w s))) ∧ F' = F) := by
  have fin : ∀ (z : Int) (h : Hp) (nx : Nat), hgt w s = z → lget h 0 = some (.frz F) → Cln 1 (FoK F fun o F' => o = .ret (.va (.int .i64 (hgt w s))) ∧ F' = F) (.ret (.va (.int .i64 z))) h nx := by
    intro z h nx hz h0
    subst hz
    exact endPu h0 (Fz.le_refl F) (outE_refl _) rfl
  by_cases hw : w < 1
  · have e : hgt w s = 0 := if_pos hw
    refine fo_of hΘ Tryz.func123 rfl (by decide) _ _ rfl rfl rfl ?_
    conv => whnf
    refine br (fun _ => ?_) (fun g => absurd hw (of_decide_eq_false g))
    conv => whnf
    exact fin 0 _ _ e rfl
  · have hw0 : w ≠ 0 := by omega
    have hd : IntKind.i64.wrap ((s.length : Int).tdiv w) = (s.length : Int).tdiv w := by
      have h1 : 0 ≤ (s.length : Int).tdiv w := Int.tdiv_nonneg (by omega) (by omega)
      have h2 : (s.length : Int).tdiv w ≤ s.length := by
        rw [Int.tdiv_eq_ediv_of_nonneg (by omega)]
        exact Int.ediv_le_self _ (by omega)
      exact wrap64_id (by omega) (by omega)
    have e : hgt w s = IntKind.i64.wrap ((s.length : Int).tdiv w) := by rw [hd]; exact if_neg hw
    refine fo_of hΘ Tryz.func123 rfl (by decide) _ _ rfl rfl rfl ?_
    conv => whnf
    refine br (fun g => absurd (of_decide_eq_true g) hw) (fun _ => ?_)
    conv => whnf
    refine ⟨hw0, ?_⟩
    conv => whnf
    exact fin _ _ _ e rfl
/-- A cell: row, column, sum, value, top, left. -/
structure Cel where
  row : Int
  col : Int
  sum : Bool
  value : Int
  top : Int
  left : Int
def encK (c : Cel) : List SA := [.int .i64 c.row, .int .i64 c.col, .bool c.sum, .int .i64 c.value, .int .i64 c.top, .int .i64 c.left]
def celOk (c : Cel) : Bool := (inR c.row 0 31 && inR c.col 0 31) && (if c.sum = true then (decide (c.value = 0) && inR c.top 0 c.row) && inR c.left 0 c.col else (inR c.value (-1000000) 1000000 && decide (c.top = 0)) && decide (c.left = 0))
set_option maxHeartbeats 8000000 in
theorem isCell_fn (F : Fz) (c : Cel) : Fo Tryz.prog F 129 [.agg (encK c)] (fun o F' => o = .ret (.va (.bool (celOk c))) ∧ F' = F) := by
  obtain ⟨row, col, sum, value, top, left⟩ := c
  have hx : ∃ b1 b2 b3 b4 b5, inR row 0 31 = b1 ∧ inR col 0 31 = b2 ∧ inR top 0 row = b3 ∧ inR left 0 col = b4 ∧ inR value (-1000000) 1000000 = b5 := ⟨_, _, _, _, _, rfl, rfl, rfl, rfl, rfl⟩
  obtain ⟨b1, b2, b3, b4, b5, h1, h2, h3, h4, h5⟩ := hx
  have w1 := cwithinL h1 F
  have w2 := cwithinL h2 F
  have w3 := cwithinL h3 F
  have w4 := cwithinL h4 F
  have w5 := cwithinL h5 F
  have fin : ∀ (z : Bool) (a : SA) (h : Hp) (nx : Nat), celOk ⟨row, col, sum, value, top, left⟩ = z → atomE (.bool z) (a.ren (resP h)) → lget h 0 = some (.frz F) → Cln 1 (FoK F fun o F' => o = .ret (.va (.bool (celOk ⟨row, col, sum, value, top, left⟩))) ∧ F' = F) (.ret (.va a)) h nx := by
    intro z a h nx hz ha h0
    subst hz
    exact endPu h0 (Fz.le_refl F) ha rfl
  have e : celOk ⟨row, col, sum, value, top, left⟩ = ((b1 && b2) && (if sum = true then (decide (value = 0) && b3) && b4 else (b5 && decide (top = 0)) && decide (left = 0))) := by
    rw [← h1, ← h2, ← h3, ← h4, ← h5]; rfl
  clear h1 h2 h3 h4 h5
  refine fo_of hΘ Tryz.func129 rfl (by decide) _ _ rfl rfl rfl ?_
  conv => whnf
  refine usePu w1 rfl ⟨rfl, rfl, rfl, trivial⟩ rfl ?_
  rcases b1 with _ | _
  · conv => whnf
    exact fin false _ _ _ e rfl rfl
  · conv => whnf
    refine usePu w2 rfl ⟨rfl, rfl, rfl, trivial⟩ rfl ?_
    rcases b2 with _ | _
    · conv => whnf
      exact fin false _ _ _ e rfl rfl
    · rcases sum with _ | _
      · conv => whnf
        refine br (fun g => absurd g (by show ¬ false = true; decide)) (fun _ => ?_)
        conv => whnf
        refine usePu w5 rfl ⟨rfl, rfl, rfl, trivial⟩ rfl ?_
        rcases b5 with _ | _
        · conv => whnf
          exact fin false _ _ _ e rfl rfl
        · conv => whnf
          by_cases ht : top = 0
          · refine ⟨fun _ => ?_, fun g => absurd ht (of_decide_eq_false g)⟩
            conv => whnf
            exact fin (decide (left = 0)) _ _ _ (by rw [e, decide_eq_true ht]; simp) rfl rfl
          · refine ⟨fun g => absurd (of_decide_eq_true g) ht, fun _ => ?_⟩
            conv => whnf
            exact fin false _ _ _ (by rw [e, decide_eq_false ht]; simp) rfl rfl
      · conv => whnf
        refine br (fun _ => ?_) (fun g => absurd g (by show ¬ true = false; decide))
        conv => whnf
        by_cases hv : value = 0
        · refine ⟨fun _ => ?_, fun g => absurd hv (of_decide_eq_false g)⟩
          conv => whnf
          refine usePu w3 rfl ⟨rfl, rfl, rfl, trivial⟩ rfl ?_
          rcases b3 with _ | _
          · conv => whnf
            exact fin false _ _ _ (by rw [e, decide_eq_true hv]; rfl) rfl rfl
          · conv => whnf
            refine usePu w4 rfl ⟨rfl, rfl, rfl, trivial⟩ rfl ?_
            conv => whnf
            exact fin b4 _ _ _ (by rw [e, decide_eq_true hv]; simp) rfl rfl
        · refine ⟨fun g => absurd (of_decide_eq_true g) hv, fun _ => ?_⟩
          conv => whnf
          exact fin false _ _ _ (by rw [e, decide_eq_false hv]; simp) rfl rfl
end Go.Proofs.YtblllibdahkgfaaGreatDoor

namespace Go.Proofs.YtblllibdahkgfaaGreatDoor
open Go Go.RowKit Sx
theorem pred154 (w : World) : PredAtRunes Tryz.prog 154 #[] badR w := by
  intro W x hx hb
  unfold FnGives
  go_enter Tryz.func154, Tryz.ntmps154
  by_cases h1 : 32 ≤ x
  · by_cases h2 : x ≤ 126
    · go_wp2
      all_goals go_ret
      all_goals refine ⟨?_, 0, rfl⟩
      all_goals (simp [badR, h1, h2]; try omega)
    · go_wp2
      all_goals go_ret
      all_goals refine ⟨?_, 0, rfl⟩
      all_goals (simp [badR, h1, h2]; try omega)
  · go_wp2
    all_goals go_ret
    all_goals refine ⟨?_, 0, rfl⟩
    all_goals (simp [badR, h1]; try omega)
/-- strings.IndexFunc. -/
theorem ifun (F : Fz) (s : List UInt8) (hs : s.length ≤ 1000000000000000000) : Fo Tryz.prog F 145 [.va (.str s), .va (.fn (.func 154) [])] (fun o F' => (∃ z, o = .ret (.va (.int .i64 z)) ∧ decide (0 ≤ z) = s.any badC) ∧ F' = F) := by
  refine Fo_mono (foreign (F := F) (args := [.va (.str s), .va (.fn (.func 154) [])]) (out := .ret (.va (.int .i64 (Lib.idxFunc badR true ⟨s.toArray⟩)))) (vs := [.string ⟨s.toArray⟩, .func (.func 154) #[] #[]]) (Sx.enters_of Tryz.func145 rfl (by decide)) rfl (by
      rintro ρ vs' h
      match vs', h with
      | [v, u], h => rw [h.1, h.2.1]; rfl) (.returned (.int .i64 (Lib.idxFunc badR true ⟨s.toArray⟩))) (fun ρ => ⟨_, rfl, rfl⟩) (fun C ρ w S => by
      have h := Any.strings_IndexFunc_runes { Tryz.laysGw17 with } 154 #[] (enters_of Tryz.func154 (by kernel_rfl) rfl) badR ⟨s.toArray⟩ w (pred154 w)
      refine h.mono fun e w' ⟨h1, h2⟩ => ⟨?_, h2⟩
      rw [h1])) fun o F' h => ⟨⟨_, h.1, by rw [Lib.idxFunc, idx_bad s _ 0 (by show s.length ≤ 0 + s.toArray.size; simp), List.drop_zero]⟩, h.2⟩
end Go.Proofs.YtblllibdahkgfaaGreatDoor

namespace Go.Proofs.YtblllibdahkgfaaGreatDoor
open Go Sx
set_option maxRecDepth 100000
abbrev DLn := List UInt8 × Int
def encN (l : DLn) : List SA := [.str l.1, .int .i64 l.2]
def dlnOk (l : DLn) : Bool := (decide (l.1.length ≤ 80) && !l.1.any badC) && inR l.2 0 7
set_option maxHeartbeats 8000000 in
theorem isLine_fn (F : Fz) (l : DLn) : Fo Tryz.prog F 127 [.agg (encN l)] (fun o F' => o = .ret (.va (.bool (dlnOk l))) ∧ F' = F) := by
  obtain ⟨t, m⟩ := l
  have hx : ∃ b1 b2, t.any badC = b1 ∧ inR m 0 7 = b2 := ⟨_, _, rfl, rfl⟩
  obtain ⟨b1, b2, h1, h2⟩ := hx
  have w2 := cwithinL h2 F
  have e : dlnOk (t, m) = ((decide (t.length ≤ 80) && !b1) && b2) := by rw [← h1, ← h2]; rfl
  have hif := fun h80 : t.length ≤ 80 => ifun F t (Nat.le_trans h80 (by decide))
  rw [h1] at hif
  have fin : ∀ (z : Bool) (a : SA) (h : Hp) (nx : Nat), dlnOk (t, m) = z → atomE (.bool z) (a.ren (resP h)) → lget h 0 = some (.frz F) → Cln 1 (FoK F fun o F' => o = .ret (.va (.bool (dlnOk (t, m)))) ∧ F' = F) (.ret (.va a)) h nx := by
    intro z a h nx hz ha h0
    subst hz
    exact endPu h0 (Fz.le_refl F) ha rfl
  clear h1 h2
  by_cases h80 : t.length ≤ 80
  · have h80' : (t.length : Int) ≤ 80 := by omega
    refine fo_of hΘ Tryz.func127 rfl (by decide) _ _ rfl rfl rfl ?_
    conv => whnf
    refine ⟨fun _ => ?_, fun g => absurd h80' (of_decide_eq_false g)⟩
    conv => whnf
    refine useFo (hif h80) rfl ⟨rfl, rfl, trivial⟩ rfl ?_
    rintro _ F' _ ⟨⟨z, rfl, hz⟩, rfl⟩
    rcases b1 with _ | _
    · have hz0 : z < 0 := by
        have := of_decide_eq_false hz; omega
      conv => whnf
      refine ⟨fun _ => ?_, fun g => absurd hz0 (of_decide_eq_false g)⟩
      conv => whnf
      refine usePu w2 rfl ⟨rfl, rfl, rfl, trivial⟩ rfl ?_
      conv => whnf
      exact fin b2 _ _ _ (by rw [e, decide_eq_true h80]; simp) rfl rfl
    · have hz0 : ¬ z < 0 := by
        have := of_decide_eq_true hz; omega
      conv => whnf
      refine ⟨fun g => absurd (of_decide_eq_true g) hz0, fun _ => ?_⟩
      conv => whnf
      exact fin false _ _ _ (by rw [e]; simp) rfl rfl
  · have h80' : ¬ (t.length : Int) ≤ 80 := by omega
    refine fo_of hΘ Tryz.func127 rfl (by decide) _ _ rfl rfl rfl ?_
    conv => whnf
    refine ⟨fun g => absurd (of_decide_eq_true g) h80', fun _ => ?_⟩
    conv => whnf
    exact fin false _ _ _ (by rw [e, decide_eq_false h80]; simp) rfl rfl
theorem inR_iff' {n lo hi : Int} : inR n lo hi = true ↔ lo ≤ n ∧ n ≤ hi := by
  unfold inR; simp
def bitK (b : UInt8) : Bool := b == 48 || b == 49
theorem zagg {l : List SA} {μ : Mu} (h : l.all SA.z = true) (h0 : ∀ k, μ 0 k = (0, k)) : svE (.agg l) (SV.ren μ (.agg l)) := by
  have h2 : (SV.agg l).z = true := h
  rw [SV.ren_id (.inl h2) h0]; exact svE_refl _
/-- Is a raster valid? -/
def rasOk (w : Int) (s : List UInt8) : Bool := (inR w 0 32 && s.all bitK) && ((decide (w = 0) && (s == [])) || ((decide (0 < w) && decide ((s.length : Int) = w * hgt w s)) && inR (hgt w s) 1 32))
set_option maxHeartbeats 8000000 in
theorem isRaster_fn (F : Fz) (a b : SA) (w : Int) (s : List UInt8) (hs : s.length ≤ 70000) (za : a.z = true) (zb : b.z = true) : Fo Tryz.prog F 130 [.agg (docS a b w s)] (fun o F' => o = .ret (.va (.bool (rasOk w s))) ∧ F' = F) := by
  have hz : (docS a b w s).all SA.z = true := by
    show (a.z && (b.z && (true && (true && true)))) = true
    rw [za, zb]; rfl
  have hzz : ([SV.agg (docS a b w s)].all SV.z) = true := by
    show ((docS a b w s).all SA.z && true) = true
    rw [hz]; rfl
  have htr := tfun F s hs
  have hhg := height_fn F a b w s (by omega)
  have hx : ∃ b1 b2 b3, inR w 0 32 = b1 ∧ s.all bitK = b2 ∧ inR (hgt w s) 1 32 = b3 := ⟨_, _, _, rfl, rfl, rfl⟩
  obtain ⟨b1, b2, b3, h1, h2, h3⟩ := hx
  have w1 := cwithinL h1 F
  have w3 := cwithinL h3 F
  have e : rasOk w s = ((b1 && b2) && ((decide (w = 0) && (s == [])) || ((decide (0 < w) && decide ((s.length : Int) = w * hgt w s)) && b3))) := by
    unfold rasOk; rw [h1, h2, h3]
  have hr : b1 = true → 0 ≤ w ∧ w ≤ 32 := fun h => inR_iff'.1 (h1.trans h)
  have fin : ∀ (z : Bool) (a : SA) (h : Hp) (nx : Nat), rasOk w s = z → atomE (.bool z) (a.ren (resP h)) → lget h 0 = some (.frz F) → Cln 1 (FoK F fun o F' => o = .ret (.va (.bool (rasOk w s))) ∧ F' = F) (.ret (.va a)) h nx := by
    intro z a h nx hz ha h0
    subst hz
    exact endPu h0 (Fz.le_refl F) ha rfl
  clear h1 h3
  rcases b1 with _ | _
  · refine fo_of hΘ Tryz.func130 rfl (by decide) _ _ rfl rfl rfl ?_
    conv => whnf
    refine usePu w1 rfl ⟨rfl, rfl, rfl, trivial⟩ rfl ?_
    conv => whnf
    exact fin false _ _ _ (by rw [e]; simp) rfl rfl
  have hw := hr rfl
  refine fo_of hΘ Tryz.func130 rfl (by decide) _ _ rfl rfl rfl ?_
  conv => whnf
  refine usePu w1 rfl ⟨rfl, rfl, rfl, trivial⟩ rfl ?_
  conv => whnf
  refine useFo htr rfl ⟨rfl, rfl, trivial⟩ rfl ?_
  rintro _ F' _ ⟨rfl, r, rfl, hrr⟩
  rcases b2 with _ | _
  · have hrn : (!(r == [])) = true := by
      have h4 : ¬ r = [] := fun h => by
        have h5 : s.all bitK = true := hrr.1 h
        rw [h2] at h5; cases h5
      simpa using h4
    conv => whnf
    refine br (fun _ => ?_) (fun g => absurd hrn (by rw [g]; simp))
    conv => whnf
    exact fin false _ _ _ (by rw [e]; simp) rfl rfl
  have hrn : (!(r == [])) = false := by
    have h4 : r = [] := hrr.2 h2
    rw [h4]; rfl
  conv => whnf
  refine br (fun g => absurd g (by rw [hrn]; simp)) (fun _ => ?_)
  conv => whnf
  refine drawP hΘ mixed (.look 0 (.look 1 (.look 2 (.look 3 (.look 4 (.look 5 (.look 6 (.look 7 (.look 8 (.look 9 (.look 10 (.look 11 (.look 12 (.look 13 (.look 14 (.look 15 (.look 16 (.look 17 (.look 18 (.look 19 (.look 20 (.look 21 (.look 22 (.look 23 (.alt 24 (.look 25 (.look 26 (.look 27 (.look 28 (.look 29 (.alt 30 (.alt 31 (.look 32 (.look 33 (.look 34 .done))) .nil) .nil)))))) .nil))))))))))))))))))))))))) [1] (by kernel_rfl) ?_
  conv => whnf
  refine ⟨rfl, ?_⟩
  conv => whnf
  by_cases hw0 : w = 0
  · refine ⟨fun _ => ?_, fun g => absurd hw0 (of_decide_eq_false g)⟩
    conv => whnf
    refine ⟨rfl, ?_⟩
    conv => whnf
    by_cases hs0 : s = []
    · have hse : (s == []) = true := by rw [hs0]; rfl
      refine ⟨fun g => absurd g (by rw [hse]; simp), fun _ => ?_⟩
      conv => whnf
      exact fin true _ _ _ (by rw [e, hse, decide_eq_true hw0]; rfl) rfl rfl
    · have hse : (s == []) = false := by simpa using hs0
      have hnp : ¬ 0 < w := by omega
      refine ⟨fun _ => ?_, fun g => absurd g (by rw [hse]; simp)⟩
      conv => whnf
      refine ⟨rfl, ?_⟩
      conv => whnf
      refine ⟨fun g => absurd (of_decide_eq_true g) hnp, fun _ => ?_⟩
      conv => whnf
      exact fin false _ _ _ (by rw [e, hse, decide_eq_false hnp]; simp) rfl rfl
  · have hpos : 0 < w := by omega
    have hmul : IntKind.i64.wrap (w * hgt w s) = w * hgt w s := by
      have h6 : 0 ≤ hgt w s := by
        unfold hgt; split
        · omega
        · exact Int.tdiv_nonneg (by omega) (by omega)
      have h7 : hgt w s ≤ 70000 := by
        unfold hgt; split
        · omega
        · rw [Int.tdiv_eq_ediv_of_nonneg (by omega)]
          exact Int.le_trans (Int.ediv_le_self _ (by omega)) (by omega)
      have h8 : w * hgt w s ≤ 32 * 70000 := Int.mul_le_mul hw.2 h7 h6 (by omega)
      have h9 : 0 ≤ w * hgt w s := Int.mul_nonneg (by omega) h6
      exact wrap64_id (by omega) (by omega)
    have e' : rasOk w s = (decide ((s.length : Int) = IntKind.i64.wrap (w * hgt w s)) && b3) := by
      rw [e, hmul, decide_eq_true hpos, decide_eq_false hw0]; simp
    clear hmul
    refine ⟨fun g => absurd (of_decide_eq_true g) hw0, fun _ => ?_⟩
    conv => whnf
    refine ⟨rfl, ?_⟩
    conv => whnf
    refine ⟨fun _ => ?_, fun g => absurd hpos (of_decide_eq_false g)⟩
    conv => whnf
    refine ⟨rfl, ?_⟩
    conv => whnf
    refine ⟨rfl, ?_⟩
    conv => whnf
    refine ⟨rfl, ?_⟩
    conv => whnf
    refine usePu hhg rfl ⟨zagg hz (fun k => rfl), trivial⟩ hzz ?_
    refine ⟨Fz.le_refl F, rfl, ?_⟩
    conv => whnf
    by_cases hm : (s.length : Int) = IntKind.i64.wrap (w * hgt w s)
    · refine ⟨fun _ => ?_, fun g => absurd hm (of_decide_eq_false g)⟩
      rw [decide_eq_true hm, Bool.true_and] at e'
      conv => whnf
      refine ⟨rfl, ?_⟩
      conv => whnf
      refine usePu hhg rfl ⟨zagg hz (fun k => rfl), trivial⟩ hzz ?_
      refine ⟨Fz.le_refl F, rfl, ?_⟩
      conv => whnf
      refine usePu w3 rfl ⟨rfl, rfl, rfl, trivial⟩ rfl ?_
      refine ⟨Fz.le_refl F, rfl, ?_⟩
      conv => whnf
      exact fin b3 _ _ _ e' rfl rfl
    · refine ⟨fun g => absurd (of_decide_eq_true g) hm, fun _ => ?_⟩
      rw [decide_eq_false hm, Bool.false_and] at e'
      conv => whnf
      exact fin false _ _ _ e' rfl rfl
end Go.Proofs.YtblllibdahkgfaaGreatDoor

namespace Go.Proofs.YtblllibdahkgfaaGreatDoor
open Go Sx
set_option maxRecDepth 100000
/-- The place of the first element that something is not true of, or -1. -/
def idxG {α : Type} (q : α → Bool) : List α → Nat → Int
  | [], _ => -1
  | x :: r, n => if q x = false then n else idxG q r (n + 1)
theorem idxG_drop {α : Type} (q : α → Bool) (l : List α) (k : Nat) (h : k < l.length) : idxG q (l.drop k) k = if q l[k] = false then (k : Int) else idxG q (l.drop (k + 1)) (k + 1) := by
  rw [List.drop_eq_getElem_cons h]; rfl
theorem idxG_neg {α : Type} (q : α → Bool) : ∀ (l : List α) (n : Nat), (0 ≤ idxG q l n) ↔ l.all q = false
  | [], n => by simp [idxG]
  | x :: r, n => by
    simp only [idxG, List.all_cons]
    split
    · rename_i h; simp [h]
    · rename_i h
      have : q x = true := by simpa using h
      rw [idxG_neg q r (n + 1), this]; simp
theorem idxG_all {α : Type} (q : α → Bool) (l : List α) : (!decide (0 ≤ idxG q l 0)) = l.all q := by
  have := idxG_neg q l 0
  cases h : l.all q with
  | true =>
    rw [h] at this
    have h2 : ¬ (0 ≤ idxG q l 0) := fun h3 => by have := this.1 h3; cases this
    rw [decide_eq_false h2]; rfl
  | false => rw [h] at this; rw [decide_eq_true (this.2 rfl)]; rfl
set_option maxHeartbeats 4000000 in
theorem al1N (F : Fz) (x : DLn) (bc : Nat) (hx : True) (hB : F bc = some (.cells 174 [.fn (.func 127) []])) : Fo Tryz.prog F 153 [.agg (encN x), .va (.ptr (fp bc))] (fun o F' => o = .ret (.va (.bool (!dlnOk x))) ∧ F' = F) := by
  have hi := isLine_fn F x
  refine fo_of hΘ Tryz.func153 rfl (by decide) _ _ rfl rfl rfl ?_
  conv => whnf
  refine ⟨_, hB, ?_⟩
  conv => whnf
  refine usePu hi rfl (argsE_refl _) rfl ?_
  conv => whnf
  exact endPu rfl (Fz.le_refl F) rfl rfl
set_option maxHeartbeats 4000000 in
theorem al2N (F : Fz) (sa : SA) (l : List DLn) (bc : Nat) (ha : Sl F 168 2 encN sa l) (hl : l.length < 1000000) (hx : ∀ x ∈ l, True) (hB : F bc = some (.cells 174 [.fn (.func 127) []])) :
    Fo Tryz.prog F 174 [.va sa, .va (.fn (.func 153) [fp bc])] (fun o F' => o = .ret (.va (.int .i64 (idxG dlnOk l 0))) ∧ F' = F) := by
  have fin : ∀ (x : Int) (h : Hp) (nx : Nat), idxG dlnOk l 0 = x → lget h 0 = some (.frz F) →
      Cln 1 (FoK F fun o F' => o = .ret (.va (.int .i64 (idxG dlnOk l 0))) ∧ F' = F) (.ret (.va (.int .i64 x))) h nx := by
    intro x h nx hv h0
    exact endPu h0 (Fz.le_refl F) (oi hv) rfl
  obtain ⟨han, hab, hae, hac, haL, har, rfl, ha1, ha2, ha3, ha4⟩ := ha
  refine fo_of hΘ Tryz.func174 rfl (by decide) _ _ rfl rfl rfl ?_
  conv => whnf
  refine loop_at hΘ (X := { k : Nat // k ≤ l.length ∧ idxG dlnOk l 0 = idxG dlnOk (l.drop k) k }) (fun k => [(8, .va (.int .i64 k.1))]) [4, 5, 9, 10, 11, 12, 13, 14, 15, 16, 17, 18] (fz fun _ => F) 1 (fun k => l.length - k.1) ⟨0, by simp⟩
    (fun hH hT => le0 hH hT rfl (Fz.le_refl F) rfl ⟨rfl, trivial⟩) ?_
  rintro ⟨k, hk, hp⟩ hH hT
  replace hk : k ≤ l.length := hk
  replace hp : idxG dlnOk l 0 = idxG dlnOk (l.drop k) k := hp
  by_cases g : k < l.length
  · have hlt : (k : Int) < (l.length : Nat) := by omega
    have hidx : 0 ≤ (k : Int) ∧ (k : Int) < (l.length : Nat) := by omega
    have hex : ∃ x, l[k] = x := ⟨_, rfl⟩
    obtain ⟨x, hx0⟩ := hex
    have hat : haL[hae + (k : Int).toNat]? = some (encN x) := by rw [← hx0]; exact Sl.at ha4 g
    have hc := hx _ (List.getElem_mem g)
    try rw [hx0] at hc
    have hcall := al1N F x bc (trivial) hB
    rw [idxG_drop _ l k g, hx0] at hp
    have hk1 : k + 1 ≤ l.length := g
    have hdec : l.length - (k + 1) < l.length - k := by omega
    have hk62 : k < 4611686018427387904 := by omega
    have hqx : ∃ b, dlnOk x = b := ⟨_, rfl⟩
    obtain ⟨b, hqx⟩ := hqx
    rw [hqx] at hp hcall
    clear hx hc hx0
    conv => whnf
    refine br (fun _ => ?_) (fun g2 => absurd hlt (of_decide_eq_false g2))
    conv => whnf
    refine ⟨Sl.lt ha1 g, hidx, ?_⟩
    conv => whnf
    refine ⟨_, ha2 (Sl.lt ha1 g), ?_⟩
    conv => whnf
    refine ⟨_, hat, ?_⟩
    conv => whnf
    refine usePu hcall rfl (argsE_refl _) rfl ?_
    rcases b with _ | _
    · conv => whnf
      refine br (fun _ => ?_) (fun g2 => absurd g2 (by decide))
      conv => whnf
      exact fin _ _ _ (hp.trans (if_pos rfl)) rfl
    · conv => whnf
      refine br (fun g2 => absurd g2 (by decide)) (fun _ => ?_)
      rw [if_neg (by decide)] at hp
      conv => whnf
      exact ⟨⟨k + 1, hk1, hp⟩, hdec, lr0 hH hT rfl (Fz.le_refl F) rfl ⟨cnt hk62, trivial⟩⟩
  · have hge : ¬ (k : Int) < (l.length : Nat) := by omega
    rw [List.drop_of_length_le (by omega)] at hp
    conv => whnf
    refine br (fun g2 => absurd (of_decide_eq_true g2) hge) (fun _ => ?_)
    conv => whnf
    exact fin _ _ _ hp rfl
theorem al3N (F : Fz) (sa : SA) (l : List DLn) (bc : Nat) (ha : Sl F 168 2 encN sa l) (hl : l.length < 1000000) (hx : ∀ x ∈ l, True) (hB : F bc = some (.cells 174 [.fn (.func 127) []])) :
    Fo Tryz.prog F 152 [.va sa, .va (.fn (.func 153) [fp bc])] (fun o F' => o = .ret (.va (.bool (decide (0 ≤ idxG dlnOk l 0)))) ∧ F' = F) := by
  have h := al2N F sa l bc ha hl hx hB
  obtain ⟨han, hab, hae, hac, haL, har, rfl, ha1, ha2, ha3, ha4⟩ := ha
  refine fo_of hΘ Tryz.func152 rfl (by decide) _ _ rfl rfl rfl ?_
  conv => whnf
  refine usePu h rfl (argsE_refl _) rfl ?_
  conv => whnf
  exact endPu rfl (Fz.le_refl F) (ob rfl) rfl
theorem allN (F : Fz) (sa : SA) (l : List DLn) (ha : Sl F 168 2 encN sa l) (hl : l.length < 1000000) (hx : ∀ x ∈ l, True) :
    Fo Tryz.prog F 126 [.va sa, .va (.fn (.func 127) [])] (fun o F' => o = .ret (.va (.bool (l.all dlnOk))) ∧ F' = F) := by
  have h := fun F' (hle : Fz.le F F') bc => al3N F' sa l bc (ha.mono hle) hl hx
  have e := idxG_all dlnOk l
  obtain ⟨han, hab, hae, hac, haL, har, rfl, ha1, ha2, ha3, ha4⟩ := ha
  refine fo_of hΘ Tryz.func126 rfl (by decide) _ _ rfl rfl rfl ?_
  conv => whnf
  refine freezeC 1 (fun _ => .cells 174 [.fn (.func 127) []]) rfl rfl rfl (fun _ _ => rfl) (fun _ _ => SB.bB_ok rfl) ?_
  intro bc F2 l2 hB
  refine usePu (h F2 l2 (bc 0) (hB 0 rfl)) rfl (argsE_refl _) rfl ?_
  conv => whnf
  exact endPu rfl l2 (ob e.symm) rfl
set_option maxHeartbeats 4000000 in
theorem al1K (F : Fz) (x : Cel) (bc : Nat) (hx : True) (hB : F bc = some (.cells 176 [.fn (.func 129) []])) : Fo Tryz.prog F 156 [.agg (encK x), .va (.ptr (fp bc))] (fun o F' => o = .ret (.va (.bool (!celOk x))) ∧ F' = F) := by
  have hi := isCell_fn F x
  refine fo_of hΘ Tryz.func156 rfl (by decide) _ _ rfl rfl rfl ?_
  conv => whnf
  refine ⟨_, hB, ?_⟩
  conv => whnf
  refine usePu hi rfl (argsE_refl _) rfl ?_
  conv => whnf
  exact endPu rfl (Fz.le_refl F) rfl rfl
set_option maxHeartbeats 4000000 in
theorem al2K (F : Fz) (sa : SA) (l : List Cel) (bc : Nat) (ha : Sl F 172 6 encK sa l) (hl : l.length < 1000000) (hx : ∀ x ∈ l, True) (hB : F bc = some (.cells 176 [.fn (.func 129) []])) :
    Fo Tryz.prog F 173 [.va sa, .va (.fn (.func 156) [fp bc])] (fun o F' => o = .ret (.va (.int .i64 (idxG celOk l 0))) ∧ F' = F) := by
  have fin : ∀ (x : Int) (h : Hp) (nx : Nat), idxG celOk l 0 = x → lget h 0 = some (.frz F) →
      Cln 1 (FoK F fun o F' => o = .ret (.va (.int .i64 (idxG celOk l 0))) ∧ F' = F) (.ret (.va (.int .i64 x))) h nx := by
    intro x h nx hv h0
    exact endPu h0 (Fz.le_refl F) (oi hv) rfl
  obtain ⟨han, hab, hae, hac, haL, har, rfl, ha1, ha2, ha3, ha4⟩ := ha
  refine fo_of hΘ Tryz.func173 rfl (by decide) _ _ rfl rfl rfl ?_
  conv => whnf
  refine loop_at hΘ (X := { k : Nat // k ≤ l.length ∧ idxG celOk l 0 = idxG celOk (l.drop k) k }) (fun k => [(8, .va (.int .i64 k.1))]) [4, 5, 9, 10, 11, 12, 13, 14, 15, 16, 17, 18] (fz fun _ => F) 1 (fun k => l.length - k.1) ⟨0, by simp⟩
    (fun hH hT => le0 hH hT rfl (Fz.le_refl F) rfl ⟨rfl, trivial⟩) ?_
  rintro ⟨k, hk, hp⟩ hH hT
  replace hk : k ≤ l.length := hk
  replace hp : idxG celOk l 0 = idxG celOk (l.drop k) k := hp
  by_cases g : k < l.length
  · have hlt : (k : Int) < (l.length : Nat) := by omega
    have hidx : 0 ≤ (k : Int) ∧ (k : Int) < (l.length : Nat) := by omega
    have hex : ∃ x, l[k] = x := ⟨_, rfl⟩
    obtain ⟨x, hx0⟩ := hex
    have hat : haL[hae + (k : Int).toNat]? = some (encK x) := by rw [← hx0]; exact Sl.at ha4 g
    have hc := hx _ (List.getElem_mem g)
    try rw [hx0] at hc
    have hcall := al1K F x bc (trivial) hB
    rw [idxG_drop _ l k g, hx0] at hp
    have hk1 : k + 1 ≤ l.length := g
    have hdec : l.length - (k + 1) < l.length - k := by omega
    have hk62 : k < 4611686018427387904 := by omega
    have hqx : ∃ b, celOk x = b := ⟨_, rfl⟩
    obtain ⟨b, hqx⟩ := hqx
    rw [hqx] at hp hcall
    clear hx hc hx0
    conv => whnf
    refine br (fun _ => ?_) (fun g2 => absurd hlt (of_decide_eq_false g2))
    conv => whnf
    refine ⟨Sl.lt ha1 g, hidx, ?_⟩
    conv => whnf
    refine ⟨_, ha2 (Sl.lt ha1 g), ?_⟩
    conv => whnf
    refine ⟨_, hat, ?_⟩
    conv => whnf
    refine usePu hcall rfl (argsE_refl _) rfl ?_
    rcases b with _ | _
    · conv => whnf
      refine br (fun _ => ?_) (fun g2 => absurd g2 (by decide))
      conv => whnf
      exact fin _ _ _ (hp.trans (if_pos rfl)) rfl
    · conv => whnf
      refine br (fun g2 => absurd g2 (by decide)) (fun _ => ?_)
      rw [if_neg (by decide)] at hp
      conv => whnf
      exact ⟨⟨k + 1, hk1, hp⟩, hdec, lr0 hH hT rfl (Fz.le_refl F) rfl ⟨cnt hk62, trivial⟩⟩
  · have hge : ¬ (k : Int) < (l.length : Nat) := by omega
    rw [List.drop_of_length_le (by omega)] at hp
    conv => whnf
    refine br (fun g2 => absurd (of_decide_eq_true g2) hge) (fun _ => ?_)
    conv => whnf
    exact fin _ _ _ hp rfl
theorem al3K (F : Fz) (sa : SA) (l : List Cel) (bc : Nat) (ha : Sl F 172 6 encK sa l) (hl : l.length < 1000000) (hx : ∀ x ∈ l, True) (hB : F bc = some (.cells 176 [.fn (.func 129) []])) :
    Fo Tryz.prog F 155 [.va sa, .va (.fn (.func 156) [fp bc])] (fun o F' => o = .ret (.va (.bool (decide (0 ≤ idxG celOk l 0)))) ∧ F' = F) := by
  have h := al2K F sa l bc ha hl hx hB
  obtain ⟨han, hab, hae, hac, haL, har, rfl, ha1, ha2, ha3, ha4⟩ := ha
  refine fo_of hΘ Tryz.func155 rfl (by decide) _ _ rfl rfl rfl ?_
  conv => whnf
  refine usePu h rfl (argsE_refl _) rfl ?_
  conv => whnf
  exact endPu rfl (Fz.le_refl F) (ob rfl) rfl
theorem allK (F : Fz) (sa : SA) (l : List Cel) (ha : Sl F 172 6 encK sa l) (hl : l.length < 1000000) (hx : ∀ x ∈ l, True) :
    Fo Tryz.prog F 128 [.va sa, .va (.fn (.func 129) [])] (fun o F' => o = .ret (.va (.bool (l.all celOk))) ∧ F' = F) := by
  have h := fun F' (hle : Fz.le F F') bc => al3K F' sa l bc (ha.mono hle) hl hx
  have e := idxG_all celOk l
  obtain ⟨han, hab, hae, hac, haL, har, rfl, ha1, ha2, ha3, ha4⟩ := ha
  refine fo_of hΘ Tryz.func128 rfl (by decide) _ _ rfl rfl rfl ?_
  conv => whnf
  refine freezeC 1 (fun _ => .cells 176 [.fn (.func 129) []]) rfl rfl rfl (fun _ _ => rfl) (fun _ _ => SB.bB_ok rfl) ?_
  intro bc F2 l2 hB
  refine usePu (h F2 l2 (bc 0) (hB 0 rfl)) rfl (argsE_refl _) rfl ?_
  conv => whnf
  exact endPu rfl l2 (ob e.symm) rfl
end Go.Proofs.YtblllibdahkgfaaGreatDoor

namespace Go.Proofs.YtblllibdahkgfaaGreatDoor
open Go Sx
set_option maxRecDepth 100000
def ltC (a b : Cel) : Bool := decide (a.row < b.row) || (decide (a.row = b.row) && decide (a.col < b.col))
def ascF : List Cel → Bool
  | a :: b :: r => ltC a b && ascF (b :: r)
  | _ => true
theorem ascF_snoc : ∀ (l : List Cel) (a b : Cel), ascF (l ++ [a, b]) = (ascF (l ++ [a]) && ltC a b)
  | [], a, b => by simp [ascF]
  | [x], a, b => by simp [ascF, Bool.and_assoc]
  | x :: y :: r, a, b => by
    have ih := ascF_snoc (y :: r) a b
    show (ltC x y && ascF ((y :: r) ++ [a, b])) = ((ltC x y && ascF ((y :: r) ++ [a])) && ltC a b)
    rw [ih, Bool.and_assoc]
theorem ascF_take {l : List Cel} {k : Nat} (h1 : 1 ≤ k) (g : k < l.length) {a b : Cel} (ha : l[k - 1] = a) (hb : l[k] = b) : ascF (l.take (k + 1)) = (ascF (l.take k) && ltC a b) := by
  obtain ⟨m, rfl⟩ : ∃ m, k = m + 1 := ⟨k - 1, by omega⟩
  rw [List.take_succ_eq_append_getElem g, List.take_succ_eq_append_getElem (show m < l.length by omega), List.append_assoc, hb]
  have e : l[m] = a := ha
  rw [e]
  exact ascF_snoc _ _ _
structure Dc where
  lines : List DLn
  cells : List Cel
  w : Int
  bits : List UInt8
def docOk (d : Dc) : Bool := ((((decide (d.lines.length ≤ 64) && decide (d.cells.length ≤ 64)) && ascF d.cells) && d.lines.all dlnOk) && d.cells.all celOk) && rasOk d.w d.bits
def docE (a b : SA) (w : Int) (s : List UInt8) : Ent := .one (.cells 65 (docS a b w s))
theorem docE_below {n : Nat} {a b : SA} {w : Int} {s : List UInt8} (ha : a.below n) (hb : b.below n) : (docE a b w s).below n := by
  show ∀ x ∈ _, SA.below n x
  intro x hx
  simp only [List.mem_cons, List.not_mem_nil, or_false] at hx
  rcases hx with rfl | rfl | rfl | rfl
  · exact ha
  · exact hb
  · trivial
  · trivial
set_option maxHeartbeats 16000000 in
theorem valid90_fn (F : Fz) (sa sb : SA) (d : Dc) (ha : Sl F 168 2 encN sa d.lines) (hb : Sl F 172 6 encK sb d.cells) (hl : d.lines.length ≤ 1000) (hc : d.cells.length ≤ 1000) (hs : d.bits.length ≤ 70000) :
    Fo Tryz.prog F 90 [.agg (docS sa sb d.w d.bits)] (fun o F' => o = .ret (.va (.bool (docOk d))) ∧ F' = F) := by
  obtain ⟨L, K, w, s⟩ := d
  replace ha : Sl F 168 2 encN sa L := ha
  replace hb : Sl F 172 6 encK sb K := hb
  replace hl : L.length ≤ 1000 := hl
  replace hc : K.length ≤ 1000 := hc
  have aL := allN F sa L ha (by omega) (fun _ _ => trivial)
  have aK := allK F sb K hb (by omega) (fun _ _ => trivial)
  obtain ⟨han, hab, hae, hac, haL, har, rfl, ha1, ha2, ha3, ha4⟩ := ha
  obtain ⟨hbn, hbb, hbe, hbc, hbL, hbr, rfl, hb1, hb2, hb3, hb4⟩ := hb
  have iR := isRaster_fn F (.slice han 0 hab hae 2 L.length hac) (.slice hbn 0 hbb hbe 6 K.length hbc) w s hs rfl rfl
  have fin : ∀ (z : Bool) (a : SA) (h : Hp) (nx : Nat), docOk ⟨L, K, w, s⟩ = z → atomE (.bool z) (a.ren (resP h)) → lget h 0 = some (.frz F) → Cln 1 (FoK F fun o F' => o = .ret (.va (.bool (docOk ⟨L, K, w, s⟩))) ∧ F' = F) (.ret (.va a)) h nx := by
    intro z a h nx hz ha h0
    subst hz
    exact endPu h0 (Fz.le_refl F) ha rfl
  have hinit : ascF (K.take 1) = true := by
    cases K with
    | nil => rfl
    | cons x r => rfl
  refine fo_of hΘ Tryz.func90 rfl (by decide) _ _ rfl rfl rfl ?_
  conv => whnf
  refine loop_at hΘ (X := { y : Nat × Bool // 1 ≤ y.1 ∧ (y.1 = 1 ∨ y.1 ≤ K.length) ∧ y.2 = ascF (K.take y.1) }) (fun y => [(3, .va (.bool y.1.2)), (4, .va (.int .i64 y.1.1))]) [5, 6, 7, 8, 9, 10, 11, 12, 13, 14, 15, 16, 17, 18, 19, 20, 21, 22, 23, 24, 25, 26, 27, 28, 29, 30, 31, 32, 33, 34, 35, 36, 37, 38, 39, 40, 41, 42, 43, 44, 45, 46]
    (fun _ => [(0, .frz F), (1, docE (.slice han 0 hab hae 2 L.length hac) (.slice hbn 0 hbb hbe 6 K.length hbc) w s)]) 2 (fun y => K.length - y.1.1) ⟨(1, true), by omega, by omega, hinit.symm⟩
    (fun hH hT => leI [] hH hT rfl ⟨trivial, docE_below (.inr (by omega)) (.inr (by omega)), trivial⟩ ⟨rfl, rfl, trivial⟩ ⟨Fz.le_refl F, rfl, trivial⟩) ?_
  rintro ⟨⟨k, asc⟩, hk1, hk, hasc⟩ hH hT
  replace hk1 : 1 ≤ k := hk1
  replace hk : k = 1 ∨ k ≤ K.length := hk
  replace hasc : asc = ascF (K.take k) := hasc
  by_cases g : k < K.length
  · have g0 : k < K.length := g
    have gp : k - 1 < K.length := by omega
    have hlt : (k : Int) < (K.length : Nat) := by omega
    have hex : ∃ a b, K[k - 1] = a ∧ K[k] = b := ⟨_, _, rfl, rfl⟩
    obtain ⟨a, b, hka, hkb⟩ := hex
    have hat0 : hbL[hbe + (IntKind.i64.wrap ((k : Int) - 1)).toNat]? = some (encK a) := by
      rw [wrap64_id (by omega) (by omega), show ((k : Int) - 1).toNat = ((k - 1 : Nat) : Int).toNat by omega, ← hka]; exact Sl.at hb4 gp
    have hat1 : hbL[hbe + (k : Int).toNat]? = some (encK b) := by rw [← hkb]; exact Sl.at hb4 g
    have hi0 : 0 ≤ IntKind.i64.wrap ((k : Int) - 1) ∧ IntKind.i64.wrap ((k : Int) - 1) < (K.length : Nat) := by rw [wrap64_id (by omega) (by omega)]; omega
    have hi1 : 0 ≤ (k : Int) ∧ (k : Int) < (K.length : Nat) := by omega
    have hnx := ascF_take hk1 g hka hkb
    rw [← hasc] at hnx
    have hk2 : 1 ≤ k + 1 ∧ (k + 1 = 1 ∨ k + 1 ≤ K.length) := by omega
    have hdec : K.length - (k + 1) < K.length - k := by omega
    have hk62 : k < 4611686018427387904 := by omega
    obtain ⟨ar, ac, a2, a3, a4, a5⟩ := a
    obtain ⟨br', bc, b2, b3, b4, b5⟩ := b
    replace hnx : ascF (K.take (k + 1)) = (asc && (decide (ar < br') || (decide (ar = br') && decide (ac < bc)))) := hnx
    clear hasc hka hkb
    conv => whnf
    refine br (fun _ => ?_) (fun g2 => absurd hlt (of_decide_eq_false g2))
    conv => whnf
    refine drawP hΘ mixed (.look 0 (.look 1 (.look 2 (.look 3 (.look 4 (.look 5 (.look 6 (.look 7 (.look 8 (.look 9 (.look 10 (.alt 11 (.alt 12 (.alt 13 (.last 14 .done) .nil) .nil) (.alt 12 (.alt 11 (.alt 13 (.last 14 .done) .nil) .nil) .nil))))))))))))) [1] (by kernel_rfl) ?_
    conv => whnf
    refine ⟨rfl, ?_⟩
    conv => whnf
    refine ⟨Sl.lt hb1 g0, hi0, ?_⟩
    conv => whnf
    refine ⟨rfl, ?_⟩
    conv => whnf
    refine ⟨_, hb2 (Sl.lt hb1 g0), ?_⟩
    conv => whnf
    refine ⟨_, hat0, ?_⟩
    conv => whnf
    refine ⟨rfl, ?_⟩
    conv => whnf
    refine ⟨Sl.lt hb1 g0, hi1, ?_⟩
    conv => whnf
    refine ⟨rfl, ?_⟩
    conv => whnf
    refine ⟨_, hb2 (Sl.lt hb1 g0), ?_⟩
    conv => whnf
    refine ⟨_, hat1, ?_⟩
    conv => whnf
    refine ⟨?_, ?_⟩
    all_goals
      conv => whnf
      refine ⟨Fz.le_refl F, rfl, ?_⟩
      conv => whnf
      refine ⟨Fz.le_refl F, rfl, ?_⟩
      conv => whnf
      refine ⟨Fz.le_refl F, rfl, ?_⟩
      rcases asc with _ | _
      · conv => whnf
        refine ⟨fun g2 => absurd g2 (by show ¬ false = true; decide), fun _ => ?_⟩
        conv => whnf
        exact ⟨⟨(k + 1, false), hk2.1, hk2.2, by rw [hnx]; rfl⟩, hdec, leR [] hH hT rfl ⟨trivial, docE_below (.inr (by omega)) (.inr (by omega)), trivial⟩ ⟨rfl, cnt hk62, trivial⟩ ⟨Fz.le_refl F, rfl, trivial⟩⟩
      · conv => whnf
        refine ⟨fun _ => ?_, fun g2 => absurd g2 (by show ¬ true = false; decide)⟩
        conv => whnf
        by_cases h1 : ar < br'
        · refine ⟨fun g2 => absurd h1 (of_decide_eq_false g2), fun _ => ?_⟩
          conv => whnf
          exact ⟨⟨(k + 1, true), hk2.1, hk2.2, by rw [hnx, decide_eq_true h1]; rfl⟩, hdec, leR [] hH hT rfl ⟨trivial, docE_below (.inr (by omega)) (.inr (by omega)), trivial⟩ ⟨rfl, cnt hk62, trivial⟩ ⟨Fz.le_refl F, rfl, trivial⟩⟩
        · refine ⟨fun _ => ?_, fun g2 => absurd (of_decide_eq_true g2) h1⟩
          conv => whnf
          by_cases h2 : ar = br'
          · refine ⟨fun _ => ?_, fun g2 => absurd h2 (of_decide_eq_false g2)⟩
            conv => whnf
            exact ⟨⟨(k + 1, decide (ac < bc)), hk2.1, hk2.2, by rw [hnx, decide_eq_false h1, decide_eq_true h2]; simp⟩, hdec, leR [] hH hT rfl ⟨trivial, docE_below (.inr (by omega)) (.inr (by omega)), trivial⟩ ⟨rfl, cnt hk62, trivial⟩ ⟨Fz.le_refl F, rfl, trivial⟩⟩
          · refine ⟨fun g2 => absurd (of_decide_eq_true g2) h2, fun _ => ?_⟩
            conv => whnf
            exact ⟨⟨(k + 1, false), hk2.1, hk2.2, by rw [hnx, decide_eq_false h1, decide_eq_false h2]; rfl⟩, hdec, leR [] hH hT rfl ⟨trivial, docE_below (.inr (by omega)) (.inr (by omega)), trivial⟩ ⟨rfl, cnt hk62, trivial⟩ ⟨Fz.le_refl F, rfl, trivial⟩⟩
  · have hge : ¬ (k : Int) < (K.length : Nat) := by omega
    have hall : asc = ascF K := by
      rw [hasc, List.take_of_length_le (by omega)]
    have e : docOk ⟨L, K, w, s⟩ = (((((decide (L.length ≤ 64) && decide (K.length ≤ 64)) && asc) && L.all dlnOk) && K.all celOk) && rasOk w s) := by rw [hall]; rfl
    clear hasc hall
    have hx2 : ∃ bL bK, L.all dlnOk = bL ∧ K.all celOk = bK := ⟨_, _, rfl, rfl⟩
    obtain ⟨bL, bK, hbL, hbK⟩ := hx2
    rw [hbL, hbK] at e
    rw [hbL] at aL
    rw [hbK] at aK
    clear hbL hbK
    conv => whnf
    refine br (fun g2 => absurd (of_decide_eq_true g2) hge) (fun _ => ?_)
    conv => whnf
    by_cases l1 : L.length ≤ 64
    · have l1' : (L.length : Int) ≤ 64 := by omega
      rw [decide_eq_true l1, Bool.true_and] at e
      refine ⟨fun _ => ?_, fun g2 => absurd l1' (of_decide_eq_false g2)⟩
      conv => whnf
      by_cases l2 : K.length ≤ 64
      · have l2' : (K.length : Int) ≤ 64 := by omega
        rw [decide_eq_true l2, Bool.true_and] at e
        refine ⟨fun _ => ?_, fun g2 => absurd l2' (of_decide_eq_false g2)⟩
        conv => whnf
        rcases asc with _ | _
        · refine ⟨fun g2 => absurd g2 (by show ¬ false = true; decide), fun _ => ?_⟩
          conv => whnf
          exact fin false _ _ _ e rfl rfl
        · refine ⟨fun _ => ?_, fun g2 => absurd g2 (by show ¬ true = false; decide)⟩
          conv => whnf
          refine usePu aL rfl ⟨⟨rfl, rfl, rfl, .inr ⟨rfl, rfl, rfl, rfl⟩⟩, rfl, trivial⟩ rfl ?_
          rcases bL with _ | _
          · conv => whnf
            refine ⟨fun g2 => absurd g2 (by decide), fun _ => ?_⟩
            conv => whnf
            exact fin false _ _ _ e rfl rfl
          · conv => whnf
            refine ⟨fun _ => ?_, fun g2 => absurd g2 (by decide)⟩
            conv => whnf
            refine usePu aK rfl ⟨⟨rfl, rfl, rfl, .inr ⟨rfl, rfl, rfl, rfl⟩⟩, rfl, trivial⟩ rfl ?_
            rcases bK with _ | _
            · conv => whnf
              refine ⟨fun g2 => absurd g2 (by decide), fun _ => ?_⟩
              conv => whnf
              exact fin false _ _ _ e rfl rfl
            · conv => whnf
              refine ⟨fun _ => ?_, fun g2 => absurd g2 (by decide)⟩
              conv => whnf
              refine usePu iR rfl ⟨rfl, trivial⟩ rfl ?_
              conv => whnf
              exact fin _ _ _ _ e rfl rfl
      · have l2' : ¬ (K.length : Int) ≤ 64 := by omega
        rw [decide_eq_false l2] at e
        refine ⟨fun g2 => absurd (of_decide_eq_true g2) l2', fun _ => ?_⟩
        conv => whnf
        exact fin false _ _ _ (by rw [e]; simp) rfl rfl
    · have l1' : ¬ (L.length : Int) ≤ 64 := by omega
      rw [decide_eq_false l1] at e
      refine ⟨fun g2 => absurd (of_decide_eq_true g2) l1', fun _ => ?_⟩
      conv => whnf
      exact fin false _ _ _ (by rw [e]; simp) rfl rfl
end Go.Proofs.YtblllibdahkgfaaGreatDoor
