import Derived.Test.YtblllibdahkgfaaGreatDoorK16

namespace Go.Proofs.YtblllibdahkgfaaGreatDoor
open Go Sx
set_option maxRecDepth 100000
theorem encI_plain : Plain encI := fun x => ⟨fun _ => rfl, fun a ha => by simp only [encI, List.mem_singleton] at ha; subst ha; trivial⟩
/-- A byte that is no letter of a text. -/
def badC (b : UInt8) : Bool := !(decide (32 ≤ b.toNat) && decide (b.toNat ≤ 126))
/-- What strings.ContainsFunc answers (its contract is laid elsewhere). -/
def CFun : Prop := ∀ (F : Fz) (s : List UInt8), s.length ≤ 70000 → Fo Tryz.prog F 107 [.va (.str s), .va (.fn (.func 108) [])] (fun o F' => o = .ret (.va (.bool (s.any badC))) ∧ F' = F)
def numsS (s : List UInt8) (p : Int) : Nat → List Int → Int → Option (List Int × Int)
  | 0, acc, q => some (acc, q)
  | f + 1, acc, q => if numOkR s q (bnd p acc).1 (bnd p acc).2 = true then numsS s p f (acc ++ [(getI s q).1]) (getI s q).2.1 else none
abbrev Ln := List UInt8 × List Int
/-- A line, behind others. -/
def lineS (s : List UInt8) (p : Int) (before : List Ln) (q : Int) : Option (Ln × Int) :=
  if p = 1 then
    if (getS s q).2.2 = 0 ∧ (getS s q).1.length ≤ 80 ∧ (getS s q).1.any badC = false then some (((getS s q).1, []), (getS s q).2.1) else none
  else match numsS s p (cols p) [] q with
    | none => none
    | some (n, q') => if p = 2 then some (([], n), q') else match before.getLast? with
      | none => some (([], n), q')
      | some x => if cmpL (x.2.take 2) (n.take 2) < 0 then some (([], n), q') else none
def capN : SA → Nat
  | .slice _ _ _ _ _ _ cap => cap
  | _ => 0
/-- A frozen slice of lines. -/
abbrev LinesAt (F : Fz) (sl : SA) (ls : List Ln) : Prop := SlR F 120 2 (fun y x => ∃ a, y = [.str x.1, a] ∧ (x.2 = [] ∨ IntsAt F a x.2 ∧ x.2.length ≤ capN a)) sl ls
theorem take2 {F : Fz} {b e e' cap r : Nat} {L : List (List SA)} {l : List Int} (hF : F b = some (.arr 3 1 L r)) (h1 : e + l.length ≤ L.length) (h2 : (L.drop e).take l.length = l.map encI) (hl : 2 ≤ l.length) (he : e' = e) :
    IntsAt F (.slice false 0 b e' 1 2 cap) (l.take 2) := by
  subst he
  have h3 : (l.take 2).length = 2 := by rw [List.length_take]; omega
  refine ⟨false, b, e', cap, L, r, by rw [h3], fun h => (nomatch h), fun _ => hF, by rw [h3]; omega, ?_⟩
  rw [h3, List.map_take, ← h2, List.take_take, Nat.min_eq_left hl]
def lineE (c : Nat) (t : List UInt8) (n : List Int) : Ent := .one (.cells 120 [.str t, gA 1 4 c n])
theorem lineE_below {m : Nat} (h : 4 < m) (c : Nat) (t : List UInt8) (n : List Int) : (lineE c t n).below m := by
  intro a ha
  simp only [List.mem_cons, List.not_mem_nil, or_false] at ha
  rcases ha with rfl | rfl
  · trivial
  · cases n with
    | nil => trivial
    | cons x r => exact .inr h
theorem lineE_new {μ : Mu} {j : Nat} (h : μ 4 0 = (j, 0)) (c n : Nat) (t : List UInt8) (l : List Int) (x : Int) (hn : n = l.length + 1) : SB.cells 120 [.str t, .slice false j 0 0 1 n c] = SB.ren μ (.cells 120 [.str t, gA 1 4 c (l ++ [x])]) := by
  subst hn
  cases l with
  | nil => simp only [gA, List.nil_append, SB.ren, List.map_cons, List.map_nil, SA.ren, h, List.length_nil]
  | cons y r => simp only [gA, List.cons_append, SB.ren, List.map_cons, List.map_nil, SA.ren, h]; simp
theorem numOkR_ok {s : List UInt8} {q lo hi : Int} (h : numOkR s q lo hi = true) : (getI s q).2.2 = 0 := by
  simp only [numOkR, Bool.and_eq_true, decide_eq_true_eq] at h; exact h.1
set_option maxHeartbeats 8000000 in
theorem line_fn (hCF : CFun) (F : Fz) (s : List UInt8) (p q : Int) (sl : SA) (before : List Ln) (hl : LinesAt F sl before) (hs : s.length ≤ 1000000000000000000) (hp : 1 ≤ p ∧ p ≤ 5) (hq : i64 q) (hbl : before.length < 1000000)
    (hbn : p ≠ 1 ∧ p ≠ 2 → ∀ x ∈ before, 2 ≤ x.2.length) :
    Ct Tryz.prog 78 [.va (.ptr ⟨1, 0, 0, 0, 0⟩), .va (.int .i64 p), .va sl] F [(1, rdr s q)] 2
      (fun o F0 h0 n0 => F = F0 ∧ match lineS s p before q with
        | some (x, q') => ∃ c, x.2.length ≤ c ∧ n0 = 3 ∧ o = .ret (.agg [.str x.1, gA 1 2 c x.2]) ∧ h0 = [(1, rdr s q'), (2, gE 3 1 encI c x.2)]
        | none => ∃ q', n0 = 2 ∧ o = .panic perr ∧ h0 = [(1, rdr s q')]) := by
  obtain ⟨bn, bb, be, bc, bL, brr, rfl, b1, b2, b3, b4⟩ := hl
  have htx := rtext_fn F s q hs hq
  obtain ⟨t, x, e, hg⟩ : ∃ t x e, getS s q = (t, x, e) := ⟨_, _, _, rfl⟩
  rw [hg] at htx
  refine ct_of hΘ Tryz.func78 rfl (by decide) _ _ rfl rfl rfl ?_
  conv => whnf
  refine br (fun g => ?_) (fun g => ?_)
  · have g1 : p = 1 := of_decide_eq_true g
    have hL : lineS s p before q = if (getS s q).2.2 = 0 ∧ (getS s q).1.length ≤ 80 ∧ (getS s q).1.any badC = false then some (((getS s q).1, []), (getS s q).2.1) else none := by rw [lineS, if_pos g1]
    rw [hg] at hL
    replace hL : lineS s p before q = if e = 0 ∧ t.length ≤ 80 ∧ t.any badC = false then some ((t, []), x) else none := hL
    conv => whnf
    refine use htx [(1, 1)] rfl ⟨rfl, trivial⟩ rfl ⟨rdr_below _ _, trivial⟩ (by simp [SV.below, SA.below]) ⟨rfl, trivial⟩ ?_
    rintro out0 F0 h0 n0 hle ⟨rfl, rfl, hcase⟩
    by_cases he : e = 0
    · rw [if_pos he] at hcase
      obtain ⟨ho, hh⟩ := hcase
      subst ho; subst hh
      conv => whnf
      refine ⟨fun g80 => ?_, fun g80 => ?_⟩
      · have l80 : t.length ≤ 80 := by have h0 : (t.length : Int) ≤ 80 := of_decide_eq_true g80; omega
        conv => whnf
        refine usePu (hCF F t (by omega)) rfl (argsE_refl _) rfl ?_
        conv => whnf
        refine useFo (must_fn F (!t.any badC)) rfl ⟨rfl, trivial⟩ rfl ?_
        rintro _ _ l1 ⟨rfl, ⟨hb, rfl⟩ | ⟨hb, rfl⟩⟩
        · conv => whnf
          refine clean [(2, 99)] (.ret (.agg [.str t, .nilsl])) F [(1, rdr s x), (2, gE 3 1 encI 0 [])] 3 ⟨Fz.le_refl F, rfl, ?_⟩ rfl rfl rfl (Out.bB_ok (o := .ret (.agg [.str t, .nilsl])) rfl) ⟨rdr_below s _, gE_below encI_plain _ _ _ _ _, trivial⟩ ⟨Fz.le_refl F, rfl, rfl, trivial⟩
          rw [hL, if_pos ⟨he, l80, by simpa using hb⟩]; exact ⟨0, Nat.le_refl 0, rfl, rfl, rfl⟩
        · conv => whnf
          refine clean [] (.panic perr) F [(1, rdr s x)] 2 ⟨Fz.le_refl F, rfl, ?_⟩ rfl rfl rfl trivial ⟨rdr_below s _, trivial⟩ ⟨Fz.le_refl F, rfl, trivial⟩
          rw [hL, if_neg (by simp at hb; simp [hb])]; exact ⟨x, rfl, rfl, rfl⟩
      · have l80 : ¬ t.length ≤ 80 := by have h0 : ¬ (t.length : Int) ≤ 80 := of_decide_eq_false g80; omega
        conv => whnf
        refine useFo (must_fn F false) rfl ⟨rfl, trivial⟩ rfl ?_
        rintro _ _ l1 ⟨rfl, ⟨hb, rfl⟩ | ⟨hb, rfl⟩⟩
        · cases hb
        · conv => whnf
          refine clean [] (.panic perr) F [(1, rdr s x)] 2 ⟨Fz.le_refl F, rfl, ?_⟩ rfl rfl rfl trivial ⟨rdr_below s _, trivial⟩ ⟨Fz.le_refl F, rfl, trivial⟩
          rw [hL, if_neg (by simp [l80])]; exact ⟨x, rfl, rfl, rfl⟩
    · rw [if_neg he] at hcase
      obtain ⟨ho, hh⟩ := hcase
      subst ho; subst hh
      conv => whnf
      refine clean [] (.panic perr) F [(1, rdr s q)] 2 ⟨Fz.le_refl F, rfl, ?_⟩ rfl rfl rfl trivial ⟨rdr_below s _, trivial⟩ ⟨Fz.le_refl F, rfl, trivial⟩
      rw [hL, if_neg (by simp [he])]; exact ⟨q, rfl, rfl, rfl⟩
  · have g1 : ¬ p = 1 := of_decide_eq_false g
    have hlin : lineS s p before q = match numsS s p (cols p) [] q with
      | none => none
      | some (n, q') => if p = 2 then some (([], n), q') else match before.getLast? with
        | none => some (([], n), q')
        | some x => if cmpL (x.2.take 2) (n.take 2) < 0 then some (([], n), q') else none := by rw [lineS, if_neg g1]
    have hc4 : cols p ≤ 4 := by
      have hcs : p = 1 ∨ p = 2 ∨ p = 3 ∨ p = 4 ∨ p = 5 := by omega
      rcases hcs with rfl | rfl | rfl | rfl | rfl <;> decide
    conv => whnf
    refine loop_at hΘ (X := { x : List Int × Nat × Int // x.1.length ≤ cols p ∧ x.1.length ≤ x.2.1 ∧ i64 x.2.2 ∧ numsS s p (cols p) [] q = numsS s p (cols p - x.1.length) x.1 x.2.2 }) (fun _ => []) [25, 26, 27, 28, 29, 30, 31, 32, 33, 34, 35, 36, 37, 38, 39, 40, 41, 42, 43]
      (fun x => [(0, .frz F), (1, rdr s x.1.2.2), (3, lineE x.1.2.1 [] x.1.1), (4, gE 3 1 encI x.1.2.1 x.1.1)]) 5 (fun x => cols p - x.1.1.length) ⟨([], 0, q), by simp, by simp, hq, rfl⟩
      (fun hH hT => leI [(4, 4)] hH hT rfl ⟨trivial, rdr_below s _, lineE_below (by omega) _ _ _, gE_below encI_plain _ _ _ _ _, trivial⟩ trivial ⟨Fz.le_refl F, rfl, rfl, rfl, trivial⟩) ?_
    rintro ⟨⟨acc, c, q'⟩, ha1, hac, ha2, ha3⟩ hH hT
    replace hac : acc.length ≤ c := hac
    replace ha1 : acc.length ≤ cols p := ha1
    replace ha2 : i64 q' := ha2
    replace ha3 : numsS s p (cols p) [] q = numsS s p (cols p - acc.length) acc q' := ha3
    rcases acc with _ | ⟨a0, ar⟩
    · skip
      conv => whnf
      refine drawP hΘ mixed (.look 0 (.look 1 (.look 2 (.look 3 (.alt 4 (.look 5 .done) .nil))))) [3] (by kernel_rfl) ?_
      conv => whnf
      repeat' ((conv => whnf); first
        | refine ⟨rfl, ?_⟩
        | refine ⟨Fz.le_refl _, rfl, ?_⟩
        | refine ⟨Fz.le_refl _, rfl, rfl, ?_⟩
        | refine ⟨⟨by simp, by simp⟩, ?_⟩
        | fail)
      conv => whnf
      refine usePu (columns_pu p hp F) rfl (argsE_refl _) rfl ?_
      conv => whnf
      refine ⟨Fz.le_refl F, rfl, ?_⟩
      conv => whnf
      refine br (fun gb => ?_) (fun gb => ?_)
      · have gl : 0 < cols p := by have h0 : ((0 : Nat) : Int) < cols p := of_decide_eq_true gb; omega
        clear gb
        have hf : cols p - 0 = (cols p - (0 + 1)) + 1 := by omega
        have ha4 : numsS s p (cols p) [] q = if numOkR s q' (bnd p []).1 (bnd p []).2 = true then numsS s p (cols p - (0 + 1)) ([] ++ [(getI s q').1]) (getI s q').2.1 else none := by
          rw [ha3]; show numsS s p (cols p - 0) [] q' = _; rw [hf, numsS]
        conv => whnf
        refine drawP hΘ mixed (.look 0 (.look 1 (.look 2 (.look 3 (.look 4 (.look 5 (.alt 6 (.look 7 (.look 8 (.alt 9 (.alt 10 (.alt 11 (.look 12 (.last 13 .done)) .nil) .nil) .nil))) .nil))))))) [3] (by kernel_rfl) ?_
        conv => whnf
        repeat' ((conv => whnf); first
          | refine ⟨rfl, ?_⟩
          | refine ⟨Fz.le_refl _, rfl, ?_⟩
          | refine ⟨Fz.le_refl _, rfl, rfl, ?_⟩
          | refine ⟨⟨by simp, by simp⟩, ?_⟩
          | fail)
        conv => whnf
        refine usePu (bounds_fn F _ [] p Sl.nil (by simp)) rfl ⟨rfl, ⟨rfl, rfl, rfl⟩, trivial⟩ rfl ?_
        conv => whnf
        refine ⟨Fz.le_refl F, rfl, ?_⟩
        conv => whnf
        refine use (number_fn F s q' (bnd p []).1 (bnd p []).2 hs ha2) [(1, 1)] rfl ⟨rfl, rfl, rfl, trivial⟩ rfl ⟨rdr_below _ _, trivial⟩ (by simp [SV.below, SA.below]) ⟨rfl, trivial⟩ ?_
        rintro out0 F0 h0 n0 hle ⟨rfl, rfl, hcase⟩
        by_cases hn : numOkR s q' (bnd p []).1 (bnd p []).2 = true
        · rw [if_pos hn] at hcase ha4
          obtain ⟨ho, hh⟩ := hcase
          subst ho; subst hh
          have hok := getI_ok (numOkR_ok hn)
          have hi6 : i64 (getI s q').2.1 := ⟨by omega, by omega⟩
          conv => whnf
          refine ⟨Fz.le_refl F, rfl, ?_⟩
          conv => whnf
          refine ⟨Fz.le_refl F, rfl, ?_⟩
          conv => whnf
          refine ⟨Nat.le_of_ble_eq_true rfl, [encI (getI s q').1], rfl, ?_⟩
          conv => whnf
          refine ⟨rfl, rfl, ?_⟩
          conv => whnf
          refine ⟨Nat.le_of_ble_eq_true rfl, fun c' hc => ?_⟩
          have hc' : ([] ++ [(getI s q').1]).length ≤ c' := hc
          clear hc
          conv => whnf
          refine ⟨Fz.le_refl F, rfl, ?_⟩
          conv => whnf
          exact ⟨⟨([] ++ [(getI s q').1], c', (getI s q').2.1), by simp; omega, hc', hi6, by rw [ha4]; rfl⟩, by show cols p - 1 < cols p - 0; omega,
            leR [(4, 6)] hH hT rfl ⟨trivial, rdr_below s _, lineE_below (by omega) _ _ _, gE_below encI_plain _ _ _ _ _, trivial⟩ trivial ⟨Fz.le_refl F, rfl, lineE_new (μ := sig [(4, 6)]) (j := 6) rfl c' _ [] [] (getI s q').1 rfl, sub_gE encI_plain (gE_one [encI (getI s q').1] rfl), trivial⟩⟩
        · rw [if_neg hn] at hcase ha4
          obtain ⟨ho, hh⟩ := hcase
          subst ho; subst hh
          conv => whnf
          refine clean [] (.panic perr) F [(1, rdr s q')] 2 ⟨Fz.le_refl F, rfl, ?_⟩ rfl rfl rfl trivial ⟨rdr_below s _, trivial⟩ ⟨Fz.le_refl F, rfl, trivial⟩
          rw [hlin, ha4]; exact ⟨q', rfl, rfl, rfl⟩
      · have gl : ¬ 0 < cols p := by have h0 : ¬ ((0 : Nat) : Int) < cols p := of_decide_eq_false gb; omega
        clear gb
        have hcs : p = 2 ∨ p = 3 ∨ p = 4 ∨ p = 5 := by omega
        exfalso; rcases hcs with rfl | rfl | rfl | rfl <;> exact gl (by decide)
    · replace ha1 : ar.length + 1 ≤ cols p := ha1
      conv => whnf
      refine drawP hΘ mixed (.look 0 (.look 1 (.look 2 (.look 3 (.alt 4 (.look 5 .done) .nil))))) [3] (by kernel_rfl) ?_
      conv => whnf
      repeat' ((conv => whnf); first
        | refine ⟨rfl, ?_⟩
        | refine ⟨Fz.le_refl _, rfl, ?_⟩
        | refine ⟨Fz.le_refl _, rfl, rfl, ?_⟩
        | refine ⟨⟨by simp, by simp⟩, ?_⟩
        | fail)
      conv => whnf
      refine usePu (columns_pu p hp F) rfl (argsE_refl _) rfl ?_
      conv => whnf
      refine ⟨Fz.le_refl F, rfl, ?_⟩
      conv => whnf
      refine br (fun gb => ?_) (fun gb => ?_)
      · have gl : (ar.length + 1) < cols p := by have h0 : (((ar.length + 1) : Nat) : Int) < cols p := of_decide_eq_true gb; omega
        clear gb
        have hf : cols p - (ar.length + 1) = (cols p - ((ar.length + 1) + 1)) + 1 := by omega
        have ha4 : numsS s p (cols p) [] q = if numOkR s q' (bnd p (a0 :: ar)).1 (bnd p (a0 :: ar)).2 = true then numsS s p (cols p - ((ar.length + 1) + 1)) ((a0 :: ar) ++ [(getI s q').1]) (getI s q').2.1 else none := by
          rw [ha3]; show numsS s p (cols p - (ar.length + 1)) (a0 :: ar) q' = _; rw [hf, numsS]
        conv => whnf
        refine drawP hΘ mixed (.look 0 (.look 1 (.look 2 (.look 3 (.look 4 (.look 5 (.alt 6 (.look 7 (.look 8 (.alt 9 (.alt 10 (.alt 11 (.look 12 (.last 13 .done)) .nil) .nil) .nil))) .nil))))))) [3] (by kernel_rfl) ?_
        conv => whnf
        repeat' ((conv => whnf); first
          | refine ⟨rfl, ?_⟩
          | refine ⟨Fz.le_refl _, rfl, ?_⟩
          | refine ⟨Fz.le_refl _, rfl, rfl, ?_⟩
          | refine ⟨⟨by simp, by simp⟩, ?_⟩
          | fail)
        conv => whnf
        refine borrow 4 (fun _ => .arr 3 1 ((a0 :: ar).map encI) c) rfl rfl rfl (fun _ _ => encIB_ren _ (a0 :: ar) _) (fun _ _ => encIB_below _ _ _) ?_
        intro b F' hle' hb
        refine usePu (bounds_fn F' _ (a0 :: ar) p (Sl.new (hb 0 ⟨rfl, rfl⟩)) (by simp; omega)) rfl ⟨rfl, ⟨rfl, rfl, rfl, .inr ⟨rfl, rfl, rfl, rfl⟩⟩, trivial⟩ rfl ?_
        refine ⟨F', rfl, Fz.le_refl _, rfl, fun _ _ _ _ _ _ h => h, ?_⟩
        conv => whnf
        refine ⟨Fz.le_refl F, rfl, ?_⟩
        conv => whnf
        refine use (number_fn F s q' (bnd p (a0 :: ar)).1 (bnd p (a0 :: ar)).2 hs ha2) [(1, 1)] rfl ⟨rfl, rfl, rfl, trivial⟩ rfl ⟨rdr_below _ _, trivial⟩ (by simp [SV.below, SA.below]) ⟨rfl, trivial⟩ ?_
        rintro out0 F0 h0 n0 hle ⟨rfl, rfl, hcase⟩
        by_cases hn : numOkR s q' (bnd p (a0 :: ar)).1 (bnd p (a0 :: ar)).2 = true
        · rw [if_pos hn] at hcase ha4
          obtain ⟨ho, hh⟩ := hcase
          subst ho; subst hh
          have hok := getI_ok (numOkR_ok hn)
          have hi6 : i64 (getI s q').2.1 := ⟨by omega, by omega⟩
          conv => whnf
          refine ⟨Fz.le_refl F, rfl, ?_⟩
          conv => whnf
          refine ⟨Fz.le_refl F, rfl, ?_⟩
          conv => whnf
          refine ⟨Nat.le_of_ble_eq_true rfl, [encI (getI s q').1], rfl, ?_⟩
          conv => whnf
          refine ⟨rfl, rfl, by simp, rfl, by show (ar.length + 1 + 1) * 8 ≤ 140737488355328; omega, fun c' hc => ?_⟩
          have hc' : ((a0 :: ar) ++ [(getI s q').1]).length ≤ c' := by rw [List.length_append]; exact hc
          clear hc
          conv => whnf
          refine ⟨Fz.le_refl F, rfl, ?_⟩
          conv => whnf
          exact ⟨⟨((a0 :: ar) ++ [(getI s q').1], c', (getI s q').2.1), by simp; omega, hc', hi6, by rw [ha4]; simp⟩, by show cols p - (a0 :: ar ++ [(getI s q').1]).length < cols p - (ar.length + 1); simp; omega,
            leR [(4, 6)] hH hT rfl ⟨trivial, rdr_below s _, lineE_below (by omega) _ _ _, gE_below encI_plain _ _ _ _ _, trivial⟩ trivial ⟨Fz.le_refl F, rfl, lineE_new (μ := sig [(4, 6)]) (j := 6) rfl c' _ [] (a0 :: ar) (getI s q').1 rfl, sub_gE encI_plain (gE_one _ (by simp)), trivial⟩⟩
        · rw [if_neg hn] at hcase ha4
          obtain ⟨ho, hh⟩ := hcase
          subst ho; subst hh
          conv => whnf
          refine clean [] (.panic perr) F [(1, rdr s q')] 2 ⟨Fz.le_refl F, rfl, ?_⟩ rfl rfl rfl trivial ⟨rdr_below s _, trivial⟩ ⟨Fz.le_refl F, rfl, trivial⟩
          rw [hlin, ha4]; exact ⟨q', rfl, rfl, rfl⟩
      · have gl : ¬ (ar.length + 1) < cols p := by have h0 : ¬ (((ar.length + 1) : Nat) : Int) < cols p := of_decide_eq_false gb; omega
        clear gb
        have hnum : numsS s p (cols p) [] q = some (a0 :: ar, q') := by
          rw [ha3]; show numsS s p (cols p - (ar.length + 1)) (a0 :: ar) q' = _
          rw [show cols p - (ar.length + 1) = 0 by omega, numsS]
        rw [hnum] at hlin
        replace hlin : lineS s p before q = if p = 2 then some (([], a0 :: ar), q') else match before.getLast? with
          | none => some (([], a0 :: ar), q')
          | some x => if cmpL (x.2.take 2) ((a0 :: ar).take 2) < 0 then some (([], a0 :: ar), q') else none := hlin
        have fin : ∀ (h : Hp) (nx : Nat), lineS s p before q = some (([], a0 :: ar), q') → lget h 0 = some (.frz F) → lget h 1 = some (rdr s q') → lget h 4 = some (gE 3 1 encI c (a0 :: ar)) →
            (∀ k, resP h 4 k = (4, k)) → Cln 2 (fun o F0 h0 n0 => Fz.le F F0 ∧ F = F0 ∧ match lineS s p before q with
              | some (x, q') => ∃ c, x.2.length ≤ c ∧ n0 = 3 ∧ o = .ret (.agg [.str x.1, gA 1 2 c x.2]) ∧ h0 = [(1, rdr s q'), (2, gE 3 1 encI c x.2)]
              | none => ∃ q', n0 = 2 ∧ o = .panic perr ∧ h0 = [(1, rdr s q')]) (.ret (.agg [.str [], .slice false 4 0 0 1 (ar.length + 1) c])) h nx := by
          intro h nx hL h0 h1 h4 hr
          refine clean [(2, 4)] (.ret (.agg [.str [], .slice false 2 0 0 1 (ar.length + 1) c])) F [(1, rdr s q'), (2, gE 3 1 encI c (a0 :: ar))] 3 ⟨Fz.le_refl F, rfl, ?_⟩ ?_ rfl rfl (Out.bB_ok (o := .ret (.agg [.str [], .slice false 2 0 0 1 (ar.length + 1) c])) rfl) ⟨rdr_below s _, gE_below encI_plain _ _ _ _ _, trivial⟩ ?_
          · rw [hL]; exact ⟨c, hac, rfl, rfl, rfl⟩
          · show SV.agg [.str [], .slice false 4 0 0 1 (ar.length + 1) c] = SV.agg [.str [], .slice false (resP h 4 0).1 (resP h 4 0).2 0 1 (ar.length + 1) c]
            rw [hr 0]
          · refine ⟨?_, ?_, ?_, trivial⟩
            · show subE (lget h 0) (.frz F); rw [h0]; exact Fz.le_refl F
            · show subE (lget h 1) ((rdr s q').ren (sig [(2, 4)])); rw [h1]; rfl
            · show subE (lget h 4) ((gE 3 1 encI c (a0 :: ar)).ren (sig [(2, 4)])); rw [h4]; exact sub_gE encI_plain (gE_self _ _ _ _)
        conv => whnf
        refine ⟨fun g2 => ?_, fun g2 => ?_⟩
        · have g2' : ¬ p = 2 := by simpa using g2
          rw [if_neg g2'] at hlin
          conv => whnf
          refine br (fun gb => ?_) (fun gb => ?_)
          · have gbl : 0 < before.length := by have h0 : (0 : Int) < before.length := of_decide_eq_true gb; omega
            clear gb
            have gk : before.length - 1 < before.length := by omega
            have hlast : before.getLast? = some before[before.length - 1] := by rw [List.getLast?_eq_getElem?, List.getElem?_eq_getElem gk]
            rw [hlast] at hlin
            replace hlin : lineS s p before q = if cmpL (before[before.length - 1].2.take 2) ((a0 :: ar).take 2) < 0 then some (([], a0 :: ar), q') else none := hlin
            have h22 := hbn ⟨g1, g2'⟩ _ (List.getElem_mem gk)
            have hc3 : 2 ≤ ar.length + 1 := by
              have hcs : p = 3 ∨ p = 4 ∨ p = 5 := by omega
              have : 3 ≤ cols p := by rcases hcs with rfl | rfl | rfl <;> decide
              omega
            replace hac : ar.length + 1 ≤ c := hac
            have ew : IntKind.i64.wrap ((before.length : Int) - 1) = ((before.length - 1 : Nat) : Int) := by rw [wrap64_id (by omega) (by omega)]; omega
            conv => whnf
            refine drawP hΘ mixed (.look 0 (.look 1 (.look 2 (.look 3 (.look 4 (.look 5 (.look 6 (.look 7 (.look 8 (.look 9 (.look 10 (.alt 11 (.look 12 (.alt 13 .done .nil)) .nil)))))))))))) [3] (by kernel_rfl) ?_
            conv => whnf
            have hObt := SlR.at b4 gk
            obtain ⟨y, hy, ya, rfl, hy2⟩ := hObt
            have hy3 := hy2.resolve_left (by intro h; rw [h] at h22; simp at h22)
            obtain ⟨hya, hycap⟩ := hy3
            obtain ⟨zn, zb, ze, zc, zL, zr, rfl, z1, z2, z3, z4⟩ := hya
            replace hycap : before[before.length - 1].2.length ≤ zc := hycap
            rcases zn with _ | _
            · refine ⟨SlR.lt b1 gk, ⟨by rw [ew]; omega, by rw [ew]; omega⟩, ?_⟩
              conv => whnf
              refine ⟨rfl, ?_⟩
              conv => whnf
              refine ⟨_, b2 (SlR.lt b1 gk), ?_⟩
              conv => whnf
              refine ⟨_, by dsimp only; rw [ew]; exact hy, ?_⟩
              conv => whnf
              refine ⟨⟨by decide, by show (2 : Int) ≤ (zc : Int); omega⟩, ?_⟩
              conv => whnf
              refine ⟨rfl, ?_⟩
              conv => whnf
              refine ⟨⟨by decide, by show (2 : Int) ≤ (c : Int); omega⟩, ?_⟩
              conv => whnf
              refine borrow 4 (fun _ => .arr 3 1 ((a0 :: ar).map encI) c) rfl rfl rfl (fun _ _ => encIB_ren _ (a0 :: ar) _) (fun _ _ => encIB_below _ _ _) ?_
              intro b F' hle' hb
              have hL1 : (((a0 :: ar).map encI).drop 0).take (a0 :: ar).length = (a0 :: ar).map encI := by rw [List.drop_zero, List.take_of_length_le (by simp)]
              refine usePu (compare_fn F' _ _ (before[before.length - 1].2.take 2) ((a0 :: ar).take 2) (take2 (cap := zc - 0) (e' := if zc = 0 then ze else ze + 0) (hle' _ _ (z2 rfl)) z3 z4 h22 (by split <;> rfl)) (take2 (cap := c - 0) (e' := if c = 0 then 0 else 0 + 0) (hb 0 ⟨rfl, rfl⟩) (by simp) hL1 (by simpa using hc3) (by split <;> rfl)) (by rw [List.length_take]; omega)) rfl ⟨⟨rfl, rfl, rfl, .inr ⟨rfl, rfl, rfl, rfl⟩⟩, ⟨rfl, rfl, rfl, .inr ⟨rfl, rfl, rfl, rfl⟩⟩, trivial⟩ rfl ?_
              refine ⟨F', rfl, Fz.le_refl _, rfl, fun _ _ _ _ _ _ h => h, ?_⟩
              conv => whnf
              refine ⟨Fz.le_refl F, rfl, ?_⟩
              conv => whnf
              refine useFo (must_fn F (decide (cmpL (before[before.length - 1].2.take 2) ((a0 :: ar).take 2) < 0))) rfl ⟨rfl, trivial⟩ rfl ?_
              rintro _ _ l1 ⟨rfl, ⟨hb, rfl⟩ | ⟨hb, rfl⟩⟩
              · conv => whnf
                refine ⟨Fz.le_refl F, rfl, ?_⟩
                conv => whnf
                exact fin _ _ (by rw [hlin, if_pos (of_decide_eq_true hb)]) rfl rfl rfl (fun _ => rfl)
              · conv => whnf
                refine clean [] (.panic perr) F [(1, rdr s q')] 2 ⟨Fz.le_refl F, rfl, ?_⟩ rfl rfl rfl trivial ⟨rdr_below s _, trivial⟩ ⟨Fz.le_refl F, rfl, trivial⟩
                rw [hlin, if_neg (of_decide_eq_false hb)]; exact ⟨q', rfl, rfl, rfl⟩
            · have := z1 rfl
              rw [this] at h22; simp at h22
          · have gbl : before = [] := by
              have h0 : ¬ (0 : Int) < before.length := of_decide_eq_false gb
              exact List.length_eq_zero_iff.1 (by omega)
            conv => whnf
            exact fin _ _ (by rw [hlin, gbl]; rfl) rfl rfl rfl (fun _ => rfl)
        · have g2' : p = 2 := by simpa using g2
          rw [if_pos g2'] at hlin
          conv => whnf
          exact fin _ _ hlin rfl rfl rfl (fun _ => rfl)
end Go.Proofs.YtblllibdahkgfaaGreatDoor

namespace Go.Proofs.YtblllibdahkgfaaGreatDoor
open Go Sx
set_option maxRecDepth 100000
def nA (B k c : Nat) : List Int → SA
  | [] => .nilsl
  | _ :: r => .slice false B k 0 1 (r.length + 1) c
/-- The rows of lines: from place j on. -/
def lcells (B : Nat) (caps : Nat → Nat) : Nat → List Ln → List (List SA)
  | _, [] => []
  | j, x :: r => [.str x.1, nA B j (caps j) x.2] :: lcells B caps (j + 1) r
theorem lcells_len (B : Nat) (caps : Nat → Nat) : ∀ (j : Nat) (l : List Ln), (lcells B caps j l).length = l.length
  | _, [] => rfl
  | j, x :: r => by rw [lcells, List.length_cons, List.length_cons, lcells_len]
theorem lcells_app (B : Nat) (caps : Nat → Nat) : ∀ (j : Nat) (l : List Ln) (x : Ln), lcells B caps j (l ++ [x]) = lcells B caps j l ++ [[.str x.1, nA B (j + l.length) (caps (j + l.length)) x.2]]
  | j, [], x => by simp [lcells]
  | j, y :: r, x => by
    rw [List.cons_append, lcells, lcells, lcells_app B caps (j + 1) r x, List.cons_append, List.length_cons]
    have : j + 1 + r.length = j + (r.length + 1) := by omega
    rw [this]
theorem lcells_get (B : Nat) (caps : Nat → Nat) : ∀ (j : Nat) (l : List Ln) (k : Nat) (x : Ln), l[k]? = some x → (lcells B caps j l)[k]? = some [.str x.1, nA B (j + k) (caps (j + k)) x.2]
  | j, y :: r, 0, x, h => by simp at h; subst h; simp [lcells]
  | j, y :: r, k + 1, x, h => by
    rw [lcells, List.getElem?_cons_succ, lcells_get B caps (j + 1) r k x (by simpa using h)]
    have : j + 1 + k = j + (k + 1) := by omega
    rw [this]
theorem nA_ren (μ : Mu) (B k c : Nat) (n : List Int) : (nA B k c n).ren μ = match n with
    | [] => .nilsl
    | _ :: r => .slice false (μ B k).1 (μ B k).2 0 1 (r.length + 1) c := by cases n <;> rfl
theorem lcells_ren {μ : Mu} {B B' : Nat} {caps caps' : Nat → Nat} {m : Nat} (h : ∀ k, k < m → μ B k = (B', k) ∧ caps k = caps' k) : ∀ (j : Nat) (l : List Ln), j + l.length ≤ m → (lcells B caps j l).map (List.map (SA.ren μ)) = lcells B' caps' j l
  | _, [], _ => rfl
  | j, x :: r, hl => by
    rw [List.length_cons] at hl
    obtain ⟨h1, h2⟩ := h j (by omega)
    rw [lcells, lcells, List.map_cons, lcells_ren h (j + 1) r (by omega)]
    congr 1
    simp only [List.map_cons, List.map_nil, nA_ren, h1, h2]
    cases x.2 <;> rfl
/-- The family of the rows of numbers. -/
def famE (caps : Nat → Nat) (l : List Ln) : Ent := .fam l.length (fun k => !((l.map (·.2)).getD k []).isEmpty) (fun k => .arr 3 1 (((l.map (·.2)).getD k []).map encI) (caps k))
def linesE (B : Nat) (caps : Nat → Nat) (c : Nat) (l : List Ln) : Ent := .opt (!l.isEmpty) (.arr 120 2 (lcells B caps 0 l) c)
theorem famE_at (caps : Nat → Nat) {l : List Ln} {k : Nat} {x : Ln} (h : l[k]? = some x) : (l.map (·.2)).getD k [] = x.2 := by
  rw [List.getD_eq_getElem?_getD, List.getElem?_map, h]; rfl
theorem famE_ren (μ : Mu) (caps : Nat → Nat) (l : List Ln) : (famE caps l).ren μ = famE caps l := by
  show Ent.fam _ _ _ = Ent.fam _ _ _
  congr 1
  funext k; exact encIB_ren μ _ _
theorem famE_below (n : Nat) (caps : Nat → Nat) (l : List Ln) : (famE caps l).below n := fun k _ _ => encIB_below n _ _
theorem nA_below {n B : Nat} (h : B < n) (k c : Nat) (l : List Int) : (nA B k c l).below n := by
  cases l with
  | nil => trivial
  | cons x r => exact .inr h
theorem lcells_below {n B : Nat} (h : B < n) (caps : Nat → Nat) : ∀ (j : Nat) (l : List Ln), ∀ y ∈ lcells B caps j l, ∀ a ∈ y, a.below n
  | _, [], y, hy, _, _ => by simp [lcells] at hy
  | j, x :: r, y, hy, a, ha => by
    rcases List.mem_cons.1 hy with rfl | hy
    · simp only [List.mem_cons, List.not_mem_nil, or_false] at ha
      rcases ha with rfl | rfl
      · trivial
      · exact nA_below h _ _ _
    · exact lcells_below h caps (j + 1) r y hy a ha
theorem linesE_below {n B : Nat} (h : B < n) (caps : Nat → Nat) (c : Nat) (l : List Ln) : (linesE B caps c l).below n := lcells_below h caps 0 l
/-- Frozen: the lines of a value can be read. -/
theorem linesAt {F : Fz} {b c : Nat} {bf caps : Nat → Nat} {l : List Ln} (hne : l ≠ []) (hb : F b = some (.arr 120 2 ((lcells 5 caps 0 l).map (List.map (SA.ren (fun i k => if i = 5 then (0, bf k) else (i, k))))) c))
    (hf : ∀ k, (famE caps l).has k → F (bf k) = some ((famE caps l).at k)) (hcap : ∀ k x, l[k]? = some x → x.2.length ≤ caps k) : LinesAt F (.slice false 0 b 0 2 l.length c) l := by
  refine ⟨false, b, 0, c, _, c, rfl, fun h => (nomatch h), fun _ => hb, by rw [List.length_map, lcells_len]; omega, fun k x hx => ?_⟩
  have h1 := lcells_get 5 caps 0 l k x hx
  rw [Nat.zero_add] at h1
  refine ⟨_, by rw [Nat.zero_add, List.getElem?_map, h1]; rfl, ?_⟩
  refine ⟨_, rfl, ?_⟩
  rw [nA_ren]
  have hk := (List.getElem?_eq_some_iff.1 hx).1
  have hat := famE_at caps hx
  have hc := hcap k x hx
  cases hn : x.2 with
  | nil => exact .inl rfl
  | cons y r =>
    rw [hn] at hat hc
    have hhas : (famE caps l).has k := ⟨hk, by show (!((l.map (·.2)).getD k []).isEmpty) = true; rw [hat]; rfl⟩
    have := hf k hhas
    have e : (famE caps l).at k = .arr 3 1 ((y :: r).map encI) (caps k) := by show SB.arr 3 1 (((l.map (·.2)).getD k []).map encI) (caps k) = _; rw [hat]
    rw [e] at this
    exact .inr ⟨Sl.new (l := y :: r) this, hc⟩
end Go.Proofs.YtblllibdahkgfaaGreatDoor
