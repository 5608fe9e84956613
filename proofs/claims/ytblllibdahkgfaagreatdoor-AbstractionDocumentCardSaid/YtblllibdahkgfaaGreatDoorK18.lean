import Derived.Test.YtblllibdahkgfaaGreatDoorK17

namespace Go.Proofs.YtblllibdahkgfaaGreatDoor
open Go Sx
set_option maxRecDepth 100000
structure Val where
  lost : Bool
  lines : List Ln
  w : Int
  h : Int
  bits : List UInt8
def linesS (s : List UInt8) (p : Int) : Nat → List Ln → Int → Option (List Ln × Int)
  | 0, acc, q => some (acc, q)
  | f + 1, acc, q => match lineS s p acc q with
    | none => none
    | some (x, q') => linesS s p f (acc ++ [x]) q'
def readS (p : Int) (s : List UInt8) : Option Val :=
  if ¬ (1 ≤ p ∧ p ≤ 8) then none else
  if s = [] then some ⟨true, [], 0, 0, []⟩ else
  if p = 8 then
    if numOkR s 0 0 64 = true ∧ numOkR s (getI s 0).2.1 0 64 = true ∧ (getI s (getI s 0).2.1).2.1 = s.length then some ⟨false, [], (getI s 0).1, (getI s (getI s 0).2.1).1, []⟩ else none
  else if 6 ≤ p then
    let w := (getI s 0).1
    let q := (getI s 0).2.1
    let h := (getI s q).1
    let q2 := (getI s q).2.1
    if numOkR s 0 0 32 = true ∧ numOkR s q (min w 1) (min w 1 * 32) = true then
      if p = 7 then
        if (getS s q2).2.2 = 0 ∧ ((getS s q2).1.length : Int) = w * h ∧ (getS s q2).1.all (fun b => b == 48 || b == 49) = true ∧ (getS s q2).2.1 = s.length then some ⟨false, [], w, h, (getS s q2).1⟩ else none
      else if q2 = s.length then some ⟨false, [], w, h, []⟩ else none
    else none
  else
    if numOkR s 0 0 64 = true then match linesS s p (getI s 0).1.toNat [] (getI s 0).2.1 with
      | none => none
      | some (l, q) => if q = s.length then some ⟨false, l, 0, 0, []⟩ else none
    else none
def valV (v : Val) (i c : Nat) : SV := .agg [.lit v.lost, gA 2 i c v.lines, .int .i64 v.w, .int .i64 v.h, .str v.bits]
theorem lcells_congr {μ μ' : Mu} {B : Nat} (h : ∀ k, μ B k = μ' B k) (caps : Nat → Nat) : ∀ (j : Nat) (l : List Ln), (lcells B caps j l).map (List.map (SA.ren μ)) = (lcells B caps j l).map (List.map (SA.ren μ'))
  | _, [] => rfl
  | j, x :: r => by
    rw [lcells, List.map_cons, List.map_cons, lcells_congr h caps (j + 1) r]
    congr 1
    simp only [List.map_cons, List.map_nil, nA_ren, h]
    rfl
theorem numsS_ok {s : List UInt8} {p : Int} : ∀ (f : Nat) (acc : List Int) (q : Int) {n : List Int} {q' : Int}, numsS s p f acc q = some (n, q') → s.length ≤ 1000000000000000000 → i64 q → n.length = acc.length + f ∧ i64 q'
  | 0, acc, q, n, q', h, _, hq => by simp [numsS] at h; obtain ⟨rfl, rfl⟩ := h; exact ⟨rfl, hq⟩
  | f + 1, acc, q, n, q', h, hs, hq => by
    rw [numsS] at h
    split at h
    · rename_i hn
      have hok := getI_ok (numOkR_ok hn)
      obtain ⟨h1, h2⟩ := numsS_ok f _ _ h hs ⟨by omega, by omega⟩
      refine ⟨by rw [h1, List.length_append]; simp; omega, h2⟩
    · cases h
theorem getS_ok {s : List UInt8} {q : Int} (h : (getS s q).2.2 = 0) : 0 ≤ (getS s q).2.1 ∧ (getS s q).2.1 ≤ s.length := by
  rw [getS] at h ⊢
  split at h
  · rename_i h1; exact absurd h h1
  · rename_i h1
    have hok := getI_ok (s := s) (p := q) (by simpa using h1)
    rw [if_neg h1]
    split at h
    · simp at h
    · rename_i h2
      rw [if_neg h2]
      show 0 ≤ (getI s q).2.1 + (getI s q).1 ∧ (getI s q).2.1 + (getI s q).1 ≤ s.length
      omega
theorem lineS_ok {s : List UInt8} {p q : Int} {before : List Ln} {x : Ln} {q' : Int} (h : lineS s p before q = some (x, q')) (hs : s.length ≤ 1000000000000000000) (hq : i64 q) (hp : 1 ≤ p ∧ p ≤ 5) :
    i64 q' ∧ (p ≠ 1 ∧ p ≠ 2 → 2 ≤ x.2.length) := by
  rw [lineS] at h
  split at h
  · rename_i h1
    split at h
    · rename_i h2
      have := getS_ok h2.1
      simp only [Option.some.injEq, Prod.mk.injEq] at h
      obtain ⟨rfl, rfl⟩ := h
      exact ⟨⟨by omega, by omega⟩, fun h3 => absurd h1 h3.1⟩
    · cases h
  · rename_i h1
    split at h
    · cases h
    · rename_i n q2 hn
      obtain ⟨h3, h4⟩ := numsS_ok _ _ _ hn hs hq
      have hx : x = ([], n) ∧ q' = q2 := by
        split at h
        · simp only [Option.some.injEq, Prod.mk.injEq] at h; exact ⟨h.1.symm, h.2.symm⟩
        · split at h
          · simp only [Option.some.injEq, Prod.mk.injEq] at h; exact ⟨h.1.symm, h.2.symm⟩
          · split at h
            · simp only [Option.some.injEq, Prod.mk.injEq] at h; exact ⟨h.1.symm, h.2.symm⟩
            · cases h
      obtain ⟨rfl, rfl⟩ := hx
      refine ⟨h4, fun h5 => ?_⟩
      have hcs : p = 3 ∨ p = 4 ∨ p = 5 := by omega
      have : 3 ≤ cols p := by rcases hcs with rfl | rfl | rfl <;> decide
      show 2 ≤ n.length
      rw [h3]; simp; omega
def mfz (bf : Nat → Nat) : Mu := fun i k => if i = 5 then (0, bf k) else (i, k)
theorem lfz_below (bf caps : Nat → Nat) : ∀ (j : Nat) (l : List Ln), ∀ y ∈ (lcells 5 caps j l).map (List.map (SA.ren (mfz bf))), ∀ a ∈ y, a.below 1
  | _, [], y, hy, _, _ => by simp [lcells] at hy
  | j, x :: r, y, hy, a, ha => by
    rw [lcells, List.map_cons] at hy
    rcases List.mem_cons.1 hy with rfl | hy
    · simp only [List.map_cons, List.map_nil, List.mem_cons, List.not_mem_nil, or_false, nA_ren] at ha
      rcases ha with rfl | rfl
      · trivial
      · cases x.2 with
        | nil => trivial
        | cons _ _ => exact .inr (Nat.zero_lt_one)
    · exact lfz_below bf caps (j + 1) r y hy a ha
structure R1 (s : List UInt8) (p : Int) (m : Nat) (q1 : Int) (acc : List Ln) (c : Nat) (caps : Nat → Nat) (q : Int) : Prop where
  h1 : acc.length ≤ m
  h2 : i64 q
  h3 : linesS s p m [] q1 = linesS s p (m - acc.length) acc q
  h4 : ∀ k x, acc[k]? = some x → x.2.length ≤ caps k
  h5 : p ≠ 1 ∧ p ≠ 2 → ∀ x ∈ acc, 2 ≤ x.2.length
def accE (B i c : Nat) (l : List Ln) : Ent := .one (.cells 96 [.lit false, gA 2 i c l, .int .i64 0, .int .i64 0, .str []])
theorem accE_below {n i : Nat} (h : i < n) (B c : Nat) (l : List Ln) : (accE B i c l).below n := by
  intro a ha
  simp only [List.mem_cons, List.not_mem_nil, or_false] at ha
  rcases ha with rfl | rfl | rfl | rfl | rfl
  · trivial
  · cases l with
    | nil => trivial
    | cons x r => exact .inr h
  all_goals trivial
theorem acc_new {μ : Mu} {j : Nat} (h : μ 4 0 = (j, 0)) (c n : Nat) (l : List Ln) (x : Ln) (hn : n = l.length + 1) :
    SB.cells 96 [.lit false, .slice false j 0 0 2 n c, .int .i64 0, .int .i64 0, .str []] = SB.ren μ (.cells 96 [.lit false, gA 2 4 c (l ++ [x]), .int .i64 0, .int .i64 0, .str []]) := by
  subst hn
  cases l with
  | nil => simp only [gA, List.nil_append, SB.ren, List.map_cons, List.map_nil, SA.ren, h, List.length_nil]
  | cons y r => simp only [gA, List.cons_append, SB.ren, List.map_cons, List.map_nil, SA.ren, h]; simp
def gx (m : Nat) : Nat → Nat × Nat := fun k => if k < m then (5, k) else (6, 0)
def capx (m cn : Nat) (caps : Nat → Nat) : Nat → Nat := fun k => if k = m then cn else caps k
theorem lines_new {μ τ : Mu} {caps : Nat → Nat} {cn : Nat} {acc : List Ln} (x : Ln) (h : ∀ k, μ 5 k = gx acc.length k) (hτ : τ 2 0 = (6, 0)) :
    lcells 5 caps 0 acc ++ [[.str x.1, (gA 1 2 cn x.2).ren τ]] = (lcells 5 (capx acc.length cn caps) 0 (acc ++ [x])).map (List.map (SA.ren μ)) := by
  rw [lcells_app, List.map_append, lcells_ren (B' := 5) (caps' := caps) (m := acc.length) (fun k hk => ⟨by rw [h, gx, if_pos hk], by rw [capx, if_neg (by omega)]⟩) 0 acc (by omega)]
  congr 1
  simp only [List.map_cons, List.map_nil, nA_ren, h, gx, capx, Nat.zero_add, Nat.lt_irrefl, if_false, if_true]
  cases x.2 with
  | nil => rfl
  | cons y r => simp only [gA, SA.ren, hτ]
theorem fam_new {μ τ : Mu} {h1 : Hp} {caps : Nat → Nat} {cn : Nat} {acc : List Ln} (x : Ln) (h5 : lget h1 5 = some (famE caps acc)) (h6 : lget h1 6 = some ((gE 3 1 encI cn x.2).ren τ)) :
    genE (gx acc.length) [5, 6] h1 ((famE (capx acc.length cn caps) (acc ++ [x])).ren μ) := by
  rw [famE_ren]
  rw [gE_ren encI_plain] at h6
  have e1 : ∀ k, k < acc.length → ((acc ++ [x]).map (·.2)).getD k [] = (acc.map (·.2)).getD k [] := fun k hk => by
    rw [List.getD_eq_getElem?_getD, List.getD_eq_getElem?_getD, List.map_append, List.getElem?_append_left (by simpa using hk)]
  have e2 : ((acc ++ [x]).map (·.2)).getD acc.length [] = x.2 := by
    rw [List.getD_eq_getElem?_getD, List.map_append, List.getElem?_append_right (by simp)]; simp
  refine ⟨fun k hk hc => ?_, fun k k' hk hk' _ _ he => ?_⟩
  · by_cases hl : k < acc.length
    · have hg : gx acc.length k = (5, k) := if_pos hl
      rw [hg]
      refine ⟨by simp, famE caps acc, h5, rfl, ⟨hl, ?_⟩, ?_⟩
      · have hc2 : (!(((acc ++ [x]).map (·.2)).getD k []).isEmpty) = true := hc
        rw [e1 k hl] at hc2; exact hc2
      · show SB.arr 3 1 (((acc.map (·.2)).getD k []).map encI) (caps k) = SB.arr 3 1 ((((acc ++ [x]).map (·.2)).getD k []).map encI) (capx acc.length cn caps k)
        rw [e1 k hl, capx, if_neg (by omega)]
    · have hk2 : k = acc.length := by rw [List.length_append] at hk; simp at hk; omega
      subst hk2
      have hg : gx acc.length acc.length = (6, 0) := if_neg (by omega)
      rw [hg]
      refine ⟨by simp, gE 3 1 encI cn x.2, h6, rfl, ⟨?_, rfl⟩, ?_⟩
      · have hc2 : (!(((acc ++ [x]).map (·.2)).getD acc.length []).isEmpty) = true := hc
        rw [e2] at hc2; exact hc2
      · show SB.arr 3 1 (x.2.map encI) cn = SB.arr 3 1 ((((acc ++ [x]).map (·.2)).getD acc.length []).map encI) (capx acc.length cn caps acc.length)
        rw [e2, capx, if_pos rfl]
  · rw [List.length_append] at hk hk'
    simp at hk hk'
    unfold gx at he
    split at he <;> split at he <;> simp at he <;> omega
theorem caps_new {caps : Nat → Nat} {cn : Nat} {acc : List Ln} {x : Ln} (h : ∀ k y, acc[k]? = some y → y.2.length ≤ caps k) (hc : x.2.length ≤ cn) : ∀ k y, (acc ++ [x])[k]? = some y → y.2.length ≤ capx acc.length cn caps k := by
  intro k y hy
  unfold capx
  by_cases hk : k = acc.length
  · subst hk
    rw [List.getElem?_append_right (by omega)] at hy
    simp at hy; subst hy
    rw [if_pos rfl]; exact hc
  · have hl : k < (acc ++ [x]).length := (List.getElem?_eq_some_iff.1 hy).1
    rw [List.length_append] at hl
    simp at hl
    rw [List.getElem?_append_left (by omega)] at hy
    rw [if_neg hk]; exact h k y hy
theorem two_new {p : Int} {acc : List Ln} {x : Ln} (h : p ≠ 1 ∧ p ≠ 2 → ∀ y ∈ acc, 2 ≤ y.2.length) (hx : p ≠ 1 ∧ p ≠ 2 → 2 ≤ x.2.length) : p ≠ 1 ∧ p ≠ 2 → ∀ y ∈ acc ++ [x], 2 ≤ y.2.length := by
  intro hp y hy
  rcases List.mem_append.1 hy with hy | hy
  · exact h hp y hy
  · rw [List.mem_singleton.1 hy]; exact hx hp
theorem gA_ren {α : Type} {μ : Mu} {i j : Nat} (h : μ i 0 = (j, 0)) (sz c : Nat) (l : List α) : (gA sz i c l).ren μ = gA sz j c l := by
  cases l with
  | nil => rfl
  | cons x r => simp only [gA, SA.ren, h]
theorem valV_ren {μ : Mu} {i j : Nat} (h : μ i 0 = (j, 0)) (v : Val) (c : Nat) : (valV v i c).ren μ = valV v j c := by
  simp only [valV, SV.ren, List.map_cons, List.map_nil, gA_ren h]; rfl
theorem valV_below {n i : Nat} (h : i < n) (v : Val) (c : Nat) : (valV v i c).below n := by
  intro a ha
  simp only [List.mem_cons, List.not_mem_nil, or_false] at ha
  rcases ha with rfl | rfl | rfl | rfl | rfl
  · trivial
  · cases v.lines with
    | nil => trivial
    | cons x r => exact .inr h
  all_goals trivial
theorem linesE_sub {μ : Mu} {caps : Nat → Nat} {c : Nat} {l : List Ln} (h : ∀ k, μ 2 k = (5, k)) : subE (some (linesE 5 caps c l)) ((linesE 2 caps c l).ren μ) :=
  ⟨rfl, congrArg (fun L => SB.arr 120 2 L c) (lcells_ren (m := l.length) (fun k _ => ⟨h k, rfl⟩) 0 l (by omega)).symm⟩
theorem famE_sub {μ : Mu} {caps : Nat → Nat} {l : List Ln} : subE (some (famE caps l)) ((famE caps l).ren μ) := by
  rw [famE_ren]
  cases l with
  | nil => trivial
  | cons x r => exact ⟨rfl, rfl, rfl⟩
/-- What the end of read has to show. -/
def readK (F : Fz) (p : Int) (s : List UInt8) : Out → Fz → List (Nat × Ent) → Nat → Prop := fun o F0 h0 n0 => F = F0 ∧ match readS p s with
  | some v => ∃ c caps, n0 = 3 ∧ o = .ret (valV v 1 c) ∧ h0 = [(1, linesE 2 caps c v.lines), (2, famE caps v.lines)]
  | none => n0 = 1 ∧ o = .panic perr ∧ h0 = []
theorem readK_some {F : Fz} {p : Int} {s : List UInt8} {v : Val} {c : Nat} {caps : Nat → Nat} (h : readS p s = some v) : readK F p s (.ret (valV v 1 c)) F [(1, linesE 2 caps c v.lines), (2, famE caps v.lines)] 3 :=
  ⟨rfl, by rw [h]; exact ⟨c, caps, rfl, rfl, rfl⟩⟩
theorem readK_none {F : Fz} {p : Int} {s : List UInt8} (h : readS p s = none) : readK F p s (.panic perr) F [] 1 := ⟨rfl, by rw [h]; exact ⟨rfl, rfl, rfl⟩⟩
/-- An end of read: it panics; it returns a value without lines. -/
theorem readPanic {F : Fz} {p : Int} {s : List UInt8} {h : Hp} {nx : Nat} (hr : readS p s = none) (h0 : lget h 0 = some (.frz F)) : Cln 1 (fun o F0 h0 n0 => Fz.le F F0 ∧ readK F p s o F0 h0 n0) (.panic perr) h nx :=
  clean [] (.panic perr) F [] 1 ⟨Fz.le_refl F, readK_none hr⟩ rfl rfl rfl trivial trivial ⟨by show subE (lget h 0) (.frz F); rw [h0]; exact Fz.le_refl F, trivial⟩
theorem readRet {F : Fz} {p : Int} {s : List UInt8} {h : Hp} {nx : Nat} {l : Bool} {w hh : Int} {bits : List UInt8} (hr : readS p s = some ⟨l, [], w, hh, bits⟩) (h0 : lget h 0 = some (.frz F)) (h9 : lget h 99 = none) :
    Cln 1 (fun o F0 h0 n0 => Fz.le F F0 ∧ readK F p s o F0 h0 n0) (.ret (.agg [.lit l, .nilsl, .int .i64 w, .int .i64 hh, .str bits])) h nx :=
  clean [(1, 99), (2, 100)] (.ret (valV ⟨l, [], w, hh, bits⟩ 1 0)) F [(1, linesE 2 (fun _ => 0) 0 []), (2, famE (fun _ => 0) [])] 3 ⟨Fz.le_refl F, readK_some (c := 0) (caps := fun _ => 0) hr⟩ rfl rfl rfl (valV_below (by omega) _ _) ⟨linesE_below (by omega) _ _ _, famE_below _ _ _, trivial⟩
    ⟨by show subE (lget h 0) (.frz F); rw [h0]; exact Fz.le_refl F, by show subE (lget h 99) (.opt false _); rw [h9]; rfl, trivial, trivial⟩
theorem readS_bad {p : Int} {s : List UInt8} (h : ¬ (1 ≤ p ∧ p ≤ 8)) : readS p s = none := by rw [readS, if_pos h]
theorem readS_empty {p : Int} (h : 1 ≤ p ∧ p ≤ 8) : readS p [] = some ⟨true, [], 0, 0, []⟩ := by rw [readS, if_neg (by omega), if_pos rfl]
theorem readBad_fn (F : Fz) (s : List UInt8) (p : Int) (hp : ¬ (1 ≤ p ∧ p ≤ 8)) : Ct Tryz.prog 52 [.va (.int .i64 p), .va (.str s)] F [] 1 (readK F p s) := by
  refine ct_of hΘ Tryz.func52 rfl (by decide) _ _ rfl rfl rfl ?_
  conv => whnf
  refine usePu (within_pu p 1 8 F) rfl (argsE_refl _) rfl ?_
  conv => whnf
  refine useFo (must_fn F (decide (1 ≤ p) && decide (p ≤ 8))) rfl ⟨rfl, trivial⟩ rfl ?_
  rintro _ _ l1 ⟨rfl, ⟨hb, rfl⟩ | ⟨hb, rfl⟩⟩
  · exact absurd (by simpa using hb) hp
  · conv => whnf
    exact readPanic (readS_bad hp) rfl
theorem readEmpty_fn (F : Fz) (p : Int) (hp : 1 ≤ p ∧ p ≤ 8) : Ct Tryz.prog 52 [.va (.int .i64 p), .va (.str [])] F [] 1 (readK F p []) := by
  refine ct_of hΘ Tryz.func52 rfl (by decide) _ _ rfl rfl rfl ?_
  conv => whnf
  refine usePu (within_pu p 1 8 F) rfl (argsE_refl _) rfl ?_
  conv => whnf
  refine useFo (must_fn F (decide (1 ≤ p) && decide (p ≤ 8))) rfl ⟨rfl, trivial⟩ rfl ?_
  rintro _ _ l1 ⟨rfl, ⟨hb, rfl⟩ | ⟨hb, rfl⟩⟩
  · conv => whnf
    refine br (fun _ => ?_) (fun g => absurd g (by decide))
    conv => whnf
    refine useFo (must_fn F true) rfl ⟨rfl, trivial⟩ rfl ?_
    rintro _ _ l2 ⟨rfl, ⟨hb2, rfl⟩ | ⟨hb2, rfl⟩⟩
    · conv => whnf
      exact readRet (readS_empty hp) rfl rfl
    · cases hb2
  · exfalso; have : ¬ (1 ≤ p ∧ p ≤ 8) := fun h => by simp [h] at hb
    exact this hp
set_option maxHeartbeats 8000000 in
theorem readLines_fn (hCF : CFun) (F : Fz) (s : List UInt8) (p : Int) (hs : s.length ≤ 1000000000000000000) (hp1 : 1 ≤ p ∧ p ≤ 5) (hne : ¬ s = []) :
    Ct Tryz.prog 52 [.va (.int .i64 p), .va (.str s)] F [] 1 (readK F p s) := by
  have hnum := fun lo hi => number_fn F s 0 lo hi hs (by unfold i64; omega)
  refine ct_of hΘ Tryz.func52 rfl (by decide) _ _ rfl rfl rfl ?_
  conv => whnf
  refine usePu (within_pu p 1 8 F) rfl (argsE_refl _) rfl ?_
  conv => whnf
  refine useFo (must_fn F (decide (1 ≤ p) && decide (p ≤ 8))) rfl ⟨rfl, trivial⟩ rfl ?_
  rintro _ _ l1 ⟨rfl, ⟨hb, rfl⟩ | ⟨hb, rfl⟩⟩
  · have hp8 : 1 ≤ p ∧ p ≤ 8 := by simpa using hb
    conv => whnf
    refine br (fun g => ?_) (fun g => ?_)
    · exact absurd (by simpa using g) hne
    · clear g
      conv => whnf
      refine br (fun g => absurd (of_decide_eq_true g) (by omega)) (fun _ => ?_)
      conv => whnf
      refine br (fun g => absurd (of_decide_eq_true g) (by omega)) (fun _ => ?_)
      conv => whnf
      refine use (hnum 0 64) [(1, 3)] rfl ⟨rfl, rfl, rfl, trivial⟩ rfl ⟨rdr_below _ _, trivial⟩ (by simp [SV.below, SA.below]) ⟨rfl, trivial⟩ ?_
      rintro out0 F0 h0 n0 hle ⟨rfl, rfl, hcase⟩
      by_cases hn : numOkR s 0 0 64 = true
      · rw [if_pos hn] at hcase
        obtain ⟨ho, hh⟩ := hcase
        subst ho; subst hh
        have hok := getI_ok (numOkR_ok hn)
        have hn2 : 0 ≤ (getI s 0).1 ∧ (getI s 0).1 ≤ 64 := by
          simp only [numOkR, Bool.and_eq_true, decide_eq_true_eq] at hn; exact hn.2
        have hm : ∃ m : Nat, (getI s 0).1 = m ∧ m ≤ 64 := ⟨(getI s 0).1.toNat, by omega, by omega⟩
        obtain ⟨m, em, hm64⟩ := hm
        have hR : readS p s = match linesS s p m [] (getI s 0).2.1 with
            | none => none
            | some (l, q) => if q = s.length then some ⟨false, l, 0, 0, []⟩ else none := by
          rw [readS, if_neg (by omega), if_neg hne, if_neg (by omega), if_neg (by omega), if_pos hn, em]; rfl
        have hq1 : i64 (getI s 0).2.1 := ⟨by omega, by omega⟩
        conv => whnf
        refine loop_at hΘ (X := { x : List Ln × Nat × (Nat → Nat) × Int // R1 s p m (getI s 0).2.1 x.1 x.2.1 x.2.2.1 x.2.2.2 }) (fun x => [(15, .va (.int .i64 x.1.1.length))]) [16, 17, 18, 19, 20, 21, 22, 23, 24, 25, 26, 27]
          (fun x => [(0, .frz F), (2, accE 5 4 x.1.2.1 x.1.1), (3, rdr s x.1.2.2.2), (4, linesE 5 x.1.2.2.1 x.1.2.1 x.1.1), (5, famE x.1.2.2.1 x.1.1)]) 6 (fun x => m - x.1.1.length) ⟨([], 0, fun _ => 0, (getI s 0).2.1), ⟨by simp, hq1, rfl, by simp, by simp⟩⟩
          (fun hH hT => leI [(4, 4), (5, 5)] hH hT rfl ⟨trivial, accE_below (by omega) _ _ _, rdr_below s _, linesE_below (by omega) _ _ _, famE_below _ _ _, trivial⟩ ⟨rfl, trivial⟩ ⟨Fz.le_refl F, rfl, rfl, rfl, trivial, trivial⟩) ?_
        rintro ⟨⟨acc, c, caps, q⟩, h1, h2, h3, h4, h5⟩ hH hT
        replace h1 : acc.length ≤ m := h1
        replace h2 : i64 q := h2
        replace h3 : linesS s p m [] (getI s 0).2.1 = linesS s p (m - acc.length) acc q := h3
        replace h4 : ∀ k x, acc[k]? = some x → x.2.length ≤ caps k := h4
        replace h5 : p ≠ 1 ∧ p ≠ 2 → ∀ x ∈ acc, 2 ≤ x.2.length := h5
        have hline := line_fn hCF
        conv => whnf
        refine br (fun gb => ?_) (fun gb => ?_)
        · have gl : acc.length < m := by
            have h0 : (acc.length : Int) < (getI s 0).1 := of_decide_eq_true gb
            rw [em] at h0; omega
          clear gb
          rcases acc with _ | ⟨a0, ar⟩
          · conv => whnf
            refine drawP hΘ mixed (.look 0 (.look 1 (.look 2 (.look 3 (.look 4 (.look 5 (.alt 6 (.alt 7 (.alt 8 (.look 9 (.last 10 .done)) .nil) .nil) .nil))))))) [2] (by kernel_rfl) ?_
            conv => whnf
            repeat' ((conv => whnf); first
              | refine ⟨rfl, ?_⟩
              | refine ⟨Fz.le_refl _, rfl, ?_⟩
              | refine ⟨Fz.le_refl _, rfl, rfl, ?_⟩
              | refine ⟨⟨by simp, by simp⟩, ?_⟩
              | fail)
            conv => whnf
            refine use (line_fn hCF F s p q (.slice true 0 0 0 2 0 0) [] ⟨true, 0, 0, 0, [], 0, rfl, fun _ => rfl, fun h => (nomatch h), by simp, by simp⟩ hs hp1 h2 (by simp) (by simp)) [(1, 3)] rfl ⟨rfl, rfl, ⟨rfl, rfl, rfl⟩, trivial⟩ rfl ⟨rdr_below _ _, trivial⟩ (by simp [SV.below, SA.below]) ⟨rfl, trivial⟩ ?_
            rintro out0 F0 h0 n0 hle ⟨rfl, hcase⟩
            have hx : lineS s p [] q = none ∨ ∃ x q2, lineS s p [] q = some (x, q2) := by
              cases lineS s p [] q with
              | none => exact .inl rfl
              | some z => exact .inr ⟨z.1, z.2, rfl⟩
            have hf : m - 0 = (m - 1) + 1 := by omega
            rcases hx with hx | ⟨x, q2, hx⟩
            · rw [hx] at hcase
              obtain ⟨q3, rfl, rfl, rfl⟩ := hcase
              conv => whnf
              refine clean [] (.panic perr) F [] 1 ⟨Fz.le_refl F, readK_none ?_⟩ rfl rfl rfl trivial trivial ⟨Fz.le_refl F, trivial⟩
              have h33 : linesS s p m [] (getI s 0).2.1 = none := by rw [h3]; show linesS s p (m - 0) [] q = none; rw [hf, linesS, hx]
              rw [hR, h33]
            · rw [hx] at hcase
              obtain ⟨cn, hcn, rfl, rfl, rfl⟩ := hcase
              have hlo := lineS_ok hx hs h2 hp1
              conv => whnf
              refine ⟨Fz.le_refl F, rfl, ?_⟩
              conv => whnf
              refine ⟨Fz.le_refl F, rfl, ?_⟩
              conv => whnf
              refine ⟨Nat.le_of_ble_eq_true rfl, _, rfl, ?_⟩
              conv => whnf
              refine ⟨rfl, rfl, ?_⟩
              conv => whnf
              refine ⟨Nat.le_of_ble_eq_true rfl, fun c' hc => ?_⟩
              clear hc
              conv => whnf
              refine ⟨Fz.le_refl F, rfl, ?_⟩
              conv => whnf
              have h33 : linesS s p m [] (getI s 0).2.1 = linesS s p (m - ([] ++ [x]).length) ([] ++ [x]) q2 := by rw [h3]; show linesS s p (m - 0) [] q = _; rw [hf, linesS, hx]; rfl
              exact ⟨⟨([] ++ [x], c', capx 0 cn caps, q2), ⟨by show 1 ≤ m; exact gl, hlo.1, h33, caps_new h4 hcn, two_new h5 hlo.2⟩⟩, by show m - 1 < m - 0; omega,
                leR [(4, .to 8), (5, .fn (gx 0) [5, 6])] hH hT rfl ⟨trivial, accE_below (by omega) _ _ _, rdr_below s _, linesE_below (by omega) _ _ _, famE_below _ _ _, trivial⟩ ⟨cnt (by omega), trivial⟩
                ⟨Fz.le_refl F, acc_new (μ := sig [(4, .to 8), (5, .fn (gx 0) [5, 6])]) (j := 8) rfl c' _ [] x rfl, rfl, congrArg (fun L => SB.arr 120 2 L c') (lines_new (μ := sig [(4, .to 8), (5, .fn (gx 0) [5, 6])]) (acc := []) x (fun k => rfl) rfl), fam_new (acc := []) x rfl rfl, trivial⟩⟩
          · replace h1 : ar.length + 1 ≤ m := h1
            replace gl : ar.length + 1 < m := gl
            conv => whnf
            refine drawP hΘ mixed (.look 0 (.look 1 (.look 2 (.look 3 (.look 4 (.look 5 (.alt 6 (.alt 7 (.alt 8 (.look 9 (.last 10 .done)) .nil) .nil) .nil))))))) [2] (by kernel_rfl) ?_
            conv => whnf
            repeat' ((conv => whnf); first
              | refine ⟨rfl, ?_⟩
              | refine ⟨Fz.le_refl _, rfl, ?_⟩
              | refine ⟨Fz.le_refl _, rfl, rfl, ?_⟩
              | refine ⟨⟨by simp, by simp⟩, ?_⟩
              | fail)
            conv => whnf
            refine lend 5 (fun k => (famE caps (a0 :: ar)).at k) rfl rfl rfl (fun k _ => encIB_ren _ _ _) (fun k _ => encIB_below _ _ _) ?_
            intro bf G1 lg1 hbf
            refine lend 4 (fun _ => .arr 120 2 ((lcells 5 caps 0 (a0 :: ar)).map (List.map (SA.ren (mfz bf)))) c) rfl rfl rfl (fun _ _ => congrArg (fun L => SB.arr 120 2 L c) (lcells_congr (μ' := mfz bf) (B := 5) (by intro k; rfl) caps 0 (a0 :: ar))) (fun _ _ => lfz_below bf caps 0 (a0 :: ar)) ?_
            intro b4 G2 lg2 hb4
            refine use (line_fn hCF G2 s p q _ (a0 :: ar) (linesAt (bf := bf) (caps := caps) (by simp) (hb4 0 ⟨rfl, rfl⟩) (fun k hk => lg2 _ _ (hbf k hk)) h4) hs hp1 h2 (by simp; omega) h5) [(1, 3)] rfl ⟨rfl, rfl, ⟨rfl, rfl, rfl, .inr ⟨rfl, rfl, rfl, rfl⟩⟩, trivial⟩ rfl ⟨rdr_below _ _, trivial⟩ (by simp [SV.below, SA.below]) ⟨rfl, trivial⟩ ?_
            rintro out0 F0 h0 n0 hle ⟨rfl, hcase⟩
            have hx : lineS s p (a0 :: ar) q = none ∨ ∃ x q2, lineS s p (a0 :: ar) q = some (x, q2) := by
              cases lineS s p (a0 :: ar) q with
              | none => exact .inl rfl
              | some z => exact .inr ⟨z.1, z.2, rfl⟩
            have hf : m - (ar.length + 1) = (m - (ar.length + 1 + 1)) + 1 := by omega
            rcases hx with hx | ⟨x, q2, hx⟩
            · rw [hx] at hcase
              obtain ⟨q3, rfl, rfl, rfl⟩ := hcase
              refine ⟨G2, rfl, Fz.le_refl _, rfl, ?_⟩
              refine ⟨G1, rfl, Fz.le_refl _, rfl, ?_⟩
              conv => whnf
              refine clean [] (.panic perr) F [] 1 ⟨Fz.le_refl F, readK_none ?_⟩ rfl rfl rfl trivial trivial ⟨Fz.le_refl F, trivial⟩
              have h33 : linesS s p m [] (getI s 0).2.1 = none := by rw [h3]; show linesS s p (m - (ar.length + 1)) (a0 :: ar) q = none; rw [hf, linesS, hx]
              rw [hR, h33]
            · rw [hx] at hcase
              obtain ⟨cn, hcn, rfl, rfl, rfl⟩ := hcase
              refine ⟨G2, rfl, Fz.le_refl _, rfl, ?_⟩
              refine ⟨G1, rfl, Fz.le_refl _, rfl, ?_⟩
              have hlo := lineS_ok hx hs h2 hp1
              conv => whnf
              refine ⟨Fz.le_refl F, rfl, ?_⟩
              conv => whnf
              refine ⟨Fz.le_refl F, rfl, ?_⟩
              conv => whnf
              refine ⟨Nat.le_of_ble_eq_true rfl, _, rfl, ?_⟩
              conv => whnf
              refine ⟨rfl, rfl, (lcells_len 5 caps 0 (a0 :: ar)).symm, rfl, by show (ar.length + 1 + 1) * 40 ≤ 140737488355328; omega, fun c' hc => ?_⟩
              clear hc
              conv => whnf
              refine ⟨Fz.le_refl F, rfl, ?_⟩
              conv => whnf
              have h33 : linesS s p m [] (getI s 0).2.1 = linesS s p (m - ((a0 :: ar) ++ [x]).length) ((a0 :: ar) ++ [x]) q2 := by
                rw [h3]; show linesS s p (m - (ar.length + 1)) (a0 :: ar) q = _
                rw [hf, linesS, hx, List.length_append]; rfl
              exact ⟨⟨((a0 :: ar) ++ [x], c', capx (ar.length + 1) cn caps, q2), ⟨by rw [List.length_append]; exact gl, hlo.1, h33, caps_new h4 hcn, two_new h5 hlo.2⟩⟩, by show m - ((a0 :: ar) ++ [x]).length < m - (ar.length + 1); rw [List.length_append]; simp; omega,
                leR [(4, .to 8), (5, .fn (gx (ar.length + 1)) [5, 6])] hH hT rfl ⟨trivial, accE_below (by omega) _ _ _, rdr_below s _, linesE_below (by omega) _ _ _, famE_below _ _ _, trivial⟩ ⟨by show SA.int .i64 _ = SA.int .i64 _; rw [List.length_append]; exact cnt (by simp; omega), trivial⟩
                ⟨Fz.le_refl F, acc_new (μ := sig [(4, .to 8), (5, .fn (gx (ar.length + 1)) [5, 6])]) (j := 8) rfl c' _ (a0 :: ar) x rfl, rfl, congrArg (fun L => SB.arr 120 2 L c') (lines_new (μ := sig [(4, .to 8), (5, .fn (gx (ar.length + 1)) [5, 6])]) (acc := a0 :: ar) x (fun k => rfl) rfl), fam_new (acc := a0 :: ar) x rfl rfl, trivial⟩⟩
        · have gl : acc.length = m := by
            have h0 : ¬ (acc.length : Int) < (getI s 0).1 := of_decide_eq_false gb
            rw [em] at h0; omega
          clear gb
          have h33 : linesS s p m [] (getI s 0).2.1 = some (acc, q) := by rw [h3, show m - acc.length = 0 by omega, linesS]
          rw [h33] at hR
          replace hR : readS p s = if q = s.length then some ⟨false, acc, 0, 0, []⟩ else none := hR
          conv => whnf
          refine useFo (must_fn F (decide (q = (s.length : Int)))) rfl ⟨rfl, trivial⟩ rfl ?_
          rintro _ _ l2 ⟨rfl, ⟨hb, rfl⟩ | ⟨hb, rfl⟩⟩
          · conv => whnf
            refine clean [(1, 4), (2, 5)] (.ret (valV ⟨false, acc, 0, 0, []⟩ 1 c)) F [(1, linesE 2 caps c acc), (2, famE caps acc)] 3 ⟨Fz.le_refl F, readK_some (v := ⟨false, acc, 0, 0, []⟩) ?_⟩ ?_ rfl rfl (valV_below (by omega) _ _) ⟨linesE_below (by omega) _ _ _, famE_below _ _ _, trivial⟩ ⟨Fz.le_refl F, linesE_sub (fun k => rfl), famE_sub, trivial⟩
            · rw [hR, if_pos (of_decide_eq_true hb)]
            · exact (valV_ren (i := 1) (j := 4) rfl ⟨false, acc, 0, 0, []⟩ c).trans (valV_ren (i := 4) (j := 4) (by rfl) ⟨false, acc, 0, 0, []⟩ c).symm
          · conv => whnf
            refine clean [] (.panic perr) F [] 1 ⟨Fz.le_refl F, readK_none ?_⟩ rfl rfl rfl trivial trivial ⟨Fz.le_refl F, trivial⟩
            rw [hR, if_neg (of_decide_eq_false hb)]
      · rw [if_neg hn] at hcase
        obtain ⟨ho, hh⟩ := hcase
        subst ho; subst hh
        have hR : readS p s = none := by rw [readS, if_neg (by omega), if_neg hne, if_neg (by omega), if_neg (by omega), if_neg hn]
        conv => whnf
        refine clean [] (.panic perr) F [] 1 ⟨Fz.le_refl F, readK_none ?_⟩ rfl rfl rfl trivial trivial ⟨Fz.le_refl F, trivial⟩
        exact hR
  · exfalso; have := of_decide_eq_false (p := 1 ≤ p ∧ p ≤ 8) (by simpa using hb); omega
end Go.Proofs.YtblllibdahkgfaaGreatDoor

namespace Go.Proofs.YtblllibdahkgfaaGreatDoor
open Go Sx
set_option maxRecDepth 100000
def TFun : Prop := ∀ (F : Fz) (s : List UInt8), s.length ≤ 70000 → Fo Tryz.prog F 77 [.va (.str s), .va (.str [48, 49])] (fun o F' => F = F' ∧ ∃ r : List UInt8, o = .ret (.va (.str r)) ∧ (r = [] ↔ s.all (fun b => b == 48 || b == 49) = true))
set_option maxHeartbeats 4000000 in
theorem readCount_fn (F : Fz) (s : List UInt8) (hs : s.length ≤ 1000000000000000000) (hne : ¬ s = []) : Ct Tryz.prog 52 [.va (.int .i64 8), .va (.str s)] F [] 1 (readK F 8 s) := by
  have hnum := number_fn F s 0 0 64 hs (by unfold i64; omega)
  have hR : readS 8 s = if numOkR s 0 0 64 = true ∧ numOkR s (getI s 0).2.1 0 64 = true ∧ (getI s (getI s 0).2.1).2.1 = s.length then some ⟨false, [], (getI s 0).1, (getI s (getI s 0).2.1).1, []⟩ else none := by
    rw [readS, if_neg (by omega), if_neg hne, if_pos rfl]
  refine ct_of hΘ Tryz.func52 rfl (by decide) _ _ rfl rfl rfl ?_
  conv => whnf
  refine usePu (within_pu 8 1 8 F) rfl (argsE_refl _) rfl ?_
  conv => whnf
  refine useFo (must_fn F true) rfl ⟨rfl, trivial⟩ rfl ?_
  rintro _ _ l1 ⟨rfl, ⟨hb, rfl⟩ | ⟨hb, rfl⟩⟩
  · conv => whnf
    refine br (fun g => absurd (by simpa using g) hne) (fun _ => ?_)
    conv => whnf
    refine br (fun _ => ?_) (fun g => absurd g (by decide))
    conv => whnf
    refine use hnum [(1, 3)] rfl ⟨rfl, rfl, rfl, trivial⟩ rfl ⟨rdr_below _ _, trivial⟩ (by simp [SV.below, SA.below]) ⟨rfl, trivial⟩ ?_
    rintro out0 F0 h0 n0 hle ⟨rfl, rfl, hcase⟩
    by_cases hn : numOkR s 0 0 64 = true
    · rw [if_pos hn] at hcase
      obtain ⟨rfl, rfl⟩ := hcase
      have hok := getI_ok (numOkR_ok hn)
      conv => whnf
      refine use (number_fn F s (getI s 0).2.1 0 64 hs ⟨by omega, by omega⟩) [(1, 3)] rfl ⟨rfl, rfl, rfl, trivial⟩ rfl ⟨rdr_below _ _, trivial⟩ (by simp [SV.below, SA.below]) ⟨rfl, trivial⟩ ?_
      rintro out0 F0 h0 n0 hle ⟨rfl, rfl, hcase⟩
      by_cases hn2 : numOkR s (getI s 0).2.1 0 64 = true
      · rw [if_pos hn2] at hcase
        obtain ⟨rfl, rfl⟩ := hcase
        conv => whnf
        refine useFo (must_fn F (decide ((getI s (getI s 0).2.1).2.1 = (s.length : Int)))) rfl ⟨rfl, trivial⟩ rfl ?_
        rintro _ _ l2 ⟨rfl, ⟨hb2, rfl⟩ | ⟨hb2, rfl⟩⟩
        · conv => whnf
          exact readRet (by rw [hR, if_pos ⟨hn, hn2, of_decide_eq_true hb2⟩]) rfl rfl
        · conv => whnf
          exact readPanic (by rw [hR, if_neg (fun h => of_decide_eq_false hb2 h.2.2)]) rfl
      · rw [if_neg hn2] at hcase
        obtain ⟨rfl, rfl⟩ := hcase
        conv => whnf
        exact readPanic (by rw [hR, if_neg (fun h => hn2 h.2.1)]) rfl
    · rw [if_neg hn] at hcase
      obtain ⟨rfl, rfl⟩ := hcase
      conv => whnf
      exact readPanic (by rw [hR, if_neg (fun h => hn h.1)]) rfl
  · cases hb
set_option maxHeartbeats 8000000 in
theorem readRaster_fn (hT : TFun) (F : Fz) (s : List UInt8) (p : Int) (hp : p = 6 ∨ p = 7) (hs : s.length ≤ 1000000000000000000) (hne : ¬ s = []) : Ct Tryz.prog 52 [.va (.int .i64 p), .va (.str s)] F [] 1 (readK F p s) := by
  have hnum := number_fn F s 0 0 32 hs (by unfold i64; omega)
  obtain ⟨w, hw⟩ : ∃ w, (getI s 0).1 = w := ⟨_, rfl⟩
  obtain ⟨q, hq⟩ : ∃ q, (getI s 0).2.1 = q := ⟨_, rfl⟩
  obtain ⟨h, hh⟩ : ∃ h, (getI s q).1 = h := ⟨_, rfl⟩
  obtain ⟨q2, hq2⟩ : ∃ q2, (getI s q).2.1 = q2 := ⟨_, rfl⟩
  have hR : readS p s = if numOkR s 0 0 32 = true ∧ numOkR s q (min w 1) (min w 1 * 32) = true then
      if p = 7 then
        if (getS s q2).2.2 = 0 ∧ ((getS s q2).1.length : Int) = w * h ∧ (getS s q2).1.all (fun b => b == 48 || b == 49) = true ∧ (getS s q2).2.1 = s.length then some ⟨false, [], w, h, (getS s q2).1⟩ else none
      else if q2 = s.length then some ⟨false, [], w, h, []⟩ else none
    else none := by
    rw [readS, if_neg (by omega), if_neg hne, if_neg (by omega), if_pos (by omega)]
    simp only [hw, hq, hh, hq2]
  rw [hw, hq] at hnum
  have hok1 := fun (hn : numOkR s 0 0 32 = true) => getI_ok (numOkR_ok hn)
  rw [hq] at hok1
  have hw32 : numOkR s 0 0 32 = true → 0 ≤ w ∧ w ≤ 32 := fun hn => by
    simp only [numOkR, Bool.and_eq_true, decide_eq_true_eq, hw] at hn; exact hn.2
  refine ct_of hΘ Tryz.func52 rfl (by decide) _ _ rfl rfl rfl ?_
  conv => whnf
  refine usePu (within_pu p 1 8 F) rfl (argsE_refl _) rfl ?_
  conv => whnf
  refine useFo (must_fn F (decide (1 ≤ p) && decide (p ≤ 8))) rfl ⟨rfl, trivial⟩ rfl ?_
  rintro _ _ l1 ⟨rfl, ⟨hb, rfl⟩ | ⟨hb, rfl⟩⟩
  · conv => whnf
    refine br (fun g => absurd (by simpa using g) hne) (fun _ => ?_)
    conv => whnf
    refine br (fun g => absurd (of_decide_eq_true g) (by omega)) (fun _ => ?_)
    conv => whnf
    refine br (fun _ => ?_) (fun g => absurd (of_decide_eq_false g) (by omega))
    conv => whnf
    refine use hnum [(1, 3)] rfl ⟨rfl, rfl, rfl, trivial⟩ rfl ⟨rdr_below _ _, trivial⟩ (by simp [SV.below, SA.below]) ⟨rfl, trivial⟩ ?_
    rintro out0 F0 h0 n0 hle ⟨rfl, rfl, hcase⟩
    by_cases hn : numOkR s 0 0 32 = true
    · rw [if_pos hn] at hcase
      obtain ⟨rfl, rfl⟩ := hcase
      have hok := hok1 hn
      have hwb := hw32 hn
      have e1 : (if 1 < w then 1 else w) = min w 1 := by split <;> omega
      have e2 : IntKind.i64.wrap ((if 1 < w then 1 else w) * 32) = min w 1 * 32 := by rw [e1, wrap64_id (by omega) (by omega)]
      have hnum2 := number_fn F s q (if 1 < w then 1 else w) (IntKind.i64.wrap ((if 1 < w then 1 else w) * 32)) hs ⟨by omega, by omega⟩
      conv => whnf
      refine use hnum2 [(1, 3)] rfl ⟨rfl, rfl, rfl, trivial⟩ rfl ⟨rdr_below _ _, trivial⟩ (by simp [SV.below, SA.below]) ⟨rfl, trivial⟩ ?_
      rintro out0 F0 h0 n0 hle ⟨rfl, rfl, hcase⟩
      rw [e1, wrap64_id (n := min w 1 * 32) (by omega) (by omega), hh, hq2] at hcase
      by_cases hn2 : numOkR s q (min w 1) (min w 1 * 32) = true
      · rw [if_pos hn2] at hcase
        obtain ⟨rfl, rfl⟩ := hcase
        have hok2 := getI_ok (numOkR_ok hn2)
        rw [hq2] at hok2
        have hhb : min w 1 ≤ h ∧ h ≤ min w 1 * 32 := by
          simp only [numOkR, Bool.and_eq_true, decide_eq_true_eq, hh] at hn2; exact hn2.2
        rw [if_pos ⟨hn, hn2⟩] at hR
        have hwh : 0 ≤ w * h ∧ w * h ≤ 1024 := by
          refine ⟨Int.mul_nonneg (by omega) (by omega), ?_⟩
          have : w * h ≤ 32 * 32 := Int.mul_le_mul (by omega) (by omega) (by omega) (by omega)
          omega
        conv => whnf
        refine br (fun g7 => ?_) (fun g7 => ?_)
        · have g7' : p = 7 := of_decide_eq_true g7
          rw [if_pos g7'] at hR
          conv => whnf
          refine use (rtext_fn F s q2 hs ⟨by omega, by omega⟩) [(1, 3)] rfl ⟨rfl, trivial⟩ rfl ⟨rdr_below _ _, trivial⟩ (by simp [SV.below, SA.below]) ⟨rfl, trivial⟩ ?_
          rintro out0 F0 h0 n0 hle ⟨rfl, rfl, hcase⟩
          by_cases he : (getS s q2).2.2 = 0
          · rw [if_pos he] at hcase
            obtain ⟨rfl, rfl⟩ := hcase
            have ew : IntKind.i64.wrap (w * h) = w * h := wrap64_id (by omega) (by omega)
            conv => whnf
            refine ⟨fun gl => ?_, fun gl => ?_⟩
            · have gl' : ((getS s q2).1.length : Int) = w * h := by
                have h0 := of_decide_eq_true gl
                rw [← ew]; exact h0
              clear gl
              conv => whnf
              refine useFo (hT F (getS s q2).1 (by omega)) rfl (argsE_refl _) rfl ?_
              rintro _ _ l2 ⟨rfl, r, rfl, hr⟩
              conv => whnf
              refine useFo (must_fn F (r == [])) rfl ⟨rfl, trivial⟩ rfl ?_
              rintro _ _ l2 ⟨rfl, ⟨hb2, rfl⟩ | ⟨hb2, rfl⟩⟩
              · have hall := hr.1 (by simpa using hb2)
                conv => whnf
                refine useFo (must_fn F (decide ((getS s q2).2.1 = (s.length : Int)))) rfl ⟨rfl, trivial⟩ rfl ?_
                rintro _ _ l2 ⟨rfl, ⟨hb3, rfl⟩ | ⟨hb3, rfl⟩⟩
                · conv => whnf
                  exact readRet (by rw [hR, if_pos ⟨he, gl', hall, of_decide_eq_true hb3⟩]) rfl rfl
                · conv => whnf
                  exact readPanic (by rw [hR, if_neg (fun h => of_decide_eq_false hb3 h.2.2.2)]) rfl
              · have hall : ¬ (getS s q2).1.all (fun b => b == 48 || b == 49) = true := fun h => by
                  rw [hr.2 h] at hb2; cases hb2
                conv => whnf
                exact readPanic (by rw [hR, if_neg (fun h => hall h.2.2.1)]) rfl
            · have gl' : ¬ ((getS s q2).1.length : Int) = w * h := by
                have h0 := of_decide_eq_false gl
                rw [← ew]; exact h0
              clear gl
              conv => whnf
              refine useFo (must_fn F false) rfl ⟨rfl, trivial⟩ rfl ?_
              rintro _ _ l2 ⟨rfl, ⟨hb2, rfl⟩ | ⟨hb2, rfl⟩⟩
              · cases hb2
              · conv => whnf
                exact readPanic (by rw [hR, if_neg (fun h => gl' h.2.1)]) rfl
          · rw [if_neg he] at hcase
            obtain ⟨rfl, rfl⟩ := hcase
            conv => whnf
            exact readPanic (by rw [hR, if_neg (fun h => he h.1)]) rfl
        · have g7' : ¬ p = 7 := of_decide_eq_false g7
          rw [if_neg g7'] at hR
          conv => whnf
          refine useFo (must_fn F (decide (q2 = (s.length : Int)))) rfl ⟨rfl, trivial⟩ rfl ?_
          rintro _ _ l2 ⟨rfl, ⟨hb3, rfl⟩ | ⟨hb3, rfl⟩⟩
          · conv => whnf
            exact readRet (by rw [hR, if_pos (of_decide_eq_true hb3)]) rfl rfl
          · conv => whnf
            exact readPanic (by rw [hR, if_neg (of_decide_eq_false hb3)]) rfl
      · rw [if_neg hn2] at hcase
        obtain ⟨rfl, rfl⟩ := hcase
        conv => whnf
        exact readPanic (by rw [hR, if_neg (fun h => hn2 h.2)]) rfl
    · rw [if_neg hn] at hcase
      obtain ⟨rfl, rfl⟩ := hcase
      conv => whnf
      exact readPanic (by rw [hR, if_neg (fun h => hn h.1)]) rfl
  · exfalso; have : ¬ (1 ≤ p ∧ p ≤ 8) := fun h => by simp [h] at hb
    omega
/-- read, whatever it is given. -/
theorem read_fn (hCF : CFun) (hT : TFun) (F : Fz) (s : List UInt8) (p : Int) (hs : s.length ≤ 1000000000000000000) : Ct Tryz.prog 52 [.va (.int .i64 p), .va (.str s)] F [] 1 (readK F p s) := by
  by_cases hp : 1 ≤ p ∧ p ≤ 8
  · by_cases hne : s = []
    · subst hne; exact readEmpty_fn F p hp
    · by_cases h8 : p = 8
      · subst h8; exact readCount_fn F s hs hne
      · by_cases h6 : 6 ≤ p
        · exact readRaster_fn hT F s p (by omega) hs hne
        · exact readLines_fn hCF F s p hs (by omega) hne
  · exact readBad_fn F s p hp
end Go.Proofs.YtblllibdahkgfaaGreatDoor
