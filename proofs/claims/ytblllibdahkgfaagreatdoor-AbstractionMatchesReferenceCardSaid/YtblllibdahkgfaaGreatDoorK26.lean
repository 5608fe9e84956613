import Derived.Test.YtblllibdahkgfaaGreatDoorK25

namespace Go.Proofs.YtblllibdahkgfaaGreatDoor
open Go Sx

/-! Values, in plain Lean: which there are; what the steps make of them. -/
def numsOk (p : Int) : List Int → List Int → Prop
  | _, [] => True
  | acc, x :: r => ((bnd p acc).1 ≤ x ∧ x ≤ (bnd p acc).2) ∧ numsOk p (acc ++ [x]) r
def lnOk (p : Int) (before : List Ln) (x : Ln) : Prop :=
  if p = 1 then x.2 = [] ∧ x.1.length ≤ 80 ∧ x.1.any badC = false
  else x.1 = [] ∧ x.2.length = cols p ∧ numsOk p [] x.2 ∧ (p ≠ 2 → ∀ y, before.getLast? = some y → cmpL (y.2.take 2) (x.2.take 2) < 0)
def lnsOk (p : Int) : List Ln → List Ln → Prop
  | _, [] => True
  | acc, x :: r => lnOk p acc x ∧ lnsOk p (acc ++ [x]) r
/-- The values of a property. -/
def VOK (p : Int) (v : Val) : Prop :=
  v = loseV ∨ (v.lost = false ∧
    if p = 8 then v.lines = [] ∧ v.bits = [] ∧ (0 ≤ v.w ∧ v.w ≤ 64) ∧ (0 ≤ v.h ∧ v.h ≤ 64)
    else if 6 ≤ p then v.lines = [] ∧ (0 ≤ v.w ∧ v.w ≤ 32) ∧ (min v.w 1 ≤ v.h ∧ v.h ≤ min v.w 1 * 32) ∧ (if p = 7 then (v.bits.length : Int) = v.w * v.h ∧ v.bits.all (fun b => b == 48 || b == 49) = true else v.bits = [])
    else v.w = 0 ∧ v.h = 0 ∧ v.bits = [] ∧ v.lines.length ≤ 64 ∧ lnsOk p [] v.lines)

theorem numOkR_iff {s : List UInt8} {q lo hi : Int} : numOkR s q lo hi = true ↔ (getI s q).2.2 = 0 ∧ lo ≤ (getI s q).1 ∧ (getI s q).1 ≤ hi := by
  unfold numOkR; simp
theorem numsS_okV {s : List UInt8} {p : Int} : ∀ (f : Nat) (acc : List Int) (q : Int) (n : List Int) (q' : Int), numsS s p f acc q = some (n, q') → ∃ m, n = acc ++ m ∧ m.length = f ∧ numsOk p acc m
  | 0, acc, q, n, q', h => by
    simp only [numsS, Option.some.injEq, Prod.mk.injEq] at h
    exact ⟨[], by simp [h.1], rfl, trivial⟩
  | f + 1, acc, q, n, q', h => by
    rw [numsS] at h
    split at h
    · rename_i hn
      obtain ⟨m, h1, h2, h3⟩ := numsS_okV f _ _ _ _ h
      exact ⟨(getI s q).1 :: m, by rw [h1]; simp, by rw [List.length_cons, h2], (numOkR_iff.1 hn).2, h3⟩
    · cases h
theorem lineS_okV {s : List UInt8} {p : Int} {acc : List Ln} {q q' : Int} {x : Ln} (h : lineS s p acc q = some (x, q')) : lnOk p acc x := by
  unfold lineS at h
  unfold lnOk
  split at h
  · rename_i hp
    rw [if_pos hp]
    split at h
    · rename_i hc
      simp only [Option.some.injEq, Prod.mk.injEq] at h
      obtain ⟨rfl, _⟩ := h
      exact ⟨rfl, hc.2.1, hc.2.2⟩
    · cases h
  · rename_i hp
    rw [if_neg hp]
    split at h
    · cases h
    · rename_i n q2 hn
      obtain ⟨m, h1, h2, h3⟩ := numsS_okV _ _ _ _ _ hn
      rw [List.nil_append] at h1
      subst h1
      split at h
      · rename_i hp2
        simp only [Option.some.injEq, Prod.mk.injEq] at h
        obtain ⟨rfl, _⟩ := h
        exact ⟨rfl, h2, h3, fun hc => absurd hp2 hc⟩
      · split at h
        · rename_i hl
          simp only [Option.some.injEq, Prod.mk.injEq] at h
          obtain ⟨rfl, _⟩ := h
          exact ⟨rfl, h2, h3, fun _ y hy => by rw [hl] at hy; cases hy⟩
        · rename_i x hl
          split at h
          · rename_i hc
            simp only [Option.some.injEq, Prod.mk.injEq] at h
            obtain ⟨rfl, _⟩ := h
            exact ⟨rfl, h2, h3, fun _ y hy => by rw [hl] at hy; cases hy; exact hc⟩
          · cases h
theorem linesS_okV {s : List UInt8} {p : Int} : ∀ (f : Nat) (acc : List Ln) (q : Int) (l : List Ln) (q' : Int), linesS s p f acc q = some (l, q') → ∃ m, l = acc ++ m ∧ m.length = f ∧ lnsOk p acc m
  | 0, acc, q, n, q', h => by
    simp only [linesS, Option.some.injEq, Prod.mk.injEq] at h
    exact ⟨[], by simp [h.1], rfl, trivial⟩
  | f + 1, acc, q, n, q', h => by
    rw [linesS] at h
    split at h
    · cases h
    · rename_i x q2 hx
      obtain ⟨m, h1, h2, h3⟩ := linesS_okV f _ _ _ _ h
      exact ⟨x :: m, by rw [h1]; simp, by rw [List.length_cons, h2], lineS_okV hx, h3⟩
/-- What is read is a value. -/
theorem readS_ok {p : Int} {s : List UInt8} {v : Val} (h : readS p s = some v) : (1 ≤ p ∧ p ≤ 8) ∧ VOK p v := by
  unfold readS at h
  split at h
  · cases h
  rename_i hp
  have hp : 1 ≤ p ∧ p ≤ 8 := by simpa using hp
  refine ⟨hp, ?_⟩
  split at h
  · cases h; exact .inl rfl
  right
  split at h
  · rename_i h8
    split at h
    · rename_i hc
      cases h
      refine ⟨rfl, ?_⟩
      rw [if_pos h8]
      exact ⟨rfl, rfl, (numOkR_iff.1 hc.1).2, (numOkR_iff.1 hc.2.1).2⟩
    · cases h
  rename_i h8
  split at h
  · rename_i h6
    dsimp only at h
    split at h
    · rename_i hc
      split at h
      · rename_i h7
        split at h
        · rename_i hb
          cases h
          refine ⟨rfl, ?_⟩
          rw [if_neg h8, if_pos h6]
          refine ⟨rfl, (numOkR_iff.1 hc.1).2, (numOkR_iff.1 hc.2).2, ?_⟩
          rw [if_pos h7]
          exact ⟨hb.2.1, hb.2.2.1⟩
        · cases h
      · rename_i h7
        split at h
        · cases h
          refine ⟨rfl, ?_⟩
          rw [if_neg h8, if_pos h6]
          refine ⟨rfl, (numOkR_iff.1 hc.1).2, (numOkR_iff.1 hc.2).2, ?_⟩
          rw [if_neg h7]
        · cases h
    · cases h
  · rename_i h6
    split at h
    · rename_i hc
      split at h
      · cases h
      · rename_i l q hl
        split at h
        · cases h
          refine ⟨rfl, ?_⟩
          rw [if_neg h8, if_neg h6]
          obtain ⟨m, h1, h2, h3⟩ := linesS_okV _ _ _ _ _ hl
          rw [List.nil_append] at h1
          subst h1
          have hr := (numOkR_iff.1 hc).2
          exact ⟨rfl, rfl, rfl, by rw [h2]; omega, h3⟩
        · cases h
    · cases h
end Go.Proofs.YtblllibdahkgfaaGreatDoor

namespace Go.Proofs.YtblllibdahkgfaaGreatDoor
open Go Sx
set_option maxRecDepth 100000

/-! What each step does to a value in memory. -/
theorem stepOk_cases {p k n : Int} (hp : 1 ≤ p ∧ p ≤ 8) (h : stepOk p (k, n) = true) :
    (k = 1 ∧ p = 1 ∧ n = 0) ∨ (k = 2 ∧ p = 1 ∧ n = 0) ∨ (k = 3 ∧ (p = 3 ∨ p = 5) ∧ (n = 10 ∨ n = 100 ∨ n = 1000)) ∨ (k = 4 ∧ p = 2 ∧ (0 ≤ n ∧ n ≤ 6)) ∨ (k = 5 ∧ (p = 6 ∨ p = 7) ∧ n = 0) ∨ (k = 6 ∧ n = 0) := by
  have hk : 1 ≤ k ∧ k ≤ 6 := by
    unfold stepOk at h
    simp only [Bool.and_eq_true, decide_eq_true_eq] at h
    exact h.1
  have hkc : k = 1 ∨ k = 2 ∨ k = 3 ∨ k = 4 ∨ k = 5 ∨ k = 6 := by omega
  have hpc : p = 1 ∨ p = 2 ∨ p = 3 ∨ p = 4 ∨ p = 5 ∨ p = 6 ∨ p = 7 ∨ p = 8 := by omega
  rcases hkc with rfl | rfl | rfl | rfl | rfl | rfl <;> rcases hpc with rfl | rfl | rfl | rfl | rfl | rfl | rfl | rfl <;> simp [stepOk, props, numOk, idx] at h ⊢ <;> omega

def foldL (x : Ln) : Ln := (Lib.toLowerA x.1, x.2)
def spaceL (x : Ln) : Ln := (spS x.1.length x.1, x.2)
def roundL (n : Int) (x : Ln) : Ln := (x.1, rndN n x.2)
def limL (n : Int) (x : Ln) : Ln := (x.1, limN n x.2)
def halV (v : Val) : Val := ⟨false, [], (v.w + 1) / 2, (v.h + 1) / 2, if v.bits = [] then [] else halB v.w.toNat 0 v.bits (List.replicate ((v.w.toNat + 1) / 2 * ((v.h.toNat + 1) / 2)) 48)⟩
/-- What a step makes of a value. -/
def stepS (s : Stp) (v : Val) : Val :=
  if s.1 = 1 then { v with lines := v.lines.map foldL } else if s.1 = 2 then { v with lines := v.lines.map spaceL } else if s.1 = 3 then { v with lines := v.lines.map (roundL s.2) }
  else if s.1 = 4 then { v with lines := v.lines.map (limL s.2) } else if s.1 = 5 then halV v else loseV

theorem lnsOk_mem {p : Int} : ∀ {acc l : List Ln}, lnsOk p acc l → ∀ x ∈ l, ∃ b, lnOk p b x
  | _, [], _, x, hx => absurd hx (by simp)
  | acc, y :: r, h, x, hx => by
    rcases List.mem_cons.1 hx with rfl | hx
    · exact ⟨acc, h.1⟩
    · exact lnsOk_mem h.2 x hx
theorem VOK_lines {p : Int} {v : Val} (h : VOK p v) (hl : v.lost = false) (hp : p ≤ 5) : v.w = 0 ∧ v.h = 0 ∧ v.bits = [] ∧ v.lines.length ≤ 64 ∧ lnsOk p [] v.lines := by
  rcases h with rfl | ⟨_, h⟩
  · cases hl
  · rw [if_neg (by omega), if_neg (by omega)] at h; exact h
theorem VOK_raster {p : Int} {v : Val} (h : VOK p v) (hl : v.lost = false) (hp : p = 6 ∨ p = 7) : v.lines = [] ∧ (0 ≤ v.w ∧ v.w ≤ 32) ∧ (min v.w 1 ≤ v.h ∧ v.h ≤ min v.w 1 * 32) ∧ (if p = 7 then (v.bits.length : Int) = v.w * v.h ∧ v.bits.all (fun b => b == 48 || b == 49) = true else v.bits = []) := by
  rcases h with rfl | ⟨_, h⟩
  · cases hl
  · rw [if_neg (by omega), if_pos (by omega)] at h; exact h
theorem badC_ok {s : List UInt8} (h : s.any badC = false) : ∀ b ∈ s, 32 ≤ b.toNat ∧ b.toNat ≤ 126 := by
  intro b hb
  have h1 := List.any_eq_false.1 h b hb
  simpa [badC] using h1

set_option maxHeartbeats 4000000 in
theorem each0_fn (F : Fz) (g b : Nat) (w h : Int) (bits : List UInt8) (lost : Bool) (a : Int) (c : Nat) (caps : Nat → Nat) (hb : F b = some (eF g)) :
    Ct Tryz.prog 93 [.va (.ptr ⟨1, 0, 0, 0, 0⟩), .va (.int .i64 a), .va (.ptr (fp b))] F (valM ⟨lost, [], w, h, bits⟩ c caps) 4 (stepV F ⟨lost, [], w, h, bits⟩) := by
  refine ct_of hΘ Tryz.func93 rfl (by decide) _ _ rfl rfl rfl ?_
  conv => whnf
  refine rounds hΘ 1 ?_
  conv => whnf
  refine br (fun g => absurd g (by decide)) (fun _ => ?_)
  conv => whnf
  refine clean [] (.ret (.tup [])) F (valM ⟨lost, [], w, h, bits⟩ c caps) 4 ⟨Fz.le_refl F, rfl, rfl, rfl, c, caps, rfl⟩ (outE_refl _) rfl rfl (by simp [Out.below, SV.below]) (valM_bH _ _ _) ⟨Fz.le_refl F, rfl, trivial⟩
theorem each_all (F : Fz) (g b : Nat) (f : Ln → Ln) (w h : Int) (bits : List UInt8) (lost : Bool) (L : List Ln) (a : Int) (c : Nat) (caps : Nat → Nat) (hb : F b = some (eF g)) (hl : L.length ≤ 1000000) (hG : ∀ x ∈ L, StepOn g F c caps a f x) :
    Ct Tryz.prog 93 [.va (.ptr ⟨1, 0, 0, 0, 0⟩), .va (.int .i64 a), .va (.ptr (fp b))] F (valM ⟨lost, L, w, h, bits⟩ c caps) 4 (stepV F ⟨lost, L.map f, w, h, bits⟩) := by
  by_cases hne : L = []
  · subst hne; exact each0_fn F g b w h bits lost a c caps hb
  · exact each1_fn F g b f w h bits lost L a c caps hb hne hl hG

/-- The function of a kind of steps, and what it has captured. -/
def doG (k : Int) : Nat := if k = 5 then 71 else if k = 6 then 72 else 93
def doC (b : Nat → Nat) (k : Int) : List Pl := if k = 1 then [fp (b 6)] else if k = 2 then [fp (b 7)] else if k = 3 then [fp (b 8)] else if k = 4 then [fp (b 9)] else []

theorem do_fn (F : Fz) (b : Nat → Nat) (hK : KindsAt F b) (hM : MLF F) (p k n : Int) (v : Val) (hp : 1 ≤ p ∧ p ≤ 8) (hok : stepOk p (k, n) = true) (hv : VOK p v) (hnl : v.lost = false) (c : Nat) (caps : Nat → Nat) :
    Ct Tryz.prog (doG k) ([.va (.ptr ⟨1, 0, 0, 0, 0⟩), .va (.int .i64 n)] ++ (doC b k).map fun p => SV.va (.ptr p)) F (valM v c caps) 4 (stepV F (stepS (k, n) v)) := by
  have hpc := stepOk_cases hp hok
  obtain ⟨lost, L, w, h, bits⟩ := v
  replace hnl : lost = false := hnl
  subst hnl
  rcases hpc with ⟨rfl, rfl, rfl⟩ | ⟨rfl, rfl, rfl⟩ | ⟨rfl, hp, hn⟩ | ⟨rfl, rfl, hn⟩ | ⟨rfl, hp, rfl⟩ | ⟨rfl, rfl⟩
  · obtain ⟨_, _, _, hl, ho⟩ := VOK_lines hv rfl (by omega)
    replace hl : L.length ≤ 64 := hl
    refine each_all F 65 (b 6) foldL w h bits false L 0 c caps hK.h6 (by omega) fun x hx L' i hi => ?_
    obtain ⟨bf, hx'⟩ := lnsOk_mem ho x hx
    rw [lnOk, if_pos rfl] at hx'
    obtain ⟨t, m⟩ := x
    exact fold_fn lfun F L' i c caps t m 0 hi (by have h9 : t.length ≤ 80 := hx'.2.1; omega) (fun b hb => by have := badC_ok hx'.2.2 b hb; omega)
  · obtain ⟨_, _, _, hl, ho⟩ := VOK_lines hv rfl (by omega)
    replace hl : L.length ≤ 64 := hl
    refine each_all F 66 (b 7) spaceL w h bits false L 0 c caps hK.h7 (by omega) fun x hx L' i hi => ?_
    obtain ⟨bf, hx'⟩ := lnsOk_mem ho x hx
    rw [lnOk, if_pos rfl] at hx'
    obtain ⟨t, m⟩ := x
    exact spaces_fn dfun afun F hM L' i c caps t m 0 hi (by have h9 : t.length ≤ 80 := hx'.2.1; omega)
  · obtain ⟨_, _, _, hl, ho⟩ := VOK_lines hv rfl (by omega)
    replace hl : L.length ≤ 64 := hl
    refine each_all F 68 (b 8) (roundL n) w h bits false L n c caps hK.h8 (by omega) fun x hx L' i hi => ?_
    obtain ⟨bf, hx'⟩ := lnsOk_mem ho x hx
    rw [lnOk, if_neg (by omega)] at hx'
    obtain ⟨t, m⟩ := x
    obtain ⟨_, h2, h3, _⟩ := hx'
    have h2' : m.length = 3 := by
      rw [show cols p = 3 by rcases hp with rfl | rfl <;> rfl] at h2; exact h2
    match m, h2', h3, hi with
    | [x, y, z], _, h3, hi =>
      have hz : -1000000000000 ≤ z ∧ z ≤ 1000000000000 := by
        have h4 := h3.2.2.1
        rcases hp with rfl | rfl
        · have e : bnd 3 (([] ++ [x]) ++ [y]) = (-1000000, 1000000) := rfl
          rw [e] at h4; dsimp only at h4; omega
        · have e : bnd 5 (([] ++ [x]) ++ [y]) = (-1000000000000, 1000000000000) := rfl
          rw [e] at h4; exact h4
      exact round_fn F L' i c caps t x y z n [] hi (by omega) (by omega) (by omega) (by omega)
  · obtain ⟨_, _, _, hl, ho⟩ := VOK_lines hv rfl (by omega)
    replace hl : L.length ≤ 64 := hl
    refine each_all F 70 (b 9) (limL n) w h bits false L n c caps hK.h9 (by omega) fun x hx L' i hi => ?_
    obtain ⟨bf, hx'⟩ := lnsOk_mem ho x hx
    rw [lnOk, if_neg (by omega)] at hx'
    obtain ⟨t, m⟩ := x
    obtain ⟨_, h2, h3, _⟩ := hx'
    match m, (h2 : m.length = 1), hi with
    | [x], _, hi => exact limit_fn F L' i c caps t x n [] hi
  · obtain ⟨hL, hw, hh, hb⟩ := VOK_raster hv rfl hp
    replace hL : L = [] := hL
    subst hL
    replace hw : 0 ≤ w ∧ w ≤ 32 := hw
    replace hh : min w 1 ≤ h ∧ h ≤ min w 1 * 32 := hh
    by_cases hbn : bits = []
    · subst hbn
      exact halveNone_fn F w h 0 c caps (by omega) (by omega)
    · have h7 : p = 7 := by
        rcases hp with rfl | rfl
        · exact absurd hb hbn
        · rfl
      rw [if_pos h7] at hb
      replace hb : (bits.length : Int) = w * h ∧ _ := hb
      rcases bits with _ | ⟨b0, br⟩
      · exact absurd rfl hbn
      have hpos : 0 < w ∧ 0 < h := by
        have hl0 : (0 : Int) < w * h := by rw [← hb.1]; simp only [List.length_cons]; omega
        have h0 : 0 ≤ h := by omega
        by_cases hw0 : w = 0
        · rw [hw0, Int.zero_mul] at hl0; omega
        · by_cases hh0 : h = 0
          · rw [hh0, Int.mul_zero] at hl0; omega
          · omega
      obtain ⟨W, rfl⟩ : ∃ W : Nat, w = W := ⟨w.toNat, by omega⟩
      obtain ⟨H, rfl⟩ : ∃ H : Nat, h = H := ⟨h.toNat, by omega⟩
      have := halveBits_fn nfun F W H b0 br 0 c caps (by omega) (by omega) (by have := hb.1; rw [← Int.natCast_mul] at this; omega)
      exact this
  · exact lose_fn F ⟨false, L, w, h, bits⟩ 0 c caps
end Go.Proofs.YtblllibdahkgfaaGreatDoor

namespace Go.Proofs.YtblllibdahkgfaaGreatDoor
open Go Sx

/-! A step makes a value of a value. -/
theorem getLast?_map' {α β : Type} (f : α → β) (l : List α) : (l.map f).getLast? = l.getLast?.map f := by
  simp
theorem lnsOk_map {p : Int} {f : Ln → Ln} (hf : ∀ acc x, lnOk p acc x → lnOk p (acc.map f) (f x)) : ∀ (l acc : List Ln), lnsOk p acc l → lnsOk p (acc.map f) (l.map f)
  | [], _, _ => trivial
  | x :: r, acc, h => by
    refine ⟨hf _ _ h.1, ?_⟩
    have := lnsOk_map hf r (acc ++ [x]) h.2
    rw [List.map_append] at this
    exact this
theorem low_ok : ∀ b : UInt8, badC b = false → badC (Lib.lowerB b) = false := by
  intro b
  have : ∀ n : Fin 256, badC (UInt8.ofNat n.1) = false → badC (Lib.lowerB (UInt8.ofNat n.1)) = false := by decide +kernel
  have h := this ⟨b.toNat, b.toNat_lt⟩
  simpa using h
theorem any_map_low {s : List UInt8} (h : s.any badC = false) : (Lib.toLowerA s).any badC = false := by
  refine List.any_eq_false.2 fun b hb => ?_
  obtain ⟨a, ha, rfl⟩ := List.mem_map.1 hb
  rw [low_ok a (by simpa using List.any_eq_false.1 h a ha)]
  simp
theorem repD_mem : ∀ {s : List UInt8} {b : UInt8}, b ∈ repD s → b ∈ s
  | [], _, h => h
  | [a], _, h => h
  | a :: c :: r, b, h => by
    rw [repD] at h
    split at h
    · rename_i hc
      simp only [Bool.and_eq_true, beq_iff_eq] at hc
      rcases List.mem_cons.1 h with rfl | h
      · rw [hc.1]; simp
      · exact List.mem_cons_of_mem _ (List.mem_cons_of_mem _ (repD_mem h))
    · rcases List.mem_cons.1 h with rfl | h
      · simp
      · exact List.mem_cons_of_mem _ (repD_mem h)
theorem spS_mem : ∀ {f : Nat} {s : List UInt8} {b : UInt8}, b ∈ spS f s → b ∈ s
  | 0, _, _, h => h
  | f + 1, s, b, h => by
    rw [spS] at h
    split at h
    · exact repD_mem (spS_mem h)
    · exact h
theorem spS_le : ∀ (f : Nat) (s : List UInt8), (spS f s).length ≤ s.length
  | 0, _ => Nat.le_refl _
  | f + 1, s => by
    rw [spS]; split
    · exact Nat.le_trans (spS_le f _) (repD_le s)
    · exact Nat.le_refl _
theorem fold_ok {p : Int} (hp : p = 1) (acc : List Ln) (x : Ln) (h : lnOk p acc x) : lnOk p (acc.map foldL) (foldL x) := by
  unfold lnOk at *
  rw [if_pos hp] at *
  exact ⟨h.1, by show (Lib.toLowerA x.1).length ≤ 80; unfold Lib.toLowerA; rw [List.length_map]; exact h.2.1, any_map_low h.2.2⟩
theorem space_ok {p : Int} (hp : p = 1) (acc : List Ln) (x : Ln) (h : lnOk p acc x) : lnOk p (acc.map spaceL) (spaceL x) := by
  unfold lnOk at *
  rw [if_pos hp] at *
  refine ⟨h.1, Nat.le_trans (spS_le _ _) h.2.1, List.any_eq_false.2 fun b hb => ?_⟩
  exact List.any_eq_false.1 h.2.2 b (spS_mem hb)
theorem rnd_take (n : Int) : ∀ l : List Int, (rndN n l).take 2 = l.take 2
  | [] => rfl
  | [_] => rfl
  | [_, _] => rfl
  | _ :: _ :: _ :: _ => rfl
theorem emod_le' {z n : Int} (hn : 0 < n) (hz : 0 ≤ z) : z % n ≤ z := by
  have h1 := Int.emod_add_mul_ediv z n
  have h2 : 0 ≤ n * (z / n) := Int.mul_nonneg (by omega) (Int.ediv_nonneg hz (by omega))
  omega
theorem rnd_bnd {z n : Int} (hn : 0 < n) {b : Int} (h : -b ≤ z ∧ z ≤ b) : -b ≤ z - z.tmod n ∧ z - z.tmod n ≤ b := by
  by_cases hz : 0 ≤ z
  · have h1 : 0 ≤ z.tmod n := Int.tmod_nonneg _ hz
    have h2 : z.tmod n ≤ z := by rw [Int.tmod_eq_emod_of_nonneg hz]; exact emod_le' hn hz
    omega
  · have e : z.tmod n = -((-z).tmod n) := by rw [Int.neg_tmod]; omega
    have h1 : 0 ≤ (-z).tmod n := Int.tmod_nonneg _ (by omega)
    have h2 : (-z).tmod n ≤ -z := by rw [Int.tmod_eq_emod_of_nonneg (by omega)]; exact emod_le' hn (by omega)
    omega
theorem three {α : Type} {l : List α} (h : l.length = 3) : ∃ a b c, l = [a, b, c] := by
  match l, h with
  | [a, b, c], _ => exact ⟨a, b, c, rfl⟩
theorem round_ok {p n : Int} (hp : p = 3 ∨ p = 5) (hn : 0 < n) (acc : List Ln) (x : Ln) (h : lnOk p acc x) : lnOk p (acc.map (roundL n)) (roundL n x) := by
  unfold lnOk at *
  rw [if_neg (by omega)] at *
  obtain ⟨h1, h2, h3, h4⟩ := h
  have h2' : x.2.length = 3 := by rw [h2]; rcases hp with rfl | rfl <;> rfl
  obtain ⟨t, m⟩ := x
  obtain ⟨a, b, z, rfl⟩ := three h2'
  refine ⟨h1, h2, ⟨h3.1, h3.2.1, ?_, trivial⟩, fun h y hy => ?_⟩
  · have h5 := h3.2.2.1
    rcases hp with rfl | rfl
    · exact rnd_bnd hn h5
    · exact rnd_bnd hn h5
  · rw [getLast?_map'] at hy
    cases hl : acc.getLast? with
    | none => rw [hl] at hy; cases hy
    | some y0 =>
      rw [hl] at hy
      cases hy
      have := h4 h y0 hl
      show cmpL ((rndN n y0.2).take 2) ((rndN n [a, b, z]).take 2) < 0
      rw [rnd_take, rnd_take]; exact this
theorem limit_ok {p n : Int} (hp : p = 2) (acc : List Ln) (x : Ln) (h : lnOk p acc x) : lnOk p (acc.map (limL n)) (limL n x) := by
  subst hp
  unfold lnOk at *
  rw [if_neg (by omega)] at *
  obtain ⟨h1, h2, h3, h4⟩ := h
  obtain ⟨t, m⟩ := x
  match m, (h2 : m.length = 1), h3 with
  | [a], _, h3 =>
    refine ⟨h1, rfl, ⟨?_, trivial⟩, fun h => absurd rfl h⟩
    have h5 := h3.1
    have e : bnd 2 [] = (0, 7) := rfl
    rw [e] at h5 ⊢
    dsimp only at h5 ⊢
    split <;> omega
theorem halB_all (w : Nat) : ∀ (l : List UInt8) (k : Nat) (o : List UInt8), o.all (fun b => b == 48 || b == 49) = true → (halB w k l o).all (fun b => b == 48 || b == 49) = true
  | [], _, _, h => h
  | b :: r, k, o, h => by
    rw [halB]
    refine halB_all w r (k + 1) _ ?_
    split
    · refine List.all_eq_true.2 fun x hx => ?_
      rcases List.mem_or_eq_of_mem_set hx with hx | rfl
      · exact List.all_eq_true.1 h x hx
      · rfl
    · exact h
theorem half_ok {p : Int} {v : Val} (hp : p = 6 ∨ p = 7) (hv : VOK p v) (hl : v.lost = false) : VOK p (halV v) := by
  obtain ⟨hL, hw, hh, hb⟩ := VOK_raster hv hl hp
  right
  refine ⟨rfl, ?_⟩
  rw [if_neg (by omega), if_pos (by omega)]
  refine ⟨rfl, ⟨by show 0 ≤ (v.w + 1) / 2; omega, by show (v.w + 1) / 2 ≤ 32; omega⟩, ⟨by show min ((v.w + 1) / 2) 1 ≤ (v.h + 1) / 2; omega, by show (v.h + 1) / 2 ≤ min ((v.w + 1) / 2) 1 * 32; omega⟩, ?_⟩
  rcases hp with h6 | h7
  · rw [if_neg (by omega)] at hb ⊢
    show (if v.bits = [] then [] else _) = []
    rw [if_pos hb]
  · rw [if_pos h7] at hb ⊢
    show (((if v.bits = [] then ([] : List UInt8) else halB v.w.toNat 0 v.bits (List.replicate ((v.w.toNat + 1) / 2 * ((v.h.toNat + 1) / 2)) 48)).length : Nat) : Int) = (v.w + 1) / 2 * ((v.h + 1) / 2) ∧ (if v.bits = [] then ([] : List UInt8) else halB v.w.toNat 0 v.bits (List.replicate ((v.w.toNat + 1) / 2 * ((v.h.toNat + 1) / 2)) 48)).all (fun b => b == 48 || b == 49) = true
    split
    · rename_i hn
      have hz := hb.1
      rw [hn] at hz
      have hz' : v.w * v.h = 0 := hz.symm
      have hw0 : v.w = 0 := by
        rcases Int.mul_eq_zero.1 hz' with h | h
        · exact h
        · omega
      have e1 : (v.w + 1) / 2 = 0 := by omega
      rw [e1]; simp
    · refine ⟨?_, halB_all _ _ _ _ (by simp)⟩
      rw [halB_len, List.length_replicate]
      have e1 : (((v.w.toNat + 1) / 2 : Nat) : Int) = (v.w + 1) / 2 := by omega
      have e2 : (((v.h.toNat + 1) / 2 : Nat) : Int) = (v.h + 1) / 2 := by omega
      rw [Int.natCast_mul, e1, e2]

theorem VOK_step {p : Int} {s : Stp} {v : Val} (hp : 1 ≤ p ∧ p ≤ 8) (hok : stepOk p s = true) (hv : VOK p v) (hl : v.lost = false) : VOK p (stepS s v) := by
  obtain ⟨k, n⟩ := s
  have lines : ∀ f : Ln → Ln, p ≤ 5 → (∀ acc x, lnOk p acc x → lnOk p (acc.map f) (f x)) → VOK p { v with lines := v.lines.map f } := fun f h5 hf => by
    obtain ⟨h1, h2, h3, h4, h6⟩ := VOK_lines hv hl h5
    right
    refine ⟨hl, ?_⟩
    rw [if_neg (by omega), if_neg (by omega)]
    exact ⟨h1, h2, h3, by show (v.lines.map f).length ≤ 64; rw [List.length_map]; exact h4, lnsOk_map hf v.lines [] h6⟩
  rcases stepOk_cases hp hok with ⟨rfl, h, rfl⟩ | ⟨rfl, h, rfl⟩ | ⟨rfl, h, hn⟩ | ⟨rfl, h, hn⟩ | ⟨rfl, h, rfl⟩ | ⟨rfl, rfl⟩
  · exact lines _ (by omega) (fold_ok h)
  · exact lines _ (by omega) (space_ok h)
  · exact lines _ (by omega) (round_ok h (by omega))
  · exact lines _ (by omega) (limit_ok h)
  · exact half_ok h hv hl
  · exact .inl rfl
/-- What steps make of a value. -/
def runS (l : List Stp) (v : Val) : Val := l.foldl (fun v s => if v.lost = true then v else stepS s v) v
theorem VOK_run {p : Int} (hp : 1 ≤ p ∧ p ≤ 8) : ∀ (l : List Stp) (v : Val), (∀ s ∈ l, stepOk p s = true) → VOK p v → VOK p (runS l v)
  | [], _, _, h => h
  | s :: r, v, hok, h => by
    refine VOK_run hp r _ (fun x hx => hok x (by simp [hx])) ?_
    show VOK p (if v.lost = true then v else stepS s v)
    split
    · exact h
    · rename_i hl; exact VOK_step hp (hok s (by simp)) h (by simpa using hl)
theorem fits_of {p : Int} {v : Val} (hp : 1 ≤ p ∧ p ≤ 8) (hv : VOK p v) : Fits v := by
  rcases hv with rfl | ⟨hl, hv⟩
  · exact ⟨by show 0 ≤ 1000; omega, fun x hx => absurd hx (by simp [loseV]), by show 0 ≤ 70000; omega⟩
  · split at hv
    · exact ⟨by rw [hv.1]; simp, fun x hx => by rw [hv.1] at hx; simp at hx, by rw [hv.2.1]; simp⟩
    · split at hv
      · refine ⟨by rw [hv.1]; simp, fun x hx => by rw [hv.1] at hx; simp at hx, ?_⟩
        have h4 := hv.2.2.2
        split at h4
        · have h5 : v.w * v.h ≤ 32 * 32 := by
            have : v.w * v.h ≤ 32 * v.h := Int.mul_le_mul_of_nonneg_right hv.2.1.2 (by omega)
            omega
          omega
        · rw [h4]; simp
      · refine ⟨by omega, fun x hx => ?_, by rw [hv.2.2.1]; simp⟩
        obtain ⟨b, hb⟩ := lnsOk_mem hv.2.2.2.2 x hx
        unfold lnOk at hb
        split at hb
        · exact ⟨by omega, by rw [hb.1]; simp⟩
        · refine ⟨by rw [hb.1]; simp, ?_⟩
          rw [hb.2.1]; unfold cols; split <;> (try split) <;> (try split) <;> (try split) <;> omega
/-- What Apply computes. -/
def applyS (p : Int) (l : List Stp) (s : List UInt8) : List UInt8 × Int :=
  if validS p l = true then match readS p s with
    | none => ([], 70)
    | some v => (writeS p (runS l v), 0)
  else ([], 70)
end Go.Proofs.YtblllibdahkgfaaGreatDoor

namespace Sx
open Go
/-! A loop's door and a round's end, behind deferred calls. -/
def dB (n : Nat) (d : List (FuncId × List SA)) : Bool := d.all fun x => x.2.all fun a => a.bB n
theorem dB_ok {n : Nat} {d : List (FuncId × List SA)} (h : dB n d = true) : ∀ x ∈ d, ∀ a ∈ x.2, a.below n := fun x hx a ha =>
  SA.bB_ok (List.all_eq_true.1 (List.all_eq_true.1 h x hx) a ha)
theorem leId {T : List (List (Nat × SV))} {upd jl : List (Nat × SV)} {H : Hp} {hup : List (Nat × Ent)} {n0 nt N0 N : Nat} {d : List (FuncId × List SA)} (s : List (Nat × Mv)) (hH : WfH H N0) (hT : WfT T N0)
    (hc : (ckI s upd jl hup n0 nt N0 N && dB N0 d) = true) (wh : bH N hup) (ht : leT s T upd) (hh : leH s H hup) : Le ⟨T, H, N0, n0, nt, d⟩ ⟨upd :: jl :: T, hup :: H, N, n0, nt, d⟩ := by
  simp only [ckI, Bool.and_eq_true] at hc
  obtain ⟨⟨⟨⟨⟨⟨c1, c2⟩, c3⟩, c4⟩, c5⟩, c6⟩, c7⟩ := hc
  exact le_init N s hH hT c4 c3 (dB_ok c7) c1 c2 c6 (bT_of c5) wh ht hh
theorem leRd {T : List (List (Nat × SV))} {top upd jl : List (Nat × SV)} {H : Hp} {htop hup : List (Nat × Ent)} {nx1 n0 nt N0 N : Nat} {d : List (FuncId × List SA)} (s : List (Nat × Mv)) (hH : WfH H N0) (hT : WfT T N0)
    (hc : (ckI s upd jl hup n0 nt N0 N && (top.all fun p => (aget upd p.1).isSome || (aget jl p.1).isSome) && (htop.all fun p => (aget hup p.1).isSome || Nat.ble N0 p.1) && dB N0 d) = true)
    (wh : bH N hup) (ht : leT s (top :: jl :: T) upd) (hh : leH s (htop :: H) hup) : Le ⟨top :: jl :: T, htop :: H, nx1, n0, nt, d⟩ ⟨upd :: jl :: T, hup :: H, N, n0, nt, d⟩ := by
  simp only [ckI, Bool.and_eq_true] at hc
  obtain ⟨⟨⟨⟨⟨⟨⟨⟨c1, c2⟩, c3⟩, c4⟩, c5⟩, c6⟩, c7⟩, c8⟩, c9⟩ := hc
  exact le_round N0 N s hH hT c4 c3 (dB_ok c9) c1 c2 c7 c8 c6 (bT_of c5) wh ht hh
end Sx
namespace Go.Proofs.YtblllibdahkgfaaGreatDoor
open Go Sx
set_option maxRecDepth 100000

/-! A value in memory, in one form for all. -/
def valN (v : Val) (c : Nat) (caps : Nat → Nat) : List (Nat × Ent) := [(1, valE v 2 c), (2, linesE 3 caps c v.lines), (3, famE caps v.lines)]
theorem valN_bH (v : Val) (c : Nat) (caps : Nat → Nat) : bH 4 (valN v c caps) := ⟨valE_below (by omega) _, linesE_below (by omega) _ _ _, famE_below _ _ _, trivial⟩
theorem ren_nil (e : Ent) : e.ren (sig []) = e := by
  have h : ∀ a : SA, a.ren (sig []) = a := fun a => SA.ren_id (.inr fun _ _ => rfl) (fun _ => rfl)
  have hb : ∀ b : SB, b.ren (sig []) = b := fun b => by
    cases b with
    | cells t l => simp [SB.ren, map_id_of fun a _ => h a]
    | arr t sz L room =>
      simp only [SB.ren]; congr 1
      exact map_id_of fun x _ => map_id_of fun a _ => h a
    | obj o => rfl
  cases e <;> simp [Ent.ren, hb]
theorem valE_self (v : Val) (c : Nat) : subE (some (valE v 2 c)) ((valE v 2 c).ren (sig [])) := by
  rw [ren_nil]; exact rfl
theorem sat_MN {C : Ctx} {ρ : Rho} {F : Fz} {v : Val} {c : Nat} {caps : Nat → Nat} {w : World} (S : Sat C ρ [(0, .frz F) :: valM v c caps] 4 w) : Sat C ρ [(0, .frz F) :: valN v c caps] 4 w := by
  obtain ⟨lost, L, w1, h, bits⟩ := v
  cases L with
  | cons x r => exact S
  | nil => exact sat_ren (s := []) S (N0 := 4) (N := 4) rfl S.n0 (Nat.le_refl _) ⟨trivial, valN_bH _ _ _⟩ ⟨Fz.le_refl F, valE_self _ _, rfl, trivial, trivial⟩ (fun i hi => match i, hi with | 0, _ => rfl | 1, _ => rfl | 2, _ => rfl | 3, _ => rfl)
theorem sat_NM {C : Ctx} {ρ : Rho} {F : Fz} {v : Val} {c : Nat} {caps : Nat → Nat} {w : World} (S : Sat C ρ [(0, .frz F) :: valN v c caps] 4 w) : Sat C ρ [(0, .frz F) :: valM v c caps] 4 w := by
  obtain ⟨lost, L, w1, h, bits⟩ := v
  cases L with
  | cons x r => exact S
  | nil => exact sat_ren (s := []) S (N0 := 4) (N := 4) rfl S.n0 (Nat.le_refl _) ⟨trivial, valM_bH _ _ _⟩ ⟨Fz.le_refl F, valE_self _ _, trivial⟩ (fun i hi => match i, hi with | 0, _ => rfl | 1, _ => rfl | 2, _ => rfl | 3, _ => rfl)
def stepN (F : Fz) (v : Val) : Out → Fz → List (Nat × Ent) → Nat → Prop := fun o F0 h0 n0 => F0 = F ∧ n0 = 4 ∧ o = .ret (.tup []) ∧ ∃ c caps, h0 = valN v c caps
theorem ct_norm {f : FuncId} {args : List SV} {F : Fz} {v v' : Val} {c : Nat} {caps : Nat → Nat} (h : Ct Tryz.prog f args F (valM v c caps) 4 (stepV F v')) : Ct Tryz.prog f args F (valN v c caps) 4 (stepN F v') := by
  unfold Ct CallWP at *
  intro C ρ w vs S hr hb
  obtain ⟨he, hc⟩ := h C ρ w vs (sat_NM S) hr hb
  refine ⟨he, hc.mono ?_⟩
  rintro e w' ⟨out, h', nx', ρ', hk, rest⟩
  refine ⟨out, h', nx', ρ', ?_, rest⟩
  unfold Cln at *
  intro C' ρ'' w'' e' hn S' hr' hb'
  obtain ⟨out0, F0, h0, n0, ρ0, ⟨k1, k2, rfl, k4, c', caps', rfl⟩, q1, q2, q3, q4⟩ := hk C' ρ'' w'' e' hn S' hr' hb'
  exact ⟨out0, F0, _, 4, ρ0, ⟨k1, k2, rfl, k4, c', caps', rfl⟩, q1, q2, sat_MN q3, rfl⟩
end Go.Proofs.YtblllibdahkgfaaGreatDoor
