import Derived.Test.YtblllibdahkgfaaGreatDoorK19
import Derived.RangeFuncBox
import Derived.RangeFuncLeaves
import Derived.Shelf.Abstract
import Derived.WalkKit
import Derived.OwnWalkIn
import Derived.TacticsInMore
import Derived.LoopNIn
import Derived.LoopIn
import Derived.Maps.AppendAt

namespace Go.Proofs.YtblllibdahkgfaaGreatDoor
open Go Sx
set_option maxRecDepth 100000
/-- A value's block; its lines lie under the name i. -/
def valE (v : Val) (i c : Nat) : Ent := .one (.cells 96 [.lit v.lost, gA 2 i c v.lines, .int .i64 v.w, .int .i64 v.h, .str v.bits])
def lnE (B : Nat) (caps : Nat → Nat) (c : Nat) : List Ln → Ent
  | [] => .gone
  | x :: r => linesE B caps c (x :: r)
def fmE (caps : Nat → Nat) : List Ln → Ent
  | [] => .gone
  | x :: r => famE caps (x :: r)
theorem lnE_below {n B : Nat} (h : B < n) (caps : Nat → Nat) (c : Nat) (l : List Ln) : (lnE B caps c l).below n := by
  cases l with
  | nil => trivial
  | cons x r => exact linesE_below h _ _ _
theorem fmE_below (n : Nat) (caps : Nat → Nat) (l : List Ln) : (fmE caps l).below n := by
  cases l with
  | nil => trivial
  | cons x r => exact famE_below _ _ _
/-- A value in memory: its block, its lines, their numbers. -/
def valM (v : Val) (c : Nat) (caps : Nat → Nat) : List (Nat × Ent) := [(1, valE v 2 c), (2, lnE 3 caps c v.lines), (3, fmE caps v.lines)]
def stepV (F : Fz) (v : Val) : Out → Fz → List (Nat × Ent) → Nat → Prop := fun o F0 h0 n0 => F0 = F ∧ n0 = 4 ∧ o = .ret (.tup []) ∧ ∃ c caps, h0 = valM v c caps
theorem gA2_below {α : Type} {n i : Nat} (h : i < n) (sz c : Nat) (l : List α) : (gA sz i c l).below n := by
  cases l with
  | nil => trivial
  | cons x r => exact .inr h
theorem valE_below {v : Val} {n i : Nat} (h : i < n) (c : Nat) : (valE v i c).below n := by
  show ∀ a ∈ _, SA.below n a
  intro a ha
  simp only [List.mem_cons, List.not_mem_nil, or_false] at ha
  rcases ha with rfl | rfl | rfl | rfl | rfl
  · trivial
  · exact gA2_below h _ _ _
  · trivial
  · trivial
  · trivial
theorem valM_bH (v : Val) (c : Nat) (caps : Nat → Nat) : bH 4 (valM v c caps) := ⟨valE_below (by omega) _, lnE_below (by omega) _ _ _, fmE_below _ _ _, trivial⟩
def loseV : Val := ⟨true, [], 0, 0, []⟩
set_option maxHeartbeats 4000000 in
theorem lose_fn (F : Fz) (v : Val) (a : Int) (c : Nat) (caps : Nat → Nat) :
    Ct Tryz.prog 72 [.va (.ptr ⟨1, 0, 0, 0, 0⟩), .va (.int .i64 a)] F (valM v c caps) 4 (stepV F loseV) := by
  refine ct_of hΘ Tryz.func72 rfl (by decide) _ _ rfl rfl rfl ?_
  conv => whnf
  refine clean [] (.ret (.tup [])) F (valM loseV 0 (fun _ => 0)) 4 ⟨Fz.le_refl F, rfl, rfl, rfl, 0, fun _ => 0, rfl⟩ (outE_refl _) rfl rfl (by simp [Out.below, SV.below]) (valM_bH _ _ _) ⟨Fz.le_refl F, rfl, trivial⟩
end Go.Proofs.YtblllibdahkgfaaGreatDoor

namespace Go.Proofs.YtblllibdahkgfaaGreatDoor
open Go Sx
set_option maxRecDepth 100000
def upTo (f : Ln → Ln) (L : List Ln) (k : Nat) : List Ln := (L.take k).map f ++ L.drop k
theorem upTo_len (f : Ln → Ln) (L : List Ln) (k : Nat) : (upTo f L k).length = L.length := by
  unfold upTo; simp only [List.length_append, List.length_map, List.length_take, List.length_drop]; omega
theorem upTo_get (f : Ln → Ln) {L : List Ln} {k : Nat} {x : Ln} (h : L[k]? = some x) : (upTo f L k)[k]? = some x := by
  have hk := (List.getElem?_eq_some_iff.1 h).1
  unfold upTo
  rw [List.getElem?_append_right (by simp only [List.length_map, List.length_take]; omega), List.getElem?_drop]
  have : k + (k - ((L.take k).map f).length) = k := by simp only [List.length_map, List.length_take]; omega
  rw [this, h]
theorem upTo_set (f : Ln → Ln) {L : List Ln} {k : Nat} {x : Ln} (h : L[k]? = some x) : (upTo f L k).set k (f x) = upTo f L (k + 1) := by
  obtain ⟨hk, hx⟩ := List.getElem?_eq_some_iff.1 h
  unfold upTo
  rw [List.set_append_right _ _ (by simp only [List.length_map, List.length_take]; omega)]
  have e : k - ((L.take k).map f).length = 0 := by simp only [List.length_map, List.length_take]; omega
  rw [e, List.drop_eq_getElem_cons hk, List.set_cons_zero, List.take_succ_eq_append_getElem hk, List.map_append, hx]
  simp
theorem upTo_all (f : Ln → Ln) (L : List Ln) : upTo f L L.length = L.map f := by
  unfold upTo; simp
theorem linesE_sub2 {τ μ : Mu} {B B1 B' c : Nat} {caps : Nat → Nat} {l l' : List Ln} (hτ : ∀ k, τ B k = (B', k)) (hμ : ∀ k, μ B1 k = (B', k)) (e : l = l') : subE (some ((linesE B caps c l).ren τ)) ((linesE B1 caps c l').ren μ) := by
  subst e
  exact ⟨rfl, congrArg (fun L => SB.arr 120 2 L c) ((lcells_ren (m := l.length) (fun k _ => ⟨hτ k, rfl⟩) 0 l (by omega)).trans (lcells_ren (m := l.length) (fun k _ => ⟨hμ k, rfl⟩) 0 l (by omega)).symm)⟩
theorem famE_sub2 {τ μ : Mu} {caps : Nat → Nat} {l l' : List Ln} (e : l = l') : subE (some ((famE caps l).ren τ)) ((famE caps l').ren μ) := by
  subst e; rw [famE_ren]; exact famE_sub
theorem linesE_sub3 {μ : Mu} {B1 B' c : Nat} {caps : Nat → Nat} {l l' : List Ln} (hμ : ∀ k, μ B1 k = (B', k)) (e : l = l') : subE (some (linesE B' caps c l)) ((linesE B1 caps c l').ren μ) := by
  subst e; exact linesE_subg hμ
theorem famE_sub3 {μ : Mu} {caps : Nat → Nat} {l l' : List Ln} (e : l = l') : subE (some (famE caps l)) ((famE caps l').ren μ) := by
  subst e; exact famE_sub
def StepOn (g : Nat) (F : Fz) (c : Nat) (caps : Nat → Nat) (a : Int) (f : Ln → Ln) (x : Ln) : Prop :=
  ∀ (L : List Ln) (i : Nat), L[i]? = some x → Ct Tryz.prog g [.va (.ptr ⟨1, 0, i, 2, 0⟩), .va (.int .i64 a)] F [(1, linesE 2 caps c L), (2, famE caps L)] 3 (stepK F c caps (L.set i (f x)))
set_option maxHeartbeats 4000000 in
theorem each1_fn (F : Fz) (g b : Nat) (f : Ln → Ln) (w h : Int) (bits : List UInt8) (lost : Bool) (L : List Ln) (a : Int) (c : Nat) (caps : Nat → Nat) (hb : F b = some (eF g)) (hne : L ≠ []) (hl : L.length ≤ 1000000) (hG : ∀ x ∈ L, StepOn g F c caps a f x) :
    Ct Tryz.prog 93 [.va (.ptr ⟨1, 0, 0, 0, 0⟩), .va (.int .i64 a), .va (.ptr (fp b))] F (valM ⟨lost, L, w, h, bits⟩ c caps) 4 (stepV F ⟨lost, L.map f, w, h, bits⟩) := by
  rcases L with _ | ⟨a0, ar⟩
  · exact absurd rfl hne
  have hl' : ar.length + 1 ≤ 1000000 := hl
  refine ct_of hΘ Tryz.func93 rfl (by decide) _ _ rfl rfl rfl ?_
  conv => whnf
  refine loop_at hΘ (X := { x : Nat × Ln × List Ln // x.1 ≤ ar.length + 1 ∧ x.2.1 :: x.2.2 = upTo f (a0 :: ar) x.1 }) (fun x => [(11, .va (.int .i64 x.1.1))]) [5, 12, 13, 14, 15, 16, 17, 18, 19, 20, 21, 22, 23]
    (fun x => [(0, .frz F), (1, valE ⟨lost, a0 :: ar, w, h, bits⟩ 2 c), (2, linesE 3 caps c (x.1.2.1 :: x.1.2.2)), (3, famE caps (x.1.2.1 :: x.1.2.2))]) 4 (fun x => ar.length + 1 - x.1.1) ⟨(0, a0, ar), by simp, by simp [upTo]⟩
    (fun hH hT => leI [] hH hT rfl ⟨trivial, valE_below (by omega) _, linesE_below (by omega) _ _ _, famE_below _ _ _, trivial⟩ ⟨rfl, trivial⟩ ⟨Fz.le_refl F, rfl, linesE_subg (fun k => rfl), famE_sub (μ := sig []) (caps := caps) (l := a0 :: ar), trivial⟩) ?_
  rintro ⟨⟨k, a1, r1⟩, hk, hob⟩ hH hT
  replace hk : k ≤ ar.length + 1 := hk
  replace hob : a1 :: r1 = upTo f (a0 :: ar) k := hob
  conv => whnf
  refine br (fun gb => ?_) (fun gb => ?_)
  · have gk : k < ar.length + 1 := by
      have h0 : (k : Int) < ((ar.length + 1 : Nat) : Int) := of_decide_eq_true gb
      omega
    clear gb
    have hx0 : ∃ x, (a0 :: ar)[k]? = some x := ⟨_, List.getElem?_eq_getElem gk⟩
    obtain ⟨x, hx0⟩ := hx0
    have hxm := List.mem_of_getElem? hx0
    have hx1 : (a1 :: r1)[k]? = some x := by rw [hob]; exact upTo_get f hx0
    have hset : (a1 :: r1).set k (f x) = upTo f (a0 :: ar) (k + 1) := by rw [hob]; exact upTo_set f hx0
    have hx2 : (a1 :: r1)[0 + k]? = some x := by rw [Nat.zero_add]; exact hx1
    have hcall := hG x hxm (a1 :: r1) (0 + k) hx2
    have hnx : ∃ a2 r2, a2 :: r2 = upTo f (a0 :: ar) (k + 1) := by
      have hlen := upTo_len f (a0 :: ar) (k + 1)
      cases hu : upTo f (a0 :: ar) (k + 1) with
      | nil => rw [hu] at hlen; simp at hlen
      | cons a2 r2 => exact ⟨a2, r2, rfl⟩
    obtain ⟨a2, r2, hnx⟩ := hnx
    have heq : (a1 :: r1).set (0 + k) (f x) = a2 :: r2 := by rw [Nat.zero_add, hset, hnx]
    conv => whnf
    refine drawP hΘ mixed (.look 0 (.look 1 (.look 2 (.look 3 (.look 4 (.look 5 (.look 6 (.look 7 (.alt 8 .done .nil))))))))) [0, 1] (by kernel_rfl) ?_
    conv => whnf
    repeat' ((conv => whnf); first
      | refine ⟨rfl, ?_⟩
      | refine ⟨Fz.le_refl _, rfl, ?_⟩
      | refine ⟨Fz.le_refl _, rfl, rfl, ?_⟩
      | refine ⟨⟨by simp, by simp⟩, ?_⟩
      | fail)
    refine ⟨_, hb, ?_⟩
    conv => whnf
    refine ⟨rfl, ?_⟩
    conv => whnf
    refine ⟨rfl, ⟨by simp, by show (k : Int) < ((ar.length + 1 : Nat) : Int); omega⟩, ?_⟩
    conv => whnf
    refine use hcall [(1, 2), (2, 3)] rfl ⟨rfl, rfl, trivial⟩ rfl ⟨linesE_below (by omega) _ _ _, famE_below _ _ _, trivial⟩ (by simp [SV.below, SA.below]) ⟨linesE_subg (fun k => rfl), famE_sub (caps := caps) (l := a1 :: r1), trivial⟩ ?_
    rintro out0 F0 h0 n1 hle ⟨rfl, rfl, rfl, rfl⟩
    conv => whnf
    refine ⟨Fz.le_refl _, rfl, rfl, ?_⟩
    conv => whnf
    exact ⟨⟨(k + 1, a2, r2), by show k + 1 ≤ ar.length + 1; omega, hnx⟩, by show ar.length + 1 - (k + 1) < ar.length + 1 - k; omega,
      leR [] hH hT rfl ⟨trivial, valE_below (by omega) _, linesE_below (by omega) _ _ _, famE_below _ _ _, trivial⟩ ⟨cnt (by omega), trivial⟩
      ⟨Fz.le_refl _, rfl, linesE_sub2 (fun k => rfl) (fun k => rfl) heq, famE_sub2 heq, trivial⟩⟩
  · have gk : k = ar.length + 1 := by
      have h0 : ¬ (k : Int) < ((ar.length + 1 : Nat) : Int) := of_decide_eq_false gb
      omega
    clear gb
    have hall : a1 :: r1 = (a0 :: ar).map f := by rw [hob, gk]; exact upTo_all f (a0 :: ar)
    have e1 : valE ⟨lost, a0 :: ar, w, h, bits⟩ 2 c = valE ⟨lost, f a0 :: ar.map f, w, h, bits⟩ 2 c := by
      simp [valE, gA]
    have hv1 : ∀ μ : Mu, μ 2 0 = (2, 0) → subE (some (valE ⟨lost, a0 :: ar, w, h, bits⟩ 2 c)) ((valE ⟨lost, f a0 :: ar.map f, w, h, bits⟩ 2 c).ren μ) := by
      intro μ hμ
      rw [← e1]
      show _ = _
      simp [SB.ren, gA, SA.ren, hμ]
    conv => whnf
    refine clean [] (.ret (.tup [])) F (valM ⟨lost, f a0 :: ar.map f, w, h, bits⟩ c caps) 4 ⟨Fz.le_refl F, rfl, rfl, rfl, c, caps, rfl⟩ (outE_refl _) rfl rfl (by simp [Out.below, SV.below]) (valM_bH _ _ _) ⟨Fz.le_refl F, ?_, ?_, ?_, trivial⟩
    · exact hv1 _ rfl
    · exact linesE_sub3 (fun k => rfl) hall
    · exact famE_sub3 hall
end Go.Proofs.YtblllibdahkgfaaGreatDoor

namespace Go.Proofs.YtblllibdahkgfaaGreatDoor
open Go Sx
set_option maxRecDepth 100000
theorem lcells_setT {B : Nat} {caps : Nat → Nat} {t' : List UInt8} {n : List Int} : ∀ (j : Nat) (L : List Ln) (i : Nat), lcells B caps j (L.set i (t', n)) = (lcells B caps j L).set i [.str t', nA B (j + i) (caps (j + i)) n]
  | j, [], i => by simp [lcells]
  | j, y :: r, 0 => by
    rw [List.set_cons_zero, lcells, lcells, List.set_cons_zero]; rfl
  | j, y :: r, i + 1 => by
    rw [List.set_cons_succ, lcells, lcells, lcells_setT (j + 1) r i, List.set_cons_succ]
    have : j + 1 + i = j + (i + 1) := by omega
    rw [this]
theorem famE_setT {caps : Nat → Nat} {t t' : List UInt8} {n : List Int} {L : List Ln} {i : Nat} (h : L[i]? = some (t, n)) : famE caps (L.set i (t', n)) = famE caps L := by
  have hm : (L.set i (t', n)).map (·.2) = L.map (·.2) := by
    rw [List.map_set]
    exact set_same (by rw [List.getElem?_map, h]; rfl)
  unfold famE
  rw [List.length_set, hm]
theorem linesSubT {caps : Nat → Nat} {c : Nat} {t' : List UInt8} {n : List Int} {L : List Ln} {i : Nat} {row : List (List SA)} (hne : L ≠ []) (hr : row = (lcells 2 caps 0 L).set i [.str t', nA 2 i (caps i) n]) {μ : Mu} (hμ : ∀ k, μ 2 k = (2, k)) :
    subE (some (.opt true (.arr 120 2 row c))) ((linesE 2 caps c (L.set i (t', n))).ren μ) := by
  have e := lcells_setT (B := 2) (caps := caps) (t' := t') (n := n) 0 L i
  rw [Nat.zero_add] at e
  rw [hr, ← e]
  have h2 := linesE_subg (B := 2) (B' := 2) (caps := caps) (c := c) (l := L.set i (t', n)) hμ
  have h3 : (!(L.set i (t', n)).isEmpty) = true := by
    cases L with
    | nil => exact absurd rfl hne
    | cons x r => cases i <;> rfl
  rw [linesE, h3] at h2
  rw [linesE, h3]
  exact h2
/-- The contract of strings.ToLower: it computes low. -/
def LFun (low : List UInt8 → List UInt8) : Prop := ∀ (F : Fz) (s : List UInt8), s.length ≤ 70000 → (∀ b ∈ s, b.toNat < 128) → Fo Tryz.prog F 94 [.va (.str s)] (fun o F' => F = F' ∧ o = .ret (.va (.str (low s))))
set_option maxHeartbeats 4000000 in
theorem fold_fn {low : List UInt8 → List UInt8} (hL : LFun low) (F : Fz) (L : List Ln) (i c : Nat) (caps : Nat → Nat) (t : List UInt8) (n : List Int) (a : Int) (h : L[i]? = some (t, n)) (ht : t.length ≤ 70000) (h128 : ∀ b ∈ t, b.toNat < 128) :
    Ct Tryz.prog 65 [.va (.ptr ⟨1, 0, i, 2, 0⟩), .va (.int .i64 a)] F [(1, linesE 2 caps c L), (2, famE caps L)] 3
      (stepK F c caps (L.set i (low t, n))) := by
  have hcell := lcells_get 2 caps 0 L i _ h
  rw [Nat.zero_add] at hcell
  have hi : i < L.length := (List.getElem?_eq_some_iff.1 h).1
  rcases L with _ | ⟨a0, ar⟩
  · exact absurd hi (by simp)
  have hs2 : ∀ μ : Mu, subE (some (famE caps (a0 :: ar))) ((famE caps ((a0 :: ar).set i (low t, n))).ren μ) := fun μ => by
    rw [famE_setT h]; exact famE_sub
  refine ct_of hΘ Tryz.func65 rfl (by decide) _ _ rfl rfl rfl ?_
  conv => whnf
  refine ⟨rfl, ?_⟩
  conv => whnf
  refine ⟨_, hcell, ?_⟩
  conv => whnf
  refine useFo (hL F t ht h128) rfl ⟨rfl, trivial⟩ rfl ?_
  rintro _ _ l1 ⟨rfl, rfl⟩
  conv => whnf
  refine ⟨rfl, ?_⟩
  conv => whnf
  refine ⟨_, hcell, ?_⟩
  conv => whnf
  refine clean [] (.ret (.tup [])) F [(1, linesE 2 caps c ((a0 :: ar).set i (low t, n))), (2, famE caps ((a0 :: ar).set i (low t, n)))] 3 ⟨Fz.le_refl F, rfl, rfl, rfl, rfl⟩ (outE_refl _) rfl rfl (by simp [Out.below, SV.below]) ⟨linesE_below (by omega) _ _ _, famE_below _ _ _, trivial⟩ ⟨Fz.le_refl F, ?_, ?_, trivial⟩
  · exact linesSubT (t' := low t) (n := n) (by simp) rfl (fun k => rfl)
  · exact hs2 _
end Go.Proofs.YtblllibdahkgfaaGreatDoor

namespace Go.Proofs.YtblllibdahkgfaaGreatDoor
open Go Sx
set_option maxRecDepth 100000
def hasD : List UInt8 → Bool
  | a :: b :: r => (a == 32 && b == 32) || hasD (b :: r)
  | _ => false
def repD : List UInt8 → List UInt8
  | a :: b :: r => if a == 32 && b == 32 then 32 :: repD r else a :: repD (b :: r)
  | l => l
theorem repD_le : ∀ l : List UInt8, (repD l).length ≤ l.length
  | [] => by simp [repD]
  | [a] => by simp [repD]
  | a :: b :: r => by
    rw [repD]
    have h1 := repD_le r
    have h2 := repD_le (b :: r)
    simp only [List.length_cons] at h2
    split <;> simp only [List.length_cons] <;> omega
theorem repD_lt : ∀ l : List UInt8, hasD l = true → (repD l).length < l.length
  | [], h => by simp [hasD] at h
  | [a], h => by simp [hasD] at h
  | a :: b :: r, h => by
    rw [repD]
    by_cases hc : (a == 32 && b == 32) = true
    · rw [if_pos hc]
      have h1 := repD_le r
      simp only [List.length_cons]; omega
    · rw [if_neg hc]
      rw [hasD, Bool.or_eq_true] at h
      have h2 := repD_lt (b :: r) (h.resolve_left hc)
      simp only [List.length_cons] at h2 ⊢; omega
def spS : Nat → List UInt8 → List UInt8
  | 0, s => s
  | f + 1, s => if hasD s then spS f (repD s) else s
theorem spS_fuel : ∀ (f : Nat) (s : List UInt8), s.length ≤ f → spS f s = spS s.length s
  | 0, s, h => by
    have : s.length = 0 := by omega
    rw [this]
  | f + 1, s, h => by
    rw [spS]
    by_cases hd : hasD s = true
    · rw [if_pos hd]
      have hl := repD_lt s hd
      rw [spS_fuel f (repD s) (by omega)]
      obtain ⟨m, hm⟩ : ∃ m, s.length = m + 1 := ⟨s.length - 1, by omega⟩
      rw [hm, spS, if_pos hd]
      by_cases hmf : m < f + 1
      · exact (spS_fuel m (repD s) (by omega)).symm
      · omega
    · rw [if_neg hd]
      cases hs : s.length with
      | zero => rfl
      | succ m => rw [spS, if_neg hd]
theorem spS_step {s : List UInt8} (hd : hasD s = true) : spS s.length s = spS (repD s).length (repD s) := by
  have hl := repD_lt s hd
  obtain ⟨m, hm⟩ : ∃ m, s.length = m + 1 := ⟨s.length - 1, by omega⟩
  rw [hm, spS, if_pos hd, spS_fuel m (repD s) (by omega)]
theorem spS_end {s : List UInt8} (hd : hasD s = false) : spS s.length s = s := by
  cases hs : s.length with
  | zero => rfl
  | succ m => rw [spS, if_neg (by rw [hd]; simp)]
/-- The library's variable MaxLen holds a number. -/
def MLF (F : Fz) : Prop := ∃ m, F 1 = some (.cells 3 [.int .i64 m])
theorem MLF.mono {F F' : Fz} (h : MLF F) (hle : Fz.le F F') : MLF F' := let ⟨m, hm⟩ := h; ⟨m, hle _ _ hm⟩
/-- The contracts of strings.Contains and strings.ReplaceAll, for two spaces. -/
def DFun : Prop := ∀ (F : Fz) (s : List UInt8), MLF F → s.length ≤ 70000 → Fo Tryz.prog F 95 [.va (.str s), .va (.str [32, 32])] (fun o F' => F = F' ∧ o = .ret (.va (.bool (hasD s))))
def AFun : Prop := ∀ (F : Fz) (s : List UInt8), MLF F → s.length ≤ 70000 → Fo Tryz.prog F 96 [.va (.str s), .va (.str [32, 32]), .va (.str [32])] (fun o F' => F = F' ∧ o = .ret (.va (.str (repD s))))
end Go.Proofs.YtblllibdahkgfaaGreatDoor

namespace Go.Proofs.YtblllibdahkgfaaGreatDoor
open Go Sx
set_option maxRecDepth 100000
theorem cons_of_len {α : Type} {L : List α} (h : L ≠ []) : ∃ a r, L = a :: r := by cases L with
  | nil => exact absurd rfl h
  | cons a r => exact ⟨a, r, rfl⟩
theorem set_ne {α : Type} {L : List α} (h : L ≠ []) (i : Nat) (x : α) : L.set i x ≠ [] := by
  cases L with
  | nil => exact absurd rfl h
  | cons a r => cases i <;> simp
theorem famEq_sub {μ : Mu} {caps : Nat → Nat} {l l' : List Ln} (e : famE caps l = famE caps l') : subE (some (famE caps l)) ((famE caps l').ren μ) := by
  rw [e]; exact famE_sub
set_option maxHeartbeats 4000000 in
theorem spaces_fn (hD : DFun) (hA : AFun) (F : Fz) (hM : MLF F) (L : List Ln) (i c : Nat) (caps : Nat → Nat) (t : List UInt8) (n : List Int) (a : Int) (h : L[i]? = some (t, n)) (ht : t.length ≤ 70000) :
    Ct Tryz.prog 66 [.va (.ptr ⟨1, 0, i, 2, 0⟩), .va (.int .i64 a)] F [(1, linesE 2 caps c L), (2, famE caps L)] 3
      (stepK F c caps (L.set i (spS t.length t, n))) := by
  have hi : i < L.length := (List.getElem?_eq_some_iff.1 h).1
  rcases L with _ | ⟨a0, ar⟩
  · exact absurd hi (by simp)
  have hne : a0 :: ar ≠ [] := by simp
  have hfa : ∀ s, famE caps ((a0 :: ar).set i (s, n)) = famE caps (a0 :: ar) := fun s => famE_setT h
  have hst : (a0 :: ar).set i (t, n) = a0 :: ar := set_same h
  have hset2 : ∀ s s', ((a0 :: ar).set i (s, n)).set i (s', n) = (a0 :: ar).set i (s', n) := fun s s' => List.set_set ..
  have hget : ∀ s, ((a0 :: ar).set i (s, n))[i]? = some (s, n) := fun s => by rw [List.getElem?_set, if_pos rfl, if_pos hi]
  refine ct_of hΘ Tryz.func66 rfl (by decide) _ _ rfl rfl rfl ?_
  conv => whnf
  refine loop_at hΘ (X := { x : List UInt8 × Ln × List Ln // x.2.1 :: x.2.2 = (a0 :: ar).set i (x.1, n) ∧ x.1.length ≤ t.length ∧ spS x.1.length x.1 = spS t.length t }) (fun _ => []) [4, 5, 6, 7, 8, 9, 10, 11, 12, 13, 14, 15, 16]
    (fun x => [(0, .frz F), (1, linesE 2 caps c (x.1.2.1 :: x.1.2.2)), (2, famE caps (x.1.2.1 :: x.1.2.2))]) 3 (fun x => x.1.1.length) ⟨(t, a0, ar), hst.symm, Nat.le_refl _, rfl⟩
    (fun hH hT => leI [] hH hT rfl ⟨trivial, linesE_below (by omega) _ _ _, famE_below _ _ _, trivial⟩ trivial ⟨Fz.le_refl F, linesE_subg (fun k => rfl), famE_sub (μ := sig []) (caps := caps) (l := a0 :: ar), trivial⟩) ?_
  rintro ⟨⟨s, a1, r1⟩, hob, hsl, hsp⟩ hH hT
  replace hob : a1 :: r1 = (a0 :: ar).set i (s, n) := hob
  replace hsl : s.length ≤ t.length := hsl
  replace hsp : spS s.length s = spS t.length t := hsp
  have h1 : (a1 :: r1)[i]? = some (s, n) := by rw [hob]; exact hget s
  have hcell := lcells_get 2 caps 0 (a1 :: r1) i _ h1
  rw [Nat.zero_add] at hcell
  have hbool : hasD s = true ∨ hasD s = false := by cases hasD s <;> simp
  have hnx : ∃ a2 r2, (a0 :: ar).set i (repD s, n) = a2 :: r2 := cons_of_len (set_ne hne _ _)
  obtain ⟨a2, r2, hnx⟩ := hnx
  have hnx' : (a1 :: r1).set i (repD s, n) = a2 :: r2 := by rw [hob, hset2, hnx]
  have hfa2 : famE caps (a1 :: r1) = famE caps (a2 :: r2) := by rw [← hnx', famE_setT h1]
  conv => whnf
  refine ⟨rfl, ?_⟩
  conv => whnf
  refine ⟨_, hcell, ?_⟩
  conv => whnf
  refine useFo (hD F s hM (by omega)) rfl ⟨rfl, rfl, trivial⟩ rfl ?_
  rintro _ _ l1 ⟨rfl, rfl⟩
  conv => whnf
  refine br (fun g => ?_) (fun g => ?_)
  · have g : hasD s = true := g
    have hlt := repD_lt s g
    have hst' := spS_step g
    conv => whnf
    refine ⟨rfl, ?_⟩
    conv => whnf
    refine ⟨_, hcell, ?_⟩
    conv => whnf
    refine useFo (hA F s hM (by omega)) rfl ⟨rfl, rfl, rfl, trivial⟩ rfl ?_
    rintro _ _ l2 ⟨rfl, rfl⟩
    conv => whnf
    refine ⟨rfl, ?_⟩
    conv => whnf
    refine ⟨_, hcell, ?_⟩
    conv => whnf
    refine ⟨⟨(repD s, a2, r2), hnx.symm, by show (repD s).length ≤ t.length; omega, by show spS (repD s).length (repD s) = _; rw [← hst']; exact hsp⟩, hlt,
      leR [] hH hT rfl ⟨trivial, linesE_below (by omega) _ _ _, famE_below _ _ _, trivial⟩ trivial ⟨Fz.le_refl _, ?_, famEq_sub hfa2, trivial⟩⟩
    have hx := linesSubT (caps := caps) (c := c) (t' := repD s) (n := n) (L := a1 :: r1) (i := i) (by simp) rfl (μ := sig []) (fun k => rfl)
    rw [hnx'] at hx
    exact hx
  · have g : hasD s = false := g
    have he : s = spS t.length t := by rw [← hsp]; exact (spS_end g).symm
    have hee : a1 :: r1 = (a0 :: ar).set i (spS t.length t, n) := by rw [hob, ← he]
    conv => whnf
    refine clean [] (.ret (.tup [])) F [(1, linesE 2 caps c ((a0 :: ar).set i (spS t.length t, n))), (2, famE caps ((a0 :: ar).set i (spS t.length t, n)))] 3 ⟨Fz.le_refl F, rfl, rfl, rfl, rfl⟩ (outE_refl _) rfl rfl (by simp [Out.below, SV.below]) ⟨linesE_below (by omega) _ _ _, famE_below _ _ _, trivial⟩ ⟨Fz.le_refl F, ?_, ?_, trivial⟩
    · exact linesE_sub3 (fun k => rfl) hee
    · exact famE_sub3 hee
end Go.Proofs.YtblllibdahkgfaaGreatDoor

namespace Go.Proofs.YtblllibdahkgfaaGreatDoor
open Go Sx
set_option maxRecDepth 100000
theorem half_id {w : Int} (hw : 0 ≤ w ∧ w ≤ 1000000) : IntKind.i64.wrap ((IntKind.i64.wrap (w + 1)).tdiv 2) = (w + 1) / 2 ∧ (IntKind.i64.wrap (w + 1)).tdiv 2 = (w + 1) / 2 := by
  have h1 : IntKind.i64.wrap (w + 1) = w + 1 := wrap64_id (by omega) (by omega)
  have h2 : (w + 1).tdiv 2 = (w + 1) / 2 := Int.tdiv_eq_ediv_of_nonneg (by omega)
  rw [h1, h2]
  exact ⟨wrap64_id (by omega) (by omega), rfl⟩
set_option maxHeartbeats 4000000 in
theorem halveNone_fn (F : Fz) (w h : Int) (a : Int) (c : Nat) (caps : Nat → Nat) (hw : 0 ≤ w ∧ w ≤ 1000000) (hh : 0 ≤ h ∧ h ≤ 1000000) :
    Ct Tryz.prog 71 [.va (.ptr ⟨1, 0, 0, 0, 0⟩), .va (.int .i64 a)] F (valM ⟨false, [], w, h, []⟩ c caps) 4 (stepV F ⟨false, [], (w + 1) / 2, (h + 1) / 2, []⟩) := by
  have hv : ∀ w' h', w' = (w + 1) / 2 → h' = (h + 1) / 2 → subE (some (valE ⟨false, [], w', h', []⟩ 2 c)) ((valE ⟨false, [], (w + 1) / 2, (h + 1) / 2, []⟩ 2 c).ren (sig [])) := by
    intro w' h' e1 e2; subst e1; subst e2; rfl
  refine ct_of hΘ Tryz.func71 rfl (by decide) _ _ rfl rfl rfl ?_
  conv => whnf
  refine drawP hΘ mixed (.look 0 (.look 1 (.look 2 (.look 3 (.look 4 (.look 5 (.look 6 (.look 7 (.look 8 (.look 9 (.look 10 (.look 11 (.look 12 (.look 13 .done)))))))))))))) [1] (by kernel_rfl) ?_
  conv => whnf
  repeat' ((conv => whnf); first
    | refine ⟨rfl, ?_⟩
    | refine ⟨Fz.le_refl _, rfl, ?_⟩
    | refine ⟨Fz.le_refl _, rfl, rfl, ?_⟩
    | refine ⟨⟨by simp, by simp⟩, ?_⟩
    | fail)
  conv => whnf
  refine ⟨(by omega), ?_⟩
  conv => whnf
  repeat' ((conv => whnf); first
    | refine ⟨rfl, ?_⟩
    | refine ⟨Fz.le_refl _, rfl, ?_⟩
    | refine ⟨Fz.le_refl _, rfl, rfl, ?_⟩
    | refine ⟨⟨by simp, by simp⟩, ?_⟩
    | fail)
  conv => whnf
  refine ⟨(by omega), ?_⟩
  conv => whnf
  conv => whnf
  refine br (fun g => absurd g (by simp)) (fun _ => ?_)
  conv => whnf
  refine clean [] (.ret (.tup [])) F (valM ⟨false, [], (w + 1) / 2, (h + 1) / 2, []⟩ c caps) 4 ⟨Fz.le_refl F, rfl, rfl, rfl, c, caps, rfl⟩ (outE_refl _) rfl rfl (by simp [Out.below, SV.below]) (valM_bH _ _ _) ⟨Fz.le_refl F, ?_, trivial⟩
  first
  | exact hv _ _ (half_id hw).1 (half_id hh).1
  | exact hv _ _ (half_id hw).2 (half_id hh).2
end Go.Proofs.YtblllibdahkgfaaGreatDoor

namespace Go.Proofs.YtblllibdahkgfaaGreatDoor
open Go Sx
def halB (w : Nat) : Nat → List UInt8 → List UInt8 → List UInt8
  | _, [], o => o
  | k, b :: r, o => halB w (k + 1) r (if b = 49 then o.set (k / w / 2 * ((w + 1) / 2) + k % w / 2) 49 else o)
theorem halB_len (w : Nat) : ∀ (l : List UInt8) (k : Nat) (o : List UInt8), (halB w k l o).length = o.length
  | [], _, _ => rfl
  | b :: r, k, o => by
    rw [halB, halB_len w r]
    split
    · exact List.length_set
    · rfl
theorem half_idx {k w h : Nat} (hk : k < w * h) : k / w / 2 * ((w + 1) / 2) + k % w / 2 < (w + 1) / 2 * ((h + 1) / 2) := by
  have hw : 0 < w := by
    rcases Nat.eq_zero_or_pos w with h0 | h0
    · rw [h0, Nat.zero_mul] at hk; omega
    · exact h0
  have h1 : k / w < h := Nat.div_lt_of_lt_mul hk
  have h2 : k % w < w := Nat.mod_lt _ hw
  have h3 : k / w / 2 + 1 ≤ (h + 1) / 2 := by omega
  have h4 : k % w / 2 < (w + 1) / 2 := by omega
  have h5 : (w + 1) / 2 * (k / w / 2 + 1) ≤ (w + 1) / 2 * ((h + 1) / 2) := Nat.mul_le_mul_left _ h3
  rw [Nat.mul_add, Nat.mul_one] at h5
  rw [Nat.mul_comm (k / w / 2)]
  omega
end Go.Proofs.YtblllibdahkgfaaGreatDoor

namespace Go.Proofs.YtblllibdahkgfaaGreatDoor
open Go Sx
set_option maxRecDepth 100000
/-- The contract of strings.Repeat, for a nought. -/
def NFun : Prop := ∀ (F : Fz) (n : Nat), n ≤ 70000 → Fo Tryz.prog F 97 [.va (.str [48]), .va (.int .i64 n)] (fun o F' => F = F' ∧ o = .ret (.va (.str (List.replicate n 48))))
theorem halIdx {k w : Nat} (hw : 0 < w ∧ w ≤ 64) (hk : k < 4096) :
    IntKind.i64.wrap (IntKind.i64.wrap (IntKind.i64.wrap ((IntKind.i64.wrap ((k : Int).tdiv w)).tdiv 2) * IntKind.i64.wrap ((IntKind.i64.wrap ((w : Int) + 1)).tdiv 2)) + IntKind.i64.wrap (((k : Int).tmod w).tdiv 2)) = ((k / w / 2 * ((w + 1) / 2) + k % w / 2 : Nat) : Int) := by
  have h1 : (k : Int).tdiv w = ((k / w : Nat) : Int) := by rw [Int.tdiv_eq_ediv_of_nonneg (by omega)]; rfl
  have h2 : (k : Int).tmod w = ((k % w : Nat) : Int) := by rw [Int.tmod_eq_emod_of_nonneg (by omega)]; rfl
  have a1 : k / w ≤ k := Nat.div_le_self _ _
  have a2 : k % w < w := Nat.mod_lt _ hw.1
  rw [h1, h2]
  generalize k / w = q at *
  generalize k % w = r at *
  have h3 : (q : Int).tdiv 2 = ((q / 2 : Nat) : Int) := by rw [Int.tdiv_eq_ediv_of_nonneg (by omega)]; rfl
  have h4 : (r : Int).tdiv 2 = ((r / 2 : Nat) : Int) := by rw [Int.tdiv_eq_ediv_of_nonneg (by omega)]; rfl
  have h5 : ((w : Int) + 1).tdiv 2 = (((w + 1) / 2 : Nat) : Int) := by rw [Int.tdiv_eq_ediv_of_nonneg (by omega)]; rfl
  have a3 : q / 2 * ((w + 1) / 2) ≤ 2048 * 32 := Nat.mul_le_mul (by omega) (by omega)
  rw [wrap64_id (n := (q : Int)) (by omega) (by omega), h3, h4, wrap64_id (n := (w : Int) + 1) (by omega) (by omega), h5, wrap64_id (n := ((q / 2 : Nat) : Int)) (by omega) (by omega), wrap64_id (n := (((w + 1) / 2 : Nat) : Int)) (by omega) (by omega),
    ← Int.natCast_mul]
  generalize q / 2 * ((w + 1) / 2) = m at *
  rw [wrap64_id (n := (m : Int)) (by omega) (by omega), wrap64_id (n := ((r / 2 : Nat) : Int)) (by omega) (by omega), ← Int.natCast_add, wrap64_id (by omega) (by omega)]
set_option maxHeartbeats 4000000 in
theorem halveBits_fn (hN : NFun) (F : Fz) (w h : Nat) (b0 : UInt8) (br0 : List UInt8) (a : Int) (c : Nat) (caps : Nat → Nat) (hw : 0 < w ∧ w ≤ 64) (hh : 0 < h ∧ h ≤ 64) (hl : (b0 :: br0).length = w * h) :
    Ct Tryz.prog 71 [.va (.ptr ⟨1, 0, 0, 0, 0⟩), .va (.int .i64 a)] F (valM ⟨false, [], w, h, b0 :: br0⟩ c caps) 4
      (stepV F ⟨false, [], ((w : Int) + 1) / 2, ((h : Int) + 1) / 2, halB w 0 (b0 :: br0) (List.replicate ((w + 1) / 2 * ((h + 1) / 2)) 48)⟩) := by
  have e1 := half_id (w := (w : Int)) ⟨by omega, by omega⟩
  have e2 := half_id (w := (h : Int)) ⟨by omega, by omega⟩
  have hm1 : ((w : Int) + 1) / 2 = (((w + 1) / 2 : Nat) : Int) := by omega
  have hm2 : ((h : Int) + 1) / 2 = (((h + 1) / 2 : Nat) : Int) := by omega
  have harg : (((w + 1) / 2 * ((h + 1) / 2) : Nat) : Int) = IntKind.i64.wrap (IntKind.i64.wrap ((IntKind.i64.wrap ((w : Int) + 1)).tdiv 2) * IntKind.i64.wrap ((IntKind.i64.wrap ((h : Int) + 1)).tdiv 2)) := by
    have hlen : (w + 1) / 2 * ((h + 1) / 2) ≤ 32 * 32 := Nat.mul_le_mul (by omega) (by omega)
    rw [e1.1, e2.1, hm1, hm2, ← Int.natCast_mul, wrap64_id (by omega) (by omega)]
  have hv : ∀ w' h' b', w' = ((w : Int) + 1) / 2 → h' = ((h : Int) + 1) / 2 → b' = halB w 0 (b0 :: br0) (List.replicate ((w + 1) / 2 * ((h + 1) / 2)) 48) → subE (some (valE ⟨false, [], w', h', b'⟩ 2 c)) ((valE ⟨false, [], ((w : Int) + 1) / 2, ((h : Int) + 1) / 2, halB w 0 (b0 :: br0) (List.replicate ((w + 1) / 2 * ((h + 1) / 2)) 48)⟩ 2 c).ren (sig [])) := by
    intro w' h' b' e1 e2 e3; subst e1; subst e2; subst e3; rfl
  have hrow0 : ∀ (o : List UInt8) (μ : Mu) (k : Nat), subE (some (.one (.arr 5 1 (o.map fun b => [SA.int .u8 b.toNat]) k))) ((Ent.one (.arr 5 1 (o.map encB) k)).ren μ) := fun o μ k => (gB_ren (l := o) encB_plain rfl 5 1 μ k).symm
  refine ct_of hΘ Tryz.func71 rfl (by decide) _ _ rfl rfl rfl ?_
  conv => whnf
  refine drawP hΘ mixed (.look 0 (.look 1 (.look 2 (.look 3 (.look 4 (.look 5 (.look 6 (.look 7 (.look 8 (.look 9 (.look 10 (.look 11 (.look 12 (.look 13 .done)))))))))))))) [1] (by kernel_rfl) ?_
  conv => whnf
  repeat' ((conv => whnf); first
    | refine ⟨rfl, ?_⟩
    | refine ⟨Fz.le_refl _, rfl, ?_⟩
    | refine ⟨Fz.le_refl _, rfl, rfl, ?_⟩
    | refine ⟨⟨by simp, by simp⟩, ?_⟩
    | fail)
  conv => whnf
  refine ⟨(by omega), ?_⟩
  conv => whnf
  repeat' ((conv => whnf); first
    | refine ⟨rfl, ?_⟩
    | refine ⟨Fz.le_refl _, rfl, ?_⟩
    | refine ⟨Fz.le_refl _, rfl, rfl, ?_⟩
    | refine ⟨⟨by simp, by simp⟩, ?_⟩
    | fail)
  conv => whnf
  refine ⟨(by omega), ?_⟩
  conv => whnf
  conv => whnf
  refine br (fun _ => ?_) (fun g => absurd g (by simp))
  conv => whnf
  have hlen : (w + 1) / 2 * ((h + 1) / 2) ≤ 32 * 32 := Nat.mul_le_mul (by omega) (by omega)
  refine useFo (hN F ((w + 1) / 2 * ((h + 1) / 2)) (by omega)) rfl ⟨rfl, congrArg (SA.int .i64) harg, trivial⟩ rfl ?_
  rintro _ _ l1 ⟨rfl, rfl⟩
  conv => whnf
  intro c1 hc1
  conv => whnf
  intro c2 hc2
  conv => whnf
  have hm : (List.replicate ((w + 1) / 2 * ((h + 1) / 2)) (48 : UInt8)).length = (w + 1) / 2 * ((h + 1) / 2) := List.length_replicate
  refine loop_at hΘ (X := { x : Nat × List UInt8 // x.1 ≤ br0.length + 1 ∧ x.2.length = (w + 1) / 2 * ((h + 1) / 2) ∧ halB w x.1 ((b0 :: br0).drop x.1) x.2 = halB w 0 (b0 :: br0) (List.replicate ((w + 1) / 2 * ((h + 1) / 2)) 48) }) (fun x => [(37, .va (.int .i64 x.1.1))]) [7, 8, 38, 39, 40, 41, 42, 43, 44, 45, 46, 47, 48, 49, 50, 51, 52, 53, 54, 55, 56, 57, 58, 59, 60, 61, 62, 63]
    (fun x => [(0, .frz F), (4, .one (.arr 5 1 (x.1.2.map encB) c1))]) 6 (fun x => br0.length + 1 - x.1.1) ⟨(0, _), by simp, hm, rfl⟩
    (fun hH hT => leI [] hH hT rfl ⟨trivial, gB_below encB_plain 5 1 6 c1 _, trivial⟩ ⟨rfl, trivial⟩ ⟨Fz.le_refl F, hrow0 _ _ _, trivial⟩) ?_
  rintro ⟨⟨k, o⟩, hk, hol, hoh⟩ hH hT
  replace hk : k ≤ br0.length + 1 := hk
  replace hol : o.length = (w + 1) / 2 * ((h + 1) / 2) := hol
  replace hoh : halB w k ((b0 :: br0).drop k) o = halB w 0 (b0 :: br0) (List.replicate ((w + 1) / 2 * ((h + 1) / 2)) 48) := hoh
  conv => whnf
  refine br (fun gb => ?_) (fun gb => ?_)
  · have gk : k < br0.length + 1 := by
      have h0 : (k : Int) < ((br0.length + 1 : Nat) : Int) := of_decide_eq_true gb
      omega
    clear gb
    have gl : k < (b0 :: br0).length := gk
    have hcell : ((b0 :: br0).map fun b => [SA.int .u8 b.toNat])[0 + (k : Int).toNat]? = some [SA.int .u8 ((b0 :: br0)[k]).toNat] := by
      rw [Nat.zero_add, Int.toNat_natCast, List.getElem?_map, List.getElem?_eq_getElem gl]; rfl
    conv => whnf
    refine ⟨rfl, ⟨by simp, by show (k : Int) < ((br0.length + 1 : Nat) : Int); omega⟩, ?_⟩
    conv => whnf
    refine ⟨_, hcell, ?_⟩
    have hwh : w * h ≤ 64 * 64 := Nat.mul_le_mul hw.2 hh.2
    have hkl : k < w * h := by rw [← hl]; exact gl
    have hst0 := hoh
    rw [List.drop_eq_getElem_cons gl, halB] at hst0
    conv => whnf
    refine br (fun gc => ?_) (fun gc => ?_)
    · have g49 : (b0 :: br0)[k] = 49 := by
        have h0 : (((b0 :: br0)[k]).toNat : Int) = 49 := of_decide_eq_true gc
        exact UInt8.toNat_inj.1 (by show ((b0 :: br0)[k]).toNat = 49; omega)
      have hst := hst0
      rw [if_pos g49] at hst
      conv => whnf
      refine drawP hΘ mixed (.look 0 (.look 1 (.look 2 (.look 3 (.look 4 (.look 5 (.look 6 (.look 7 (.look 8 (.look 9 (.look 10 (.look 11 (.look 12 (.look 13 (.look 14 (.look 15 (.look 16 (.look 17 (.look 18 (.last 19 .done)))))))))))))))))))) [1] (by kernel_rfl) ?_
      conv => whnf
      have hwi : (w : Int) ≠ 0 := by omega
      have h2i : (2 : Int) ≠ 0 := by decide
      have hix := halIdx (k := k) hw (by omega)
      have hib := half_idx hkl
      have hi0 : 0 ≤ IntKind.i64.wrap (IntKind.i64.wrap (IntKind.i64.wrap ((IntKind.i64.wrap ((k : Int).tdiv w)).tdiv 2) * IntKind.i64.wrap ((IntKind.i64.wrap ((w : Int) + 1)).tdiv 2)) + IntKind.i64.wrap (((k : Int).tmod w).tdiv 2)) := by rw [hix]; omega
      have hi1 : IntKind.i64.wrap (IntKind.i64.wrap (IntKind.i64.wrap ((IntKind.i64.wrap ((k : Int).tdiv w)).tdiv 2) * IntKind.i64.wrap ((IntKind.i64.wrap ((w : Int) + 1)).tdiv 2)) + IntKind.i64.wrap (((k : Int).tmod w).tdiv 2)) < ((List.replicate ((w + 1) / 2 * ((h + 1) / 2)) (48 : UInt8)).length : Int) := by rw [hix, hm]; omega
      have hget : (o.map encB)[0 + (IntKind.i64.wrap (IntKind.i64.wrap (IntKind.i64.wrap ((IntKind.i64.wrap ((k : Int).tdiv w)).tdiv 2) * IntKind.i64.wrap ((IntKind.i64.wrap ((w : Int) + 1)).tdiv 2)) + IntKind.i64.wrap (((k : Int).tmod w).tdiv 2))).toNat]? = some (encB (o[k / w / 2 * ((w + 1) / 2) + k % w / 2]'(by rw [hol]; exact hib))) := by
        rw [hix, Int.toNat_natCast, Nat.zero_add, List.getElem?_map, List.getElem?_eq_getElem (by rw [hol]; exact hib)]; rfl
      have hrow2 : subE (some (.one (.arr 5 1 ((o.map encB).set (0 + (IntKind.i64.wrap (IntKind.i64.wrap (IntKind.i64.wrap ((IntKind.i64.wrap ((k : Int).tdiv w)).tdiv 2) * IntKind.i64.wrap ((IntKind.i64.wrap ((w : Int) + 1)).tdiv 2)) + IntKind.i64.wrap (((k : Int).tmod w).tdiv 2))).toNat) [.int .u8 49]) c1))) ((Ent.one (.arr 5 1 ((o.set (k / w / 2 * ((w + 1) / 2) + k % w / 2) 49).map encB) c1)).ren (sig [])) := by
        have hs2 : (o.map encB).set (k / w / 2 * ((w + 1) / 2) + k % w / 2) [SA.int .u8 49] = (o.set (k / w / 2 * ((w + 1) / 2) + k % w / 2) 49).map encB := by rw [List.map_set]; rfl
        rw [hix, Int.toNat_natCast, Nat.zero_add, hs2]; exact hrow0 _ _ _
      repeat' ((conv => whnf); first
        | refine ⟨hwi, ?_⟩
        | refine ⟨h2i, ?_⟩
        | refine ⟨⟨hi0, hi1⟩, ?_⟩
        | refine ⟨_, hget, ?_⟩
        | refine ⟨rfl, ?_⟩
        | refine ⟨Fz.le_refl _, rfl, ?_⟩
        | refine ⟨Fz.le_refl _, rfl, rfl, ?_⟩
        | refine ⟨⟨by simp, by simp⟩, ?_⟩
        | fail)
      conv => whnf
      exact ⟨⟨(k + 1, o.set (k / w / 2 * ((w + 1) / 2) + k % w / 2) 49), by show k + 1 ≤ br0.length + 1; omega, by rw [List.length_set]; exact hol, hst⟩, by show br0.length + 1 - (k + 1) < br0.length + 1 - k; omega,
        leR [] hH hT rfl ⟨trivial, gB_below encB_plain 5 1 6 c1 _, trivial⟩ ⟨cnt (by omega), trivial⟩ ⟨Fz.le_refl _, hrow2, trivial⟩⟩
    · have g49 : ¬ (b0 :: br0)[k] = 49 := fun h => by
        have h0 : ¬ (((b0 :: br0)[k]).toNat : Int) = 49 := of_decide_eq_false gc
        rw [h] at h0; exact h0 rfl
      rw [if_neg g49] at hst0
      conv => whnf
      exact ⟨⟨(k + 1, o), by show k + 1 ≤ br0.length + 1; omega, hol, hst0⟩, by show br0.length + 1 - (k + 1) < br0.length + 1 - k; omega,
        leR [] hH hT rfl ⟨trivial, gB_below encB_plain 5 1 6 c1 _, trivial⟩ ⟨cnt (by omega), trivial⟩ ⟨Fz.le_refl _, hrow0 _ _ _, trivial⟩⟩
  · have gk : k = br0.length + 1 := by
      have h0 : ¬ (k : Int) < ((br0.length + 1 : Nat) : Int) := of_decide_eq_false gb
      omega
    clear gb
    have hfin : o = halB w 0 (b0 :: br0) (List.replicate ((w + 1) / 2 * ((h + 1) / 2)) 48) := by
      rw [← hoh, List.drop_eq_nil_of_le (by rw [gk]; simp), halB]
    have hle0 : 0 + (List.replicate ((w + 1) / 2 * ((h + 1) / 2)) (48 : UInt8)).length ≤ (o.map encB).length := by rw [hm, List.length_map, hol]; omega
    have htake : List.take (List.replicate ((w + 1) / 2 * ((h + 1) / 2)) (48 : UInt8)).length (List.drop 0 (o.map encB)) = o.map encB := by rw [hm, List.drop_zero]; exact List.take_of_length_le (by rw [List.length_map, hol]; omega)
    conv => whnf
    refine ⟨hle0, _, htake, o, rfl, ?_⟩
    conv => whnf
    refine clean [] (.ret (.tup [])) F (valM ⟨false, [], ((w : Int) + 1) / 2, ((h : Int) + 1) / 2, halB w 0 (b0 :: br0) (List.replicate ((w + 1) / 2 * ((h + 1) / 2)) 48)⟩ c caps) 4 ⟨Fz.le_refl F, rfl, rfl, rfl, c, caps, rfl⟩ (outE_refl _) rfl rfl (by simp [Out.below, SV.below]) (valM_bH _ _ _) ⟨Fz.le_refl F, ?_, trivial⟩
    first
    | exact hv _ _ _ e1.1 e2.1 hfin
    | exact hv _ _ _ e1.2 e2.2 hfin
end Go.Proofs.YtblllibdahkgfaaGreatDoor

/- A range over a function whose iterator writes one variable that it has captured. No program is named here. -/
namespace Sx
open Go Go.RowKit
variable {F : Fence} {n : Nat} {P : Program}
/-- The contract of an iterator that writes block zb alone. -/
def SeqZ {α : Type} (F : Fence) (n : Nat) (P : Program) (g : Nat) (lb : Array Value) (encs : α → Array Value) (zb : Nat) (S : List α → Prop) (N : Nat) (w : World) : Prop :=
  ∀ (l : Nat) (J : List α → World → Prop) (W : World), W.heap[zb]? = w.heap[zb]? → (∀ pre A v, J pre A → J pre (A.setCell ⟨zb, 0, none⟩ v)) →
    (∀ pre x W1, J pre W1 → pre.length < N → YieldAt F (n - 1) P l (encs x) W1 fun e W' => e = .returned (.bool true) ∧ J (pre ++ [x]) W' ∧ W'.heap[zb]? = W1.heap[zb]?) →
    J [] W →
    CallsIn F n P g (#[.func (.yield l) #[] #[]] ++ lb) W fun e W' => (∃ v, e = .returned v) ∧ ∃ xs, S xs ∧ J xs W'
/-- How a round may be left: it goes on. -/
def postZ {α : Type} (B zb : Nat) (I : List α → World → Prop) (xs : List α) (W : World) : Exit → Act → World → Prop
  | .normal, _, W' => KeepsFrom B W W' ∧ W'.heap[zb]? = W.heap[zb]? ∧ I xs W'
  | _, _, _ => False
theorem wpIn_rangeFunc_Z {α : Type} {g : Operand} {ps : Array Tmp} {assign body : Code} {Q : Exit → Act → World → Prop} {a : Act} {w : World}
    (hro : F.round = none) (h1 : 1 ≤ n) {gf : Nat} {lb : Array Value} (hg : a.eval g = .func (.func gf) #[] lb) (hFg : F.fn gf) (eg : ∀ args w, (callFunc gf args).run P w = .ok (.enter gf args) w)
    {encs : α → Array Value} {S : List α → Prop} {N zb : Nat} (hseq : SeqZ F (n - 1) P gf lb encs zb S N w) (hzb : zb < w.heap.size) (hps : ∀ x, (encs x).size = ps.size)
    (I : List α → World → Prop) (hI : OwnFrom w.heap.size I) (hIz : ∀ pre A v, I pre A → I pre (A.setCell ⟨zb, 0, none⟩ v)) (h0 : I [] w) (a₁ : α → Act)
    (hassign : ∀ (l : Nat) (x : α) (W : World) (K : Act → World → Prop), K (a₁ x) W →
      assign.wpIn (F.inRound l) (n - 1 - 1) P (Exit.then K (fun _ _ _ => False)) { tmps := (ps.zip (encs x)).foldl (fun t (p, v) => t.setIfInBounds p v) a.tmps, defers := [] } W)
    (hbody : ∀ (l : Nat) (pre : List α) (x : α) (W : World), I pre W → pre.length < N → body.wpIn (F.inRound l) (n - 1 - 1) P (postZ w.heap.size zb I (pre ++ [x]) W) (a₁ x) W)
    (hdone : ∀ (D : Nat) (xs : List α) (W : World), w.heap.size ≤ D → S xs → I xs W → W.heap[D]? = some (.deferred (some [])) → Q .normal { a with defers := { target := .collected D, args := #[] } :: a.defers } W) :
    (Code.rangeFunc g ps assign body).wpIn F n P Q a w := by
  refine wpIn_rangeFunc ?_
  intro fn hfn
  rw [hro]
  obtain ⟨rec, hrec⟩ : ∃ rec : LoopState → Option Code → Loop, rec = fun st pe => { state := st, pending := pe, fn, tmps := a.tmps, params := ps, assign, body, defers := w.heap.size } := ⟨_, rfl⟩
  obtain ⟨W1, hW1⟩ : ∃ W1, (w.alloc (.deferred (some []))).alloc (.loop (rec .ready none)) = W1 := ⟨_, rfl⟩
  have hL1 : W1.heap[w.heap.size + 1]? = some (.loop (rec .ready none)) := by
    rw [← hW1]; have := World.alloc_heap_new (w.alloc (.deferred (some []))) (.loop (rec .ready none)); rwa [World.size_alloc] at this
  have hK1 : W1.heap[w.heap.size]? = some (.deferred (some [])) := by
    rw [← hW1]; exact (Below.heap_alloc _ _ _ (by simp)).trans (World.alloc_heap_new w _)
  have hI1 : I [] W1 := by rw [← hW1]; exact hI.alloc _ (hI.alloc _ h0)
  have hz1 : W1.heap[zb]? = w.heap[zb]? := by
    rw [← hW1]; exact (Below.heap_alloc _ _ _ (by simp; omega)).trans (Below.heap_alloc _ _ _ hzb)
  refine ⟨w.heap.size + 1, [{ target := .collected w.heap.size, args := #[] }], W1, { target := .fn (.func gf) lb, args := #[.func (.yield (w.heap.size + 1)) #[] #[]] }, W1, gf,
    #[.func (.yield (w.heap.size + 1)) #[] #[]] ++ lb, W1, ?_, ?_, ?_, ?_, fun _ => h1, ?_⟩
  · rw [← hW1, hrec]; exact run_enterLoop_outer _ _ _ _ _
  · simp only [resolve, hg]
    simp [go_sem]
  · intro f' hf'; simp [Target.leads] at hf'; subst hf'; exact hFg
  · simp [invoke, go_sem, eg]
  · have hset : ∀ (A : World) (v : Value) (k : Nat) (o : Obj), zb < k → A.heap[k]? = some o → (A.setCell ⟨zb, 0, none⟩ v).heap[k]? = some o := fun A v k o hk ho =>
      (Below.heap_setCell A ⟨zb, 0, none⟩ v k (by show k ≠ zb; omega)).trans ho
    refine (hseq (w.heap.size + 1)
      (fun pre W => I pre W ∧ W.heap[w.heap.size + 1]? = some (.loop (rec .ready none)) ∧ W.heap[w.heap.size]? = some (.deferred (some [])))
      W1 hz1
      (fun pre A v hs => ⟨hIz pre A v hs.1, hset A v _ _ (by omega) hs.2.1, hset A v _ _ (by omega) hs.2.2⟩)
      ?_ ⟨hI1, hL1, hK1⟩).mono ?_
    · rintro pre x W ⟨hi, hl, hk⟩ hlen
      have hlt : w.heap.size + 1 < W.heap.size := (Array.getElem?_eq_some_iff.1 hl).1
      have hy := run_yield (P := P) (args := encs x) hl (by rw [hrec]; exact hps x)
      rw [hrec] at hy
      refine ⟨fn, _, assign, body, hy, roundIn_of_wpIn hfn (hassign _ x W _ ⟨_, run_beginRound hl (by rw [hrec]), ?_⟩)⟩
      have hl2 : (W.putObj (w.heap.size + 1) (.loop { rec .ready none with state := .busy })).heap[w.heap.size + 1]? = some (.loop { rec .ready none with state := .busy }) := World.putObj_heap_same hlt
      have hk2 : (W.putObj (w.heap.size + 1) (.loop { rec .ready none with state := .busy })).heap[w.heap.size]? = some (.deferred (some [])) := (World.putObj_heap_other (by omega)).trans hk
      refine wpIn_mono (hbody _ pre x _ (hI.putObj _ hi (by omega) hl rfl) hlen) ?_
      rintro e a3 W3 hp
      cases e with
      | normal =>
        obtain ⟨hk3, hz3, hi3⟩ := hp
        have hl3 := hk3.same _ _ (by omega) hl2 rfl
        have hr := run_endRound (P := P) none hl3
        rw [hrec] at hr hl3
        refine ⟨_, _, hr, rfl, ⟨hI.putObj _ hi3 (by omega) hl3 rfl, ?_, (World.putObj_heap_other (by omega)).trans (hk3.same _ _ (Nat.le_refl _) hk2 rfl)⟩, ?_⟩
        · rw [hrec]; exact World.putObj_heap_same (Array.getElem?_eq_some_iff.1 hl3).1
        · rw [World.putObj_heap_other (by omega), hz3, World.putObj_heap_other (by omega)]
      | ret => exact hp.elim
      | exit id => exact hp.elim
      | goto t => exact hp.elim
      | panic ch => exact hp.elim
      | outgrown => exact hp.elim
    · rintro e W2 ⟨⟨v, rfl⟩, xs, hS, hi, hl, hk⟩
      exact ⟨none, _, by have := run_endLoop (P := P) hl (by rw [hrec]; simp); rw [hrec] at this; exact this, hdone _ xs _ (Nat.le_refl _) hS (hI.putObj _ hi (by omega) hl rfl) ((World.putObj_heap_other (by omega)).trans hk)⟩
end Sx
