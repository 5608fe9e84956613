import Derived.Test.YtblllibdahkgfaaGreatDoorK16
import Derived.RangeFuncBox
import Derived.RangeFuncLeaves
import Derived.Shelf.Abstract
import Derived.WalkKit
import Derived.OwnWalkIn
import Derived.TacticsInMore
import Derived.LoopNIn
import Derived.LoopIn
import Derived.Maps.AppendAt
import Derived.Laws.BitsAllLaws
import Derived.Test.YtblllibdahkgfaaGreatDoorProg

namespace Go.Proofs.YtblllibdahkgfaaGreatDoor
open Go Sx
set_option maxRecDepth 100000
def hasD : List UInt8 → Bool
 | a :: b :: r => (a == 32 && b == 32) || hasD (b :: r)
 | _ => false
def repD : List UInt8 → List UInt8
 | a :: b :: r => if a == 32 && b == 32 then 32 :: repD r else a :: repD (b :: r)
 | l => l
theorem zkk : ∀ l : List UInt8, (repD l).length ≤ l.length
 | [] => by simp [repD]
 | [a] => by simp [repD]
 | a :: b :: r => by
  rw [repD]
  have h1 := zkk r
  have h2 := zkk (b :: r)
  simp only [List.length_cons] at h2
  split <;> simp only [List.length_cons] <;> omega
theorem zj3 : ∀ l : List UInt8, hasD l = true → (repD l).length < l.length
 | [], h => by simp [hasD] at h
 | [a], h => by simp [hasD] at h
 | a :: b :: r, h => by
  rw [repD]
  by_cases hc : (a == 32 && b == 32) = true
  ·rw [if_pos hc]
   have h1 := zkk r
   simp only [List.length_cons]; omega
  ·rw [if_neg hc]
   rw [hasD, Bool.or_eq_true] at h
   have h2 := zj3 (b :: r) (h.resolve_left hc)
   simp only [List.length_cons] at h2 ⊢; omega
def spS : Nat → List UInt8 → List UInt8
 | 0, s => s
 | f + 1, s => if hasD s then spS f (repD s) else s
theorem zj6 : ∀ (f : Nat) (s : List UInt8), s.length ≤ f → spS f s = spS s.length s
 | 0, s, h => by
  have : s.length = 0 := by omega
  rw [this]
 | f + 1, s, h => by
  rw [spS]
  by_cases hd : hasD s = true
  ·rw [if_pos hd]
   have hl := zj3 s hd
   rw [zj6 f (repD s) (by omega)]
   obtain ⟨m, hm⟩ : ∃ m, s.length = m + 1 := ⟨s.length - 1, by omega⟩
   rw [hm, spS, if_pos hd]
   by_cases hmf : m < f + 1
   ·exact (zj6 m (repD s) (by omega)).symm
   ·omega
  ·rw [if_neg hd]
   cases hs : s.length with
   | zero => rfl
   | succ m => rw [spS, if_neg hd]
theorem zsw {s : List UInt8} (hd : hasD s = true) : spS s.length s = spS (repD s).length (repD s) := by
 have hl := zj3 s hd
 obtain ⟨m, hm⟩ : ∃ m, s.length = m + 1 := ⟨s.length - 1, by omega⟩
 rw [hm, spS, if_pos hd, zj6 m (repD s) (by omega)]
theorem zwu {s : List UInt8} (hd : hasD s = false) : spS s.length s = s := by
 cases hs : s.length with
 | zero => rfl
 | succ m => rw [spS, if_neg (by rw [hd]; simp)]
def MLF (F : Fz) : Prop := ∃ m, F 1 = some (.cells 3 [.int .i64 m])
theorem MLF.mono {F F' : Fz} (h : MLF F) (hle : Fz.le F F') : MLF F' := let ⟨m, hm⟩ := h; ⟨m, hle _ _ hm⟩
def DFun : Prop := ∀ (F : Fz) (s : List UInt8), MLF F → s.length ≤ 70000 → Fo Tryz.prog F 95 [.va (.str s), .va (.str [32, 32])] (fun o F' => F = F' ∧ o = .ret (.va (.bool (hasD s))))
def AFun : Prop := ∀ (F : Fz) (s : List UInt8), MLF F → s.length ≤ 70000 → Fo Tryz.prog F 96 [.va (.str s), .va (.str [32, 32]), .va (.str [32])] (fun o F' => F = F' ∧ o = .ret (.va (.str (repD s))))
end Go.Proofs.YtblllibdahkgfaaGreatDoor

namespace Go.Proofs.YtblllibdahkgfaaGreatDoor
open Go Sx
set_option maxRecDepth 100000
theorem zmo {α : Type} {L : List α} (h : L ≠ []) : ∃ a r, L = a :: r := by cases L with
 | nil => exact absurd rfl h
 | cons a r => exact ⟨a, r, rfl⟩
theorem zxk {α : Type} {L : List α} (h : L ≠ []) (i : Nat) (x : α) : L.set i x ≠ [] := by
 cases L with
 | nil => exact absurd rfl h
 | cons a r => cases i <;> simp
theorem zqx {μ : Mu} {caps : Nat → Nat} {l l' : List Ln} (e : famE caps l = famE caps l') : subE (some (famE caps l)) ((famE caps l').ren μ) := by
 rw [e]; exact zbw
set_option maxHeartbeats 4000000 in
theorem zpn (hD : DFun) (hA : AFun) (F : Fz) (hM : MLF F) (L : List Ln) (i c : Nat) (caps : Nat → Nat) (t : List UInt8) (n : List Int) (a : Int) (h : L[i]? = some (t, n)) (ht : t.length ≤ 70000) :
  Ct Tryz.prog 66 [.va (.ptr ⟨1, 0, i, 2, 0⟩), .va (.int .i64 a)] F [(1, zbm 2 caps c L), (2, famE caps L)] 3
   (stepK F c caps (L.set i (spS t.length t, n))) := by
 have hi : i < L.length := (List.getElem?_eq_some_iff.1 h).1
 rcases L with _ | ⟨a0, ar⟩
 ·exact absurd hi (by simp)
 have hne : a0 :: ar ≠ [] := by simp
 have hfa : ∀ s, famE caps ((a0 :: ar).set i (s, n)) = famE caps (a0 :: ar) := fun s => zg8 h
 have hst : (a0 :: ar).set i (t, n) = a0 :: ar := zjy h
 have hset2 : ∀ s s', ((a0 :: ar).set i (s, n)).set i (s', n) = (a0 :: ar).set i (s', n) := fun s s' => List.set_set ..
 have hget : ∀ s, ((a0 :: ar).set i (s, n))[i]? = some (s, n) := fun s => by rw [List.getElem?_set, if_pos rfl, if_pos hi]
 refine ct_of hΘ Tryz.func66 rfl (by decide) _ _ rfl rfl rfl ?_;conv=>whnf
 refine za0 hΘ (X := { x : List UInt8 × Ln × List Ln // x.2.1 :: x.2.2 = (a0 :: ar).set i (x.1, n) ∧ x.1.length ≤ t.length ∧ spS x.1.length x.1 = spS t.length t }) (fun _ => []) [4, 5, 6, 7, 8, 9, 10, 11, 12, 13, 14, 15, 16]
  (fun x => [(0, .frz F), (1, zbm 2 caps c (x.1.2.1 :: x.1.2.2)), (2, famE caps (x.1.2.1 :: x.1.2.2))]) 3 (fun x => x.1.1.length) ⟨(t, a0, ar), hst.symm, Nat.le_refl _, rfl⟩
  (fun hH hT => leI [] hH hT rfl ⟨trivial, zav (by omega) _ _ _, za1 _ _ _, trivial⟩ trivial ⟨Fz.le_refl F, za9 (fun k => rfl), zbw (μ := sig []) (caps := caps) (l := a0 :: ar), trivial⟩) ?_
 rintro ⟨⟨s, a1, r1⟩, hob, hsl, hsp⟩ hH hT
 replace hob : a1 :: r1 = (a0 :: ar).set i (s, n) := hob
 replace hsl : s.length ≤ t.length := hsl
 replace hsp : spS s.length s = spS t.length t := hsp
 have h1 : (a1 :: r1)[i]? = some (s, n) := by rw [hob]; exact hget s
 have hcell := zdb 2 caps 0 (a1 :: r1) i _ h1
 rw [Nat.zero_add] at hcell
 have hbool : hasD s = true ∨ hasD s = false := by cases hasD s <;> simp
 have hnx : ∃ a2 r2, (a0 :: ar).set i (repD s, n) = a2 :: r2 := zmo (zxk hne _ _)
 obtain ⟨a2, r2, hnx⟩ := hnx
 have hnx' : (a1 :: r1).set i (repD s, n) = a2 :: r2 := by rw [hob, hset2, hnx]
 have hfa2 : famE caps (a1 :: r1) = famE caps (a2 :: r2) := by rw [← hnx', zg8 h1]
 conv=>whnf
 refine ⟨rfl, ?_⟩;conv=>whnf
 refine ⟨_, hcell, ?_⟩;conv=>whnf
 refine useFo (hD F s hM (by omega)) rfl ⟨rfl, rfl, trivial⟩ rfl ?_
 rintro _ _ l1 ⟨rfl, rfl⟩;conv=>whnf
 refine br (fun g => ?_) (fun g => ?_)
 ·have g : hasD s = true := g
  have hlt := zj3 s g
  have hst' := zsw g
  conv=>whnf
  refine ⟨rfl, ?_⟩;conv=>whnf
  refine ⟨_, hcell, ?_⟩;conv=>whnf
  refine useFo (hA F s hM (by omega)) rfl ⟨rfl, rfl, rfl, trivial⟩ rfl ?_
  rintro _ _ l2 ⟨rfl, rfl⟩;conv=>whnf
  refine ⟨rfl, ?_⟩;conv=>whnf
  refine ⟨_, hcell, ?_⟩;conv=>whnf
  refine ⟨⟨(repD s, a2, r2), hnx.symm, by show (repD s).length ≤ t.length; omega, by show spS (repD s).length (repD s) = _; rw [← hst']; exact hsp⟩, hlt,
   leR [] hH hT rfl ⟨trivial, zav (by omega) _ _ _, za1 _ _ _, trivial⟩ trivial ⟨Fz.le_refl _, ?_, zqx hfa2, trivial⟩⟩
  have hx := zk8 (caps := caps) (c := c) (t' := repD s) (n := n) (L := a1 :: r1) (i := i) (by simp) rfl (μ := sig []) (fun k => rfl)
  rw [hnx'] at hx
  exact hx
 ·have g : hasD s = false := g
  have he : s = spS t.length t := by rw [← hsp]; exact (zwu g).symm
  have hee : a1 :: r1 = (a0 :: ar).set i (spS t.length t, n) := by rw [hob, ← he]
  conv=>whnf
  refine clean [] (.ret (.tup [])) F [(1, zbm 2 caps c ((a0 :: ar).set i (spS t.length t, n))), (2, famE caps ((a0 :: ar).set i (spS t.length t, n)))] 3 ⟨Fz.le_refl F, rfl, rfl, rfl, rfl⟩ (zat _) rfl rfl (by simp [Out.below, SV.below]) ⟨zav (by omega) _ _ _, za1 _ _ _, trivial⟩ ⟨Fz.le_refl F, ?_, ?_, trivial⟩
  ·exact zhp (fun k => rfl) hee
  ·exact zls hee
end Go.Proofs.YtblllibdahkgfaaGreatDoor

namespace Go.Proofs.YtblllibdahkgfaaGreatDoor
open Go Sx
set_option maxRecDepth 100000
theorem zgb {w : Int} (hw : 0 ≤ w ∧ w ≤ 1000000) : IntKind.i64.wrap ((IntKind.i64.wrap (w + 1)).tdiv 2) = (w + 1) / 2 ∧ (IntKind.i64.wrap (w + 1)).tdiv 2 = (w + 1) / 2 := by
 have h1 : IntKind.i64.wrap (w + 1) = w + 1 := zaj (by omega) (by omega)
 have h2 : (w + 1).tdiv 2 = (w + 1) / 2 := Int.tdiv_eq_ediv_of_nonneg (by omega)
 rw [h1, h2]
 exact ⟨zaj (by omega) (by omega), rfl⟩
set_option maxHeartbeats 4000000 in
theorem zkx (F : Fz) (w h : Int) (a : Int) (c : Nat) (caps : Nat → Nat) (hw : 0 ≤ w ∧ w ≤ 1000000) (hh : 0 ≤ h ∧ h ≤ 1000000) :
  Ct Tryz.prog 71 [.va (.ptr ⟨1, 0, 0, 0, 0⟩), .va (.int .i64 a)] F (valM ⟨false, [], w, h, []⟩ c caps) 4 (stepV F ⟨false, [], (w + 1) / 2, (h + 1) / 2, []⟩) := by
 have hv : ∀ w' h', w' = (w + 1) / 2 → h' = (h + 1) / 2 → subE (some (valE ⟨false, [], w', h', []⟩ 2 c)) ((valE ⟨false, [], (w + 1) / 2, (h + 1) / 2, []⟩ 2 c).ren (sig [])) := by
  intro w' h' e1 e2; subst e1; subst e2; rfl
 refine ct_of hΘ Tryz.func71 rfl (by decide) _ _ rfl rfl rfl ?_;conv=>whnf
 refine drawP hΘ mixed (.look 0 (.look 1 (.look 2 (.look 3 (.look 4 (.look 5 (.look 6 (.look 7 (.look 8 (.look 9 (.look 10 (.look 11 (.look 12 (.look 13 .done)))))))))))))) [1] (by kernel_rfl) ?_;conv=>whnf
 repeat' ((conv=>whnf); first
  | refine ⟨rfl, ?_⟩
  | refine ⟨Fz.le_refl _, rfl, ?_⟩
  | refine ⟨Fz.le_refl _, rfl, rfl, ?_⟩
  | refine ⟨⟨by simp, by simp⟩, ?_⟩
  | fail)
 conv=>whnf
 refine ⟨(by omega), ?_⟩;conv=>whnf
 repeat' ((conv=>whnf); first
  | refine ⟨rfl, ?_⟩
  | refine ⟨Fz.le_refl _, rfl, ?_⟩
  | refine ⟨Fz.le_refl _, rfl, rfl, ?_⟩
  | refine ⟨⟨by simp, by simp⟩, ?_⟩
  | fail)
 conv=>whnf
 refine ⟨(by omega), ?_⟩;conv=>whnf
 conv=>whnf
 refine br (fun g => absurd g (by simp)) (fun _ => ?_);conv=>whnf
 refine clean [] (.ret (.tup [])) F (valM ⟨false, [], (w + 1) / 2, (h + 1) / 2, []⟩ c caps) 4 ⟨Fz.le_refl F, rfl, rfl, rfl, c, caps, rfl⟩ (zat _) rfl rfl (by simp [Out.below, SV.below]) (zf9 _ _ _) ⟨Fz.le_refl F, ?_, trivial⟩
 first
 | exact hv _ _ (zgb hw).1 (zgb hh).1
 | exact hv _ _ (zgb hw).2 (zgb hh).2
end Go.Proofs.YtblllibdahkgfaaGreatDoor

namespace Go.Proofs.YtblllibdahkgfaaGreatDoor
open Go Sx
def halB (w : Nat) : Nat → List UInt8 → List UInt8 → List UInt8
 | _, [], o => o
 | k, b :: r, o => halB w (k + 1) r (if b = 49 then o.set (k / w / 2 * ((w + 1) / 2) + k % w / 2) 49 else o)
theorem zm6 (w : Nat) : ∀ (l : List UInt8) (k : Nat) (o : List UInt8), (halB w k l o).length = o.length
 | [], _, _ => rfl
 | b :: r, k, o => by
  rw [halB, zm6 w r]
  split
  ·exact List.length_set
  ·rfl
theorem zrx {k w h : Nat} (hk : k < w * h) : k / w / 2 * ((w + 1) / 2) + k % w / 2 < (w + 1) / 2 * ((h + 1) / 2) := by
 have hw : 0 < w := by
  rcases Nat.eq_zero_or_pos w with h0 | h0
  ·rw [h0, Nat.zero_mul] at hk; omega
  ·exact h0
 have h1 : k / w < h := Nat.div_lt_of_lt_mul hk
 have h2 : k % w < w := Nat.mod_lt _ hw
 have h3 : k / w / 2 + 1 ≤ (h + 1) / 2 := by omega
 have h4 : k % w / 2 < (w + 1) / 2 := by omega
 have h5 : (w + 1) / 2 * (k / w / 2 + 1) ≤ (w + 1) / 2 * ((h + 1) / 2) := Nat.mul_le_mul_left _ h3
 rw [Nat.mul_add, Nat.mul_one] at h5
 rw [Nat.mul_comm (k / w / 2)]
 omega
end Go.Proofs.YtblllibdahkgfaaGreatDoor

namespace Go.Proofs.YtblllibdahkgfaaGreatDoor
open Go Sx
set_option maxRecDepth 100000
def NFun : Prop := ∀ (F : Fz) (n : Nat), n ≤ 70000 → Fo Tryz.prog F 97 [.va (.str [48]), .va (.int .i64 n)] (fun o F' => F = F' ∧ o = .ret (.va (.str (List.replicate n 48))))
theorem zw3 {k w : Nat} (hw : 0 < w ∧ w ≤ 64) (hk : k < 4096) :
  IntKind.i64.wrap (IntKind.i64.wrap (IntKind.i64.wrap ((IntKind.i64.wrap ((k : Int).tdiv w)).tdiv 2) * IntKind.i64.wrap ((IntKind.i64.wrap ((w : Int) + 1)).tdiv 2)) + IntKind.i64.wrap (((k : Int).tmod w).tdiv 2)) = ((k / w / 2 * ((w + 1) / 2) + k % w / 2 : Nat) : Int) := by
 have h1 : (k : Int).tdiv w = ((k / w : Nat) : Int) := by rw [Int.tdiv_eq_ediv_of_nonneg (by omega)]; rfl
 have h2 : (k : Int).tmod w = ((k % w : Nat) : Int) := by rw [Int.tmod_eq_emod_of_nonneg (by omega)]; rfl
 have a1 : k / w ≤ k := Nat.div_le_self _ _
 have a2 : k % w < w := Nat.mod_lt _ hw.1
 rw [h1, h2]
 generalize k / w = q at *
 generalize k % w = r at *
 have h3 : (q : Int).tdiv 2 = ((q / 2 : Nat) : Int) := by rw [Int.tdiv_eq_ediv_of_nonneg (by omega)]; rfl
 have h4 : (r : Int).tdiv 2 = ((r / 2 : Nat) : Int) := by rw [Int.tdiv_eq_ediv_of_nonneg (by omega)]; rfl
 have h5 : ((w : Int) + 1).tdiv 2 = (((w + 1) / 2 : Nat) : Int) := by rw [Int.tdiv_eq_ediv_of_nonneg (by omega)]; rfl
 have a3 : q / 2 * ((w + 1) / 2) ≤ 2048 * 32 := Nat.mul_le_mul (by omega) (by omega)
 rw [zaj (n := (q : Int)) (by omega) (by omega), h3, h4, zaj (n := (w : Int) + 1) (by omega) (by omega), h5, zaj (n := ((q / 2 : Nat) : Int)) (by omega) (by omega), zaj (n := (((w + 1) / 2 : Nat) : Int)) (by omega) (by omega),
  ← Int.natCast_mul]
 generalize q / 2 * ((w + 1) / 2) = m at *
 rw [zaj (n := (m : Int)) (by omega) (by omega), zaj (n := ((r / 2 : Nat) : Int)) (by omega) (by omega), ← Int.natCast_add, zaj (by omega) (by omega)]
set_option maxHeartbeats 4000000 in
theorem zld (hN : NFun) (F : Fz) (w h : Nat) (b0 : UInt8) (br0 : List UInt8) (a : Int) (c : Nat) (caps : Nat → Nat) (hw : 0 < w ∧ w ≤ 64) (hh : 0 < h ∧ h ≤ 64) (hl : (b0 :: br0).length = w * h) :
  Ct Tryz.prog 71 [.va (.ptr ⟨1, 0, 0, 0, 0⟩), .va (.int .i64 a)] F (valM ⟨false, [], w, h, b0 :: br0⟩ c caps) 4
   (stepV F ⟨false, [], ((w : Int) + 1) / 2, ((h : Int) + 1) / 2, halB w 0 (b0 :: br0) (List.replicate ((w + 1) / 2 * ((h + 1) / 2)) 48)⟩) := by
 have e1 := zgb (w := (w : Int)) ⟨by omega, by omega⟩
 have e2 := zgb (w := (h : Int)) ⟨by omega, by omega⟩
 have hm1 : ((w : Int) + 1) / 2 = (((w + 1) / 2 : Nat) : Int) := by omega
 have hm2 : ((h : Int) + 1) / 2 = (((h + 1) / 2 : Nat) : Int) := by omega
 have harg : (((w + 1) / 2 * ((h + 1) / 2) : Nat) : Int) = IntKind.i64.wrap (IntKind.i64.wrap ((IntKind.i64.wrap ((w : Int) + 1)).tdiv 2) * IntKind.i64.wrap ((IntKind.i64.wrap ((h : Int) + 1)).tdiv 2)) := by
  have hlen : (w + 1) / 2 * ((h + 1) / 2) ≤ 32 * 32 := Nat.mul_le_mul (by omega) (by omega)
  rw [e1.1, e2.1, hm1, hm2, ← Int.natCast_mul, zaj (by omega) (by omega)]
 have hv : ∀ w' h' b', w' = ((w : Int) + 1) / 2 → h' = ((h : Int) + 1) / 2 → b' = halB w 0 (b0 :: br0) (List.replicate ((w + 1) / 2 * ((h + 1) / 2)) 48) → subE (some (valE ⟨false, [], w', h', b'⟩ 2 c)) ((valE ⟨false, [], ((w : Int) + 1) / 2, ((h : Int) + 1) / 2, halB w 0 (b0 :: br0) (List.replicate ((w + 1) / 2 * ((h + 1) / 2)) 48)⟩ 2 c).ren (sig [])) := by
  intro w' h' b' e1 e2 e3; subst e1; subst e2; subst e3; rfl
 have hrow0 : ∀ (o : List UInt8) (μ : Mu) (k : Nat), subE (some (.one (.arr 5 1 (o.map fun b => [SA.int .u8 b.toNat]) k))) ((Ent.one (.arr 5 1 (o.map encB) k)).ren μ) := fun o μ k => (zhx (l := o) zam rfl 5 1 μ k).symm
 refine ct_of hΘ Tryz.func71 rfl (by decide) _ _ rfl rfl rfl ?_;conv=>whnf
 refine drawP hΘ mixed (.look 0 (.look 1 (.look 2 (.look 3 (.look 4 (.look 5 (.look 6 (.look 7 (.look 8 (.look 9 (.look 10 (.look 11 (.look 12 (.look 13 .done)))))))))))))) [1] (by kernel_rfl) ?_;conv=>whnf
 repeat' ((conv=>whnf); first
  | refine ⟨rfl, ?_⟩
  | refine ⟨Fz.le_refl _, rfl, ?_⟩
  | refine ⟨Fz.le_refl _, rfl, rfl, ?_⟩
  | refine ⟨⟨by simp, by simp⟩, ?_⟩
  | fail)
 conv=>whnf
 refine ⟨(by omega), ?_⟩;conv=>whnf
 repeat' ((conv=>whnf); first
  | refine ⟨rfl, ?_⟩
  | refine ⟨Fz.le_refl _, rfl, ?_⟩
  | refine ⟨Fz.le_refl _, rfl, rfl, ?_⟩
  | refine ⟨⟨by simp, by simp⟩, ?_⟩
  | fail)
 conv=>whnf
 refine ⟨(by omega), ?_⟩;conv=>whnf
 conv=>whnf
 refine br (fun _ => ?_) (fun g => absurd g (by simp));conv=>whnf
 have hlen : (w + 1) / 2 * ((h + 1) / 2) ≤ 32 * 32 := Nat.mul_le_mul (by omega) (by omega)
 refine useFo (hN F ((w + 1) / 2 * ((h + 1) / 2)) (by omega)) rfl ⟨rfl, congrArg (SA.int .i64) harg, trivial⟩ rfl ?_
 rintro _ _ l1 ⟨rfl, rfl⟩;conv=>whnf
 intro c1 hc1;conv=>whnf
 intro c2 hc2;conv=>whnf
 have hm : (List.replicate ((w + 1) / 2 * ((h + 1) / 2)) (48 : UInt8)).length = (w + 1) / 2 * ((h + 1) / 2) := List.length_replicate
 refine za0 hΘ (X := { x : Nat × List UInt8 // x.1 ≤ br0.length + 1 ∧ x.2.length = (w + 1) / 2 * ((h + 1) / 2) ∧ halB w x.1 ((b0 :: br0).drop x.1) x.2 = halB w 0 (b0 :: br0) (List.replicate ((w + 1) / 2 * ((h + 1) / 2)) 48) }) (fun x => [(37, .va (.int .i64 x.1.1))]) [7, 8, 38, 39, 40, 41, 42, 43, 44, 45, 46, 47, 48, 49, 50, 51, 52, 53, 54, 55, 56, 57, 58, 59, 60, 61, 62, 63]
  (fun x => [(0, .frz F), (4, .one (.arr 5 1 (x.1.2.map encB) c1))]) 6 (fun x => br0.length + 1 - x.1.1) ⟨(0, _), by simp, hm, rfl⟩
  (fun hH hT => leI [] hH hT rfl ⟨trivial, zdm zam 5 1 6 c1 _, trivial⟩ ⟨rfl, trivial⟩ ⟨Fz.le_refl F, hrow0 _ _ _, trivial⟩) ?_
 rintro ⟨⟨k, o⟩, hk, hol, hoh⟩ hH hT
 replace hk : k ≤ br0.length + 1 := hk
 replace hol : o.length = (w + 1) / 2 * ((h + 1) / 2) := hol
 replace hoh : halB w k ((b0 :: br0).drop k) o = halB w 0 (b0 :: br0) (List.replicate ((w + 1) / 2 * ((h + 1) / 2)) 48) := hoh
 conv=>whnf
 refine br (fun gb => ?_) (fun gb => ?_)
 ·have gk : k < br0.length + 1 := by
   have h0 : (k : Int) < ((br0.length + 1 : Nat) : Int) := of_decide_eq_true gb
   omega
  clear gb
  have gl : k < (b0 :: br0).length := gk
  have hcell : ((b0 :: br0).map fun b => [SA.int .u8 b.toNat])[0 + (k : Int).toNat]? = some [SA.int .u8 ((b0 :: br0)[k]).toNat] := by
   rw [Nat.zero_add, Int.toNat_natCast, List.getElem?_map, List.getElem?_eq_getElem gl]; rfl
  conv=>whnf
  refine ⟨rfl, ⟨by simp, by show (k : Int) < ((br0.length + 1 : Nat) : Int); omega⟩, ?_⟩;conv=>whnf
  refine ⟨_, hcell, ?_⟩
  have hwh : w * h ≤ 64 * 64 := Nat.mul_le_mul hw.2 hh.2
  have hkl : k < w * h := by rw [← hl]; exact gl
  have hst0 := hoh
  rw [List.drop_eq_getElem_cons gl, halB] at hst0
  conv=>whnf
  refine br (fun gc => ?_) (fun gc => ?_)
  ·have g49 : (b0 :: br0)[k] = 49 := by
    have h0 : (((b0 :: br0)[k]).toNat : Int) = 49 := of_decide_eq_true gc
    exact UInt8.toNat_inj.1 (by show ((b0 :: br0)[k]).toNat = 49; omega)
   have hst := hst0
   rw [if_pos g49] at hst
   conv=>whnf
   refine drawP hΘ mixed (.look 0 (.look 1 (.look 2 (.look 3 (.look 4 (.look 5 (.look 6 (.look 7 (.look 8 (.look 9 (.look 10 (.look 11 (.look 12 (.look 13 (.look 14 (.look 15 (.look 16 (.look 17 (.look 18 (.last 19 .done)))))))))))))))))))) [1] (by kernel_rfl) ?_;conv=>whnf
   have hwi : (w : Int) ≠ 0 := by omega
   have h2i : (2 : Int) ≠ 0 := by decide
   have hix := zw3 (k := k) hw (by omega)
   have hib := zrx hkl
   have hi0 : 0 ≤ IntKind.i64.wrap (IntKind.i64.wrap (IntKind.i64.wrap ((IntKind.i64.wrap ((k : Int).tdiv w)).tdiv 2) * IntKind.i64.wrap ((IntKind.i64.wrap ((w : Int) + 1)).tdiv 2)) + IntKind.i64.wrap (((k : Int).tmod w).tdiv 2)) := by rw [hix]; omega
   have hi1 : IntKind.i64.wrap (IntKind.i64.wrap (IntKind.i64.wrap ((IntKind.i64.wrap ((k : Int).tdiv w)).tdiv 2) * IntKind.i64.wrap ((IntKind.i64.wrap ((w : Int) + 1)).tdiv 2)) + IntKind.i64.wrap (((k : Int).tmod w).tdiv 2)) < ((List.replicate ((w + 1) / 2 * ((h + 1) / 2)) (48 : UInt8)).length : Int) := by rw [hix, hm]; omega
   have hget : (o.map encB)[0 + (IntKind.i64.wrap (IntKind.i64.wrap (IntKind.i64.wrap ((IntKind.i64.wrap ((k : Int).tdiv w)).tdiv 2) * IntKind.i64.wrap ((IntKind.i64.wrap ((w : Int) + 1)).tdiv 2)) + IntKind.i64.wrap (((k : Int).tmod w).tdiv 2))).toNat]? = some (encB (o[k / w / 2 * ((w + 1) / 2) + k % w / 2]'(by rw [hol]; exact hib))) := by
    rw [hix, Int.toNat_natCast, Nat.zero_add, List.getElem?_map, List.getElem?_eq_getElem (by rw [hol]; exact hib)]; rfl
   have hrow2 : subE (some (.one (.arr 5 1 ((o.map encB).set (0 + (IntKind.i64.wrap (IntKind.i64.wrap (IntKind.i64.wrap ((IntKind.i64.wrap ((k : Int).tdiv w)).tdiv 2) * IntKind.i64.wrap ((IntKind.i64.wrap ((w : Int) + 1)).tdiv 2)) + IntKind.i64.wrap (((k : Int).tmod w).tdiv 2))).toNat) [.int .u8 49]) c1))) ((Ent.one (.arr 5 1 ((o.set (k / w / 2 * ((w + 1) / 2) + k % w / 2) 49).map encB) c1)).ren (sig [])) := by
    have hs2 : (o.map encB).set (k / w / 2 * ((w + 1) / 2) + k % w / 2) [SA.int .u8 49] = (o.set (k / w / 2 * ((w + 1) / 2) + k % w / 2) 49).map encB := by rw [List.map_set]; rfl
    rw [hix, Int.toNat_natCast, Nat.zero_add, hs2]; exact hrow0 _ _ _
   repeat' ((conv=>whnf); first
    | refine ⟨hwi, ?_⟩
    | refine ⟨h2i, ?_⟩
    | refine ⟨⟨hi0, hi1⟩, ?_⟩
    | refine ⟨_, hget, ?_⟩
    | refine ⟨rfl, ?_⟩
    | refine ⟨Fz.le_refl _, rfl, ?_⟩
    | refine ⟨Fz.le_refl _, rfl, rfl, ?_⟩
    | refine ⟨⟨by simp, by simp⟩, ?_⟩
    | fail)
   conv=>whnf
   exact ⟨⟨(k + 1, o.set (k / w / 2 * ((w + 1) / 2) + k % w / 2) 49), by show k + 1 ≤ br0.length + 1; omega, by rw [List.length_set]; exact hol, hst⟩, by show br0.length + 1 - (k + 1) < br0.length + 1 - k; omega,
    leR [] hH hT rfl ⟨trivial, zdm zam 5 1 6 c1 _, trivial⟩ ⟨cnt (by omega), trivial⟩ ⟨Fz.le_refl _, hrow2, trivial⟩⟩
  ·have g49 : ¬ (b0 :: br0)[k] = 49 := fun h => by
    have h0 : ¬ (((b0 :: br0)[k]).toNat : Int) = 49 := of_decide_eq_false gc
    rw [h] at h0; exact h0 rfl
   rw [if_neg g49] at hst0
   conv=>whnf
   exact ⟨⟨(k + 1, o), by show k + 1 ≤ br0.length + 1; omega, hol, hst0⟩, by show br0.length + 1 - (k + 1) < br0.length + 1 - k; omega,
    leR [] hH hT rfl ⟨trivial, zdm zam 5 1 6 c1 _, trivial⟩ ⟨cnt (by omega), trivial⟩ ⟨Fz.le_refl _, hrow0 _ _ _, trivial⟩⟩
 ·have gk : k = br0.length + 1 := by
   have h0 : ¬ (k : Int) < ((br0.length + 1 : Nat) : Int) := of_decide_eq_false gb
   omega
  clear gb
  have hfin : o = halB w 0 (b0 :: br0) (List.replicate ((w + 1) / 2 * ((h + 1) / 2)) 48) := by
   rw [← hoh, List.drop_eq_nil_of_le (by rw [gk]; simp), halB]
  have hle0 : 0 + (List.replicate ((w + 1) / 2 * ((h + 1) / 2)) (48 : UInt8)).length ≤ (o.map encB).length := by rw [hm, List.length_map, hol]; omega
  have htake : List.take (List.replicate ((w + 1) / 2 * ((h + 1) / 2)) (48 : UInt8)).length (List.drop 0 (o.map encB)) = o.map encB := by rw [hm, List.drop_zero]; exact List.take_of_length_le (by rw [List.length_map, hol]; omega)
  conv=>whnf
  refine ⟨hle0, _, htake, o, rfl, ?_⟩;conv=>whnf
  refine clean [] (.ret (.tup [])) F (valM ⟨false, [], ((w : Int) + 1) / 2, ((h : Int) + 1) / 2, halB w 0 (b0 :: br0) (List.replicate ((w + 1) / 2 * ((h + 1) / 2)) 48)⟩ c caps) 4 ⟨Fz.le_refl F, rfl, rfl, rfl, c, caps, rfl⟩ (zat _) rfl rfl (by simp [Out.below, SV.below]) (zf9 _ _ _) ⟨Fz.le_refl F, ?_, trivial⟩
  first
  | exact hv _ _ _ e1.1 e2.1 hfin
  | exact hv _ _ _ e1.2 e2.2 hfin
end Go.Proofs.YtblllibdahkgfaaGreatDoor

namespace Sx
open Go Go.RowKit
variable {F : Fence} {n : Nat} {P : Program}
def SeqZ {α : Type} (F : Fence) (n : Nat) (P : Program) (g : Nat) (lb : Array Value) (encs : α → Array Value) (zb : Nat) (S : List α → Prop) (N : Nat) (w : World) : Prop :=
 ∀ (l : Nat) (J : List α → World → Prop) (W : World), W.heap[zb]? = w.heap[zb]? → (∀ pre A v, J pre A → J pre (A.setCell ⟨zb, 0, none⟩ v)) →
  (∀ pre x W1, J pre W1 → pre.length < N → YieldAt F (n - 1) P l (encs x) W1 fun e W' => e = .returned (.bool true) ∧ J (pre ++ [x]) W' ∧ W'.heap[zb]? = W1.heap[zb]?) →
  J [] W →
  CallsIn F n P g (#[.func (.yield l) #[] #[]] ++ lb) W fun e W' => (∃ v, e = .returned v) ∧ ∃ xs, S xs ∧ J xs W'
def postZ {α : Type} (B zb : Nat) (I : List α → World → Prop) (xs : List α) (W : World) : Exit → Act → World → Prop
 | .normal, _, W' => KeepsFrom B W W' ∧ W'.heap[zb]? = W.heap[zb]? ∧ I xs W'
 | _, _, _ => False
theorem zgq {α : Type} {g : Operand} {ps : Array Tmp} {assign body : Code} {Q : Exit → Act → World → Prop} {a : Act} {w : World}
  (hro : F.round = none) (h1 : 1 ≤ n) {gf : Nat} {lb : Array Value} (hg : a.eval g = .func (.func gf) #[] lb) (hFg : F.fn gf) (eg : ∀ args w, (callFunc gf args).run P w = .ok (.enter gf args) w)
  {encs : α → Array Value} {S : List α → Prop} {N zb : Nat} (hseq : SeqZ F (n - 1) P gf lb encs zb S N w) (hzb : zb < w.heap.size) (hps : ∀ x, (encs x).size = ps.size)
  (I : List α → World → Prop) (hI : OwnFrom w.heap.size I) (hIz : ∀ pre A v, I pre A → I pre (A.setCell ⟨zb, 0, none⟩ v)) (h0 : I [] w) (a₁ : α → Act)
  (hassign : ∀ (l : Nat) (x : α) (W : World) (K : Act → World → Prop), K (a₁ x) W →
   assign.wpIn (F.inRound l) (n - 1 - 1) P (Exit.then K (fun _ _ _ => False)) { tmps := (ps.zip (encs x)).foldl (fun t (p, v) => t.setIfInBounds p v) a.tmps, defers := [] } W)
  (hbody : ∀ (l : Nat) (pre : List α) (x : α) (W : World), I pre W → pre.length < N → body.wpIn (F.inRound l) (n - 1 - 1) P (postZ w.heap.size zb I (pre ++ [x]) W) (a₁ x) W)
  (hdone : ∀ (D : Nat) (xs : List α) (W : World), w.heap.size ≤ D → S xs → I xs W → W.heap[D]? = some (.deferred (some [])) → Q .normal { a with defers := { target := .collected D, args := #[] } :: a.defers } W) :
  (Code.rangeFunc g ps assign body).wpIn F n P Q a w := by
 refine wpIn_rangeFunc ?_
 intro fn hfn
 rw [hro]
 obtain ⟨rec, hrec⟩ : ∃ rec : LoopState → Option Code → Loop, rec = fun st pe => { state := st, pending := pe, fn, tmps := a.tmps, params := ps, assign, body, defers := w.heap.size } := ⟨_, rfl⟩
 obtain ⟨W1, hW1⟩ : ∃ W1, (w.alloc (.deferred (some []))).alloc (.loop (rec .ready none)) = W1 := ⟨_, rfl⟩
 have hL1 : W1.heap[w.heap.size + 1]? = some (.loop (rec .ready none)) := by
  rw [← hW1]; have := World.alloc_heap_new (w.alloc (.deferred (some []))) (.loop (rec .ready none)); rwa [World.size_alloc] at this
 have hK1 : W1.heap[w.heap.size]? = some (.deferred (some [])) := by
  rw [← hW1]; exact (Below.heap_alloc _ _ _ (by simp)).trans (World.alloc_heap_new w _)
 have hI1 : I [] W1 := by rw [← hW1]; exact hI.alloc _ (hI.alloc _ h0)
 have hz1 : W1.heap[zb]? = w.heap[zb]? := by
  rw [← hW1]; exact (Below.heap_alloc _ _ _ (by simp; omega)).trans (Below.heap_alloc _ _ _ hzb)
 refine ⟨w.heap.size + 1, [{ target := .collected w.heap.size, args := #[] }], W1, { target := .fn (.func gf) lb, args := #[.func (.yield (w.heap.size + 1)) #[] #[]] }, W1, gf,
  #[.func (.yield (w.heap.size + 1)) #[] #[]] ++ lb, W1, ?_, ?_, ?_, ?_, fun _ => h1, ?_⟩
 ·rw [← hW1, hrec]; exact run_enterLoop_outer _ _ _ _ _
 ·simp only [resolve, hg]
  simp [go_sem]
 ·intro f' hf'; simp [Target.leads] at hf'; subst hf'; exact hFg
 ·simp [invoke, go_sem, eg]
 ·have hset : ∀ (A : World) (v : Value) (k : Nat) (o : Obj), zb < k → A.heap[k]? = some o → (A.setCell ⟨zb, 0, none⟩ v).heap[k]? = some o := fun A v k o hk ho =>
   (Below.heap_setCell A ⟨zb, 0, none⟩ v k (by show k ≠ zb; omega)).trans ho
  refine (hseq (w.heap.size + 1)
   (fun pre W => I pre W ∧ W.heap[w.heap.size + 1]? = some (.loop (rec .ready none)) ∧ W.heap[w.heap.size]? = some (.deferred (some [])))
   W1 hz1
   (fun pre A v hs => ⟨hIz pre A v hs.1, hset A v _ _ (by omega) hs.2.1, hset A v _ _ (by omega) hs.2.2⟩)
   ?_ ⟨hI1, hL1, hK1⟩).mono ?_
  ·rintro pre x W ⟨hi, hl, hk⟩ hlen
   have hlt : w.heap.size + 1 < W.heap.size := (Array.getElem?_eq_some_iff.1 hl).1
   have hy := run_yield (P := P) (args := encs x) hl (by rw [hrec]; exact hps x)
   rw [hrec] at hy
   refine ⟨fn, _, assign, body, hy, roundIn_of_wpIn hfn (hassign _ x W _ ⟨_, run_beginRound hl (by rw [hrec]), ?_⟩)⟩
   have hl2 : (W.putObj (w.heap.size + 1) (.loop { rec .ready none with state := .busy })).heap[w.heap.size + 1]? = some (.loop { rec .ready none with state := .busy }) := World.putObj_heap_same hlt
   have hk2 : (W.putObj (w.heap.size + 1) (.loop { rec .ready none with state := .busy })).heap[w.heap.size]? = some (.deferred (some [])) := (World.putObj_heap_other (by omega)).trans hk
   refine wpIn_mono (hbody _ pre x _ (hI.putObj _ hi (by omega) hl rfl) hlen) ?_
   rintro e a3 W3 hp
   cases e with
   | normal =>
    obtain ⟨hk3, hz3, hi3⟩ := hp
    have hl3 := hk3.same _ _ (by omega) hl2 rfl
    have hr := run_endRound (P := P) none hl3
    rw [hrec] at hr hl3
    refine ⟨_, _, hr, rfl, ⟨hI.putObj _ hi3 (by omega) hl3 rfl, ?_, (World.putObj_heap_other (by omega)).trans (hk3.same _ _ (Nat.le_refl _) hk2 rfl)⟩, ?_⟩
    ·rw [hrec]; exact World.putObj_heap_same (Array.getElem?_eq_some_iff.1 hl3).1
    ·rw [World.putObj_heap_other (by omega), hz3, World.putObj_heap_other (by omega)]
   | ret => exact hp.elim
   | exit id => exact hp.elim
   | goto t => exact hp.elim
   | panic ch => exact hp.elim
   | outgrown => exact hp.elim
  ·rintro e W2 ⟨⟨v, rfl⟩, xs, hS, hi, hl, hk⟩
   exact ⟨none, _, by have := run_endLoop (P := P) hl (by rw [hrec]; simp); rw [hrec] at this; exact this, hdone _ xs _ (Nat.le_refl _) hS (hI.putObj _ hi (by omega) hl rfl) ((World.putObj_heap_other (by omega)).trans hk)⟩
end Sx

namespace Go.Proofs.YtblllibdahkgfaaGreatDoor
open Go Go.RowKit Go.Shelf Sx
attribute [local go_sem] Oper.semAt_some
abbrev G7 := { x : Nat × Bool // x.1 < 128 }
def grpL (z : Nat) : List (Nat × Bool) := if z < 128 then [(z, true)] else (z % 128, false) :: grpL (z / 128)
termination_by z
decreasing_by omega
noncomputable def zAt (zb : Nat) (w : World) : Nat := match w.cell? ⟨zb, 0, none⟩ with
 | some (.int _ z) => z.toNat
 | _ => 0
theorem zus {zb : Nat} {w : World} {z : Nat} (h : Boxed w zb 130 (.int .u64 z)) : zAt zb w = z := by
 unfold zAt; rw [h.cell]; rfl
set_option maxRecDepth 100000 in
set_option maxHeartbeats 1000000 in
theorem it147 (F : Fence) (n : Nat) (h147 : F.fn 147) (hro : F.round = none) (hn : 1 ≤ n) (l zb : Nat) (z : Nat) (hz : z < 18446744073709551616) (J : List G7 → World → Prop)
  (hJz : ∀ pre A v, J pre A → J pre (A.setCell ⟨zb, 0, none⟩ v))
  (hY : ∀ pre (x : G7) W1, J pre W1 → pre.length < 10 → YieldAt F (n - 1) Tryz.prog l #[.int .u8 x.1.1, .bool x.1.2] W1 fun e W' => e = .returned (.bool true) ∧ J (pre ++ [x]) W' ∧ W'.heap[zb]? = W1.heap[zb]?)
  (W : World) (hc : Boxed W zb 130 (.int .u64 z)) (h0 : J [] W) :
  CallsIn F n Tryz.prog 147 #[.func (.yield l) #[] #[], .pointer (some ⟨zb, 0, none⟩)] W fun e W' => (∃ v, e = .returned v) ∧ ∃ xs, (xs.map (·.1) = grpL z) ∧ J xs W' := by
 refine callsIn_of_wp Tryz.func147 rfl h147 ?_ hro
 simp only [Tryz.ntmps147, List.size_toArray, List.length_cons, List.length_nil, Nat.reduceAdd, Nat.reduceSub, Array.replicate_succ, Array.replicate_zero, List.push_toArray, List.append_toArray, List.nil_append, List.cons_append]
 gi_wp2
 gi_loopw [] (fun wr => ∃ (pre : List G7) (z' : Nat), J pre wr ∧ Boxed wr zb 130 (.int .u64 z') ∧ z' < 18446744073709551616 ∧ grpL z = pre.map (·.1) ++ grpL z' ∧ z' * 128 ^ pre.length ≤ z ∧ (pre = [] ∨ 1 ≤ z')) (fun wr => zAt zb wr)
 case atStart =>
  exact ⟨[], z, h0, hc, hz, by simp, by simp, .inl rfl⟩
 case round =>
  obtain ⟨pre, z', hJ, hb, hz', hg, hpow, hpos⟩ := hrel
  have hcell := hb.cell
  have hlen : pre.length < 10 := by
   rcases hpos with rfl | hpos
   ·simp
   ·refine Nat.lt_of_not_le fun hge => ?_
    have h1 : 128 ^ 10 ≤ 128 ^ pre.length := Nat.pow_le_pow_right (by omega) hge
    have h2 : 1 * 128 ^ pre.length ≤ z' * 128 ^ pre.length := Nat.mul_le_mul_right _ hpos
    omega
  obtain ⟨fn, tmps, assign, body, hy, hR⟩ := hY pre ⟨(z' % 128, decide (z' < 128)), Nat.mod_lt _ (by omega)⟩ wr hJ hlen
  have hbits : bits BinOp.and IntKind.u64 (↑z') 127 % 256 = ((z' % 128 : Nat) : Int) := by
   rw [show (127 : Int) = ((127 : Nat) : Int) from rfl, u64_and_nat z' 127 hz' (by omega), show (127 : Nat) = 2 ^ 7 - 1 from rfl, Nat.and_two_pow_sub_one_eq_mod]; omega
  have hdec : decide ((z' : Int) < 128) = decide (z' < 128) := decide_eq_decide.2 (by omega)
  have hnn : ((z' % 128 : Nat) : Int) = (z' : Int) % 128 := by omega
  dsimp only at hy
  rw [hnn] at hy
  gi_wp2
  refine hR.mono ?_
  rintro e W3 ⟨rfl, hJ3, hz3⟩
  have hb3 : Boxed W3 zb 130 (.int .u64 z') := hz3.trans hb
  have hcell3 := hb3.cell
  have hfr3 := hb3.frozen
  by_cases hlt : z' < 128
  ·have hg1 : grpL z' = [(z', true)] := by rw [grpL, if_pos hlt]
   have e1 : z' % 128 = z' := Nat.mod_eq_of_lt hlt
   gi_wp2
   refine bodyPost_ret (results_none rfl _ _ _) rfl ?_
   refine ⟨⟨_, rfl⟩, _, ?_, hJ3⟩
   rw [hg, hg1, List.map_append]
   simp [e1, hlt]
  ·have hg1 : grpL z' = (z' % 128, false) :: grpL (z' / 128) := by rw [grpL, if_neg hlt]
   have hdiv : ((z' / 128 : Nat) : Int) = (z' : Int) / 128 := by omega
   have hb4 := hb3.set (.int .u64 ((z' / 128 : Nat) : Int))
   rw [hdiv] at hb4
   have hpw : z' / 128 * 128 ^ (pre.length + 1) ≤ z := by
    rw [Nat.pow_succ, Nat.mul_comm (128 ^ pre.length), ← Nat.mul_assoc]
    exact Nat.le_trans (Nat.mul_le_mul_right _ (Nat.div_mul_le_self z' 128)) hpow
   gi_wp2
   refine ⟨⟨_, z' / 128, hJz _ _ _ hJ3, by rw [hdiv]; exact hb4, by omega, ?_, by simpa using hpw, .inr (by omega)⟩, ?_⟩
   ·rw [hg, hg1, List.map_append]
    simp [hlt]
   ·rw [zus (z := z' / 128) (by rw [hdiv]; exact hb4), zus hb]
    omega
theorem zqd (F : Fence) (n : Nat) (h : F.fn 112) (hro : F.round = none) (z : Int) (w : World) :
  CallsIn F n Tryz.prog 112 #[.int .u64 z] w fun e w' => e = .returned (.func (.func 147) #[] #[.pointer (some ⟨w.heap.size, 0, none⟩)]) ∧ w' = w.alloc (.cells #[.int .u64 z] 130) := by
 refine callsIn_of_wp Tryz.func112 rfl h ?_ hro
 simp only [Tryz.ntmps112, List.size_toArray, List.length_cons, List.length_nil, Nat.reduceAdd, Nat.reduceSub, Array.replicate_succ, Array.replicate_zero, List.push_toArray, List.append_toArray, List.nil_append, List.cons_append]
 gi_wp2
 go_ret
 exact ⟨rfl, rfl⟩
theorem zx4 (F : Fence) (n : Nat) (h147 : F.fn 147) (hro : F.round = none) (hn : 1 ≤ n) (zb z : Nat) (hz : z < 18446744073709551616) (w : World) (hc : Boxed w zb 130 (.int .u64 z)) :
  SeqZ F n Tryz.prog 147 #[.pointer (some ⟨zb, 0, none⟩)] (fun x : G7 => #[.int .u8 x.1.1, .bool x.1.2]) zb (fun xs => xs.map (·.1) = grpL z) 10 w :=
 fun l J W hW hJz hY h0 => it147 F n h147 hro hn l zb z hz J hJz hY W (hW.trans hc) h0
end Go.Proofs.YtblllibdahkgfaaGreatDoor

namespace Go.Proofs.YtblllibdahkgfaaGreatDoor
open Go Go.RowKit Go.Shelf Sx
attribute [local go_sem] Oper.semAt_some
theorem info5 : (Tryz.prog.info? 5).map (fun i => (i.zero, i.size, i.bytes)) = some (some (.int .u8 0), 1, 1) := by kernel_rfl
def byteOf (x : Nat × Bool) : Nat := if x.2 then x.1 else x.1 + 128
theorem zp1 (x : G7) : byteOf x.1 < 256 := by
 have := x.2; unfold byteOf; split <;> omega
theorem zo7 (z : Nat) : (grpL z).map (fun x => UInt8.ofNat (byteOf x)) = putZ z := by
 rw [grpL, putZ]
 split
 ·rfl
 ·rw [List.map_cons, zo7 (z / 128)]; rfl
termination_by z
decreasing_by omega
theorem zxj (n : Int) (h : -4611686018427387903 ≤ n ∧ n ≤ 4611686018427387903) : bits BinOp.xor IntKind.u64 (IntKind.u64.wrap (IntKind.u64.wrap n * 2)) (IntKind.u64.wrap (n / 9223372036854775808)) = (zig n : Int) := by
 by_cases g : n < 0
 ·have e1 : IntKind.u64.wrap n = n + 18446744073709551616 := by rw [IntKind.wrap_u64]; omega
  have e2 : IntKind.u64.wrap ((n + 18446744073709551616) * 2) = ((n * 2 + 18446744073709551616).toNat : Int) := by rw [IntKind.wrap_u64]; omega
  have e3 : n / 9223372036854775808 = -1 := by omega
  have e4 : IntKind.u64.wrap (-1) = ((18446744073709551615 : Nat) : Int) := by decide
  rw [e1, e2, e3, e4, u64_xor_nat _ _ (by omega) (by omega), zig, if_pos g]
  have h2 : ∀ x : Nat, x < 18446744073709551616 → x ^^^ 18446744073709551615 = 18446744073709551615 - x := by
   intro x hx
   have h3 : (BitVec.ofNat 64 x ^^^ BitVec.allOnes 64).toNat = 18446744073709551615 - x := by
    rw [BitVec.xor_allOnes, BitVec.toNat_not, BitVec.toNat_ofNat, Nat.mod_eq_of_lt (by omega)]
   rw [BitVec.toNat_xor, BitVec.toNat_ofNat, Nat.mod_eq_of_lt (by omega)] at h3
   exact h3
  rw [h2 _ (by omega)]
  omega
 ·have e1 : IntKind.u64.wrap n = n := by rw [IntKind.wrap_u64]; omega
  have e2 : IntKind.u64.wrap (n * 2) = ((n * 2).toNat : Int) := by rw [IntKind.wrap_u64]; omega
  have e3 : n / 9223372036854775808 = 0 := by omega
  have e4 : IntKind.u64.wrap 0 = ((0 : Nat) : Int) := by decide
  rw [e1, e2, e3, e4, u64_xor_nat _ _ (by omega) (by omega), Nat.xor_zero, zig, if_neg g]
theorem zoi (B : Nat) (t : TypeId) : Own (fun (_ : List G7) W => ∃ u, Boxed W B t u) := fun s W W' row ⟨u, h⟩ hg hr => ⟨u, h.kept hg (fun e => by
 obtain ⟨o, ho, hc⟩ := hr _ e.symm
 rw [show W.heap[B]? = _ from h] at ho; cases ho; cases hc)⟩
set_option maxRecDepth 100000 in
set_option maxHeartbeats 2000000 in
theorem zrj (F : Fence) (k : Nat) (h80 : F.fn 80) (h112 : F.fn 112) (h147 : F.fn 147) (hro : F.round = none) (hk : 3 ≤ k) (n : Int) (hn : -4611686018427387903 ≤ n ∧ n ≤ 4611686018427387903) (w : World) :
  CallsIn F k Tryz.prog 80 #[.int .i64 n] w fun e w' => e = .returned (.tuple #[.string ⟨(putI n).toArray⟩, .int .i64 0]) ∧ Below w.heap.size w w' := by
 have h1 : 1 ≤ k := by omega
 have hz := zqe n hn
 have hx := zxj n hn
 obtain ⟨i0, hi, hz0, hz1, hz2⟩ := info_parts info5
 have hn1 : ¬ n < -4611686018427387903 := by omega
 have hn2 : ¬ 4611686018427387903 < n := by omega
 refine callsIn_of_wp_marks Tryz.func80 rfl h80 ?_ hro
 simp only [Tryz.ntmps80, List.size_toArray, List.length_cons, List.length_nil, Nat.reduceAdd, Nat.reduceSub, Array.replicate_succ, Array.replicate_zero, List.push_toArray, List.append_toArray, List.nil_append, List.cons_append]
 gi_wp2_with (gi_at_call 112; refine (zqd F (k - 1) h112 hro _ _).mono ?_; rintro e w' ⟨rfl, rfl⟩)
 have bO := Boxed.new w 40 (.slice none 0 0)
 have bN := Boxed.new (w.alloc (.cells #[.slice none 0 0] 40)) 130 (.int .u64 (zig n))
 rw [World.size_alloc] at bN
 have hB0 : Below w.heap.size w ((w.alloc (.cells #[.slice none 0 0] 40)).alloc (.cells #[.int .u64 (zig n)] 130)) := ((Below.refl _ w).alloc (Nat.le_refl _) _).alloc (by simp) _
 refine zgq hro h1 (gf := 147) (lb := #[.pointer (some ⟨w.heap.size + 1, 0, none⟩)]) rfl h147 (enters_of Tryz.func147 (by kernel_rfl) rfl)
  (zx4 F (k - 1) h147 hro (by omega) (w.heap.size + 1) (zig n) (by omega) _ bN) (by simp) (fun _ => rfl)
  (fun pre W => ((∃ v, Boxed W w.heap.size 40 v ∧ W.ownsRow w.heap.size 5 1 v pre.length (pre.map fun x => .int .u8 (byteOf x.1)) ∧ True) ∧ (∃ u, Boxed W (w.heap.size + 1) 130 u)) ∧ Below w.heap.size w W)
  (OwnFrom.and (OwnFrom.and (Own.from (holdsRow_own w.heap.size w.heap.size 40 5 1 (fun pre => pre.length) (fun pre : List G7 => pre.map fun x => .int .u8 (byteOf x.1)) (fun _ _ => True)) _) (Own.from (zoi _ _) _)) (ownFrom_below (Nat.le_refl _) (by simp; omega)))
  ?hIz ⟨⟨⟨_, bO.alloc _, World.ownsRow_nil _ _ _ _, trivial⟩, ⟨_, bN⟩⟩, hB0⟩
  (fun x => { tmps := #[.int .i64 n, undef, .string ⟨#[]⟩, .int .i64 0, .pointer (some ⟨w.heap.size, 0, none⟩), .int .u8 x.1.1, .bool x.1.2, .int .i64 n, .bool false, .bool false, .int .i64 n, .bool false, .bool false, .int .i64 n, .int .u64 (IntKind.u64.wrap n), .int .u64 (IntKind.u64.wrap (IntKind.u64.wrap n * 2)), .int .i64 n, .int .i64 (n / 9223372036854775808), .int .u64 (IntKind.u64.wrap (n / 9223372036854775808)), .int .u64 (zig n), .func (.func 147) #[] #[.pointer (some ⟨w.heap.size + 1, 0, none⟩)], .int .u8 x.1.1, .bool x.1.2, undef, undef, undef, undef, undef, undef, undef, undef, undef, undef], defers := [] }) ?assign ?body ?done
 case hIz =>
  rintro pre A v ⟨⟨⟨u, hv, hrow, -⟩, ⟨q, hq⟩⟩, hB⟩
  exact ⟨⟨⟨u, hv.kept (grownBy_setCell' A (w.heap.size + 1) v) (by simp), hrow.kept (grownBy_setCell' A (w.heap.size + 1) v) (.inr (hq.not_row (by decide) hrow).symm), trivial⟩, ⟨v, hq.set v⟩⟩, hB.setCell (p := ⟨w.heap.size + 1, 0, none⟩) (by simp) v⟩
 case assign =>
  intro l x W K hK
  gi_wp2
  exact hK
 case body =>
  rintro l pre x W ⟨⟨⟨v, hv, hrow, -⟩, ⟨q, hq⟩⟩, hB⟩ hlt
  have hc := hv.cell
  obtain ⟨⟨g, b⟩, hg⟩ := x
  have hg' : g < 128 := hg
  have hor : bits .or .u8 (g : Int) 128 = ((g + 128 : Nat) : Int) := by
   rw [show (128 : Int) = ((128 : Nat) : Int) from rfl, u8_or_nat g 128 (by omega) (by omega), Nat.or_comm]
   have := Nat.two_pow_add_eq_or_of_lt (i := 7) (b := g) (by omega) 1
   simp only [Nat.reducePow, Nat.mul_one] at this
   rw [← this, Nat.add_comm]
  cases b with
  | true =>
   gi_wp2_with (gi_at_builtin; refine wpListIn_append_own _ rfl _ _ 40 rfl w.heap.size 5 i0 (.int .u8 0) 1 1 Tryz.underlying40 hi hz0 hz1 hz2 rfl (by decide) _ _ _ rfl (hrow.alloc _) ⟨W.heap.size, 0, none⟩ 1 1 [.int .u8 g] rfl rfl (cell_one_new _ _ _) (by simp [Value.oneCell']) (by simp [maxLen]; omega) (by omega) (by have := hB.size; simp; omega) ?_; intro v' w1 hown' hgrow _; obtain ⟨g', cap', rfl⟩ := ownsRow_succ hown'; obtain ⟨hv1, hv2, hr2, hk2, hb2⟩ := hv.appended (by decide) hrow hB.size (Nat.le_refl _) hown' hgrow; have hc1 := hv1.cell; have hf1 := hv1.frozen)
   have e1 := (Below.heap_setCell w1 ⟨w.heap.size, 0, none⟩ (.slice (some ⟨g', 0, none⟩) (pre.length + 1) cap') (w.heap.size + 1) (by simp)).trans ((hq.alloc _).kept hgrow (hq.not_row (by decide) hrow))
   exact ⟨hk2.from _, e1.trans hq.symm, ⟨⟨_, hv2, by simpa [byteOf] using hr2, trivial⟩, ⟨q, e1⟩⟩, hB.trans hb2⟩
  | false =>
   gi_wp2_with (gi_at_builtin; refine wpListIn_append_own _ rfl _ _ 40 rfl w.heap.size 5 i0 (.int .u8 0) 1 1 Tryz.underlying40 hi hz0 hz1 hz2 rfl (by decide) _ _ _ rfl (hrow.alloc _) ⟨W.heap.size, 0, none⟩ 1 1 [.int .u8 ((g + 128 : Nat) : Int)] rfl rfl (cell_one_new _ _ _) (by simp [Value.oneCell']) (by simp [maxLen]; omega) (by omega) (by have := hB.size; simp; omega) ?_; intro v' w1 hown' hgrow _; obtain ⟨g', cap', rfl⟩ := ownsRow_succ hown'; obtain ⟨hv1, hv2, hr2, hk2, hb2⟩ := hv.appended (by decide) hrow hB.size (Nat.le_refl _) hown' hgrow; have hc1 := hv1.cell; have hf1 := hv1.frozen)
   have e1 := (Below.heap_setCell w1 ⟨w.heap.size, 0, none⟩ (.slice (some ⟨g', 0, none⟩) (pre.length + 1) cap') (w.heap.size + 1) (by simp)).trans ((hq.alloc _).kept hgrow (hq.not_row (by decide) hrow))
   exact ⟨hk2.from _, e1.trans hq.symm, ⟨⟨_, hv2, by simpa [byteOf] using hr2, trivial⟩, ⟨q, e1⟩⟩, hB.trans hb2⟩
 case done =>
  rintro D ys W hD hS ⟨⟨⟨v, hv, hrow, -⟩, ⟨q, hq⟩⟩, hB⟩ hK
  have hc := hv.cell
  have hgl : ys.map (fun x => UInt8.ofNat (byteOf x.1)) = putI n := by
   rw [putI, ← zo7, ← hS, List.map_map]; rfl
  have hlen : ys.length = (grpL (zig n)).length := by rw [← hS, List.length_map]
  obtain ⟨m, hm⟩ : ∃ m, ys.length = m + 1 := by
   rw [hlen, grpL]; split <;> exact ⟨_, rfl⟩
  rw [hm] at hrow
  obtain ⟨g, cap, rfl⟩ := ownsRow_succ hrow
  have hcv := run_convert_bytes_back (P := Tryz.prog) W 40 9 5 ⟨g, 0, none⟩ cap (putI n) Tryz.underlying40 Tryz.underlying5 Tryz.underlying9 (fun j hj => by
   refine hrow.cells rfl j _ ?_
   have hgj := congrArg (fun l => l[j]?) hgl
   simp only [List.getElem?_map] at hgj
   have hj' : j < ys.length := by have := congrArg List.length hgl; rw [List.length_map] at this; omega
   have hb := zp1 ys[j]
   rw [List.getElem?_eq_getElem hj', List.getElem?_eq_getElem hj, Option.map_some, Option.some.injEq] at hgj
   rw [List.getElem?_map, List.getElem?_eq_getElem hj', Option.map_some, ← hgj, UInt8.toNat_ofNat', Nat.mod_eq_of_lt (by omega)])
  have hpl : (putI n).length = m + 1 := by rw [← hgl, List.length_map, hm]
  rw [hpl] at hcv
  gi_wp2
  refine ⟨by simp, .inl ⟨_, _, rfl, run_takeDeferred hK, ?_⟩⟩
  exact ⟨_, results_tmp2 rfl _ _ _, rfl, hB.trans (belowK_b (w := w) (Nat.le_refl _) W D _ _ (by simp at hD; omega) hK rfl rfl)⟩
set_option maxRecDepth 100000 in
set_option maxHeartbeats 1000000 in
theorem zom (n : Int) (hn : n < -4611686018427387903 ∨ 4611686018427387903 < n) (w : World) :
  Calls Tryz.prog 80 #[.int .i64 n] w fun e w' => e = .returned (.tuple #[.string ⟨#[]⟩, .int .i64 10]) ∧ Below w.heap.size w w' := by
 go_enter Tryz.func80, Tryz.ntmps80
 by_cases g : n < -4611686018427387903
 ·go_wp2
  refine bodyPost_ret (results_tmp2 rfl _ _ _) rfl ⟨rfl, Below.refl _ _⟩
 ·have g2 : 4611686018427387903 < n := hn.resolve_left g
  go_wp2
  refine bodyPost_ret (results_tmp2 rfl _ _ _) rfl ⟨rfl, Below.refl _ _⟩
theorem pfun : PFun := by
 intro F n
 have hent : Sx.Enters Tryz.prog 80 := Sx.enters_of Tryz.func80 rfl (by decide)
 have key : ∀ w : World, Calls Tryz.prog 80 #[.int .i64 n] w fun e w' => e = .returned (.tuple #[.string ⟨(putIR n).1.toArray⟩, .int .i64 (putIR n).2]) ∧ Below w.heap.size w w' := by
  intro w
  by_cases hn : n < -4611686018427387903 ∨ 4611686018427387903 < n
  ·rw [putIR, if_pos hn]; exact zom n hn w
  ·rw [putIR, if_neg hn]
   exact callsIn_wide.1 (zrj Fence.wide 3 trivial trivial trivial rfl (by omega) n (by omega) w)
 have hf := zfp (F := F) (args := [.va (.int .i64 n)]) (out := .ret (.tup [.va (.str (putIR n).1), .va (.int .i64 (putIR n).2)])) (vs := [.int .i64 n]) hent rfl (by
   rintro ρ vs' h
   match vs', h with
   | [v], h => rw [h.1]; rfl) (.returned (.tuple #[.string ⟨(putIR n).1.toArray⟩, .int .i64 (putIR n).2])) (fun ρ => ⟨_, rfl, rfl⟩) (fun C ρ w _ => key w)
 exact hf
end Go.Proofs.YtblllibdahkgfaaGreatDoor
