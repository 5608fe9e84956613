import Derived.Test.YtblllibdahkgfaaGreatDoorK18

namespace Go.Proofs.YtblllibdahkgfaaGreatDoor
open Go Sx
set_option maxRecDepth 100000
theorem zd7 {p k n : Int} (hp : 1 ≤ p ∧ p ≤ 8) (h : zbu p (k, n) = true) :
  (k = 1 ∧ p = 1 ∧ n = 0) ∨ (k = 2 ∧ p = 1 ∧ n = 0) ∨ (k = 3 ∧ (p = 3 ∨ p = 5) ∧ (n = 10 ∨ n = 100 ∨ n = 1000)) ∨ (k = 4 ∧ p = 2 ∧ (0 ≤ n ∧ n ≤ 6)) ∨ (k = 5 ∧ (p = 6 ∨ p = 7) ∧ n = 0) ∨ (k = 6 ∧ n = 0) := by
 have hk : 1 ≤ k ∧ k ≤ 6 := by
  unfold zbu at h
  simp only [Bool.and_eq_true, decide_eq_true_eq] at h
  exact h.1
 have hkc : k = 1 ∨ k = 2 ∨ k = 3 ∨ k = 4 ∨ k = 5 ∨ k = 6 := by omega
 have hpc : p = 1 ∨ p = 2 ∨ p = 3 ∨ p = 4 ∨ p = 5 ∨ p = 6 ∨ p = 7 ∨ p = 8 := by omega
 rcases hkc with rfl | rfl | rfl | rfl | rfl | rfl <;> rcases hpc with rfl | rfl | rfl | rfl | rfl | rfl | rfl | rfl <;> simp [zbu, props, numOk, idx] at h ⊢ <;> omega
def foldL (x : Ln) : Ln := (Lib.toLowerA x.1, x.2)
def zla (x : Ln) : Ln := (spS x.1.length x.1, x.2)
def zk6 (n : Int) (x : Ln) : Ln := (x.1, rndN n x.2)
def limL (n : Int) (x : Ln) : Ln := (x.1, limN n x.2)
def halV (v : Val) : Val := ⟨false, [], (v.w + 1) / 2, (v.h + 1) / 2, if v.bits = [] then [] else halB v.w.toNat 0 v.bits (List.replicate ((v.w.toNat + 1) / 2 * ((v.h.toNat + 1) / 2)) 48)⟩
def stepS (s : Stp) (v : Val) : Val :=
 if s.1 = 1 then { v with lines := v.lines.map foldL } else if s.1 = 2 then { v with lines := v.lines.map zla } else if s.1 = 3 then { v with lines := v.lines.map (zk6 s.2) }
 else if s.1 = 4 then { v with lines := v.lines.map (limL s.2) } else if s.1 = 5 then halV v else loseV
theorem zei {p : Int} : ∀ {acc l : List Ln}, lnsOk p acc l → ∀ x ∈ l, ∃ b, lnOk p b x
 | _, [], _, x, hx => absurd hx (by simp)
 | acc, y :: r, h, x, hx => by
  rcases List.mem_cons.1 hx with rfl | hx
  ·exact ⟨acc, h.1⟩
  ·exact zei h.2 x hx
theorem zdz {p : Int} {v : Val} (h : VOK p v) (hl : v.lost = false) (hp : p ≤ 5) : v.w = 0 ∧ v.h = 0 ∧ v.bits = [] ∧ v.lines.length ≤ 64 ∧ lnsOk p [] v.lines := by
 rcases h with rfl | ⟨_, h⟩
 ·cases hl
 ·rw [if_neg (by omega), if_neg (by omega)] at h; exact h
theorem ziw {p : Int} {v : Val} (h : VOK p v) (hl : v.lost = false) (hp : p = 6 ∨ p = 7) : v.lines = [] ∧ (0 ≤ v.w ∧ v.w ≤ 32) ∧ (min v.w 1 ≤ v.h ∧ v.h ≤ min v.w 1 * 32) ∧ (if p = 7 then (v.bits.length : Int) = v.w * v.h ∧ v.bits.all (fun b => b == 48 || b == 49) = true else v.bits = []) := by
 rcases h with rfl | ⟨_, h⟩
 ·cases hl
 ·rw [if_neg (by omega), if_pos (by omega)] at h; exact h
theorem zvq {s : List UInt8} (h : s.any badC = false) : ∀ b ∈ s, 32 ≤ b.toNat ∧ b.toNat ≤ 126 := by
 intro b hb
 have h1 := List.any_eq_false.1 h b hb
 simpa [badC] using h1
set_option maxHeartbeats 4000000 in
theorem zt0 (F : Fz) (g b : Nat) (w h : Int) (bits : List UInt8) (lost : Bool) (a : Int) (c : Nat) (caps : Nat → Nat) (hb : F b = some (eF g)) :
  Ct Tryz.prog 93 [.va (.ptr ⟨1, 0, 0, 0, 0⟩), .va (.int .i64 a), .va (.ptr (fp b))] F (valM ⟨lost, [], w, h, bits⟩ c caps) 4 (stepV F ⟨lost, [], w, h, bits⟩) := by
 refine ct_of hΘ Tryz.func93 rfl (by decide) _ _ rfl rfl rfl ?_;conv=>whnf
 refine rounds hΘ 1 ?_;conv=>whnf
 refine br (fun g => absurd g (by decide)) (fun _ => ?_);conv=>whnf
 refine clean [] (.ret (.tup [])) F (valM ⟨lost, [], w, h, bits⟩ c caps) 4 ⟨Fz.le_refl F, rfl, rfl, rfl, c, caps, rfl⟩ (zat _) rfl rfl (by simp [Out.below, SV.below]) (zf9 _ _ _) ⟨Fz.le_refl F, rfl, trivial⟩
theorem zgr (F : Fz) (g b : Nat) (f : Ln → Ln) (w h : Int) (bits : List UInt8) (lost : Bool) (L : List Ln) (a : Int) (c : Nat) (caps : Nat → Nat) (hb : F b = some (eF g)) (hl : L.length ≤ 1000000) (hG : ∀ x ∈ L, zuo g F c caps a f x) :
  Ct Tryz.prog 93 [.va (.ptr ⟨1, 0, 0, 0, 0⟩), .va (.int .i64 a), .va (.ptr (fp b))] F (valM ⟨lost, L, w, h, bits⟩ c caps) 4 (stepV F ⟨lost, L.map f, w, h, bits⟩) := by
 by_cases hne : L = []
 ·subst hne; exact zt0 F g b w h bits lost a c caps hb
 ·exact zsp F g b f w h bits lost L a c caps hb hne hl hG
def doG (k : Int) : Nat := if k = 5 then 71 else if k = 6 then 72 else 93
def doC (b : Nat → Nat) (k : Int) : List Pl := if k = 1 then [fp (b 6)] else if k = 2 then [fp (b 7)] else if k = 3 then [fp (b 8)] else if k = 4 then [fp (b 9)] else []
theorem do_fn (F : Fz) (b : Nat → Nat) (hK : KindsAt F b) (hM : MLF F) (p k n : Int) (v : Val) (hp : 1 ≤ p ∧ p ≤ 8) (hok : zbu p (k, n) = true) (hv : VOK p v) (hnl : v.lost = false) (c : Nat) (caps : Nat → Nat) :
  Ct Tryz.prog (doG k) ([.va (.ptr ⟨1, 0, 0, 0, 0⟩), .va (.int .i64 n)] ++ (doC b k).map fun p => SV.va (.ptr p)) F (valM v c caps) 4 (stepV F (stepS (k, n) v)) := by
 have hpc := zd7 hp hok
 obtain ⟨lost, L, w, h, bits⟩ := v
 replace hnl : lost = false := hnl
 subst hnl
 rcases hpc with ⟨rfl, rfl, rfl⟩ | ⟨rfl, rfl, rfl⟩ | ⟨rfl, hp, hn⟩ | ⟨rfl, rfl, hn⟩ | ⟨rfl, hp, rfl⟩ | ⟨rfl, rfl⟩
 ·obtain ⟨_, _, _, hl, ho⟩ := zdz hv rfl (by omega)
  replace hl : L.length ≤ 64 := hl
  refine zgr F 65 (b 6) foldL w h bits false L 0 c caps hK.h6 (by omega) fun x hx L' i hi => ?_
  obtain ⟨bf, hx'⟩ := zei ho x hx
  rw [lnOk, if_pos rfl] at hx'
  obtain ⟨t, m⟩ := x
  exact zv6 lfun F L' i c caps t m 0 hi (by have h9 : t.length ≤ 80 := hx'.2.1; omega) (fun b hb => by have := zvq hx'.2.2 b hb; omega)
 ·obtain ⟨_, _, _, hl, ho⟩ := zdz hv rfl (by omega)
  replace hl : L.length ≤ 64 := hl
  refine zgr F 66 (b 7) zla w h bits false L 0 c caps hK.h7 (by omega) fun x hx L' i hi => ?_
  obtain ⟨bf, hx'⟩ := zei ho x hx
  rw [lnOk, if_pos rfl] at hx'
  obtain ⟨t, m⟩ := x
  exact zpn dfun afun F hM L' i c caps t m 0 hi (by have h9 : t.length ≤ 80 := hx'.2.1; omega)
 ·obtain ⟨_, _, _, hl, ho⟩ := zdz hv rfl (by omega)
  replace hl : L.length ≤ 64 := hl
  refine zgr F 68 (b 8) (zk6 n) w h bits false L n c caps hK.h8 (by omega) fun x hx L' i hi => ?_
  obtain ⟨bf, hx'⟩ := zei ho x hx
  rw [lnOk, if_neg (by omega)] at hx'
  obtain ⟨t, m⟩ := x
  obtain ⟨_, h2, h3, _⟩ := hx'
  have h2' : m.length = 3 := by
   rw [show cols p = 3 by rcases hp with rfl | rfl <;> rfl] at h2; exact h2
  match m, h2', h3, hi with
  | [x, y, z], _, h3, hi =>
   have hz : -1000000000000 ≤ z ∧ z ≤ 1000000000000 := by
    have h4 := h3.2.2.1
    rcases hp with rfl | rfl
    ·have e : bnd 3 (([] ++ [x]) ++ [y]) = (-1000000, 1000000) := rfl
     rw [e] at h4; dsimp only at h4; omega
    ·have e : bnd 5 (([] ++ [x]) ++ [y]) = (-1000000000000, 1000000000000) := rfl
     rw [e] at h4; exact h4
   exact zry F L' i c caps t x y z n [] hi (by omega) (by omega) (by omega) (by omega)
 ·obtain ⟨_, _, _, hl, ho⟩ := zdz hv rfl (by omega)
  replace hl : L.length ≤ 64 := hl
  refine zgr F 70 (b 9) (limL n) w h bits false L n c caps hK.h9 (by omega) fun x hx L' i hi => ?_
  obtain ⟨bf, hx'⟩ := zei ho x hx
  rw [lnOk, if_neg (by omega)] at hx'
  obtain ⟨t, m⟩ := x
  obtain ⟨_, h2, h3, _⟩ := hx'
  match m, (h2 : m.length = 1), hi with
  | [x], _, hi => exact zr8 F L' i c caps t x n [] hi
 ·obtain ⟨hL, hw, hh, hb⟩ := ziw hv rfl hp
  replace hL : L = [] := hL
  subst hL
  replace hw : 0 ≤ w ∧ w ≤ 32 := hw
  replace hh : min w 1 ≤ h ∧ h ≤ min w 1 * 32 := hh
  by_cases hbn : bits = []
  ·subst hbn
   exact zkx F w h 0 c caps (by omega) (by omega)
  ·have h7 : p = 7 := by
    rcases hp with rfl | rfl
    ·exact absurd hb hbn
    ·rfl
   rw [if_pos h7] at hb
   replace hb : (bits.length : Int) = w * h ∧ _ := hb
   rcases bits with _ | ⟨b0, br⟩
   ·exact absurd rfl hbn
   have hpos : 0 < w ∧ 0 < h := by
    have hl0 : (0 : Int) < w * h := by rw [← hb.1]; simp only [List.length_cons]; omega
    have h0 : 0 ≤ h := by omega
    by_cases hw0 : w = 0
    ·rw [hw0, Int.zero_mul] at hl0; omega
    ·by_cases hh0 : h = 0
     ·rw [hh0, Int.mul_zero] at hl0; omega
     ·omega
   obtain ⟨W, rfl⟩ : ∃ W : Nat, w = W := ⟨w.toNat, by omega⟩
   obtain ⟨H, rfl⟩ : ∃ H : Nat, h = H := ⟨h.toNat, by omega⟩
   have := zld nfun F W H b0 br 0 c caps (by omega) (by omega) (by have := hb.1; rw [← Int.natCast_mul] at this; omega)
   exact this
 ·exact zv4 F ⟨false, L, w, h, bits⟩ 0 c caps
end Go.Proofs.YtblllibdahkgfaaGreatDoor

namespace Go.Proofs.YtblllibdahkgfaaGreatDoor
open Go Sx
theorem getLast?_map' {α β : Type} (f : α → β) (l : List α) : (l.map f).getLast? = l.getLast?.map f := by
 simp
theorem zlv {p : Int} {f : Ln → Ln} (hf : ∀ acc x, lnOk p acc x → lnOk p (acc.map f) (f x)) : ∀ (l acc : List Ln), lnsOk p acc l → lnsOk p (acc.map f) (l.map f)
 | [], _, _ => trivial
 | x :: r, acc, h => by
  refine ⟨hf _ _ h.1, ?_⟩
  have := zlv hf r (acc ++ [x]) h.2
  rw [List.map_append] at this
  exact this
theorem zxs : ∀ b : UInt8, badC b = false → badC (Lib.lowerB b) = false := by
 intro b
 have : ∀ n : Fin 256, badC (UInt8.ofNat n.1) = false → badC (Lib.lowerB (UInt8.ofNat n.1)) = false := by decide +kernel
 have h := this ⟨b.toNat, b.toNat_lt⟩
 simpa using h
theorem zmn {s : List UInt8} (h : s.any badC = false) : (Lib.toLowerA s).any badC = false := by
 refine List.any_eq_false.2 fun b hb => ?_
 obtain ⟨a, ha, rfl⟩ := List.mem_map.1 hb
 rw [zxs a (by simpa using List.any_eq_false.1 h a ha)]
 simp
theorem zj9 : ∀ {s : List UInt8} {b : UInt8}, b ∈ repD s → b ∈ s
 | [], _, h => h
 | [a], _, h => h
 | a :: c :: r, b, h => by
  rw [repD] at h
  split at h
  ·rename_i hc
   simp only [Bool.and_eq_true, beq_iff_eq] at hc
   rcases List.mem_cons.1 h with rfl | h
   ·rw [hc.1]; simp
   ·exact List.mem_cons_of_mem _ (List.mem_cons_of_mem _ (zj9 h))
  ·rcases List.mem_cons.1 h with rfl | h
   ·simp
   ·exact List.mem_cons_of_mem _ (zj9 h)
theorem zqn : ∀ {f : Nat} {s : List UInt8} {b : UInt8}, b ∈ spS f s → b ∈ s
 | 0, _, _, h => h
 | f + 1, s, b, h => by
  rw [spS] at h
  split at h
  ·exact zj9 (zqn h)
  ·exact h
theorem zui : ∀ (f : Nat) (s : List UInt8), (spS f s).length ≤ s.length
 | 0, _ => Nat.le_refl _
 | f + 1, s => by
  rw [spS]; split
  ·exact Nat.le_trans (zui f _) (zkk s)
  ·exact Nat.le_refl _
theorem zvs {p : Int} (hp : p = 1) (acc : List Ln) (x : Ln) (h : lnOk p acc x) : lnOk p (acc.map foldL) (foldL x) := by
 unfold lnOk at *
 rw [if_pos hp] at *
 exact ⟨h.1, by show (Lib.toLowerA x.1).length ≤ 80; unfold Lib.toLowerA; rw [List.length_map]; exact h.2.1, zmn h.2.2⟩
theorem ztf {p : Int} (hp : p = 1) (acc : List Ln) (x : Ln) (h : lnOk p acc x) : lnOk p (acc.map zla) (zla x) := by
 unfold lnOk at *
 rw [if_pos hp] at *
 refine ⟨h.1, Nat.le_trans (zui _ _) h.2.1, List.any_eq_false.2 fun b hb => ?_⟩
 exact List.any_eq_false.1 h.2.2 b (zqn hb)
theorem zn1 (n : Int) : ∀ l : List Int, (rndN n l).take 2 = l.take 2
 | [] => rfl
 | [_] => rfl
 | [_, _] => rfl
 | _ :: _ :: _ :: _ => rfl
theorem zm4 {z n : Int} (hn : 0 < n) (hz : 0 ≤ z) : z % n ≤ z := by
 have h1 := Int.emod_add_mul_ediv z n
 have h2 : 0 ≤ n * (z / n) := Int.mul_nonneg (by omega) (Int.ediv_nonneg hz (by omega))
 omega
theorem zrl {z n : Int} (hn : 0 < n) {b : Int} (h : -b ≤ z ∧ z ≤ b) : -b ≤ z - z.tmod n ∧ z - z.tmod n ≤ b := by
 by_cases hz : 0 ≤ z
 ·have h1 : 0 ≤ z.tmod n := Int.tmod_nonneg _ hz
  have h2 : z.tmod n ≤ z := by rw [Int.tmod_eq_emod_of_nonneg hz]; exact zm4 hn hz
  omega
 ·have e : z.tmod n = -((-z).tmod n) := by rw [Int.neg_tmod]; omega
  have h1 : 0 ≤ (-z).tmod n := Int.tmod_nonneg _ (by omega)
  have h2 : (-z).tmod n ≤ -z := by rw [Int.tmod_eq_emod_of_nonneg (by omega)]; exact zm4 hn (by omega)
  omega
theorem three {α : Type} {l : List α} (h : l.length = 3) : ∃ a b c, l = [a, b, c] := by
 match l, h with
 | [a, b, c], _ => exact ⟨a, b, c, rfl⟩
theorem ztw {p n : Int} (hp : p = 3 ∨ p = 5) (hn : 0 < n) (acc : List Ln) (x : Ln) (h : lnOk p acc x) : lnOk p (acc.map (zk6 n)) (zk6 n x) := by
 unfold lnOk at *
 rw [if_neg (by omega)] at *
 obtain ⟨h1, h2, h3, h4⟩ := h
 have h2' : x.2.length = 3 := by rw [h2]; rcases hp with rfl | rfl <;> rfl
 obtain ⟨t, m⟩ := x
 obtain ⟨a, b, z, rfl⟩ := three h2'
 refine ⟨h1, h2, ⟨h3.1, h3.2.1, ?_, trivial⟩, fun h y hy => ?_⟩
 ·have h5 := h3.2.2.1
  rcases hp with rfl | rfl
  ·exact zrl hn h5
  ·exact zrl hn h5
 ·rw [getLast?_map'] at hy
  cases hl : acc.getLast? with
  | none => rw [hl] at hy; cases hy
  | some y0 =>
   rw [hl] at hy
   cases hy
   have := h4 h y0 hl
   show cmpL ((rndN n y0.2).take 2) ((rndN n [a, b, z]).take 2) < 0
   rw [zn1, zn1]; exact this
theorem zt5 {p n : Int} (hp : p = 2) (acc : List Ln) (x : Ln) (h : lnOk p acc x) : lnOk p (acc.map (limL n)) (limL n x) := by
 subst hp
 unfold lnOk at *
 rw [if_neg (by omega)] at *
 obtain ⟨h1, h2, h3, h4⟩ := h
 obtain ⟨t, m⟩ := x
 match m, (h2 : m.length = 1), h3 with
 | [a], _, h3 =>
  refine ⟨h1, rfl, ⟨?_, trivial⟩, fun h => absurd rfl h⟩
  have h5 := h3.1
  have e : bnd 2 [] = (0, 7) := rfl
  rw [e] at h5 ⊢
  dsimp only at h5 ⊢
  split <;> omega
theorem znq (w : Nat) : ∀ (l : List UInt8) (k : Nat) (o : List UInt8), o.all (fun b => b == 48 || b == 49) = true → (halB w k l o).all (fun b => b == 48 || b == 49) = true
 | [], _, _, h => h
 | b :: r, k, o, h => by
  rw [halB]
  refine znq w r (k + 1) _ ?_
  split
  ·refine List.all_eq_true.2 fun x hx => ?_
   rcases List.mem_or_eq_of_mem_set hx with hx | rfl
   ·exact List.all_eq_true.1 h x hx
   ·rfl
  ·exact h
theorem zvw {p : Int} {v : Val} (hp : p = 6 ∨ p = 7) (hv : VOK p v) (hl : v.lost = false) : VOK p (halV v) := by
 obtain ⟨hL, hw, hh, hb⟩ := ziw hv hl hp
 right
 refine ⟨rfl, ?_⟩
 rw [if_neg (by omega), if_pos (by omega)]
 refine ⟨rfl, ⟨by show 0 ≤ (v.w + 1) / 2; omega, by show (v.w + 1) / 2 ≤ 32; omega⟩, ⟨by show min ((v.w + 1) / 2) 1 ≤ (v.h + 1) / 2; omega, by show (v.h + 1) / 2 ≤ min ((v.w + 1) / 2) 1 * 32; omega⟩, ?_⟩
 rcases hp with h6 | h7
 ·rw [if_neg (by omega)] at hb ⊢
  show (if v.bits = [] then [] else _) = []
  rw [if_pos hb]
 ·rw [if_pos h7] at hb ⊢
  show (((if v.bits = [] then ([] : List UInt8) else halB v.w.toNat 0 v.bits (List.replicate ((v.w.toNat + 1) / 2 * ((v.h.toNat + 1) / 2)) 48)).length : Nat) : Int) = (v.w + 1) / 2 * ((v.h + 1) / 2) ∧ (if v.bits = [] then ([] : List UInt8) else halB v.w.toNat 0 v.bits (List.replicate ((v.w.toNat + 1) / 2 * ((v.h.toNat + 1) / 2)) 48)).all (fun b => b == 48 || b == 49) = true
  split
  ·rename_i hn
   have hz := hb.1
   rw [hn] at hz
   have hz' : v.w * v.h = 0 := hz.symm
   have hw0 : v.w = 0 := by
    rcases Int.mul_eq_zero.1 hz' with h | h
    ·exact h
    ·omega
   have e1 : (v.w + 1) / 2 = 0 := by omega
   rw [e1]; simp
  ·refine ⟨?_, znq _ _ _ _ (by simp)⟩
   rw [zm6, List.length_replicate]
   have e1 : (((v.w.toNat + 1) / 2 : Nat) : Int) = (v.w + 1) / 2 := by omega
   have e2 : (((v.h.toNat + 1) / 2 : Nat) : Int) = (v.h + 1) / 2 := by omega
   rw [Int.natCast_mul, e1, e2]
theorem zs7 {p : Int} {s : Stp} {v : Val} (hp : 1 ≤ p ∧ p ≤ 8) (hok : zbu p s = true) (hv : VOK p v) (hl : v.lost = false) : VOK p (stepS s v) := by
 obtain ⟨k, n⟩ := s
 have lines : ∀ f : Ln → Ln, p ≤ 5 → (∀ acc x, lnOk p acc x → lnOk p (acc.map f) (f x)) → VOK p { v with lines := v.lines.map f } := fun f h5 hf => by
  obtain ⟨h1, h2, h3, h4, h6⟩ := zdz hv hl h5
  right
  refine ⟨hl, ?_⟩
  rw [if_neg (by omega), if_neg (by omega)]
  exact ⟨h1, h2, h3, by show (v.lines.map f).length ≤ 64; rw [List.length_map]; exact h4, zlv hf v.lines [] h6⟩
 rcases zd7 hp hok with ⟨rfl, h, rfl⟩ | ⟨rfl, h, rfl⟩ | ⟨rfl, h, hn⟩ | ⟨rfl, h, hn⟩ | ⟨rfl, h, rfl⟩ | ⟨rfl, rfl⟩
 ·exact lines _ (by omega) (zvs h)
 ·exact lines _ (by omega) (ztf h)
 ·exact lines _ (by omega) (ztw h (by omega))
 ·exact lines _ (by omega) (zt5 h)
 ·exact zvw h hv hl
 ·exact .inl rfl
def runS (l : List Stp) (v : Val) : Val := l.foldl (fun v s => if v.lost = true then v else stepS s v) v
theorem zj7 {p : Int} (hp : 1 ≤ p ∧ p ≤ 8) : ∀ (l : List Stp) (v : Val), (∀ s ∈ l, zbu p s = true) → VOK p v → VOK p (runS l v)
 | [], _, _, h => h
 | s :: r, v, hok, h => by
  refine zj7 hp r _ (fun x hx => hok x (by simp [hx])) ?_
  show VOK p (if v.lost = true then v else stepS s v)
  split
  ·exact h
  ·rename_i hl; exact zs7 hp (hok s (by simp)) h (by simpa using hl)
theorem zq7 {p : Int} {v : Val} (hp : 1 ≤ p ∧ p ≤ 8) (hv : VOK p v) : Fits v := by
 rcases hv with rfl | ⟨hl, hv⟩
 ·exact ⟨by show 0 ≤ 1000; omega, fun x hx => absurd hx (by simp [loseV]), by show 0 ≤ 70000; omega⟩
 ·split at hv
  ·exact ⟨by rw [hv.1]; simp, fun x hx => by rw [hv.1] at hx; simp at hx, by rw [hv.2.1]; simp⟩
  ·split at hv
   ·refine ⟨by rw [hv.1]; simp, fun x hx => by rw [hv.1] at hx; simp at hx, ?_⟩
    have h4 := hv.2.2.2
    split at h4
    ·have h5 : v.w * v.h ≤ 32 * 32 := by
      have : v.w * v.h ≤ 32 * v.h := Int.mul_le_mul_of_nonneg_right hv.2.1.2 (by omega)
      omega
     omega
    ·rw [h4]; simp
   ·refine ⟨by omega, fun x hx => ?_, by rw [hv.2.2.1]; simp⟩
    obtain ⟨b, hb⟩ := zei hv.2.2.2.2 x hx
    unfold lnOk at hb
    split at hb
    ·exact ⟨by omega, by rw [hb.1]; simp⟩
    ·refine ⟨by rw [hb.1]; simp, ?_⟩
     rw [hb.2.1]; unfold cols; split <;> (try split) <;> (try split) <;> (try split) <;> omega
def zdt (p : Int) (l : List Stp) (s : List UInt8) : List UInt8 × Int :=
 if zbl p l = true then match readS p s with
  | none => ([], 70)
  | some v => (zay p (runS l v), 0)
 else ([], 70)
end Go.Proofs.YtblllibdahkgfaaGreatDoor

namespace Sx
open Go
def dB (n : Nat) (d : List (FuncId × List SA)) : Bool := d.all fun x => x.2.all fun a => a.bB n
theorem dB_ok {n : Nat} {d : List (FuncId × List SA)} (h : dB n d = true) : ∀ x ∈ d, ∀ a ∈ x.2, a.below n := fun x hx a ha =>
 SA.bB_ok (List.all_eq_true.1 (List.all_eq_true.1 h x hx) a ha)
theorem leId {T : List (List (Nat × SV))} {upd jl : List (Nat × SV)} {H : Hp} {hup : List (Nat × Ent)} {n0 nt N0 N : Nat} {d : List (FuncId × List SA)} (s : List (Nat × Mv)) (hH : WfH H N0) (hT : WfT T N0)
  (hc : (ckI s upd jl hup n0 nt N0 N && dB N0 d) = true) (wh : bH N hup) (ht : leT s T upd) (hh : leH s H hup) : Le ⟨T, H, N0, n0, nt, d⟩ ⟨upd :: jl :: T, hup :: H, N, n0, nt, d⟩ := by
 simp only [ckI, Bool.and_eq_true] at hc
 obtain ⟨⟨⟨⟨⟨⟨c1, c2⟩, c3⟩, c4⟩, c5⟩, c6⟩, c7⟩ := hc
 exact zl3 N s hH hT c4 c3 (dB_ok c7) c1 c2 c6 (bT_of c5) wh ht hh
theorem leRd {T : List (List (Nat × SV))} {top upd jl : List (Nat × SV)} {H : Hp} {htop hup : List (Nat × Ent)} {nx1 n0 nt N0 N : Nat} {d : List (FuncId × List SA)} (s : List (Nat × Mv)) (hH : WfH H N0) (hT : WfT T N0)
  (hc : (ckI s upd jl hup n0 nt N0 N && (top.all fun p => (aget upd p.1).isSome || (aget jl p.1).isSome) && (htop.all fun p => (aget hup p.1).isSome || Nat.ble N0 p.1) && dB N0 d) = true)
  (wh : bH N hup) (ht : leT s (top :: jl :: T) upd) (hh : leH s (htop :: H) hup) : Le ⟨top :: jl :: T, htop :: H, nx1, n0, nt, d⟩ ⟨upd :: jl :: T, hup :: H, N, n0, nt, d⟩ := by
 simp only [ckI, Bool.and_eq_true] at hc
 obtain ⟨⟨⟨⟨⟨⟨⟨⟨c1, c2⟩, c3⟩, c4⟩, c5⟩, c6⟩, c7⟩, c8⟩, c9⟩ := hc
 exact zjo N0 N s hH hT c4 c3 (dB_ok c9) c1 c2 c7 c8 c6 (bT_of c5) wh ht hh
end Sx
namespace Go.Proofs.YtblllibdahkgfaaGreatDoor
open Go Sx
set_option maxRecDepth 100000
def valN (v : Val) (c : Nat) (caps : Nat → Nat) : List (Nat × Ent) := [(1, valE v 2 c), (2, zbm 3 caps c v.lines), (3, famE caps v.lines)]
theorem zfl (v : Val) (c : Nat) (caps : Nat → Nat) : bH 4 (valN v c caps) := ⟨zb9 (by omega) _, zav (by omega) _ _ _, za1 _ _ _, trivial⟩
theorem zrr (e : Ent) : e.ren (sig []) = e := by
 have h : ∀ a : SA, a.ren (sig []) = a := fun a => SA.ren_id (.inr fun _ _ => rfl) (fun _ => rfl)
 have hb : ∀ b : SB, b.ren (sig []) = b := fun b => by
  cases b with
  | cells t l => simp [SB.ren, zdk fun a _ => h a]
  | arr t sz L room =>
   simp only [SB.ren]; congr 1
   exact zdk fun x _ => zdk fun a _ => h a
  | obj o => rfl
 cases e <;> simp [Ent.ren, hb]
theorem zlk (v : Val) (c : Nat) : subE (some (valE v 2 c)) ((valE v 2 c).ren (sig [])) := by
 rw [zrr]; exact rfl
theorem zxr {C : Ctx} {ρ : Rho} {F : Fz} {v : Val} {c : Nat} {caps : Nat → Nat} {w : World} (S : Sat C ρ [(0, .frz F) :: valM v c caps] 4 w) : Sat C ρ [(0, .frz F) :: valN v c caps] 4 w := by
 obtain ⟨lost, L, w1, h, bits⟩ := v
 cases L with
 | cons x r => exact S
 | nil => exact zmf (s := []) S (N0 := 4) (N := 4) rfl S.n0 (Nat.le_refl _) ⟨trivial, zfl _ _ _⟩ ⟨Fz.le_refl F, zlk _ _, rfl, trivial, trivial⟩ (fun i hi => match i, hi with | 0, _ => rfl | 1, _ => rfl | 2, _ => rfl | 3, _ => rfl)
theorem zxa {C : Ctx} {ρ : Rho} {F : Fz} {v : Val} {c : Nat} {caps : Nat → Nat} {w : World} (S : Sat C ρ [(0, .frz F) :: valN v c caps] 4 w) : Sat C ρ [(0, .frz F) :: valM v c caps] 4 w := by
 obtain ⟨lost, L, w1, h, bits⟩ := v
 cases L with
 | cons x r => exact S
 | nil => exact zmf (s := []) S (N0 := 4) (N := 4) rfl S.n0 (Nat.le_refl _) ⟨trivial, zf9 _ _ _⟩ ⟨Fz.le_refl F, zlk _ _, trivial⟩ (fun i hi => match i, hi with | 0, _ => rfl | 1, _ => rfl | 2, _ => rfl | 3, _ => rfl)
def stepN (F : Fz) (v : Val) : Out → Fz → List (Nat × Ent) → Nat → Prop := fun o F0 h0 n0 => F0 = F ∧ n0 = 4 ∧ o = .ret (.tup []) ∧ ∃ c caps, h0 = valN v c caps
theorem zvk {f : FuncId} {args : List SV} {F : Fz} {v v' : Val} {c : Nat} {caps : Nat → Nat} (h : Ct Tryz.prog f args F (valM v c caps) 4 (stepV F v')) : Ct Tryz.prog f args F (valN v c caps) 4 (stepN F v') := by
 unfold Ct zcb at *
 intro C ρ w vs S hr hb
 obtain ⟨he, hc⟩ := h C ρ w vs (zxa S) hr hb
 refine ⟨he, hc.mono ?_⟩
 rintro e w' ⟨out, h', nx', ρ', hk, rest⟩
 refine ⟨out, h', nx', ρ', ?_, rest⟩
 unfold Cln at *
 intro C' ρ'' w'' e' hn S' hr' hb'
 obtain ⟨out0, F0, h0, n0, ρ0, ⟨k1, k2, rfl, k4, c', caps', rfl⟩, q1, q2, q3, q4⟩ := hk C' ρ'' w'' e' hn S' hr' hb'
 exact ⟨out0, F0, _, 4, ρ0, ⟨k1, k2, rfl, k4, c', caps', rfl⟩, q1, q2, zxr q3, rfl⟩
end Go.Proofs.YtblllibdahkgfaaGreatDoor

namespace Go.Proofs.YtblllibdahkgfaaGreatDoor
open Go Sx
set_option maxRecDepth 100000
theorem zpw {α : Type} {τ μ : Mu} {i j m : Nat} (h1 : τ i 0 = (m, 0)) (h2 : μ j 0 = (m, 0)) (sz c : Nat) (l : List α) : (gA sz i c l).ren τ = (gA sz j c l).ren μ := by
 cases l with
 | nil => rfl
 | cons x r => simp only [gA, SA.ren, h1, h2]
theorem zd5 {τ μ : Mu} {i j m : Nat} (h1 : τ i 0 = (m, 0)) (h2 : μ j 0 = (m, 0)) (v : Val) (c : Nat) : subE (some ((valE v i c).ren τ)) ((valE v j c).ren μ) := by
 show SB.ren τ _ = SB.ren μ _
 simp only [SB.ren, List.map_cons, List.map_nil, zpw h1 h2]
 rfl
theorem zds {μ : Mu} {j m : Nat} (h2 : μ j 0 = (m, 0)) (v : Val) (c : Nat) : subE (some (valE v m c)) ((valE v j c).ren μ) := by
 have := zd5 (τ := sig []) (μ := μ) (i := m) (j := j) (m := m) rfl h2 v c
 rw [zrr] at this; exact this
theorem zsb {τ μ : Mu} {i j m : Nat} (h1 : τ i 0 = (m, 0)) (h2 : μ j 0 = (m, 0)) (v : Val) (c : Nat) :
  [SA.lit v.lost, gA 2 i c v.lines, .int .i64 v.w, .int .i64 v.h, .str v.bits].map (SA.ren τ) = [SA.lit v.lost, gA 2 j c v.lines, .int .i64 v.w, .int .i64 v.h, .str v.bits].map (SA.ren μ) := by
 simp only [List.map_cons, List.map_nil, zpw h1 h2]; rfl
theorem zjn (v : Val) (c : Nat) (p : Int) : ∀ s ∈ [valV v 1 c, .va (.int .i64 p)], SV.below 3 s := by
 intro s hs
 simp only [List.mem_cons, List.not_mem_nil, or_false] at hs
 rcases hs with rfl | rfl
 ·intro a ha
  simp only [List.mem_cons, List.not_mem_nil, or_false] at ha
  rcases ha with rfl | rfl | rfl | rfl | rfl
  ·trivial
  ·exact zg6 (by omega) _ _ _
  ·trivial
  ·trivial
  ·trivial
 ·trivial
theorem zo5 {l : List Stp} {k : Nat} (v : Val) (hk : k < l.length) : runS (l.take (k + 1)) v = if (runS (l.take k) v).lost = true then runS (l.take k) v else stepS l[k] (runS (l.take k) v) := by
 rw [List.take_succ_eq_append_getElem hk]
 unfold runS
 rw [List.foldl_append]
 rfl
theorem zmh {p : Int} {s : List UInt8} {o : Out} {h0 : List (Nat × Ent)} {n0 : Nat} (h : readS p s = none) (hc : match readS p s with
 | some v => ∃ c caps, n0 = 3 ∧ o = .ret (valV v 1 c) ∧ h0 = [(1, zbm 2 caps c v.lines), (2, famE caps v.lines)]
 | none => n0 = 1 ∧ o = .panic perr ∧ h0 = []) : n0 = 1 ∧ o = .panic perr ∧ h0 = [] := by rw [h] at hc; exact hc
theorem zmp {p : Int} {s : List UInt8} {o : Out} {h0 : List (Nat × Ent)} {n0 : Nat} {v : Val} (h : readS p s = some v) (hc : match readS p s with
 | some v => ∃ c caps, n0 = 3 ∧ o = .ret (valV v 1 c) ∧ h0 = [(1, zbm 2 caps c v.lines), (2, famE caps v.lines)]
 | none => n0 = 1 ∧ o = .panic perr ∧ h0 = []) : ∃ c caps, n0 = 3 ∧ o = .ret (valV v 1 c) ∧ h0 = [(1, zbm 2 caps c v.lines), (2, famE caps v.lines)] := by rw [h] at hc; exact hc
theorem zmq {p : Int} {l : List Stp} (h : zbl p l = true) : (1 ≤ p ∧ p ≤ 8) ∧ l.length ≤ 64 ∧ ∀ s ∈ l, zbu p s = true := by
 unfold zbl at h
 simp only [Bool.and_eq_true, decide_eq_true_eq, List.all_eq_true] at h
 exact ⟨h.1, h.2.1, h.2.2⟩
set_option maxHeartbeats 8000000 in
theorem zje (F : Fz) (hM : MLF F) (sa : SA) (l : List Stp) (p : Int) (s : List UInt8) (ha : za4 F sa l) (hl : l.length < 1000000) (hs : s.length ≤ 1000000000000000000) :
  Fo Tryz.prog F 26 [.va (.int .i64 p), .va sa, .va (.str s)] (fun o F' => o = .ret (.tup [.va (.str (zdt p l s).1), .va (.int .i64 (zdt p l s).2)])) := by
 have hvalid := zeu F sa l p ha hl
 have ha' := ha
 have fin : ∀ (x : List UInt8) (e : Int) (F1 : Fz) (h : Hp) (nx : Nat), zdt p l s = (x, e) → lget h 0 = some (.frz F1) → Fz.le F F1 →
   Cln 1 (FoK F fun o F' => o = .ret (.tup [.va (.str (zdt p l s).1), .va (.int .i64 (zdt p l s).2)])) (.ret (.tup [.va (.str x), .va (.int .i64 e)])) h nx := by
  intro x e F1 h nx hx h0 hle
  exact endFo (.ret (.tup [.va (.str x), .va (.int .i64 e)])) F1 h0 hle (Fz.le_refl F1) (by rw [hx]) (zat _) rfl
 have hrdc : readS p s = none ∨ ∃ v, readS p s = some v := by
  cases readS p s with
  | none => exact .inl rfl
  | some v => exact .inr ⟨v, rfl⟩
 obtain ⟨han, hab, hae, hac, haL, har, rfl, ha1, ha2, ha3, ha4⟩ := ha
 unfold Fo
 refine zrv hΘ Tryz.func26 rfl (by decide) 41 _ rfl rfl rfl (zeq hΘ _ _ _ ?_);conv=>whnf
 refine zta rfl rfl rfl rfl ?_;conv=>whnf
 refine usePu (hvalid) rfl (zaf _) rfl ?_;conv=>whnf
 refine useFo (zcg F (zbl p l)) rfl ⟨rfl, trivial⟩ rfl ?_
 rintro _ _ l1 ⟨rfl, ⟨hv, rfl⟩ | ⟨hv, rfl⟩⟩
 ·have hpl := zmq hv
  conv=>whnf
  refine use (zvm cfun tfun F s p hs) [] rfl ⟨rfl, rfl, trivial⟩ rfl trivial (by simp [SV.below, SA.below]) trivial ?_
  rintro out0 F0 h0 n0 hle ⟨rfl, hcase⟩
  rcases hrdc with hrd | ⟨v, hrd⟩
  ·replace hcase := zmh hrd hcase
   obtain ⟨rfl, rfl, rfl⟩ := hcase
   conv=>whnf
   refine ⟨rfl, zh1 1 2 [] 0 rfl rfl (by decide) ?_⟩;conv=>whnf
   exact fin [] 70 F _ _ (by rw [zdt, if_pos hv, hrd]) rfl (Fz.le_refl F)
  ·replace hcase := zmp hrd hcase
   obtain ⟨c, caps, rfl, rfl, rfl⟩ := hcase
   conv=>whnf
   refine useFo (znd F) rfl (zaf _) rfl ?_
   rintro _ F1 l2 ⟨bk, rfl, hK⟩;conv=>whnf
   refine za0 hΘ (X := { x : Nat × Val × Nat × (Nat → Nat) // x.1 ≤ l.length ∧ x.2.1 = runS (l.take x.1) v }) (fun x => [(22, .va (.int .i64 x.1.1))]) [11, 23, 24, 25, 26, 27, 28, 29, 30, 31, 32, 33, 34, 35, 36, 37]
    (fun x => [(0, .frz F1), (3, zbm 4 x.1.2.2.2 x.1.2.2.1 x.1.2.1.lines), (4, famE x.1.2.2.2 x.1.2.1.lines), (5, valE x.1.2.1 3 x.1.2.2.1)]) 7 (fun x => l.length - x.1.1) ⟨(0, v, c, caps), by simp, rfl⟩
    (fun hH hT => leId [] hH hT rfl ⟨trivial, zav (by omega) _ _ _, za1 _ _ _, zb9 (by omega) _, trivial⟩ ⟨rfl, trivial⟩ ⟨Fz.le_refl F1, zcl (fun k => rfl) (fun k => rfl) rfl, zef rfl, zd5 (τ := tau [] 1 3) (μ := sig []) (i := 1) (j := 3) (m := 3) rfl rfl v c, trivial⟩) ?_
   rintro ⟨⟨k, u, c1, cp1⟩, hk, hu⟩ hH hT
   replace hk : k ≤ l.length := hk
   replace hu : u = runS (l.take k) v := hu
   conv=>whnf
   refine br (fun gb => ?_) (fun gb => ?_)
   ·have gk : k < l.length := by
     have h0 : (k : Int) < (l.length : Int) := of_decide_eq_true gb
     omega
    clear gb
    have hst := zo5 v gk
    rw [← hu] at hst
    have hex : ∃ κ ν, l[k] = (κ, ν) := ⟨_, _, rfl⟩
    obtain ⟨κ, ν, hkx⟩ := hex
    have hel : haL[hae + (k : Int).toNat]? = some (enc (κ, ν)) := by rw [← hkx]; exact Sl.at ha4 gk
    have hok : zbu p (κ, ν) = true := by rw [← hkx]; exact hpl.2.2 _ (List.getElem_mem gk)
    have hvk : VOK p u := by
     rw [hu]; exact zj7 hpl.1 _ _ (fun s hs => hpl.2.2 s (List.mem_of_mem_take hs)) (zj1 hrd).2
    rw [hkx] at hst
    obtain ⟨lost, L, w, h, bits⟩ := u
    rcases lost with _ | _
    ·replace hst : runS (l.take (k + 1)) v = stepS (κ, ν) ⟨false, L, w, h, bits⟩ := hst
     have hdo := fun c caps => zvk (do_fn F1 bk hK (hM.mono l2) p κ ν ⟨false, L, w, h, bits⟩ hpl.1 hok hvk rfl c caps)
     have hκ : κ = 1 ∨ κ = 2 ∨ κ = 3 ∨ κ = 4 ∨ κ = 5 ∨ κ = 6 := by
      have := zd7 hpl.1 hok; omega
     clear hok hkx hvk
     rcases hκ with rfl | rfl | rfl | rfl | rfl | rfl
     ·conv=>whnf
      refine ⟨Sl.lt ha1 gk, ⟨by simp, by simpa using gk⟩, ?_⟩;conv=>whnf
      refine ⟨_, l2 _ _ (ha2 (Sl.lt ha1 gk)), ?_⟩;conv=>whnf
      refine ⟨_, hel, ?_⟩;conv=>whnf
      refine drawP hΘ mixed (.look 0 (.look 1 (.look 2 (.look 3 (.look 4 (.look 5 (.look 6 (.alt 7 .done .nil)))))))) [6, 7] (by kernel_rfl) ?_;conv=>whnf
      repeat' ((conv=>whnf); first
       | refine ⟨rfl, ?_⟩
       | refine ⟨Fz.le_refl _, rfl, ?_⟩
       | refine ⟨Fz.le_refl _, rfl, rfl, ?_⟩
       | refine ⟨⟨by simp, by simp⟩, ?_⟩
       | fail)
      conv=>whnf
      refine use (hdo c1 cp1) [(1, 5), (2, 3), (3, 4)] rfl ⟨rfl, rfl, rfl, trivial⟩ rfl (zfl _ _ _) (by simp [SV.below, SA.below, fp, doC]) ⟨zds (μ := sig [(1, 5), (2, 3), (3, 4)]) (j := 2) (m := 3) rfl _ _, za9 (fun k => rfl), zbw, trivial⟩ ?_
      rintro out0 F0 h0 n1 hle ⟨rfl, rfl, rfl, c2, cp2, rfl⟩;conv=>whnf
      refine ⟨Fz.le_refl _, rfl, rfl, ?_⟩;conv=>whnf
      exact ⟨⟨(k + 1, stepS (1, ν) ⟨false, L, w, h, bits⟩, c2, cp2), by show k + 1 ≤ l.length; omega, hst.symm⟩, by show l.length - (k + 1) < l.length - k; omega,
       leRd [] hH hT rfl ⟨trivial, zav (by omega) _ _ _, za1 _ _ _, zb9 (by omega) _, trivial⟩ ⟨cnt (by omega), trivial⟩
       ⟨Fz.le_refl _, zcl (fun k => rfl) (fun k => rfl) rfl, zef rfl, zd5 (τ := tau [(1, 5), (2, 3), (3, 4)] 4 8) (μ := sig []) (i := 2) (j := 3) (m := 3) rfl rfl _ _, trivial⟩⟩
     ·conv=>whnf
      refine ⟨Sl.lt ha1 gk, ⟨by simp, by simpa using gk⟩, ?_⟩;conv=>whnf
      refine ⟨_, l2 _ _ (ha2 (Sl.lt ha1 gk)), ?_⟩;conv=>whnf
      refine ⟨_, hel, ?_⟩;conv=>whnf
      refine drawP hΘ mixed (.look 0 (.look 1 (.look 2 (.look 3 (.look 4 (.look 5 (.look 6 (.alt 7 .done .nil)))))))) [6, 7] (by kernel_rfl) ?_;conv=>whnf
      repeat' ((conv=>whnf); first
       | refine ⟨rfl, ?_⟩
       | refine ⟨Fz.le_refl _, rfl, ?_⟩
       | refine ⟨Fz.le_refl _, rfl, rfl, ?_⟩
       | refine ⟨⟨by simp, by simp⟩, ?_⟩
       | fail)
      conv=>whnf
      refine use (hdo c1 cp1) [(1, 5), (2, 3), (3, 4)] rfl ⟨rfl, rfl, rfl, trivial⟩ rfl (zfl _ _ _) (by simp [SV.below, SA.below, fp, doC]) ⟨zds (μ := sig [(1, 5), (2, 3), (3, 4)]) (j := 2) (m := 3) rfl _ _, za9 (fun k => rfl), zbw, trivial⟩ ?_
      rintro out0 F0 h0 n1 hle ⟨rfl, rfl, rfl, c2, cp2, rfl⟩;conv=>whnf
      refine ⟨Fz.le_refl _, rfl, rfl, ?_⟩;conv=>whnf
      exact ⟨⟨(k + 1, stepS (2, ν) ⟨false, L, w, h, bits⟩, c2, cp2), by show k + 1 ≤ l.length; omega, hst.symm⟩, by show l.length - (k + 1) < l.length - k; omega,
       leRd [] hH hT rfl ⟨trivial, zav (by omega) _ _ _, za1 _ _ _, zb9 (by omega) _, trivial⟩ ⟨cnt (by omega), trivial⟩
       ⟨Fz.le_refl _, zcl (fun k => rfl) (fun k => rfl) rfl, zef rfl, zd5 (τ := tau [(1, 5), (2, 3), (3, 4)] 4 8) (μ := sig []) (i := 2) (j := 3) (m := 3) rfl rfl _ _, trivial⟩⟩
     ·conv=>whnf
      refine ⟨Sl.lt ha1 gk, ⟨by simp, by simpa using gk⟩, ?_⟩;conv=>whnf
      refine ⟨_, l2 _ _ (ha2 (Sl.lt ha1 gk)), ?_⟩;conv=>whnf
      refine ⟨_, hel, ?_⟩;conv=>whnf
      refine drawP hΘ mixed (.look 0 (.look 1 (.look 2 (.look 3 (.look 4 (.look 5 (.look 6 (.alt 7 .done .nil)))))))) [6, 7] (by kernel_rfl) ?_;conv=>whnf
      repeat' ((conv=>whnf); first
       | refine ⟨rfl, ?_⟩
       | refine ⟨Fz.le_refl _, rfl, ?_⟩
       | refine ⟨Fz.le_refl _, rfl, rfl, ?_⟩
       | refine ⟨⟨by simp, by simp⟩, ?_⟩
       | fail)
      conv=>whnf
      refine use (hdo c1 cp1) [(1, 5), (2, 3), (3, 4)] rfl ⟨rfl, rfl, rfl, trivial⟩ rfl (zfl _ _ _) (by simp [SV.below, SA.below, fp, doC]) ⟨zds (μ := sig [(1, 5), (2, 3), (3, 4)]) (j := 2) (m := 3) rfl _ _, za9 (fun k => rfl), zbw, trivial⟩ ?_
      rintro out0 F0 h0 n1 hle ⟨rfl, rfl, rfl, c2, cp2, rfl⟩;conv=>whnf
      refine ⟨Fz.le_refl _, rfl, rfl, ?_⟩;conv=>whnf
      exact ⟨⟨(k + 1, stepS (3, ν) ⟨false, L, w, h, bits⟩, c2, cp2), by show k + 1 ≤ l.length; omega, hst.symm⟩, by show l.length - (k + 1) < l.length - k; omega,
       leRd [] hH hT rfl ⟨trivial, zav (by omega) _ _ _, za1 _ _ _, zb9 (by omega) _, trivial⟩ ⟨cnt (by omega), trivial⟩
       ⟨Fz.le_refl _, zcl (fun k => rfl) (fun k => rfl) rfl, zef rfl, zd5 (τ := tau [(1, 5), (2, 3), (3, 4)] 4 8) (μ := sig []) (i := 2) (j := 3) (m := 3) rfl rfl _ _, trivial⟩⟩
     ·conv=>whnf
      refine ⟨Sl.lt ha1 gk, ⟨by simp, by simpa using gk⟩, ?_⟩;conv=>whnf
      refine ⟨_, l2 _ _ (ha2 (Sl.lt ha1 gk)), ?_⟩;conv=>whnf
      refine ⟨_, hel, ?_⟩;conv=>whnf
      refine drawP hΘ mixed (.look 0 (.look 1 (.look 2 (.look 3 (.look 4 (.look 5 (.look 6 (.alt 7 .done .nil)))))))) [6, 7] (by kernel_rfl) ?_;conv=>whnf
      repeat' ((conv=>whnf); first
       | refine ⟨rfl, ?_⟩
       | refine ⟨Fz.le_refl _, rfl, ?_⟩
       | refine ⟨Fz.le_refl _, rfl, rfl, ?_⟩
       | refine ⟨⟨by simp, by simp⟩, ?_⟩
       | fail)
      conv=>whnf
      refine use (hdo c1 cp1) [(1, 5), (2, 3), (3, 4)] rfl ⟨rfl, rfl, rfl, trivial⟩ rfl (zfl _ _ _) (by simp [SV.below, SA.below, fp, doC]) ⟨zds (μ := sig [(1, 5), (2, 3), (3, 4)]) (j := 2) (m := 3) rfl _ _, za9 (fun k => rfl), zbw, trivial⟩ ?_
      rintro out0 F0 h0 n1 hle ⟨rfl, rfl, rfl, c2, cp2, rfl⟩;conv=>whnf
      refine ⟨Fz.le_refl _, rfl, rfl, ?_⟩;conv=>whnf
      exact ⟨⟨(k + 1, stepS (4, ν) ⟨false, L, w, h, bits⟩, c2, cp2), by show k + 1 ≤ l.length; omega, hst.symm⟩, by show l.length - (k + 1) < l.length - k; omega,
       leRd [] hH hT rfl ⟨trivial, zav (by omega) _ _ _, za1 _ _ _, zb9 (by omega) _, trivial⟩ ⟨cnt (by omega), trivial⟩
       ⟨Fz.le_refl _, zcl (fun k => rfl) (fun k => rfl) rfl, zef rfl, zd5 (τ := tau [(1, 5), (2, 3), (3, 4)] 4 8) (μ := sig []) (i := 2) (j := 3) (m := 3) rfl rfl _ _, trivial⟩⟩
     ·conv=>whnf
      refine ⟨Sl.lt ha1 gk, ⟨by simp, by simpa using gk⟩, ?_⟩;conv=>whnf
      refine ⟨_, l2 _ _ (ha2 (Sl.lt ha1 gk)), ?_⟩;conv=>whnf
      refine ⟨_, hel, ?_⟩;conv=>whnf
      refine drawP hΘ mixed (.look 0 (.look 1 (.look 2 (.look 3 (.look 4 (.look 5 (.look 6 (.alt 7 .done .nil)))))))) [6, 7] (by kernel_rfl) ?_;conv=>whnf
      repeat' ((conv=>whnf); first
       | refine ⟨rfl, ?_⟩
       | refine ⟨Fz.le_refl _, rfl, ?_⟩
       | refine ⟨Fz.le_refl _, rfl, rfl, ?_⟩
       | refine ⟨⟨by simp, by simp⟩, ?_⟩
       | fail)
      conv=>whnf
      refine use (hdo c1 cp1) [(1, 5), (2, 3), (3, 4)] rfl ⟨rfl, rfl, trivial⟩ rfl (zfl _ _ _) (by simp [SV.below, SA.below, fp, doC]) ⟨zds (μ := sig [(1, 5), (2, 3), (3, 4)]) (j := 2) (m := 3) rfl _ _, za9 (fun k => rfl), zbw, trivial⟩ ?_
      rintro out0 F0 h0 n1 hle ⟨rfl, rfl, rfl, c2, cp2, rfl⟩;conv=>whnf
      refine ⟨Fz.le_refl _, rfl, rfl, ?_⟩;conv=>whnf
      exact ⟨⟨(k + 1, stepS (5, ν) ⟨false, L, w, h, bits⟩, c2, cp2), by show k + 1 ≤ l.length; omega, hst.symm⟩, by show l.length - (k + 1) < l.length - k; omega,
       leRd [] hH hT rfl ⟨trivial, zav (by omega) _ _ _, za1 _ _ _, zb9 (by omega) _, trivial⟩ ⟨cnt (by omega), trivial⟩
       ⟨Fz.le_refl _, zcl (fun k => rfl) (fun k => rfl) rfl, trivial, zd5 (τ := tau [(1, 5), (2, 3), (3, 4)] 4 8) (μ := sig []) (i := 2) (j := 3) (m := 3) rfl rfl _ _, trivial⟩⟩
     ·conv=>whnf
      refine ⟨Sl.lt ha1 gk, ⟨by simp, by simpa using gk⟩, ?_⟩;conv=>whnf
      refine ⟨_, l2 _ _ (ha2 (Sl.lt ha1 gk)), ?_⟩;conv=>whnf
      refine ⟨_, hel, ?_⟩;conv=>whnf
      refine drawP hΘ mixed (.look 0 (.look 1 (.look 2 (.look 3 (.look 4 (.look 5 (.look 6 (.alt 7 .done .nil)))))))) [6, 7] (by kernel_rfl) ?_;conv=>whnf
      repeat' ((conv=>whnf); first
       | refine ⟨rfl, ?_⟩
       | refine ⟨Fz.le_refl _, rfl, ?_⟩
       | refine ⟨Fz.le_refl _, rfl, rfl, ?_⟩
       | refine ⟨⟨by simp, by simp⟩, ?_⟩
       | fail)
      conv=>whnf
      refine use (hdo c1 cp1) [(1, 5), (2, 3), (3, 4)] rfl ⟨rfl, rfl, trivial⟩ rfl (zfl _ _ _) (by simp [SV.below, SA.below, fp, doC]) ⟨zds (μ := sig [(1, 5), (2, 3), (3, 4)]) (j := 2) (m := 3) rfl _ _, za9 (fun k => rfl), zbw, trivial⟩ ?_
      rintro out0 F0 h0 n1 hle ⟨rfl, rfl, rfl, c2, cp2, rfl⟩;conv=>whnf
      refine ⟨Fz.le_refl _, rfl, rfl, ?_⟩;conv=>whnf
      exact ⟨⟨(k + 1, stepS (6, ν) ⟨false, L, w, h, bits⟩, c2, cp2), by show k + 1 ≤ l.length; omega, hst.symm⟩, by show l.length - (k + 1) < l.length - k; omega,
       leRd [] hH hT rfl ⟨trivial, zav (by omega) _ _ _, za1 _ _ _, zb9 (by omega) _, trivial⟩ ⟨cnt (by omega), trivial⟩
       ⟨Fz.le_refl _, zcl (fun k => rfl) (fun k => rfl) rfl, trivial, zd5 (τ := tau [(1, 5), (2, 3), (3, 4)] 4 8) (μ := sig []) (i := 2) (j := 3) (m := 3) rfl rfl _ _, trivial⟩⟩
    ·replace hst : runS (l.take (k + 1)) v = ⟨true, L, w, h, bits⟩ := hst
     conv=>whnf
     refine ⟨Sl.lt ha1 gk, ⟨by simp, by simpa using gk⟩, ?_⟩;conv=>whnf
     refine ⟨_, l2 _ _ (ha2 (Sl.lt ha1 gk)), ?_⟩;conv=>whnf
     refine ⟨_, hel, ?_⟩;conv=>whnf
     exact ⟨⟨(k + 1, ⟨true, L, w, h, bits⟩, c1, cp1), by show k + 1 ≤ l.length; omega, hst.symm⟩, by show l.length - (k + 1) < l.length - k; omega,
      leRd [] hH hT rfl ⟨trivial, zav (by omega) _ _ _, za1 _ _ _, zb9 (by omega) _, trivial⟩ ⟨cnt (by omega), trivial⟩
      ⟨Fz.le_refl _, za9 (fun k => rfl), zbw, zds (μ := sig []) (j := 3) (m := 3) rfl _ _, trivial⟩⟩
   ·have gk : k = l.length := by
     have h0 : ¬ (k : Int) < (l.length : Int) := of_decide_eq_false gb
     omega
    clear gb
    have hvk : VOK p u := by
     rw [hu]; exact zj7 hpl.1 _ _ (fun s hs => hpl.2.2 s (List.mem_of_mem_take hs)) (zj1 hrd).2
    have hap : zdt p l s = (zay p u, 0) := by
     rw [zdt, if_pos hv, hrd, hu, gk, List.take_length]
    have hwr := zsl pfun F1 u c1 cp1 p (zq7 hpl.1 hvk) hpl.1.2
    conv=>whnf
    refine use hwr [(1, 3), (2, 4)] rfl ⟨congrArg SV.agg (zsb (i := 1) (j := 3) (m := 3) ?_ ?_ u c1), rfl, trivial⟩ rfl (zqk _ _ _) (zjn _ _ _) ⟨za9 (fun k => rfl), zbw, trivial⟩ ?_
    ·rfl
    ·rfl
    rintro out0 F0 h0 n1 hle ⟨rfl, rfl, rfl⟩;conv=>whnf
    refine ⟨rfl, zm2 1 2 ?_⟩;conv=>whnf
    exact fin _ 0 F0 _ _ hap rfl (Fz.le_trans l2 hle)
 ·conv=>whnf
  refine ⟨rfl, zh1 1 2 [] 0 rfl rfl (by decide) ?_⟩;conv=>whnf
  exact fin [] 70 F _ _ (by rw [zdt, if_neg (by rw [hv]; simp)]) rfl (Fz.le_refl F)
end Go.Proofs.YtblllibdahkgfaaGreatDoor

namespace Sx
open Go
theorem zxd {P : Program} {c : Code} {st : St} {Q : SE → St → Prop} {X : Type} (I0 : St) (I : X → St) (h0 : WfH st.h st.nx → WfT st.t st.nx → Le st I0 ∧ WP P c I0 (fun e st' => e = .normal ∧ ∃ x, Le st' (I x))) (h2 : ∀ x, Q .normal (I x)) : WP P c st Q := by
 unfold WP
 intro C ρ a w D
 obtain ⟨h0, h1⟩ := h0 D.wfH D.wfT
 unfold Le at h0
 obtain ⟨ρ1, D1⟩ := h0 C ρ a w D
 unfold WP at h1
 refine wp_mono (h1 C ρ1 a w D1) ?_
 rintro e a' w' ⟨se, st', ρ', ⟨rfl, x, hle⟩, rfl, D'⟩
 unfold Le at hle
 obtain ⟨ρ2, D2⟩ := hle C ρ' a' w' D'
 exact ⟨.normal, I x, ρ2, h2 x, rfl, D2⟩
end Sx
namespace Go.Proofs.YtblllibdahkgfaaGreatDoor
open Go Sx
set_option maxRecDepth 100000
theorem zhg {P : Program} {F : Fz} {f : FuncId} {args : List SV} {b : Bool} {R : Fz → Prop} (h : Fo P F f args (fun o F' => o = .ret (.va (.bool b)) ∧ R F')) : Fo P F f args (fun o F' => o = .ret (.va (.lit b)) ∧ R F') := by
 unfold Fo at *
 refine zhy h fun o h n hc => ?_
 unfold Cln at *
 intro C ρ w e hn S hr hb
 obtain ⟨out0, F0, h0, n0, ρ0, ⟨k1, k2, k3, k4, rfl, k5⟩, q1, q2, r⟩ := hc C ρ w e hn S hr hb
 exact ⟨.ret (.va (.lit b)), F0, h0, n0, ρ0, ⟨k1, k2, k3, rfl, rfl, k5⟩, q1, trivial, r⟩
def isS (p : Int) (l : List Stp) (s want : List UInt8) : Bool := decide ((zdt p l s).2 = 0) && ((zdt p l s).1 == want)
set_option maxHeartbeats 4000000 in
theorem is_fn (F : Fz) (hM : MLF F) (sa : SA) (l : List Stp) (p : Int) (s want : List UInt8) (ha : za4 F sa l) (hl : l.length < 1000000) (hs : s.length ≤ 1000000000000000000) :
  Fo Tryz.prog F 28 [.va (.int .i64 p), .va sa, .va (.str s), .va (.str want)] (fun o F' => o = .ret (.va (.bool (isS p l s want))) ∧ True) := by
 have hap := zje F hM sa l p s ha hl hs
 obtain ⟨x, e, hx⟩ : ∃ x e, zdt p l s = (x, e) := ⟨_, _, rfl⟩
 have fin : ∀ (b : Bool) (F1 : Fz) (h : Hp) (nx : Nat), isS p l s want = b → lget h 0 = some (.frz F1) → Fz.le F F1 →
   Cln 1 (FoK F fun o F' => o = .ret (.va (.bool (isS p l s want))) ∧ True) (.ret (.va (.bool b))) h nx := by
  intro b F1 h nx hb h0 hle
  exact endFo (.ret (.va (.bool b))) F1 h0 hle (Fz.le_refl F1) ⟨by rw [hb], trivial⟩ (zat _) rfl
 have hS : isS p l s want = (decide (e = 0) && (x == want)) := by rw [isS, hx]
 rw [hx] at hap
 obtain ⟨han, hab, hae, hac, haL, har, rfl, ha1, ha2, ha3, ha4⟩ := ha
 by_cases he : e = 0
 ·subst he
  refine fo_of hΘ Tryz.func28 rfl (by decide) _ _ rfl rfl rfl ?_;conv=>whnf
  refine useFo hap rfl (zaf _) rfl ?_
  rintro _ F1 l1 rfl;conv=>whnf
  refine ⟨fun _ => ?_, fun g => absurd g (by simp)⟩;conv=>whnf
  exact fin _ F1 _ _ (by rw [hS]; rfl) rfl l1
 ·have hd : decide (e = 0) = false := decide_eq_false he
  refine fo_of hΘ Tryz.func28 rfl (by decide) _ _ rfl rfl rfl ?_;conv=>whnf
  refine useFo hap rfl (zaf _) rfl ?_
  rintro _ F1 l1 rfl;conv=>whnf
  refine ⟨fun g => absurd (of_decide_eq_true g) he, fun _ => ?_⟩;conv=>whnf
  exact fin _ F1 _ _ (by rw [hS, hd]; rfl) rfl l1
end Go.Proofs.YtblllibdahkgfaaGreatDoor

namespace Go.Proofs.YtblllibdahkgfaaGreatDoor
open Go Sx
theorem zx7 : isS 1 [(1, 0), (2, 0)] (textS [[84, 111, 32, 32, 66, 101]]) (textS [[116, 111, 32, 98, 101]]) = true := by decide +kernel
theorem zxo : isS 2 [(4, 3)] (za2 [3, 0, 3, 4]) (za2 [3, 0, 3, 0]) = true := by decide +kernel
theorem zxf : isS 3 [(3, 10)] (za2 [2, 0, 0, 19, 0, 1, -19]) (za2 [2, 0, 0, 10, 0, 1, -10]) = true := by decide +kernel
theorem zxh : isS 7 [(5, 0)] (za2 [3, 3] ++ (putSR [49, 48, 48, 48, 48, 48, 48, 48, 49]).1) (za2 [2, 2] ++ (putSR [49, 48, 48, 49]).1) = true := by decide +kernel
theorem zxb : normR 1 [(2, 0), (1, 0), (2, 0)] = ([(1, 0), (2, 0)], 0) := by decide +kernel
theorem zxg : compR 5 [(3, 100)] [(3, 10)] = ([(3, 100)], 0) := by decide +kernel
theorem zxz : zdt 1 [] [120] = ([], 70) := by decide +kernel
theorem zuw : zbl 1 [(3, 10)] = false := by decide +kernel
theorem zu0 : zbl 5 [(3, 20)] = false := by decide +kernel
theorem zvr : zbl 4 [(6, 0)] = true := by decide +kernel
theorem zv0 : coarS 2 [(4, 2)] [(4, 5)] = true := by decide +kernel
theorem zuy : coarS 2 [(4, 5)] [(4, 2)] = false := by decide +kernel
end Go.Proofs.YtblllibdahkgfaaGreatDoor
