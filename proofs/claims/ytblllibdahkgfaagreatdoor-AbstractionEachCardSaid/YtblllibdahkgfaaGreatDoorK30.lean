import Derived.Test.YtblllibdahkgfaaGreatDoorK29
import Derived.Test.YtblllibdahkgfaaGreatDoorK23
import Derived.Test.YtblllibdahkgfaaGreatDoorK26
import Derived.Test.YtblllibdahkgfaaGreatDoorK22

namespace Go.Proofs.YtblllibdahkgfaaGreatDoor
open Go Sx
set_option maxRecDepth 100000
def bitB (b : UInt8) : Bool := b == 48 || b == 49
def zfy (p : Int) (s : List UInt8) : Option RVal :=
 let x := rdNum s 0 false
 let y := rdNum s x.2.1 x.2.2
 let z := if p = 7 then rdTxt s y.2.1 y.2.2 else ([], y.2.1, y.2.2)
 if z.2.2 = true ∨ z.2.1 ≠ s.length then none
 else if p = 8 then if inR x.1 0 64 = true ∧ inR y.1 0 64 = true then some ⟨false, [], x.1, y.1, z.1⟩ else none
 else if z.1.all bitB = false then none
 else if x.1 = 0 then if y.1 = 0 ∧ z.1 = [] then some ⟨false, [], x.1, y.1, z.1⟩ else none
 else if inR x.1 1 32 = true ∧ inR y.1 1 32 = true ∧ (p = 6 ∨ (z.1.length : Int) = x.1 * y.1) then some ⟨false, [], x.1, y.1, z.1⟩ else none
def rdL (p : Int) (s : List UInt8) (q : Int) : RLn × Int × Bool :=
 if p = 1 then let t := rdTxt s q false; ((t.1, 0, 0, 0, 0), t.2.1, t.2.2)
 else if p = 2 then let a := rdNum s q false; (([], a.1, 0, 0, 0), a.2.1, a.2.2)
 else
  let a := rdNum s q false
  let b := rdNum s a.2.1 a.2.2
  let c := rdNum s b.2.1 b.2.2
  if p = 4 then let d := rdNum s c.2.1 c.2.2; (([], a.1, b.1, c.1, d.1), d.2.1, d.2.2)
  else (([], a.1, b.1, c.1, 0), c.2.1, c.2.2)
def zbf (p : Int) (s : List UInt8) : Nat → List RLn → Int → Option (List RLn × Int)
 | 0, acc, q => some (acc, q)
 | f + 1, acc, q => if (rdL p s q).2.2 = true ∨ fitsR p acc (rdL p s q).1 = false then none else zbf p s f (acc ++ [(rdL p s q).1]) (rdL p s q).2.1
def readR (p : Int) (s : List UInt8) : Option RVal :=
 if ¬ (1 ≤ p ∧ p ≤ 8) then none
 else if s = [] then some ⟨true, [], 0, 0, []⟩
 else if 6 ≤ p then zfy p s
 else if (rdNum s 0 false).2.2 = true ∨ inR (rdNum s 0 false).1 0 64 = false then none
 else match zbf p s (rdNum s 0 false).1.toNat [] (rdNum s 0 false).2.1 with
  | none => none
  | some (l, q) => if q = s.length then some ⟨false, l, 0, 0, []⟩ else none
def Its (F : Fz) (a : SA) (l : List RLn) : Prop :=
 (l = [] ∧ a = .nilsl) ∨ l ≠ [] ∧ ∃ b e c L room, a = .slice false 0 b e 5 l.length c ∧ F b = some (.arr 88 5 L room) ∧ (L.drop e).take l.length = l.map encL
theorem Its.nil {F : Fz} : Its F .nilsl [] := .inl ⟨rfl, rfl⟩
theorem Its.new {F : Fz} {b c room : Nat} {l : List RLn} (h : F b = some (.arr 88 5 (l.map encL) room)) (hne : l ≠ [] := by simp) : Its F (.slice false 0 b 0 5 l.length c) l :=
 .inr ⟨hne, b, 0, c, l.map encL, room, rfl, h, by rw [List.drop_zero, List.take_of_length_le (by simp)]⟩
theorem Its.mono {F F' : Fz} {a : SA} {l : List RLn} (h : Its F a l) (hle : Fz.le F F') : Its F' a l := by
 rcases h with h | ⟨hne, b, e, c, L, room, h1, h2, h3⟩
 ·exact .inl h
 ·exact .inr ⟨hne, b, e, c, L, room, h1, hle _ _ h2, h3⟩
abbrev rvS (v : RVal) (a : SA) : List SA := [.lit v.lost, a, .int .i64 v.w, .int .i64 v.h, .str v.bits]
def capOk : SA → Prop
 | .slice _ _ _ _ _ n c => n ≤ c
 | _ => True
def zd4 (p : Int) (s : List UInt8) : Out → Fz → Prop := fun o F' => ∃ v a b, o = .ret (.tup [.agg (rvS v a), .va (.bool b)]) ∧ Its F' a v.lines ∧ ((b = true ∧ readR p s = some v) ∨ (b = false ∧ readR p s = none)) ∧ capOk a
theorem zbo {s : List UInt8} {q : Int} {b : Bool} (hs : s.length ≤ 1000000000000000000) (hq : i64 q) : i64 (rdNum s q b).2.1 := by
 unfold rdNum
 split
 ·exact hq
 ·rename_i h
  have h2 := zdy (s := s) (p := q) (by
   apply Classical.byContradiction; intro h3; exact h (.inr h3))
  exact ⟨by dsimp only; omega, by dsimp only; omega⟩
theorem zpe {s : List UInt8} {q : Int} {b : Bool} (hs : s.length ≤ 1000000000000000000) (hq : i64 q) : i64 (rdTxt s q b).2.1 := by
 unfold rdTxt
 split
 ·exact hq
 ·rename_i h
  have h2 := zp9 (s := s) (q := q) (by
   apply Classical.byContradiction; intro h3; exact h (.inr h3))
  exact ⟨by dsimp only; omega, by dsimp only; omega⟩
theorem zoc (s : List UInt8) (q : Int) : (getS s q).1.length ≤ 65536 := by
 unfold getS
 split
 ·simp
 split
 ·simp
 ·rename_i h1 h2
  show (((s.take ((getI s q).2.1 + (getI s q).1).toNat).drop (getI s q).2.1.toNat).length ≤ 65536)
  rw [List.length_drop, List.length_take]
  omega
theorem zh0 (s : List UInt8) (q : Int) (b : Bool) : (rdTxt s q b).1.length ≤ 65536 := by
 unfold rdTxt
 split
 ·simp
 ·exact zoc s q
theorem zbr {F F1 : Fz} {p : Int} {s : List UInt8} {l b : Bool} {w hh : Int} {bits : List UInt8} {h : Hp} {nx : Nat} (hv : (b = true ∧ readR p s = some ⟨l, [], w, hh, bits⟩) ∨ (b = false ∧ readR p s = none)) (h0 : lget h 0 = some (.frz F1)) (hle : Fz.le F F1) :
  Cln 1 (FoK F (zd4 p s)) (.ret (.tup [.agg [.lit l, .nilsl, .int .i64 w, .int .i64 hh, .str bits], .va (.bool b)])) h nx :=
 endFo (.ret (.tup [.agg (rvS ⟨l, [], w, hh, bits⟩ .nilsl), .va (.bool b)])) F1 h0 hle (Fz.le_refl F1) ⟨_, _, _, rfl, Its.nil, hv, trivial⟩ (zat _) rfl
theorem zca {F F1 : Fz} {p : Int} {s : List UInt8} {l b : Bool} {w hh : Int} {bits : List UInt8} {h : Hp} {nx : Nat} (hv : (b = true ∧ readR p s = some ⟨l, [], w, hh, bits⟩) ∨ (b = false ∧ readR p s = none)) (h0 : lget h 0 = some (.frz F1)) (hle : Fz.le F F1) :
  Cln 1 (FoK F (zd4 p s)) (.ret (.tup [.agg [.lit l, .nilsl, .int .i64 w, .int .i64 hh, .str bits], .va (.lit b)])) h nx :=
 endFo (.ret (.tup [.agg (rvS ⟨l, [], w, hh, bits⟩ .nilsl), .va (.bool b)])) F1 h0 hle (Fz.le_refl F1) ⟨_, _, _, rfl, Its.nil, hv, trivial⟩ ⟨rfl, rfl, trivial⟩ rfl
theorem zbj {F F1 : Fz} {p : Int} {s : List UInt8} {h : Hp} {nx : Nat} (hv : readR p s = none) (h0 : lget h 0 = some (.frz F1)) (hle : Fz.le F F1) :
  Cln 1 (FoK F (zd4 p s)) (.ret (.tup [.agg [.lit false, .nilsl, .int .i64 0, .int .i64 0, .str []], .va (.bool false)])) h nx := zbr (.inr ⟨rfl, hv⟩) h0 hle
set_option maxHeartbeats 4000000 in
theorem zmw (F : Fz) (s : List UInt8) (p : Int) (hp : ¬ (1 ≤ p ∧ p ≤ 8)) : Fo Tryz.prog F 31 [.va (.int .i64 p), .va (.str s)] (zd4 p s) := by
 have hin : inR p 1 8 = false := by
  apply Classical.byContradiction; intro h
  have h : inR p 1 8 = true := by simpa using h
  unfold inR at h; simp at h; exact hp h
 have hw := zbz hin F
 have hR : readR p s = none := if_pos hp
 refine fo_of hΘ Tryz.func31 rfl (by decide) _ _ rfl rfl rfl ?_;conv=>whnf
 refine usePu hw rfl ⟨rfl, rfl, rfl, trivial⟩ rfl ?_;conv=>whnf
 exact zbj hR rfl (Fz.le_refl F)
set_option maxHeartbeats 4000000 in
theorem zji (F : Fz) (p : Int) (hp : 1 ≤ p ∧ p ≤ 8) : Fo Tryz.prog F 31 [.va (.int .i64 p), .va (.str [])] (zd4 p []) := by
 have hin : inR p 1 8 = true := by unfold inR; simp; exact hp
 have hw := zbz hin F
 have hR : readR p [] = some ⟨true, [], 0, 0, []⟩ := by rw [readR, if_neg (fun h => h hp), if_pos rfl]
 refine fo_of hΘ Tryz.func31 rfl (by decide) _ _ rfl rfl rfl ?_;conv=>whnf
 refine usePu hw rfl ⟨rfl, rfl, rfl, trivial⟩ rfl ?_;conv=>whnf
 refine br (fun _ => ?_) (fun g => absurd g (by decide));conv=>whnf
 exact zbr (.inl ⟨rfl, hR⟩) rfl (Fz.le_refl F)
end Go.Proofs.YtblllibdahkgfaaGreatDoor

namespace Go.Proofs.YtblllibdahkgfaaGreatDoor
open Go Sx
set_option maxRecDepth 100000
theorem zgd (n lo hi : Int) : ∃ b, inR n lo hi = b := ⟨_, rfl⟩
def rasR (p : Int) (s : List UInt8) (x y : Int) (t : List UInt8) (a : Int) (b : Bool) : Option RVal :=
 if b = true ∨ a ≠ s.length then none
 else if p = 8 then if inR x 0 64 = true ∧ inR y 0 64 = true then some ⟨false, [], x, y, t⟩ else none
 else if t.all bitB = false then none
 else if x = 0 then if y = 0 ∧ t = [] then some ⟨false, [], x, y, t⟩ else none
 else if inR x 1 32 = true ∧ inR y 1 32 = true ∧ (p = 6 ∨ (t.length : Int) = x * y) then some ⟨false, [], x, y, t⟩ else none
set_option maxHeartbeats 8000000 in
theorem zo9 (F : Fz) (s : List UInt8) (hs : s.length ≤ 1000000000000000000) (hne : ¬ s = []) : Fo Tryz.prog F 31 [.va (.int .i64 8), .va (.str s)] (zd4 8 s) := by
 have hin : inR 8 1 8 = true := by decide
 have hw := zbz hin F
 have z0 : i64 0 := ⟨by omega, by omega⟩
 have n1 := zbh F s 0 false hs z0
 have i1 := zbo (b := false) hs z0
 have hx1 : ∃ x a b, rdNum s 0 false = (x, a, b) := ⟨_, _, _, rfl⟩
 obtain ⟨x, a1, b1, e1⟩ := hx1
 rw [e1] at n1 i1
 have n2 := zbh F s a1 b1 hs i1
 have i2 := zbo (b := b1) hs i1
 have hx2 : ∃ y a b, rdNum s a1 b1 = (y, a, b) := ⟨_, _, _, rfl⟩
 obtain ⟨y, a2, b2, e2⟩ := hx2
 rw [e2] at n2 i2
 have hR : readR 8 s = rasR 8 s x y [] a2 b2 := by
  rw [readR, if_neg (by omega), if_neg hne, if_pos (by omega), zfy, e1]
  dsimp only
  rw [e2]; rfl
 have hx3 := zgd x 0 64
 obtain ⟨c1, hc1⟩ := hx3
 have hx4 := zgd y 0 64
 obtain ⟨c2, hc2⟩ := hx4
 have w1 := zbz hc1 F
 have w2 := zbz hc2 F
 have hbad : b2 = true → readR 8 s = none := fun h => by rw [hR, rasR, if_pos (.inl h)]
 have hlen : a2 ≠ (s.length : Int) → readR 8 s = none := fun h => by rw [hR, rasR, if_pos (.inr h)]
 have hok : b2 = false → a2 = (s.length : Int) → (c1 && c2) = true → readR 8 s = some ⟨false, [], x, y, []⟩ := fun h1 h2 h3 => by
  rw [Bool.and_eq_true] at h3
  rw [hR, rasR, if_neg (by rintro (h | h); rw [h1] at h; cases h; exact h h2), if_pos rfl, if_pos (by rw [hc1, hc2]; exact h3)]
 have hno : b2 = false → a2 = (s.length : Int) → (c1 && c2) = false → readR 8 s = none := fun h1 h2 h3 => by
  rw [hR, rasR, if_neg (by rintro (h | h); rw [h1] at h; cases h; exact h h2), if_pos rfl, if_neg]
  rw [hc1, hc2]
  intro h
  rw [h.1, h.2] at h3; cases h3
 clear hR e1 e2 hc1 hc2
 refine fo_of hΘ Tryz.func31 rfl (by decide) _ _ rfl rfl rfl ?_;conv=>whnf
 refine usePu hw rfl ⟨rfl, rfl, rfl, trivial⟩ rfl ?_;conv=>whnf
 refine br (fun g => absurd (by simpa using g) hne) (fun _ => ?_);conv=>whnf
 refine br (fun _ => ?_) (fun g => absurd g (by decide));conv=>whnf
 refine use n1 [(1, 2)] rfl ⟨rfl, trivial⟩ rfl ⟨zan _ _ _, trivial⟩ (by simp [SV.below, SA.below]) ⟨rfl, trivial⟩ ?_
 rintro out0 F0 h0 n0 hle ⟨rfl, rfl, rfl, rfl⟩;conv=>whnf
 refine use n2 [(1, 2)] rfl ⟨rfl, trivial⟩ rfl ⟨zan _ _ _, trivial⟩ (by simp [SV.below, SA.below]) ⟨rfl, trivial⟩ ?_
 rintro out0 F0 h0 n0 hle ⟨rfl, rfl, rfl, rfl⟩;conv=>whnf
 refine br (fun g => absurd g (by decide)) (fun _ => ?_);conv=>whnf
 rcases b2 with _ | _
 ·conv=>whnf
  refine br (fun g => ?_) (fun g => ?_)
  ·have g' : a2 ≠ (s.length : Int) := by simpa using g
   have e := hlen g'
   conv=>whnf
   exact zbj e rfl (Fz.le_refl F)
  ·have g' : a2 = (s.length : Int) := by simpa using g
   clear g
   have hok' := hok rfl g'
   have hno' := hno rfl g'
   clear hok hno hlen hbad;conv=>whnf
   refine br (fun _ => ?_) (fun g => absurd g (by decide));conv=>whnf
   refine drawP hΘ mixed (.look 0 (.look 1 (.look 2 (.alt 3 (.look 4 (.look 5 (.look 6 (.alt 7 (.look 8 (.alt 9 (.look 10 .done) .nil)) .nil)))) .nil)))) [3] (by kernel_rfl) ?_;conv=>whnf
   repeat' ((conv=>whnf); first
    | refine ⟨rfl, ?_⟩
    | refine ⟨Fz.le_refl _, rfl, ?_⟩
    | refine ⟨Fz.le_refl _, rfl, rfl, ?_⟩
    | refine ⟨⟨by simp, by simp⟩, ?_⟩
    | fail)
   conv=>whnf
   refine usePu w1 rfl ⟨rfl, rfl, rfl, trivial⟩ rfl ?_
   refine ⟨Fz.le_refl F, rfl, ?_⟩
   rcases c1 with _ | _
   ·conv=>whnf
    refine ⟨Fz.le_refl F, rfl, ?_⟩;conv=>whnf
    first | exact zbr (l := false) (w := x) (hh := y) (bits := []) (.inr ⟨rfl, hno' rfl⟩) rfl (Fz.le_refl F) | exact zca (l := false) (w := x) (hh := y) (bits := []) (.inr ⟨rfl, hno' rfl⟩) rfl (Fz.le_refl F)
   ·conv=>whnf
    refine ⟨rfl, ?_⟩;conv=>whnf
    refine usePu w2 rfl ⟨rfl, rfl, rfl, trivial⟩ rfl ?_
    refine ⟨Fz.le_refl F, rfl, ?_⟩;conv=>whnf
    refine ⟨Fz.le_refl F, rfl, ?_⟩
    rcases c2 with _ | _
    ·conv=>whnf
     first | exact zbr (l := false) (w := x) (hh := y) (bits := []) (.inr ⟨rfl, hno' rfl⟩) rfl (Fz.le_refl F) | exact zca (l := false) (w := x) (hh := y) (bits := []) (.inr ⟨rfl, hno' rfl⟩) rfl (Fz.le_refl F)
    ·conv=>whnf
     first | exact zbr (l := false) (w := x) (hh := y) (bits := []) (.inl ⟨rfl, hok' rfl⟩) rfl (Fz.le_refl F) | exact zca (l := false) (w := x) (hh := y) (bits := []) (.inl ⟨rfl, hok' rfl⟩) rfl (Fz.le_refl F)
 ·have e := hbad rfl
  conv=>whnf
  exact zbj e rfl (Fz.le_refl F)
end Go.Proofs.YtblllibdahkgfaaGreatDoor

namespace Go.Proofs.YtblllibdahkgfaaGreatDoor
open Go Sx
set_option maxRecDepth 100000
section
variable {p : Int} {s : List UInt8} {x y : Int} {t : List UInt8} {a : Int} {b : Bool}
theorem zpa (h : b = true) : rasR p s x y t a b = none := if_pos (.inl h)
theorem zq6 (h : a ≠ s.length) : rasR p s x y t a b = none := if_pos (.inr h)
theorem zul (h1 : b = false) (h2 : a = s.length) (h8 : p ≠ 8) : rasR p s x y t a b = (if t.all bitB = false then none
 else if x = 0 then if y = 0 ∧ t = [] then some ⟨false, [], x, y, t⟩ else none
 else if inR x 1 32 = true ∧ inR y 1 32 = true ∧ (p = 6 ∨ (t.length : Int) = x * y) then some ⟨false, [], x, y, t⟩ else none) := by
 have h0 : ¬ (b = true ∨ a ≠ s.length) := by
  rintro (h | h)
  ·rw [h1] at h; cases h
  ·exact h h2
 rw [rasR, if_neg h0, if_neg h8]
end
theorem ztc {t : List UInt8} {k : Nat} (g : k < t.length) : (t.take (k + 1)).all bitB = ((t.take k).all bitB && bitB t[k]) := by
 rw [List.take_succ_eq_append_getElem g, List.all_append]; simp
theorem zwr {t : List UInt8} {k : Nat} (g : k < t.length) (h : bitB t[k] = false) : t.all bitB = false := by
 rw [List.all_eq_false]
 exact ⟨t[k], List.getElem_mem g, by rw [h]; simp⟩
theorem u8_ne {b : UInt8} {n : Nat} (hn : n < 256) (h : ¬ (b.toNat : Int) = n) : (b == UInt8.ofNat n) = false := by
 apply Classical.byContradiction; intro h2
 have h3 : b = UInt8.ofNat n := by simpa using h2
 apply h; rw [h3]
 simp; omega
theorem u8_eq {b : UInt8} {n : Nat} (hn : n < 256) (h : (b.toNat : Int) = n) : b = UInt8.ofNat n := by
 have h2 : b.toNat = n := by omega
 rw [← h2]; simp
set_option maxHeartbeats 8000000 in
theorem zpy (F : Fz) (s : List UInt8) (hs : s.length ≤ 1000000000000000000) (hne : ¬ s = []) : Fo Tryz.prog F 31 [.va (.int .i64 7), .va (.str s)] (zd4 7 s) := by
 have hin : inR 7 1 8 = true := by decide
 have hw := zbz hin F
 have z0 : i64 0 := ⟨by omega, by omega⟩
 have n1 := zbh F s 0 false hs z0
 have i1 := zbo (b := false) hs z0
 have hx1 : ∃ x a b, rdNum s 0 false = (x, a, b) := ⟨_, _, _, rfl⟩
 obtain ⟨x, a1, b1, e1⟩ := hx1
 rw [e1] at n1 i1
 have n2 := zbh F s a1 b1 hs i1
 have i2 := zbo (b := b1) hs i1
 have hx2 : ∃ y a b, rdNum s a1 b1 = (y, a, b) := ⟨_, _, _, rfl⟩
 obtain ⟨y, a2, b2, e2⟩ := hx2
 rw [e2] at n2 i2
 have n3 := zlh F s a2 b2 hs i2
 have l3 := zh0 s a2 b2
 have hx3 : ∃ t a b, rdTxt s a2 b2 = (t, a, b) := ⟨_, _, _, rfl⟩
 obtain ⟨t, a3, b3, e3⟩ := hx3
 rw [e3] at n3 l3
 replace l3 : t.length ≤ 65536 := l3
 have hR : readR 7 s = rasR 7 s x y t a3 b3 := by
  rw [readR, if_neg (by omega), if_neg hne, if_pos (by omega), zfy, e1]
  dsimp only
  rw [e2]
  dsimp only
  rw [if_pos rfl, e3]; rfl
 clear e1 e2 e3
 refine fo_of hΘ Tryz.func31 rfl (by decide) _ _ rfl rfl rfl ?_;conv=>whnf
 refine usePu hw rfl ⟨rfl, rfl, rfl, trivial⟩ rfl ?_;conv=>whnf
 refine br (fun g => absurd (by simpa using g) hne) (fun _ => ?_);conv=>whnf
 refine br (fun _ => ?_) (fun g => absurd g (by decide));conv=>whnf
 refine use n1 [(1, 2)] rfl ⟨rfl, trivial⟩ rfl ⟨zan _ _ _, trivial⟩ (by simp [SV.below, SA.below]) ⟨rfl, trivial⟩ ?_
 rintro out0 F0 h0 n0 hle ⟨rfl, rfl, rfl, rfl⟩;conv=>whnf
 refine use n2 [(1, 2)] rfl ⟨rfl, trivial⟩ rfl ⟨zan _ _ _, trivial⟩ (by simp [SV.below, SA.below]) ⟨rfl, trivial⟩ ?_
 rintro out0 F0 h0 n0 hle ⟨rfl, rfl, rfl, rfl⟩;conv=>whnf
 refine br (fun _ => ?_) (fun g => absurd g (by decide));conv=>whnf
 refine use n3 [(1, 2)] rfl ⟨rfl, trivial⟩ rfl ⟨zan _ _ _, trivial⟩ (by simp [SV.below, SA.below]) ⟨rfl, trivial⟩ ?_
 rintro out0 F0 h0 n0 hle ⟨rfl, rfl, rfl, rfl⟩;conv=>whnf
 rcases b3 with _ | _
 ·conv=>whnf
  refine br (fun g => ?_) (fun g => ?_)
  ·have g' : a3 ≠ (s.length : Int) := by simpa using g
   have e := hR.trans (zq6 g')
   conv=>whnf
   exact zbj e rfl (Fz.le_refl F)
  ·have g' : a3 = (s.length : Int) := by simpa using g
   clear g
   have hR' := hR.trans (zul rfl g' (by decide))
   clear hR n1 n2 n3;conv=>whnf
   refine br (fun g => absurd g (by decide)) (fun _ => ?_);conv=>whnf
   refine za0 hΘ (X := { k : Nat // k ≤ t.length ∧ (t.take k).all bitB = true }) (fun k => [(8, .va (.int .i64 k.1))]) [5, 63, 64, 65, 66, 67, 68, 69, 70, 71, 72, 73, 74, 75, 76, 77, 78, 79, 80, 81, 82]
    (fun _ => [(0, .frz F), (1, rvalE ⟨false, [], 0, 0, []⟩ 0 0), (2, rrd s a3 false), (3, rvalE ⟨false, [], x, y, t⟩ 0 0)]) 4 (fun k => t.length - k.1) ⟨0, by simp⟩
    (fun hH hT => leI [] hH hT rfl ⟨trivial, zad (by omega) _, zan _ _ _, zad (by omega) _, trivial⟩ ⟨rfl, trivial⟩ ⟨Fz.le_refl F, rfl, rfl, rfl, trivial⟩) ?_
   rintro ⟨k, hk, hall⟩ hH hT
   replace hk : k ≤ t.length := hk
   replace hall : (t.take k).all bitB = true := hall
   by_cases gk : k < t.length
   ·have hlt : (k : Int) < (t.length : Int) := by omega
    have hsb := ztc gk
    rw [hall, Bool.true_and] at hsb
    have hbx : ∃ b, t[k] = b := ⟨_, rfl⟩
    obtain ⟨bb, hbb⟩ := hbx
    have hget : t[(k : Int).toNat]? = some bb := by rw [Int.toNat_natCast, List.getElem?_eq_getElem gk, hbb]
    rw [hbb] at hsb
    have hbad : bitB bb = false → readR 7 s = none := fun h => by rw [hR', if_pos (zwr gk (by rw [hbb]; exact h))]
    have hlt256 := bb.toNat_lt
    have hk1 : k + 1 ≤ t.length := gk
    have hdec : t.length - (k + 1) < t.length - k := by omega
    have hk62 : k < 4611686018427387904 := by omega
    have hidx : 0 ≤ (k : Int) := by omega
    clear hR' hall hbb;conv=>whnf
    refine br (fun _ => ?_) (fun g => absurd hlt (of_decide_eq_false g));conv=>whnf
    refine ⟨hidx, bb, hget, ?_⟩;conv=>whnf
    by_cases h48 : (bb.toNat : Int) = 48
    ·have e48 : bitB bb = true := by rw [u8_eq (by decide) h48]; rfl
     rw [e48] at hsb
     refine ⟨fun ga => absurd h48 (by simpa using ga), fun _ => ?_⟩;conv=>whnf
     exact ⟨⟨k + 1, hk1, hsb⟩, hdec, leR [] hH hT rfl ⟨trivial, zad (by omega) _, zan _ _ _, zad (by omega) _, trivial⟩ ⟨cnt hk62, trivial⟩ ⟨Fz.le_refl F, rfl, rfl, rfl, trivial⟩⟩
    ·refine ⟨fun _ => ?_, fun ga => absurd (by simpa using ga) h48⟩;conv=>whnf
     refine ⟨hidx, bb, hget, ?_⟩;conv=>whnf
     by_cases h49 : (bb.toNat : Int) = 49
     ·have e49 : bitB bb = true := by rw [u8_eq (by decide) h49]; rfl
      rw [e49] at hsb
      refine br (fun ga => absurd h49 (by simpa using ga)) (fun _ => ?_);conv=>whnf
      exact ⟨⟨k + 1, hk1, hsb⟩, hdec, leR [] hH hT rfl ⟨trivial, zad (by omega) _, zan _ _ _, zad (by omega) _, trivial⟩ ⟨cnt hk62, trivial⟩ ⟨Fz.le_refl F, rfl, rfl, rfl, trivial⟩⟩
     ·have e := hbad (by
       unfold bitB
       rw [show (bb == 48) = false from u8_ne (n := 48) (by decide) h48, show (bb == 49) = false from u8_ne (n := 49) (by decide) h49]; rfl)
      refine br (fun _ => ?_) (fun ga => absurd (by simpa using ga) h49);conv=>whnf
      exact zbj e rfl (Fz.le_refl F)
   ·have hge : ¬ (k : Int) < (t.length : Int) := by omega
    have hall' : t.all bitB = true := by
     have h2 : k = t.length := by omega
     rw [h2, List.take_of_length_le (Nat.le_refl _)] at hall
     exact hall
    rw [if_neg (by rw [hall']; simp)] at hR'
    clear hall hall';conv=>whnf
    refine br (fun g => absurd (of_decide_eq_true g) hge) (fun _ => ?_)
    by_cases hx0 : x = 0
    ·rw [if_pos hx0] at hR'
     conv=>whnf
     refine br (fun _ => ?_) (fun g => absurd hx0 (of_decide_eq_false g));conv=>whnf
     refine drawP hΘ mixed (.look 0 (.look 1 (.look 2 (.look 3 (.look 4 (.look 5 (.look 6 (.look 7 (.look 8 (.alt 9 (.look 10 .done) .nil)))))))))) [3] (by kernel_rfl) ?_;conv=>whnf
     refine ⟨rfl, ?_⟩;conv=>whnf
     refine ⟨rfl, ?_⟩;conv=>whnf
     by_cases hy0 : y = 0
     ·refine ⟨fun _ => ?_, fun g => absurd hy0 (of_decide_eq_false g)⟩;conv=>whnf
      refine ⟨rfl, ?_⟩;conv=>whnf
      refine ⟨Fz.le_refl F, rfl, ?_⟩
      by_cases ht0 : t = []
      ·subst ht0
       rw [if_pos ⟨hy0, rfl⟩] at hR'
       conv=>whnf
       first | exact zbr (l := false) (w := x) (hh := y) (bits := []) (.inl ⟨rfl, hR'⟩) rfl (Fz.le_refl F) | exact zca (l := false) (w := x) (hh := y) (bits := []) (.inl ⟨rfl, hR'⟩) rfl (Fz.le_refl F)
      ·rw [if_neg (fun h => ht0 h.2)] at hR'
       have hv : ((t == []) = true ∧ readR 7 s = some ⟨false, [], x, y, t⟩) ∨ ((t == []) = false ∧ readR 7 s = none) := .inr ⟨by simpa using ht0, hR'⟩
       conv=>whnf
       first | exact zbr (l := false) (w := x) (hh := y) (bits := t) hv rfl (Fz.le_refl F) | exact zca (l := false) (w := x) (hh := y) (bits := t) hv rfl (Fz.le_refl F)
     ·refine ⟨fun g => absurd (of_decide_eq_true g) hy0, fun _ => ?_⟩
      rw [if_neg (fun h => hy0 h.1)] at hR'
      conv=>whnf
      refine ⟨Fz.le_refl F, rfl, ?_⟩;conv=>whnf
      first | exact zbr (l := false) (w := x) (hh := y) (bits := t) (.inr ⟨rfl, hR'⟩) rfl (Fz.le_refl F) | exact zca (l := false) (w := x) (hh := y) (bits := t) (.inr ⟨rfl, hR'⟩) rfl (Fz.le_refl F)
    ·rw [if_neg hx0] at hR'
     have hx1 := zgd x 1 32
     obtain ⟨c1, hc1⟩ := hx1
     have hx2 := zgd y 1 32
     obtain ⟨c2, hc2⟩ := hx2
     have w1 := zbz hc1 F
     have w2 := zbz hc2 F
     conv=>whnf
     refine br (fun g => absurd (of_decide_eq_true g) hx0) (fun _ => ?_);conv=>whnf
     refine drawP hΘ mixed (.look 0 (.look 1 (.look 2 (.alt 3 (.look 4 (.look 5 (.look 6 (.alt 7 (.look 8 (.look 9 (.look 10 (.look 11 (.look 12 (.look 13 (.look 14 (.look 15 (.look 16 (.look 17 (.look 18 (.look 19 (.look 20 (.look 21 (.look 22 (.look 23 (.alt 24 (.look 25 .done) .nil))))))))))))))))) .nil)))) .nil)))) [3] (by kernel_rfl) ?_;conv=>whnf
     refine ⟨rfl, ?_⟩;conv=>whnf
     refine ⟨rfl, ?_⟩;conv=>whnf
     refine usePu w1 rfl ⟨rfl, rfl, rfl, trivial⟩ rfl ?_
     refine ⟨Fz.le_refl F, rfl, ?_⟩
     rcases c1 with _ | _
     ·rw [if_neg (fun h => by rw [hc1] at h; cases h.1)] at hR'
      conv=>whnf
      refine ⟨Fz.le_refl F, rfl, ?_⟩;conv=>whnf
      first | exact zbr (l := false) (w := x) (hh := y) (bits := t) (.inr ⟨rfl, hR'⟩) rfl (Fz.le_refl F) | exact zca (l := false) (w := x) (hh := y) (bits := t) (.inr ⟨rfl, hR'⟩) rfl (Fz.le_refl F)
     ·conv=>whnf
      refine ⟨rfl, ?_⟩;conv=>whnf
      refine usePu w2 rfl ⟨rfl, rfl, rfl, trivial⟩ rfl ?_
      refine ⟨Fz.le_refl F, rfl, ?_⟩
      rcases c2 with _ | _
      ·rw [if_neg (fun h => by rw [hc2] at h; cases h.2.1)] at hR'
       conv=>whnf
       refine ⟨Fz.le_refl F, rfl, ?_⟩;conv=>whnf
       first | exact zbr (l := false) (w := x) (hh := y) (bits := t) (.inr ⟨rfl, hR'⟩) rfl (Fz.le_refl F) | exact zca (l := false) (w := x) (hh := y) (bits := t) (.inr ⟨rfl, hR'⟩) rfl (Fz.le_refl F)
      ·have r1 := zbe.1 hc1
       have r2 := zbe.1 hc2
       have hwr : IntKind.i64.wrap (x * y) = x * y := by
        have h1 : 0 ≤ x * y := Int.mul_nonneg (by omega) (by omega)
        have h2 : x * y ≤ 32 * 32 := Int.mul_le_mul r1.2 r2.2 (by omega) (by omega)
        exact zaj (by omega) (by omega)
       have hv : (decide ((t.length : Int) = IntKind.i64.wrap (x * y)) = true ∧ readR 7 s = some ⟨false, [], x, y, t⟩) ∨ (decide ((t.length : Int) = IntKind.i64.wrap (x * y)) = false ∧ readR 7 s = none) := by
        by_cases hl : (t.length : Int) = x * y
        ·rw [if_pos ⟨hc1, hc2, .inr hl⟩] at hR'
         rw [hwr]; exact .inl ⟨decide_eq_true hl, hR'⟩
        ·rw [if_neg (fun h => hl (h.2.2.resolve_left (by decide)))] at hR'
         rw [hwr]; exact .inr ⟨decide_eq_false hl, hR'⟩
       clear hwr hR' r1 r2 w1 w2;conv=>whnf
       refine ⟨fun _ => ?_, fun g => absurd g (by decide)⟩;conv=>whnf
       refine ⟨rfl, ?_⟩;conv=>whnf
       refine ⟨rfl, ?_⟩;conv=>whnf
       refine ⟨rfl, ?_⟩;conv=>whnf
       refine ⟨Fz.le_refl F, rfl, ?_⟩;conv=>whnf
       first | exact zbr (l := false) (w := x) (hh := y) (bits := t) hv rfl (Fz.le_refl F) | exact zca (l := false) (w := x) (hh := y) (bits := t) hv rfl (Fz.le_refl F)
 ·have e := hR.trans (zpa rfl)
  conv=>whnf
  exact zbj e rfl (Fz.le_refl F)
set_option maxHeartbeats 8000000 in
theorem zqf (F : Fz) (s : List UInt8) (hs : s.length ≤ 1000000000000000000) (hne : ¬ s = []) : Fo Tryz.prog F 31 [.va (.int .i64 6), .va (.str s)] (zd4 6 s) := by
 have hin : inR 6 1 8 = true := by decide
 have hw := zbz hin F
 have z0 : i64 0 := ⟨by omega, by omega⟩
 have n1 := zbh F s 0 false hs z0
 have i1 := zbo (b := false) hs z0
 have hx1 : ∃ x a b, rdNum s 0 false = (x, a, b) := ⟨_, _, _, rfl⟩
 obtain ⟨x, a1, b1, e1⟩ := hx1
 rw [e1] at n1 i1
 have n2 := zbh F s a1 b1 hs i1
 have i2 := zbo (b := b1) hs i1
 have hx2 : ∃ y a b, rdNum s a1 b1 = (y, a, b) := ⟨_, _, _, rfl⟩
 obtain ⟨y, a2, b2, e2⟩ := hx2
 rw [e2] at n2 i2
 have hR : readR 6 s = rasR 6 s x y [] a2 b2 := by
  rw [readR, if_neg (by omega), if_neg hne, if_pos (by omega), zfy, e1]
  dsimp only
  rw [e2]; rfl
 clear e1 e2
 refine fo_of hΘ Tryz.func31 rfl (by decide) _ _ rfl rfl rfl ?_;conv=>whnf
 refine usePu hw rfl ⟨rfl, rfl, rfl, trivial⟩ rfl ?_;conv=>whnf
 refine br (fun g => absurd (by simpa using g) hne) (fun _ => ?_);conv=>whnf
 refine br (fun _ => ?_) (fun g => absurd g (by decide));conv=>whnf
 refine use n1 [(1, 2)] rfl ⟨rfl, trivial⟩ rfl ⟨zan _ _ _, trivial⟩ (by simp [SV.below, SA.below]) ⟨rfl, trivial⟩ ?_
 rintro out0 F0 h0 n0 hle ⟨rfl, rfl, rfl, rfl⟩;conv=>whnf
 refine use n2 [(1, 2)] rfl ⟨rfl, trivial⟩ rfl ⟨zan _ _ _, trivial⟩ (by simp [SV.below, SA.below]) ⟨rfl, trivial⟩ ?_
 rintro out0 F0 h0 n0 hle ⟨rfl, rfl, rfl, rfl⟩;conv=>whnf
 refine br (fun g => absurd g (by decide)) (fun _ => ?_);conv=>whnf
 rcases b2 with _ | _
 ·conv=>whnf
  refine br (fun g => ?_) (fun g => ?_)
  ·have g' : a2 ≠ (s.length : Int) := by simpa using g
   have e := hR.trans (zq6 g')
   conv=>whnf
   exact zbj e rfl (Fz.le_refl F)
  ·have g' : a2 = (s.length : Int) := by simpa using g
   clear g
   have hR' := hR.trans (zul rfl g' (by decide))
   rw [if_neg (by decide)] at hR'
   clear hR n1 n2;conv=>whnf
   refine br (fun g => absurd g (by decide)) (fun _ => ?_);conv=>whnf
   refine zb4 hΘ 0 ?_;conv=>whnf
   refine br (fun g => absurd g (by decide)) (fun _ => ?_);conv=>whnf
   by_cases hx0 : x = 0
   ·rw [if_pos hx0] at hR'
    conv=>whnf
    refine br (fun _ => ?_) (fun g => absurd hx0 (of_decide_eq_false g));conv=>whnf
    refine drawP hΘ mixed (.look 0 (.look 1 (.look 2 (.look 3 (.look 4 (.look 5 (.look 6 (.look 7 (.look 8 (.alt 9 (.look 10 .done) .nil)))))))))) [3] (by kernel_rfl) ?_;conv=>whnf
    refine ⟨rfl, ?_⟩;conv=>whnf
    refine ⟨rfl, ?_⟩;conv=>whnf
    by_cases hy0 : y = 0
    ·refine ⟨fun _ => ?_, fun g => absurd hy0 (of_decide_eq_false g)⟩
     rw [if_pos ⟨hy0, rfl⟩] at hR'
     conv=>whnf
     refine ⟨rfl, ?_⟩;conv=>whnf
     refine ⟨Fz.le_refl F, rfl, ?_⟩;conv=>whnf
     first | exact zbr (l := false) (w := x) (hh := y) (bits := []) (.inl ⟨rfl, hR'⟩) rfl (Fz.le_refl F) | exact zca (l := false) (w := x) (hh := y) (bits := []) (.inl ⟨rfl, hR'⟩) rfl (Fz.le_refl F)
    ·refine ⟨fun g => absurd (of_decide_eq_true g) hy0, fun _ => ?_⟩
     rw [if_neg (fun h => hy0 h.1)] at hR'
     conv=>whnf
     refine ⟨Fz.le_refl F, rfl, ?_⟩;conv=>whnf
     first | exact zbr (l := false) (w := x) (hh := y) (bits := []) (.inr ⟨rfl, hR'⟩) rfl (Fz.le_refl F) | exact zca (l := false) (w := x) (hh := y) (bits := []) (.inr ⟨rfl, hR'⟩) rfl (Fz.le_refl F)
   ·rw [if_neg hx0] at hR'
    have hx1 := zgd x 1 32
    obtain ⟨c1, hc1⟩ := hx1
    have hx2 := zgd y 1 32
    obtain ⟨c2, hc2⟩ := hx2
    have w1 := zbz hc1 F
    have w2 := zbz hc2 F
    conv=>whnf
    refine br (fun g => absurd (of_decide_eq_true g) hx0) (fun _ => ?_);conv=>whnf
    refine drawP hΘ mixed (.look 0 (.look 1 (.look 2 (.alt 3 (.look 4 (.look 5 (.look 6 (.alt 7 (.look 8 (.look 9 (.look 10 (.look 11 (.look 12 (.look 13 (.look 14 (.look 15 (.look 16 (.look 17 (.look 18 (.look 19 (.look 20 (.look 21 (.look 22 (.look 23 (.alt 24 (.look 25 .done) .nil))))))))))))))))) .nil)))) .nil)))) [3] (by kernel_rfl) ?_;conv=>whnf
    refine ⟨rfl, ?_⟩;conv=>whnf
    refine ⟨rfl, ?_⟩;conv=>whnf
    refine usePu w1 rfl ⟨rfl, rfl, rfl, trivial⟩ rfl ?_
    refine ⟨Fz.le_refl F, rfl, ?_⟩
    rcases c1 with _ | _
    ·rw [if_neg (fun h => by rw [hc1] at h; cases h.1)] at hR'
     conv=>whnf
     refine ⟨Fz.le_refl F, rfl, ?_⟩;conv=>whnf
     first | exact zbr (l := false) (w := x) (hh := y) (bits := []) (.inr ⟨rfl, hR'⟩) rfl (Fz.le_refl F) | exact zca (l := false) (w := x) (hh := y) (bits := []) (.inr ⟨rfl, hR'⟩) rfl (Fz.le_refl F)
    ·conv=>whnf
     refine ⟨rfl, ?_⟩;conv=>whnf
     refine usePu w2 rfl ⟨rfl, rfl, rfl, trivial⟩ rfl ?_
     refine ⟨Fz.le_refl F, rfl, ?_⟩
     rcases c2 with _ | _
     ·rw [if_neg (fun h => by rw [hc2] at h; cases h.2.1)] at hR'
      conv=>whnf
      refine ⟨Fz.le_refl F, rfl, ?_⟩;conv=>whnf
      first | exact zbr (l := false) (w := x) (hh := y) (bits := []) (.inr ⟨rfl, hR'⟩) rfl (Fz.le_refl F) | exact zca (l := false) (w := x) (hh := y) (bits := []) (.inr ⟨rfl, hR'⟩) rfl (Fz.le_refl F)
     ·rw [if_pos ⟨hc1, hc2, .inl rfl⟩] at hR'
      conv=>whnf
      refine ⟨fun g => absurd g (by decide), fun _ => ?_⟩;conv=>whnf
      refine ⟨Fz.le_refl F, rfl, ?_⟩;conv=>whnf
      first | exact zbr (l := false) (w := x) (hh := y) (bits := []) (.inl ⟨rfl, hR'⟩) rfl (Fz.le_refl F) | exact zca (l := false) (w := x) (hh := y) (bits := []) (.inl ⟨rfl, hR'⟩) rfl (Fz.le_refl F)
 ·have e := hR.trans (zpa rfl)
  conv=>whnf
  exact zbj e rfl (Fz.le_refl F)
end Go.Proofs.YtblllibdahkgfaaGreatDoor
