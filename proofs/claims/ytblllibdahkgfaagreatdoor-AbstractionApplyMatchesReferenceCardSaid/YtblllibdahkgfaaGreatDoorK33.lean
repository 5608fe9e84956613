import Derived.Test.YtblllibdahkgfaaGreatDoorK32
import Derived.Test.YtblllibdahkgfaaGreatDoorK27
import Derived.Test.YtblllibdahkgfaaGreatDoorK31
import Derived.Test.YtblllibdahkgfaaGreatDoorK25
import Derived.Test.YtblllibdahkgfaaGreatDoorK24

namespace Go.Proofs.YtblllibdahkgfaaGreatDoor
open Go Sx
theorem zcn (s : List UInt8) (q : Int) : rdNum s q true = (0, q, true) := if_pos (.inl rfl)
theorem zcl {s : List UInt8} {q : Int} (h : (getI s q).2.2 = 0) : rdNum s q false = ((getI s q).1, (getI s q).2.1, false) := if_neg (by rintro (h1 | h1); cases h1; exact h1 h)
theorem zcj {s : List UInt8} {q : Int} (h : ¬ (getI s q).2.2 = 0) (b : Bool) : rdNum s q b = (0, q, true) := if_pos (.inr h)
theorem zl0 (s : List UInt8) (q : Int) : rdTxt s q true = ([], q, true) := if_pos (.inl rfl)
theorem zn5 {s : List UInt8} {q : Int} (h : (getS s q).2.2 = 0) : rdTxt s q false = ((getS s q).1, (getS s q).2.1, false) := if_neg (by rintro (h1 | h1); cases h1; exact h1 h)
theorem znw {s : List UInt8} {q : Int} (h : ¬ (getS s q).2.2 = 0) (b : Bool) : rdTxt s q b = ([], q, true) := if_pos (.inr h)
def rawN (s : List UInt8) : Nat → Int → Option (List Int × Int)
 | 0, q => some ([], q)
 | k + 1, q => if (getI s q).2.2 = 0 then match rawN s k (getI s q).2.1 with
  | none => none
  | some (m, q') => some ((getI s q).1 :: m, q')
  else none
theorem zlx (s : List UInt8) (p : Int) : ∀ (k : Nat) (acc : List Int) (q : Int), numsS s p k acc q = match rawN s k q with
  | none => none
  | some (m, q') => if zed p acc m then some (acc ++ m, q') else none
 | 0, acc, q => by
  show some (acc, q) = if zed p acc [] then some (acc ++ [], q) else none
  rw [if_pos (show zed p acc [] from trivial), List.append_nil]
 | k + 1, acc, q => by
  rw [numsS, rawN]
  by_cases h1 : (getI s q).2.2 = 0
  ·rw [if_pos h1]
   have ih := zlx s p k (acc ++ [(getI s q).1]) (getI s q).2.1
   by_cases h2 : (bnd p acc).1 ≤ (getI s q).1 ∧ (getI s q).1 ≤ (bnd p acc).2
   ·rw [if_pos (za9.2 ⟨h1, h2⟩), ih]
    cases hr : rawN s k (getI s q).2.1 with
    | none => rfl
    | some x =>
     obtain ⟨m, q'⟩ := x
     dsimp only
     by_cases h3 : zed p (acc ++ [(getI s q).1]) m
     ·rw [if_pos h3, if_pos (show zed p acc ((getI s q).1 :: m) from ⟨h2, h3⟩)]
      simp
     ·rw [if_neg h3, if_neg (fun h : zed p acc ((getI s q).1 :: m) => h3 h.2)]
   ·rw [if_neg (fun h => h2 (za9.1 h).2)]
    cases hr : rawN s k (getI s q).2.1 with
    | none => rfl
    | some x =>
     obtain ⟨m, q'⟩ := x
     dsimp only
     rw [if_neg (fun h : zed p acc ((getI s q).1 :: m) => h2 h.1)]
  ·rw [if_neg h1, if_neg (fun h => h1 (za9.1 h).1)]
theorem zoo (s : List UInt8) : ∀ (k : Nat) (q : Int) {m : List Int} {q' : Int}, rawN s k q = some (m, q') → m.length = k
 | 0, q, m, q', h => by
  simp only [rawN, Option.some.injEq, Prod.mk.injEq] at h
  rw [← h.1]; rfl
 | k + 1, q, m, q', h => by
  rw [rawN] at h
  split at h
  ·cases hr : rawN s k (getI s q).2.1 with
   | none => rw [hr] at h; cases h
   | some x =>
    obtain ⟨m', q''⟩ := x
    rw [hr] at h
    simp only [Option.some.injEq, Prod.mk.injEq] at h
    rw [← h.1, List.length_cons, zoo s k _ hr]
  ·cases h
def rawL (p : Int) (s : List UInt8) (q : Int) : Option (Ln × Int) :=
 if p = 1 then if (getS s q).2.2 = 0 then some (((getS s q).1, []), (getS s q).2.1) else none
 else match rawN s (colN p) q with
  | none => none
  | some (m, q') => some (([], m), q')
theorem zq5 {p : Int} (s : List UInt8) (before : List Ln) (q : Int) : lineS s p before q = match rawL p s q with
  | none => none
  | some (x, q') => if lnOk p before x then some (x, q') else none := by
 unfold lineS rawL
 by_cases h1 : p = 1
 ·rw [if_pos h1, if_pos h1]
  by_cases h2 : (getS s q).2.2 = 0
  ·rw [if_pos h2]
   dsimp only
   by_cases h3 : (getS s q).1.length ≤ 80 ∧ (getS s q).1.any badC = false
   ·rw [if_pos ⟨h2, h3⟩, if_pos]
    unfold lnOk
    rw [if_pos h1]; exact ⟨rfl, h3⟩
   ·rw [if_neg (fun h => h3 h.2), if_neg]
    unfold lnOk
    rw [if_pos h1]; exact fun h => h3 h.2
  ·rw [if_neg h2, if_neg (fun h => h2 h.1)]
 ·rw [if_neg h1, if_neg h1, zlx, zl7]
  cases hr : rawN s (colN p) q with
  | none => rfl
  | some x =>
   obtain ⟨m, q'⟩ := x
   have hl := zoo s _ _ hr
   dsimp only
   have hk : lnOk p before ([], m) ↔ zed p [] m ∧ (p ≠ 2 → ∀ y, before.getLast? = some y → cmpL (y.2.take 2) (m.take 2) < 0) := by
    unfold lnOk
    rw [if_neg h1]
    show ([] : List UInt8) = [] ∧ m.length = cols p ∧ zed p [] m ∧ _ ↔ _
    rw [zl7]
    exact ⟨fun h => h.2.2, fun h => ⟨rfl, hl, h⟩⟩
   by_cases h2 : zed p [] m
   ·rw [if_pos h2]
    dsimp only
    rw [List.nil_append]
    by_cases h3 : p = 2
    ·rw [if_pos h3, if_pos (hk.2 ⟨h2, fun h => absurd h3 h⟩)]
    ·rw [if_neg h3]
     cases hb : before.getLast? with
     | none => rw [if_pos (hk.2 ⟨h2, fun _ y hy => by rw [hb] at hy; cases hy⟩)]
     | some y =>
      dsimp only
      by_cases h4 : cmpL (y.2.take 2) (m.take 2) < 0
      ·rw [if_pos h4, if_pos (hk.2 ⟨h2, fun _ z hz => by rw [hb] at hz; cases hz; exact h4⟩)]
      ·rw [if_neg h4, if_neg (fun h => h4 ((hk.1 h).2 h3 y hb))]
   ·rw [if_neg h2, if_neg (fun h => h2 (hk.1 h).1)]
theorem rdL1 (s : List UInt8) (q : Int) : rdL 1 s q = (((rdTxt s q false).1, 0, 0, 0, 0), (rdTxt s q false).2.1, (rdTxt s q false).2.2) := rfl
theorem rdL2 (s : List UInt8) (q : Int) : rdL 2 s q = (([], (rdNum s q false).1, 0, 0, 0), (rdNum s q false).2.1, (rdNum s q false).2.2) := rfl
def rd3 (s : List UInt8) (q : Int) : RLn × Int × Bool :=
 let a := rdNum s q false
 let b := rdNum s a.2.1 a.2.2
 let c := rdNum s b.2.1 b.2.2
 (([], a.1, b.1, c.1, 0), c.2.1, c.2.2)
def rd4 (s : List UInt8) (q : Int) : RLn × Int × Bool :=
 let a := rdNum s q false
 let b := rdNum s a.2.1 a.2.2
 let c := rdNum s b.2.1 b.2.2
 let d := rdNum s c.2.1 c.2.2
 (([], a.1, b.1, c.1, d.1), d.2.1, d.2.2)
theorem rdL3 (s : List UInt8) (q : Int) : rdL 3 s q = rd3 s q := rfl
theorem rdL5 (s : List UInt8) (q : Int) : rdL 5 s q = rd3 s q := rfl
theorem rdL4 (s : List UInt8) (q : Int) : rdL 4 s q = rd4 s q := rfl
theorem zxl {p : Int} (hp : 1 ≤ p ∧ p ≤ 5) (s : List UInt8) (q : Int) : rawL p s q = if (rdL p s q).2.2 = true then none else some (ofR p (rdL p s q).1, (rdL p s q).2.1) := by
 unfold rawL
 have hpc : p = 1 ∨ p = 2 ∨ p = 3 ∨ p = 4 ∨ p = 5 := by omega
 rcases hpc with rfl | rfl | rfl | rfl | rfl
 ·rw [if_pos rfl, rdL1]
  by_cases h : (getS s q).2.2 = 0
  ·rw [if_pos h, zn5 h]; rfl
  ·rw [if_neg h, znw h]; rfl
 ·rw [if_neg (by decide), rdL2, show colN 2 = 1 from rfl, rawN]
  by_cases h : (getI s q).2.2 = 0
  ·rw [if_pos h, zcl h]; rfl
  ·rw [if_neg h, zcj h]; rfl
 case inr.inr.inr.inl =>
  rw [if_neg (by decide), rdL4, rd4, show colN 4 = 4 from rfl, rawN]
  by_cases h : (getI s q).2.2 = 0
  ·rw [if_pos h, zcl h]
   dsimp only
   rw [rawN]
   by_cases h2 : (getI s (getI s q).2.1).2.2 = 0
   ·rw [if_pos h2, zcl h2]
    dsimp only
    rw [rawN]
    by_cases h3 : (getI s (getI s (getI s q).2.1).2.1).2.2 = 0
    ·rw [if_pos h3, zcl h3]
     dsimp only
     rw [rawN]
     by_cases h4 : (getI s (getI s (getI s (getI s q).2.1).2.1).2.1).2.2 = 0
     ·rw [if_pos h4, zcl h4]; rfl
     ·rw [if_neg h4, zcj h4]; rfl
    ·rw [if_neg h3, zcj h3]
     dsimp only
     rw [zcn]; rfl
   ·rw [if_neg h2, zcj h2]
    dsimp only
    rw [zcn, zcn]; rfl
  ·rw [if_neg h, zcj h]
   dsimp only
   rw [zcn, zcn, zcn]; rfl
 all_goals
  rw [if_neg (by decide)]
  first | rw [rdL3, show colN 3 = 3 from rfl] | rw [rdL5, show colN 5 = 3 from rfl]
  rw [rd3, rawN]
  by_cases h : (getI s q).2.2 = 0
  ·rw [if_pos h, zcl h]
   dsimp only
   rw [rawN]
   by_cases h2 : (getI s (getI s q).2.1).2.2 = 0
   ·rw [if_pos h2, zcl h2]
    dsimp only
    rw [rawN]
    by_cases h3 : (getI s (getI s (getI s q).2.1).2.1).2.2 = 0
    ·rw [if_pos h3, zcl h3]; rfl
    ·rw [if_neg h3, zcj h3]; rfl
   ·rw [if_neg h2, zcj h2]
    dsimp only
    rw [zcn]; rfl
  ·rw [if_neg h, zcj h]
   dsimp only
   rw [zcn, zcn]; rfl
theorem zlf {p : Int} (hp : 1 ≤ p ∧ p ≤ 5) (s : List UInt8) : ∀ (f : Nat) (acc : List RLn) (q : Int), (zbg p s f acc q).map (fun x => (x.1.map (ofR p), x.2)) = zcg s p f (acc.map (ofR p)) q
 | 0, acc, q => rfl
 | f + 1, acc, q => by
  rw [zbg, zcg, zq5, zxl hp]
  by_cases hb : (rdL p s q).2.2 = true
  ·rw [if_pos (.inl hb), if_pos hb]; rfl
  ·rw [if_neg hb]
   dsimp only
   by_cases hf : fitsR p acc (rdL p s q).1 = true
   ·have hk := (zkr hp acc _).1 hf
    rw [if_neg (by rintro (h | h); exact hb h; rw [hf] at h; cases h), if_pos hk]
    have ih := zlf hp s f (acc ++ [(rdL p s q).1]) (rdL p s q).2.1
    rw [List.map_append] at ih
    exact ih
   ·have hk : ¬ lnOk p (acc.map (ofR p)) (ofR p (rdL p s q).1) := fun h => hf ((zkr hp acc _).2 h)
    rw [if_pos (.inr (by simpa using hf)), if_neg hk]; rfl
theorem zte {p : Int} (hp5 : 1 ≤ p ∧ p ≤ 5) {s : List UInt8} (hs : ¬ s = []) : (readR p s).map (ofV p) = readS p s := by
 have hp' : ¬ ¬ (1 ≤ p ∧ p ≤ 8) := fun h => h ⟨by omega, by omega⟩
 have h8 : ¬ p = 8 := by omega
 have h6 : ¬ 6 ≤ p := by omega
 conv => lhs; unfold readR; rw [if_neg hp', if_neg hs, if_neg h6]
 conv => rhs; unfold readS; rw [if_neg hp', if_neg hs, if_neg h8, if_neg h6]
 by_cases h : (getI s 0).2.2 = 0
 ·rw [zcl h]
  dsimp only
  by_cases hr : 0 ≤ (getI s 0).1 ∧ (getI s 0).1 ≤ 64
  ·have h1 := zlf hp5 s (getI s 0).1.toNat [] (getI s 0).2.1
   have c1 : ¬ (false = true ∨ inR (getI s 0).1 0 64 = false) := by
    rw [zbf.2 hr]; simp
   have c2 : zbb s 0 0 64 = true := za9.2 ⟨h, hr⟩
   conv => lhs; rw [if_neg c1]
   conv => rhs; rw [if_pos c2]
   change _ = zcg s p (getI s 0).1.toNat [] (getI s 0).2.1 at h1
   rw [← h1]
   cases hl : zbg p s (getI s 0).1.toNat [] (getI s 0).2.1 with
   | none => rfl
   | some x =>
    obtain ⟨l, q⟩ := x
    show Option.map (ofV p) (if q = (s.length : Int) then _ else none) = if q = (s.length : Int) then _ else none
    by_cases hq : q = (s.length : Int)
    ·rw [if_pos hq, if_pos hq]; rfl
    ·rw [if_neg hq, if_neg hq]; rfl
  ·have c1 : false = true ∨ inR (getI s 0).1 0 64 = false := by
    right
    apply Classical.byContradiction; intro h2
    exact hr (zbf.1 (by simpa using h2))
   have c2 : ¬ zbb s 0 0 64 = true := fun h2 => hr (za9.1 h2).2
   conv => lhs; rw [if_pos c1]
   conv => rhs; rw [if_neg c2]
   rfl
 ·have c2 : ¬ zbb s 0 0 64 = true := fun h2 => h (za9.1 h2).1
  rw [zcj h, if_neg c2]
  rfl
theorem zts {s : List UInt8} (hs : ¬ s = []) : (readR 8 s).map (ofV 8) = readS 8 s := by
 have hp' : ¬ ¬ ((1 : Int) ≤ 8 ∧ (8 : Int) ≤ 8) := fun h => h ⟨by omega, by omega⟩
 conv => lhs; unfold readR; rw [if_neg hp', if_neg hs, if_pos (by decide), zf8]
 conv => rhs; unfold readS; rw [if_neg hp', if_neg hs, if_pos rfl]
 by_cases h : (getI s 0).2.2 = 0
 case neg =>
  have c : ¬ (zbb s 0 0 64 = true ∧ zbb s (getI s 0).2.1 0 64 = true ∧ (getI s (getI s 0).2.1).2.1 = (s.length : Int)) := fun h2 => h (za9.1 h2.1).1
  conv => rhs; rw [if_neg c]
  rw [zcj h]
  dsimp only
  rw [zcn]
  rfl
 rw [zcl h]
 dsimp only
 by_cases h2 : (getI s (getI s 0).2.1).2.2 = 0
 case neg =>
  have c : ¬ (zbb s 0 0 64 = true ∧ zbb s (getI s 0).2.1 0 64 = true ∧ (getI s (getI s 0).2.1).2.1 = (s.length : Int)) := fun h3 => h2 (za9.1 h3.2.1).1
  conv => rhs; rw [if_neg c]
  rw [zcj h2]
  rfl
 rw [zcl h2]
 have hc : (zbb s 0 0 64 = true ∧ zbb s (getI s 0).2.1 0 64 = true ∧ (getI s (getI s 0).2.1).2.1 = (s.length : Int)) ↔ (inR (getI s 0).1 0 64 = true ∧ inR (getI s (getI s 0).2.1).1 0 64 = true) ∧ (getI s (getI s 0).2.1).2.1 = (s.length : Int) := by
  rw [za9, za9, zbf, zbf]
  exact ⟨fun h => ⟨⟨h.1.2, h.2.1.2⟩, h.2.2⟩, fun h3 => ⟨⟨h, h3.1.1⟩, ⟨h2, h3.1.2⟩, h3.2⟩⟩
 conv => rhs; rw [show (if zbb s 0 0 64 = true ∧ zbb s (getI s 0).2.1 0 64 = true ∧ (getI s (getI s 0).2.1).2.1 = (s.length : Int) then some (Val.mk false [] (getI s 0).1 (getI s (getI s 0).2.1).1 []) else none) = (if (inR (getI s 0).1 0 64 = true ∧ inR (getI s (getI s 0).2.1).1 0 64 = true) ∧ (getI s (getI s 0).2.1).2.1 = (s.length : Int) then some (Val.mk false [] (getI s 0).1 (getI s (getI s 0).2.1).1 []) else none) from by
  by_cases hx : zbb s 0 0 64 = true ∧ zbb s (getI s 0).2.1 0 64 = true ∧ (getI s (getI s 0).2.1).2.1 = (s.length : Int)
  ·rw [if_pos hx, if_pos (hc.1 hx)]
  ·rw [if_neg hx, if_neg (fun h => hx (hc.2 h))]]
 obtain ⟨w, hw⟩ : ∃ w, (getI s 0).1 = w := ⟨_, rfl⟩
 obtain ⟨q, hq⟩ : ∃ q, (getI s 0).2.1 = q := ⟨_, rfl⟩
 obtain ⟨hh, hhh⟩ : ∃ h, (getI s q).1 = h := ⟨_, rfl⟩
 obtain ⟨q2, hq2⟩ : ∃ r, (getI s q).2.1 = r := ⟨_, rfl⟩
 clear hc h h2
 rw [hw, hq, hhh, hq2]
 show Option.map (ofV 8) (if false = true ∨ q2 ≠ (s.length : Int) then none else if (8 : Int) = 8 then (if inR w 0 64 = true ∧ inR hh 0 64 = true then some ⟨false, [], w, hh, []⟩ else none) else _) = _
 by_cases he : q2 = (s.length : Int)
 ·rw [if_neg (show ¬ (false = true ∨ q2 ≠ (s.length : Int)) by rintro (h3 | h3); cases h3; exact h3 he), if_pos rfl]
  by_cases hr : inR w 0 64 = true ∧ inR hh 0 64 = true
  ·rw [if_pos hr, if_pos ⟨hr, he⟩]; rfl
  ·rw [if_neg hr, if_neg (fun h => hr h.1)]; rfl
 ·rw [if_pos (show false = true ∨ q2 ≠ (s.length : Int) from .inr he), if_neg (fun h => he h.2)]; rfl
theorem zr6 {s : List UInt8} {w hh q : Int} (h : (getI s 0).2.2 = 0) (h2 : (getI s q).2.2 = 0) (hw : (getI s 0).1 = w) (hhh : (getI s q).1 = hh) :
  (zbb s 0 0 32 = true ∧ zbb s q (min w 1) (min w 1 * 32) = true) ↔ ((0 ≤ w ∧ w ≤ 32) ∧ (min w 1 ≤ hh ∧ hh ≤ min w 1 * 32)) := by
 rw [za9, za9, hw, hhh]
 exact ⟨fun h => ⟨h.1.2, h.2.2⟩, fun h4 => ⟨⟨h, h4.1⟩, ⟨h2, h4.2⟩⟩⟩
theorem zvg {s : List UInt8} (hs : ¬ s = []) : (readR 6 s).map (ofV 6) = readS 6 s := by
 have hp' : ¬ ¬ ((1 : Int) ≤ 6 ∧ (6 : Int) ≤ 8) := fun h => h ⟨by omega, by omega⟩
 conv => lhs; unfold readR; rw [if_neg hp', if_neg hs, if_pos (by decide), zf8]
 conv => rhs; unfold readS; rw [if_neg hp', if_neg hs, if_neg (by decide : ¬ (6 : Int) = 8), if_pos (by decide : (6 : Int) ≤ 6)]
 dsimp only
 by_cases h : (getI s 0).2.2 = 0
 case neg =>
  have c : ∀ Q : Prop, ¬ (zbb s 0 0 32 = true ∧ Q) := fun Q h2 => h (za9.1 h2.1).1
  conv => rhs; rw [if_neg (c _)]
  rw [zcj h]
  dsimp only
  rw [zcn]
  rfl
 rw [zcl h]
 dsimp only
 by_cases h2 : (getI s (getI s 0).2.1).2.2 = 0
 case neg =>
  have c : ∀ (Q : Prop) lo hi, ¬ (Q ∧ zbb s (getI s 0).2.1 lo hi = true) := fun Q lo hi h3 => h2 (za9.1 h3.2).1
  conv => rhs; rw [if_neg (c _ _ _)]
  rw [zcj h2]
  rfl
 rw [zcl h2]
 obtain ⟨w, hw⟩ : ∃ w, (getI s 0).1 = w := ⟨_, rfl⟩
 obtain ⟨q, hq⟩ : ∃ q, (getI s 0).2.1 = q := ⟨_, rfl⟩
 rw [hq] at h2
 obtain ⟨hh, hhh⟩ : ∃ h, (getI s q).1 = h := ⟨_, rfl⟩
 obtain ⟨q2, hq2⟩ : ∃ r, (getI s q).2.1 = r := ⟨_, rfl⟩
 have hiff := zr6 h h2 hw hhh
 clear h h2
 rw [hw, hq, hhh, hq2]
 show Option.map (ofV 6) (if false = true ∨ q2 ≠ (s.length : Int) then none else if (6 : Int) = 8 then _ else if ([] : List UInt8).all bitB = false then none
  else if w = 0 then if hh = 0 ∧ ([] : List UInt8) = [] then some ⟨false, [], w, hh, []⟩ else none
  else if inR w 1 32 = true ∧ inR hh 1 32 = true ∧ ((6 : Int) = 6 ∨ ((0 : Nat) : Int) = w * hh) then some ⟨false, [], w, hh, []⟩ else none) =
  if zbb s 0 0 32 = true ∧ zbb s q (min w 1) (min w 1 * 32) = true then (if (6 : Int) = 7 then _ else if q2 = (s.length : Int) then some ⟨false, [], w, hh, []⟩ else none) else none
 by_cases he : q2 = (s.length : Int)
 case neg =>
  rw [if_pos (show false = true ∨ q2 ≠ (s.length : Int) from .inr he), if_neg (by decide : ¬ (6 : Int) = 7), if_neg he]
  split <;> rfl
 rw [if_neg (show ¬ (false = true ∨ q2 ≠ (s.length : Int)) by rintro (h3 | h3); cases h3; exact h3 he), if_neg (by decide : ¬ (6 : Int) = 8), if_neg (by decide : ¬ ([] : List UInt8).all bitB = false), if_neg (by decide : ¬ (6 : Int) = 7), if_pos he]
 by_cases hr : (0 ≤ w ∧ w ≤ 32) ∧ (min w 1 ≤ hh ∧ hh ≤ min w 1 * 32)
 ·rw [if_pos (hiff.2 hr)]
  by_cases hw0 : w = 0
  ·have hh0 : hh = 0 := by omega
   rw [if_pos hw0, if_pos ⟨hh0, rfl⟩]; rfl
  ·rw [if_neg hw0, if_pos ⟨zbf.2 (by omega), zbf.2 (by omega), .inl rfl⟩]; rfl
 ·rw [if_neg (fun h => hr (hiff.1 h))]
  by_cases hw0 : w = 0
  ·have hh0 : ¬ hh = 0 := by omega
   rw [if_pos hw0, if_neg (fun h => hh0 h.1)]; rfl
  ·rw [if_neg hw0, if_neg (fun h => hr (by have h1 := zbf.1 h.1; have h2 := zbf.1 h.2.1; omega))]; rfl
theorem zue {s : List UInt8} (hs : ¬ s = []) : (readR 7 s).map (ofV 7) = readS 7 s := by
 have hp' : ¬ ¬ ((1 : Int) ≤ 7 ∧ (7 : Int) ≤ 8) := fun h => h ⟨by omega, by omega⟩
 conv => lhs; unfold readR; rw [if_neg hp', if_neg hs, if_pos (by decide), zf8]
 conv => rhs; unfold readS; rw [if_neg hp', if_neg hs, if_neg (by decide : ¬ (7 : Int) = 8), if_pos (by decide : (6 : Int) ≤ 7)]
 dsimp only
 by_cases h : (getI s 0).2.2 = 0
 case neg =>
  have c : ∀ Q : Prop, ¬ (zbb s 0 0 32 = true ∧ Q) := fun Q h2 => h (za9.1 h2.1).1
  conv => rhs; rw [if_neg (c _)]
  rw [zcj h]
  dsimp only
  rw [zcn]
  dsimp only
  rw [zl0]
  rfl
 rw [zcl h]
 dsimp only
 by_cases h2 : (getI s (getI s 0).2.1).2.2 = 0
 case neg =>
  have c : ∀ (Q : Prop) lo hi, ¬ (Q ∧ zbb s (getI s 0).2.1 lo hi = true) := fun Q lo hi h3 => h2 (za9.1 h3.2).1
  conv => rhs; rw [if_neg (c _ _ _)]
  rw [zcj h2]
  dsimp only
  rw [zl0]
  rfl
 rw [zcl h2]
 dsimp only
 obtain ⟨w, hw⟩ : ∃ w, (getI s 0).1 = w := ⟨_, rfl⟩
 obtain ⟨q, hq⟩ : ∃ q, (getI s 0).2.1 = q := ⟨_, rfl⟩
 rw [hq] at h2
 obtain ⟨hh, hhh⟩ : ∃ h, (getI s q).1 = h := ⟨_, rfl⟩
 obtain ⟨q2, hq2⟩ : ∃ r, (getI s q).2.1 = r := ⟨_, rfl⟩
 have hiff := zr6 h h2 hw hhh
 clear h h2
 rw [hw, hq, hhh, hq2]
 by_cases h3 : (getS s q2).2.2 = 0
 case neg =>
  have c : ∀ Q : Prop, ¬ ((getS s q2).2.2 = 0 ∧ Q) := fun Q h4 => h3 h4.1
  conv => rhs; rw [if_pos (by decide : (7 : Int) = 7), if_neg (c _), ite_self]
  rw [znw h3]
  rfl
 rw [zn5 h3]
 obtain ⟨t, ht⟩ : ∃ t, (getS s q2).1 = t := ⟨_, rfl⟩
 obtain ⟨q3, hq3⟩ : ∃ t, (getS s q2).2.1 = t := ⟨_, rfl⟩
 rw [ht, hq3]
 show Option.map (ofV 7) (if false = true ∨ q3 ≠ (s.length : Int) then none else if t.all bitB = false then none
  else if w = 0 then if hh = 0 ∧ t = [] then some ⟨false, [], w, hh, t⟩ else none
  else if inR w 1 32 = true ∧ inR hh 1 32 = true ∧ ((7 : Int) = 6 ∨ (t.length : Int) = w * hh) then some ⟨false, [], w, hh, t⟩ else none) =
  if zbb s 0 0 32 = true ∧ zbb s q (min w 1) (min w 1 * 32) = true then (if (getS s q2).2.2 = 0 ∧ (t.length : Int) = w * hh ∧ t.all bitB = true ∧ q3 = (s.length : Int) then some ⟨false, [], w, hh, t⟩ else none) else none
 by_cases hx : (((0 ≤ w ∧ w ≤ 32) ∧ (min w 1 ≤ hh ∧ hh ≤ min w 1 * 32)) ∧ (t.length : Int) = w * hh) ∧ t.all bitB = true ∧ q3 = (s.length : Int)
 ·obtain ⟨⟨hr, hl⟩, hb, he⟩ := hx
  rw [if_neg (show ¬ (false = true ∨ q3 ≠ (s.length : Int)) by rintro (h4 | h4); cases h4; exact h4 he), if_neg (show ¬ (t.all bitB = false) by rw [hb]; simp), if_pos (hiff.2 hr), if_pos (show (getS s q2).2.2 = 0 ∧ (t.length : Int) = w * hh ∧ t.all bitB = true ∧ q3 = (s.length : Int) from ⟨h3, hl, hb, he⟩)]
  by_cases hw0 : w = 0
  ·have hh0 : hh = 0 := by omega
   have ht0 : t = [] := List.eq_nil_of_length_eq_zero (by
    rw [hw0, Int.zero_mul] at hl; omega)
   rw [if_pos hw0, if_pos ⟨hh0, ht0⟩]; rfl
  ·rw [if_neg hw0, if_pos ⟨zbf.2 (by omega), zbf.2 (by omega), .inr hl⟩]; rfl
 ·have hR : (if zbb s 0 0 32 = true ∧ zbb s q (min w 1) (min w 1 * 32) = true then (if (getS s q2).2.2 = 0 ∧ (t.length : Int) = w * hh ∧ t.all bitB = true ∧ q3 = (s.length : Int) then some (Val.mk false [] w hh t) else none) else none) = none := by
   split
   ·rename_i h4
    rw [if_neg (fun h5 => hx ⟨⟨hiff.1 h4, h5.2.1⟩, h5.2.2⟩)]
   ·rfl
  rw [hR]
  by_cases he : q3 = (s.length : Int)
  case neg => rw [if_pos (show false = true ∨ q3 ≠ (s.length : Int) from .inr he)]; rfl
  rw [if_neg (show ¬ (false = true ∨ q3 ≠ (s.length : Int)) by rintro (h4 | h4); cases h4; exact h4 he)]
  by_cases hb : t.all bitB = true
  case neg => rw [if_pos (show t.all bitB = false by simpa using hb)]; rfl
  rw [if_neg (show ¬ (t.all bitB = false) by rw [hb]; simp)]
  by_cases hw0 : w = 0
  ·rw [if_pos hw0, if_neg (fun h4 => hx ⟨⟨by omega, by rw [h4.2, hw0, Int.zero_mul]; rfl⟩, hb, he⟩)]; rfl
  ·rw [if_neg hw0, if_neg (fun h4 => hx ⟨⟨by have h1 := zbf.1 h4.1; have h2 := zbf.1 h4.2.1; omega, h4.2.2.resolve_left (by decide)⟩, hb, he⟩)]; rfl
theorem zql (p : Int) (s : List UInt8) : (readR p s).map (ofV p) = readS p s := by
 by_cases hp : 1 ≤ p ∧ p ≤ 8
 case neg =>
  unfold readR readS
  have hp' : ¬ (1 ≤ p ∧ p ≤ 8) := hp
  rw [if_pos hp', if_pos hp']; rfl
 by_cases hs : s = []
 ·subst hs
  have hp' : ¬ ¬ (1 ≤ p ∧ p ≤ 8) := fun h => h hp
  conv => lhs; unfold readR; rw [if_neg hp', if_pos rfl]
  conv => rhs; unfold readS; rw [if_neg hp', if_pos rfl]
  rfl
 by_cases h5 : p ≤ 5
 ·exact zte ⟨hp.1, h5⟩ hs
 have hc : p = 6 ∨ p = 7 ∨ p = 8 := by omega
 rcases hc with rfl | rfl | rfl
 ·exact zvg hs
 ·exact zue hs
 ·exact zts hs
end Go.Proofs.YtblllibdahkgfaaGreatDoor

namespace Go.Proofs.YtblllibdahkgfaaGreatDoor
open Go Sx
def idxH (W k : Nat) : Nat := k / W / 2 * ((W + 1) / 2) + k % W / 2
theorem zl8 (W k : Nat) (b : UInt8) (r o : List UInt8) : halB W k (b :: r) o = halB W (k + 1) r (if b = 49 then o.set (idxH W k) 49 else o) := rfl
theorem znp (W : Nat) : ∀ (l : List UInt8) (k : Nat) (o : List UInt8) (j : Nat), j < o.length → (o[j]? = some 49 ∨ ∃ i, l[i]? = some 49 ∧ idxH W (k + i) = j) → (halB W k l o)[j]? = some 49
 | [], k, o, j, hj, h => by
  rcases h with h | ⟨i, h, _⟩
  ·exact h
  ·simp at h
 | b :: r, k, o, j, hj, h => by
  rw [zl8]
  refine znp W r (k + 1) _ j (by split <;> simp [hj]) ?_
  rcases h with h | ⟨i, h, hi⟩
  ·left
   split
   ·rw [List.getElem?_set]
    split
    ·rename_i e
     rw [if_pos (by rw [e]; exact hj)]
    ·exact h
   ·exact h
  ·cases i with
   | zero =>
    left
    simp at h
    have hi' : idxH W k = j := by simpa using hi
    rw [if_pos h, List.getElem?_set, if_pos hi', if_pos (by rw [hi']; exact hj)]
   | succ i =>
    right
    exact ⟨i, by simpa using h, by rw [← hi]; congr 1; omega⟩
theorem zsu (W : Nat) : ∀ (l : List UInt8) (k : Nat) (o : List UInt8) (j : Nat), (∀ i, l[i]? = some 49 → idxH W (k + i) ≠ j) → (halB W k l o)[j]? = o[j]?
 | [], k, o, j, h => rfl
 | b :: r, k, o, j, h => by
  rw [zl8, zsu W r (k + 1) _ j (fun i hi => by
   have := h (i + 1) (by simpa using hi)
   intro h2; apply this; rw [← h2]; congr 1; omega)]
  split
  ·rename_i hb
   rw [List.getElem?_set, if_neg]
   have := h 0 (by simp [hb])
   simpa using this
  ·rfl
def hb (W H : Nat) (bits : List UInt8) (i k : Nat) : Bool := decide (i < H) && (decide (k < W) && decide (bits[i * W + k]? = some 49))
def hb4 (W H : Nat) (bits : List UInt8) (r c : Nat) : Bool := hb W H bits (2 * r) (2 * c) || (hb W H bits (2 * r) (2 * c + 1) || (hb W H bits (2 * r + 1) (2 * c) || hb W H bits (2 * r + 1) (2 * c + 1)))
def zd1 (W H : Nat) (bits : List UInt8) (r c : Nat) : UInt8 := if hb4 W H bits r c = true then 49 else 48
def zi7 (W H : Nat) (bits : List UInt8) (r : Nat) : List UInt8 := (List.range ((W + 1) / 2)).map (zd1 W H bits r)
def zfr (W H : Nat) (bits : List UInt8) : List UInt8 := ((List.range ((H + 1) / 2)).map (zi7 W H bits)).flatten
theorem hb_iff {W H : Nat} {bits : List UInt8} {i k : Nat} : hb W H bits i k = true ↔ i < H ∧ k < W ∧ bits[i * W + k]? = some 49 := by
 unfold hb; simp
theorem znj {W i k : Nat} (h : k < W) : (i * W + k) / W = i ∧ (i * W + k) % W = k := by
 have hp : 0 < W := by omega
 constructor
 ·rw [Nat.add_comm, Nat.add_mul_div_right _ _ hp, Nat.div_eq_of_lt h, Nat.zero_add]
 ·rw [Nat.add_comm, Nat.add_mul_mod_self_right, Nat.mod_eq_of_lt h]
theorem zwk {W H : Nat} {bits : List UInt8} (hl : bits.length = W * H) {r c : Nat} (hc : c < (W + 1) / 2) :
  hb4 W H bits r c = true ↔ ∃ n, bits[n]? = some 49 ∧ idxH W n = r * ((W + 1) / 2) + c := by
 unfold hb4
 simp only [Bool.or_eq_true, hb_iff]
 constructor
 ·intro h
  have fin : ∀ i k, i < H → k < W → bits[i * W + k]? = some 49 → i / 2 = r → k / 2 = c → ∃ n, bits[n]? = some 49 ∧ idxH W n = r * ((W + 1) / 2) + c := fun i k h1 h2 h3 h4 h5 =>
   ⟨i * W + k, h3, by unfold idxH; rw [(znj h2).1, (znj h2).2, h4, h5]⟩
  rcases h with h | h | h | h
  ·exact fin _ _ h.1 h.2.1 h.2.2 (by omega) (by omega)
  ·exact fin _ _ h.1 h.2.1 h.2.2 (by omega) (by omega)
  ·exact fin _ _ h.1 h.2.1 h.2.2 (by omega) (by omega)
  ·exact fin _ _ h.1 h.2.1 h.2.2 (by omega) (by omega)
 ·rintro ⟨n, hn, he⟩
  have hnl : n < W * H := by rw [← hl]; exact (List.getElem?_eq_some_iff.1 hn).1
  have hW : 0 < W := by
   rcases Nat.eq_zero_or_pos W with h | h
   ·rw [h, Nat.zero_mul] at hnl; omega
   ·exact h
  have h1 : n / W < H := Nat.div_lt_of_lt_mul hnl
  have h2 : n % W < W := Nat.mod_lt _ hW
  have h3 : n / W * W + n % W = n := by rw [Nat.mul_comm]; exact Nat.div_add_mod n W
  unfold idxH at he
  have hm : n % W / 2 < (W + 1) / 2 := by omega
  obtain ⟨e1, e2⟩ := znj (i := n / W / 2) hm
  obtain ⟨f1, f2⟩ := znj (i := r) hc
  have g1 : n / W / 2 = r := by rw [← e1, he, f1]
  have g2 : n % W / 2 = c := by rw [← e2, he, f2]
  have hi : n / W = 2 * r ∨ n / W = 2 * r + 1 := by omega
  have hk : n % W = 2 * c ∨ n % W = 2 * c + 1 := by omega
  rcases hi with hi | hi <;> rcases hk with hk | hk <;> rw [hi, hk] at h3 <;> rw [hi] at h1 <;> rw [hk] at h2
  ·exact .inl ⟨h1, h2, by rw [h3]; exact hn⟩
  ·exact .inr (.inl ⟨h1, h2, by rw [h3]; exact hn⟩)
  ·exact .inr (.inr (.inl ⟨h1, h2, by rw [h3]; exact hn⟩))
  ·exact .inr (.inr (.inr ⟨h1, h2, by rw [h3]; exact hn⟩))
theorem flat_get {w : Nat} (f : Nat → List UInt8) (hf : ∀ r, (f r).length = w) : ∀ (h : Nat) (r c : Nat), c < w → r < h → ((List.range h).map f).flatten[r * w + c]? = (f r)[c]? := by
 intro h
 induction h with
 | zero => intro r c _ hr; omega
 | succ h ih =>
  intro r c hc hr
  have hlen : ((List.range h).map f).flatten.length = h * w := by
   clear ih hr
   induction h with
   | zero => simp
   | succ h ih => rw [List.range_succ, List.map_append, List.flatten_append, List.length_append, ih]; simp [hf, Nat.succ_mul]
  rw [List.range_succ, List.map_append, List.flatten_append]
  by_cases hrh : r < h
  ·rw [List.getElem?_append_left, ih r c hc hrh]
   rw [hlen]
   have : (r + 1) * w ≤ h * w := Nat.mul_le_mul_right _ hrh
   rw [Nat.succ_mul] at this; omega
  ·have : r = h := by omega
   subst this
   rw [List.getElem?_append_right (by rw [hlen]; omega), hlen]
   simp
theorem zpq (W H : Nat) (bits : List UInt8) : (zfr W H bits).length = (W + 1) / 2 * ((H + 1) / 2) := by
 unfold zfr
 rw [Nat.mul_comm]
 generalize (H + 1) / 2 = h
 induction h with
 | zero => simp
 | succ h ih => rw [List.range_succ, List.map_append, List.flatten_append, List.length_append, ih, Nat.succ_mul]; simp [zi7]
theorem zp4 {W H : Nat} {bits : List UInt8} (hl : bits.length = W * H) : halB W 0 bits (List.replicate ((W + 1) / 2 * ((H + 1) / 2)) 48) = zfr W H bits := by
 apply List.ext_getElem?
 intro j
 have hlen := zkf W bits 0 (List.replicate ((W + 1) / 2 * ((H + 1) / 2)) 48)
 rw [List.length_replicate] at hlen
 by_cases hj : j < (W + 1) / 2 * ((H + 1) / 2)
 ·have hw : 0 < (W + 1) / 2 := by
   rcases Nat.eq_zero_or_pos ((W + 1) / 2) with h | h
   ·rw [h, Nat.zero_mul] at hj; omega
   ·exact h
  have hr : j / ((W + 1) / 2) < (H + 1) / 2 := Nat.div_lt_of_lt_mul hj
  have hc : j % ((W + 1) / 2) < (W + 1) / 2 := Nat.mod_lt _ hw
  have hjj : j / ((W + 1) / 2) * ((W + 1) / 2) + j % ((W + 1) / 2) = j := by rw [Nat.mul_comm]; exact Nat.div_add_mod j _
  have hR : (zfr W H bits)[j]? = some (zd1 W H bits (j / ((W + 1) / 2)) (j % ((W + 1) / 2))) := by
   conv => lhs; rw [← hjj]
   unfold zfr
   rw [flat_get (w := (W + 1) / 2) _ (fun r => by simp [zi7]) _ _ _ hc hr, zi7, List.getElem?_map, List.getElem?_range hc]
   rfl
  rw [hR]
  have hiff := zwk (bits := bits) (r := j / ((W + 1) / 2)) hl hc
  rw [hjj] at hiff
  by_cases hb : hb4 W H bits (j / ((W + 1) / 2)) (j % ((W + 1) / 2)) = true
  ·obtain ⟨n, hn, he⟩ := hiff.1 hb
   rw [znp W bits 0 _ j (by rw [List.length_replicate]; exact hj) (.inr ⟨n, hn, by rw [Nat.zero_add]; exact he⟩), zd1, if_pos hb]
  ·rw [zsu W bits 0 _ j (fun i hi he => hb (hiff.2 ⟨i, hi, by rw [Nat.zero_add] at he; exact he⟩)), zd1, if_neg hb, List.getElem?_replicate, if_pos hj]
 ·rw [List.getElem?_eq_none (by omega), List.getElem?_eq_none (by rw [zpq]; omega)]
end Go.Proofs.YtblllibdahkgfaaGreatDoor

namespace Go.Proofs.YtblllibdahkgfaaGreatDoor
open Go Sx
def zcq (x : Stp) (y : RLn) : RLn :=
 if x.1 = 1 then (Lib.toLowerA y.1, y.2) else if x.1 = 2 then (spc false y.1, y.2)
 else if x.1 = 3 then (y.1, y.2.1, y.2.2.1, y.2.2.2.1.tdiv x.2 * x.2, y.2.2.2.2)
 else if x.1 = 4 then (y.1, (if y.2.1 > x.2 then 0 else y.2.1), y.2.2) else y
def lostR : RVal := ⟨true, [], 0, 0, []⟩
def halRV (v : RVal) : RVal := ⟨false, [], (v.w + 1) / 2, (v.h + 1) / 2, if v.bits = [] then [] else zfr v.w.toNat v.h.toNat v.bits⟩
def stepR (x : Stp) (v : RVal) : RVal := if v.lost = true ∨ x.1 = 6 then lostR else if x.1 = 5 then halRV v else ⟨false, v.lines.map (zcq x), 0, 0, []⟩
def runR (l : List Stp) (v : RVal) : RVal := l.foldl (fun v x => stepR x v) v
def zfq (p : Int) (l : List Stp) (s : List UInt8) : List UInt8 × Int :=
 if zbl p l = true then match readR p s with
  | none => ([], 70)
  | some v => (zat p (runR l v), 0)
 else ([], 70)
theorem zqm (z n : Int) : z - z.tmod n = z.tdiv n * n := by
 have h := Int.tmod_def z n
 rw [Int.mul_comm] at h
 omega
theorem ztx {p : Int} {x : Stp} (hp : 1 ≤ p ∧ p ≤ 8) (hok : zbn p x = true) (h5 : x.1 ≠ 5) (h6 : x.1 ≠ 6) (y : RLn) :
  ofR p (zcq x y) = (if x.1 = 1 then foldL (ofR p y) else if x.1 = 2 then zlh (ofR p y) else if x.1 = 3 then zk8 x.2 (ofR p y) else limL x.2 (ofR p y)) := by
 obtain ⟨k, n⟩ := x
 obtain ⟨t, n0, n1, n2, n3⟩ := y
 rcases zb0 hp hok with ⟨rfl, rfl, rfl⟩ | ⟨rfl, rfl, rfl⟩ | ⟨rfl, h, hn⟩ | ⟨rfl, rfl, hn⟩ | ⟨rfl, h, rfl⟩ | ⟨rfl, rfl⟩
 ·rfl
 ·show ((spc false t, []) : Ln) = (spS t.length t, [])
  rw [zro _ _ (Nat.le_refl _)]
 ·rcases h with rfl | rfl
  ·show (([], [n0, n1, n2.tdiv n * n]) : Ln) = ([], [n0, n1, n2 - n2.tmod n])
   rw [zqm]
  ·show (([], [n0, n1, n2.tdiv n * n]) : Ln) = ([], [n0, n1, n2 - n2.tmod n])
   rw [zqm]
 ·rfl
 ·exact absurd rfl h5
 ·exact absurd rfl h6
theorem zvi (p : Int) : ofV p lostR = loseV := rfl
theorem zr8 {p : Int} {x : Stp} {v : RVal} (hp : 1 ≤ p ∧ p ≤ 8) (hok : zbn p x = true) (hv : VOK p (ofV p v)) (hl : v.lost = false) : ofV p (stepR x v) = stepS x (ofV p v) := by
 have hok0 := hok
 by_cases h6 : x.1 = 6
 ·rw [stepR, if_pos (.inr h6), zvi]
  unfold stepS
  rw [if_neg (by omega), if_neg (by omega), if_neg (by omega), if_neg (by omega), if_neg (by omega)]
 have h0 : ¬ (v.lost = true ∨ x.1 = 6) := by
  rintro (h | h)
  ·rw [hl] at h; cases h
  ·exact h6 h
 by_cases h5 : x.1 = 5
 ·rw [stepR, if_neg h0, if_pos h5]
  unfold stepS
  rw [if_neg (by omega), if_neg (by omega), if_neg (by omega), if_neg (by omega), if_pos h5]
  have hp67 : p = 6 ∨ p = 7 := by
   obtain ⟨k, n⟩ := x
   rcases zb0 hp hok with ⟨rfl, rfl, rfl⟩ | ⟨rfl, rfl, rfl⟩ | ⟨rfl, h, hn⟩ | ⟨rfl, rfl, hn⟩ | ⟨rfl, h, rfl⟩ | ⟨rfl, rfl⟩
   ·exact absurd h5 (by show ¬ (1 : Int) = 5; decide)
   ·exact absurd h5 (by show ¬ (2 : Int) = 5; decide)
   ·exact absurd h5 (by show ¬ (3 : Int) = 5; decide)
   ·exact absurd h5 (by show ¬ (4 : Int) = 5; decide)
   ·exact h
   ·exact absurd h5 (by show ¬ (6 : Int) = 5; decide)
  obtain ⟨h1, h2, h3, h4⟩ := zer hv hl hp67
  replace h2 : 0 ≤ v.w ∧ v.w ≤ 32 := h2
  replace h3 : min v.w 1 ≤ v.h ∧ v.h ≤ min v.w 1 * 32 := h3
  show Val.mk false [] ((v.w + 1) / 2) ((v.h + 1) / 2) (if v.bits = [] then [] else zfr v.w.toNat v.h.toNat v.bits) = Val.mk false [] ((v.w + 1) / 2) ((v.h + 1) / 2) (if v.bits = [] then [] else halB v.w.toNat 0 v.bits (List.replicate ((v.w.toNat + 1) / 2 * ((v.h.toNat + 1) / 2)) 48))
  by_cases hb : v.bits = []
  ·rw [if_pos hb, if_pos hb]
  ·rw [if_neg hb, if_neg hb, zp4]
   rcases hp67 with h6' | h7
   ·rw [if_neg (by omega)] at h4
    exact absurd h4 hb
   ·rw [if_pos h7] at h4
    have h9 : (v.bits.length : Int) = v.w * v.h := h4.1
    have e1 : (v.w.toNat : Int) = v.w := Int.toNat_of_nonneg h2.1
    have e2 : (v.h.toNat : Int) = v.h := Int.toNat_of_nonneg (by omega)
    have : ((v.bits.length : Nat) : Int) = ((v.w.toNat * v.h.toNat : Nat) : Int) := by rw [h9, Int.natCast_mul, e1, e2]
    exact Int.ofNat.inj this
 ·rw [stepR, if_neg h0, if_neg h5]
  have hp5 : p ≤ 5 := by
   obtain ⟨k, n⟩ := x
   rcases zb0 hp hok with ⟨rfl, rfl, rfl⟩ | ⟨rfl, rfl, rfl⟩ | ⟨rfl, h, hn⟩ | ⟨rfl, rfl, hn⟩ | ⟨rfl, h, rfl⟩ | ⟨rfl, rfl⟩
   ·omega
   ·omega
   ·omega
   ·omega
   ·exact absurd rfl h5
   ·exact absurd rfl h6
  obtain ⟨h1, h2, h3, _, _⟩ := zdr hv hl hp5
  replace h1 : v.w = 0 := h1
  replace h2 : v.h = 0 := h2
  replace h3 : v.bits = [] := h3
  have hm : ∀ f : Ln → Ln, (∀ y, ofR p (zcq x y) = f (ofR p y)) → ofV p ⟨false, v.lines.map (zcq x), 0, 0, []⟩ = { ofV p v with lines := (ofV p v).lines.map f } := fun f hf => by
   show Val.mk false ((v.lines.map (zcq x)).map (ofR p)) 0 0 [] = Val.mk v.lost ((v.lines.map (ofR p)).map f) v.w v.h v.bits
   rw [hl, h1, h2, h3, List.map_map, List.map_map]
   congr 1
   exact List.map_congr_left fun y _ => hf y
  have hs := ztx hp hok h5 h6
  unfold stepS
  by_cases k1 : x.1 = 1
  ·rw [if_pos k1]; exact hm _ fun y => by rw [hs, if_pos k1]
  rw [if_neg k1]
  by_cases k2 : x.1 = 2
  ·rw [if_pos k2]; exact hm _ fun y => by rw [hs, if_neg k1, if_pos k2]
  rw [if_neg k2]
  by_cases k3 : x.1 = 3
  ·rw [if_pos k3]; exact hm _ fun y => by rw [hs, if_neg k1, if_neg k2, if_pos k3]
  rw [if_neg k3]
  have k4 : x.1 = 4 := by
   obtain ⟨k, n⟩ := x
   rcases zb0 hp hok with ⟨rfl, rfl, rfl⟩ | ⟨rfl, rfl, rfl⟩ | ⟨rfl, h, hn⟩ | ⟨rfl, rfl, hn⟩ | ⟨rfl, h, rfl⟩ | ⟨rfl, rfl⟩
   ·exact absurd rfl k1
   ·exact absurd rfl k2
   ·exact absurd rfl k3
   ·rfl
   ·exact absurd rfl h5
   ·exact absurd rfl h6
  rw [if_pos k4]; exact hm _ fun y => by rw [hs, if_neg k1, if_neg k2, if_neg k3]
theorem zsx {p : Int} (hp : 1 ≤ p ∧ p ≤ 8) : ∀ (l : List Stp) (v : RVal), (∀ x ∈ l, zbn p x = true) → VOK p (ofV p v) → ofV p (runR l v) = runS l (ofV p v)
 | [], _, _, _ => rfl
 | x :: r, v, hok, hv => by
  have hx := hok x (by simp)
  show ofV p (runR r (stepR x v)) = runS r (if (ofV p v).lost = true then ofV p v else stepS x (ofV p v))
  have hl : (ofV p v).lost = v.lost := rfl
  by_cases hlost : v.lost = true
  ·have e : ofV p v = loseV := zj3 hv hlost
   have e2 : stepR x v = lostR := if_pos (.inl hlost)
   rw [if_pos (hl.trans hlost), e2, zsx hp r lostR (fun y hy => hok y (by simp [hy])) (.inl rfl), e]
   rfl
  ·have hlf : v.lost = false := by simpa using hlost
   rw [if_neg (by rw [hl]; exact hlost)]
   have e := zr8 hp hx hv hlf
   have hv2 : VOK p (ofV p (stepR x v)) := by rw [e]; exact zjv hp hx hv hlf
   rw [zsx hp r _ (fun y hy => hok y (by simp [hy])) hv2, e]
theorem zry (p : Int) (l : List Stp) (s : List UInt8) : zfq p l s = zec p l s := by
 unfold zfq zec
 by_cases hl : zbl p l = true
 ·rw [if_pos hl, if_pos hl]
  have h := zql p s
  cases hr : readR p s with
  | none =>
   rw [hr] at h
   rw [← h]; rfl
  | some v =>
   rw [hr] at h
   rw [← h]
   have hok := zg6 h.symm
   show (zat p (runR l v), (0 : Int)) = (zbe p (runS l (ofV p v)), 0)
   rw [zci, zsx hok.1 l v (znz hl) hok.2]
 ·rw [if_neg hl, if_neg hl]
end Go.Proofs.YtblllibdahkgfaaGreatDoor

namespace Go.Proofs.YtblllibdahkgfaaGreatDoor
open Go Sx
def ROK (p : Int) (v : RVal) : Prop := VOK p (ofV p v) ∧ ∀ y ∈ v.lines, p ≠ 1 → y.1 = []
theorem zu9 {p : Int} (h : p ≠ 1) (s : List UInt8) (q : Int) : (rdL p s q).1.1 = [] := by
 unfold rdL
 rw [if_neg h]
 split
 ·rfl
 ·split <;> rfl
theorem zh1 {p : Int} (hp : p ≠ 1) (s : List UInt8) : ∀ (f : Nat) (acc : List RLn) (q : Int) (l : List RLn) (q' : Int), (∀ x ∈ acc, x.1 = []) → zbg p s f acc q = some (l, q') → ∀ x ∈ l, x.1 = []
 | 0, acc, q, l, q', ha, h => by
  rw [zbg, Option.some.injEq, Prod.mk.injEq] at h
  rw [← h.1]; exact ha
 | f + 1, acc, q, l, q', ha, h => by
  rw [zbg] at h
  split at h
  ·cases h
  ·refine zh1 hp s f _ _ l q' (fun x hx => ?_) h
   rcases List.mem_append.1 hx with hx | hx
   ·exact ha x hx
   ·rw [List.mem_singleton.1 hx]; exact zu9 hp s q
theorem znd {p : Int} {s : List UInt8} {v : RVal} (h : zf8 p s = some v) : v.lines = [] := by
 unfold zf8 at h
 dsimp only at h
 by_cases h7 : p = 7
 ·simp only [if_pos h7] at h
  repeat' split at h
  all_goals first | (cases h; done) | (cases h; rfl)
 ·simp only [if_neg h7] at h
  repeat' split at h
  all_goals first | (cases h; done) | (cases h; rfl)
theorem zpm {p : Int} {s : List UInt8} {v : RVal} (h : readR p s = some v) : ∀ y ∈ v.lines, p ≠ 1 → y.1 = [] := by
 unfold readR at h
 split at h
 ·cases h
 split at h
 ·cases h; intro y hy; simp at hy
 split at h
 ·rw [znd h]; intro y hy; simp at hy
 split at h
 ·cases h
 split at h
 ·cases h
 ·rename_i l q hl
  split at h
  ·cases h
   intro y hy hp
   exact zh1 hp s _ _ _ _ _ (fun x hx => by simp at hx) hl y hy
  ·cases h
theorem zs6 {p : Int} {s : List UInt8} {v : RVal} (h : readR p s = some v) : (1 ≤ p ∧ p ≤ 8) ∧ ROK p v := by
 have h2 := zql p s
 rw [h] at h2
 have h3 := zg6 h2.symm
 exact ⟨h3.1, h3.2, zpm h⟩
theorem ztq (p : Int) : ROK p lostR := ⟨.inl rfl, fun y hy => by cases hy⟩
theorem zo7 {p : Int} {v : RVal} (h : ROK p v) (hl : v.lost = true) : v.lines = [] := by
 have e := zj3 h.1 hl
 have e2 : v.lines.map (ofR p) = [] := congrArg Val.lines e
 simpa using e2
theorem ztp {p : Int} {x : Stp} {v : RVal} (hp : 1 ≤ p ∧ p ≤ 8) (hok : zbn p x = true) (hv : ROK p v) : ROK p (stepR x v) := by
 by_cases hl : v.lost = true
 ·have e : stepR x v = lostR := if_pos (.inl hl)
  rw [e]; exact ztq p
 have hlf : v.lost = false := by simpa using hl
 refine ⟨by rw [zr8 hp hok hv.1 hlf]; exact zjv hp hok hv.1 hlf, ?_⟩
 intro y hy hp1
 by_cases h6 : x.1 = 6
 ·have e : stepR x v = lostR := if_pos (.inr h6)
  rw [e] at hy; cases hy
 have h0 : ¬ (v.lost = true ∨ x.1 = 6) := by
  rintro (h | h)
  ·exact hl h
  ·exact h6 h
 by_cases h5 : x.1 = 5
 ·have e : stepR x v = halRV v := by rw [stepR, if_neg h0, if_pos h5]
  rw [e] at hy; cases hy
 have e : stepR x v = ⟨false, v.lines.map (zcq x), 0, 0, []⟩ := by rw [stepR, if_neg h0, if_neg h5]
 rw [e] at hy
 obtain ⟨z, hz, rfl⟩ := List.mem_map.1 hy
 have hz1 := hv.2 z hz hp1
 obtain ⟨k, n⟩ := x
 rcases zb0 hp hok with ⟨rfl, h, _⟩ | ⟨rfl, h, _⟩ | ⟨rfl, h, hn⟩ | ⟨rfl, h, hn⟩ | ⟨rfl, h, _⟩ | ⟨rfl, _⟩
 ·exact absurd h hp1
 ·exact absurd h hp1
 ·exact hz1
 ·exact hz1
 ·exact absurd rfl h5
 ·exact absurd rfl h6
theorem zsy {p : Int} (hp : 1 ≤ p ∧ p ≤ 8) : ∀ (l : List Stp) (v : RVal), (∀ x ∈ l, zbn p x = true) → ROK p v → ROK p (runR l v)
 | [], _, _, h => h
 | x :: r, v, hok, h => zsy hp r _ (fun y hy => hok y (by simp [hy])) (ztp hp (hok x (by simp)) h)
theorem zho {p : Int} : ∀ {l acc : List Ln}, lnsOk p acc l → ∀ x ∈ l, lnOk p [] x
 | y :: r, acc, h, x, hx => by
  rcases List.mem_cons.1 hx with rfl | hx
  ·have h1 := h.1
   unfold lnOk at *
   split
   ·rename_i h2
    rw [if_pos h2] at h1; exact h1
   ·rename_i h2
    rw [if_neg h2] at h1
    exact ⟨h1.1, h1.2.1, h1.2.2.1, fun _ y hy => by cases hy⟩
  ·exact zho h.2 x hx
theorem zk0 {p : Int} {v : RVal} (hp : 1 ≤ p ∧ p ≤ 5) (h : ROK p v) (hl : v.lost = false) : v.lines.length ≤ 64 ∧ (∀ y ∈ v.lines, y.1.length ≤ 80) ∧ (p = 3 ∨ p = 5 → ∀ y ∈ v.lines, i64 y.2.2.2.1) := by
 obtain ⟨_, _, _, h4, h5⟩ := zdr h.1 hl hp.2
 have h5' : ∀ y ∈ v.lines, lnOk p [] (ofR p y) := fun y hy => zho h5 _ (List.mem_map.2 ⟨y, hy, rfl⟩)
 refine ⟨by have h6 : (v.lines.map (ofR p)).length ≤ 64 := h4; rw [List.length_map] at h6; exact h6, fun y hy => ?_, fun h35 y hy => ?_⟩
 ·by_cases h1 : p = 1
  ·have h6 := h5' y hy
   unfold lnOk at h6
   rw [if_pos h1] at h6
   have h7 := h6.2.1
   unfold ofR at h7
   rw [if_pos h1] at h7
   exact h7
  ·rw [h.2 y hy h1]; exact Nat.zero_le _
 ·have h6 := h5' y hy
  unfold lnOk at h6
  rw [if_neg (by omega)] at h6
  have h7 := h6.2.2.1
  obtain ⟨t, n0, n1, n2, n3⟩ := y
  rcases h35 with rfl | rfl
  ·have h8 : ((0 : Int) ≤ n0 ∧ n0 ≤ 31) ∧ ((0 : Int) ≤ n1 ∧ n1 ≤ 31) ∧ ((-1000000 : Int) ≤ n2 ∧ n2 ≤ 1000000) ∧ True := h7
   exact ⟨by show -9223372036854775808 ≤ n2; omega, by show n2 ≤ 9223372036854775807; omega⟩
  ·have h8 : ((0 : Int) ≤ n0 ∧ n0 ≤ 31) ∧ ((0 : Int) ≤ n1 ∧ n1 ≤ 31) ∧ ((-1000000000000 : Int) ≤ n2 ∧ n2 ≤ 1000000000000) ∧ True := h7
   exact ⟨by show -9223372036854775808 ≤ n2; omega, by show n2 ≤ 9223372036854775807; omega⟩
end Go.Proofs.YtblllibdahkgfaaGreatDoor
