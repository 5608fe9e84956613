import Derived.Test.YtblllibdahkgfaaGreatDoorK31
import Derived.Test.YtblllibdahkgfaaGreatDoorK26
import Derived.Test.YtblllibdahkgfaaGreatDoorK30
import Derived.Test.YtblllibdahkgfaaGreatDoorK24
import Derived.Test.YtblllibdahkgfaaGreatDoorK22

namespace Go.Proofs.YtblllibdahkgfaaGreatDoor
open Go Sx
theorem zch (s : List UInt8) (q : Int) : rdNum s q true = (0, q, true) := if_pos (.inl rfl)
theorem zcc {s : List UInt8} {q : Int} (h : (getI s q).2.2 = 0) : rdNum s q false = ((getI s q).1, (getI s q).2.1, false) := if_neg (by rintro (h1 | h1); cases h1; exact h1 h)
theorem zcf {s : List UInt8} {q : Int} (h : ¬ (getI s q).2.2 = 0) (b : Bool) : rdNum s q b = (0, q, true) := if_pos (.inr h)
theorem zlq (s : List UInt8) (q : Int) : rdTxt s q true = ([], q, true) := if_pos (.inl rfl)
theorem zm3 {s : List UInt8} {q : Int} (h : (getS s q).2.2 = 0) : rdTxt s q false = ((getS s q).1, (getS s q).2.1, false) := if_neg (by rintro (h1 | h1); cases h1; exact h1 h)
theorem zm5 {s : List UInt8} {q : Int} (h : ¬ (getS s q).2.2 = 0) (b : Bool) : rdTxt s q b = ([], q, true) := if_pos (.inr h)
def rawN (s : List UInt8) : Nat → Int → Option (List Int × Int)
 | 0, q => some ([], q)
 | k + 1, q => if (getI s q).2.2 = 0 then match rawN s k (getI s q).2.1 with
  | none => none
  | some (m, q') => some ((getI s q).1 :: m, q')
  else none
theorem zlu (s : List UInt8) (p : Int) : ∀ (k : Nat) (acc : List Int) (q : Int), numsS s p k acc q = match rawN s k q with
  | none => none
  | some (m, q') => if zdw p acc m then some (acc ++ m, q') else none
 | 0, acc, q => by
  show some (acc, q) = if zdw p acc [] then some (acc ++ [], q) else none
  rw [if_pos (show zdw p acc [] from trivial), List.append_nil]
 | k + 1, acc, q => by
  rw [numsS, rawN]
  by_cases h1 : (getI s q).2.2 = 0
  ·rw [if_pos h1]
   have ih := zlu s p k (acc ++ [(getI s q).1]) (getI s q).2.1
   by_cases h2 : (bnd p acc).1 ≤ (getI s q).1 ∧ (getI s q).1 ≤ (bnd p acc).2
   ·rw [if_pos (zaz.2 ⟨h1, h2⟩), ih]
    cases hr : rawN s k (getI s q).2.1 with
    | none => rfl
    | some x =>
     obtain ⟨m, q'⟩ := x
     dsimp only
     by_cases h3 : zdw p (acc ++ [(getI s q).1]) m
     ·rw [if_pos h3, if_pos (show zdw p acc ((getI s q).1 :: m) from ⟨h2, h3⟩)]
      simp
     ·rw [if_neg h3, if_neg (fun h : zdw p acc ((getI s q).1 :: m) => h3 h.2)]
   ·rw [if_neg (fun h => h2 (zaz.1 h).2)]
    cases hr : rawN s k (getI s q).2.1 with
    | none => rfl
    | some x =>
     obtain ⟨m, q'⟩ := x
     dsimp only
     rw [if_neg (fun h : zdw p acc ((getI s q).1 :: m) => h2 h.1)]
  ·rw [if_neg h1, if_neg (fun h => h1 (zaz.1 h).1)]
theorem zn2 (s : List UInt8) : ∀ (k : Nat) (q : Int) {m : List Int} {q' : Int}, rawN s k q = some (m, q') → m.length = k
 | 0, q, m, q', h => by
  simp only [rawN, Option.some.injEq, Prod.mk.injEq] at h
  rw [← h.1]; rfl
 | k + 1, q, m, q', h => by
  rw [rawN] at h
  split at h
  ·cases hr : rawN s k (getI s q).2.1 with
   | none => rw [hr] at h; cases h
   | some x =>
    obtain ⟨m', q''⟩ := x
    rw [hr] at h
    simp only [Option.some.injEq, Prod.mk.injEq] at h
    rw [← h.1, List.length_cons, zn2 s k _ hr]
  ·cases h
def rawL (p : Int) (s : List UInt8) (q : Int) : Option (Ln × Int) :=
 if p = 1 then if (getS s q).2.2 = 0 then some (((getS s q).1, []), (getS s q).2.1) else none
 else match rawN s (colN p) q with
  | none => none
  | some (m, q') => some (([], m), q')
theorem zp0 {p : Int} (s : List UInt8) (before : List Ln) (q : Int) : lineS s p before q = match rawL p s q with
  | none => none
  | some (x, q') => if lnOk p before x then some (x, q') else none := by
 unfold lineS rawL
 by_cases h1 : p = 1
 ·rw [if_pos h1, if_pos h1]
  by_cases h2 : (getS s q).2.2 = 0
  ·rw [if_pos h2]
   dsimp only
   by_cases h3 : (getS s q).1.length ≤ 80 ∧ (getS s q).1.any badC = false
   ·rw [if_pos ⟨h2, h3⟩, if_pos]
    unfold lnOk
    rw [if_pos h1]; exact ⟨rfl, h3⟩
   ·rw [if_neg (fun h => h3 h.2), if_neg]
    unfold lnOk
    rw [if_pos h1]; exact fun h => h3 h.2
  ·rw [if_neg h2, if_neg (fun h => h2 h.1)]
 ·rw [if_neg h1, if_neg h1, zlu, zlf]
  cases hr : rawN s (colN p) q with
  | none => rfl
  | some x =>
   obtain ⟨m, q'⟩ := x
   have hl := zn2 s _ _ hr
   dsimp only
   have hk : lnOk p before ([], m) ↔ zdw p [] m ∧ (p ≠ 2 → ∀ y, before.getLast? = some y → cmpL (y.2.take 2) (m.take 2) < 0) := by
    unfold lnOk
    rw [if_neg h1]
    show ([] : List UInt8) = [] ∧ m.length = cols p ∧ zdw p [] m ∧ _ ↔ _
    rw [zlf]
    exact ⟨fun h => h.2.2, fun h => ⟨rfl, hl, h⟩⟩
   by_cases h2 : zdw p [] m
   ·rw [if_pos h2]
    dsimp only
    rw [List.nil_append]
    by_cases h3 : p = 2
    ·rw [if_pos h3, if_pos (hk.2 ⟨h2, fun h => absurd h3 h⟩)]
    ·rw [if_neg h3]
     cases hb : before.getLast? with
     | none => rw [if_pos (hk.2 ⟨h2, fun _ y hy => by rw [hb] at hy; cases hy⟩)]
     | some y =>
      dsimp only
      by_cases h4 : cmpL (y.2.take 2) (m.take 2) < 0
      ·rw [if_pos h4, if_pos (hk.2 ⟨h2, fun _ z hz => by rw [hb] at hz; cases hz; exact h4⟩)]
      ·rw [if_neg h4, if_neg (fun h => h4 ((hk.1 h).2 h3 y hb))]
   ·rw [if_neg h2, if_neg (fun h => h2 (hk.1 h).1)]
theorem rdL1 (s : List UInt8) (q : Int) : rdL 1 s q = (((rdTxt s q false).1, 0, 0, 0, 0), (rdTxt s q false).2.1, (rdTxt s q false).2.2) := rfl
theorem rdL2 (s : List UInt8) (q : Int) : rdL 2 s q = (([], (rdNum s q false).1, 0, 0, 0), (rdNum s q false).2.1, (rdNum s q false).2.2) := rfl
def rd3 (s : List UInt8) (q : Int) : RLn × Int × Bool :=
 let a := rdNum s q false
 let b := rdNum s a.2.1 a.2.2
 let c := rdNum s b.2.1 b.2.2
 (([], a.1, b.1, c.1, 0), c.2.1, c.2.2)
def rd4 (s : List UInt8) (q : Int) : RLn × Int × Bool :=
 let a := rdNum s q false
 let b := rdNum s a.2.1 a.2.2
 let c := rdNum s b.2.1 b.2.2
 let d := rdNum s c.2.1 c.2.2
 (([], a.1, b.1, c.1, d.1), d.2.1, d.2.2)
theorem rdL3 (s : List UInt8) (q : Int) : rdL 3 s q = rd3 s q := rfl
theorem rdL5 (s : List UInt8) (q : Int) : rdL 5 s q = rd3 s q := rfl
theorem rdL4 (s : List UInt8) (q : Int) : rdL 4 s q = rd4 s q := rfl
theorem zv3 {p : Int} (hp : 1 ≤ p ∧ p ≤ 5) (s : List UInt8) (q : Int) : rawL p s q = if (rdL p s q).2.2 = true then none else some (ofR p (rdL p s q).1, (rdL p s q).2.1) := by
 unfold rawL
 have hpc : p = 1 ∨ p = 2 ∨ p = 3 ∨ p = 4 ∨ p = 5 := by omega
 rcases hpc with rfl | rfl | rfl | rfl | rfl
 ·rw [if_pos rfl, rdL1]
  by_cases h : (getS s q).2.2 = 0
  ·rw [if_pos h, zm3 h]; rfl
  ·rw [if_neg h, zm5 h]; rfl
 ·rw [if_neg (by decide), rdL2, show colN 2 = 1 from rfl, rawN]
  by_cases h : (getI s q).2.2 = 0
  ·rw [if_pos h, zcc h]; rfl
  ·rw [if_neg h, zcf h]; rfl
 case inr.inr.inr.inl =>
  rw [if_neg (by decide), rdL4, rd4, show colN 4 = 4 from rfl, rawN]
  by_cases h : (getI s q).2.2 = 0
  ·rw [if_pos h, zcc h]
   dsimp only
   rw [rawN]
   by_cases h2 : (getI s (getI s q).2.1).2.2 = 0
   ·rw [if_pos h2, zcc h2]
    dsimp only
    rw [rawN]
    by_cases h3 : (getI s (getI s (getI s q).2.1).2.1).2.2 = 0
    ·rw [if_pos h3, zcc h3]
     dsimp only
     rw [rawN]
     by_cases h4 : (getI s (getI s (getI s (getI s q).2.1).2.1).2.1).2.2 = 0
     ·rw [if_pos h4, zcc h4]; rfl
     ·rw [if_neg h4, zcf h4]; rfl
    ·rw [if_neg h3, zcf h3]
     dsimp only
     rw [zch]; rfl
   ·rw [if_neg h2, zcf h2]
    dsimp only
    rw [zch, zch]; rfl
  ·rw [if_neg h, zcf h]
   dsimp only
   rw [zch, zch, zch]; rfl
 all_goals
  rw [if_neg (by decide)]
  first | rw [rdL3, show colN 3 = 3 from rfl] | rw [rdL5, show colN 5 = 3 from rfl]
  rw [rd3, rawN]
  by_cases h : (getI s q).2.2 = 0
  ·rw [if_pos h, zcc h]
   dsimp only
   rw [rawN]
   by_cases h2 : (getI s (getI s q).2.1).2.2 = 0
   ·rw [if_pos h2, zcc h2]
    dsimp only
    rw [rawN]
    by_cases h3 : (getI s (getI s (getI s q).2.1).2.1).2.2 = 0
    ·rw [if_pos h3, zcc h3]; rfl
    ·rw [if_neg h3, zcf h3]; rfl
   ·rw [if_neg h2, zcf h2]
    dsimp only
    rw [zch]; rfl
  ·rw [if_neg h, zcf h]
   dsimp only
   rw [zch, zch]; rfl
theorem zkl {p : Int} (hp : 1 ≤ p ∧ p ≤ 5) (s : List UInt8) : ∀ (f : Nat) (acc : List RLn) (q : Int), (zbf p s f acc q).map (fun x => (x.1.map (ofR p), x.2)) = zb6 s p f (acc.map (ofR p)) q
 | 0, acc, q => rfl
 | f + 1, acc, q => by
  rw [zbf, zb6, zp0, zv3 hp]
  by_cases hb : (rdL p s q).2.2 = true
  ·rw [if_pos (.inl hb), if_pos hb]; rfl
  ·rw [if_neg hb]
   dsimp only
   by_cases hf : fitsR p acc (rdL p s q).1 = true
   ·have hk := (zjl hp acc _).1 hf
    rw [if_neg (by rintro (h | h); exact hb h; rw [hf] at h; cases h), if_pos hk]
    have ih := zkl hp s f (acc ++ [(rdL p s q).1]) (rdL p s q).2.1
    rw [List.map_append] at ih
    exact ih
   ·have hk : ¬ lnOk p (acc.map (ofR p)) (ofR p (rdL p s q).1) := fun h => hf ((zjl hp acc _).2 h)
    rw [if_pos (.inr (by simpa using hf)), if_neg hk]; rfl
theorem zsc {p : Int} (hp5 : 1 ≤ p ∧ p ≤ 5) {s : List UInt8} (hs : ¬ s = []) : (readR p s).map (ofV p) = readS p s := by
 have hp' : ¬ ¬ (1 ≤ p ∧ p ≤ 8) := fun h => h ⟨by omega, by omega⟩
 have h8 : ¬ p = 8 := by omega
 have h6 : ¬ 6 ≤ p := by omega
 conv => lhs; unfold readR; rw [if_neg hp', if_neg hs, if_neg h6]
 conv => rhs; unfold readS; rw [if_neg hp', if_neg hs, if_neg h8, if_neg h6]
 by_cases h : (getI s 0).2.2 = 0
 ·rw [zcc h]
  dsimp only
  by_cases hr : 0 ≤ (getI s 0).1 ∧ (getI s 0).1 ≤ 64
  ·have h1 := zkl hp5 s (getI s 0).1.toNat [] (getI s 0).2.1
   have c1 : ¬ (false = true ∨ inR (getI s 0).1 0 64 = false) := by
    rw [zbe.2 hr]; simp
   have c2 : zbb s 0 0 64 = true := zaz.2 ⟨h, hr⟩
   conv => lhs; rw [if_neg c1]
   conv => rhs; rw [if_pos c2]
   change _ = zb6 s p (getI s 0).1.toNat [] (getI s 0).2.1 at h1
   rw [← h1]
   cases hl : zbf p s (getI s 0).1.toNat [] (getI s 0).2.1 with
   | none => rfl
   | some x =>
    obtain ⟨l, q⟩ := x
    show Option.map (ofV p) (if q = (s.length : Int) then _ else none) = if q = (s.length : Int) then _ else none
    by_cases hq : q = (s.length : Int)
    ·rw [if_pos hq, if_pos hq]; rfl
    ·rw [if_neg hq, if_neg hq]; rfl
  ·have c1 : false = true ∨ inR (getI s 0).1 0 64 = false := by
    right
    apply Classical.byContradiction; intro h2
    exact hr (zbe.1 (by simpa using h2))
   have c2 : ¬ zbb s 0 0 64 = true := fun h2 => hr (zaz.1 h2).2
   conv => lhs; rw [if_pos c1]
   conv => rhs; rw [if_neg c2]
   rfl
 ·have c2 : ¬ zbb s 0 0 64 = true := fun h2 => h (zaz.1 h2).1
  rw [zcf h, if_neg c2]
  rfl
theorem zs2 {s : List UInt8} (hs : ¬ s = []) : (readR 8 s).map (ofV 8) = readS 8 s := by
 have hp' : ¬ ¬ ((1 : Int) ≤ 8 ∧ (8 : Int) ≤ 8) := fun h => h ⟨by omega, by omega⟩
 conv => lhs; unfold readR; rw [if_neg hp', if_neg hs, if_pos (by decide), zfy]
 conv => rhs; unfold readS; rw [if_neg hp', if_neg hs, if_pos rfl]
 by_cases h : (getI s 0).2.2 = 0
 case neg =>
  have c : ¬ (zbb s 0 0 64 = true ∧ zbb s (getI s 0).2.1 0 64 = true ∧ (getI s (getI s 0).2.1).2.1 = (s.length : Int)) := fun h2 => h (zaz.1 h2.1).1
  conv => rhs; rw [if_neg c]
  rw [zcf h]
  dsimp only
  rw [zch]
  rfl
 rw [zcc h]
 dsimp only
 by_cases h2 : (getI s (getI s 0).2.1).2.2 = 0
 case neg =>
  have c : ¬ (zbb s 0 0 64 = true ∧ zbb s (getI s 0).2.1 0 64 = true ∧ (getI s (getI s 0).2.1).2.1 = (s.length : Int)) := fun h3 => h2 (zaz.1 h3.2.1).1
  conv => rhs; rw [if_neg c]
  rw [zcf h2]
  rfl
 rw [zcc h2]
 have hc : (zbb s 0 0 64 = true ∧ zbb s (getI s 0).2.1 0 64 = true ∧ (getI s (getI s 0).2.1).2.1 = (s.length : Int)) ↔ (inR (getI s 0).1 0 64 = true ∧ inR (getI s (getI s 0).2.1).1 0 64 = true) ∧ (getI s (getI s 0).2.1).2.1 = (s.length : Int) := by
  rw [zaz, zaz, zbe, zbe]
  exact ⟨fun h => ⟨⟨h.1.2, h.2.1.2⟩, h.2.2⟩, fun h3 => ⟨⟨h, h3.1.1⟩, ⟨h2, h3.1.2⟩, h3.2⟩⟩
 conv => rhs; rw [show (if zbb s 0 0 64 = true ∧ zbb s (getI s 0).2.1 0 64 = true ∧ (getI s (getI s 0).2.1).2.1 = (s.length : Int) then some (Val.mk false [] (getI s 0).1 (getI s (getI s 0).2.1).1 []) else none) = (if (inR (getI s 0).1 0 64 = true ∧ inR (getI s (getI s 0).2.1).1 0 64 = true) ∧ (getI s (getI s 0).2.1).2.1 = (s.length : Int) then some (Val.mk false [] (getI s 0).1 (getI s (getI s 0).2.1).1 []) else none) from by
  by_cases hx : zbb s 0 0 64 = true ∧ zbb s (getI s 0).2.1 0 64 = true ∧ (getI s (getI s 0).2.1).2.1 = (s.length : Int)
  ·rw [if_pos hx, if_pos (hc.1 hx)]
  ·rw [if_neg hx, if_neg (fun h => hx (hc.2 h))]]
 obtain ⟨w, hw⟩ : ∃ w, (getI s 0).1 = w := ⟨_, rfl⟩
 obtain ⟨q, hq⟩ : ∃ q, (getI s 0).2.1 = q := ⟨_, rfl⟩
 obtain ⟨hh, hhh⟩ : ∃ h, (getI s q).1 = h := ⟨_, rfl⟩
 obtain ⟨q2, hq2⟩ : ∃ r, (getI s q).2.1 = r := ⟨_, rfl⟩
 clear hc h h2
 rw [hw, hq, hhh, hq2]
 show Option.map (ofV 8) (if false = true ∨ q2 ≠ (s.length : Int) then none else if (8 : Int) = 8 then (if inR w 0 64 = true ∧ inR hh 0 64 = true then some ⟨false, [], w, hh, []⟩ else none) else _) = _
 by_cases he : q2 = (s.length : Int)
 ·rw [if_neg (show ¬ (false = true ∨ q2 ≠ (s.length : Int)) by rintro (h3 | h3); cases h3; exact h3 he), if_pos rfl]
  by_cases hr : inR w 0 64 = true ∧ inR hh 0 64 = true
  ·rw [if_pos hr, if_pos ⟨hr, he⟩]; rfl
  ·rw [if_neg hr, if_neg (fun h => hr h.1)]; rfl
 ·rw [if_pos (show false = true ∨ q2 ≠ (s.length : Int) from .inr he), if_neg (fun h => he h.2)]; rfl
theorem zqq {s : List UInt8} {w hh q : Int} (h : (getI s 0).2.2 = 0) (h2 : (getI s q).2.2 = 0) (hw : (getI s 0).1 = w) (hhh : (getI s q).1 = hh) :
  (zbb s 0 0 32 = true ∧ zbb s q (min w 1) (min w 1 * 32) = true) ↔ ((0 ≤ w ∧ w ≤ 32) ∧ (min w 1 ≤ hh ∧ hh ≤ min w 1 * 32)) := by
 rw [zaz, zaz, hw, hhh]
 exact ⟨fun h => ⟨h.1.2, h.2.2⟩, fun h4 => ⟨⟨h, h4.1⟩, ⟨h2, h4.2⟩⟩⟩
theorem zsz {s : List UInt8} (hs : ¬ s = []) : (readR 6 s).map (ofV 6) = readS 6 s := by
 have hp' : ¬ ¬ ((1 : Int) ≤ 6 ∧ (6 : Int) ≤ 8) := fun h => h ⟨by omega, by omega⟩
 conv => lhs; unfold readR; rw [if_neg hp', if_neg hs, if_pos (by decide), zfy]
 conv => rhs; unfold readS; rw [if_neg hp', if_neg hs, if_neg (by decide : ¬ (6 : Int) = 8), if_pos (by decide : (6 : Int) ≤ 6)]
 dsimp only
 by_cases h : (getI s 0).2.2 = 0
 case neg =>
  have c : ∀ Q : Prop, ¬ (zbb s 0 0 32 = true ∧ Q) := fun Q h2 => h (zaz.1 h2.1).1
  conv => rhs; rw [if_neg (c _)]
  rw [zcf h]
  dsimp only
  rw [zch]
  rfl
 rw [zcc h]
 dsimp only
 by_cases h2 : (getI s (getI s 0).2.1).2.2 = 0
 case neg =>
  have c : ∀ (Q : Prop) lo hi, ¬ (Q ∧ zbb s (getI s 0).2.1 lo hi = true) := fun Q lo hi h3 => h2 (zaz.1 h3.2).1
  conv => rhs; rw [if_neg (c _ _ _)]
  rw [zcf h2]
  rfl
 rw [zcc h2]
 obtain ⟨w, hw⟩ : ∃ w, (getI s 0).1 = w := ⟨_, rfl⟩
 obtain ⟨q, hq⟩ : ∃ q, (getI s 0).2.1 = q := ⟨_, rfl⟩
 rw [hq] at h2
 obtain ⟨hh, hhh⟩ : ∃ h, (getI s q).1 = h := ⟨_, rfl⟩
 obtain ⟨q2, hq2⟩ : ∃ r, (getI s q).2.1 = r := ⟨_, rfl⟩
 have hiff := zqq h h2 hw hhh
 clear h h2
 rw [hw, hq, hhh, hq2]
 show Option.map (ofV 6) (if false = true ∨ q2 ≠ (s.length : Int) then none else if (6 : Int) = 8 then _ else if ([] : List UInt8).all bitB = false then none
  else if w = 0 then if hh = 0 ∧ ([] : List UInt8) = [] then some ⟨false, [], w, hh, []⟩ else none
  else if inR w 1 32 = true ∧ inR hh 1 32 = true ∧ ((6 : Int) = 6 ∨ ((0 : Nat) : Int) = w * hh) then some ⟨false, [], w, hh, []⟩ else none) =
  if zbb s 0 0 32 = true ∧ zbb s q (min w 1) (min w 1 * 32) = true then (if (6 : Int) = 7 then _ else if q2 = (s.length : Int) then some ⟨false, [], w, hh, []⟩ else none) else none
 by_cases he : q2 = (s.length : Int)
 case neg =>
  rw [if_pos (show false = true ∨ q2 ≠ (s.length : Int) from .inr he), if_neg (by decide : ¬ (6 : Int) = 7), if_neg he]
  split <;> rfl
 rw [if_neg (show ¬ (false = true ∨ q2 ≠ (s.length : Int)) by rintro (h3 | h3); cases h3; exact h3 he), if_neg (by decide : ¬ (6 : Int) = 8), if_neg (by decide : ¬ ([] : List UInt8).all bitB = false), if_neg (by decide : ¬ (6 : Int) = 7), if_pos he]
 by_cases hr : (0 ≤ w ∧ w ≤ 32) ∧ (min w 1 ≤ hh ∧ hh ≤ min w 1 * 32)
 ·rw [if_pos (hiff.2 hr)]
  by_cases hw0 : w = 0
  ·have hh0 : hh = 0 := by omega
   rw [if_pos hw0, if_pos ⟨hh0, rfl⟩]; rfl
  ·rw [if_neg hw0, if_pos ⟨zbe.2 (by omega), zbe.2 (by omega), .inl rfl⟩]; rfl
 ·rw [if_neg (fun h => hr (hiff.1 h))]
  by_cases hw0 : w = 0
  ·have hh0 : ¬ hh = 0 := by omega
   rw [if_pos hw0, if_neg (fun h => hh0 h.1)]; rfl
  ·rw [if_neg hw0, if_neg (fun h => hr (by have h1 := zbe.1 h.1; have h2 := zbe.1 h.2.1; omega))]; rfl
theorem zr5 {s : List UInt8} (hs : ¬ s = []) : (readR 7 s).map (ofV 7) = readS 7 s := by
 have hp' : ¬ ¬ ((1 : Int) ≤ 7 ∧ (7 : Int) ≤ 8) := fun h => h ⟨by omega, by omega⟩
 conv => lhs; unfold readR; rw [if_neg hp', if_neg hs, if_pos (by decide), zfy]
 conv => rhs; unfold readS; rw [if_neg hp', if_neg hs, if_neg (by decide : ¬ (7 : Int) = 8), if_pos (by decide : (6 : Int) ≤ 7)]
 dsimp only
 by_cases h : (getI s 0).2.2 = 0
 case neg =>
  have c : ∀ Q : Prop, ¬ (zbb s 0 0 32 = true ∧ Q) := fun Q h2 => h (zaz.1 h2.1).1
  conv => rhs; rw [if_neg (c _)]
  rw [zcf h]
  dsimp only
  rw [zch]
  dsimp only
  rw [zlq]
  rfl
 rw [zcc h]
 dsimp only
 by_cases h2 : (getI s (getI s 0).2.1).2.2 = 0
 case neg =>
  have c : ∀ (Q : Prop) lo hi, ¬ (Q ∧ zbb s (getI s 0).2.1 lo hi = true) := fun Q lo hi h3 => h2 (zaz.1 h3.2).1
  conv => rhs; rw [if_neg (c _ _ _)]
  rw [zcf h2]
  dsimp only
  rw [zlq]
  rfl
 rw [zcc h2]
 dsimp only
 obtain ⟨w, hw⟩ : ∃ w, (getI s 0).1 = w := ⟨_, rfl⟩
 obtain ⟨q, hq⟩ : ∃ q, (getI s 0).2.1 = q := ⟨_, rfl⟩
 rw [hq] at h2
 obtain ⟨hh, hhh⟩ : ∃ h, (getI s q).1 = h := ⟨_, rfl⟩
 obtain ⟨q2, hq2⟩ : ∃ r, (getI s q).2.1 = r := ⟨_, rfl⟩
 have hiff := zqq h h2 hw hhh
 clear h h2
 rw [hw, hq, hhh, hq2]
 by_cases h3 : (getS s q2).2.2 = 0
 case neg =>
  have c : ∀ Q : Prop, ¬ ((getS s q2).2.2 = 0 ∧ Q) := fun Q h4 => h3 h4.1
  conv => rhs; rw [if_pos (by decide : (7 : Int) = 7), if_neg (c _), ite_self]
  rw [zm5 h3]
  rfl
 rw [zm3 h3]
 obtain ⟨t, ht⟩ : ∃ t, (getS s q2).1 = t := ⟨_, rfl⟩
 obtain ⟨q3, hq3⟩ : ∃ t, (getS s q2).2.1 = t := ⟨_, rfl⟩
 rw [ht, hq3]
 show Option.map (ofV 7) (if false = true ∨ q3 ≠ (s.length : Int) then none else if t.all bitB = false then none
  else if w = 0 then if hh = 0 ∧ t = [] then some ⟨false, [], w, hh, t⟩ else none
  else if inR w 1 32 = true ∧ inR hh 1 32 = true ∧ ((7 : Int) = 6 ∨ (t.length : Int) = w * hh) then some ⟨false, [], w, hh, t⟩ else none) =
  if zbb s 0 0 32 = true ∧ zbb s q (min w 1) (min w 1 * 32) = true then (if (getS s q2).2.2 = 0 ∧ (t.length : Int) = w * hh ∧ t.all bitB = true ∧ q3 = (s.length : Int) then some ⟨false, [], w, hh, t⟩ else none) else none
 by_cases hx : (((0 ≤ w ∧ w ≤ 32) ∧ (min w 1 ≤ hh ∧ hh ≤ min w 1 * 32)) ∧ (t.length : Int) = w * hh) ∧ t.all bitB = true ∧ q3 = (s.length : Int)
 ·obtain ⟨⟨hr, hl⟩, hb, he⟩ := hx
  rw [if_neg (show ¬ (false = true ∨ q3 ≠ (s.length : Int)) by rintro (h4 | h4); cases h4; exact h4 he), if_neg (show ¬ (t.all bitB = false) by rw [hb]; simp), if_pos (hiff.2 hr), if_pos (show (getS s q2).2.2 = 0 ∧ (t.length : Int) = w * hh ∧ t.all bitB = true ∧ q3 = (s.length : Int) from ⟨h3, hl, hb, he⟩)]
  by_cases hw0 : w = 0
  ·have hh0 : hh = 0 := by omega
   have ht0 : t = [] := List.eq_nil_of_length_eq_zero (by
    rw [hw0, Int.zero_mul] at hl; omega)
   rw [if_pos hw0, if_pos ⟨hh0, ht0⟩]; rfl
  ·rw [if_neg hw0, if_pos ⟨zbe.2 (by omega), zbe.2 (by omega), .inr hl⟩]; rfl
 ·have hR : (if zbb s 0 0 32 = true ∧ zbb s q (min w 1) (min w 1 * 32) = true then (if (getS s q2).2.2 = 0 ∧ (t.length : Int) = w * hh ∧ t.all bitB = true ∧ q3 = (s.length : Int) then some (Val.mk false [] w hh t) else none) else none) = none := by
   split
   ·rename_i h4
    rw [if_neg (fun h5 => hx ⟨⟨hiff.1 h4, h5.2.1⟩, h5.2.2⟩)]
   ·rfl
  rw [hR]
  by_cases he : q3 = (s.length : Int)
  case neg => rw [if_pos (show false = true ∨ q3 ≠ (s.length : Int) from .inr he)]; rfl
  rw [if_neg (show ¬ (false = true ∨ q3 ≠ (s.length : Int)) by rintro (h4 | h4); cases h4; exact h4 he)]
  by_cases hb : t.all bitB = true
  case neg => rw [if_pos (show t.all bitB = false by simpa using hb)]; rfl
  rw [if_neg (show ¬ (t.all bitB = false) by rw [hb]; simp)]
  by_cases hw0 : w = 0
  ·rw [if_pos hw0, if_neg (fun h4 => hx ⟨⟨by omega, by rw [h4.2, hw0, Int.zero_mul]; rfl⟩, hb, he⟩)]; rfl
  ·rw [if_neg hw0, if_neg (fun h4 => hx ⟨⟨by have h1 := zbe.1 h4.1; have h2 := zbe.1 h4.2.1; omega, h4.2.2.resolve_left (by decide)⟩, hb, he⟩)]; rfl
theorem zq1 (p : Int) (s : List UInt8) : (readR p s).map (ofV p) = readS p s := by
 by_cases hp : 1 ≤ p ∧ p ≤ 8
 case neg =>
  unfold readR readS
  have hp' : ¬ (1 ≤ p ∧ p ≤ 8) := hp
  rw [if_pos hp', if_pos hp']; rfl
 by_cases hs : s = []
 ·subst hs
  have hp' : ¬ ¬ (1 ≤ p ∧ p ≤ 8) := fun h => h hp
  conv => lhs; unfold readR; rw [if_neg hp', if_pos rfl]
  conv => rhs; unfold readS; rw [if_neg hp', if_pos rfl]
  rfl
 by_cases h5 : p ≤ 5
 ·exact zsc ⟨hp.1, h5⟩ hs
 have hc : p = 6 ∨ p = 7 ∨ p = 8 := by omega
 rcases hc with rfl | rfl | rfl
 ·exact zsz hs
 ·exact zr5 hs
 ·exact zs2 hs
end Go.Proofs.YtblllibdahkgfaaGreatDoor

namespace Go.Proofs.YtblllibdahkgfaaGreatDoor
open Go Sx
def hb (W H : Nat) (bits : List UInt8) (i k : Nat) : Bool := decide (i < H) && (decide (k < W) && decide (bits[i * W + k]? = some 49))
end Go.Proofs.YtblllibdahkgfaaGreatDoor

namespace Go.Proofs.YtblllibdahkgfaaGreatDoor
open Go Sx
end Go.Proofs.YtblllibdahkgfaaGreatDoor

namespace Go.Proofs.YtblllibdahkgfaaGreatDoor
open Go Sx
theorem zvl {l : List Stp} (h : ∃ x ∈ l, x.1 = 6) : sel 6 l ≠ [] := by
 obtain ⟨x, hx, he⟩ := h
 unfold sel
 intro hc
 have h2 : x ∈ l.filter (fun s => decide (s.1 = 6)) := List.mem_filter.2 ⟨hx, by simpa using he⟩
 rw [List.map_eq_nil_iff] at hc
 rw [hc] at h2
 simp at h2
def zno (x : Stp) (y : Ln) : Ln := if x.1 = 1 then foldL y else if x.1 = 2 then zla y else if x.1 = 3 then zk6 x.2 y else limL x.2 y
def lnRun (l : List Stp) (y : Ln) : Ln := l.foldl (fun y x => zno x y) y
def mapV (f : Ln → Ln) (v : Val) : Val := { v with lines := v.lines.map f }
theorem zgv {p : Int} (hp : 1 ≤ p ∧ p ≤ 5) : ∀ (l : List Stp) (v : Val), (∀ x ∈ l, zbu p x = true) → v.lost = false → (∀ x ∈ l, x.1 ≠ 6) → runS l v = mapV (lnRun l) v
 | [], v, _, _, _ => by
  show v = { v with lines := v.lines.map (fun y => y) }
  rw [List.map_id']
 | x :: r, v, hok, hl, h6 => by
  have hx := hok x (by simp)
  have hx6 := h6 x (by simp)
  have hs : stepS x v = mapV (zno x) v := by
   obtain ⟨k, n⟩ := x
   unfold stepS mapV
   rcases zd7 (by omega) hx with ⟨rfl, rfl, rfl⟩ | ⟨rfl, rfl, rfl⟩ | ⟨rfl, h, hn⟩ | ⟨rfl, rfl, hn⟩ | ⟨rfl, h, rfl⟩ | ⟨rfl, rfl⟩
   ·rfl
   ·rfl
   ·rfl
   ·rfl
   ·omega
   ·exact absurd rfl hx6
  show runS r (if v.lost = true then v else stepS x v) = _
  rw [if_neg (by rw [hl]; simp), hs, zgv hp r (mapV (zno x) v) (fun y hy => hok y (by simp [hy])) hl (fun y hy => h6 y (by simp [hy]))]
  show Val.mk _ ((v.lines.map (zno x)).map (lnRun r)) _ _ _ = Val.mk _ (v.lines.map (lnRun (x :: r))) _ _ _
  rw [List.map_map]
  rfl
theorem zi5 (l : List Stp) : ∀ (v : Val), v.lost = true → (runS l v).lost = true := by
 induction l with
 | nil => intro v h; exact h
 | cons x r ih =>
  intro v h
  show (runS r (if v.lost = true then v else stepS x v)).lost = true
  rw [if_pos h]
  exact ih v h
theorem zoz (l : List Stp) (h : ∃ x ∈ l, x.1 = 6) : ∀ v : Val, (runS l v).lost = true := by
 induction l with
 | nil => obtain ⟨x, hx, _⟩ := h; simp at hx
 | cons x r ih =>
  intro v
  show (runS r (if v.lost = true then v else stepS x v)).lost = true
  by_cases h6 : x.1 = 6
  ·apply zi5
   split
   ·assumption
   ·unfold stepS
    rw [if_neg (by omega), if_neg (by omega), if_neg (by omega), if_neg (by omega), if_neg (by omega)]
    rfl
  ·refine ih ?_ _
   obtain ⟨y, hy, he⟩ := h
   rcases List.mem_cons.1 hy with rfl | hy
   ·exact absurd he h6
   ·exact ⟨y, hy, he⟩
theorem zrb {p : Int} (hp : 1 ≤ p ∧ p ≤ 5) {l : List Stp} {v : Val} (hok : ∀ x ∈ l, zbu p x = true) (hv : v.lost = false) (h : (runS l v).lost = true) : normS l = [(6, 0)] := by
 by_cases h6 : ∃ x ∈ l, x.1 = 6
 ·unfold normS
  rw [if_neg (zvl h6)]
 ·have h6' : ∀ x ∈ l, x.1 ≠ 6 := fun x hx he => h6 ⟨x, hx, he⟩
  rw [zgv hp l v hok hv h6'] at h
  have : v.lost = true := h
  rw [hv] at this; cases this
theorem zoh {p : Int} {before : List Ln} {x : Ln} (h : lnOk p before x) : lnOk p [] x := by
 unfold lnOk at *
 split
 ·rename_i h1
  rw [if_pos h1] at h; exact h
 ·rename_i h1
  rw [if_neg h1] at h
  exact ⟨h.1, h.2.1, h.2.2.1, fun _ y hy => by cases hy⟩
theorem zi1 {p : Int} : ∀ {l acc : List Ln}, lnsOk p acc l → ∀ x ∈ l, lnOk p [] x
 | y :: r, acc, h, x, hx => by
  rcases List.mem_cons.1 hx with rfl | hx
  ·exact zoh h.1
  ·exact zi1 h.2 x hx
def oneV (x : Ln) : Val := ⟨false, [x], 0, 0, []⟩
theorem zu4 {p : Int} (hp : 1 ≤ p ∧ p ≤ 5) {v : Val} (hv : VOK p v) (hl : v.lost = false) {x : Ln} (hx : x ∈ v.lines) : VOK p (oneV x) := by
 have h := (zdz hv hl hp.2).2.2.2.2
 right
 refine ⟨rfl, ?_⟩
 rw [if_neg (by omega), if_neg (by omega)]
 exact ⟨rfl, rfl, rfl, by show 1 ≤ 64; omega, zi1 h x hx, trivial⟩
theorem zwt {p : Int} (hp : 1 ≤ p ∧ p ≤ 5) {l : List Stp} {v : Val} (hok : ∀ x ∈ l, zbu p x = true) (hv : v.lost = false) (hr : (runS l v).lost = false) :
  (runS l v).lines.length = v.lines.length ∧ ∀ (i : Nat) (g : i < v.lines.length) (g' : i < (runS l v).lines.length), runS l (oneV v.lines[i]) = oneV (runS l v).lines[i] := by
 have h6 : ∀ x ∈ l, x.1 ≠ 6 := fun x hx he => by
  rw [zoz l ⟨x, hx, he⟩ v] at hr; cases hr
 have e := zgv hp l v hok hv h6
 refine ⟨by rw [e]; show (v.lines.map _).length = _; rw [List.length_map], fun i g g' => ?_⟩
 rw [zgv hp l (oneV v.lines[i]) hok rfl h6]
 have e2 : (runS l v).lines[i] = lnRun l v.lines[i] := by
  have e3 : (runS l v).lines = v.lines.map (lnRun l) := by rw [e]; rfl
  rw [List.getElem_of_eq e3]
  rw [List.getElem_map]
 rw [e2]
 rfl
theorem zhd {p : Int} (hp : 1 ≤ p ∧ p ≤ 8) {v : Val} (hv : VOK p v) : zay p v = [] ↔ v.lost = true := by
 constructor
 ·intro h
  have h1 := zf4 hp hv
  rw [h] at h1
  have h2 : readS p [] = some loseV := by
   unfold readS
   rw [if_neg (fun h => h hp), if_pos rfl]
   rfl
  rw [h2] at h1
  rw [← Option.some.inj h1]; rfl
 ·intro h
  rw [znf hv h]
  unfold zay
  rw [if_pos (show loseV.lost = true from rfl)]
end Go.Proofs.YtblllibdahkgfaaGreatDoor

namespace Go.Proofs.YtblllibdahkgfaaGreatDoor
open Go Sx
def ROK (p : Int) (v : RVal) : Prop := VOK p (ofV p v) ∧ ∀ y ∈ v.lines, p ≠ 1 → y.1 = []
theorem ztd {p : Int} (h : p ≠ 1) (s : List UInt8) (q : Int) : (rdL p s q).1.1 = [] := by
 unfold rdL
 rw [if_neg h]
 split
 ·rfl
 ·split <;> rfl
theorem zhe {p : Int} (hp : p ≠ 1) (s : List UInt8) : ∀ (f : Nat) (acc : List RLn) (q : Int) (l : List RLn) (q' : Int), (∀ x ∈ acc, x.1 = []) → zbf p s f acc q = some (l, q') → ∀ x ∈ l, x.1 = []
 | 0, acc, q, l, q', ha, h => by
  rw [zbf, Option.some.injEq, Prod.mk.injEq] at h
  rw [← h.1]; exact ha
 | f + 1, acc, q, l, q', ha, h => by
  rw [zbf] at h
  split at h
  ·cases h
  ·refine zhe hp s f _ _ l q' (fun x hx => ?_) h
   rcases List.mem_append.1 hx with hx | hx
   ·exact ha x hx
   ·rw [List.mem_singleton.1 hx]; exact ztd hp s q
theorem zmd {p : Int} {s : List UInt8} {v : RVal} (h : zfy p s = some v) : v.lines = [] := by
 unfold zfy at h
 dsimp only at h
 by_cases h7 : p = 7
 ·simp only [if_pos h7] at h
  repeat' split at h
  all_goals first | (cases h; done) | (cases h; rfl)
 ·simp only [if_neg h7] at h
  repeat' split at h
  all_goals first | (cases h; done) | (cases h; rfl)
theorem zol {p : Int} {s : List UInt8} {v : RVal} (h : readR p s = some v) : ∀ y ∈ v.lines, p ≠ 1 → y.1 = [] := by
 unfold readR at h
 split at h
 ·cases h
 split at h
 ·cases h; intro y hy; simp at hy
 split at h
 ·rw [zmd h]; intro y hy; simp at hy
 split at h
 ·cases h
 split at h
 ·cases h
 ·rename_i l q hl
  split at h
  ·cases h
   intro y hy hp
   exact zhe hp s _ _ _ _ _ (fun x hx => by simp at hx) hl y hy
  ·cases h
theorem znj {p : Int} {s : List UInt8} {v : RVal} (h : readR p s = some v) : (1 ≤ p ∧ p ≤ 8) ∧ ROK p v := by
 have h2 := zq1 p s
 rw [h] at h2
 have h3 := zj1 h2.symm
 exact ⟨h3.1, h3.2, zol h⟩
theorem zif {p : Int} {v : RVal} (h : ROK p v) (hl : v.lost = true) : v.lines = [] := by
 have e := znf h.1 hl
 have e2 : v.lines.map (ofR p) = [] := congrArg Val.lines e
 simpa using e2
theorem zh5 {p : Int} : ∀ {l acc : List Ln}, lnsOk p acc l → ∀ x ∈ l, lnOk p [] x
 | y :: r, acc, h, x, hx => by
  rcases List.mem_cons.1 hx with rfl | hx
  ·have h1 := h.1
   unfold lnOk at *
   split
   ·rename_i h2
    rw [if_pos h2] at h1; exact h1
   ·rename_i h2
    rw [if_neg h2] at h1
    exact ⟨h1.1, h1.2.1, h1.2.2.1, fun _ y hy => by cases hy⟩
  ·exact zh5 h.2 x hx
theorem zko {p : Int} {v : RVal} (hp : 1 ≤ p ∧ p ≤ 5) (h : ROK p v) (hl : v.lost = false) : v.lines.length ≤ 64 ∧ (∀ y ∈ v.lines, y.1.length ≤ 80) ∧ (p = 3 ∨ p = 5 → ∀ y ∈ v.lines, i64 y.2.2.2.1) := by
 obtain ⟨_, _, _, h4, h5⟩ := zdz h.1 hl hp.2
 have h5' : ∀ y ∈ v.lines, lnOk p [] (ofR p y) := fun y hy => zh5 h5 _ (List.mem_map.2 ⟨y, hy, rfl⟩)
 refine ⟨by have h6 : (v.lines.map (ofR p)).length ≤ 64 := h4; rw [List.length_map] at h6; exact h6, fun y hy => ?_, fun h35 y hy => ?_⟩
 ·by_cases h1 : p = 1
  ·have h6 := h5' y hy
   unfold lnOk at h6
   rw [if_pos h1] at h6
   have h7 := h6.2.1
   unfold ofR at h7
   rw [if_pos h1] at h7
   exact h7
  ·rw [h.2 y hy h1]; exact Nat.zero_le _
 ·have h6 := h5' y hy
  unfold lnOk at h6
  rw [if_neg (by omega)] at h6
  have h7 := h6.2.2.1
  obtain ⟨t, n0, n1, n2, n3⟩ := y
  rcases h35 with rfl | rfl
  ·have h8 : ((0 : Int) ≤ n0 ∧ n0 ≤ 31) ∧ ((0 : Int) ≤ n1 ∧ n1 ≤ 31) ∧ ((-1000000 : Int) ≤ n2 ∧ n2 ≤ 1000000) ∧ True := h7
   exact ⟨by show -9223372036854775808 ≤ n2; omega, by show n2 ≤ 9223372036854775807; omega⟩
  ·have h8 : ((0 : Int) ≤ n0 ∧ n0 ≤ 31) ∧ ((0 : Int) ≤ n1 ∧ n1 ≤ 31) ∧ ((-1000000000000 : Int) ≤ n2 ∧ n2 ≤ 1000000000000) ∧ True := h7
   exact ⟨by show -9223372036854775808 ≤ n2; omega, by show n2 ≤ 9223372036854775807; omega⟩
end Go.Proofs.YtblllibdahkgfaaGreatDoor
