import Derived.Test.YtblllibdahkgfaaGreatDoorK21
import Derived.Test.YtblllibdahkgfaaGreatDoorK09

namespace Go.Proofs.YtblllibdahkgfaaGreatDoor
open Go Sx
set_option maxRecDepth 100000
def rrd (s : List UInt8) (p : Int) (b : Bool) : Ent := .one (.cells 102 [.str s, .int .i64 p, .lit b])
theorem zan {n : Nat} (s : List UInt8) (p : Int) (b : Bool) : (rrd s p b).below n := (SB.bB_ok rfl : SB.below n (.cells 102 [.str s, .int .i64 p, .lit b]))
def rdNum (s : List UInt8) (p : Int) (b : Bool) : Int × Int × Bool := if b = true ∨ (getI s p).2.2 ≠ 0 then (0, p, true) else ((getI s p).1, (getI s p).2.1, false)
def rdTxt (s : List UInt8) (p : Int) (b : Bool) : List UInt8 × Int × Bool := if b = true ∨ (getS s p).2.2 ≠ 0 then ([], p, true) else ((getS s p).1, (getS s p).2.1, false)
set_option maxHeartbeats 4000000 in
theorem zbh (F : Fz) (s : List UInt8) (p : Int) (b : Bool) (hs : s.length ≤ 1000000000000000000) (hp : i64 p) :
  Ct Tryz.prog 55 [.va (.ptr ⟨1, 0, 0, 0, 0⟩)] F [(1, rrd s p b)] 2
   (fun o F0 h0 n0 => F = F0 ∧ n0 = 2 ∧ o = .ret (.va (.int .i64 (rdNum s p b).1)) ∧ h0 = [(1, rrd s (rdNum s p b).2.1 (rdNum s p b).2.2)]) := by
 have hi1 := zq8 F s p hs hp
 obtain ⟨n, x, e, hg⟩ : ∃ n x e, getI s p = (n, x, e) := ⟨_, _, _, rfl⟩
 rw [hg] at hi1
 have hbad : b = true ∨ e ≠ 0 → rdNum s p b = (0, p, true) := fun h => by rw [rdNum, hg, if_pos h]
 have hgood : b = false → e = 0 → rdNum s p b = (n, x, false) := fun h1 h2 => by rw [rdNum, hg, if_neg (by rintro (h | h); rw [h1] at h; cases h; exact h h2)]
 refine ct_of hΘ Tryz.func55 rfl (by decide) _ _ rfl rfl rfl ?_;conv=>whnf
 refine drawP hΘ mixed (.look 0 (.look 1 (.look 2 (.look 3 (.look 4 (.look 5 (.look 6 (.look 7 (.alt 8 (.look 9 (.look 10 (.look 11 (.look 12 (.look 13 (.look 14 (.look 15 .done))))))) .nil))))))))) [1] (by kernel_rfl) ?_;conv=>whnf
 repeat' ((conv=>whnf); first
  | refine ⟨rfl, ?_⟩
  | refine ⟨Fz.le_refl _, rfl, ?_⟩
  | refine ⟨Fz.le_refl _, rfl, rfl, ?_⟩
  | refine ⟨⟨by simp, by simp⟩, ?_⟩
  | fail)
 conv=>whnf
 refine usePu (hi1) rfl (zaf _) rfl ?_;conv=>whnf
 refine ⟨Fz.le_refl F, rfl, ?_⟩;conv=>whnf
 rcases b with _ | _
 ·conv=>whnf
  refine br (fun ge => ?_) (fun ge => ?_)
  ·have ge' : e ≠ 0 := by simpa using ge
   conv=>whnf
   refine clean [] (.ret (.va (.int .i64 0))) F [(1, rrd s p true)] 2 ⟨Fz.le_refl F, rfl, rfl, ?_⟩ (zat _) rfl rfl trivial ⟨zan s _ _, trivial⟩ ⟨Fz.le_refl F, rfl, trivial⟩
   rw [hbad (.inr ge')]; exact ⟨rfl, rfl⟩
  ·have ge' : e = 0 := by simpa using ge
   conv=>whnf
   refine clean [] (.ret (.va (.int .i64 n))) F [(1, rrd s x false)] 2 ⟨Fz.le_refl F, rfl, rfl, ?_⟩ (zat _) rfl rfl trivial ⟨zan s _ _, trivial⟩ ⟨Fz.le_refl F, rfl, trivial⟩
   rw [hgood rfl ge']; exact ⟨rfl, rfl⟩
 ·conv=>whnf
  refine clean [] (.ret (.va (.int .i64 0))) F [(1, rrd s p true)] 2 ⟨Fz.le_refl F, rfl, rfl, ?_⟩ (zat _) rfl rfl trivial ⟨zan s _ _, trivial⟩ ⟨Fz.le_refl F, rfl, trivial⟩
  rw [hbad (.inl rfl)]; exact ⟨rfl, rfl⟩
set_option maxHeartbeats 4000000 in
theorem zlh (F : Fz) (s : List UInt8) (p : Int) (b : Bool) (hs : s.length ≤ 1000000000000000000) (hp : i64 p) :
  Ct Tryz.prog 56 [.va (.ptr ⟨1, 0, 0, 0, 0⟩)] F [(1, rrd s p b)] 2
   (fun o F0 h0 n0 => F = F0 ∧ n0 = 2 ∧ o = .ret (.va (.str (rdTxt s p b).1)) ∧ h0 = [(1, rrd s (rdTxt s p b).2.1 (rdTxt s p b).2.2)]) := by
 have hi1 := zoq F s p hs hp
 obtain ⟨n, x, e, hg⟩ : ∃ n x e, getS s p = (n, x, e) := ⟨_, _, _, rfl⟩
 rw [hg] at hi1
 have hbad : b = true ∨ e ≠ 0 → rdTxt s p b = ([], p, true) := fun h => by rw [rdTxt, hg, if_pos h]
 have hgood : b = false → e = 0 → rdTxt s p b = (n, x, false) := fun h1 h2 => by rw [rdTxt, hg, if_neg (by rintro (h | h); rw [h1] at h; cases h; exact h h2)]
 refine ct_of hΘ Tryz.func56 rfl (by decide) _ _ rfl rfl rfl ?_;conv=>whnf
 refine drawP hΘ mixed (.look 0 (.look 1 (.look 2 (.look 3 (.look 4 (.look 5 (.look 6 (.look 7 (.alt 8 (.look 9 (.look 10 (.look 11 (.look 12 (.look 13 (.look 14 (.look 15 .done))))))) .nil))))))))) [1] (by kernel_rfl) ?_;conv=>whnf
 repeat' ((conv=>whnf); first
  | refine ⟨rfl, ?_⟩
  | refine ⟨Fz.le_refl _, rfl, ?_⟩
  | refine ⟨Fz.le_refl _, rfl, rfl, ?_⟩
  | refine ⟨⟨by simp, by simp⟩, ?_⟩
  | fail)
 conv=>whnf
 refine usePu (hi1) rfl (zaf _) rfl ?_;conv=>whnf
 refine ⟨Fz.le_refl F, rfl, ?_⟩;conv=>whnf
 rcases b with _ | _
 ·conv=>whnf
  refine br (fun ge => ?_) (fun ge => ?_)
  ·have ge' : e ≠ 0 := by simpa using ge
   conv=>whnf
   refine clean [] (.ret (.va (.str []))) F [(1, rrd s p true)] 2 ⟨Fz.le_refl F, rfl, rfl, ?_⟩ (zat _) rfl rfl trivial ⟨zan s _ _, trivial⟩ ⟨Fz.le_refl F, rfl, trivial⟩
   rw [hbad (.inr ge')]; exact ⟨rfl, rfl⟩
  ·have ge' : e = 0 := by simpa using ge
   conv=>whnf
   refine clean [] (.ret (.va (.str n))) F [(1, rrd s x false)] 2 ⟨Fz.le_refl F, rfl, rfl, ?_⟩ (zat _) rfl rfl trivial ⟨zan s _ _, trivial⟩ ⟨Fz.le_refl F, rfl, trivial⟩
   rw [hgood rfl ge']; exact ⟨rfl, rfl⟩
 ·conv=>whnf
  refine clean [] (.ret (.va (.str []))) F [(1, rrd s p true)] 2 ⟨Fz.le_refl F, rfl, rfl, ?_⟩ (zat _) rfl rfl trivial ⟨zan s _ _, trivial⟩ ⟨Fz.le_refl F, rfl, trivial⟩
  rw [hbad (.inl rfl)]; exact ⟨rfl, rfl⟩
def colN (p : Int) : Nat := if p = 2 then 1 else if p = 3 ∨ p = 5 then 3 else if p = 4 then 4 else 0
theorem zce (p : Int) : Pu Tryz.prog 57 [.va (.int .i64 p)] (.va (.int .i64 (colN p : Nat))) := by
 intro F
 have h2 : p = 2 → colN p = 1 := fun h => by rw [colN, if_pos h]
 have h3 : p = 3 ∨ p = 5 → colN p = 3 := fun h => by rw [colN, if_neg (by omega), if_pos h]
 have h4 : p = 4 → colN p = 4 := fun h => by rw [colN, if_neg (by omega), if_neg (by omega), if_pos h]
 have h0 : ¬ p = 2 → ¬ p = 3 → ¬ p = 5 → ¬ p = 4 → colN p = 0 := fun a b c d => by rw [colN, if_neg a, if_neg (by omega), if_neg d]
 have e2 : ∀ h : p = 2, ((colN p : Nat) : Int) = 1 := fun h => by rw [h2 h]; rfl
 have e3 : ∀ h : p = 3 ∨ p = 5, ((colN p : Nat) : Int) = 3 := fun h => by rw [h3 h]; rfl
 have e4 : ∀ h : p = 4, ((colN p : Nat) : Int) = 4 := fun h => by rw [h4 h]; rfl
 have e0 : ¬ p = 2 → ¬ p = 3 → ¬ p = 5 → ¬ p = 4 → ((colN p : Nat) : Int) = 0 := fun a b c d => by rw [h0 a b c d]; rfl
 clear h2 h3 h4 h0
 refine fo_of hΘ Tryz.func57 rfl (by decide) _ _ rfl rfl rfl ?_;conv=>whnf
 refine br (fun g => ?_) (fun g => ?_)
 ·conv=>whnf
  exact endPu rfl (Fz.le_refl F) (congrArg (SA.int .i64) (e2 (of_decide_eq_true g))) rfl
 ·have g2 : ¬ p = 2 := of_decide_eq_false g
  conv=>whnf
  refine br (fun g => ?_) (fun g => ?_)
  ·conv=>whnf
   refine br (fun _ => ?_) (fun g' => absurd (of_decide_eq_true g) (of_decide_eq_false g'));conv=>whnf
   exact endPu rfl (Fz.le_refl F) (congrArg (SA.int .i64) (e3 (.inl (of_decide_eq_true g)))) rfl
  ·have g3 : ¬ p = 3 := of_decide_eq_false g
   conv=>whnf
   refine br (fun g => ?_) (fun g => ?_)
   ·conv=>whnf
    exact endPu rfl (Fz.le_refl F) (congrArg (SA.int .i64) (e3 (.inr (of_decide_eq_true g)))) rfl
   ·have g5 : ¬ p = 5 := of_decide_eq_false g
    conv=>whnf
    refine br (fun g => ?_) (fun g => ?_)
    ·conv=>whnf
     exact endPu rfl (Fz.le_refl F) (congrArg (SA.int .i64) (e4 (of_decide_eq_true g))) rfl
    ·have g4 : ¬ p = 4 := of_decide_eq_false g
     conv=>whnf
     exact endPu rfl (Fz.le_refl F) (congrArg (SA.int .i64) (e0 g2 g3 g5 g4)) rfl
end Go.Proofs.YtblllibdahkgfaaGreatDoor

namespace Go.Proofs.YtblllibdahkgfaaGreatDoor
open Go Sx
set_option maxRecDepth 100000
abbrev RLn := List UInt8 × Int × Int × Int × Int
def encL (x : RLn) : List SA := [.str x.1, .int .i64 x.2.1, .int .i64 x.2.2.1, .int .i64 x.2.2.2.1, .int .i64 x.2.2.2.2]
theorem zaa : Plain encL := fun x => ⟨fun μ => rfl, fun a ha => by
 simp [encL] at ha
 rcases ha with rfl | rfl | rfl | rfl | rfl <;> trivial⟩
def inR (n lo hi : Int) : Bool := decide (lo ≤ n) && decide (n ≤ hi)
def zd6 (l : List RLn) (x : RLn) : Bool :=
 match l.getLast? with
 | none => true
 | some y => !(decide (x.2.1 < y.2.1) || (decide (y.2.1 = x.2.1) && decide (x.2.2.1 ≤ y.2.2.1)))
def fitsR (p : Int) (l : List RLn) (x : RLn) : Bool :=
 if p = 1 then x.1.all (fun b => decide (32 ≤ b.toNat) && decide (b.toNat ≤ 126)) && decide (x.1.length ≤ 80)
 else if p = 2 then inR x.2.1 0 7
 else if inR x.2.1 0 31 = true ∧ inR x.2.2.1 0 31 = true ∧ zd6 l x = true then
  if p = 3 then inR x.2.2.2.1 (-1000000) 1000000 else if p = 5 then inR x.2.2.2.1 (-1000000000000) 1000000000000 else inR x.2.2.2.1 0 x.2.1 && inR x.2.2.2.2 0 x.2.2.1
 else false
theorem zbz {n lo hi : Int} {b : Bool} (h : inR n lo hi = b) (F : Fz) : Fo Tryz.prog F 45 [.va (.int .i64 n), .va (.int .i64 lo), .va (.int .i64 hi)] (fun o F' => o = .ret (.va (.lit b)) ∧ F' = F) := by
 have h1 := zix n lo hi F
 rw [show (decide (lo ≤ n) && decide (n ≤ hi)) = b from h] at h1
 exact zhg h1
theorem zow (x : RLn) : zd6 [] x = true := rfl
theorem zj5 {p : Int} {l : List RLn} {x : RLn} (g1 : ¬ p = 1) (g2 : ¬ p = 2) (h : inR x.2.1 0 31 = false ∨ inR x.2.2.1 0 31 = false ∨ zd6 l x = false) : fitsR p l x = false := by
 rw [fitsR, if_neg g1, if_neg g2, if_neg]
 rintro ⟨h1, h2, h3⟩
 rcases h with h | h | h
 ·rw [h1] at h; cases h
 ·rw [h2] at h; cases h
 ·rw [h3] at h; cases h
theorem zqp {p : Int} {l : List RLn} {x : RLn} (g : p = 3) (h1 : inR x.2.1 0 31 = true) (h2 : inR x.2.2.1 0 31 = true) (h3 : zd6 l x = true) : fitsR p l x = inR x.2.2.2.1 (-1000000) 1000000 := by
 rw [fitsR, if_neg (by omega), if_neg (by omega), if_pos ⟨h1, h2, h3⟩, if_pos g]
theorem zqu {p : Int} {l : List RLn} {x : RLn} (g : p = 5) (h1 : inR x.2.1 0 31 = true) (h2 : inR x.2.2.1 0 31 = true) (h3 : zd6 l x = true) : fitsR p l x = inR x.2.2.2.1 (-1000000000000) 1000000000000 := by
 rw [fitsR, if_neg (by omega), if_neg (by omega), if_pos ⟨h1, h2, h3⟩, if_neg (by omega), if_pos g]
theorem zps {p : Int} {l : List RLn} {x : RLn} (g1 : ¬ p = 1) (g2 : ¬ p = 2) (g3 : ¬ p = 3) (g5 : ¬ p = 5) (h1 : inR x.2.1 0 31 = true) (h2 : inR x.2.2.1 0 31 = true) (h3 : zd6 l x = true) : fitsR p l x = (inR x.2.2.2.1 0 x.2.1 && inR x.2.2.2.2 0 x.2.2.1) := by
 rw [fitsR, if_neg g1, if_neg g2, if_pos ⟨h1, h2, h3⟩, if_neg g3, if_neg g5]
end Go.Proofs.YtblllibdahkgfaaGreatDoor

namespace Go.Proofs.YtblllibdahkgfaaGreatDoor
open Go Sx
set_option maxRecDepth 100000
set_option maxHeartbeats 8000000 in
theorem zcr (F : Fz) (p : Int) (l : List RLn) (c : Nat) (x : RLn) (hx : x.1.length < 1000000) (hl : l.length < 1000000) (np : ¬ p = 1) :
  Ct Tryz.prog 49 [.va (.int .i64 p), .va (gA 5 1 c l), .agg (encL x)] F [(1, gE 88 5 encL c l)] 2
   (fun o F0 h0 n0 => F = F0 ∧ n0 = 2 ∧ o = .ret (.va (.bool (fitsR p l x))) ∧ h0 = [(1, gE 88 5 encL c l)]) := by
 have fin : ∀ (b : Bool) (a : SA) (h : Hp) (nx : Nat), fitsR p l x = b → atomE (.bool b) a → lget h 0 = some (.frz F) → lget h 1 = some (gE 88 5 encL c l) → a.ren (resP h) = a →
   Cln 2 (fun o F0 h0 n0 => Fz.le F F0 ∧ (F = F0 ∧ n0 = 2 ∧ o = .ret (.va (.bool (fitsR p l x))) ∧ h0 = [(1, gE 88 5 encL c l)])) (.ret (.va a)) h nx := by
  intro b a h nx hb ha h0 h1 hr
  subst hb
  exact clean [] (.ret (.va (.bool (fitsR p l x)))) F [(1, gE 88 5 encL c l)] 2 ⟨Fz.le_refl F, rfl, rfl, rfl, rfl⟩ (by show atomE _ (a.ren (resP h)); rw [hr]; exact ha) rfl rfl trivial ⟨zac zaa _ _ _ _ _, trivial⟩ ⟨by simp only [entE, aget, Ent.ren]; rw [h0]; exact Fz.le_refl F, by simp only [entE, aget]; rw [h1]; exact zas zaa (zao _ _ _ _), trivial⟩
 obtain ⟨b0, hb0⟩ : ∃ b, inR x.2.1 0 31 = b := ⟨_, rfl⟩
 obtain ⟨b1, hb1⟩ : ∃ b, inR x.2.2.1 0 31 = b := ⟨_, rfl⟩
 obtain ⟨b3, hb3⟩ : ∃ b, inR x.2.2.2.1 (-1000000) 1000000 = b := ⟨_, rfl⟩
 obtain ⟨b5, hb5⟩ : ∃ b, inR x.2.2.2.1 (-1000000000000) 1000000000000 = b := ⟨_, rfl⟩
 obtain ⟨b4, hb4⟩ : ∃ b, inR x.2.2.2.1 0 x.2.1 = b := ⟨_, rfl⟩
 obtain ⟨b6, hb6⟩ : ∃ b, inR x.2.2.2.2 0 x.2.2.1 = b := ⟨_, rfl⟩
 have w0 := zbz hb0 F
 have w1 := zbz hb1 F
 have w3 := zbz hb3 F
 have w5 := zbz hb5 F
 have w4 := zbz hb4 F
 have w6 := zbz hb6 F
 have w7 := zix x.2.1 0 7 F
 refine ct_of hΘ Tryz.func49 rfl (by decide) _ _ rfl rfl rfl ?_;conv=>whnf
 refine br (fun g => absurd (of_decide_eq_true g) np) (fun g => ?_)
 ·clear g;conv=>whnf
  refine br (fun g => ?_) (fun g => ?_)
  ·have g2 : p = 2 := of_decide_eq_true g
   have e : fitsR p l x = (decide (0 ≤ x.2.1) && decide (x.2.1 ≤ 7)) := by rw [fitsR, if_neg np, if_pos g2]; rfl
   conv=>whnf
   refine ⟨by decide, ?_⟩;conv=>whnf
   refine usePu w7 rfl ⟨rfl, rfl, rfl, trivial⟩ rfl ?_;conv=>whnf
   exact fin _ _ _ _ e rfl rfl rfl rfl
  ·have g2 : ¬ p = 2 := of_decide_eq_false g
   clear g
   rcases b0 with _ | _
   ·have e := zj5 (l := l) np g2 (.inl hb0)
    conv=>whnf
    refine ⟨by decide, ?_⟩;conv=>whnf
    refine usePu w0 rfl ⟨rfl, rfl, rfl, trivial⟩ rfl ?_;conv=>whnf
    exact fin _ _ _ _ e rfl rfl rfl rfl
   ·conv=>whnf
    refine ⟨by decide, ?_⟩;conv=>whnf
    refine usePu w0 rfl ⟨rfl, rfl, rfl, trivial⟩ rfl ?_;conv=>whnf
    refine ⟨by decide, ?_⟩;conv=>whnf
    refine usePu w1 rfl ⟨rfl, rfl, rfl, trivial⟩ rfl ?_
    rcases b1 with _ | _
    ·have e := zj5 (l := l) np g2 (.inr (.inl hb1))
     conv=>whnf
     exact fin _ _ _ _ e rfl rfl rfl rfl
    ·rcases l with _ | ⟨y, r⟩
     ·have h3 := zow x
      conv=>whnf
      refine br (fun g => absurd g (by decide)) (fun _ => ?_);conv=>whnf
      refine br (fun g => ?_) (fun g => ?_)
      ·have e := (zqp (of_decide_eq_true g) hb0 hb1 h3).trans hb3
       conv=>whnf
       refine ⟨by decide, ?_⟩;conv=>whnf
       refine usePu w3 rfl ⟨rfl, rfl, rfl, trivial⟩ rfl ?_;conv=>whnf
       exact fin _ _ _ _ e rfl rfl rfl rfl
      ·have g3 : ¬ p = 3 := of_decide_eq_false g
       clear g;conv=>whnf
       refine br (fun g => ?_) (fun g => ?_)
       ·have e := (zqu (of_decide_eq_true g) hb0 hb1 h3).trans hb5
        conv=>whnf
        refine ⟨by decide, ?_⟩;conv=>whnf
        refine usePu w5 rfl ⟨rfl, rfl, rfl, trivial⟩ rfl ?_;conv=>whnf
        exact fin _ _ _ _ e rfl rfl rfl rfl
       ·have g5 : ¬ p = 5 := of_decide_eq_false g
        clear g
        have e := zps np g2 g3 g5 hb0 hb1 h3
        rw [hb4, hb6] at e
        conv=>whnf
        refine ⟨by decide, ?_⟩;conv=>whnf
        refine ⟨by decide, ?_⟩;conv=>whnf
        refine usePu w4 rfl ⟨rfl, rfl, rfl, trivial⟩ rfl ?_
        rcases b4 with _ | _
        ·conv=>whnf
         exact fin _ _ _ _ e rfl rfl rfl rfl
        ·conv=>whnf
         refine ⟨by decide, ?_⟩;conv=>whnf
         refine ⟨by decide, ?_⟩;conv=>whnf
         refine usePu w6 rfl ⟨rfl, rfl, rfl, trivial⟩ rfl ?_;conv=>whnf
         exact fin _ _ _ _ e rfl rfl rfl rfl
     ·have hw : IntKind.i64.wrap (((r.length + 1 : Nat) : Int) - 1) = ((r.length : Nat) : Int) := by
       have : r.length + 1 < 1000000 := hl
       rw [zaj (by omega) (by omega)]; omega
      have hz : ∃ z, (y :: r)[r.length]? = some z := ⟨_, List.getElem?_eq_getElem (by simp)⟩
      obtain ⟨z, hz⟩ := hz
      have hz2 : ((y :: r).map encL)[r.length]? = some (encL z) := by rw [List.getElem?_map, hz]; rfl
      have hlast : (y :: r).getLast? = some z := by rw [List.getLast?_eq_getElem?]; exact hz
      have haft : zd6 (y :: r) x = !(decide (x.2.1 < z.2.1) || (decide (z.2.1 = x.2.1) && decide (x.2.2.1 ≤ z.2.2.1))) := by rw [zd6, hlast]
      conv=>whnf
      refine br (fun _ => ?_) (fun g => absurd (of_decide_eq_false g) (by omega))
      have hw1 : 0 ≤ IntKind.i64.wrap (((r.length + 1 : Nat) : Int) - 1) ∧ IntKind.i64.wrap (((r.length + 1 : Nat) : Int) - 1) < ((r.length + 1 : Nat) : Int) := by rw [hw]; omega
      have hz3 : ((y :: r).map encL)[0 + (IntKind.i64.wrap (((r.length + 1 : Nat) : Int) - 1)).toNat]? = some (encL z) := by rw [hw, Int.toNat_natCast, Nat.zero_add]; exact hz2
      conv=>whnf
      refine ⟨rfl, hw1, ?_⟩;conv=>whnf
      refine ⟨rfl, _, hz3, ?_⟩;conv=>whnf
      refine ⟨by decide, ?_⟩;conv=>whnf
      refine ⟨by decide, ?_⟩
      refine ⟨fun ga => ?_, fun ga => ?_⟩
      ·have ga' : ¬ x.2.1 < z.2.1 := of_decide_eq_false ga
       clear ga;conv=>whnf
       refine ⟨by decide, ?_⟩;conv=>whnf
       refine ⟨by decide, ?_⟩;conv=>whnf
       refine ⟨fun gb => ?_, fun gb => ?_⟩
       ·have gb' : z.2.1 = x.2.1 := of_decide_eq_true gb
        clear gb;conv=>whnf
        refine ⟨by decide, ?_⟩;conv=>whnf
        refine ⟨by decide, ?_⟩;conv=>whnf
        refine br (fun gc => ?_) (fun gc => ?_)
        ·have gc' : x.2.2.1 ≤ z.2.2.1 := of_decide_eq_true gc
         have h3 : zd6 (y :: r) x = false := by rw [haft, decide_eq_true gb', decide_eq_true gc']; simp
         have e := zj5 np g2 (.inr (.inr h3))
         conv=>whnf
         exact fin _ _ _ _ e rfl rfl rfl rfl
        ·have gc' : ¬ x.2.2.1 ≤ z.2.2.1 := of_decide_eq_false gc
         have h3 : zd6 (y :: r) x = true := by rw [haft, decide_eq_false ga', decide_eq_false gc']; simp
         clear gc;conv=>whnf
         refine br (fun g => ?_) (fun g => ?_)
         ·have e := (zqp (of_decide_eq_true g) hb0 hb1 h3).trans hb3
          conv=>whnf
          refine ⟨by decide, ?_⟩;conv=>whnf
          refine usePu w3 rfl ⟨rfl, rfl, rfl, trivial⟩ rfl ?_;conv=>whnf
          exact fin _ _ _ _ e rfl rfl rfl rfl
         ·have g3 : ¬ p = 3 := of_decide_eq_false g
          clear g;conv=>whnf
          refine br (fun g => ?_) (fun g => ?_)
          ·have e := (zqu (of_decide_eq_true g) hb0 hb1 h3).trans hb5
           conv=>whnf
           refine ⟨by decide, ?_⟩;conv=>whnf
           refine usePu w5 rfl ⟨rfl, rfl, rfl, trivial⟩ rfl ?_;conv=>whnf
           exact fin _ _ _ _ e rfl rfl rfl rfl
          ·have g5 : ¬ p = 5 := of_decide_eq_false g
           clear g
           have e := zps np g2 g3 g5 hb0 hb1 h3
           rw [hb4, hb6] at e
           conv=>whnf
           refine ⟨by decide, ?_⟩;conv=>whnf
           refine ⟨by decide, ?_⟩;conv=>whnf
           refine usePu w4 rfl ⟨rfl, rfl, rfl, trivial⟩ rfl ?_
           rcases b4 with _ | _
           ·conv=>whnf
            exact fin _ _ _ _ e rfl rfl rfl rfl
           ·conv=>whnf
            refine ⟨by decide, ?_⟩;conv=>whnf
            refine ⟨by decide, ?_⟩;conv=>whnf
            refine usePu w6 rfl ⟨rfl, rfl, rfl, trivial⟩ rfl ?_;conv=>whnf
            exact fin _ _ _ _ e rfl rfl rfl rfl
       ·have gb' : ¬ z.2.1 = x.2.1 := of_decide_eq_false gb
        have h3 : zd6 (y :: r) x = true := by rw [haft, decide_eq_false ga', decide_eq_false gb']; simp
        clear gb;conv=>whnf
        refine br (fun g => ?_) (fun g => ?_)
        ·have e := (zqp (of_decide_eq_true g) hb0 hb1 h3).trans hb3
         conv=>whnf
         refine ⟨by decide, ?_⟩;conv=>whnf
         refine usePu w3 rfl ⟨rfl, rfl, rfl, trivial⟩ rfl ?_;conv=>whnf
         exact fin _ _ _ _ e rfl rfl rfl rfl
        ·have g3 : ¬ p = 3 := of_decide_eq_false g
         clear g;conv=>whnf
         refine br (fun g => ?_) (fun g => ?_)
         ·have e := (zqu (of_decide_eq_true g) hb0 hb1 h3).trans hb5
          conv=>whnf
          refine ⟨by decide, ?_⟩;conv=>whnf
          refine usePu w5 rfl ⟨rfl, rfl, rfl, trivial⟩ rfl ?_;conv=>whnf
          exact fin _ _ _ _ e rfl rfl rfl rfl
         ·have g5 : ¬ p = 5 := of_decide_eq_false g
          clear g
          have e := zps np g2 g3 g5 hb0 hb1 h3
          rw [hb4, hb6] at e
          conv=>whnf
          refine ⟨by decide, ?_⟩;conv=>whnf
          refine ⟨by decide, ?_⟩;conv=>whnf
          refine usePu w4 rfl ⟨rfl, rfl, rfl, trivial⟩ rfl ?_
          rcases b4 with _ | _
          ·conv=>whnf
           exact fin _ _ _ _ e rfl rfl rfl rfl
          ·conv=>whnf
           refine ⟨by decide, ?_⟩;conv=>whnf
           refine ⟨by decide, ?_⟩;conv=>whnf
           refine usePu w6 rfl ⟨rfl, rfl, rfl, trivial⟩ rfl ?_;conv=>whnf
           exact fin _ _ _ _ e rfl rfl rfl rfl
      ·have ga' : x.2.1 < z.2.1 := of_decide_eq_true ga
       have h3 : zd6 (y :: r) x = false := by rw [haft, decide_eq_true ga']; simp
       have e := zj5 np g2 (.inr (.inr h3))
       clear ga;conv=>whnf
       exact fin _ _ _ _ e rfl rfl rfl rfl
end Go.Proofs.YtblllibdahkgfaaGreatDoor

namespace Go.Proofs.YtblllibdahkgfaaGreatDoor
open Go Sx
set_option maxRecDepth 100000
def txtOk (b : UInt8) : Bool := decide (32 ≤ b.toNat) && decide (b.toNat ≤ 126)
theorem zr7 {t : List UInt8} {k : Nat} (g : k < t.length) : (t.take (k + 1)).all txtOk = ((t.take k).all txtOk && txtOk t[k]) := by
 rw [List.take_succ_eq_append_getElem g, List.all_append]; simp
theorem zv5 {t : List UInt8} {k : Nat} (g : k < t.length) (h : txtOk t[k] = false) : t.all txtOk = false := by
 rw [List.all_eq_false]
 exact ⟨t[k], List.getElem_mem g, by rw [h]; simp⟩
theorem ziy (n : Nat) (x : RLn) : (Ent.one (.cells 88 (encL x))).below n := (SB.bB_ok rfl : SB.below n (.cells 88 (encL x)))
theorem zxx {p : Int} {l : List RLn} {x : RLn} (g : p = 1) : fitsR p l x = (x.1.all txtOk && decide (x.1.length ≤ 80)) := by
 rw [fitsR, if_pos g]; rfl
set_option maxHeartbeats 8000000 in
theorem zgu (F : Fz) (p : Int) (l : List RLn) (c : Nat) (x : RLn) (hx : x.1.length < 1000000) (hp : p = 1) :
  Ct Tryz.prog 49 [.va (.int .i64 p), .va (gA 5 1 c l), .agg (encL x)] F [(1, gE 88 5 encL c l)] 2
   (fun o F0 h0 n0 => F = F0 ∧ n0 = 2 ∧ o = .ret (.va (.bool (fitsR p l x))) ∧ h0 = [(1, gE 88 5 encL c l)]) := by
 have fin : ∀ (b : Bool) (a : SA) (h : Hp) (nx : Nat), fitsR p l x = b → atomE (.bool b) a → lget h 0 = some (.frz F) → lget h 1 = some (gE 88 5 encL c l) → a.ren (resP h) = a →
   Cln 2 (fun o F0 h0 n0 => Fz.le F F0 ∧ (F = F0 ∧ n0 = 2 ∧ o = .ret (.va (.bool (fitsR p l x))) ∧ h0 = [(1, gE 88 5 encL c l)])) (.ret (.va a)) h nx := by
  intro b a h nx hb ha h0 h1 hr
  subst hb
  exact clean [] (.ret (.va (.bool (fitsR p l x)))) F [(1, gE 88 5 encL c l)] 2 ⟨Fz.le_refl F, rfl, rfl, rfl, rfl⟩ (by show atomE _ (a.ren (resP h)); rw [hr]; exact ha) rfl rfl trivial ⟨zac zaa _ _ _ _ _, trivial⟩ ⟨by simp only [entE, aget, Ent.ren]; rw [h0]; exact Fz.le_refl F, by simp only [entE, aget]; rw [h1]; exact zas zaa (zao _ _ _ _), trivial⟩
 have e1 := zxx (l := l) (x := x) hp
 refine ct_of hΘ Tryz.func49 rfl (by decide) _ _ rfl rfl rfl ?_;conv=>whnf
 refine br (fun g => ?_) (fun g => absurd hp (of_decide_eq_false g))
 ·clear g;conv=>whnf
  refine za0 hΘ (X := { k : Nat // k ≤ x.1.length ∧ (x.1.take k).all txtOk = true }) (fun k => [(7, .va (.int .i64 k.1))]) [6, 12, 13, 14, 15, 16, 17, 18, 19, 20, 21, 22, 23, 24, 25, 26, 27, 28, 29, 30]
   (fun _ => [(0, .frz F), (1, gE 88 5 encL c l), (2, .one (.cells 88 (encL x)))]) 3 (fun k => x.1.length - k.1) ⟨0, by simp⟩
   (fun hH hT => leI [] hH hT rfl ⟨trivial, zac zaa _ _ _ _ _, ziy _ _, trivial⟩ ⟨rfl, trivial⟩ ⟨Fz.le_refl F, zas zaa (zao _ _ _ _), rfl, trivial⟩) ?_
  rintro ⟨k, hk, hall⟩ hH hT
  replace hk : k ≤ x.1.length := hk
  replace hall : (x.1.take k).all txtOk = true := hall
  conv=>whnf
  refine br (fun gb => ?_) (fun gb => ?_)
  ·have gk : k < x.1.length := by
    have h0 : (k : Int) < (x.1.length : Int) := of_decide_eq_true gb
    omega
   clear gb
   have hs := zr7 gk
   rw [hall, Bool.true_and] at hs
   have hbad : txtOk x.1[k] = false → fitsR p l x = false := fun h => by rw [e1, zv5 gk h]; rfl
   have hlt := x.1[k].toNat_lt
   conv=>whnf
   refine ⟨by dsimp only; omega, x.1[k], by dsimp only; rw [Int.toNat_natCast, List.getElem?_eq_getElem gk], ?_⟩;conv=>whnf
   refine ⟨fun ga => ?_, fun ga => ?_⟩
   ·have g32 : ¬ x.1[k].toNat < 32 := by
     have h0 : ¬ (x.1[k].toNat : Int) < 32 := of_decide_eq_false ga
     omega
    clear ga;conv=>whnf
    refine ⟨by dsimp only; omega, x.1[k], by dsimp only; rw [Int.toNat_natCast, List.getElem?_eq_getElem gk], ?_⟩;conv=>whnf
    refine br (fun gc => ?_) (fun gc => ?_)
    ·have g126 : 126 < x.1[k].toNat := by
      have h0 : (126 : Int) < x.1[k].toNat := of_decide_eq_true gc
      omega
     have e := hbad (by rw [txtOk, decide_eq_false (show ¬ x.1[k].toNat ≤ 126 by omega), Bool.and_false])
     conv=>whnf
     exact fin _ _ _ _ e rfl rfl rfl rfl
    ·have g126 : ¬ 126 < x.1[k].toNat := by
      have h0 : ¬ (126 : Int) < x.1[k].toNat := of_decide_eq_false gc
      omega
     have hok : txtOk x.1[k] = true := by rw [txtOk, decide_eq_true (show 32 ≤ x.1[k].toNat by omega), decide_eq_true (show x.1[k].toNat ≤ 126 by omega)]; rfl
     rw [hok] at hs
     clear gc hbad;conv=>whnf
     exact ⟨⟨k + 1, by show k + 1 ≤ x.1.length; omega, hs⟩, by show x.1.length - (k + 1) < x.1.length - k; omega, leR [] hH hT rfl ⟨trivial, zac zaa _ _ _ _ _, ziy _ _, trivial⟩ ⟨cnt (by omega), trivial⟩ ⟨Fz.le_refl F, zas zaa (zao _ _ _ _), rfl, trivial⟩⟩
   ·have g32 : x.1[k].toNat < 32 := by
     have h0 : (x.1[k].toNat : Int) < 32 := of_decide_eq_true ga
     omega
    have e := hbad (by rw [txtOk, decide_eq_false (show ¬ 32 ≤ x.1[k].toNat by omega), Bool.false_and])
    conv=>whnf
    exact fin _ _ _ _ e rfl rfl rfl rfl
  ·have gk : ¬ k < x.1.length := by
    have h0 : ¬ (k : Int) < (x.1.length : Int) := of_decide_eq_false gb
    omega
   clear gb
   rw [List.take_of_length_le (by omega)] at hall
   have e : fitsR p l x = decide ((x.1.length : Int) ≤ 80) := by
    rw [e1, hall, Bool.true_and]
    exact decide_eq_decide.2 (by omega)
   conv=>whnf
   exact fin _ _ _ _ e rfl rfl rfl rfl
end Go.Proofs.YtblllibdahkgfaaGreatDoor

namespace Go.Proofs.YtblllibdahkgfaaGreatDoor
open Go Sx
set_option maxRecDepth 100000
end Go.Proofs.YtblllibdahkgfaaGreatDoor

namespace Sx
open Go Go.RowKit
section
variable {P : Program} {Θ : Tys} {st : St} {Q : SE → St → Prop} {body : Code}
@[irreducible] def SR (P : Program) (body : Code) (Q : SE → St → Prop) (n : Nat) (st : St) : Prop :=
 ∀ (C : Ctx) (ρ : Rho) (a : Act) (w : World), Den C ρ st a w → Code.rounds P body (Up C Q) n a w
theorem sr_go (hΘ : Θ.Ok P) {n : Nat} (h : sx P Θ body st fun e st' => (match e with
  | .normal => SR P body Q n st'
  | .ret => Q .ret st'
  | .exit id => Q (.exit id) st'
  | .panic v => Q (.panic v) st')) : SR P body Q (n + 1) st := by
 unfold SR
 intro C ρ a w D
 have h1 := zeq hΘ body st _ h
 unfold WP at h1
 refine wp_mono (h1 C ρ a w D) ?_
 rintro e a' w' ⟨se, st', ρ', hq, rfl, D'⟩
 cases se with
 | normal =>
  dsimp only at hq
  unfold SR at hq
  exact hq C ρ' a' w' D'
 | ret => exact ⟨.ret, st', ρ', hq, rfl, D'⟩
 | exit id => exact ⟨.exit id, st', ρ', hq, rfl, D'⟩
 | panic v => exact ⟨.panic v, st', ρ', hq, rfl, D'⟩
theorem zb4 (hΘ : Θ.Ok P) (n : Nat) (h : sx P Θ body st fun e st' => (match e with
  | .normal => SR P body Q n st'
  | .ret => Q .ret st'
  | .exit id => Q (.exit id) st'
  | .panic v => Q (.panic v) st')) : WP P (.loop body) st Q := by
 have h2 := sr_go hΘ h
 unfold SR at h2
 unfold WP
 intro C ρ a w D
 exact wp_loop_rounds (n + 1) (h2 C ρ a w D)
end
end Sx

namespace Go.Proofs.YtblllibdahkgfaaGreatDoor
open Go Sx
set_option maxRecDepth 100000
structure RVal where
 lost : Bool
 lines : List RLn
 w : Int
 h : Int
 bits : List UInt8
def rvalV (v : RVal) (i c : Nat) : SV := .agg [.lit v.lost, gA 5 i c v.lines, .int .i64 v.w, .int .i64 v.h, .str v.bits]
def numsOf (x : RLn) : List Int := [x.2.1, x.2.2.1, x.2.2.2.1, x.2.2.2.2]
def zbc (p : Int) (x : RLn) : List UInt8 := (if p = 1 then (putSR x.1).1 else []) ++ (((numsOf x).take (colN p)).map fun n => (putIR n).1).flatten
def zar (p : Int) (v : RVal) : List UInt8 :=
 if v.lost = true then [] else
 if 6 ≤ p then (putIR v.w).1 ++ (putIR v.h).1 ++ (if p = 7 then (putSR v.bits).1 else [])
 else (putIR v.lines.length).1 ++ (v.lines.map (zbc p)).flatten
set_option maxHeartbeats 8000000 in
theorem zo2 (F : Fz) (p : Int) (v : RVal) (c : Nat) (hp : 6 ≤ p) (hvb : v.bits.length ≤ 9000000000000000000) :
  Ct Tryz.prog 32 [.va (.int .i64 p), rvalV v 1 c] F [(1, gE 88 5 encL c v.lines)] 2
   (fun o F0 h0 n0 => Fz.le F F0 ∧ n0 = 2 ∧ o = .ret (.va (.str (zar p v))) ∧ h0 = [(1, gE 88 5 encL c v.lines)]) := by
 have fin : ∀ (t : List UInt8) (F1 : Fz) (h : Hp) (nx : Nat), zar p v = t → Fz.le F F1 → lget h 0 = some (.frz F1) → lget h 1 = some (gE 88 5 encL c v.lines) →
   Cln 2 (fun o F0 h0 n0 => Fz.le F F0 ∧ (Fz.le F F0 ∧ n0 = 2 ∧ o = .ret (.va (.str (zar p v))) ∧ h0 = [(1, gE 88 5 encL c v.lines)])) (.ret (.va (.str t))) h nx := by
  intro t F1 h nx hb hle h0 h1
  subst hb
  exact clean [] (.ret (.va (.str (zar p v)))) F1 [(1, gE 88 5 encL c v.lines)] 2 ⟨hle, hle, rfl, rfl, rfl⟩ (zat _) rfl rfl trivial ⟨zac zaa _ _ _ _ _, trivial⟩ ⟨by simp only [entE, aget, Ent.ren]; rw [h0]; exact Fz.le_refl F1, by simp only [entE, aget]; rw [h1]; exact zas zaa (zao _ _ _ _), trivial⟩
 obtain ⟨lost, lines, w, h, bits⟩ := v
 rcases lost with _ | _
 ·refine ct_of hΘ Tryz.func32 rfl (by decide) _ _ rfl rfl rfl ?_;conv=>whnf
  refine br (fun g => ?_) (fun g => absurd hp (of_decide_eq_false g))
  ·clear g
   have lb := zbv bits
   have pb := zbi F bits hvb
   have lw := zaq w
   have lh := zaq h
   have pw := zak F w
   have ph := zak F h
   conv=>whnf
   refine rounds hΘ 3 ?_;conv=>whnf
   refine br (fun _ => ?_) (fun g => absurd g (by decide));conv=>whnf
   refine ⟨rfl, by decide, ?_⟩;conv=>whnf
   refine ⟨_, rfl, ?_⟩;conv=>whnf
   refine usePu pw rfl ⟨rfl, trivial⟩ rfl ?_;conv=>whnf
   refine ⟨by show 0 + (putIR w).1.length ≤ 9223372036854775807; omega, ?_⟩;conv=>whnf
   refine br (fun _ => ?_) (fun g => absurd g (by decide));conv=>whnf
   refine ⟨rfl, by decide, ?_⟩;conv=>whnf
   refine ⟨_, rfl, ?_⟩;conv=>whnf
   refine usePu ph rfl ⟨rfl, trivial⟩ rfl ?_;conv=>whnf
   refine ⟨by show ([] ++ (putIR w).1).length + (putIR h).1.length ≤ 9223372036854775807; rw [List.nil_append]; omega, ?_⟩;conv=>whnf
   refine br (fun g => absurd g (by decide)) (fun _ => ?_);conv=>whnf
   refine br (fun g => ?_) (fun g => ?_)
   ·have g7 : p = 7 := of_decide_eq_true g
    have e : zar p ⟨false, lines, w, h, bits⟩ = [] ++ (putIR w).1 ++ (putIR h).1 ++ (putSR bits).1 := by
     show (if false = true then [] else _) = _
     rw [if_neg (by simp), if_pos hp, if_pos g7, List.nil_append]
    conv=>whnf
    refine usePu pb rfl ⟨rfl, trivial⟩ rfl ?_;conv=>whnf
    refine ⟨by show ([] ++ (putIR w).1 ++ (putIR h).1).length + (putSR bits).1.length ≤ 9223372036854775807; rw [List.nil_append, List.length_append]; omega, ?_⟩;conv=>whnf
    exact fin _ F _ _ e (Fz.le_refl F) rfl rfl
   ·have g7 : ¬ p = 7 := of_decide_eq_false g
    have e : zar p ⟨false, lines, w, h, bits⟩ = [] ++ (putIR w).1 ++ (putIR h).1 := by
     show (if false = true then [] else _) = _
     rw [if_neg (by simp), if_pos hp, if_neg g7, List.nil_append, List.append_nil]
    conv=>whnf
    exact fin _ F _ _ e (Fz.le_refl F) rfl rfl
 ·have e : zar p ⟨true, lines, w, h, bits⟩ = [] := rfl
  refine ct_of hΘ Tryz.func32 rfl (by decide) _ _ rfl rfl rfl ?_;conv=>whnf
  exact fin [] F _ _ e (Fz.le_refl F) rfl rfl
end Go.Proofs.YtblllibdahkgfaaGreatDoor
