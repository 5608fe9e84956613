import Derived.Test.YtblllibdahkgfaaGreatDoorK23
import Derived.Test.YtblllibdahkgfaaGreatDoorK09

namespace Go.Proofs.YtblllibdahkgfaaGreatDoor
open Go Sx
set_option maxRecDepth 100000
set_option maxHeartbeats 8000000 in
theorem zc0 (F : Fz) (p : Int) (l : List RLn) (c : Nat) (x : RLn) (hx : x.1.length < 1000000) (hl : l.length < 1000000) (np : ¬ p = 1) :
  Ct Tryz.prog 49 [.va (.int .i64 p), .va (gA 5 1 c l), .agg (encL x)] F [(1, gE 88 5 encL c l)] 2
   (fun o F0 h0 n0 => F = F0 ∧ n0 = 2 ∧ o = .ret (.va (.bool (fitsR p l x))) ∧ h0 = [(1, gE 88 5 encL c l)]) := by
 have fin : ∀ (b : Bool) (a : SA) (h : Hp) (nx : Nat), fitsR p l x = b → atomE (.bool b) a → lget h 0 = some (.frz F) → lget h 1 = some (gE 88 5 encL c l) → a.ren (resP h) = a →
   Cln 2 (fun o F0 h0 n0 => Fz.le F F0 ∧ (F = F0 ∧ n0 = 2 ∧ o = .ret (.va (.bool (fitsR p l x))) ∧ h0 = [(1, gE 88 5 encL c l)])) (.ret (.va a)) h nx := by
  intro b a h nx hb ha h0 h1 hr
  subst hb
  exact clean [] (.ret (.va (.bool (fitsR p l x)))) F [(1, gE 88 5 encL c l)] 2 ⟨Fz.le_refl F, rfl, rfl, rfl, rfl⟩ (by show atomE _ (a.ren (resP h)); rw [hr]; exact ha) rfl rfl trivial ⟨zac zaa _ _ _ _ _, trivial⟩ ⟨by simp only [entE, aget, Ent.ren]; rw [h0]; exact Fz.le_refl F, by simp only [entE, aget]; rw [h1]; exact zam zaa (zao _ _ _ _), trivial⟩
 obtain ⟨b0, hb0⟩ : ∃ b, inR x.2.1 0 31 = b := ⟨_, rfl⟩
 obtain ⟨b1, hb1⟩ : ∃ b, inR x.2.2.1 0 31 = b := ⟨_, rfl⟩
 obtain ⟨b3, hb3⟩ : ∃ b, inR x.2.2.2.1 (-1000000) 1000000 = b := ⟨_, rfl⟩
 obtain ⟨b5, hb5⟩ : ∃ b, inR x.2.2.2.1 (-1000000000000) 1000000000000 = b := ⟨_, rfl⟩
 obtain ⟨b4, hb4⟩ : ∃ b, inR x.2.2.2.1 0 x.2.1 = b := ⟨_, rfl⟩
 obtain ⟨b6, hb6⟩ : ∃ b, inR x.2.2.2.2 0 x.2.2.1 = b := ⟨_, rfl⟩
 have w0 := zb3 hb0 F
 have w1 := zb3 hb1 F
 have w3 := zb3 hb3 F
 have w5 := zb3 hb5 F
 have w4 := zb3 hb4 F
 have w6 := zb3 hb6 F
 have w7 := zfg x.2.1 0 7 F
 refine ct_of hΘ Tryz.func49 rfl (by decide) _ _ rfl rfl rfl ?_;conv=>whnf
 refine br (fun g => absurd (of_decide_eq_true g) np) (fun g => ?_)
 ·clear g;conv=>whnf
  refine br (fun g => ?_) (fun g => ?_)
  ·have g2 : p = 2 := of_decide_eq_true g
   have e : fitsR p l x = (decide (0 ≤ x.2.1) && decide (x.2.1 ≤ 7)) := by rw [fitsR, if_neg np, if_pos g2]; rfl
   conv=>whnf
   refine ⟨by decide, ?_⟩;conv=>whnf
   refine usePu w7 rfl ⟨rfl, rfl, rfl, trivial⟩ rfl ?_;conv=>whnf
   exact fin _ _ _ _ e rfl rfl rfl rfl
  ·have g2 : ¬ p = 2 := of_decide_eq_false g
   clear g
   rcases b0 with _ | _
   ·have e := zka (l := l) np g2 (.inl hb0)
    conv=>whnf
    refine ⟨by decide, ?_⟩;conv=>whnf
    refine usePu w0 rfl ⟨rfl, rfl, rfl, trivial⟩ rfl ?_;conv=>whnf
    exact fin _ _ _ _ e rfl rfl rfl rfl
   ·conv=>whnf
    refine ⟨by decide, ?_⟩;conv=>whnf
    refine usePu w0 rfl ⟨rfl, rfl, rfl, trivial⟩ rfl ?_;conv=>whnf
    refine ⟨by decide, ?_⟩;conv=>whnf
    refine usePu w1 rfl ⟨rfl, rfl, rfl, trivial⟩ rfl ?_
    rcases b1 with _ | _
    ·have e := zka (l := l) np g2 (.inr (.inl hb1))
     conv=>whnf
     exact fin _ _ _ _ e rfl rfl rfl rfl
    ·rcases l with _ | ⟨y, r⟩
     ·have h3 := zpe x
      conv=>whnf
      refine br (fun g => absurd g (by decide)) (fun _ => ?_);conv=>whnf
      refine br (fun g => ?_) (fun g => ?_)
      ·have e := (zqn (of_decide_eq_true g) hb0 hb1 h3).trans hb3
       conv=>whnf
       refine ⟨by decide, ?_⟩;conv=>whnf
       refine usePu w3 rfl ⟨rfl, rfl, rfl, trivial⟩ rfl ?_;conv=>whnf
       exact fin _ _ _ _ e rfl rfl rfl rfl
      ·have g3 : ¬ p = 3 := of_decide_eq_false g
       clear g;conv=>whnf
       refine br (fun g => ?_) (fun g => ?_)
       ·have e := (zra (of_decide_eq_true g) hb0 hb1 h3).trans hb5
        conv=>whnf
        refine ⟨by decide, ?_⟩;conv=>whnf
        refine usePu w5 rfl ⟨rfl, rfl, rfl, trivial⟩ rfl ?_;conv=>whnf
        exact fin _ _ _ _ e rfl rfl rfl rfl
       ·have g5 : ¬ p = 5 := of_decide_eq_false g
        clear g
        have e := zsa np g2 g3 g5 hb0 hb1 h3
        rw [hb4, hb6] at e
        conv=>whnf
        refine ⟨by decide, ?_⟩;conv=>whnf
        refine ⟨by decide, ?_⟩;conv=>whnf
        refine usePu w4 rfl ⟨rfl, rfl, rfl, trivial⟩ rfl ?_
        rcases b4 with _ | _
        ·conv=>whnf
         exact fin _ _ _ _ e rfl rfl rfl rfl
        ·conv=>whnf
         refine ⟨by decide, ?_⟩;conv=>whnf
         refine ⟨by decide, ?_⟩;conv=>whnf
         refine usePu w6 rfl ⟨rfl, rfl, rfl, trivial⟩ rfl ?_;conv=>whnf
         exact fin _ _ _ _ e rfl rfl rfl rfl
     ·have hw : IntKind.i64.wrap (((r.length + 1 : Nat) : Int) - 1) = ((r.length : Nat) : Int) := by
       have : r.length + 1 < 1000000 := hl
       rw [zai (by omega) (by omega)]; omega
      have hz : ∃ z, (y :: r)[r.length]? = some z := ⟨_, List.getElem?_eq_getElem (by simp)⟩
      obtain ⟨z, hz⟩ := hz
      have hz2 : ((y :: r).map encL)[r.length]? = some (encL z) := by rw [List.getElem?_map, hz]; rfl
      have hlast : (y :: r).getLast? = some z := by rw [List.getLast?_eq_getElem?]; exact hz
      have haft : zeh (y :: r) x = !(decide (x.2.1 < z.2.1) || (decide (z.2.1 = x.2.1) && decide (x.2.2.1 ≤ z.2.2.1))) := by rw [zeh, hlast]
      conv=>whnf
      refine br (fun _ => ?_) (fun g => absurd (of_decide_eq_false g) (by omega))
      have hw1 : 0 ≤ IntKind.i64.wrap (((r.length + 1 : Nat) : Int) - 1) ∧ IntKind.i64.wrap (((r.length + 1 : Nat) : Int) - 1) < ((r.length + 1 : Nat) : Int) := by rw [hw]; omega
      have hz3 : ((y :: r).map encL)[0 + (IntKind.i64.wrap (((r.length + 1 : Nat) : Int) - 1)).toNat]? = some (encL z) := by rw [hw, Int.toNat_natCast, Nat.zero_add]; exact hz2
      conv=>whnf
      refine ⟨rfl, hw1, ?_⟩;conv=>whnf
      refine ⟨rfl, _, hz3, ?_⟩;conv=>whnf
      refine ⟨by decide, ?_⟩;conv=>whnf
      refine ⟨by decide, ?_⟩
      refine ⟨fun ga => ?_, fun ga => ?_⟩
      ·have ga' : ¬ x.2.1 < z.2.1 := of_decide_eq_false ga
       clear ga;conv=>whnf
       refine ⟨by decide, ?_⟩;conv=>whnf
       refine ⟨by decide, ?_⟩;conv=>whnf
       refine ⟨fun gb => ?_, fun gb => ?_⟩
       ·have gb' : z.2.1 = x.2.1 := of_decide_eq_true gb
        clear gb;conv=>whnf
        refine ⟨by decide, ?_⟩;conv=>whnf
        refine ⟨by decide, ?_⟩;conv=>whnf
        refine br (fun gc => ?_) (fun gc => ?_)
        ·have gc' : x.2.2.1 ≤ z.2.2.1 := of_decide_eq_true gc
         have h3 : zeh (y :: r) x = false := by rw [haft, decide_eq_true gb', decide_eq_true gc']; simp
         have e := zka np g2 (.inr (.inr h3))
         conv=>whnf
         exact fin _ _ _ _ e rfl rfl rfl rfl
        ·have gc' : ¬ x.2.2.1 ≤ z.2.2.1 := of_decide_eq_false gc
         have h3 : zeh (y :: r) x = true := by rw [haft, decide_eq_false ga', decide_eq_false gc']; simp
         clear gc;conv=>whnf
         refine br (fun g => ?_) (fun g => ?_)
         ·have e := (zqn (of_decide_eq_true g) hb0 hb1 h3).trans hb3
          conv=>whnf
          refine ⟨by decide, ?_⟩;conv=>whnf
          refine usePu w3 rfl ⟨rfl, rfl, rfl, trivial⟩ rfl ?_;conv=>whnf
          exact fin _ _ _ _ e rfl rfl rfl rfl
         ·have g3 : ¬ p = 3 := of_decide_eq_false g
          clear g;conv=>whnf
          refine br (fun g => ?_) (fun g => ?_)
          ·have e := (zra (of_decide_eq_true g) hb0 hb1 h3).trans hb5
           conv=>whnf
           refine ⟨by decide, ?_⟩;conv=>whnf
           refine usePu w5 rfl ⟨rfl, rfl, rfl, trivial⟩ rfl ?_;conv=>whnf
           exact fin _ _ _ _ e rfl rfl rfl rfl
          ·have g5 : ¬ p = 5 := of_decide_eq_false g
           clear g
           have e := zsa np g2 g3 g5 hb0 hb1 h3
           rw [hb4, hb6] at e
           conv=>whnf
           refine ⟨by decide, ?_⟩;conv=>whnf
           refine ⟨by decide, ?_⟩;conv=>whnf
           refine usePu w4 rfl ⟨rfl, rfl, rfl, trivial⟩ rfl ?_
           rcases b4 with _ | _
           ·conv=>whnf
            exact fin _ _ _ _ e rfl rfl rfl rfl
           ·conv=>whnf
            refine ⟨by decide, ?_⟩;conv=>whnf
            refine ⟨by decide, ?_⟩;conv=>whnf
            refine usePu w6 rfl ⟨rfl, rfl, rfl, trivial⟩ rfl ?_;conv=>whnf
            exact fin _ _ _ _ e rfl rfl rfl rfl
       ·have gb' : ¬ z.2.1 = x.2.1 := of_decide_eq_false gb
        have h3 : zeh (y :: r) x = true := by rw [haft, decide_eq_false ga', decide_eq_false gb']; simp
        clear gb;conv=>whnf
        refine br (fun g => ?_) (fun g => ?_)
        ·have e := (zqn (of_decide_eq_true g) hb0 hb1 h3).trans hb3
         conv=>whnf
         refine ⟨by decide, ?_⟩;conv=>whnf
         refine usePu w3 rfl ⟨rfl, rfl, rfl, trivial⟩ rfl ?_;conv=>whnf
         exact fin _ _ _ _ e rfl rfl rfl rfl
        ·have g3 : ¬ p = 3 := of_decide_eq_false g
         clear g;conv=>whnf
         refine br (fun g => ?_) (fun g => ?_)
         ·have e := (zra (of_decide_eq_true g) hb0 hb1 h3).trans hb5
          conv=>whnf
          refine ⟨by decide, ?_⟩;conv=>whnf
          refine usePu w5 rfl ⟨rfl, rfl, rfl, trivial⟩ rfl ?_;conv=>whnf
          exact fin _ _ _ _ e rfl rfl rfl rfl
         ·have g5 : ¬ p = 5 := of_decide_eq_false g
          clear g
          have e := zsa np g2 g3 g5 hb0 hb1 h3
          rw [hb4, hb6] at e
          conv=>whnf
          refine ⟨by decide, ?_⟩;conv=>whnf
          refine ⟨by decide, ?_⟩;conv=>whnf
          refine usePu w4 rfl ⟨rfl, rfl, rfl, trivial⟩ rfl ?_
          rcases b4 with _ | _
          ·conv=>whnf
           exact fin _ _ _ _ e rfl rfl rfl rfl
          ·conv=>whnf
           refine ⟨by decide, ?_⟩;conv=>whnf
           refine ⟨by decide, ?_⟩;conv=>whnf
           refine usePu w6 rfl ⟨rfl, rfl, rfl, trivial⟩ rfl ?_;conv=>whnf
           exact fin _ _ _ _ e rfl rfl rfl rfl
      ·have ga' : x.2.1 < z.2.1 := of_decide_eq_true ga
       have h3 : zeh (y :: r) x = false := by rw [haft, decide_eq_true ga']; simp
       have e := zka np g2 (.inr (.inr h3))
       clear ga;conv=>whnf
       exact fin _ _ _ _ e rfl rfl rfl rfl
end Go.Proofs.YtblllibdahkgfaaGreatDoor

namespace Go.Proofs.YtblllibdahkgfaaGreatDoor
open Go Sx
set_option maxRecDepth 100000
def txtOk (b : UInt8) : Bool := decide (32 ≤ b.toNat) && decide (b.toNat ≤ 126)
theorem zu7 {t : List UInt8} {k : Nat} (g : k < t.length) : (t.take (k + 1)).all txtOk = ((t.take k).all txtOk && txtOk t[k]) := by
 rw [List.take_succ_eq_append_getElem g, List.all_append]; simp
theorem zw6 {t : List UInt8} {k : Nat} (g : k < t.length) (h : txtOk t[k] = false) : t.all txtOk = false := by
 rw [List.all_eq_false]
 exact ⟨t[k], List.getElem_mem g, by rw [h]; simp⟩
theorem zix (n : Nat) (x : RLn) : (Ent.one (.cells 88 (encL x))).below n := (SB.bB_ok rfl : SB.below n (.cells 88 (encL x)))
theorem zzb {p : Int} {l : List RLn} {x : RLn} (g : p = 1) : fitsR p l x = (x.1.all txtOk && decide (x.1.length ≤ 80)) := by
 rw [fitsR, if_pos g]; rfl
set_option maxHeartbeats 8000000 in
theorem zg7 (F : Fz) (p : Int) (l : List RLn) (c : Nat) (x : RLn) (hx : x.1.length < 1000000) (hp : p = 1) :
  Ct Tryz.prog 49 [.va (.int .i64 p), .va (gA 5 1 c l), .agg (encL x)] F [(1, gE 88 5 encL c l)] 2
   (fun o F0 h0 n0 => F = F0 ∧ n0 = 2 ∧ o = .ret (.va (.bool (fitsR p l x))) ∧ h0 = [(1, gE 88 5 encL c l)]) := by
 have fin : ∀ (b : Bool) (a : SA) (h : Hp) (nx : Nat), fitsR p l x = b → atomE (.bool b) a → lget h 0 = some (.frz F) → lget h 1 = some (gE 88 5 encL c l) → a.ren (resP h) = a →
   Cln 2 (fun o F0 h0 n0 => Fz.le F F0 ∧ (F = F0 ∧ n0 = 2 ∧ o = .ret (.va (.bool (fitsR p l x))) ∧ h0 = [(1, gE 88 5 encL c l)])) (.ret (.va a)) h nx := by
  intro b a h nx hb ha h0 h1 hr
  subst hb
  exact clean [] (.ret (.va (.bool (fitsR p l x)))) F [(1, gE 88 5 encL c l)] 2 ⟨Fz.le_refl F, rfl, rfl, rfl, rfl⟩ (by show atomE _ (a.ren (resP h)); rw [hr]; exact ha) rfl rfl trivial ⟨zac zaa _ _ _ _ _, trivial⟩ ⟨by simp only [entE, aget, Ent.ren]; rw [h0]; exact Fz.le_refl F, by simp only [entE, aget]; rw [h1]; exact zam zaa (zao _ _ _ _), trivial⟩
 have e1 := zzb (l := l) (x := x) hp
 refine ct_of hΘ Tryz.func49 rfl (by decide) _ _ rfl rfl rfl ?_;conv=>whnf
 refine br (fun g => ?_) (fun g => absurd hp (of_decide_eq_false g))
 ·clear g;conv=>whnf
  refine zau hΘ (X := { k : Nat // k ≤ x.1.length ∧ (x.1.take k).all txtOk = true }) (fun k => [(7, .va (.int .i64 k.1))]) [6, 12, 13, 14, 15, 16, 17, 18, 19, 20, 21, 22, 23, 24, 25, 26, 27, 28, 29, 30]
   (fun _ => [(0, .frz F), (1, gE 88 5 encL c l), (2, .one (.cells 88 (encL x)))]) 3 (fun k => x.1.length - k.1) ⟨0, by simp⟩
   (fun hH hT => leI [] hH hT rfl ⟨trivial, zac zaa _ _ _ _ _, zix _ _, trivial⟩ ⟨rfl, trivial⟩ ⟨Fz.le_refl F, zam zaa (zao _ _ _ _), rfl, trivial⟩) ?_
  rintro ⟨k, hk, hall⟩ hH hT
  replace hk : k ≤ x.1.length := hk
  replace hall : (x.1.take k).all txtOk = true := hall
  conv=>whnf
  refine br (fun gb => ?_) (fun gb => ?_)
  ·have gk : k < x.1.length := by
    have h0 : (k : Int) < (x.1.length : Int) := of_decide_eq_true gb
    omega
   clear gb
   have hs := zu7 gk
   rw [hall, Bool.true_and] at hs
   have hbad : txtOk x.1[k] = false → fitsR p l x = false := fun h => by rw [e1, zw6 gk h]; rfl
   have hlt := x.1[k].toNat_lt
   conv=>whnf
   refine ⟨by dsimp only; omega, x.1[k], by dsimp only; rw [Int.toNat_natCast, List.getElem?_eq_getElem gk], ?_⟩;conv=>whnf
   refine ⟨fun ga => ?_, fun ga => ?_⟩
   ·have g32 : ¬ x.1[k].toNat < 32 := by
     have h0 : ¬ (x.1[k].toNat : Int) < 32 := of_decide_eq_false ga
     omega
    clear ga;conv=>whnf
    refine ⟨by dsimp only; omega, x.1[k], by dsimp only; rw [Int.toNat_natCast, List.getElem?_eq_getElem gk], ?_⟩;conv=>whnf
    refine br (fun gc => ?_) (fun gc => ?_)
    ·have g126 : 126 < x.1[k].toNat := by
      have h0 : (126 : Int) < x.1[k].toNat := of_decide_eq_true gc
      omega
     have e := hbad (by rw [txtOk, decide_eq_false (show ¬ x.1[k].toNat ≤ 126 by omega), Bool.and_false])
     conv=>whnf
     exact fin _ _ _ _ e rfl rfl rfl rfl
    ·have g126 : ¬ 126 < x.1[k].toNat := by
      have h0 : ¬ (126 : Int) < x.1[k].toNat := of_decide_eq_false gc
      omega
     have hok : txtOk x.1[k] = true := by rw [txtOk, decide_eq_true (show 32 ≤ x.1[k].toNat by omega), decide_eq_true (show x.1[k].toNat ≤ 126 by omega)]; rfl
     rw [hok] at hs
     clear gc hbad;conv=>whnf
     exact ⟨⟨k + 1, by show k + 1 ≤ x.1.length; omega, hs⟩, by show x.1.length - (k + 1) < x.1.length - k; omega, leR [] hH hT rfl ⟨trivial, zac zaa _ _ _ _ _, zix _ _, trivial⟩ ⟨cnt (by omega), trivial⟩ ⟨Fz.le_refl F, zam zaa (zao _ _ _ _), rfl, trivial⟩⟩
   ·have g32 : x.1[k].toNat < 32 := by
     have h0 : (x.1[k].toNat : Int) < 32 := of_decide_eq_true ga
     omega
    have e := hbad (by rw [txtOk, decide_eq_false (show ¬ 32 ≤ x.1[k].toNat by omega), Bool.false_and])
    conv=>whnf
    exact fin _ _ _ _ e rfl rfl rfl rfl
  ·have gk : ¬ k < x.1.length := by
    have h0 : ¬ (k : Int) < (x.1.length : Int) := of_decide_eq_false gb
    omega
   clear gb
   rw [List.take_of_length_le (by omega)] at hall
   have e : fitsR p l x = decide ((x.1.length : Int) ≤ 80) := by
    rw [e1, hall, Bool.true_and]
    exact decide_eq_decide.2 (by omega)
   conv=>whnf
   exact fin _ _ _ _ e rfl rfl rfl rfl
end Go.Proofs.YtblllibdahkgfaaGreatDoor

namespace Go.Proofs.YtblllibdahkgfaaGreatDoor
open Go Sx
set_option maxRecDepth 100000
theorem zks : ∀ (n : Nat) (s : List UInt8) (p : Bool), s.length ≤ n → spc p (repD s) = spc p s
 | _, [], p, _ => by simp [repD]
 | _, [a], p, _ => by simp [repD]
 | 0, a :: b :: r, p, h => by simp at h
 | n + 1, a :: b :: r, p, h => by
  rw [repD]
  by_cases hd : (a == 32 && b == 32) = true
  ·have ha : a = 32 := by simp at hd; exact hd.1
   have hb : b = 32 := by simp at hd; exact hd.2
   have ih := zks n r true (by simp only [List.length_cons] at h; omega)
   subst ha; subst hb
   rw [if_pos hd]
   cases p <;> simp [spc, ih]
  ·have ih := fun q => zks n (b :: r) q (by simp only [List.length_cons] at h ⊢; omega)
   rw [if_neg hd]
   by_cases hp : a = 32 ∧ p = true
   ·rw [spc, if_pos hp, ih, spc.eq_def p (a :: b :: r)]; simp only [if_pos hp]
   ·rw [spc, if_neg hp, ih, spc.eq_def p (a :: b :: r)]; simp only [if_neg hp]
theorem znq : ∀ (s : List UInt8) (p : Bool), hasD s = false → (p = true → s.head? ≠ some 32) → spc p s = s
 | [], p, _, _ => by simp [spc]
 | a :: r, p, h, hp => by
  have h1 : ¬ (a = 32 ∧ p = true) := fun hh => hp hh.2 (by rw [hh.1]; rfl)
  rw [spc, if_neg h1]
  congr 1
  refine znq r _ ?_ ?_
  ·cases r with
   | nil => rfl
   | cons b r => rw [hasD, Bool.or_eq_false_iff] at h; exact h.2
  ·intro ha hb
   cases r with
   | nil => simp at hb
   | cons b r =>
    rw [hasD, Bool.or_eq_false_iff] at h
    have hb : b = 32 := by simpa using hb
    have h2 := h.1
    rw [ha, hb] at h2
    simp at h2
theorem zro : ∀ (f : Nat) (s : List UInt8), s.length ≤ f → spS f s = spc false s
 | 0, s, h => by
  have : s = [] := List.eq_nil_of_length_eq_zero (by omega)
  subst this; rfl
 | f + 1, s, h => by
  rw [spS]
  by_cases hd : hasD s = true
  ·rw [if_pos hd, zro f (repD s) (by have := zhp s hd; omega), zks s.length s false (Nat.le_refl _)]
  ·rw [if_neg hd, znq s false (by simpa using hd) (fun h => by cases h)]
end Go.Proofs.YtblllibdahkgfaaGreatDoor

namespace Sx
open Go Go.RowKit
section
variable {P : Program} {Θ : Tys} {st : St} {Q : SE → St → Prop} {body : Code}
@[irreducible] def SR (P : Program) (body : Code) (Q : SE → St → Prop) (n : Nat) (st : St) : Prop :=
 ∀ (C : Ctx) (ρ : Rho) (a : Act) (w : World), Den C ρ st a w → Code.rounds P body (Up C Q) n a w
theorem sr_go (hΘ : Θ.Ok P) {n : Nat} (h : sx P Θ body st fun e st' => (match e with
  | .normal => SR P body Q n st'
  | .ret => Q .ret st'
  | .exit id => Q (.exit id) st'
  | .panic v => Q (.panic v) st')) : SR P body Q (n + 1) st := by
 unfold SR
 intro C ρ a w D
 have h1 := zex hΘ body st _ h
 unfold WP at h1
 refine wp_mono (h1 C ρ a w D) ?_
 rintro e a' w' ⟨se, st', ρ', hq, rfl, D'⟩
 cases se with
 | normal =>
  dsimp only at hq
  unfold SR at hq
  exact hq C ρ' a' w' D'
 | ret => exact ⟨.ret, st', ρ', hq, rfl, D'⟩
 | exit id => exact ⟨.exit id, st', ρ', hq, rfl, D'⟩
 | panic v => exact ⟨.panic v, st', ρ', hq, rfl, D'⟩
theorem zb2 (hΘ : Θ.Ok P) (n : Nat) (h : sx P Θ body st fun e st' => (match e with
  | .normal => SR P body Q n st'
  | .ret => Q .ret st'
  | .exit id => Q (.exit id) st'
  | .panic v => Q (.panic v) st')) : WP P (.loop body) st Q := by
 have h2 := sr_go hΘ h
 unfold SR at h2
 unfold WP
 intro C ρ a w D
 exact wp_loop_rounds (n + 1) (h2 C ρ a w D)
end
end Sx

namespace Go.Proofs.YtblllibdahkgfaaGreatDoor
open Go Sx
set_option maxRecDepth 100000
structure RVal where
 lost : Bool
 lines : List RLn
 w : Int
 h : Int
 bits : List UInt8
def rvalV (v : RVal) (i c : Nat) : SV := .agg [.lit v.lost, gA 5 i c v.lines, .int .i64 v.w, .int .i64 v.h, .str v.bits]
def numsOf (x : RLn) : List Int := [x.2.1, x.2.2.1, x.2.2.2.1, x.2.2.2.2]
def zba (p : Int) (x : RLn) : List UInt8 := (if p = 1 then (putSR x.1).1 else []) ++ (((numsOf x).take (colN p)).map fun n => (putIR n).1).flatten
def zat (p : Int) (v : RVal) : List UInt8 :=
 if v.lost = true then [] else
 if 6 ≤ p then (putIR v.w).1 ++ (putIR v.h).1 ++ (if p = 7 then (putSR v.bits).1 else [])
 else (putIR v.lines.length).1 ++ (v.lines.map (zba p)).flatten
set_option maxHeartbeats 8000000 in
theorem zpw (F : Fz) (p : Int) (v : RVal) (c : Nat) (hp : 6 ≤ p) (hvb : v.bits.length ≤ 9000000000000000000) :
  Ct Tryz.prog 32 [.va (.int .i64 p), rvalV v 1 c] F [(1, gE 88 5 encL c v.lines)] 2
   (fun o F0 h0 n0 => Fz.le F F0 ∧ n0 = 2 ∧ o = .ret (.va (.str (zat p v))) ∧ h0 = [(1, gE 88 5 encL c v.lines)]) := by
 have fin : ∀ (t : List UInt8) (F1 : Fz) (h : Hp) (nx : Nat), zat p v = t → Fz.le F F1 → lget h 0 = some (.frz F1) → lget h 1 = some (gE 88 5 encL c v.lines) →
   Cln 2 (fun o F0 h0 n0 => Fz.le F F0 ∧ (Fz.le F F0 ∧ n0 = 2 ∧ o = .ret (.va (.str (zat p v))) ∧ h0 = [(1, gE 88 5 encL c v.lines)])) (.ret (.va (.str t))) h nx := by
  intro t F1 h nx hb hle h0 h1
  subst hb
  exact clean [] (.ret (.va (.str (zat p v)))) F1 [(1, gE 88 5 encL c v.lines)] 2 ⟨hle, hle, rfl, rfl, rfl⟩ (zar _) rfl rfl trivial ⟨zac zaa _ _ _ _ _, trivial⟩ ⟨by simp only [entE, aget, Ent.ren]; rw [h0]; exact Fz.le_refl F1, by simp only [entE, aget]; rw [h1]; exact zam zaa (zao _ _ _ _), trivial⟩
 obtain ⟨lost, lines, w, h, bits⟩ := v
 rcases lost with _ | _
 ·refine ct_of hΘ Tryz.func32 rfl (by decide) _ _ rfl rfl rfl ?_;conv=>whnf
  refine br (fun g => ?_) (fun g => absurd hp (of_decide_eq_false g))
  ·clear g
   have lb := zby bits
   have pb := zbj F bits hvb
   have lw := zas w
   have lh := zas h
   have pw := zal F w
   have ph := zal F h
   conv=>whnf
   refine rounds hΘ 3 ?_;conv=>whnf
   refine br (fun _ => ?_) (fun g => absurd g (by decide));conv=>whnf
   refine ⟨rfl, by decide, ?_⟩;conv=>whnf
   refine ⟨_, rfl, ?_⟩;conv=>whnf
   refine usePu pw rfl ⟨rfl, trivial⟩ rfl ?_;conv=>whnf
   refine ⟨by show 0 + (putIR w).1.length ≤ 9223372036854775807; omega, ?_⟩;conv=>whnf
   refine br (fun _ => ?_) (fun g => absurd g (by decide));conv=>whnf
   refine ⟨rfl, by decide, ?_⟩;conv=>whnf
   refine ⟨_, rfl, ?_⟩;conv=>whnf
   refine usePu ph rfl ⟨rfl, trivial⟩ rfl ?_;conv=>whnf
   refine ⟨by show ([] ++ (putIR w).1).length + (putIR h).1.length ≤ 9223372036854775807; rw [List.nil_append]; omega, ?_⟩;conv=>whnf
   refine br (fun g => absurd g (by decide)) (fun _ => ?_);conv=>whnf
   refine br (fun g => ?_) (fun g => ?_)
   ·have g7 : p = 7 := of_decide_eq_true g
    have e : zat p ⟨false, lines, w, h, bits⟩ = [] ++ (putIR w).1 ++ (putIR h).1 ++ (putSR bits).1 := by
     show (if false = true then [] else _) = _
     rw [if_neg (by simp), if_pos hp, if_pos g7, List.nil_append]
    conv=>whnf
    refine usePu pb rfl ⟨rfl, trivial⟩ rfl ?_;conv=>whnf
    refine ⟨by show ([] ++ (putIR w).1 ++ (putIR h).1).length + (putSR bits).1.length ≤ 9223372036854775807; rw [List.nil_append, List.length_append]; omega, ?_⟩;conv=>whnf
    exact fin _ F _ _ e (Fz.le_refl F) rfl rfl
   ·have g7 : ¬ p = 7 := of_decide_eq_false g
    have e : zat p ⟨false, lines, w, h, bits⟩ = [] ++ (putIR w).1 ++ (putIR h).1 := by
     show (if false = true then [] else _) = _
     rw [if_neg (by simp), if_pos hp, if_neg g7, List.nil_append, List.append_nil]
    conv=>whnf
    exact fin _ F _ _ e (Fz.le_refl F) rfl rfl
 ·have e : zat p ⟨true, lines, w, h, bits⟩ = [] := rfl
  refine ct_of hΘ Tryz.func32 rfl (by decide) _ _ rfl rfl rfl ?_;conv=>whnf
  exact fin [] F _ _ e (Fz.le_refl F) rfl rfl
end Go.Proofs.YtblllibdahkgfaaGreatDoor
