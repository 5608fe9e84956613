import Derived.Test.YtblllibdahkgfaaGreatDoorK25
import Derived.Test.YtblllibdahkgfaaGreatDoorK09

namespace Go.Proofs.YtblllibdahkgfaaGreatDoor
open Go Sx
set_option maxRecDepth 100000
def txtOk (b : UInt8) : Bool := decide (32 ≤ b.toNat) && decide (b.toNat ≤ 126)
theorem all_succ {t : List UInt8} {k : Nat} (g : k < t.length) : (t.take (k + 1)).all txtOk = ((t.take k).all txtOk && txtOk t[k]) := by
  rw [List.take_succ_eq_append_getElem g, List.all_append]; simp
theorem all_bad {t : List UInt8} {k : Nat} (g : k < t.length) (h : txtOk t[k] = false) : t.all txtOk = false := by
  rw [List.all_eq_false]
  exact ⟨t[k], List.getElem_mem g, by rw [h]; simp⟩
theorem encL_below (n : Nat) (x : RLn) : (Ent.one (.cells 88 (encL x))).below n := (SB.bB_ok rfl : SB.below n (.cells 88 (encL x)))
theorem fits_1 {p : Int} {l : List RLn} {x : RLn} (g : p = 1) : fitsR p l x = (x.1.all txtOk && decide (x.1.length ≤ 80)) := by
  rw [fitsR, if_pos g]; rfl
set_option maxHeartbeats 8000000 in
theorem fits1_fn (F : Fz) (p : Int) (l : List RLn) (c : Nat) (x : RLn) (hx : x.1.length < 1000000) (hp : p = 1) :
    Ct Tryz.prog 49 [.va (.int .i64 p), .va (gA 5 1 c l), .agg (encL x)] F [(1, gE 88 5 encL c l)] 2
      (fun o F0 h0 n0 => F = F0 ∧ n0 = 2 ∧ o = .ret (.va (.bool (fitsR p l x))) ∧ h0 = [(1, gE 88 5 encL c l)]) := by
  have fin : ∀ (b : Bool) (a : SA) (h : Hp) (nx : Nat), fitsR p l x = b → atomE (.bool b) a → lget h 0 = some (.frz F) → lget h 1 = some (gE 88 5 encL c l) → a.ren (resP h) = a →
      Cln 2 (fun o F0 h0 n0 => Fz.le F F0 ∧ (F = F0 ∧ n0 = 2 ∧ o = .ret (.va (.bool (fitsR p l x))) ∧ h0 = [(1, gE 88 5 encL c l)])) (.ret (.va a)) h nx := by
    intro b a h nx hb ha h0 h1 hr
    subst hb
    exact clean [] (.ret (.va (.bool (fitsR p l x)))) F [(1, gE 88 5 encL c l)] 2 ⟨Fz.le_refl F, rfl, rfl, rfl, rfl⟩ (by show atomE _ (a.ren (resP h)); rw [hr]; exact ha) rfl rfl trivial ⟨gE_below encL_plain _ _ _ _ _, trivial⟩ ⟨by simp only [entE, aget, Ent.ren]; rw [h0]; exact Fz.le_refl F, by simp only [entE, aget]; rw [h1]; exact sub_gE encL_plain (gE_self _ _ _ _), trivial⟩
  have e1 := fits_1 (l := l) (x := x) hp
  refine ct_of hΘ Tryz.func49 rfl (by decide) _ _ rfl rfl rfl ?_
  conv => whnf
  refine br (fun g => ?_) (fun g => absurd hp (of_decide_eq_false g))
  · clear g
    conv => whnf
    refine loop_at hΘ (X := { k : Nat // k ≤ x.1.length ∧ (x.1.take k).all txtOk = true }) (fun k => [(7, .va (.int .i64 k.1))]) [6, 12, 13, 14, 15, 16, 17, 18, 19, 20, 21, 22, 23, 24, 25, 26, 27, 28, 29, 30]
      (fun _ => [(0, .frz F), (1, gE 88 5 encL c l), (2, .one (.cells 88 (encL x)))]) 3 (fun k => x.1.length - k.1) ⟨0, by simp⟩
      (fun hH hT => leI [] hH hT rfl ⟨trivial, gE_below encL_plain _ _ _ _ _, encL_below _ _, trivial⟩ ⟨rfl, trivial⟩ ⟨Fz.le_refl F, sub_gE encL_plain (gE_self _ _ _ _), rfl, trivial⟩) ?_
    rintro ⟨k, hk, hall⟩ hH hT
    replace hk : k ≤ x.1.length := hk
    replace hall : (x.1.take k).all txtOk = true := hall
    conv => whnf
    refine br (fun gb => ?_) (fun gb => ?_)
    · have gk : k < x.1.length := by
        have h0 : (k : Int) < (x.1.length : Int) := of_decide_eq_true gb
        omega
      clear gb
      have hs := all_succ gk
      rw [hall, Bool.true_and] at hs
      have hbad : txtOk x.1[k] = false → fitsR p l x = false := fun h => by rw [e1, all_bad gk h]; rfl
      have hlt := x.1[k].toNat_lt
      conv => whnf
      refine ⟨by dsimp only; omega, x.1[k], by dsimp only; rw [Int.toNat_natCast, List.getElem?_eq_getElem gk], ?_⟩
      conv => whnf
      refine ⟨fun ga => ?_, fun ga => ?_⟩
      · have g32 : ¬ x.1[k].toNat < 32 := by
          have h0 : ¬ (x.1[k].toNat : Int) < 32 := of_decide_eq_false ga
          omega
        clear ga
        conv => whnf
        refine ⟨by dsimp only; omega, x.1[k], by dsimp only; rw [Int.toNat_natCast, List.getElem?_eq_getElem gk], ?_⟩
        conv => whnf
        refine br (fun gc => ?_) (fun gc => ?_)
        · have g126 : 126 < x.1[k].toNat := by
            have h0 : (126 : Int) < x.1[k].toNat := of_decide_eq_true gc
            omega
          have e := hbad (by rw [txtOk, decide_eq_false (show ¬ x.1[k].toNat ≤ 126 by omega), Bool.and_false])
          conv => whnf
          exact fin _ _ _ _ e rfl rfl rfl rfl
        · have g126 : ¬ 126 < x.1[k].toNat := by
            have h0 : ¬ (126 : Int) < x.1[k].toNat := of_decide_eq_false gc
            omega
          have hok : txtOk x.1[k] = true := by rw [txtOk, decide_eq_true (show 32 ≤ x.1[k].toNat by omega), decide_eq_true (show x.1[k].toNat ≤ 126 by omega)]; rfl
          rw [hok] at hs
          clear gc hbad
          conv => whnf
          exact ⟨⟨k + 1, by show k + 1 ≤ x.1.length; omega, hs⟩, by show x.1.length - (k + 1) < x.1.length - k; omega, leR [] hH hT rfl ⟨trivial, gE_below encL_plain _ _ _ _ _, encL_below _ _, trivial⟩ ⟨cnt (by omega), trivial⟩ ⟨Fz.le_refl F, sub_gE encL_plain (gE_self _ _ _ _), rfl, trivial⟩⟩
      · have g32 : x.1[k].toNat < 32 := by
          have h0 : (x.1[k].toNat : Int) < 32 := of_decide_eq_true ga
          omega
        have e := hbad (by rw [txtOk, decide_eq_false (show ¬ 32 ≤ x.1[k].toNat by omega), Bool.false_and])
        conv => whnf
        exact fin _ _ _ _ e rfl rfl rfl rfl
    · have gk : ¬ k < x.1.length := by
        have h0 : ¬ (k : Int) < (x.1.length : Int) := of_decide_eq_false gb
        omega
      clear gb
      rw [List.take_of_length_le (by omega)] at hall
      have e : fitsR p l x = decide ((x.1.length : Int) ≤ 80) := by
        rw [e1, hall, Bool.true_and]
        exact decide_eq_decide.2 (by omega)
      conv => whnf
      exact fin _ _ _ _ e rfl rfl rfl rfl
end Go.Proofs.YtblllibdahkgfaaGreatDoor

namespace Go.Proofs.YtblllibdahkgfaaGreatDoor
open Go Sx
set_option maxRecDepth 100000
end Go.Proofs.YtblllibdahkgfaaGreatDoor

/- Loops of a few rounds, one round at a time. No program is named here. -/
namespace Sx
open Go Go.RowKit
section
variable {P : Program} {Θ : Tys} {st : St} {Q : SE → St → Prop} {body : Code}
/-- At most n rounds more. -/
@[irreducible] def SR (P : Program) (body : Code) (Q : SE → St → Prop) (n : Nat) (st : St) : Prop :=
  ∀ (C : Ctx) (ρ : Rho) (a : Act) (w : World), Den C ρ st a w → Code.rounds P body (Up C Q) n a w
theorem sr_go (hΘ : Θ.Ok P) {n : Nat} (h : sx P Θ body st fun e st' => (match e with
    | .normal => SR P body Q n st'
    | .ret => Q .ret st'
    | .exit id => Q (.exit id) st'
    | .panic v => Q (.panic v) st')) : SR P body Q (n + 1) st := by
  unfold SR
  intro C ρ a w D
  have h1 := sx_sound hΘ body st _ h
  unfold WP at h1
  refine wp_mono (h1 C ρ a w D) ?_
  rintro e a' w' ⟨se, st', ρ', hq, rfl, D'⟩
  cases se with
  | normal =>
    dsimp only at hq
    unfold SR at hq
    exact hq C ρ' a' w' D'
  | ret => exact ⟨.ret, st', ρ', hq, rfl, D'⟩
  | exit id => exact ⟨.exit id, st', ρ', hq, rfl, D'⟩
  | panic v => exact ⟨.panic v, st', ρ', hq, rfl, D'⟩
theorem rounds1 (hΘ : Θ.Ok P) (n : Nat) (h : sx P Θ body st fun e st' => (match e with
    | .normal => SR P body Q n st'
    | .ret => Q .ret st'
    | .exit id => Q (.exit id) st'
    | .panic v => Q (.panic v) st')) : WP P (.loop body) st Q := by
  have h2 := sr_go hΘ h
  unfold SR at h2
  unfold WP
  intro C ρ a w D
  exact wp_loop_rounds (n + 1) (h2 C ρ a w D)
end
end Sx

namespace Go.Proofs.YtblllibdahkgfaaGreatDoor
open Go Sx
set_option maxRecDepth 100000
structure RVal where
  lost : Bool
  lines : List RLn
  w : Int
  h : Int
  bits : List UInt8
def rvalV (v : RVal) (i c : Nat) : SV := .agg [.lit v.lost, gA 5 i c v.lines, .int .i64 v.w, .int .i64 v.h, .str v.bits]
def numsOf (x : RLn) : List Int := [x.2.1, x.2.2.1, x.2.2.2.1, x.2.2.2.2]
def rlineS (p : Int) (x : RLn) : List UInt8 := (if p = 1 then (putSR x.1).1 else []) ++ (((numsOf x).take (colN p)).map fun n => (putIR n).1).flatten
def rwriteS (p : Int) (v : RVal) : List UInt8 :=
  if v.lost = true then [] else
  if 6 ≤ p then (putIR v.w).1 ++ (putIR v.h).1 ++ (if p = 7 then (putSR v.bits).1 else [])
  else (putIR v.lines.length).1 ++ (v.lines.map (rlineS p)).flatten
set_option maxHeartbeats 8000000 in
theorem rwrite6_fn (F : Fz) (p : Int) (v : RVal) (c : Nat) (hp : 6 ≤ p) (hvb : v.bits.length ≤ 9000000000000000000) :
    Ct Tryz.prog 32 [.va (.int .i64 p), rvalV v 1 c] F [(1, gE 88 5 encL c v.lines)] 2
      (fun o F0 h0 n0 => Fz.le F F0 ∧ n0 = 2 ∧ o = .ret (.va (.str (rwriteS p v))) ∧ h0 = [(1, gE 88 5 encL c v.lines)]) := by
  have fin : ∀ (t : List UInt8) (F1 : Fz) (h : Hp) (nx : Nat), rwriteS p v = t → Fz.le F F1 → lget h 0 = some (.frz F1) → lget h 1 = some (gE 88 5 encL c v.lines) →
      Cln 2 (fun o F0 h0 n0 => Fz.le F F0 ∧ (Fz.le F F0 ∧ n0 = 2 ∧ o = .ret (.va (.str (rwriteS p v))) ∧ h0 = [(1, gE 88 5 encL c v.lines)])) (.ret (.va (.str t))) h nx := by
    intro t F1 h nx hb hle h0 h1
    subst hb
    exact clean [] (.ret (.va (.str (rwriteS p v)))) F1 [(1, gE 88 5 encL c v.lines)] 2 ⟨hle, hle, rfl, rfl, rfl⟩ (outE_refl _) rfl rfl trivial ⟨gE_below encL_plain _ _ _ _ _, trivial⟩ ⟨by simp only [entE, aget, Ent.ren]; rw [h0]; exact Fz.le_refl F1, by simp only [entE, aget]; rw [h1]; exact sub_gE encL_plain (gE_self _ _ _ _), trivial⟩
  obtain ⟨lost, lines, w, h, bits⟩ := v
  rcases lost with _ | _
  · refine ct_of hΘ Tryz.func32 rfl (by decide) _ _ rfl rfl rfl ?_
    conv => whnf
    refine br (fun g => ?_) (fun g => absurd hp (of_decide_eq_false g))
    · clear g
      have lb := putSR_len bits
      have pb := rputString_fn F bits hvb
      have lw := putIR_len w
      have lh := putIR_len h
      have pw := rputInt_fn F w
      have ph := rputInt_fn F h
      conv => whnf
      refine rounds hΘ 3 ?_
      conv => whnf
      refine br (fun _ => ?_) (fun g => absurd g (by decide))
      conv => whnf
      refine ⟨rfl, by decide, ?_⟩
      conv => whnf
      refine ⟨_, rfl, ?_⟩
      conv => whnf
      refine usePu pw rfl ⟨rfl, trivial⟩ rfl ?_
      conv => whnf
      refine ⟨by show 0 + (putIR w).1.length ≤ 9223372036854775807; omega, ?_⟩
      conv => whnf
      refine br (fun _ => ?_) (fun g => absurd g (by decide))
      conv => whnf
      refine ⟨rfl, by decide, ?_⟩
      conv => whnf
      refine ⟨_, rfl, ?_⟩
      conv => whnf
      refine usePu ph rfl ⟨rfl, trivial⟩ rfl ?_
      conv => whnf
      refine ⟨by show ([] ++ (putIR w).1).length + (putIR h).1.length ≤ 9223372036854775807; rw [List.nil_append]; omega, ?_⟩
      conv => whnf
      refine br (fun g => absurd g (by decide)) (fun _ => ?_)
      conv => whnf
      refine br (fun g => ?_) (fun g => ?_)
      · have g7 : p = 7 := of_decide_eq_true g
        have e : rwriteS p ⟨false, lines, w, h, bits⟩ = [] ++ (putIR w).1 ++ (putIR h).1 ++ (putSR bits).1 := by
          show (if false = true then [] else _) = _
          rw [if_neg (by simp), if_pos hp, if_pos g7, List.nil_append]
        conv => whnf
        refine usePu pb rfl ⟨rfl, trivial⟩ rfl ?_
        conv => whnf
        refine ⟨by show ([] ++ (putIR w).1 ++ (putIR h).1).length + (putSR bits).1.length ≤ 9223372036854775807; rw [List.nil_append, List.length_append]; omega, ?_⟩
        conv => whnf
        exact fin _ F _ _ e (Fz.le_refl F) rfl rfl
      · have g7 : ¬ p = 7 := of_decide_eq_false g
        have e : rwriteS p ⟨false, lines, w, h, bits⟩ = [] ++ (putIR w).1 ++ (putIR h).1 := by
          show (if false = true then [] else _) = _
          rw [if_neg (by simp), if_pos hp, if_neg g7, List.nil_append, List.append_nil]
        conv => whnf
        exact fin _ F _ _ e (Fz.le_refl F) rfl rfl
  · have e : rwriteS p ⟨true, lines, w, h, bits⟩ = [] := rfl
    refine ct_of hΘ Tryz.func32 rfl (by decide) _ _ rfl rfl rfl ?_
    conv => whnf
    exact fin [] F _ _ e (Fz.le_refl F) rfl rfl
end Go.Proofs.YtblllibdahkgfaaGreatDoor
