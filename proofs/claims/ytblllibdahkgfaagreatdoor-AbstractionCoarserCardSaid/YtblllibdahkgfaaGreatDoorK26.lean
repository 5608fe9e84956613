import Derived.Test.YtblllibdahkgfaaGreatDoorK25
import Derived.Test.YtblllibdahkgfaaGreatDoorK09

namespace Go.Proofs.YtblllibdahkgfaaGreatDoor
open Go Sx
set_option maxRecDepth 100000
def txtOk (b : UInt8) : Bool := decide (32 ≤ b.toNat) && decide (b.toNat ≤ 126)
theorem all_succ {t : List UInt8} {k : Nat} (g : k < t.length) : (t.take (k + 1)).all txtOk = ((t.take k).all txtOk && txtOk t[k]) := by
  rw [List.take_succ_eq_append_getElem g, List.all_append]; simp
theorem all_bad {t : List UInt8} {k : Nat} (g : k < t.length) (h : txtOk t[k] = false) : t.all txtOk = false := by
  rw [List.all_eq_false]
  exact ⟨t[k], List.getElem_mem g, by rw [h]; simp⟩
theorem encL_below (n : Nat) (x : RLn) : (Ent.one (.cells 88 (encL x))).below n := (SB.bB_ok rfl : SB.below n (.cells 88 (encL x)))
theorem fits_1 {p : Int} {l : List RLn} {x : RLn} (g : p = 1) : fitsR p l x = (x.1.all txtOk && decide (x.1.length ≤ 80)) := by
  rw [fitsR, if_pos g]; rfl
set_option maxHeartbeats 8000000 in
theorem fits1_fn (F : Fz) (p : Int) (l : List RLn) (c : Nat) (x : RLn) (hx : x.1.length < 1000000) (hp : p = 1) :
    Ct Tryz.prog 49 [.va (.int .i64 p), .va (gA 5 1 c l), .agg (encL x)] F [(1, gE 88 5 encL c l)] 2
      (fun o F0 h0 n0 => F = F0 ∧ n0 = 2 ∧ o = .ret (.va (.bool (fitsR p l x))) ∧ h0 = [(1, gE 88 5 encL c l)]) := by
  have fin : ∀ (b : Bool) (a : SA) (h : Hp) (nx : Nat), fitsR p l x = b → atomE (.bool b) a → lget h 0 = some (.frz F) → lget h 1 = some (gE 88 5 encL c l) → a.ren (resP h) = a →
      Cln 2 (fun o F0 h0 n0 => Fz.le F F0 ∧ (F = F0 ∧ n0 = 2 ∧ o = .ret (.va (.bool (fitsR p l x))) ∧ h0 = [(1, gE 88 5 encL c l)])) (.ret (.va a)) h nx := by
    intro b a h nx hb ha h0 h1 hr
    subst hb
    exact clean [] (.ret (.va (.bool (fitsR p l x)))) F [(1, gE 88 5 encL c l)] 2 ⟨Fz.le_refl F, rfl, rfl, rfl, rfl⟩ (by show atomE _ (a.ren (resP h)); rw [hr]; exact ha) rfl rfl trivial ⟨gE_below encL_plain _ _ _ _ _, trivial⟩ ⟨by simp only [entE, aget, Ent.ren]; rw [h0]; exact Fz.le_refl F, by simp only [entE, aget]; rw [h1]; exact sub_gE encL_plain (gE_self _ _ _ _), trivial⟩
  have e1 := fits_1 (l := l) (x := x) hp
  refine ct_of hΘ Tryz.func49 rfl (by decide) _ _ rfl rfl rfl ?_
  conv => whnf
  refine br (fun g => ?_) (fun g => absurd hp (of_decide_eq_false g))
  · clear g
    conv => whnf
    refine loop_at hΘ (X := { k : Nat // k ≤ x.1.length ∧ (x.1.take k).all txtOk = true }) (fun k => [(7, .va (.int .i64 k.1))]) [6, 12, 13, 14, 15, 16, 17, 18, 19, 20, 21, 22, 23, 24, 25, 26, 27, 28, 29, 30]
      (fun _ => [(0, .frz F), (1, gE 88 5 encL c l), (2, .one (.cells 88 (encL x)))]) 3 (fun k => x.1.length - k.1) ⟨0, by simp⟩
      (fun hH hT => leI [] hH hT rfl ⟨trivial, gE_below encL_plain _ _ _ _ _, encL_below _ _, trivial⟩ ⟨rfl, trivial⟩ ⟨Fz.le_refl F, sub_gE encL_plain (gE_self _ _ _ _), rfl, trivial⟩) ?_
    rintro ⟨k, hk, hall⟩ hH hT
    replace hk : k ≤ x.1.length := hk
    replace hall : (x.1.take k).all txtOk = true := hall
    conv => whnf
    refine br (fun gb => ?_) (fun gb => ?_)
    · have gk : k < x.1.length := by
        have h0 : (k : Int) < (x.1.length : Int) := of_decide_eq_true gb
        omega
      clear gb
      have hs := all_succ gk
      rw [hall, Bool.true_and] at hs
      have hbad : txtOk x.1[k] = false → fitsR p l x = false := fun h => by rw [e1, all_bad gk h]; rfl
      have hlt := x.1[k].toNat_lt
      conv => whnf
      refine ⟨by dsimp only; omega, x.1[k], by dsimp only; rw [Int.toNat_natCast, List.getElem?_eq_getElem gk], ?_⟩
      conv => whnf
      refine ⟨fun ga => ?_, fun ga => ?_⟩
      · have g32 : ¬ x.1[k].toNat < 32 := by
          have h0 : ¬ (x.1[k].toNat : Int) < 32 := of_decide_eq_false ga
          omega
        clear ga
        conv => whnf
        refine ⟨by dsimp only; omega, x.1[k], by dsimp only; rw [Int.toNat_natCast, List.getElem?_eq_getElem gk], ?_⟩
        conv => whnf
        refine br (fun gc => ?_) (fun gc => ?_)
        · have g126 : 126 < x.1[k].toNat := by
            have h0 : (126 : Int) < x.1[k].toNat := of_decide_eq_true gc
            omega
          have e := hbad (by rw [txtOk, decide_eq_false (show ¬ x.1[k].toNat ≤ 126 by omega), Bool.and_false])
          conv => whnf
          exact fin _ _ _ _ e rfl rfl rfl rfl
        · have g126 : ¬ 126 < x.1[k].toNat := by
            have h0 : ¬ (126 : Int) < x.1[k].toNat := of_decide_eq_false gc
            omega
          have hok : txtOk x.1[k] = true := by rw [txtOk, decide_eq_true (show 32 ≤ x.1[k].toNat by omega), decide_eq_true (show x.1[k].toNat ≤ 126 by omega)]; rfl
          rw [hok] at hs
          clear gc hbad
          conv => whnf
          exact ⟨⟨k + 1, by show k + 1 ≤ x.1.length; omega, hs⟩, by show x.1.length - (k + 1) < x.1.length - k; omega, leR [] hH hT rfl ⟨trivial, gE_below encL_plain _ _ _ _ _, encL_below _ _, trivial⟩ ⟨cnt (by omega), trivial⟩ ⟨Fz.le_refl F, sub_gE encL_plain (gE_self _ _ _ _), rfl, trivial⟩⟩
      · have g32 : x.1[k].toNat < 32 := by
          have h0 : (x.1[k].toNat : Int) < 32 := of_decide_eq_true ga
          omega
        have e := hbad (by rw [txtOk, decide_eq_false (show ¬ 32 ≤ x.1[k].toNat by omega), Bool.false_and])
        conv => whnf
        exact fin _ _ _ _ e rfl rfl rfl rfl
    · have gk : ¬ k < x.1.length := by
        have h0 : ¬ (k : Int) < (x.1.length : Int) := of_decide_eq_false gb
        omega
      clear gb
      rw [List.take_of_length_le (by omega)] at hall
      have e : fitsR p l x = decide ((x.1.length : Int) ≤ 80) := by
        rw [e1, hall, Bool.true_and]
        exact decide_eq_decide.2 (by omega)
      conv => whnf
      exact fin _ _ _ _ e rfl rfl rfl rfl
end Go.Proofs.YtblllibdahkgfaaGreatDoor

namespace Go.Proofs.YtblllibdahkgfaaGreatDoor
open Go Sx
set_option maxRecDepth 100000
end Go.Proofs.YtblllibdahkgfaaGreatDoor

namespace Sx
open Go Go.RowKit
section
variable {P : Program} {Θ : Tys} {st : St} {Q : SE → St → Prop} {body : Code}
@[irreducible] def SR (P : Program) (body : Code) (Q : SE → St → Prop) (n : Nat) (st : St) : Prop :=
  ∀ (C : Ctx) (ρ : Rho) (a : Act) (w : World), Den C ρ st a w → Code.rounds P body (Up C Q) n a w
theorem sr_go (hΘ : Θ.Ok P) {n : Nat} (h : sx P Θ body st fun e st' => (match e with
    | .normal => SR P body Q n st'
    | .ret => Q .ret st'
    | .exit id => Q (.exit id) st'
    | .panic v => Q (.panic v) st')) : SR P body Q (n + 1) st := by
  unfold SR
  intro C ρ a w D
  have h1 := sx_sound hΘ body st _ h
  unfold WP at h1
  refine wp_mono (h1 C ρ a w D) ?_
  rintro e a' w' ⟨se, st', ρ', hq, rfl, D'⟩
  cases se with
  | normal =>
    dsimp only at hq
    unfold SR at hq
    exact hq C ρ' a' w' D'
  | ret => exact ⟨.ret, st', ρ', hq, rfl, D'⟩
  | exit id => exact ⟨.exit id, st', ρ', hq, rfl, D'⟩
  | panic v => exact ⟨.panic v, st', ρ', hq, rfl, D'⟩
theorem rounds1 (hΘ : Θ.Ok P) (n : Nat) (h : sx P Θ body st fun e st' => (match e with
    | .normal => SR P body Q n st'
    | .ret => Q .ret st'
    | .exit id => Q (.exit id) st'
    | .panic v => Q (.panic v) st')) : WP P (.loop body) st Q := by
  have h2 := sr_go hΘ h
  unfold SR at h2
  unfold WP
  intro C ρ a w D
  exact wp_loop_rounds (n + 1) (h2 C ρ a w D)
end
end Sx

namespace Go.Proofs.YtblllibdahkgfaaGreatDoor
open Go Sx
set_option maxRecDepth 100000
structure RVal where
  lost : Bool
  lines : List RLn
  w : Int
  h : Int
  bits : List UInt8
def rvalV (v : RVal) (i c : Nat) : SV := .agg [.lit v.lost, gA 5 i c v.lines, .int .i64 v.w, .int .i64 v.h, .str v.bits]
def numsOf (x : RLn) : List Int := [x.2.1, x.2.2.1, x.2.2.2.1, x.2.2.2.2]
def rlineS (p : Int) (x : RLn) : List UInt8 := (if p = 1 then (putSR x.1).1 else []) ++ (((numsOf x).take (colN p)).map fun n => (putIR n).1).flatten
def rwriteS (p : Int) (v : RVal) : List UInt8 :=
  if v.lost = true then [] else
  if 6 ≤ p then (putIR v.w).1 ++ (putIR v.h).1 ++ (if p = 7 then (putSR v.bits).1 else [])
  else (putIR v.lines.length).1 ++ (v.lines.map (rlineS p)).flatten
set_option maxHeartbeats 8000000 in
theorem rwrite6_fn (F : Fz) (p : Int) (v : RVal) (c : Nat) (hp : 6 ≤ p) (hvb : v.bits.length ≤ 9000000000000000000) :
    Ct Tryz.prog 32 [.va (.int .i64 p), rvalV v 1 c] F [(1, gE 88 5 encL c v.lines)] 2
      (fun o F0 h0 n0 => Fz.le F F0 ∧ n0 = 2 ∧ o = .ret (.va (.str (rwriteS p v))) ∧ h0 = [(1, gE 88 5 encL c v.lines)]) := by
  have fin : ∀ (t : List UInt8) (F1 : Fz) (h : Hp) (nx : Nat), rwriteS p v = t → Fz.le F F1 → lget h 0 = some (.frz F1) → lget h 1 = some (gE 88 5 encL c v.lines) →
      Cln 2 (fun o F0 h0 n0 => Fz.le F F0 ∧ (Fz.le F F0 ∧ n0 = 2 ∧ o = .ret (.va (.str (rwriteS p v))) ∧ h0 = [(1, gE 88 5 encL c v.lines)])) (.ret (.va (.str t))) h nx := by
    intro t F1 h nx hb hle h0 h1
    subst hb
    exact clean [] (.ret (.va (.str (rwriteS p v)))) F1 [(1, gE 88 5 encL c v.lines)] 2 ⟨hle, hle, rfl, rfl, rfl⟩ (outE_refl _) rfl rfl trivial ⟨gE_below encL_plain _ _ _ _ _, trivial⟩ ⟨by simp only [entE, aget, Ent.ren]; rw [h0]; exact Fz.le_refl F1, by simp only [entE, aget]; rw [h1]; exact sub_gE encL_plain (gE_self _ _ _ _), trivial⟩
  obtain ⟨lost, lines, w, h, bits⟩ := v
  rcases lost with _ | _
  · refine ct_of hΘ Tryz.func32 rfl (by decide) _ _ rfl rfl rfl ?_
    conv => whnf
    refine br (fun g => ?_) (fun g => absurd hp (of_decide_eq_false g))
    · clear g
      have lb := putSR_len bits
      have pb := rputString_fn F bits hvb
      have lw := putIR_len w
      have lh := putIR_len h
      have pw := rputInt_fn F w
      have ph := rputInt_fn F h
      conv => whnf
      refine rounds hΘ 3 ?_
      conv => whnf
      refine br (fun _ => ?_) (fun g => absurd g (by decide))
      conv => whnf
      refine ⟨rfl, by decide, ?_⟩
      conv => whnf
      refine ⟨_, rfl, ?_⟩
      conv => whnf
      refine usePu pw rfl ⟨rfl, trivial⟩ rfl ?_
      conv => whnf
      refine ⟨by show 0 + (putIR w).1.length ≤ 9223372036854775807; omega, ?_⟩
      conv => whnf
      refine br (fun _ => ?_) (fun g => absurd g (by decide))
      conv => whnf
      refine ⟨rfl, by decide, ?_⟩
      conv => whnf
      refine ⟨_, rfl, ?_⟩
      conv => whnf
      refine usePu ph rfl ⟨rfl, trivial⟩ rfl ?_
      conv => whnf
      refine ⟨by show ([] ++ (putIR w).1).length + (putIR h).1.length ≤ 9223372036854775807; rw [List.nil_append]; omega, ?_⟩
      conv => whnf
      refine br (fun g => absurd g (by decide)) (fun _ => ?_)
      conv => whnf
      refine br (fun g => ?_) (fun g => ?_)
      · have g7 : p = 7 := of_decide_eq_true g
        have e : rwriteS p ⟨false, lines, w, h, bits⟩ = [] ++ (putIR w).1 ++ (putIR h).1 ++ (putSR bits).1 := by
          show (if false = true then [] else _) = _
          rw [if_neg (by simp), if_pos hp, if_pos g7, List.nil_append]
        conv => whnf
        refine usePu pb rfl ⟨rfl, trivial⟩ rfl ?_
        conv => whnf
        refine ⟨by show ([] ++ (putIR w).1 ++ (putIR h).1).length + (putSR bits).1.length ≤ 9223372036854775807; rw [List.nil_append, List.length_append]; omega, ?_⟩
        conv => whnf
        exact fin _ F _ _ e (Fz.le_refl F) rfl rfl
      · have g7 : ¬ p = 7 := of_decide_eq_false g
        have e : rwriteS p ⟨false, lines, w, h, bits⟩ = [] ++ (putIR w).1 ++ (putIR h).1 := by
          show (if false = true then [] else _) = _
          rw [if_neg (by simp), if_pos hp, if_neg g7, List.nil_append, List.append_nil]
        conv => whnf
        exact fin _ F _ _ e (Fz.le_refl F) rfl rfl
  · have e : rwriteS p ⟨true, lines, w, h, bits⟩ = [] := rfl
    refine ct_of hΘ Tryz.func32 rfl (by decide) _ _ rfl rfl rfl ?_
    conv => whnf
    exact fin [] F _ _ e (Fz.le_refl F) rfl rfl
end Go.Proofs.YtblllibdahkgfaaGreatDoor

namespace Go.Proofs.YtblllibdahkgfaaGreatDoor
open Go Sx
set_option maxRecDepth 100000
theorem rlineS_len (p : Int) (x : RLn) : (rlineS p x).length ≤ 66000 := by
  unfold rlineS
  have h1 := putSR_len x.1
  have h2 := flat_len (f := fun n => (putIR n).1) putIR_len ((numsOf x).take (colN p))
  have h3 : ((numsOf x).take (colN p)).length ≤ 4 := by rw [List.length_take]; show min _ 4 ≤ 4; omega
  rw [List.length_append]
  split
  · omega
  · simp only [List.length_nil]; omega
theorem rwl_step {p : Int} {l : List RLn} {k : Nat} {ob : List UInt8} {x : RLn} (gk : k < l.length) (hx : l[k] = x) (h : ob = (putIR (l.length : Nat)).1 ++ ((l.take k).map (rlineS p)).flatten) : ob ++ rlineS p x = (putIR (l.length : Nat)).1 ++ ((l.take (k + 1)).map (rlineS p)).flatten := by
  rw [map_take_succ gk, hx, h, List.append_assoc]
theorem rwl_len {p : Int} {l : List RLn} {k : Nat} {ob : List UInt8} (hl : l.length ≤ 1000) (h : ob = (putIR (l.length : Nat)).1 ++ ((l.take k).map (rlineS p)).flatten) : ob.length ≤ 100000000 := by
  have h1 := putIR_len (l.length : Nat)
  have h2 := flat_len (rlineS_len p) (l.take k)
  have h3 : (l.take k).length ≤ 1000 := by rw [List.length_take]; omega
  rw [h, List.length_append]; omega
def rvalE (v : RVal) (i c : Nat) : Ent := .one (.cells 57 [.lit v.lost, gA 5 i c v.lines, .int .i64 v.w, .int .i64 v.h, .str v.bits])
theorem rvalE_below {v : RVal} {n i : Nat} (h : i < n) (c : Nat) : (rvalE v i c).below n := by
  show ∀ a ∈ _, SA.below n a
  intro a ha
  simp only [List.mem_cons, List.not_mem_nil, or_false] at ha
  rcases ha with rfl | rfl | rfl | rfl | rfl
  · trivial
  · exact gA2_below h _ _ _
  · trivial
  · trivial
  · trivial
set_option maxHeartbeats 8000000 in
theorem rwriteL1_fn (F : Fz) (L : List RLn) (w h : Int) (bits : List UInt8) (c : Nat) (hne : L ≠ []) (hl : L.length ≤ 1000) (hx : ∀ x ∈ L, x.1.length ≤ 1000000) :
    Ct Tryz.prog 32 [.va (.int .i64 1), rvalV ⟨false, L, w, h, bits⟩ 1 c] F [(1, gE 88 5 encL c L)] 2
      (fun o F0 h0 n0 => Fz.le F F0 ∧ n0 = 2 ∧ o = .ret (.va (.str (rwriteS 1 ⟨false, L, w, h, bits⟩))) ∧ h0 = [(1, gE 88 5 encL c L)]) := by
  have hW : rwriteS 1 ⟨false, L, w, h, bits⟩ = (putIR (L.length : Nat)).1 ++ (L.map (rlineS 1)).flatten := rfl
  have fin : ∀ (t : List UInt8) (F1 : Fz) (hh : Hp) (nx : Nat), rwriteS 1 ⟨false, L, w, h, bits⟩ = t → Fz.le F F1 → lget hh 0 = some (.frz F1) → lget hh 1 = some (gE 88 5 encL c L) →
      Cln 2 (fun o F0 h0 n0 => Fz.le F F0 ∧ (Fz.le F F0 ∧ n0 = 2 ∧ o = .ret (.va (.str (rwriteS 1 ⟨false, L, w, h, bits⟩))) ∧ h0 = [(1, gE 88 5 encL c L)])) (.ret (.va (.str t))) hh nx := by
    intro t F1 hh nx hb hle h0 h1
    rw [hb]
    exact clean [] (.ret (.va (.str t))) F1 [(1, gE 88 5 encL c L)] 2 ⟨hle, hle, rfl, rfl, rfl⟩ (outE_refl _) rfl rfl trivial ⟨gE_below encL_plain _ _ _ _ _, trivial⟩ ⟨by simp only [entE, aget, Ent.ren]; rw [h0]; exact Fz.le_refl F1, by simp only [entE, aget]; rw [h1]; exact sub_gE encL_plain (gE_self _ _ _ _), trivial⟩
  have hp0 := rputInt_fn F (L.length : Nat)
  have hcol := rcols_pu 1 F
  rw [show ((colN 1 : Nat) : Int) = 0 by decide] at hcol
  rcases L with _ | ⟨a0, ar⟩
  · exact absurd rfl hne
  refine ct_of hΘ Tryz.func32 rfl (by decide) _ _ rfl rfl rfl ?_
  conv => whnf
  refine br (fun g => absurd g (by decide)) (fun _ => ?_)
  conv => whnf
  refine usePu hp0 rfl ⟨rfl, trivial⟩ rfl ?_
  conv => whnf
  refine loop_at hΘ (X := { x : Nat × List UInt8 // x.1 ≤ ar.length + 1 ∧ x.2 = (putIR ((a0 :: ar).length : Nat)).1 ++ (((a0 :: ar).take x.1).map (rlineS 1)).flatten }) (fun x => [(5, .va (.str x.1.2)), (12, .va (.int .i64 x.1.1))]) [13, 14, 15, 16, 17, 60, 61, 62, 63, 64, 65, 66, 67, 68, 69, 70, 71, 72, 73, 74, 75, 76, 77, 78, 79, 80, 81, 82, 83, 84, 85, 86, 87, 88, 89, 90, 91, 92, 93, 94, 95, 96, 97, 98, 99, 100, 101, 102]
    (fun _ => [(0, .frz F), (1, gE 88 5 encL c (a0 :: ar)), (2, rvalE ⟨false, a0 :: ar, w, h, bits⟩ 1 c)]) 3 (fun x => ar.length + 1 - x.1.1) ⟨(0, (putIR ((a0 :: ar).length : Nat)).1), by simp⟩
    (fun hH hT => leI [] hH hT rfl ⟨trivial, gE_below encL_plain _ _ _ _ _, rvalE_below (by omega) _, trivial⟩ ⟨rfl, rfl, trivial⟩ ⟨Fz.le_refl F, sub_gE encL_plain (gE_self _ _ _ _), rfl, trivial⟩) ?_
  rintro ⟨⟨k, ob⟩, hk, hob⟩ hH hT
  replace hk : k ≤ ar.length + 1 := hk
  replace hob : ob = (putIR ((a0 :: ar).length : Nat)).1 ++ (((a0 :: ar).take k).map (rlineS 1)).flatten := hob
  have hobl := rwl_len hl hob
  have hfin : k = ar.length + 1 → rwriteS 1 ⟨false, a0 :: ar, w, h, bits⟩ = ob := fun gk => by
    rw [hW, hob, gk, List.take_of_length_le (by simp)]
  by_cases gk : k < ar.length + 1
  · have gl : k < (a0 :: ar).length := gk
    have hex : ∃ x, (a0 :: ar)[k] = x := ⟨_, rfl⟩
    obtain ⟨⟨t, n0, n1, n2, n3⟩, hkx⟩ := hex
    have hcell : ((a0 :: ar).map encL)[0 + (k : Int).toNat]? = some (encL (t, n0, n1, n2, n3)) := by rw [Nat.zero_add, Int.toNat_natCast, List.getElem?_map, List.getElem?_eq_getElem gl, hkx]; rfl
    have hlt : (k : Int) < ((ar.length + 1 : Nat) : Int) := by omega
    have hidx : 0 ≤ (k : Int) ∧ (k : Int) < ((ar.length + 1 : Nat) : Int) := by omega
    have hnext := rwl_step gl hkx hob
    have e0 := putIR_len n0
    have e1 := putIR_len n1
    have e2 := putIR_len n2
    have e3 := putIR_len n3
    have et := putSR_len t
    have ht := hx _ (List.getElem_mem gl)
    rw [hkx] at ht
    replace ht : t.length ≤ 1000000 := ht
    have pt := rputString_fn F t (by omega)
    have p0 := rputInt_fn F n0
    have p1 := rputInt_fn F n1
    have p2 := rputInt_fn F n2
    have p3 := rputInt_fn F n3
    have hk1 : k + 1 ≤ ar.length + 1 := gk
    have hdec : ar.length + 1 - (k + 1) < ar.length + 1 - k := by omega
    have hkm : k < 4611686018427387904 := by
      have h9 : ar.length + 1 ≤ 1000 := hl
      omega
    clear hfin hx hob
    have hnx : ob ++ (putSR t).1 = (putIR ((a0 :: ar).length : Nat)).1 ++ (((a0 :: ar).take (k + 1)).map (rlineS 1)).flatten := by rw [← hnext]; exact congrArg (ob ++ ·) (List.append_nil _).symm
    have hb1 : ob.length + (putSR t).1.length ≤ 9223372036854775807 := by omega
    conv => whnf
    refine br (fun _ => ?_) (fun g => absurd hlt (of_decide_eq_false g))
    conv => whnf
    refine br (fun _ => ?_) (fun g => absurd g (by decide))
    conv => whnf
    refine ⟨rfl, hidx, ?_⟩
    conv => whnf
    refine ⟨rfl, _, hcell, ?_⟩
    conv => whnf
    refine usePu pt rfl ⟨rfl, trivial⟩ rfl ?_
    conv => whnf
    refine ⟨hb1, ?_⟩
    conv => whnf
    refine rounds1 hΘ 0 ?_
    conv => whnf
    refine usePu hcol rfl ⟨rfl, trivial⟩ rfl ?_
    conv => whnf
    refine br (fun g => absurd g (by decide)) (fun _ => ?_)
    conv => whnf
    exact ⟨⟨(k + 1, ob ++ (putSR t).1), hk1, hnx⟩, hdec, leR [] hH hT rfl ⟨trivial, gE_below encL_plain _ _ _ _ _, rvalE_below (by omega) _, trivial⟩ ⟨rfl, cnt hkm, trivial⟩ ⟨Fz.le_refl F, sub_gE encL_plain (gE_self _ _ _ _), rfl, trivial⟩⟩
  · have gk : k = ar.length + 1 := by omega
    have hge : ¬ (k : Int) < ((ar.length + 1 : Nat) : Int) := by omega
    have e := hfin gk
    conv => whnf
    refine br (fun g => absurd (of_decide_eq_true g) hge) (fun _ => ?_)
    conv => whnf
    exact fin _ F _ _ e (Fz.le_refl F) rfl rfl
set_option maxHeartbeats 8000000 in
theorem rwriteL2_fn (F : Fz) (L : List RLn) (w h : Int) (bits : List UInt8) (c : Nat) (hne : L ≠ []) (hl : L.length ≤ 1000) (hx : ∀ x ∈ L, x.1.length ≤ 1000000) :
    Ct Tryz.prog 32 [.va (.int .i64 2), rvalV ⟨false, L, w, h, bits⟩ 1 c] F [(1, gE 88 5 encL c L)] 2
      (fun o F0 h0 n0 => Fz.le F F0 ∧ n0 = 2 ∧ o = .ret (.va (.str (rwriteS 2 ⟨false, L, w, h, bits⟩))) ∧ h0 = [(1, gE 88 5 encL c L)]) := by
  have hW : rwriteS 2 ⟨false, L, w, h, bits⟩ = (putIR (L.length : Nat)).1 ++ (L.map (rlineS 2)).flatten := rfl
  have fin : ∀ (t : List UInt8) (F1 : Fz) (hh : Hp) (nx : Nat), rwriteS 2 ⟨false, L, w, h, bits⟩ = t → Fz.le F F1 → lget hh 0 = some (.frz F1) → lget hh 1 = some (gE 88 5 encL c L) →
      Cln 2 (fun o F0 h0 n0 => Fz.le F F0 ∧ (Fz.le F F0 ∧ n0 = 2 ∧ o = .ret (.va (.str (rwriteS 2 ⟨false, L, w, h, bits⟩))) ∧ h0 = [(1, gE 88 5 encL c L)])) (.ret (.va (.str t))) hh nx := by
    intro t F1 hh nx hb hle h0 h1
    rw [hb]
    exact clean [] (.ret (.va (.str t))) F1 [(1, gE 88 5 encL c L)] 2 ⟨hle, hle, rfl, rfl, rfl⟩ (outE_refl _) rfl rfl trivial ⟨gE_below encL_plain _ _ _ _ _, trivial⟩ ⟨by simp only [entE, aget, Ent.ren]; rw [h0]; exact Fz.le_refl F1, by simp only [entE, aget]; rw [h1]; exact sub_gE encL_plain (gE_self _ _ _ _), trivial⟩
  have hp0 := rputInt_fn F (L.length : Nat)
  have hcol := rcols_pu 2 F
  rw [show ((colN 2 : Nat) : Int) = 1 by decide] at hcol
  rcases L with _ | ⟨a0, ar⟩
  · exact absurd rfl hne
  refine ct_of hΘ Tryz.func32 rfl (by decide) _ _ rfl rfl rfl ?_
  conv => whnf
  refine br (fun g => absurd g (by decide)) (fun _ => ?_)
  conv => whnf
  refine usePu hp0 rfl ⟨rfl, trivial⟩ rfl ?_
  conv => whnf
  refine loop_at hΘ (X := { x : Nat × List UInt8 // x.1 ≤ ar.length + 1 ∧ x.2 = (putIR ((a0 :: ar).length : Nat)).1 ++ (((a0 :: ar).take x.1).map (rlineS 2)).flatten }) (fun x => [(5, .va (.str x.1.2)), (12, .va (.int .i64 x.1.1))]) [13, 14, 15, 16, 17, 60, 61, 62, 63, 64, 65, 66, 67, 68, 69, 70, 71, 72, 73, 74, 75, 76, 77, 78, 79, 80, 81, 82, 83, 84, 85, 86, 87, 88, 89, 90, 91, 92, 93, 94, 95, 96, 97, 98, 99, 100, 101, 102]
    (fun _ => [(0, .frz F), (1, gE 88 5 encL c (a0 :: ar)), (2, rvalE ⟨false, a0 :: ar, w, h, bits⟩ 1 c)]) 3 (fun x => ar.length + 1 - x.1.1) ⟨(0, (putIR ((a0 :: ar).length : Nat)).1), by simp⟩
    (fun hH hT => leI [] hH hT rfl ⟨trivial, gE_below encL_plain _ _ _ _ _, rvalE_below (by omega) _, trivial⟩ ⟨rfl, rfl, trivial⟩ ⟨Fz.le_refl F, sub_gE encL_plain (gE_self _ _ _ _), rfl, trivial⟩) ?_
  rintro ⟨⟨k, ob⟩, hk, hob⟩ hH hT
  replace hk : k ≤ ar.length + 1 := hk
  replace hob : ob = (putIR ((a0 :: ar).length : Nat)).1 ++ (((a0 :: ar).take k).map (rlineS 2)).flatten := hob
  have hobl := rwl_len hl hob
  have hfin : k = ar.length + 1 → rwriteS 2 ⟨false, a0 :: ar, w, h, bits⟩ = ob := fun gk => by
    rw [hW, hob, gk, List.take_of_length_le (by simp)]
  by_cases gk : k < ar.length + 1
  · have gl : k < (a0 :: ar).length := gk
    have hex : ∃ x, (a0 :: ar)[k] = x := ⟨_, rfl⟩
    obtain ⟨⟨t, n0, n1, n2, n3⟩, hkx⟩ := hex
    have hcell : ((a0 :: ar).map encL)[0 + (k : Int).toNat]? = some (encL (t, n0, n1, n2, n3)) := by rw [Nat.zero_add, Int.toNat_natCast, List.getElem?_map, List.getElem?_eq_getElem gl, hkx]; rfl
    have hlt : (k : Int) < ((ar.length + 1 : Nat) : Int) := by omega
    have hidx : 0 ≤ (k : Int) ∧ (k : Int) < ((ar.length + 1 : Nat) : Int) := by omega
    have hnext := rwl_step gl hkx hob
    have e0 := putIR_len n0
    have e1 := putIR_len n1
    have e2 := putIR_len n2
    have e3 := putIR_len n3
    have et := putSR_len t
    have ht := hx _ (List.getElem_mem gl)
    rw [hkx] at ht
    replace ht : t.length ≤ 1000000 := ht
    have pt := rputString_fn F t (by omega)
    have p0 := rputInt_fn F n0
    have p1 := rputInt_fn F n1
    have p2 := rputInt_fn F n2
    have p3 := rputInt_fn F n3
    have hk1 : k + 1 ≤ ar.length + 1 := gk
    have hdec : ar.length + 1 - (k + 1) < ar.length + 1 - k := by omega
    have hkm : k < 4611686018427387904 := by
      have h9 : ar.length + 1 ≤ 1000 := hl
      omega
    clear hfin hx hob
    have hb0 : (ob).length + (putIR n0).1.length ≤ 9223372036854775807 := by (try simp only [List.length_append]); omega
    have hnx : ob ++ (putIR n0).1 = (putIR ((a0 :: ar).length : Nat)).1 ++ (((a0 :: ar).take (k + 1)).map (rlineS 2)).flatten := by
      rw [← hnext, show rlineS 2 (t, n0, n1, n2, n3) = [(putIR n0).1].flatten from rfl]
      simp only [List.flatten_cons, List.flatten_nil, List.append_nil, List.append_assoc]
    conv => whnf
    refine br (fun _ => ?_) (fun g => absurd hlt (of_decide_eq_false g))
    conv => whnf
    refine br (fun g => absurd g (by decide)) (fun _ => ?_)
    conv => whnf
    refine rounds1 hΘ 1 ?_
    conv => whnf
    refine usePu hcol rfl ⟨rfl, trivial⟩ rfl ?_
    conv => whnf
    refine br (fun _ => ?_) (fun g => absurd g (by decide))
    conv => whnf
    refine ⟨rfl, hidx, ?_⟩
    conv => whnf
    refine ⟨by decide, ?_⟩
    conv => whnf
    refine ⟨rfl, _, hcell, ?_⟩
    conv => whnf
    refine usePu p0 rfl ⟨rfl, trivial⟩ rfl ?_
    conv => whnf
    refine ⟨hb0, ?_⟩
    conv => whnf
    refine sr_go hΘ ?_
    conv => whnf
    refine usePu hcol rfl ⟨rfl, trivial⟩ rfl ?_
    conv => whnf
    refine br (fun g => absurd g (by decide)) (fun _ => ?_)
    conv => whnf
    exact ⟨⟨(k + 1, ob ++ (putIR n0).1), hk1, hnx⟩, hdec, leR [] hH hT rfl ⟨trivial, gE_below encL_plain _ _ _ _ _, rvalE_below (by omega) _, trivial⟩ ⟨rfl, cnt hkm, trivial⟩ ⟨Fz.le_refl F, sub_gE encL_plain (gE_self _ _ _ _), rfl, trivial⟩⟩
  · have gk : k = ar.length + 1 := by omega
    have hge : ¬ (k : Int) < ((ar.length + 1 : Nat) : Int) := by omega
    have e := hfin gk
    conv => whnf
    refine br (fun g => absurd (of_decide_eq_true g) hge) (fun _ => ?_)
    conv => whnf
    exact fin _ F _ _ e (Fz.le_refl F) rfl rfl
set_option maxHeartbeats 8000000 in
theorem rwriteL3_fn (F : Fz) (L : List RLn) (w h : Int) (bits : List UInt8) (c : Nat) (hne : L ≠ []) (hl : L.length ≤ 1000) (hx : ∀ x ∈ L, x.1.length ≤ 1000000) :
    Ct Tryz.prog 32 [.va (.int .i64 3), rvalV ⟨false, L, w, h, bits⟩ 1 c] F [(1, gE 88 5 encL c L)] 2
      (fun o F0 h0 n0 => Fz.le F F0 ∧ n0 = 2 ∧ o = .ret (.va (.str (rwriteS 3 ⟨false, L, w, h, bits⟩))) ∧ h0 = [(1, gE 88 5 encL c L)]) := by
  have hW : rwriteS 3 ⟨false, L, w, h, bits⟩ = (putIR (L.length : Nat)).1 ++ (L.map (rlineS 3)).flatten := rfl
  have fin : ∀ (t : List UInt8) (F1 : Fz) (hh : Hp) (nx : Nat), rwriteS 3 ⟨false, L, w, h, bits⟩ = t → Fz.le F F1 → lget hh 0 = some (.frz F1) → lget hh 1 = some (gE 88 5 encL c L) →
      Cln 2 (fun o F0 h0 n0 => Fz.le F F0 ∧ (Fz.le F F0 ∧ n0 = 2 ∧ o = .ret (.va (.str (rwriteS 3 ⟨false, L, w, h, bits⟩))) ∧ h0 = [(1, gE 88 5 encL c L)])) (.ret (.va (.str t))) hh nx := by
    intro t F1 hh nx hb hle h0 h1
    rw [hb]
    exact clean [] (.ret (.va (.str t))) F1 [(1, gE 88 5 encL c L)] 2 ⟨hle, hle, rfl, rfl, rfl⟩ (outE_refl _) rfl rfl trivial ⟨gE_below encL_plain _ _ _ _ _, trivial⟩ ⟨by simp only [entE, aget, Ent.ren]; rw [h0]; exact Fz.le_refl F1, by simp only [entE, aget]; rw [h1]; exact sub_gE encL_plain (gE_self _ _ _ _), trivial⟩
  have hp0 := rputInt_fn F (L.length : Nat)
  have hcol := rcols_pu 3 F
  rw [show ((colN 3 : Nat) : Int) = 3 by decide] at hcol
  rcases L with _ | ⟨a0, ar⟩
  · exact absurd rfl hne
  refine ct_of hΘ Tryz.func32 rfl (by decide) _ _ rfl rfl rfl ?_
  conv => whnf
  refine br (fun g => absurd g (by decide)) (fun _ => ?_)
  conv => whnf
  refine usePu hp0 rfl ⟨rfl, trivial⟩ rfl ?_
  conv => whnf
  refine loop_at hΘ (X := { x : Nat × List UInt8 // x.1 ≤ ar.length + 1 ∧ x.2 = (putIR ((a0 :: ar).length : Nat)).1 ++ (((a0 :: ar).take x.1).map (rlineS 3)).flatten }) (fun x => [(5, .va (.str x.1.2)), (12, .va (.int .i64 x.1.1))]) [13, 14, 15, 16, 17, 60, 61, 62, 63, 64, 65, 66, 67, 68, 69, 70, 71, 72, 73, 74, 75, 76, 77, 78, 79, 80, 81, 82, 83, 84, 85, 86, 87, 88, 89, 90, 91, 92, 93, 94, 95, 96, 97, 98, 99, 100, 101, 102]
    (fun _ => [(0, .frz F), (1, gE 88 5 encL c (a0 :: ar)), (2, rvalE ⟨false, a0 :: ar, w, h, bits⟩ 1 c)]) 3 (fun x => ar.length + 1 - x.1.1) ⟨(0, (putIR ((a0 :: ar).length : Nat)).1), by simp⟩
    (fun hH hT => leI [] hH hT rfl ⟨trivial, gE_below encL_plain _ _ _ _ _, rvalE_below (by omega) _, trivial⟩ ⟨rfl, rfl, trivial⟩ ⟨Fz.le_refl F, sub_gE encL_plain (gE_self _ _ _ _), rfl, trivial⟩) ?_
  rintro ⟨⟨k, ob⟩, hk, hob⟩ hH hT
  replace hk : k ≤ ar.length + 1 := hk
  replace hob : ob = (putIR ((a0 :: ar).length : Nat)).1 ++ (((a0 :: ar).take k).map (rlineS 3)).flatten := hob
  have hobl := rwl_len hl hob
  have hfin : k = ar.length + 1 → rwriteS 3 ⟨false, a0 :: ar, w, h, bits⟩ = ob := fun gk => by
    rw [hW, hob, gk, List.take_of_length_le (by simp)]
  by_cases gk : k < ar.length + 1
  · have gl : k < (a0 :: ar).length := gk
    have hex : ∃ x, (a0 :: ar)[k] = x := ⟨_, rfl⟩
    obtain ⟨⟨t, n0, n1, n2, n3⟩, hkx⟩ := hex
    have hcell : ((a0 :: ar).map encL)[0 + (k : Int).toNat]? = some (encL (t, n0, n1, n2, n3)) := by rw [Nat.zero_add, Int.toNat_natCast, List.getElem?_map, List.getElem?_eq_getElem gl, hkx]; rfl
    have hlt : (k : Int) < ((ar.length + 1 : Nat) : Int) := by omega
    have hidx : 0 ≤ (k : Int) ∧ (k : Int) < ((ar.length + 1 : Nat) : Int) := by omega
    have hnext := rwl_step gl hkx hob
    have e0 := putIR_len n0
    have e1 := putIR_len n1
    have e2 := putIR_len n2
    have e3 := putIR_len n3
    have et := putSR_len t
    have ht := hx _ (List.getElem_mem gl)
    rw [hkx] at ht
    replace ht : t.length ≤ 1000000 := ht
    have pt := rputString_fn F t (by omega)
    have p0 := rputInt_fn F n0
    have p1 := rputInt_fn F n1
    have p2 := rputInt_fn F n2
    have p3 := rputInt_fn F n3
    have hk1 : k + 1 ≤ ar.length + 1 := gk
    have hdec : ar.length + 1 - (k + 1) < ar.length + 1 - k := by omega
    have hkm : k < 4611686018427387904 := by
      have h9 : ar.length + 1 ≤ 1000 := hl
      omega
    clear hfin hx hob
    have hb0 : (ob).length + (putIR n0).1.length ≤ 9223372036854775807 := by (try simp only [List.length_append]); omega
    have hb1 : (ob ++ (putIR n0).1).length + (putIR n1).1.length ≤ 9223372036854775807 := by (try simp only [List.length_append]); omega
    have hb2 : (ob ++ (putIR n0).1 ++ (putIR n1).1).length + (putIR n2).1.length ≤ 9223372036854775807 := by (try simp only [List.length_append]); omega
    have hnx : ob ++ (putIR n0).1 ++ (putIR n1).1 ++ (putIR n2).1 = (putIR ((a0 :: ar).length : Nat)).1 ++ (((a0 :: ar).take (k + 1)).map (rlineS 3)).flatten := by
      rw [← hnext, show rlineS 3 (t, n0, n1, n2, n3) = [(putIR n0).1, (putIR n1).1, (putIR n2).1].flatten from rfl]
      simp only [List.flatten_cons, List.flatten_nil, List.append_nil, List.append_assoc]
    conv => whnf
    refine br (fun _ => ?_) (fun g => absurd hlt (of_decide_eq_false g))
    conv => whnf
    refine br (fun g => absurd g (by decide)) (fun _ => ?_)
    conv => whnf
    refine rounds1 hΘ 3 ?_
    conv => whnf
    refine usePu hcol rfl ⟨rfl, trivial⟩ rfl ?_
    conv => whnf
    refine br (fun _ => ?_) (fun g => absurd g (by decide))
    conv => whnf
    refine ⟨rfl, hidx, ?_⟩
    conv => whnf
    refine ⟨by decide, ?_⟩
    conv => whnf
    refine ⟨rfl, _, hcell, ?_⟩
    conv => whnf
    refine usePu p0 rfl ⟨rfl, trivial⟩ rfl ?_
    conv => whnf
    refine ⟨hb0, ?_⟩
    conv => whnf
    refine sr_go hΘ ?_
    conv => whnf
    refine usePu hcol rfl ⟨rfl, trivial⟩ rfl ?_
    conv => whnf
    refine br (fun _ => ?_) (fun g => absurd g (by decide))
    conv => whnf
    refine ⟨rfl, hidx, ?_⟩
    conv => whnf
    refine ⟨by decide, ?_⟩
    conv => whnf
    refine ⟨rfl, _, hcell, ?_⟩
    conv => whnf
    refine usePu p1 rfl ⟨rfl, trivial⟩ rfl ?_
    conv => whnf
    refine ⟨hb1, ?_⟩
    conv => whnf
    refine sr_go hΘ ?_
    conv => whnf
    refine usePu hcol rfl ⟨rfl, trivial⟩ rfl ?_
    conv => whnf
    refine br (fun _ => ?_) (fun g => absurd g (by decide))
    conv => whnf
    refine ⟨rfl, hidx, ?_⟩
    conv => whnf
    refine ⟨by decide, ?_⟩
    conv => whnf
    refine ⟨rfl, _, hcell, ?_⟩
    conv => whnf
    refine usePu p2 rfl ⟨rfl, trivial⟩ rfl ?_
    conv => whnf
    refine ⟨hb2, ?_⟩
    conv => whnf
    refine sr_go hΘ ?_
    conv => whnf
    refine usePu hcol rfl ⟨rfl, trivial⟩ rfl ?_
    conv => whnf
    refine br (fun g => absurd g (by decide)) (fun _ => ?_)
    conv => whnf
    exact ⟨⟨(k + 1, ob ++ (putIR n0).1 ++ (putIR n1).1 ++ (putIR n2).1), hk1, hnx⟩, hdec, leR [] hH hT rfl ⟨trivial, gE_below encL_plain _ _ _ _ _, rvalE_below (by omega) _, trivial⟩ ⟨rfl, cnt hkm, trivial⟩ ⟨Fz.le_refl F, sub_gE encL_plain (gE_self _ _ _ _), rfl, trivial⟩⟩
  · have gk : k = ar.length + 1 := by omega
    have hge : ¬ (k : Int) < ((ar.length + 1 : Nat) : Int) := by omega
    have e := hfin gk
    conv => whnf
    refine br (fun g => absurd (of_decide_eq_true g) hge) (fun _ => ?_)
    conv => whnf
    exact fin _ F _ _ e (Fz.le_refl F) rfl rfl
set_option maxHeartbeats 8000000 in
theorem rwriteL4_fn (F : Fz) (L : List RLn) (w h : Int) (bits : List UInt8) (c : Nat) (hne : L ≠ []) (hl : L.length ≤ 1000) (hx : ∀ x ∈ L, x.1.length ≤ 1000000) :
    Ct Tryz.prog 32 [.va (.int .i64 4), rvalV ⟨false, L, w, h, bits⟩ 1 c] F [(1, gE 88 5 encL c L)] 2
      (fun o F0 h0 n0 => Fz.le F F0 ∧ n0 = 2 ∧ o = .ret (.va (.str (rwriteS 4 ⟨false, L, w, h, bits⟩))) ∧ h0 = [(1, gE 88 5 encL c L)]) := by
  have hW : rwriteS 4 ⟨false, L, w, h, bits⟩ = (putIR (L.length : Nat)).1 ++ (L.map (rlineS 4)).flatten := rfl
  have fin : ∀ (t : List UInt8) (F1 : Fz) (hh : Hp) (nx : Nat), rwriteS 4 ⟨false, L, w, h, bits⟩ = t → Fz.le F F1 → lget hh 0 = some (.frz F1) → lget hh 1 = some (gE 88 5 encL c L) →
      Cln 2 (fun o F0 h0 n0 => Fz.le F F0 ∧ (Fz.le F F0 ∧ n0 = 2 ∧ o = .ret (.va (.str (rwriteS 4 ⟨false, L, w, h, bits⟩))) ∧ h0 = [(1, gE 88 5 encL c L)])) (.ret (.va (.str t))) hh nx := by
    intro t F1 hh nx hb hle h0 h1
    rw [hb]
    exact clean [] (.ret (.va (.str t))) F1 [(1, gE 88 5 encL c L)] 2 ⟨hle, hle, rfl, rfl, rfl⟩ (outE_refl _) rfl rfl trivial ⟨gE_below encL_plain _ _ _ _ _, trivial⟩ ⟨by simp only [entE, aget, Ent.ren]; rw [h0]; exact Fz.le_refl F1, by simp only [entE, aget]; rw [h1]; exact sub_gE encL_plain (gE_self _ _ _ _), trivial⟩
  have hp0 := rputInt_fn F (L.length : Nat)
  have hcol := rcols_pu 4 F
  rw [show ((colN 4 : Nat) : Int) = 4 by decide] at hcol
  rcases L with _ | ⟨a0, ar⟩
  · exact absurd rfl hne
  refine ct_of hΘ Tryz.func32 rfl (by decide) _ _ rfl rfl rfl ?_
  conv => whnf
  refine br (fun g => absurd g (by decide)) (fun _ => ?_)
  conv => whnf
  refine usePu hp0 rfl ⟨rfl, trivial⟩ rfl ?_
  conv => whnf
  refine loop_at hΘ (X := { x : Nat × List UInt8 // x.1 ≤ ar.length + 1 ∧ x.2 = (putIR ((a0 :: ar).length : Nat)).1 ++ (((a0 :: ar).take x.1).map (rlineS 4)).flatten }) (fun x => [(5, .va (.str x.1.2)), (12, .va (.int .i64 x.1.1))]) [13, 14, 15, 16, 17, 60, 61, 62, 63, 64, 65, 66, 67, 68, 69, 70, 71, 72, 73, 74, 75, 76, 77, 78, 79, 80, 81, 82, 83, 84, 85, 86, 87, 88, 89, 90, 91, 92, 93, 94, 95, 96, 97, 98, 99, 100, 101, 102]
    (fun _ => [(0, .frz F), (1, gE 88 5 encL c (a0 :: ar)), (2, rvalE ⟨false, a0 :: ar, w, h, bits⟩ 1 c)]) 3 (fun x => ar.length + 1 - x.1.1) ⟨(0, (putIR ((a0 :: ar).length : Nat)).1), by simp⟩
    (fun hH hT => leI [] hH hT rfl ⟨trivial, gE_below encL_plain _ _ _ _ _, rvalE_below (by omega) _, trivial⟩ ⟨rfl, rfl, trivial⟩ ⟨Fz.le_refl F, sub_gE encL_plain (gE_self _ _ _ _), rfl, trivial⟩) ?_
  rintro ⟨⟨k, ob⟩, hk, hob⟩ hH hT
  replace hk : k ≤ ar.length + 1 := hk
  replace hob : ob = (putIR ((a0 :: ar).length : Nat)).1 ++ (((a0 :: ar).take k).map (rlineS 4)).flatten := hob
  have hobl := rwl_len hl hob
  have hfin : k = ar.length + 1 → rwriteS 4 ⟨false, a0 :: ar, w, h, bits⟩ = ob := fun gk => by
    rw [hW, hob, gk, List.take_of_length_le (by simp)]
  by_cases gk : k < ar.length + 1
  · have gl : k < (a0 :: ar).length := gk
    have hex : ∃ x, (a0 :: ar)[k] = x := ⟨_, rfl⟩
    obtain ⟨⟨t, n0, n1, n2, n3⟩, hkx⟩ := hex
    have hcell : ((a0 :: ar).map encL)[0 + (k : Int).toNat]? = some (encL (t, n0, n1, n2, n3)) := by rw [Nat.zero_add, Int.toNat_natCast, List.getElem?_map, List.getElem?_eq_getElem gl, hkx]; rfl
    have hlt : (k : Int) < ((ar.length + 1 : Nat) : Int) := by omega
    have hidx : 0 ≤ (k : Int) ∧ (k : Int) < ((ar.length + 1 : Nat) : Int) := by omega
    have hnext := rwl_step gl hkx hob
    have e0 := putIR_len n0
    have e1 := putIR_len n1
    have e2 := putIR_len n2
    have e3 := putIR_len n3
    have et := putSR_len t
    have ht := hx _ (List.getElem_mem gl)
    rw [hkx] at ht
    replace ht : t.length ≤ 1000000 := ht
    have pt := rputString_fn F t (by omega)
    have p0 := rputInt_fn F n0
    have p1 := rputInt_fn F n1
    have p2 := rputInt_fn F n2
    have p3 := rputInt_fn F n3
    have hk1 : k + 1 ≤ ar.length + 1 := gk
    have hdec : ar.length + 1 - (k + 1) < ar.length + 1 - k := by omega
    have hkm : k < 4611686018427387904 := by
      have h9 : ar.length + 1 ≤ 1000 := hl
      omega
    clear hfin hx hob
    have hb0 : (ob).length + (putIR n0).1.length ≤ 9223372036854775807 := by (try simp only [List.length_append]); omega
    have hb1 : (ob ++ (putIR n0).1).length + (putIR n1).1.length ≤ 9223372036854775807 := by (try simp only [List.length_append]); omega
    have hb2 : (ob ++ (putIR n0).1 ++ (putIR n1).1).length + (putIR n2).1.length ≤ 9223372036854775807 := by (try simp only [List.length_append]); omega
    have hb3 : (ob ++ (putIR n0).1 ++ (putIR n1).1 ++ (putIR n2).1).length + (putIR n3).1.length ≤ 9223372036854775807 := by (try simp only [List.length_append]); omega
    have hnx : ob ++ (putIR n0).1 ++ (putIR n1).1 ++ (putIR n2).1 ++ (putIR n3).1 = (putIR ((a0 :: ar).length : Nat)).1 ++ (((a0 :: ar).take (k + 1)).map (rlineS 4)).flatten := by
      rw [← hnext, show rlineS 4 (t, n0, n1, n2, n3) = [(putIR n0).1, (putIR n1).1, (putIR n2).1, (putIR n3).1].flatten from rfl]
      simp only [List.flatten_cons, List.flatten_nil, List.append_nil, List.append_assoc]
    conv => whnf
    refine br (fun _ => ?_) (fun g => absurd hlt (of_decide_eq_false g))
    conv => whnf
    refine br (fun g => absurd g (by decide)) (fun _ => ?_)
    conv => whnf
    refine rounds1 hΘ 4 ?_
    conv => whnf
    refine usePu hcol rfl ⟨rfl, trivial⟩ rfl ?_
    conv => whnf
    refine br (fun _ => ?_) (fun g => absurd g (by decide))
    conv => whnf
    refine ⟨rfl, hidx, ?_⟩
    conv => whnf
    refine ⟨by decide, ?_⟩
    conv => whnf
    refine ⟨rfl, _, hcell, ?_⟩
    conv => whnf
    refine usePu p0 rfl ⟨rfl, trivial⟩ rfl ?_
    conv => whnf
    refine ⟨hb0, ?_⟩
    conv => whnf
    refine sr_go hΘ ?_
    conv => whnf
    refine usePu hcol rfl ⟨rfl, trivial⟩ rfl ?_
    conv => whnf
    refine br (fun _ => ?_) (fun g => absurd g (by decide))
    conv => whnf
    refine ⟨rfl, hidx, ?_⟩
    conv => whnf
    refine ⟨by decide, ?_⟩
    conv => whnf
    refine ⟨rfl, _, hcell, ?_⟩
    conv => whnf
    refine usePu p1 rfl ⟨rfl, trivial⟩ rfl ?_
    conv => whnf
    refine ⟨hb1, ?_⟩
    conv => whnf
    refine sr_go hΘ ?_
    conv => whnf
    refine usePu hcol rfl ⟨rfl, trivial⟩ rfl ?_
    conv => whnf
    refine br (fun _ => ?_) (fun g => absurd g (by decide))
    conv => whnf
    refine ⟨rfl, hidx, ?_⟩
    conv => whnf
    refine ⟨by decide, ?_⟩
    conv => whnf
    refine ⟨rfl, _, hcell, ?_⟩
    conv => whnf
    refine usePu p2 rfl ⟨rfl, trivial⟩ rfl ?_
    conv => whnf
    refine ⟨hb2, ?_⟩
    conv => whnf
    refine sr_go hΘ ?_
    conv => whnf
    refine usePu hcol rfl ⟨rfl, trivial⟩ rfl ?_
    conv => whnf
    refine br (fun _ => ?_) (fun g => absurd g (by decide))
    conv => whnf
    refine ⟨rfl, hidx, ?_⟩
    conv => whnf
    refine ⟨by decide, ?_⟩
    conv => whnf
    refine ⟨rfl, _, hcell, ?_⟩
    conv => whnf
    refine usePu p3 rfl ⟨rfl, trivial⟩ rfl ?_
    conv => whnf
    refine ⟨hb3, ?_⟩
    conv => whnf
    refine sr_go hΘ ?_
    conv => whnf
    refine usePu hcol rfl ⟨rfl, trivial⟩ rfl ?_
    conv => whnf
    refine br (fun g => absurd g (by decide)) (fun _ => ?_)
    conv => whnf
    exact ⟨⟨(k + 1, ob ++ (putIR n0).1 ++ (putIR n1).1 ++ (putIR n2).1 ++ (putIR n3).1), hk1, hnx⟩, hdec, leR [] hH hT rfl ⟨trivial, gE_below encL_plain _ _ _ _ _, rvalE_below (by omega) _, trivial⟩ ⟨rfl, cnt hkm, trivial⟩ ⟨Fz.le_refl F, sub_gE encL_plain (gE_self _ _ _ _), rfl, trivial⟩⟩
  · have gk : k = ar.length + 1 := by omega
    have hge : ¬ (k : Int) < ((ar.length + 1 : Nat) : Int) := by omega
    have e := hfin gk
    conv => whnf
    refine br (fun g => absurd (of_decide_eq_true g) hge) (fun _ => ?_)
    conv => whnf
    exact fin _ F _ _ e (Fz.le_refl F) rfl rfl
set_option maxHeartbeats 8000000 in
theorem rwriteL5_fn (F : Fz) (L : List RLn) (w h : Int) (bits : List UInt8) (c : Nat) (hne : L ≠ []) (hl : L.length ≤ 1000) (hx : ∀ x ∈ L, x.1.length ≤ 1000000) :
    Ct Tryz.prog 32 [.va (.int .i64 5), rvalV ⟨false, L, w, h, bits⟩ 1 c] F [(1, gE 88 5 encL c L)] 2
      (fun o F0 h0 n0 => Fz.le F F0 ∧ n0 = 2 ∧ o = .ret (.va (.str (rwriteS 5 ⟨false, L, w, h, bits⟩))) ∧ h0 = [(1, gE 88 5 encL c L)]) := by
  have hW : rwriteS 5 ⟨false, L, w, h, bits⟩ = (putIR (L.length : Nat)).1 ++ (L.map (rlineS 5)).flatten := rfl
  have fin : ∀ (t : List UInt8) (F1 : Fz) (hh : Hp) (nx : Nat), rwriteS 5 ⟨false, L, w, h, bits⟩ = t → Fz.le F F1 → lget hh 0 = some (.frz F1) → lget hh 1 = some (gE 88 5 encL c L) →
      Cln 2 (fun o F0 h0 n0 => Fz.le F F0 ∧ (Fz.le F F0 ∧ n0 = 2 ∧ o = .ret (.va (.str (rwriteS 5 ⟨false, L, w, h, bits⟩))) ∧ h0 = [(1, gE 88 5 encL c L)])) (.ret (.va (.str t))) hh nx := by
    intro t F1 hh nx hb hle h0 h1
    rw [hb]
    exact clean [] (.ret (.va (.str t))) F1 [(1, gE 88 5 encL c L)] 2 ⟨hle, hle, rfl, rfl, rfl⟩ (outE_refl _) rfl rfl trivial ⟨gE_below encL_plain _ _ _ _ _, trivial⟩ ⟨by simp only [entE, aget, Ent.ren]; rw [h0]; exact Fz.le_refl F1, by simp only [entE, aget]; rw [h1]; exact sub_gE encL_plain (gE_self _ _ _ _), trivial⟩
  have hp0 := rputInt_fn F (L.length : Nat)
  have hcol := rcols_pu 5 F
  rw [show ((colN 5 : Nat) : Int) = 3 by decide] at hcol
  rcases L with _ | ⟨a0, ar⟩
  · exact absurd rfl hne
  refine ct_of hΘ Tryz.func32 rfl (by decide) _ _ rfl rfl rfl ?_
  conv => whnf
  refine br (fun g => absurd g (by decide)) (fun _ => ?_)
  conv => whnf
  refine usePu hp0 rfl ⟨rfl, trivial⟩ rfl ?_
  conv => whnf
  refine loop_at hΘ (X := { x : Nat × List UInt8 // x.1 ≤ ar.length + 1 ∧ x.2 = (putIR ((a0 :: ar).length : Nat)).1 ++ (((a0 :: ar).take x.1).map (rlineS 5)).flatten }) (fun x => [(5, .va (.str x.1.2)), (12, .va (.int .i64 x.1.1))]) [13, 14, 15, 16, 17, 60, 61, 62, 63, 64, 65, 66, 67, 68, 69, 70, 71, 72, 73, 74, 75, 76, 77, 78, 79, 80, 81, 82, 83, 84, 85, 86, 87, 88, 89, 90, 91, 92, 93, 94, 95, 96, 97, 98, 99, 100, 101, 102]
    (fun _ => [(0, .frz F), (1, gE 88 5 encL c (a0 :: ar)), (2, rvalE ⟨false, a0 :: ar, w, h, bits⟩ 1 c)]) 3 (fun x => ar.length + 1 - x.1.1) ⟨(0, (putIR ((a0 :: ar).length : Nat)).1), by simp⟩
    (fun hH hT => leI [] hH hT rfl ⟨trivial, gE_below encL_plain _ _ _ _ _, rvalE_below (by omega) _, trivial⟩ ⟨rfl, rfl, trivial⟩ ⟨Fz.le_refl F, sub_gE encL_plain (gE_self _ _ _ _), rfl, trivial⟩) ?_
  rintro ⟨⟨k, ob⟩, hk, hob⟩ hH hT
  replace hk : k ≤ ar.length + 1 := hk
  replace hob : ob = (putIR ((a0 :: ar).length : Nat)).1 ++ (((a0 :: ar).take k).map (rlineS 5)).flatten := hob
  have hobl := rwl_len hl hob
  have hfin : k = ar.length + 1 → rwriteS 5 ⟨false, a0 :: ar, w, h, bits⟩ = ob := fun gk => by
    rw [hW, hob, gk, List.take_of_length_le (by simp)]
  by_cases gk : k < ar.length + 1
  · have gl : k < (a0 :: ar).length := gk
    have hex : ∃ x, (a0 :: ar)[k] = x := ⟨_, rfl⟩
    obtain ⟨⟨t, n0, n1, n2, n3⟩, hkx⟩ := hex
    have hcell : ((a0 :: ar).map encL)[0 + (k : Int).toNat]? = some (encL (t, n0, n1, n2, n3)) := by rw [Nat.zero_add, Int.toNat_natCast, List.getElem?_map, List.getElem?_eq_getElem gl, hkx]; rfl
    have hlt : (k : Int) < ((ar.length + 1 : Nat) : Int) := by omega
    have hidx : 0 ≤ (k : Int) ∧ (k : Int) < ((ar.length + 1 : Nat) : Int) := by omega
    have hnext := rwl_step gl hkx hob
    have e0 := putIR_len n0
    have e1 := putIR_len n1
    have e2 := putIR_len n2
    have e3 := putIR_len n3
    have et := putSR_len t
    have ht := hx _ (List.getElem_mem gl)
    rw [hkx] at ht
    replace ht : t.length ≤ 1000000 := ht
    have pt := rputString_fn F t (by omega)
    have p0 := rputInt_fn F n0
    have p1 := rputInt_fn F n1
    have p2 := rputInt_fn F n2
    have p3 := rputInt_fn F n3
    have hk1 : k + 1 ≤ ar.length + 1 := gk
    have hdec : ar.length + 1 - (k + 1) < ar.length + 1 - k := by omega
    have hkm : k < 4611686018427387904 := by
      have h9 : ar.length + 1 ≤ 1000 := hl
      omega
    clear hfin hx hob
    have hb0 : (ob).length + (putIR n0).1.length ≤ 9223372036854775807 := by (try simp only [List.length_append]); omega
    have hb1 : (ob ++ (putIR n0).1).length + (putIR n1).1.length ≤ 9223372036854775807 := by (try simp only [List.length_append]); omega
    have hb2 : (ob ++ (putIR n0).1 ++ (putIR n1).1).length + (putIR n2).1.length ≤ 9223372036854775807 := by (try simp only [List.length_append]); omega
    have hnx : ob ++ (putIR n0).1 ++ (putIR n1).1 ++ (putIR n2).1 = (putIR ((a0 :: ar).length : Nat)).1 ++ (((a0 :: ar).take (k + 1)).map (rlineS 5)).flatten := by
      rw [← hnext, show rlineS 5 (t, n0, n1, n2, n3) = [(putIR n0).1, (putIR n1).1, (putIR n2).1].flatten from rfl]
      simp only [List.flatten_cons, List.flatten_nil, List.append_nil, List.append_assoc]
    conv => whnf
    refine br (fun _ => ?_) (fun g => absurd hlt (of_decide_eq_false g))
    conv => whnf
    refine br (fun g => absurd g (by decide)) (fun _ => ?_)
    conv => whnf
    refine rounds1 hΘ 3 ?_
    conv => whnf
    refine usePu hcol rfl ⟨rfl, trivial⟩ rfl ?_
    conv => whnf
    refine br (fun _ => ?_) (fun g => absurd g (by decide))
    conv => whnf
    refine ⟨rfl, hidx, ?_⟩
    conv => whnf
    refine ⟨by decide, ?_⟩
    conv => whnf
    refine ⟨rfl, _, hcell, ?_⟩
    conv => whnf
    refine usePu p0 rfl ⟨rfl, trivial⟩ rfl ?_
    conv => whnf
    refine ⟨hb0, ?_⟩
    conv => whnf
    refine sr_go hΘ ?_
    conv => whnf
    refine usePu hcol rfl ⟨rfl, trivial⟩ rfl ?_
    conv => whnf
    refine br (fun _ => ?_) (fun g => absurd g (by decide))
    conv => whnf
    refine ⟨rfl, hidx, ?_⟩
    conv => whnf
    refine ⟨by decide, ?_⟩
    conv => whnf
    refine ⟨rfl, _, hcell, ?_⟩
    conv => whnf
    refine usePu p1 rfl ⟨rfl, trivial⟩ rfl ?_
    conv => whnf
    refine ⟨hb1, ?_⟩
    conv => whnf
    refine sr_go hΘ ?_
    conv => whnf
    refine usePu hcol rfl ⟨rfl, trivial⟩ rfl ?_
    conv => whnf
    refine br (fun _ => ?_) (fun g => absurd g (by decide))
    conv => whnf
    refine ⟨rfl, hidx, ?_⟩
    conv => whnf
    refine ⟨by decide, ?_⟩
    conv => whnf
    refine ⟨rfl, _, hcell, ?_⟩
    conv => whnf
    refine usePu p2 rfl ⟨rfl, trivial⟩ rfl ?_
    conv => whnf
    refine ⟨hb2, ?_⟩
    conv => whnf
    refine sr_go hΘ ?_
    conv => whnf
    refine usePu hcol rfl ⟨rfl, trivial⟩ rfl ?_
    conv => whnf
    refine br (fun g => absurd g (by decide)) (fun _ => ?_)
    conv => whnf
    exact ⟨⟨(k + 1, ob ++ (putIR n0).1 ++ (putIR n1).1 ++ (putIR n2).1), hk1, hnx⟩, hdec, leR [] hH hT rfl ⟨trivial, gE_below encL_plain _ _ _ _ _, rvalE_below (by omega) _, trivial⟩ ⟨rfl, cnt hkm, trivial⟩ ⟨Fz.le_refl F, sub_gE encL_plain (gE_self _ _ _ _), rfl, trivial⟩⟩
  · have gk : k = ar.length + 1 := by omega
    have hge : ¬ (k : Int) < ((ar.length + 1 : Nat) : Int) := by omega
    have e := hfin gk
    conv => whnf
    refine br (fun g => absurd (of_decide_eq_true g) hge) (fun _ => ?_)
    conv => whnf
    exact fin _ F _ _ e (Fz.le_refl F) rfl rfl
end Go.Proofs.YtblllibdahkgfaaGreatDoor
