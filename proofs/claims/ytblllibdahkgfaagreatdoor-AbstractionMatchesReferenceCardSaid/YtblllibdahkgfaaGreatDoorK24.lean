import Derived.Test.YtblllibdahkgfaaGreatDoorK23
import Derived.RangeFuncBox
import Derived.RangeFuncLeaves
import Derived.Shelf.Abstract
import Derived.WalkKit
import Derived.OwnWalkIn
import Derived.TacticsInMore
import Derived.LoopNIn
import Derived.LoopIn
import Derived.Maps.AppendAt
import Derived.Laws.BitsAllLaws
import Derived.Test.YtblllibdahkgfaaGreatDoorProg
import Derived.Test.YtblllibdahkgfaaGreatDoorK22

/- A range over a function whose iterator writes one variable that it has captured. No program is named here. -/
namespace Sx
open Go Go.RowKit
variable {F : Fence} {n : Nat} {P : Program}

/-- The contract of an iterator that writes block zb alone. -/
def SeqZ {α : Type} (F : Fence) (n : Nat) (P : Program) (g : Nat) (lb : Array Value) (encs : α → Array Value) (zb : Nat) (S : List α → Prop) (N : Nat) (w : World) : Prop :=
  ∀ (l : Nat) (J : List α → World → Prop) (W : World), W.heap[zb]? = w.heap[zb]? → (∀ pre A v, J pre A → J pre (A.setCell ⟨zb, 0, none⟩ v)) →
    (∀ pre x W1, J pre W1 → pre.length < N → YieldAt F (n - 1) P l (encs x) W1 fun e W' => e = .returned (.bool true) ∧ J (pre ++ [x]) W' ∧ W'.heap[zb]? = W1.heap[zb]?) →
    J [] W →
    CallsIn F n P g (#[.func (.yield l) #[] #[]] ++ lb) W fun e W' => (∃ v, e = .returned v) ∧ ∃ xs, S xs ∧ J xs W'

/-- How a round may be left: it goes on. -/
def postZ {α : Type} (B zb : Nat) (I : List α → World → Prop) (xs : List α) (W : World) : Exit → Act → World → Prop
  | .normal, _, W' => KeepsFrom B W W' ∧ W'.heap[zb]? = W.heap[zb]? ∧ I xs W'
  | _, _, _ => False

theorem wpIn_rangeFunc_Z {α : Type} {g : Operand} {ps : Array Tmp} {assign body : Code} {Q : Exit → Act → World → Prop} {a : Act} {w : World}
    (hro : F.round = none) (h1 : 1 ≤ n) {gf : Nat} {lb : Array Value} (hg : a.eval g = .func (.func gf) #[] lb) (hFg : F.fn gf) (eg : ∀ args w, (callFunc gf args).run P w = .ok (.enter gf args) w)
    {encs : α → Array Value} {S : List α → Prop} {N zb : Nat} (hseq : SeqZ F (n - 1) P gf lb encs zb S N w) (hzb : zb < w.heap.size) (hps : ∀ x, (encs x).size = ps.size)
    (I : List α → World → Prop) (hI : OwnFrom w.heap.size I) (hIz : ∀ pre A v, I pre A → I pre (A.setCell ⟨zb, 0, none⟩ v)) (h0 : I [] w) (a₁ : α → Act)
    (hassign : ∀ (l : Nat) (x : α) (W : World) (K : Act → World → Prop), K (a₁ x) W →
      assign.wpIn (F.inRound l) (n - 1 - 1) P (Exit.then K (fun _ _ _ => False)) { tmps := (ps.zip (encs x)).foldl (fun t (p, v) => t.setIfInBounds p v) a.tmps, defers := [] } W)
    (hbody : ∀ (l : Nat) (pre : List α) (x : α) (W : World), I pre W → pre.length < N → body.wpIn (F.inRound l) (n - 1 - 1) P (postZ w.heap.size zb I (pre ++ [x]) W) (a₁ x) W)
    (hdone : ∀ (D : Nat) (xs : List α) (W : World), w.heap.size ≤ D → S xs → I xs W → W.heap[D]? = some (.deferred (some [])) → Q .normal { a with defers := { target := .collected D, args := #[] } :: a.defers } W) :
    (Code.rangeFunc g ps assign body).wpIn F n P Q a w := by
  refine wpIn_rangeFunc ?_
  intro fn hfn
  rw [hro]
  obtain ⟨rec, hrec⟩ : ∃ rec : LoopState → Option Code → Loop, rec = fun st pe => { state := st, pending := pe, fn, tmps := a.tmps, params := ps, assign, body, defers := w.heap.size } := ⟨_, rfl⟩
  obtain ⟨W1, hW1⟩ : ∃ W1, (w.alloc (.deferred (some []))).alloc (.loop (rec .ready none)) = W1 := ⟨_, rfl⟩
  have hL1 : W1.heap[w.heap.size + 1]? = some (.loop (rec .ready none)) := by
    rw [← hW1]; have := World.alloc_heap_new (w.alloc (.deferred (some []))) (.loop (rec .ready none)); rwa [World.size_alloc] at this
  have hK1 : W1.heap[w.heap.size]? = some (.deferred (some [])) := by
    rw [← hW1]; exact (Below.heap_alloc _ _ _ (by simp)).trans (World.alloc_heap_new w _)
  have hI1 : I [] W1 := by rw [← hW1]; exact hI.alloc _ (hI.alloc _ h0)
  have hz1 : W1.heap[zb]? = w.heap[zb]? := by
    rw [← hW1]; exact (Below.heap_alloc _ _ _ (by simp; omega)).trans (Below.heap_alloc _ _ _ hzb)
  refine ⟨w.heap.size + 1, [{ target := .collected w.heap.size, args := #[] }], W1, { target := .fn (.func gf) lb, args := #[.func (.yield (w.heap.size + 1)) #[] #[]] }, W1, gf,
    #[.func (.yield (w.heap.size + 1)) #[] #[]] ++ lb, W1, ?_, ?_, ?_, ?_, fun _ => h1, ?_⟩
  · rw [← hW1, hrec]; exact run_enterLoop_outer _ _ _ _ _
  · simp only [resolve, hg]
    simp [go_sem]
  · intro f' hf'; simp [Target.leads] at hf'; subst hf'; exact hFg
  · simp [invoke, go_sem, eg]
  · have hset : ∀ (A : World) (v : Value) (k : Nat) (o : Obj), zb < k → A.heap[k]? = some o → (A.setCell ⟨zb, 0, none⟩ v).heap[k]? = some o := fun A v k o hk ho =>
      (Below.heap_setCell A ⟨zb, 0, none⟩ v k (by show k ≠ zb; omega)).trans ho
    refine (hseq (w.heap.size + 1)
      (fun pre W => I pre W ∧ W.heap[w.heap.size + 1]? = some (.loop (rec .ready none)) ∧ W.heap[w.heap.size]? = some (.deferred (some [])))
      W1 hz1
      (fun pre A v hs => ⟨hIz pre A v hs.1, hset A v _ _ (by omega) hs.2.1, hset A v _ _ (by omega) hs.2.2⟩)
      ?_ ⟨hI1, hL1, hK1⟩).mono ?_
    · rintro pre x W ⟨hi, hl, hk⟩ hlen
      have hlt : w.heap.size + 1 < W.heap.size := (Array.getElem?_eq_some_iff.1 hl).1
      have hy := run_yield (P := P) (args := encs x) hl (by rw [hrec]; exact hps x)
      rw [hrec] at hy
      refine ⟨fn, _, assign, body, hy, roundIn_of_wpIn hfn (hassign _ x W _ ⟨_, run_beginRound hl (by rw [hrec]), ?_⟩)⟩
      have hl2 : (W.putObj (w.heap.size + 1) (.loop { rec .ready none with state := .busy })).heap[w.heap.size + 1]? = some (.loop { rec .ready none with state := .busy }) := World.putObj_heap_same hlt
      have hk2 : (W.putObj (w.heap.size + 1) (.loop { rec .ready none with state := .busy })).heap[w.heap.size]? = some (.deferred (some [])) := (World.putObj_heap_other (by omega)).trans hk
      refine wpIn_mono (hbody _ pre x _ (hI.putObj _ hi (by omega) hl rfl) hlen) ?_
      rintro e a3 W3 hp
      cases e with
      | normal =>
        obtain ⟨hk3, hz3, hi3⟩ := hp
        have hl3 := hk3.same _ _ (by omega) hl2 rfl
        have hr := run_endRound (P := P) none hl3
        rw [hrec] at hr hl3
        refine ⟨_, _, hr, rfl, ⟨hI.putObj _ hi3 (by omega) hl3 rfl, ?_, (World.putObj_heap_other (by omega)).trans (hk3.same _ _ (Nat.le_refl _) hk2 rfl)⟩, ?_⟩
        · rw [hrec]; exact World.putObj_heap_same (Array.getElem?_eq_some_iff.1 hl3).1
        · rw [World.putObj_heap_other (by omega), hz3, World.putObj_heap_other (by omega)]
      | ret => exact hp.elim
      | exit id => exact hp.elim
      | goto t => exact hp.elim
      | panic ch => exact hp.elim
      | outgrown => exact hp.elim
    · rintro e W2 ⟨⟨v, rfl⟩, xs, hS, hi, hl, hk⟩
      exact ⟨none, _, by have := run_endLoop (P := P) hl (by rw [hrec]; simp); rw [hrec] at this; exact this, hdone _ xs _ (Nat.le_refl _) hS (hI.putObj _ hi (by omega) hl rfl) ((World.putObj_heap_other (by omega)).trans hk)⟩
end Sx

namespace Go.Proofs.YtblllibdahkgfaaGreatDoor
open Go Go.RowKit Go.Shelf Sx
attribute [local go_sem] Oper.semAt_some

abbrev G7 := { x : Nat × Bool // x.1 < 128 }
def grpL (z : Nat) : List (Nat × Bool) := if z < 128 then [(z, true)] else (z % 128, false) :: grpL (z / 128)
termination_by z
decreasing_by omega
noncomputable def zAt (zb : Nat) (w : World) : Nat := match w.cell? ⟨zb, 0, none⟩ with
  | some (.int _ z) => z.toNat
  | _ => 0
theorem zAt_of {zb : Nat} {w : World} {z : Nat} (h : Boxed w zb 130 (.int .u64 z)) : zAt zb w = z := by
  unfold zAt; rw [h.cell]; rfl

set_option maxRecDepth 100000 in
set_option maxHeartbeats 1000000 in
theorem it147 (F : Fence) (n : Nat) (h147 : F.fn 147) (hro : F.round = none) (hn : 1 ≤ n) (l zb : Nat) (z : Nat) (hz : z < 18446744073709551616) (J : List G7 → World → Prop)
    (hJz : ∀ pre A v, J pre A → J pre (A.setCell ⟨zb, 0, none⟩ v))
    (hY : ∀ pre (x : G7) W1, J pre W1 → pre.length < 10 → YieldAt F (n - 1) Tryz.prog l #[.int .u8 x.1.1, .bool x.1.2] W1 fun e W' => e = .returned (.bool true) ∧ J (pre ++ [x]) W' ∧ W'.heap[zb]? = W1.heap[zb]?)
    (W : World) (hc : Boxed W zb 130 (.int .u64 z)) (h0 : J [] W) :
    CallsIn F n Tryz.prog 147 #[.func (.yield l) #[] #[], .pointer (some ⟨zb, 0, none⟩)] W fun e W' => (∃ v, e = .returned v) ∧ ∃ xs, (xs.map (·.1) = grpL z) ∧ J xs W' := by
  refine callsIn_of_wp Tryz.func147 rfl h147 ?_ hro
  simp only [Tryz.ntmps147, List.size_toArray, List.length_cons, List.length_nil, Nat.reduceAdd, Nat.reduceSub, Array.replicate_succ, Array.replicate_zero, List.push_toArray, List.append_toArray, List.nil_append, List.cons_append]
  gi_wp2
  gi_loopw [] (fun wr => ∃ (pre : List G7) (z' : Nat), J pre wr ∧ Boxed wr zb 130 (.int .u64 z') ∧ z' < 18446744073709551616 ∧ grpL z = pre.map (·.1) ++ grpL z' ∧ z' * 128 ^ pre.length ≤ z ∧ (pre = [] ∨ 1 ≤ z')) (fun wr => zAt zb wr)
  case atStart =>
    exact ⟨[], z, h0, hc, hz, by simp, by simp, .inl rfl⟩
  case round =>
    obtain ⟨pre, z', hJ, hb, hz', hg, hpow, hpos⟩ := hrel
    have hcell := hb.cell
    have hlen : pre.length < 10 := by
      rcases hpos with rfl | hpos
      · simp
      · refine Nat.lt_of_not_le fun hge => ?_
        have h1 : 128 ^ 10 ≤ 128 ^ pre.length := Nat.pow_le_pow_right (by omega) hge
        have h2 : 1 * 128 ^ pre.length ≤ z' * 128 ^ pre.length := Nat.mul_le_mul_right _ hpos
        omega
    obtain ⟨fn, tmps, assign, body, hy, hR⟩ := hY pre ⟨(z' % 128, decide (z' < 128)), Nat.mod_lt _ (by omega)⟩ wr hJ hlen
    have hbits : bits BinOp.and IntKind.u64 (↑z') 127 % 256 = ((z' % 128 : Nat) : Int) := by
      rw [show (127 : Int) = ((127 : Nat) : Int) from rfl, u64_and_nat z' 127 hz' (by omega), show (127 : Nat) = 2 ^ 7 - 1 from rfl, Nat.and_two_pow_sub_one_eq_mod]; omega
    have hdec : decide ((z' : Int) < 128) = decide (z' < 128) := decide_eq_decide.2 (by omega)
    have hnn : ((z' % 128 : Nat) : Int) = (z' : Int) % 128 := by omega
    dsimp only at hy
    rw [hnn] at hy
    gi_wp2
    refine hR.mono ?_
    rintro e W3 ⟨rfl, hJ3, hz3⟩
    have hb3 : Boxed W3 zb 130 (.int .u64 z') := hz3.trans hb
    have hcell3 := hb3.cell
    have hfr3 := hb3.frozen
    by_cases hlt : z' < 128
    · have hg1 : grpL z' = [(z', true)] := by rw [grpL, if_pos hlt]
      have e1 : z' % 128 = z' := Nat.mod_eq_of_lt hlt
      gi_wp2
      refine bodyPost_ret (results_none rfl _ _ _) rfl ?_
      refine ⟨⟨_, rfl⟩, _, ?_, hJ3⟩
      rw [hg, hg1, List.map_append]
      simp [e1, hlt]
    · have hg1 : grpL z' = (z' % 128, false) :: grpL (z' / 128) := by rw [grpL, if_neg hlt]
      have hdiv : ((z' / 128 : Nat) : Int) = (z' : Int) / 128 := by omega
      have hb4 := hb3.set (.int .u64 ((z' / 128 : Nat) : Int))
      rw [hdiv] at hb4
      have hpw : z' / 128 * 128 ^ (pre.length + 1) ≤ z := by
        rw [Nat.pow_succ, Nat.mul_comm (128 ^ pre.length), ← Nat.mul_assoc]
        exact Nat.le_trans (Nat.mul_le_mul_right _ (Nat.div_mul_le_self z' 128)) hpow
      gi_wp2
      refine ⟨⟨_, z' / 128, hJz _ _ _ hJ3, by rw [hdiv]; exact hb4, by omega, ?_, by simpa using hpw, .inr (by omega)⟩, ?_⟩
      · rw [hg, hg1, List.map_append]
        simp [hlt]
      · rw [zAt_of (z := z' / 128) (by rw [hdiv]; exact hb4), zAt_of hb]
        omega

theorem groups_in (F : Fence) (n : Nat) (h : F.fn 112) (hro : F.round = none) (z : Int) (w : World) :
    CallsIn F n Tryz.prog 112 #[.int .u64 z] w fun e w' => e = .returned (.func (.func 147) #[] #[.pointer (some ⟨w.heap.size, 0, none⟩)]) ∧ w' = w.alloc (.cells #[.int .u64 z] 130) := by
  refine callsIn_of_wp Tryz.func112 rfl h ?_ hro
  simp only [Tryz.ntmps112, List.size_toArray, List.length_cons, List.length_nil, Nat.reduceAdd, Nat.reduceSub, Array.replicate_succ, Array.replicate_zero, List.push_toArray, List.append_toArray, List.nil_append, List.cons_append]
  gi_wp2
  go_ret
  exact ⟨rfl, rfl⟩

theorem seq147 (F : Fence) (n : Nat) (h147 : F.fn 147) (hro : F.round = none) (hn : 1 ≤ n) (zb z : Nat) (hz : z < 18446744073709551616) (w : World) (hc : Boxed w zb 130 (.int .u64 z)) :
    SeqZ F n Tryz.prog 147 #[.pointer (some ⟨zb, 0, none⟩)] (fun x : G7 => #[.int .u8 x.1.1, .bool x.1.2]) zb (fun xs => xs.map (·.1) = grpL z) 10 w :=
  fun l J W hW hJz hY h0 => it147 F n h147 hro hn l zb z hz J hJz hY W (hW.trans hc) h0
end Go.Proofs.YtblllibdahkgfaaGreatDoor

namespace Go.Proofs.YtblllibdahkgfaaGreatDoor
open Go Go.RowKit Go.Shelf Sx
attribute [local go_sem] Oper.semAt_some

theorem info5 : (Tryz.prog.info? 5).map (fun i => (i.zero, i.size, i.bytes)) = some (some (.int .u8 0), 1, 1) := by kernel_rfl
def byteOf (x : Nat × Bool) : Nat := if x.2 then x.1 else x.1 + 128
theorem byteOf_lt (x : G7) : byteOf x.1 < 256 := by
  have := x.2; unfold byteOf; split <;> omega
theorem grp_put (z : Nat) : (grpL z).map (fun x => UInt8.ofNat (byteOf x)) = putZ z := by
  rw [grpL, putZ]
  split
  · rfl
  · rw [List.map_cons, grp_put (z / 128)]; rfl
termination_by z
decreasing_by omega
theorem grp_len (z : Nat) (h : z < 128 ^ 10) : (grpL z).length ≤ 10 := by
  have key : ∀ (k z : Nat), z < 128 ^ k → (grpL z).length ≤ k + 1 := by
    intro k
    induction k with
    | zero => intro z h; rw [grpL, if_pos (by simp at h; omega)]; simp
    | succ k ih =>
      intro z h
      rw [grpL]
      split
      · simp
      · rw [List.length_cons]
        have := ih (z / 128) (by rw [Nat.pow_succ] at h; exact Nat.div_lt_of_lt_mul (by rw [Nat.mul_comm]; exact h))
        omega
  have key2 : ∀ (k z : Nat), z < 128 ^ (k + 1) → (grpL z).length ≤ k + 1 := by
    intro k
    induction k with
    | zero => intro z h; rw [grpL, if_pos (by simpa using h)]; simp
    | succ k ih =>
      intro z h
      rw [grpL]
      split
      · simp
      · rw [List.length_cons]
        have := ih (z / 128) (by rw [Nat.pow_succ] at h; exact Nat.div_lt_of_lt_mul (by rw [Nat.mul_comm]; exact h))
        omega
  exact key2 9 z h

theorem xorZig (n : Int) (h : -4611686018427387903 ≤ n ∧ n ≤ 4611686018427387903) : bits BinOp.xor IntKind.u64 (IntKind.u64.wrap (IntKind.u64.wrap n * 2)) (IntKind.u64.wrap (n / 9223372036854775808)) = (zig n : Int) := by
  by_cases g : n < 0
  · have e1 : IntKind.u64.wrap n = n + 18446744073709551616 := by rw [IntKind.wrap_u64]; omega
    have e2 : IntKind.u64.wrap ((n + 18446744073709551616) * 2) = ((n * 2 + 18446744073709551616).toNat : Int) := by rw [IntKind.wrap_u64]; omega
    have e3 : n / 9223372036854775808 = -1 := by omega
    have e4 : IntKind.u64.wrap (-1) = ((18446744073709551615 : Nat) : Int) := by decide
    rw [e1, e2, e3, e4, u64_xor_nat _ _ (by omega) (by omega), zig, if_pos g]
    have h2 : ∀ x : Nat, x < 18446744073709551616 → x ^^^ 18446744073709551615 = 18446744073709551615 - x := by
      intro x hx
      have h3 : (BitVec.ofNat 64 x ^^^ BitVec.allOnes 64).toNat = 18446744073709551615 - x := by
        rw [BitVec.xor_allOnes, BitVec.toNat_not, BitVec.toNat_ofNat, Nat.mod_eq_of_lt (by omega)]
      rw [BitVec.toNat_xor, BitVec.toNat_ofNat, Nat.mod_eq_of_lt (by omega)] at h3
      exact h3
    rw [h2 _ (by omega)]
    omega
  · have e1 : IntKind.u64.wrap n = n := by rw [IntKind.wrap_u64]; omega
    have e2 : IntKind.u64.wrap (n * 2) = ((n * 2).toNat : Int) := by rw [IntKind.wrap_u64]; omega
    have e3 : n / 9223372036854775808 = 0 := by omega
    have e4 : IntKind.u64.wrap 0 = ((0 : Nat) : Int) := by decide
    rw [e1, e2, e3, e4, u64_xor_nat _ _ (by omega) (by omega), Nat.xor_zero, zig, if_neg g]

theorem boxed_own' (B : Nat) (t : TypeId) : Own (fun (_ : List G7) W => ∃ u, Boxed W B t u) := fun s W W' row ⟨u, h⟩ hg hr => ⟨u, h.kept hg (fun e => by
  obtain ⟨o, ho, hc⟩ := hr _ e.symm
  rw [show W.heap[B]? = _ from h] at ho; cases ho; cases hc)⟩

set_option maxRecDepth 100000 in
set_option maxHeartbeats 2000000 in
theorem putInt_in (F : Fence) (k : Nat) (h80 : F.fn 80) (h112 : F.fn 112) (h147 : F.fn 147) (hro : F.round = none) (hk : 3 ≤ k) (n : Int) (hn : -4611686018427387903 ≤ n ∧ n ≤ 4611686018427387903) (w : World) :
    CallsIn F k Tryz.prog 80 #[.int .i64 n] w fun e w' => e = .returned (.tuple #[.string ⟨(putI n).toArray⟩, .int .i64 0]) ∧ Below w.heap.size w w' := by
  have h1 : 1 ≤ k := by omega
  have hz := zig_lt n hn
  have hx := xorZig n hn
  obtain ⟨i0, hi, hz0, hz1, hz2⟩ := info_parts info5
  have hn1 : ¬ n < -4611686018427387903 := by omega
  have hn2 : ¬ 4611686018427387903 < n := by omega
  refine callsIn_of_wp_marks Tryz.func80 rfl h80 ?_ hro
  simp only [Tryz.ntmps80, List.size_toArray, List.length_cons, List.length_nil, Nat.reduceAdd, Nat.reduceSub, Array.replicate_succ, Array.replicate_zero, List.push_toArray, List.append_toArray, List.nil_append, List.cons_append]
  gi_wp2_with (gi_at_call 112; refine (groups_in F (k - 1) h112 hro _ _).mono ?_; rintro e w' ⟨rfl, rfl⟩)
  have bO := Boxed.new w 40 (.slice none 0 0)
  have bN := Boxed.new (w.alloc (.cells #[.slice none 0 0] 40)) 130 (.int .u64 (zig n))
  rw [World.size_alloc] at bN
  have hB0 : Below w.heap.size w ((w.alloc (.cells #[.slice none 0 0] 40)).alloc (.cells #[.int .u64 (zig n)] 130)) := ((Below.refl _ w).alloc (Nat.le_refl _) _).alloc (by simp) _
  refine wpIn_rangeFunc_Z hro h1 (gf := 147) (lb := #[.pointer (some ⟨w.heap.size + 1, 0, none⟩)]) rfl h147 (enters_of Tryz.func147 (by kernel_rfl) rfl)
    (seq147 F (k - 1) h147 hro (by omega) (w.heap.size + 1) (zig n) (by omega) _ bN) (by simp) (fun _ => rfl)
    (fun pre W => ((∃ v, Boxed W w.heap.size 40 v ∧ W.ownsRow w.heap.size 5 1 v pre.length (pre.map fun x => .int .u8 (byteOf x.1)) ∧ True) ∧ (∃ u, Boxed W (w.heap.size + 1) 130 u)) ∧ Below w.heap.size w W)
    (OwnFrom.and (OwnFrom.and (Own.from (holdsRow_own w.heap.size w.heap.size 40 5 1 (fun pre => pre.length) (fun pre : List G7 => pre.map fun x => .int .u8 (byteOf x.1)) (fun _ _ => True)) _) (Own.from (boxed_own' _ _) _)) (ownFrom_below (Nat.le_refl _) (by simp; omega)))
    ?hIz ⟨⟨⟨_, bO.alloc _, World.ownsRow_nil _ _ _ _, trivial⟩, ⟨_, bN⟩⟩, hB0⟩
    (fun x => { tmps := #[.int .i64 n, undef, .string ⟨#[]⟩, .int .i64 0, .pointer (some ⟨w.heap.size, 0, none⟩), .int .u8 x.1.1, .bool x.1.2, .int .i64 n, .bool false, .bool false, .int .i64 n, .bool false, .bool false, .int .i64 n, .int .u64 (IntKind.u64.wrap n), .int .u64 (IntKind.u64.wrap (IntKind.u64.wrap n * 2)), .int .i64 n, .int .i64 (n / 9223372036854775808), .int .u64 (IntKind.u64.wrap (n / 9223372036854775808)), .int .u64 (zig n), .func (.func 147) #[] #[.pointer (some ⟨w.heap.size + 1, 0, none⟩)], .int .u8 x.1.1, .bool x.1.2, undef, undef, undef, undef, undef, undef, undef, undef, undef, undef], defers := [] }) ?assign ?body ?done
  case hIz =>
    rintro pre A v ⟨⟨⟨u, hv, hrow, -⟩, ⟨q, hq⟩⟩, hB⟩
    exact ⟨⟨⟨u, hv.kept (grownBy_setCell' A (w.heap.size + 1) v) (by simp), hrow.kept (grownBy_setCell' A (w.heap.size + 1) v) (.inr (hq.not_row (by decide) hrow).symm), trivial⟩, ⟨v, hq.set v⟩⟩, hB.setCell (p := ⟨w.heap.size + 1, 0, none⟩) (by simp) v⟩
  case assign =>
    intro l x W K hK
    gi_wp2
    exact hK
  case body =>
    rintro l pre x W ⟨⟨⟨v, hv, hrow, -⟩, ⟨q, hq⟩⟩, hB⟩ hlt
    have hc := hv.cell
    obtain ⟨⟨g, b⟩, hg⟩ := x
    have hg' : g < 128 := hg
    have hor : bits .or .u8 (g : Int) 128 = ((g + 128 : Nat) : Int) := by
      rw [show (128 : Int) = ((128 : Nat) : Int) from rfl, u8_or_nat g 128 (by omega) (by omega), Nat.or_comm]
      have := Nat.two_pow_add_eq_or_of_lt (i := 7) (b := g) (by omega) 1
      simp only [Nat.reducePow, Nat.mul_one] at this
      rw [← this, Nat.add_comm]
    cases b with
    | true =>
      gi_wp2_with (gi_at_builtin; refine wpListIn_append_own _ rfl _ _ 40 rfl w.heap.size 5 i0 (.int .u8 0) 1 1 Tryz.underlying40 hi hz0 hz1 hz2 rfl (by decide) _ _ _ rfl (hrow.alloc _) ⟨W.heap.size, 0, none⟩ 1 1 [.int .u8 g] rfl rfl (cell_one_new _ _ _) (by simp [Value.oneCell']) (by simp [maxLen]; omega) (by omega) (by have := hB.size; simp; omega) ?_; intro v' w1 hown' hgrow _; obtain ⟨g', cap', rfl⟩ := ownsRow_succ hown'; obtain ⟨hv1, hv2, hr2, hk2, hb2⟩ := hv.appended (by decide) hrow hB.size (Nat.le_refl _) hown' hgrow; have hc1 := hv1.cell; have hf1 := hv1.frozen)
      have e1 := (Below.heap_setCell w1 ⟨w.heap.size, 0, none⟩ (.slice (some ⟨g', 0, none⟩) (pre.length + 1) cap') (w.heap.size + 1) (by simp)).trans ((hq.alloc _).kept hgrow (hq.not_row (by decide) hrow))
      exact ⟨hk2.from _, e1.trans hq.symm, ⟨⟨_, hv2, by simpa [byteOf] using hr2, trivial⟩, ⟨q, e1⟩⟩, hB.trans hb2⟩
    | false =>
      gi_wp2_with (gi_at_builtin; refine wpListIn_append_own _ rfl _ _ 40 rfl w.heap.size 5 i0 (.int .u8 0) 1 1 Tryz.underlying40 hi hz0 hz1 hz2 rfl (by decide) _ _ _ rfl (hrow.alloc _) ⟨W.heap.size, 0, none⟩ 1 1 [.int .u8 ((g + 128 : Nat) : Int)] rfl rfl (cell_one_new _ _ _) (by simp [Value.oneCell']) (by simp [maxLen]; omega) (by omega) (by have := hB.size; simp; omega) ?_; intro v' w1 hown' hgrow _; obtain ⟨g', cap', rfl⟩ := ownsRow_succ hown'; obtain ⟨hv1, hv2, hr2, hk2, hb2⟩ := hv.appended (by decide) hrow hB.size (Nat.le_refl _) hown' hgrow; have hc1 := hv1.cell; have hf1 := hv1.frozen)
      have e1 := (Below.heap_setCell w1 ⟨w.heap.size, 0, none⟩ (.slice (some ⟨g', 0, none⟩) (pre.length + 1) cap') (w.heap.size + 1) (by simp)).trans ((hq.alloc _).kept hgrow (hq.not_row (by decide) hrow))
      exact ⟨hk2.from _, e1.trans hq.symm, ⟨⟨_, hv2, by simpa [byteOf] using hr2, trivial⟩, ⟨q, e1⟩⟩, hB.trans hb2⟩
  case done =>
    rintro D ys W hD hS ⟨⟨⟨v, hv, hrow, -⟩, ⟨q, hq⟩⟩, hB⟩ hK
    have hc := hv.cell
    have hgl : ys.map (fun x => UInt8.ofNat (byteOf x.1)) = putI n := by
      rw [putI, ← grp_put, ← hS, List.map_map]; rfl
    have hlen : ys.length = (grpL (zig n)).length := by rw [← hS, List.length_map]
    obtain ⟨m, hm⟩ : ∃ m, ys.length = m + 1 := by
      rw [hlen, grpL]; split <;> exact ⟨_, rfl⟩
    rw [hm] at hrow
    obtain ⟨g, cap, rfl⟩ := ownsRow_succ hrow
    have hcv := run_convert_bytes_back (P := Tryz.prog) W 40 9 5 ⟨g, 0, none⟩ cap (putI n) Tryz.underlying40 Tryz.underlying5 Tryz.underlying9 (fun j hj => by
      refine hrow.cells rfl j _ ?_
      have hgj := congrArg (fun l => l[j]?) hgl
      simp only [List.getElem?_map] at hgj
      have hj' : j < ys.length := by have := congrArg List.length hgl; rw [List.length_map] at this; omega
      have hb := byteOf_lt ys[j]
      rw [List.getElem?_eq_getElem hj', List.getElem?_eq_getElem hj, Option.map_some, Option.some.injEq] at hgj
      rw [List.getElem?_map, List.getElem?_eq_getElem hj', Option.map_some, ← hgj, UInt8.toNat_ofNat', Nat.mod_eq_of_lt (by omega)])
    have hpl : (putI n).length = m + 1 := by rw [← hgl, List.length_map, hm]
    rw [hpl] at hcv
    gi_wp2
    refine ⟨by simp, .inl ⟨_, _, rfl, run_takeDeferred hK, ?_⟩⟩
    exact ⟨_, results_tmp2 rfl _ _ _, rfl, hB.trans (belowK_b (w := w) (Nat.le_refl _) W D _ _ (by simp at hD; omega) hK rfl rfl)⟩

set_option maxRecDepth 100000 in
set_option maxHeartbeats 1000000 in
theorem putInt_bad (n : Int) (hn : n < -4611686018427387903 ∨ 4611686018427387903 < n) (w : World) :
    Calls Tryz.prog 80 #[.int .i64 n] w fun e w' => e = .returned (.tuple #[.string ⟨#[]⟩, .int .i64 10]) ∧ Below w.heap.size w w' := by
  go_enter Tryz.func80, Tryz.ntmps80
  by_cases g : n < -4611686018427387903
  · go_wp2
    refine bodyPost_ret (results_tmp2 rfl _ _ _) rfl ⟨rfl, Below.refl _ _⟩
  · have g2 : 4611686018427387903 < n := hn.resolve_left g
    go_wp2
    refine bodyPost_ret (results_tmp2 rfl _ _ _) rfl ⟨rfl, Below.refl _ _⟩

/-- The contract of wire.PutInt. -/
theorem pfun : PFun := by
  intro F n
  have hent : Sx.Enters Tryz.prog 80 := Sx.enters_of Tryz.func80 rfl (by decide)
  have key : ∀ w : World, Calls Tryz.prog 80 #[.int .i64 n] w fun e w' => e = .returned (.tuple #[.string ⟨(putIR n).1.toArray⟩, .int .i64 (putIR n).2]) ∧ Below w.heap.size w w' := by
    intro w
    by_cases hn : n < -4611686018427387903 ∨ 4611686018427387903 < n
    · rw [putIR, if_pos hn]; exact putInt_bad n hn w
    · rw [putIR, if_neg hn]
      exact callsIn_wide.1 (putInt_in Fence.wide 3 trivial trivial trivial rfl (by omega) n (by omega) w)
  have hf := foreign (F := F) (args := [.va (.int .i64 n)]) (out := .ret (.tup [.va (.str (putIR n).1), .va (.int .i64 (putIR n).2)])) (vs := [.int .i64 n]) hent rfl (by
      rintro ρ vs' h
      match vs', h with
      | [v], h => rw [h.1]; rfl) (.returned (.tuple #[.string ⟨(putIR n).1.toArray⟩, .int .i64 (putIR n).2])) (fun ρ => ⟨_, rfl, rfl⟩) (fun C ρ w _ => key w)
  exact hf
end Go.Proofs.YtblllibdahkgfaaGreatDoor
