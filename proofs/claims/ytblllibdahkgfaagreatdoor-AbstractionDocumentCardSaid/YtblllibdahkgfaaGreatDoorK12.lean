import Derived.Test.YtblllibdahkgfaaGreatDoorK11
import Derived.Below
import Derived.ProofKit
import Derived.WalkKit
import Derived.RowKit
import Derived.OwnWalk
import Derived.Laws.AppendOwn
import Derived.Test.YtblllibdahkgfaaGreatDoorProg

namespace Go.Proofs.YtblllibdahkgfaaGreatDoor
open Go Sx
set_option maxRecDepth 100000
theorem fields50 : (Tryz.prog.fieldsOf 50).toList = [⟨ "Kind", 3, 0, false, "", "", 0⟩, ⟨ "N", 3, 1, false, "", "", 8⟩] := by kernel_rfl
theorem agg50 (a b c d : Int) : AggEq Tryz.prog 50 [.int .i64 a, .int .i64 b] [.int .i64 c, .int .i64 d] (decide (a = c) && decide (b = d)) := by
  unfold AggEq
  intro ρ w op x y
  refine ⟨run_eqGuard_agg _ _ _ _ _ _ _ Tryz.eqGuardType50, ?_⟩
  have h1 := run_equalIn_agg (P := Tryz.prog) w (9998 + 1) 50 #[.int .i64 a, .int .i64 b] #[.int .i64 c, .int .i64 d] (by kernel_rfl) Tryz.stoodInHeld50
  have h2 : (Op.eqFields (9998 + 1) #[Value.int .i64 a, .int .i64 b] #[Value.int .i64 c, .int .i64 d] (Tryz.prog.fieldsOf 50).toList).run Tryz.prog w = .ok (decide (a = c) && decide (b = d)) w := by
    rw [fields50]
    have p1 : ∀ (u v : Int), (Op.equalIn (9998 + 1) 3 (.int .i64 u) (.int .i64 v)).run Tryz.prog w = .ok (u == v) w := fun u v => run_equalIn_int w 9998 3 .i64 .i64 u v Tryz.underlying3
    have q : (isAgg 3).run Tryz.prog w = .ok false w := Tryz.isAgg3 w
    by_cases e1 : a = c <;> by_cases e2 : b = d <;> simp [Op.eqFields, part, q, p1, e1, e2]
  exact h1.trans h2
end Go.Proofs.YtblllibdahkgfaaGreatDoor

namespace Go.Proofs.YtblllibdahkgfaaGreatDoor
open Go Sx
set_option maxRecDepth 100000
abbrev Stp := Int × Int
def enc (s : Stp) : List SA := [.int .i64 s.1, .int .i64 s.2]
def encI (n : Int) : List SA := [.int .i64 n]
/-- A frozen slice of steps; of numbers. -/
abbrev StepsAt (F : Fz) (a : SA) (l : List Stp) : Prop := Sl F 50 2 enc a l
abbrev IntsAt (F : Fz) (a : SA) (l : List Int) : Prop := Sl F 3 1 encI a l
theorem enc_ren (μ : Mu) (l : List Stp) : (l.map enc).map (List.map (SA.ren μ)) = l.map enc := by
  rw [List.map_map]; exact List.map_congr_left fun s _ => rfl
theorem encI_ren (μ : Mu) (l : List Int) : (l.map encI).map (List.map (SA.ren μ)) = l.map encI := by
  rw [List.map_map]; exact List.map_congr_left fun s _ => rfl
theorem encB_ren (μ : Mu) (l : List Stp) (c : Nat) : (SB.arr 50 2 (l.map enc) c).ren μ = SB.arr 50 2 (l.map enc) c := by
  show SB.arr 50 2 ((l.map enc).map (List.map (SA.ren μ))) c = _; rw [enc_ren]
theorem encIB_ren (μ : Mu) (l : List Int) (c : Nat) : (SB.arr 3 1 (l.map encI) c).ren μ = SB.arr 3 1 (l.map encI) c := by
  show SB.arr 3 1 ((l.map encI).map (List.map (SA.ren μ))) c = _; rw [encI_ren]
theorem encB_below (n : Nat) (l : List Stp) (c : Nat) : (SB.arr 50 2 (l.map enc) c).below n := by
  intro x hx a ha
  obtain ⟨s, _, rfl⟩ := List.mem_map.1 hx
  simp only [enc, List.mem_cons, List.not_mem_nil, or_false] at ha
  rcases ha with rfl | rfl <;> trivial
theorem encIB_below (n : Nat) (l : List Int) (c : Nat) : (SB.arr 3 1 (l.map encI) c).below n := by
  intro x hx a ha
  obtain ⟨s, _, rfl⟩ := List.mem_map.1 hx
  simp only [encI, List.mem_cons, List.not_mem_nil, or_false] at ha
  subst ha; trivial
theorem wrap64_id {n : Int} (h1 : -9223372036854775808 ≤ n) (h2 : n ≤ 9223372036854775807) : IntKind.i64.wrap n = n := IntWalk.i64_in _ (by omega)
theorem cnt {k : Nat} (h : k < 4611686018427387904) : SA.int .i64 ((k + 1 : Nat) : Int) = SA.int .i64 (IntKind.i64.wrap ((k : Int) + 1)) := by
  rw [wrap64_id (by omega) (by omega)]; rfl
theorem neq_f {x y : Nat} (h : (!decide ((x : Int) = y)) = false) : x = y := by
  simp at h; omega
theorem mixed : Tryz.prog.follows .mixedOrders = true := by kernel_rfl
set_option maxHeartbeats 1000000 in
theorem same_fn (F : Fz) (sa sb : SA) (a b : List Stp) (ha : StepsAt F sa a) (hb : StepsAt F sb b) (la : a.length < 1000000) :
    Fo Tryz.prog F 19 [.va sa, .va sb] (fun o F' => o = .ret (.va (.bool (decide (a = b)))) ∧ F' = F) := by
  obtain ⟨na, ba, ea, ca, La, ra, rfl, ha1, ha2, ha3, ha4⟩ := ha
  obtain ⟨nb, bb, eb, cb, Lb, rb, rfl, hb1, hb2, hb3, hb4⟩ := hb
  have fin : ∀ (v : Bool) (h : Hp) (nx : Nat), v = decide (a = b) → lget h 0 = some (.frz F) →
      Cln 1 (FoK F fun o F' => o = .ret (.va (.bool (decide (a = b)))) ∧ F' = F) (.ret (.va (.bool v))) h nx := by
    intro v h nx hv h0
    exact endPu h0 (Fz.le_refl F) (by rw [hv]; rfl) rfl
  refine fo_of hΘ Tryz.func19 rfl (by decide) _ _ rfl rfl rfl ?_
  conv => whnf
  refine br (fun g => ?_) (fun g => ?_)
  · conv => whnf
    refine fin _ _ _ ?_ rfl
    have : ¬ a = b := by rintro rfl; simp at g
    simp [this]
  · have gl : a.length = b.length := neq_f g
    conv => whnf
    refine loop_at hΘ (X := { k : Nat // k ≤ a.length ∧ a.take k = b.take k }) (fun k => [(5, .va (.int .i64 k.1))]) [4, 11, 12, 13, 14, 15, 16, 17, 18, 19, 20, 21, 22, 23, 24, 25] (fz fun _ => F) 1 (fun k => a.length - k.1) ⟨0, by simp⟩
      (fun hH hT => le0 hH hT rfl (Fz.le_refl F) rfl ⟨rfl, trivial⟩) ?_
    rintro ⟨k, hk, hp⟩ hH hT
    conv => whnf
    refine br (fun g => ?_) (fun g => ?_)
    · have g : k < a.length := by simpa using g
      have gb : k < b.length := by omega
      conv => whnf
      refine draw hΘ mixed [(0, true), (1, true), (2, true), (3, true), (4, true), (5, true), (6, true), (7, true), (8, true)] [] (by kernel_rfl) ?_
      conv => whnf
      refine ⟨Sl.lt ha1 g, ⟨by simp, by simpa using g⟩, ?_⟩
      conv => whnf
      refine ⟨rfl, ?_⟩
      conv => whnf
      refine ⟨_, ha2 (Sl.lt ha1 g), ?_⟩
      conv => whnf
      refine ⟨_, Sl.at ha4 g, ?_⟩
      conv => whnf
      refine ⟨Sl.lt hb1 gb, ⟨by simp, by simpa using gb⟩, ?_⟩
      conv => whnf
      refine ⟨rfl, ?_⟩
      conv => whnf
      refine ⟨_, hb2 (Sl.lt hb1 gb), ?_⟩
      conv => whnf
      refine ⟨_, Sl.at hb4 gb, ?_⟩
      conv => whnf
      refine ⟨_, agg50 _ _ _ _, ?_⟩
      conv => whnf
      refine br (fun g2 => ?_) (fun g2 => ?_)
      · conv => whnf
        refine fin _ _ _ ?_ rfl
        have : ¬ a = b := by rintro rfl; simp at g2
        simp [this]
      · conv => whnf
        refine ⟨⟨k + 1, by omega, ?_⟩, by show a.length - (k + 1) < a.length - k; omega, lr0 hH hT rfl (Fz.le_refl F) rfl ⟨cnt (by omega), trivial⟩⟩
        have h3 : a[k] = b[k] := by
          simp at g2; exact Prod.ext g2.1 g2.2
        rw [List.take_succ_eq_append_getElem g, List.take_succ_eq_append_getElem gb, hp, h3]
    · conv => whnf
      refine fin _ _ _ ?_ rfl
      have g : ¬ k < a.length := by simpa using g
      have h1 : a = b := by
        rw [List.take_of_length_le (by omega), List.take_of_length_le (by omega)] at hp; exact hp
      simp [h1]
end Go.Proofs.YtblllibdahkgfaaGreatDoor

namespace Go.Proofs.YtblllibdahkgfaaGreatDoor
open Go Go.RowKit Sx
/-- A world in which the frozen blocks are. -/
def Holds (F : Fz) (w : World) : Prop := ∀ b B, F b = some B → B.below 1 ∧ ∃ o, w.heap[b]? = some o ∧ ∀ ρ : Rho, (∀ k, ρ 0 k = k) → B.ok ρ o
theorem lget0 {F : Fz} {i : Nat} {e : Ent} (h : lget [[(0, Ent.frz F)]] i = some e) : i = 0 ∧ e = .frz F := by
  cases i with
  | zero => exact ⟨rfl, by cases h; rfl⟩
  | succ i => simp [lget, aget, Nat.beq] at h
def ctx0 (W : World) : Ctx := { w0 := W, ρ0 := fun _ k => k, n0 := 1, B := fun _ => False, R := fun _ => True }
theorem satF {C : Ctx} {ρ : Rho} {F : Fz} {w : World} (hF : Holds F w) (h0 : ∀ k, ρ 0 k = k) (hn : C.n0 = 1) (ha : ∀ k, ρ 0 k = C.ρ0 0 k) (hos : w.os = C.w0.os) (htape : w.tape = C.w0.tape) (hout : w.output = C.w0.output) (hsz : C.w0.heap.size ≤ w.heap.size)
    (hfr : ∀ b, b < C.w0.heap.size → ¬ C.B b → w.heap[b]? = C.w0.heap[b]?) (hown : ∀ k, (F k).isSome = true → C.R k ∨ C.B k ∨ C.w0.heap.size ≤ k) : Sat C ρ [[(0, .frz F)]] 1 w where
  lt := fun i e h => by obtain ⟨rfl, rfl⟩ := lget0 h; omega
  blk := fun i e h k hk => by
    obtain ⟨rfl, rfl⟩ := lget0 h
    have hk : (F k).isSome = true := hk
    obtain ⟨B, hB⟩ := Option.isSome_iff_exists.1 hk
    obtain ⟨_, o, ho, hok⟩ := hF k B hB
    exact ⟨o, by rw [h0]; exact ho, by simp only [Ent.at, hB, Option.getD_some]; exact hok ρ h0⟩
  wf := fun i e h k hk => by
    obtain ⟨rfl, rfl⟩ := lget0 h
    have hk : (F k).isSome = true := hk
    obtain ⟨B, hB⟩ := Option.isSome_iff_exists.1 hk
    simp only [Ent.at, hB, Option.getD_some]; exact (hF k B hB).1
  inj := fun i k i' k' h h' e => by
    obtain ⟨_, h, _⟩ := h; obtain ⟨_, h', _⟩ := h'
    obtain ⟨rfl, _⟩ := lget0 h; obtain ⟨rfl, _⟩ := lget0 h'
    rw [h0, h0] at e; exact ⟨rfl, e⟩
  anch := fun i hi k => by
    rw [hn] at hi
    obtain rfl : i = 0 := by omega
    exact ha k
  n0 := by omega
  n1 := by omega
  os := hos
  tape := htape
  output := hout
  size := hsz
  fr := hfr
  own := fun i k h => by
    obtain ⟨e, h, hk⟩ := h
    obtain ⟨rfl, rfl⟩ := lget0 h
    have hk : (F k).isSome = true := hk
    rw [h0]
    rcases hown k hk with h | h | h
    · exact .inl ⟨rfl, h⟩
    · exact .inr (.inl h)
    · exact .inr (.inr h)
  fz := ⟨F, rfl, fun b B hB => (hF b B hB).1⟩
  id0 := h0
  only := fun i F' h => (lget0 h).1
  lnk := fun i b h => by obtain ⟨_, h⟩ := lget0 h; cases h
/-- A contract, from a true world. -/
theorem calls_of_Fo {P : Program} {F : Fz} {f : FuncId} {args : List SV} {vs : List Value} {W : World} (h : Fo P F f args fun o _ => o = .ret (.va (.bool true)) ∧ True) (hF : Holds F W) (hr : relL (fun _ k => k) args vs) (hb : ∀ s ∈ args, s.below 1) :
    Calls P f vs.toArray W fun e W' => e = .returned (.bool true) ∧ Below W.heap.size W W' := by
  unfold Fo CallWP at h
  have S0 : Sat (ctx0 W) (fun _ k => k) [[(0, .frz F)]] 1 W := satF hF (fun _ => rfl) rfl (fun _ => rfl) rfl rfl rfl (Nat.le_refl _) (fun _ _ _ => rfl) (fun _ _ => .inl trivial)
  have h2 := (h (ctx0 W) _ W vs S0 hr hb).2
  refine h2.mono ?_
  rintro e w' ⟨out, h', nx', ρ', hk, hrel, S, hag, hle, hbl⟩
  unfold Cln at hk
  obtain ⟨out0, F0, h0, n0, ρ0, ⟨k1, k2, k3, k4, k5⟩, r1, r2, S0, _⟩ := hk (ctx0 W) ρ' w' e rfl S hrel (by cases out <;> first | exact hbl | trivial)
  obtain ⟨rfl, -⟩ := k5
  obtain ⟨v, rfl, hv⟩ := r1
  refine ⟨by rw [hv]; rfl, ⟨S0.os, S0.tape, S0.output, S0.size, fun k hk => S0.fr k hk (fun h => h.elim)⟩⟩
end Go.Proofs.YtblllibdahkgfaaGreatDoor

namespace Go.Proofs.YtblllibdahkgfaaGreatDoor
open Go Go.RowKit Sx
attribute [local go_sem] Oper.semAt_some
/-- What a block that came in holds at a place. -/
def RawB (B : SB) (i : Nat) (z : Int) : Prop :=
  match B with
  | .obj (.cells cs _ _) => cs[i]? = some (.int .i64 z)
  | .cells _ l => l[i]? = some (.int .i64 z)
  | _ => False
def RawAt (F : Fz) (b off : Nat) (zs : List Int) : Prop := zs = [] ∨ ∃ B, F b = some B ∧ ∀ j (h : j < zs.length), RawB B (off + j) zs[j]
theorem RawAt.mono {F F' : Fz} {b off : Nat} {zs : List Int} (h : RawAt F b off zs) (hle : Fz.le F F') : RawAt F' b off zs := by
  rcases h with h | ⟨B, h1, h2⟩
  · exact .inl h
  · exact .inr ⟨B, hle _ _ h1, h2⟩
theorem RawB.cell {B : SB} {i b : Nat} {z : Int} {o : Obj} {ρ : Rho} {w : World} (h : RawB B i z) (hok : B.ok ρ o) (ho : w.heap[b]? = some o) : w.cell? ⟨b, i, none⟩ = some (.int .i64 z) := by
  cases B with
  | obj o' =>
    have hok : o = o' := hok
    subst hok
    cases o with
    | cells cs t fr =>
      have h : cs[i]? = some (.int .i64 z) := h
      simp [World.cell?, ho, h]
    | _ => exact h.elim
  | cells t l =>
    have h : l[i]? = some (.int .i64 z) := h
    obtain ⟨fr, _, rfl⟩ := hok
    simp [World.cell?, ho, h, SA.den]
  | arr t sz L room => exact h.elim
theorem takeAt_get : ∀ (l : List SA) (i : Nat) (x : SA), l[i]? = some x → takeAt l i 1 = some [x]
  | [], i, x, h => by simp at h
  | y :: r, 0, x, h => by
    simp at h; subst h
    cases r <;> rfl
  | y :: r, i + 1, x, h => by
    simp at h
    exact takeAt_get r i x h
end Go.Proofs.YtblllibdahkgfaaGreatDoor

namespace Go.Proofs.YtblllibdahkgfaaGreatDoor
open Go Go.RowKit Sx
theorem RawAt.cells {F : Fz} {b off : Nat} {zs : List Int} {w : World} (h : RawAt F b off zs) (hH : Holds F w) (j : Nat) (hj : j < zs.length) : w.cell? ⟨b, off + j, none⟩ = some (.int .i64 zs[j]) := by
  rcases h with h | ⟨B, h1, h2⟩
  · subst h; simp at hj
  · obtain ⟨_, o, ho, hok⟩ := hH _ _ h1
    exact (h2 j hj).cell (hok (fun _ k => k) (fun _ => rfl)) ho
end Go.Proofs.YtblllibdahkgfaaGreatDoor
