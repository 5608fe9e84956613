import Derived.Test.YtblllibdahkgfaaGreatDoorK09
import Derived.LoopN
import Derived.Recover
import Derived.Below

/- A symbolic executor, part y: loops of a few rounds; contracts of the library; deferred calls. No program is named here. -/
namespace Sx
open Go Go.RowKit
theorem atomE_refl (a : SA) : atomE a a := by
  cases a <;> simp [atomE]
theorem tupE_refl : ∀ l : List SC, tupE l l
  | [] => trivial
  | .va a :: r => ⟨atomE_refl a, tupE_refl r⟩
  | .agg _ :: r => ⟨rfl, tupE_refl r⟩
theorem svE_refl (v : SV) : svE v v := by
  cases v with
  | va a => exact atomE_refl a
  | agg l => rfl
  | tup l => exact tupE_refl l
  | junk => rfl
theorem outE_refl (o : Out) : outE o o := by
  cases o with
  | ret v => exact svE_refl v
  | panic v => rfl
section
variable {P : Program} {Θ : Tys} {C : Ctx} {ρ : Rho} {st : St} {a : Act} {w : World} {Q : SE → St → Prop}
/-- At most n rounds of a loop. -/
def sround (P : Program) (Θ : Tys) (body : Code) (Q : SE → St → Prop) : Nat → St → Prop
  | 0, _ => False
  | n + 1, st => sx P Θ body st fun e st' => (match e with
    | .normal => sround P Θ body Q n st'
    | .ret => Q .ret st'
    | .exit id => Q (.exit id) st'
    | .panic v => Q (.panic v) st')
theorem sround_rounds (hΘ : Θ.Ok P) {body : Code} : ∀ (n : Nat) (st : St) (ρ : Rho) (a : Act) (w : World), sround P Θ body Q n st → Den C ρ st a w → Code.rounds P body (Up C Q) n a w
  | 0, st, ρ, a, w, h, _ => h.elim
  | n + 1, st, ρ, a, w, h, D => by
    have h1 := sx_sound hΘ body st _ h
    unfold WP at h1
    refine wp_mono (h1 C ρ a w D) ?_
    rintro e a' w' ⟨se, st', ρ', hq, rfl, D'⟩
    cases se with
    | normal => exact sround_rounds hΘ n st' ρ' a' w' hq D'
    | ret => exact ⟨.ret, st', ρ', hq, rfl, D'⟩
    | exit id => exact ⟨.exit id, st', ρ', hq, rfl, D'⟩
    | panic v => exact ⟨.panic v, st', ρ', hq, rfl, D'⟩
theorem rounds (hΘ : Θ.Ok P) {body : Code} (n : Nat) (h : sround P Θ body Q n st) : WP P (.loop body) st Q := by
  unfold WP
  intro C ρ a w D
  exact wp_loop_rounds n (sround_rounds hΘ n st ρ a w h D)
/-- What a function of the library does: it makes memory, and changes none that was there. -/
theorem Sat.belowW {h : Hp} {nx : Nat} {w w' : World} (S : Sat C ρ h nx w) (hb : Below w.heap.size w w') : Sat C ρ h nx w' :=
  { S with
    blk := fun i e he k hk => by
      obtain ⟨o, ho, hok⟩ := S.blk i e he k hk
      exact ⟨o, by rw [hb.block _ (Array.getElem?_eq_some_iff.1 ho).1]; exact ho, hok⟩
    os := hb.os.trans S.os, tape := hb.tape.trans S.tape, output := hb.output.trans S.output
    size := Nat.le_trans S.size hb.size
    fr := fun b hlt hB => by rw [hb.block b (Nat.lt_of_lt_of_le hlt S.size)]; exact S.fr b hlt hB }
/-- A contract of the library, over plain values, as a contract here. -/
theorem foreign {F : Fz} {f : FuncId} {args : List SV} {out : Out} {vs : List Value} (hent : Enters P f) (hz : out.z = true)
    (hv : ∀ ρ vs', relL ρ args vs' → vs' = vs) (e : Ending) (he : ∀ ρ, out.rel ρ e)
    (hc : ∀ C ρ w, Sat C ρ [[(0, .frz F)]] 1 w → Calls P f vs.toArray w fun e' w' => e' = e ∧ Below w.heap.size w w') :
    Fo P F f args fun o F' => o = out ∧ F' = F := by
  unfold Fo CallWP
  intro C ρ w vs' S hr hbl
  obtain rfl := hv ρ vs' hr
  refine ⟨hent, (hc C ρ w S).mono ?_⟩
  rintro e' w' ⟨rfl, hb⟩
  refine ⟨out, [[(0, .frz F)]], 1, ρ, ?_, he ρ, S.belowW hb, fun _ _ => rfl, Nat.le_refl _, ?_⟩
  · exact endFo out F rfl (Fz.le_refl F) (Fz.le_refl F) ⟨rfl, rfl⟩ (by
      rw [Out.ren_id (μ := resP [[(0, .frz F)]]) (.inl hz) (fun k => rfl)]; exact outE_refl out) hz
  · have := Out.z_below hz
    cases out with
    | ret v => exact this
    | panic v => trivial
/-- The mode in which a deferred call runs. -/
def modeOf : Option Value → FrameMode
  | none => .returning
  | some v => .panicking [{ v, recovered := false }]
/-- A deferred call that returns, and behind which the function returns. -/
@[irreducible] def DefWP (P : Program) (f : FuncId) (args : List SA) (h : Hp) (nx : Nat) (m : Option Value) (K : Hp → Nat → Prop) : Prop :=
  ∀ C ρ w, Sat C ρ h nx w → (∀ a ∈ args, a.below nx) →
    Enters P f ∧ CallsD P f (args.map (SA.den ρ)).toArray (modeOf m) w fun e u w' => ∃ v h' nx' ρ', e = .returned v ∧ settle u = .returning ∧ K h' nx' ∧ Sat C ρ' h' nx' w' ∧ (∀ i, i < nx → ρ' i = ρ i) ∧ nx ≤ nx'
/-- How the end of a body that has deferred calls becomes a call's outcome. -/
def endQD (P : Program) (Θ : Tys) (rs : List ResultVar) (K : Out → Hp → Nat → Prop) : SE → St → Prop := fun e st =>
  match e with
  | .normal => (match st.d with
    | [] => False
    | (f, as) :: r => r = [] ∧ DefWP P f as st.h st.nx none fun h nx => sres Θ { st with h := h, nx := nx } rs fun v => K (.ret v) h nx)
  | .ret => (match st.d with
    | [] => False
    | (f, as) :: r => r = [] ∧ DefWP P f as st.h st.nx none fun h nx => sres Θ { st with h := h, nx := nx } rs fun v => K (.ret v) h nx)
  | .panic v => (match st.d with
    | [] => False
    | (f, as) :: r => r = [] ∧ DefWP P f as st.h st.nx (some v) fun h nx => sres Θ { st with h := h, nx := nx } rs fun v => K (.ret v) h nx)
  | .exit _ => False
theorem leaves_of (hΘ : Θ.Ok P) {fn : Func} {st : St} {rs : List ResultVar} (hrs : fn.results.toList = rs) {K : Out → Hp → Nat → Prop} {R : Ending → World → Prop} (m : Option Value) {f : FuncId} {as : List SA} {r : List (FuncId × List SA)}
    (hd : st.d = (f, as) :: r) (hr : r = []) (D : Den C ρ st a w)
    (hw : DefWP P f as st.h st.nx m fun h nx => sres Θ { st with h := h, nx := nx } rs fun v => K (.ret v) h nx)
    (hR : ∀ v sv h' nx' ρ' w', K (.ret sv) h' nx' → sv.rel ρ' v → sv.below nx' → Sat C ρ' h' nx' w' → (∀ i, i < st.nx → ρ' i = ρ i) → st.nx ≤ nx' → R (.returned v) w') :
    Leaves P fn a.tmps R a.defers (modeOf m) w := by
  have hdf := D.df
  have hdw := D.dw
  subst hr
  rw [hd] at hdf hdw
  rw [hdf]
  unfold DefWP at hw
  obtain ⟨hent, hc⟩ := hw C ρ w D.sat (hdw (f, as) (by simp))
  unfold Enters at hent
  refine ⟨by cases m <;> simp [modeOf], .func f, #[], f, (as.map (SA.den ρ)).toArray, rfl, ?_, ?_⟩
  · have e1 : (as.map (SA.den ρ)).toArray ++ (#[] : Array Value) = (as.map (SA.den ρ)).toArray := by simp
    simp only [defOf, invoke, e1, hent]
  · refine hc.mono ?_
    rintro e u w' ⟨v, h', nx', ρ', rfl, hu, hk, S', hag, hle⟩
    have D' := D.heap S' hag hle
    obtain ⟨v', sv, h1, h2, h3, h4⟩ := sres_sound (fn := fn) hΘ D' (by rw [hrs]; exact hk)
    show Leaves P fn a.tmps R [] (settle u) w'
    rw [hu]
    exact ⟨v', h1, hR v' sv h' nx' ρ' w' h4 h2 h3 S' hag hle⟩
/-- A contract, by running a body that defers. -/
theorem call_ofD (hΘ : Θ.Ok P) {f : FuncId} {fn : Func} {c : Code} {args : List SV} {h : Hp} {nx : Nat} {K : Out → Hp → Nat → Prop} (hf : P.funcs[f]? = some fn) (hb : fn.body = some c) (hn : (fn.name == "runtime.NumGoroutine") = false)
    (nt : Nat) (rs : List ResultVar) (hnt : fn.ntmps = nt) (hrs : fn.results.toList = rs) (hl : Nat.ble args.length nt = true)
    (hx : WP P c ⟨[argsAt 0 args], h, nx, nx, nt, []⟩ (endQD P Θ rs K)) : CallWP P f args h nx K := by
  unfold CallWP
  intro C ρ w vs S hrel hbl
  refine ⟨enters_of hf hb hn, ?_⟩
  unfold WP at hx
  let C1 : Ctx := { C with ρ0 := ρ, n0 := nx }
  have S1 : Sat C1 ρ h nx w := { S with anch := fun _ _ _ => rfl, n0 := Nat.le_refl _, n1 := S.pos }
  have hlen := relL_len hrel
  have hle := Nat.le_of_ble_eq_true hl
  have D : Den C1 ρ ⟨[argsAt 0 args], h, nx, nx, nt, []⟩ { tmps := vs.toArray ++ Array.replicate (fn.ntmps - vs.toArray.size) undef, defers := [] } w := by
    refine { sat := S1, nt := ?_, tm := ?_, tw := ?_, n0 := rfl, df := rfl, dw := by simp }
    · simp; omega
    · intro n s hs
      simp only [lget] at hs
      split at hs
      · rename_i v hv
        cases hs
        obtain ⟨u, _, h2, h3, _⟩ := argsAt_get (nx := nx) args vs 0 n s hrel hv
        simp only [Nat.sub_zero] at h2
        refine ⟨u, ?_, h3⟩
        rw [Array.getElem?_append_left (by simpa using (List.getElem?_eq_some_iff.1 h2).1)]
        simpa using h2
      · simp at hs
    · intro n s hs
      simp only [lget] at hs
      split at hs
      · rename_i v hv
        cases hs
        obtain ⟨u, _, _, _, h4⟩ := argsAt_get (nx := nx) args vs 0 n s hrel hv
        exact hbl s h4
      · simp at hs
  refine calls_of_wp_defers hf hb (wp_mono (hx C1 ρ _ w D) ?_)
  rintro e a' w' ⟨se, st', ρ', hq, rfl, D'⟩
  have back : ∀ {ρ2 : Rho} {h2 : Hp} {nx2 : Nat} {w2 : World}, Sat C1 ρ2 h2 nx2 w2 → Sat C ρ2 h2 nx2 w2 := fun S2 => { S2 with
    anch := fun i hi k => by rw [S2.anch i (Nat.lt_of_lt_of_le hi S.n0) k]; exact S.anch i hi k
    n0 := Nat.le_trans S.n0 S2.n0
    n1 := S.n1 }
  have fin : ∀ v sv h2 nx2 ρ2 w2, K (.ret sv) h2 nx2 → sv.rel ρ2 v → sv.below nx2 → Sat C1 ρ2 h2 nx2 w2 → (∀ i, i < st'.nx → ρ2 i = ρ' i) → st'.nx ≤ nx2 →
      ∃ out h' nx' ρ', K out h' nx' ∧ out.rel ρ' (Ending.returned v) ∧ Sat C ρ' h' nx' w2 ∧ (∀ i, i < nx → ρ' i = ρ i) ∧ nx ≤ nx' ∧ (match out with | .ret s => s.below nx' | .panic _ => True) := by
    intro v sv h2 nx2 ρ2 w2 hk hr hb2 S2 hag hle2
    exact ⟨.ret sv, h2, nx2, ρ2, hk, ⟨v, rfl, hr⟩, back S2, fun i hi => funext fun k => S2.anch i hi k, Nat.le_trans D'.sat.n0 hle2, hb2⟩
  cases se with
  | normal =>
    simp only [endQD] at hq
    split at hq
    · exact hq.elim
    · rename_i f2 as r hd
      exact leaves_of hΘ hrs none hd hq.1 D' hq.2 fin
  | ret =>
    simp only [endQD] at hq
    split at hq
    · exact hq.elim
    · rename_i f2 as r hd
      exact leaves_of hΘ hrs none hd hq.1 D' hq.2 fin
  | panic v =>
    simp only [endQD] at hq
    split at hq
    · exact hq.elim
    · rename_i f2 as r hd
      exact leaves_of hΘ hrs (some v) hd hq.1 D' hq.2 fin
  | exit id => exact hq.elim
def sasOf : List SV → Option (List SA)
  | [] => some []
  | .va a :: r => (match sasOf r with
    | some l => some (a :: l)
    | none => none)
  | _ :: _ => none
theorem sasOf_rel {ρ : Rho} {n : Nat} : ∀ {l : List SV} {as : List SA} {vs : List Value}, sasOf l = some as → relL ρ l vs → (∀ s ∈ l, s.below n) → vs = as.map (SA.den ρ) ∧ ∀ a ∈ as, a.below n
  | [], as, [], h, _, _ => by simp [sasOf] at h; subst h; simp
  | [], as, v :: r, h, hr, _ => hr.elim
  | s :: r, as, [], h, hr, _ => hr.elim
  | s :: r, as, v :: vr, h, hr, hb => by
    unfold sasOf at h
    split at h
    · rename_i heq; cases heq
    · rename_i a r' heq
      cases heq
      split at h
      · rename_i l' hl
        cases h
        obtain ⟨h1, h2⟩ := sasOf_rel hl hr.2 (fun s hs => hb s (by simp [hs]))
        refine ⟨by rw [h1, hr.1]; rfl, ?_⟩
        intro x hx
        rcases List.mem_cons.1 hx with rfl | hx
        · exact hb (.va x) (by simp)
        · exact h2 x hx
      · cases h
    · cases h
/-- A deferred call of a function by its name. -/
theorem WP_defer {id : Nat} {o : Oper} {f : FuncId} {args : Array Operand} {ts : Array TypeId} (ho : o.op = .defer ⟨.value (.func f), args, ts⟩) (hg : o.guard = none) (hdst : o.dst = none) {as : List SA} (has : sasOf (evL st.t args.toList) = some as)
    (hq : Q .normal { st with d := (f, as) :: st.d }) : WP P (.region id #[o] false) st Q := by
  unfold WP
  intro C ρ a w D
  refine wp_region_list ?_
  obtain ⟨h1, h2⟩ := evL_rel D args.toList
  obtain ⟨e1, e2⟩ := sasOf_rel has h1 h2
  have hrun : (execOp a.eval o).run P w = .ok (.defer (defOf ρ (f, as))) w := by
    obtain ⟨dst, op, type, pos, after, guard⟩ := o
    simp only at ho; subst ho
    have e3 : args.map a.eval = (as.map (SA.den ρ)).toArray := by apply Array.ext'; simpa using e1
    simp [execOp, resolve, Act.eval, Deferred.ofValue, defOf, e3]
  have hwant : Region.wanted o (yielded #[o] a.tmps) = true := by simp [Region.wanted, hg]
  show wpList P #[o] (Up C Q) [o] a w
  simp only [wpList, hwant, if_true]
  left
  simp only [Oper.wp, hrun, Oper.upon]
  refine ⟨.normal, _, ρ, hq, rfl, ?_⟩
  rw [hdst]
  have hdw : ∀ x ∈ (f, as) :: st.d, ∀ b ∈ x.2, b.below st.nx := by
    intro x hx
    rcases List.mem_cons.1 hx with rfl | hx
    · exact e2
    · exact D.dw x hx
  exact { sat := D.sat, nt := D.nt, tm := D.tm, tw := D.tw, n0 := D.n0, df := by simp [Act.put, D.df], dw := hdw }
end
end Sx

/- A symbolic executor, part z: loops whose rounds keep blocks of their own; lists of lists; handy forms. No program is named here. -/
namespace Sx
open Go
def ckI (s : List (Nat × Mv)) (upd jl : List (Nat × SV)) (hup : List (Nat × Ent)) (n0 nt N0 N : Nat) : Bool :=
  (jl.all fun p => isJunk p.2 && Nat.ble (p.1 + 1) nt) && (upd.all fun p => Nat.ble (p.1 + 1) nt) && Nat.ble n0 N0 && Nat.ble N0 N && (upd.all fun p => p.2.bB N) && chkS s hup N0 N
/-- At a loop's door. -/
theorem leI {T : List (List (Nat × SV))} {upd jl : List (Nat × SV)} {H : Hp} {hup : List (Nat × Ent)} {n0 nt N0 N : Nat} (s : List (Nat × Mv)) (hH : WfH H N0) (hT : WfT T N0)
    (hc : ckI s upd jl hup n0 nt N0 N = true) (wh : bH N hup) (ht : leT s T upd) (hh : leH s H hup) : Le ⟨T, H, N0, n0, nt, []⟩ ⟨upd :: jl :: T, hup :: H, N, n0, nt, []⟩ := by
  simp only [ckI, Bool.and_eq_true] at hc
  obtain ⟨⟨⟨⟨⟨c1, c2⟩, c3⟩, c4⟩, c5⟩, c6⟩ := hc
  exact le_init N s hH hT c4 c3 (fun _ h => nomatch h) c1 c2 c6 (bT_of c5) wh ht hh
/-- At a round's end. -/
theorem leR {T : List (List (Nat × SV))} {top upd jl : List (Nat × SV)} {H : Hp} {htop hup : List (Nat × Ent)} {nx1 n0 nt N0 N : Nat} (s : List (Nat × Mv)) (hH : WfH H N0) (hT : WfT T N0)
    (hc : (ckI s upd jl hup n0 nt N0 N && (top.all fun p => (aget upd p.1).isSome || (aget jl p.1).isSome) && (htop.all fun p => (aget hup p.1).isSome || Nat.ble N0 p.1)) = true)
    (wh : bH N hup) (ht : leT s (top :: jl :: T) upd) (hh : leH s (htop :: H) hup) : Le ⟨top :: jl :: T, htop :: H, nx1, n0, nt, []⟩ ⟨upd :: jl :: T, hup :: H, N, n0, nt, []⟩ := by
  simp only [ckI, Bool.and_eq_true] at hc
  obtain ⟨⟨⟨⟨⟨⟨⟨c1, c2⟩, c3⟩, c4⟩, c5⟩, c6⟩, c7⟩, c8⟩ := hc
  exact le_round N0 N s hH hT c4 c3 (fun _ h => nomatch h) c1 c2 c7 c8 c6 (bT_of c5) wh ht hh
theorem lget_skip {β : Type} {R : List (List (Nat × β))} {n : Nat} : ∀ (ts : List (List (Nat × β))), (∀ l ∈ ts, aget l n = none) → lget (ts ++ R) n = lget R n
  | [], _ => rfl
  | l :: r, h => by
    have h1 := h l (by simp)
    show (match aget l n with | some v => some v | none => lget (r ++ R) n) = _
    rw [h1]; exact lget_skip r fun l' hl' => h l' (by simp [hl'])
/-- At a round's end, behind an inner loop. -/
theorem leRn {T : List (List (Nat × SV))} (ts : List (List (Nat × SV))) {upd jl : List (Nat × SV)} {H : Hp} (hs : List (List (Nat × Ent))) {hup : List (Nat × Ent)} {nx1 n0 nt N0 N : Nat} (s : List (Nat × Mv)) (hH : WfH H N0) (hT : WfT T N0)
    (hc : (ckI s upd jl hup n0 nt N0 N && (ts.all fun l => l.all fun p => (aget upd p.1).isSome || (aget jl p.1).isSome) && (hs.all fun l => l.all fun p => (aget hup p.1).isSome || Nat.ble N0 p.1)) = true)
    (wh : bH N hup) (ht : leT s (ts ++ (jl :: T)) upd) (hh : leH s (hs ++ H) hup) : Le ⟨ts ++ (jl :: T), hs ++ H, nx1, n0, nt, []⟩ ⟨upd :: jl :: T, hup :: H, N, n0, nt, []⟩ := by
  simp only [ckI, Bool.and_eq_true] at hc
  obtain ⟨⟨⟨⟨⟨⟨⟨c1, c2⟩, c3⟩, c4⟩, c5⟩, c6⟩, c7⟩, c8⟩ := hc
  refine le_gen N0 N s hH hT (Nat.le_of_ble_eq_true c4) (Nat.le_of_ble_eq_true c3) (fun _ h => nomatch h) ht ?_ c1 c2 hh ?_ c6 (bT_of c5) wh
  · intro n h1 h2
    rw [lget_skip ts fun l hl => aget_none_of (γ := Nat) (f := fun m => (aget upd m).isSome || (aget jl m).isSome) (List.all_eq_true.1 c7 l hl) (by simp [h1, h2])]
    simp [lget, h2]
  · intro i hi h1
    refine lget_skip hs fun l hl => aget_none_of (γ := Nat) (f := fun m => (aget hup m).isSome || Nat.ble N0 m) (List.all_eq_true.1 c8 l hl) ?_
    simp only [h1, Option.isSome_none, Bool.false_or]
    cases hb : Nat.ble N0 i with
    | false => rfl
    | true => have := Nat.le_of_ble_eq_true hb; omega
section
variable {P : Program} {h : Hp} {nx : Nat} {i : Nat} {e : Ent} {F : Fz}
/-- A family is lent for a call, whatever names its blocks bear: while it runs, its blocks are frozen. -/
theorem lend {f : FuncId} {args : List SV} {K : Out → Hp → Nat → Prop} (i : Nat) (fb : Nat → SB) (he : lget h i = some e) (hF : lget h 0 = some (.frz F)) (hp : e.plain = true)
    (hf : ∀ k, e.has k → (e.at k).ren (resP h) = fb k) (hb : ∀ k, e.has k → (fb k).below 1)
    (hk : ∀ b F', Fz.le F F' → (∀ k, e.has k → F' (b k) = some (fb k)) → CallWP P f args (lput (lput h i (.lnk b)) 0 (.frz F')) nx
      (fun out h' nx' => ∃ F2, lget h' 0 = some (.frz F2) ∧ Fz.le F' F2 ∧ lget h' i = some (.lnk b) ∧ K out (lput (lput h' i e) 0 (.frz F)) nx')) : CallWP P f args h nx K := by
  unfold CallWP at *
  intro C ρ w vs S hr hbl
  obtain ⟨F', h1, h2, S'⟩ := S.freeze he hp hF fb hf hb
  obtain ⟨hen, hcall⟩ := hk (ρ i) F' h1 (fun k hk' => (h2 k hk').2) C ρ w vs S' hr hbl
  refine ⟨hen, hcall.mono ?_⟩
  rintro en w' ⟨out, h', nx', ρ', ⟨F2, g0, gle, gi, hK⟩, k2, S2, k4, k5, k6⟩
  refine ⟨out, _, nx', ρ', hK, k2, ?_, k4, k5, k6⟩
  have hi0 := S.ne0 he hp
  obtain ⟨Fs, hFs, hFb⟩ := S.fz
  rw [hF] at hFs; cases hFs
  have hρi : ρ' i = ρ i := k4 i (S.lt _ _ he)
  have look : ∀ j x, lget (lput (lput h' i e) 0 (.frz F)) j = some x → (j = 0 ∧ x = .frz F) ∨ (j = i ∧ x = e) ∨ (j ≠ 0 ∧ j ≠ i ∧ lget h' j = some x) := by
    intro j x hx
    by_cases hj : j = 0
    · subst hj; rw [lget_lput_same] at hx; cases hx; exact .inl ⟨rfl, rfl⟩
    · rw [lget_lput_other _ _ _ _ hj] at hx
      by_cases hji : j = i
      · subst hji; rw [lget_lput_same] at hx; cases hx; exact .inr (.inl ⟨rfl, rfl⟩)
      · rw [lget_lput_other _ _ _ _ hji] at hx; exact .inr (.inr ⟨hj, hji, hx⟩)
  have f2 : ∀ k, e.has k → F2 (ρ i k) = some (fb k) := fun k hk' => gle _ _ (h2 k hk').2
  have own1 : ∀ j k, St.owns (lput (lput h' i e) 0 (.frz F)) j k → (j ≠ i ∧ St.owns h' j k) ∨ (j = i ∧ e.has k ∧ St.owns h' 0 (ρ i k)) := by
    rintro j k ⟨x, hx, hk'⟩
    rcases look j x hx with ⟨rfl, rfl⟩ | ⟨rfl, rfl⟩ | ⟨q1, q2, q3⟩
    · obtain ⟨B, hB⟩ := Option.isSome_iff_exists.1 hk'
      exact .inl ⟨Ne.symm hi0, _, g0, by simp [Ent.has, gle k B (h1 k B hB)]⟩
    · exact .inr ⟨rfl, hk', _, g0, by simp [Ent.has, f2 k hk']⟩
    · exact .inl ⟨q2, x, q3, hk'⟩
  have own0 : ∀ k, St.owns (lput (lput h' i e) 0 (.frz F)) 0 k → (F k).isSome = true := by
    rintro k ⟨x, hx, hk'⟩
    rw [lget_lput_same] at hx; cases hx; exact hk'
  refine { lt := ?_, blk := ?_, wf := ?_, inj := ?_, anch := S2.anch, n0 := S2.n0, n1 := S2.n1, os := S2.os, tape := S2.tape, output := S2.output, size := S2.size, fr := S2.fr, own := ?_, fz := ⟨F, lget_lput_same _ _ _, hFb⟩, id0 := S2.id0, only := ?_, lnk := ?_ }
  · intro j x hx
    rcases look j x hx with ⟨rfl, rfl⟩ | ⟨rfl, rfl⟩ | ⟨q1, q2, q3⟩
    · exact S2.pos
    · exact S2.lt _ _ gi
    · exact S2.lt _ _ q3
  · intro j x hx k hk'
    rcases look j x hx with ⟨rfl, rfl⟩ | ⟨rfl, rfl⟩ | ⟨q1, q2, q3⟩
    · obtain ⟨B, hB⟩ := Option.isSome_iff_exists.1 hk'
      have hB2 := gle k B (h1 k B hB)
      obtain ⟨o, ho, hok⟩ := S2.blk 0 _ g0 k (by simp [Ent.has, hB2])
      simp only [Ent.at, hB2, hB, Option.getD_some] at hok ⊢
      exact ⟨o, ho, hok⟩
    · obtain ⟨o, ho, hok⟩ := S2.blk 0 _ g0 (ρ j k) (by simp [Ent.has, f2 k hk'])
      simp only [Ent.at, f2 k hk', Option.getD_some] at hok
      rw [S2.id0] at ho
      refine ⟨o, by rw [hρi]; exact ho, ?_⟩
      rw [← hf k hk'] at hok
      refine SB.ok_congr (ρ := (resP h).pull ρ') (n := nx) (fun m hm => ?_) (S.wf _ _ he k hk') ((SB.ok_ren (resP h) ρ' _ o).1 hok)
      funext q
      simp only [Mu.pull, resP]
      split
      · rename_i b hl
        rw [k4 m hm, S.lnk m b hl q, k4 0 S.pos, S.id0]
      · rfl
    · exact S2.blk _ _ q3 k hk'
  · intro j x hx k hk'
    rcases look j x hx with ⟨rfl, rfl⟩ | ⟨rfl, rfl⟩ | ⟨q1, q2, q3⟩
    · obtain ⟨B, hB⟩ := Option.isSome_iff_exists.1 hk'
      simp only [Ent.at, hB, Option.getD_some]
      exact SB.below_mono S2.pos (hFb k B hB)
    · exact SB.below_mono k5 (S.wf _ _ he k hk')
    · exact S2.wf _ _ q3 k hk'
  · intro j k j' k' o1 o2 heq
    rcases own1 j k o1 with ⟨q1, q2⟩ | ⟨rfl, q2, q3⟩ <;> rcases own1 j' k' o2 with ⟨r1, r2⟩ | ⟨rfl, r2, r3⟩
    · exact S2.inj _ _ _ _ q2 r2 heq
    · have := S2.inj _ _ _ _ q2 r3 (by rw [heq, S2.id0, hρi])
      have hj := this.1
      subst hj
      have hk2 := this.2
      subst hk2
      have := own0 _ o1
      rw [(h2 k' r2).1] at this; cases this
    · have := S2.inj _ _ _ _ r2 q3 (by rw [← heq, S2.id0, hρi])
      have hj := this.1
      subst hj
      have hk2 := this.2
      subst hk2
      have := own0 _ o2
      rw [(h2 k q2).1] at this; cases this
    · rw [hρi] at heq
      exact S.inj _ _ _ _ ⟨e, he, q2⟩ ⟨e, he, r2⟩ heq
  · intro j k o1
    rcases own1 j k o1 with ⟨q1, q2⟩ | ⟨rfl, q2, q3⟩
    · exact S2.own _ _ q2
    · rw [hρi]; exact S.own _ _ ⟨e, he, q2⟩
  · intro j F1 hF1
    rcases look j _ hF1 with ⟨rfl, _⟩ | ⟨rfl, h⟩ | ⟨_, _, h3⟩
    · rfl
    · rw [← h] at hp; cases hp
    · exact S2.only _ _ h3
  · intro j b hl k
    rcases look j _ hl with ⟨_, h⟩ | ⟨rfl, h⟩ | ⟨_, _, h3⟩
    · cases h
    · rw [← h] at hp; cases hp
    · exact S2.lnk _ _ h3 k
end
theorem SlR.lt {α : Type} {nil : Bool} {l : List α} (hn : nil = true → l = []) {k : Nat} (hk : k < l.length) : nil = false := Sl.lt hn hk
theorem SlR.at {α : Type} {R : List SA → α → Prop} {e : Nat} {L : List (List SA)} {l : List α} (h : ∀ (k : Nat) x, l[k]? = some x → ∃ y, L[e + k]? = some y ∧ R y x) {k : Nat} (hk : k < l.length) :
    ∃ y, L[e + (k : Int).toNat]? = some y ∧ R y l[k] := h k l[k] (by simp [hk])
/-- Two lists of cells, a list of elements: a slice of slices. -/
theorem SlR.new {α : Type} {F : Fz} {t sz : Nat} {R : List SA → α → Prop} {b cap room : Nat} {L : List (List SA)} {l : List α} (hF : F b = some (.arr t sz L room)) (hl : L.length = l.length)
    (h : ∀ (k : Nat) x, l[k]? = some x → ∃ y, L[k]? = some y ∧ R y x) : SlR F t sz R (.slice false 0 b 0 sz l.length cap) l :=
  ⟨false, b, 0, cap, L, room, rfl, fun h => (nomatch h), fun _ => hF, by omega, fun k x hx => by obtain ⟨y, h1, h2⟩ := h k x hx; exact ⟨y, by rw [Nat.zero_add]; exact h1, h2⟩⟩
/-- A slice that the text makes by append: nil as long as nothing has come; its block. -/
def gA {α : Type} (sz i c : Nat) : List α → SA
  | [] => .nilsl
  | _ :: r => .slice false i 0 0 sz (r.length + 1) c
def gE {α : Type} (t sz : Nat) (e : α → List SA) (c : Nat) (l : List α) : Ent := .opt (!l.isEmpty) (.arr t sz (l.map e) c)
/-- An encoding that names no block. -/
def Plain {α : Type} (e : α → List SA) : Prop := ∀ x, (∀ μ : Mu, (e x).map (SA.ren μ) = e x) ∧ ∀ a ∈ e x, a.below 0
theorem gB_ren {α : Type} {e : α → List SA} (he : Plain e) {L : List (List SA)} {l : List α} (h : L = l.map e) (t sz : Nat) (μ : Mu) (c : Nat) : (SB.arr t sz L c).ren μ = SB.arr t sz (l.map e) c := by
  subst h
  show SB.arr t sz ((l.map e).map (List.map (SA.ren μ))) c = _
  rw [List.map_map]; congr 1
  exact List.map_congr_left fun x _ => (he x).1 μ
theorem gB_below {α : Type} {e : α → List SA} (he : Plain e) (t sz n c : Nat) (l : List α) : (SB.arr t sz (l.map e) c).below n := by
  intro x hx a ha
  obtain ⟨y, _, rfl⟩ := List.mem_map.1 hx
  exact SA.below_mono (Nat.zero_le _) ((he y).2 a ha)
theorem gE_ren {α : Type} {e : α → List SA} (he : Plain e) (t sz c : Nat) (μ : Mu) (l : List α) : (gE t sz e c l).ren μ = gE t sz e c l := by
  show Ent.opt _ (SB.ren μ _) = _; rw [gB_ren he rfl]; rfl
theorem gE_below {α : Type} {e : α → List SA} (he : Plain e) (t sz n c : Nat) (l : List α) : (gE t sz e c l).below n := gB_below he t sz n c l
theorem sub_gE {α : Type} {e : α → List SA} (he : Plain e) {t sz c : Nat} {μ : Mu} {l : List α} {x : Option Ent} (h : subE x (gE t sz e c l)) : subE x ((gE t sz e c l).ren μ) := by rw [gE_ren he]; exact h
theorem gE_self {α : Type} {e : α → List SA} (t sz c : Nat) (l : List α) : subE (some (gE t sz e c l)) (gE t sz e c l) := ⟨rfl, rfl⟩
theorem gE_one {α : Type} {e : α → List SA} {t sz c : Nat} {l : List α} (L : List (List SA)) (h : L = l.map e) : subE (some (.one (.arr t sz L c))) (gE t sz e c l) := by rw [h]; exact rfl
theorem gA_new {α : Type} {μ : Mu} {i j : Nat} (h : μ i 0 = (j, 0)) (sz c n : Nat) (l : List α) (x : α) (hn : n = l.length + 1) : atomE ((gA sz i c (l ++ [x])).ren μ) (SA.slice false j 0 0 sz n c) := by
  subst hn
  cases l with
  | nil => simp only [gA, List.nil_append, SA.ren, h]; exact ⟨rfl, rfl, rfl, .inr ⟨rfl, rfl, rfl, rfl⟩⟩
  | cons y r => simp only [gA, List.cons_append, SA.ren, h]; exact ⟨rfl, by simp, rfl, .inr ⟨rfl, rfl, rfl, rfl⟩⟩
theorem take_flatten_succ {α : Type} {ls : List (List α)} {k : Nat} (hk : k < ls.length) : (ls.take (k + 1)).flatten = (ls.take k).flatten ++ ls[k] := by
  rw [List.take_succ_eq_append_getElem hk, List.flatten_append]; simp
theorem take_flatten_le {α : Type} (ls : List (List α)) (k : Nat) : (ls.take k).flatten.length ≤ ls.flatten.length := by
  have h := congrArg List.length (congrArg List.flatten (List.take_append_drop k ls))
  rw [List.flatten_append, List.length_append] at h; omega
end Sx
