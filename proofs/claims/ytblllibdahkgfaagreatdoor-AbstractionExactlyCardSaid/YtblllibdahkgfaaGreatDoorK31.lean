import Derived.Test.YtblllibdahkgfaaGreatDoorK25
import Derived.Test.YtblllibdahkgfaaGreatDoorK29
import Derived.Test.YtblllibdahkgfaaGreatDoorCards
import Derived.Test.YtblllibdahkgfaaGreatDoorTie
import Derived.WalkKit
import Derived.ProofKit
import Derived.OpenShut
import Derived.Deep.DeepHandedRow
import Derived.Lib.LaidTab
import Derived.Deep.SlicePairs
import Derived.Carry
import Derived.Lay
import Derived.Test.YtblllibdahkgfaaGreatDoorK30
import Derived.Deep.Slices
import Derived.Laws.IdiomArrays
import Derived.Test.YtblllibdahkgfaaGreatDoorK28

namespace Go.Proofs.YtblllibdahkgfaaGreatDoor
open Go Go.RowKit Go.ChangeShapes Go.WideShapes Go.ChangeAt Sx
set_option maxRecDepth 100000
theorem cells3 : Tryz.prog.cellsOf 3 = 1 := by kernel_rfl
theorem laidOut0 : laidOutB Tryz.prog = true := by kernel_rfl
theorem rec3 : Tryz.prog.readableRec 3 = true := by kernel_rfl
theorem rec23 : Tryz.prog.readableRec 23 = true := by kernel_rfl
theorem rows_lt : 3 < Tryz.prog.types.size ∧ 22 < Tryz.prog.types.size ∧ 23 < Tryz.prog.types.size := ⟨of_decide_eq_true (by kernel_rfl), of_decide_eq_true (by kernel_rfl), of_decide_eq_true (by kernel_rfl)⟩
/-- The frozen blocks at a start: what lies in memory. -/
def fz0 (W : World) (m : Int) : Fz := fun k => if k = 1 then some (.cells 3 [.int .i64 m]) else (W.heap[k]?).map SB.obj
theorem holds0 {W : World} {m : Int} (h : W.heap[1]? = some (.cells #[.int .i64 m] 3 (0, 0))) : Holds (fz0 W m) W := by
  intro b B hB
  unfold fz0 at hB
  split at hB
  · rename_i hb
    subst hb
    obtain rfl : SB.cells 3 [.int .i64 m] = B := by simpa using hB
    refine ⟨fun a ha => ?_, _, h, fun ρ _ => ⟨(0, 0), fun j _ => by simp, rfl⟩⟩
    simp at ha; subst ha; trivial
  · obtain ⟨o, ho, rfl⟩ := Option.map_eq_some_iff.1 hB
    exact ⟨trivial, o, ho, fun _ _ => rfl⟩
theorem mlf0 (W : World) (m : Int) : MLF (fz0 W m) := ⟨m, rfl⟩
theorem cell_obj {w : World} {b i : Nat} {v : Value} (h : w.cell? ⟨b, i, none⟩ = some v) : ∃ cs t fr, w.heap[b]? = some (.cells cs t fr) ∧ cs[i]? = some v := by
  cases ho : w.heap[b]? with
  | none => simp [World.cell?, ho] at h
  | some o =>
    cases o with
    | cells cs t fr => exact ⟨cs, t, fr, rfl, by simpa [World.cell?, ho] using h⟩
    | _ => simp [World.cell?, ho] at h
theorem raw0 {W : World} {m : Int} (h1 : W.heap[1]? = some (.cells #[.int .i64 m] 3 (0, 0))) {b off : Nat} {zs : List Int} (h : ∀ j (hj : j < zs.length), W.cell? ⟨b, off + j, none⟩ = some (.int .i64 zs[j])) : RawAt (fz0 W m) b off zs := by
  cases zs with
  | nil => exact .inl rfl
  | cons z r =>
    right
    obtain ⟨cs, t, fr, ho, _⟩ := cell_obj (h 0 (by simp))
    have hall : ∀ j (hj : j < (z :: r).length), cs[off + j]? = some (.int .i64 (z :: r)[j]) := fun j hj => by
      have := h j hj
      simpa [World.cell?, ho] using this
    by_cases hb : b = 1
    · subst hb
      rw [h1] at ho
      obtain ⟨rfl, rfl, rfl⟩ : #[Value.int .i64 m] = cs ∧ 3 = t ∧ (0, 0) = fr := by simpa using ho
      refine ⟨_, rfl, fun j hj => ?_⟩
      have := hall j hj
      show [SA.int .i64 m][off + j]? = _
      have h0 : off + j = 0 := by
        have := (Array.getElem?_eq_some_iff.1 this).1
        simp at this; omega
      rw [h0] at this ⊢
      simpa using this
    · exact ⟨.obj (.cells cs t fr), by simp [fz0, hb, ho], fun j hj => hall j hj⟩
theorem maxLen_block {W : World} (h : W.ShapedOpen Tryz.prog) : ∃ m, W.heap[1]? = some (.cells #[.int .i64 m] 3 (0, 0)) := by
  obtain ⟨cs, h1, h2, h3⟩ := h.1 1 #[.int .i64 0] 3 (of_decide_eq_true (by kernel_rfl)) (by kernel_rfl)
  obtain ⟨ts, ht, _, hcs⟩ := h3 (by kernel_rfl)
  have hts : Tryz.prog.cellTypes Tryz.prog.depth 3 = some [3] := by kernel_rfl
  rw [hts] at ht
  obtain rfl : [3] = ts := by simpa using ht
  have hsz : cs.size = 1 := h2
  obtain ⟨v, rfl⟩ : ∃ v, cs = #[v] := by
    cases cs with
    | mk l => match l, hsz with
      | [v], _ => exact ⟨v, rfl⟩
  obtain ⟨u, hu, hok⟩ := hcs 0 v rfl
  obtain rfl : 3 = u := by simpa using hu
  obtain ⟨n, rfl⟩ : ∃ n, v = .int .i64 n := by
    simp only [Cell.ok, Tryz.underlying3] at hok
    cases v <;> simp_all
  exact ⟨n, h1⟩
theorem i64_of {n : Int} (h : (Lit.int .i64 n).wf = true) : i64 n := by
  simp only [Lit.wf, Bool.and_eq_true, decide_eq_true_eq] at h
  exact ⟨h.1, h.2⟩
theorem spot_of {P : Program} {W : World} {base : Nat} {t e : TypeId} {a : Addr} {len cap : Nat} (ht : P.underlying t = some (.slice e)) (h : Value.okWide P W .any base t (.slice (some a) len cap)) : a.spot = none := by
  simp only [Value.okWide, ht, Cell.okWide, Cell.ok] at h
  exact h.2.2.2.1
section
variable {H : Type} {enc : TypeId × Value → H}
/-- A []int that came in. -/
theorem open_ints0 {W : World} {m : Int} {base : Nat} {v : Value} {d : DataW H} {ps : List MemPlace} (h1 : W.heap[1]? = some (.cells #[.int .i64 m] 3 (0, 0))) (hval : Value.okWide Tryz.prog W .any base 23 v) (h : DataW.Trod enc Tryz.prog W 0 (fun _ => true) true 23 v d ps) :
    ∃ (n : Bool) (b e s l c : Nat) (x : List Int), v = SA.den (fun _ k => k) (.slice n 0 b e s l c) ∧
      ∀ (p : Int) G, 1 ≤ p ∧ p ≤ 8 → Fz.le (fz0 W m) G → Fo Tryz.prog G 14 [.va (.int .i64 p), .va (.slice n 0 b e s l c)] (fun o F' => ∃ sc, o = .ret (.va sc) ∧ StepsAt F' sc (stepsS p x)) := by
  obtain ⟨a, len, cap, rfl⟩ := okWide_slice Tryz.underlying23 hval
  obtain ⟨fuel, h⟩ := h
  rcases open_ints Tryz.underlying23 Tryz.underlying3 cells3 h with ⟨h0, -⟩ | ⟨a', len', cap', zs, h0, _, hl, hm, hz, _, hc, hw⟩
  · have h0 : a = none ∧ len = 0 ∧ cap = 0 := by simpa [Value.cells] using h0
    obtain ⟨rfl, rfl, rfl⟩ := h0
    refine ⟨true, 0, 0, 1, 0, 0, [], rfl, fun p G hp _ => ?_⟩
    exact steps_fn G _ [] p ⟨true, 0, 0, 0, [], 0, rfl, fun _ => rfl, (fun h => by cases h), Nat.le_refl _, rfl⟩ (by simp) (by simp) hp
  · have h0 : a = some a' ∧ len = len' ∧ cap = cap' := by simpa [Value.cells] using h0
    obtain ⟨rfl, rfl, rfl⟩ := h0
    obtain ⟨b, off, spot⟩ := a'
    obtain rfl : spot = none := spot_of Tryz.underlying23 hval
    have hz : zs.length = cap := hz
    have hlen : (zs.take len).length = len := by rw [List.length_take]; omega
    have hr : RawAt (fz0 W m) b off (zs.take len) := raw0 h1 fun j hj => by
      have hj2 : j < zs.length := by rw [List.length_take] at hj; omega
      have := hc j hj2
      rw [add_plain] at this
      rw [this]; simp [List.getD, hj2]
    refine ⟨false, b, off, 1, len, cap, zs.take len, by simp [SA.den], fun p G hp hG => ?_⟩
    have := steps_raw G b off cap (zs.take len) p (hr.mono hG) (by unfold maxLen at hm; omega) (fun z hz => i64_of (hw z (List.mem_of_mem_take hz))) hp
    rwa [hlen] at this
end
end Go.Proofs.YtblllibdahkgfaaGreatDoor

namespace Go.Proofs.YtblllibdahkgfaaGreatDoor
open Go Go.RowKit Go.ChangeShapes Go.WideShapes Go.ChangeAt Sx
set_option maxRecDepth 100000
theorem own : ownKnob Tryz.prog.godebug = none := by kernel_rfl
/-- A call that leaves what was there as it was and says true: what the row asks behind it. -/
theorem post_true {H : Type} {enc : TypeId × Value → H} {f : Func} {s : ChangeSpec} {W W' : World} {args : Array Value} {ds : List (DataW H)} {before : List MemPlace}
    (hvars : s.vars = []) (hres : f.resultTypes = #[4]) (hs : s.fn H (ds ++ []) = { results := [.lit (.bool true)], args := ds })
    (hW : DataW.Whole enc Tryz.prog f.params.toList s.vars false W args.toList ds [] before)
    (hstay : ∀ sp : Nat → Bool, (∀ p ∈ before, sp p.block = true) → DataW.TrodAll enc Tryz.prog W' 0 sp true f.params.toList args.toList ds before)
    (hb : Below W.heap.size W W') : s.post enc Tryz.prog f false true false false W args (.bool true) W' := by
  have hlt := hW.lt
  have hold : ∀ p ∈ before, (fun b => decide (b < W.heap.size)) p.block = true := fun p hp => by simpa using hlt p hp
  have hvs : ∀ sp : Nat → Bool, DataW.TrodVars enc Tryz.prog W' sp s.vars (s.fn H (ds ++ [])).vars [] := fun sp => by rw [hvars, hs]; rfl
  have hrs : ∀ (b : Nat) (sp : Nat → Bool) (hd : Bool), DataW.TrodAll enc Tryz.prog W' b sp hd f.resultTypes.toList ((Value.bool true).resultList f.resultTypes.size) (s.fn H (ds ++ [])).results [] := fun b sp hd => by
    rw [hres, hs]
    exact trodAll_mk1 (shut_bool Tryz.underlying4 _)
  have hag : ∀ sp : Nat → Bool, (∀ p ∈ before, sp p.block = true) → DataW.TrodAll enc Tryz.prog W' 0 sp true f.params.toList args.toList (s.fn H (ds ++ [])).args before := fun sp h => by
    rw [hs]; exact hstay sp h
  exact ⟨ds, [], before, [], before, [], hW, hrs _ _ _, hag _ hold, hvs _, hb.frame _, fun h => by cases h⟩
end Go.Proofs.YtblllibdahkgfaaGreatDoor

namespace Go.Proofs.YtblllibdahkgfaaGreatDoor
open Go Go.RowKit Go.ChangeShapes Go.WideShapes Go.ChangeAt Sx
set_option maxRecDepth 100000
theorem rec37 : Tryz.prog.readableRec 37 = true := by kernel_rfl
theorem rows37 : 37 < Tryz.prog.types.size := of_decide_eq_true (by kernel_rfl)
/-- Arguments of readable types read as they read. -/
theorem stays2 {H : Type} {enc : TypeId × Value → H} {W W' : World} {sp : Nat → Bool} (hb : Below W.heap.size W W') : ∀ (ts : List TypeId) (vs : List Value) (ds : List (DataW H)) (ps : List MemPlace), (∀ t ∈ ts, Tryz.prog.readableRec t = true ∧ t < Tryz.prog.types.size) →
    DataW.TrodAll enc Tryz.prog W 0 (fun _ => true) true ts vs ds ps → (∀ p ∈ ps, p.block < W.heap.size) → (∀ p ∈ ps, sp p.block = true) → DataW.TrodAll enc Tryz.prog W' 0 sp true ts vs ds ps
  | [], vs, ds, ps, _, h, _, _ => by
    obtain ⟨rfl, rfl, rfl⟩ := trodAll_nil h
    rfl
  | t :: ts, vs, ds, ps, ht, h, hlt, hsp => by
    obtain ⟨v, vs', d, ds', p, q, rfl, rfl, rfl, h1, h2⟩ := trodAll_cons h
    refine ⟨p, q, ?_, stays2 hb ts vs' ds' q (fun t' h' => ht t' (List.mem_cons_of_mem _ h')) h2 (fun x hx => hlt x (List.mem_append_right _ hx)) (fun x hx => hsp x (List.mem_append_right _ hx)), rfl⟩
    have hs : ∀ x ∈ p, W.sameAt W' x := fun x hx => hb.same (hlt x (List.mem_append_left _ hx))
    have hs2 : ∀ x ∈ p, sp x.block = true := fun x hx => hsp x (List.mem_append_left _ hx)
    have ht0 := ht t (List.mem_cons_self ..)
    exact WideElems.Trod_stays laidOut0 ht0.1 ht0.2 h1 hs hs2
section
variable {H : Type} {enc : TypeId × Value → H}
end
end Go.Proofs.YtblllibdahkgfaaGreatDoor

namespace Go.Proofs.YtblllibdahkgfaaGreatDoor
open Go Go.RowKit Go.ChangeShapes Go.WideShapes Go.ChangeAt Sx
set_option maxRecDepth 100000
/-- The law's contract. -/
theorem contract6 (H : Type) (enc : TypeId × Value → H) (W : World) (base : Nat) (args : Array Value) (ds gs : List (DataW H)) (before : List MemPlace)
    (hval : ∀ (j : Nat) t v, Tryz.f8.params[j]? = some t → args[j]? = some v → Value.okWide Tryz.prog W .any base t v)
    (hW : DataW.Whole enc Tryz.prog Tryz.f8.params.toList Rows.abstractionExactlySpec.vars false W args.toList ds gs before) (hS : W.ShapedOpen Tryz.prog) :
    Calls Tryz.prog 8 args W fun e W' => ∃ v, e = .returned v ∧ Rows.abstractionExactlySpec.post enc Tryz.prog Tryz.f8 false true false false W args v W' := by
  have hW' := hW
  obtain ⟨p, q, hA0, hV, rfl, _, _⟩ := hW
  have hA : DataW.TrodAll enc Tryz.prog W 0 (fun _ => true) true Tryz.f8.params.toList args.toList ds p := hA0
  obtain ⟨rfl, rfl⟩ := trodVars_none hV
  rw [Tryz.params8] at hA hval
  obtain ⟨v0, vs0, d0, ds0, p0, q0, hargs, rfl, rfl, h0, r0⟩ := trodAll_cons hA
  obtain ⟨v1, vs1, d1, ds1, p1, q1, rfl, rfl, rfl, h1, r1⟩ := trodAll_cons r0
  obtain ⟨v2, vs2, d2, ds2, p2, q2, rfl, rfl, rfl, h2, r2⟩ := trodAll_cons r1
  obtain ⟨rfl, rfl, rfl⟩ := trodAll_nil r2
  obtain rfl : args = #[v0, v1, v2] := by cases args; simp_all
  obtain ⟨m, hm⟩ := maxLen_block hS
  obtain ⟨z0, rfl, _, _, w0⟩ := open_int Tryz.underlying3 (hval 0 3 v0 rfl rfl) h0
  obtain ⟨n1, b1, e1, s1, l1, c1, x1, rfl, a1⟩ := open_ints0 hm (hval 1 23 v1 rfl rfl) h1
  obtain ⟨n2, b2, e2, s2, l2, c2, x2, rfl, a2⟩ := open_ints0 hm (hval 2 23 v2 rfl rfl) h2
  have walk := calls_of_Fo (law6_fn (fz0 W m) (mlf0 W m) z0 (i64_of w0) n1 n2 b1 b2 e1 e2 s1 s2 l1 l2 c1 c2 x1 x2 a1 a2) (holds0 hm)
    (vs := [.int .i64 z0, _, _]) ⟨rfl, rfl, rfl, trivial⟩ (by
      intro s hs
      simp at hs
      rcases hs with rfl | rfl | rfl
      · trivial
      · exact .inr Nat.zero_lt_one
      · exact .inr Nat.zero_lt_one)
  refine walk.mono fun e W' ⟨he, hbel⟩ => ?_
  subst he
  refine ⟨_, rfl, post_true rfl rfl rfl hW' (fun sp hsp => ?_) hbel⟩
  refine stays2 hbel _ _ _ _ ?_ (by simpa using hA0) (fun x hx => hW'.lt x hx) hsp
  intro t ht
  rw [Tryz.params8] at ht
  have hc := (by decide : ∀ t ∈ ([3, 23, 23] : List Nat), t = 3 ∨ t = 37 ∨ t = 23) t ht
  rcases hc with rfl | rfl | rfl
  · exact ⟨rec3, rows_lt.1⟩
  · exact ⟨rec37, rows37⟩
  · exact ⟨rec23, rows_lt.2.2⟩
noncomputable def world6 (os : Os) : World := World.laidAll Tryz.prog os Rows.abstractionExactlyRow.laid
theorem laid6 (os : Os) (args : Array Value) : laidMet Tryz.prog Rows.abstractionExactlyRow.laid ((world6 os).forCall (fun _ _ => 0) ⟨#[], args, []⟩).memory :=
  laidMet_laidAll args (by kernel_rfl) (by kernel_rfl)
end Go.Proofs.YtblllibdahkgfaaGreatDoor
