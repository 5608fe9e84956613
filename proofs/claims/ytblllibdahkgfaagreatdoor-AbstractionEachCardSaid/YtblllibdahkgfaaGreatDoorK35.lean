import Derived.Test.YtblllibdahkgfaaGreatDoorK21
import Derived.Test.YtblllibdahkgfaaGreatDoorK25
import Derived.Test.YtblllibdahkgfaaGreatDoorCards
import Derived.Test.YtblllibdahkgfaaGreatDoorTie
import Derived.WalkKit
import Derived.ProofKit
import Derived.OpenShut
import Derived.Deep.DeepHandedRow
import Derived.Lib.LaidTab
import Derived.Deep.SlicePairs
import Derived.Carry
import Derived.Lay
import Derived.Test.YtblllibdahkgfaaGreatDoorK29
import Derived.Deep.Slices
import Derived.Laws.IdiomArrays
import Derived.Test.YtblllibdahkgfaaGreatDoorK34

namespace Go.Proofs.YtblllibdahkgfaaGreatDoor
open Go Go.RowKit Go.ChangeShapes Go.WideShapes Go.ChangeAt Sx
set_option maxRecDepth 100000
theorem cells3 : Tryz.prog.cellsOf 3 = 1 := by kernel_rfl
theorem zsa : laidOutB Tryz.prog = true := by kernel_rfl
theorem rec3 : Tryz.prog.readableRec 3 = true := by kernel_rfl
theorem rec23 : Tryz.prog.readableRec 23 = true := by kernel_rfl
theorem zri : 3 < Tryz.prog.types.size ∧ 22 < Tryz.prog.types.size ∧ 23 < Tryz.prog.types.size := ⟨of_decide_eq_true (by kernel_rfl), of_decide_eq_true (by kernel_rfl), of_decide_eq_true (by kernel_rfl)⟩
def fz0 (W : World) (m : Int) : Fz := fun k => if k = 1 then some (.cells 3 [.int .i64 m]) else (W.heap[k]?).map SB.obj
theorem holds0 {W : World} {m : Int} (h : W.heap[1]? = some (.cells #[.int .i64 m] 3 (0, 0))) : Holds (fz0 W m) W := by
 intro b B hB
 unfold fz0 at hB
 split at hB
 ·rename_i hb
  subst hb
  obtain rfl : SB.cells 3 [.int .i64 m] = B := by simpa using hB
  refine ⟨fun a ha => ?_, _, h, fun ρ _ => ⟨(0, 0), fun j _ => by simp, rfl⟩⟩
  simp at ha; subst ha; trivial
 ·obtain ⟨o, ho, rfl⟩ := Option.map_eq_some_iff.1 hB
  exact ⟨trivial, o, ho, fun _ _ => rfl⟩
theorem mlf0 (W : World) (m : Int) : MLF (fz0 W m) := ⟨m, rfl⟩
theorem zsh {w : World} {b i : Nat} {v : Value} (h : w.cell? ⟨b, i, none⟩ = some v) : ∃ cs t fr, w.heap[b]? = some (.cells cs t fr) ∧ cs[i]? = some v := by
 cases ho : w.heap[b]? with
 | none => simp [World.cell?, ho] at h
 | some o =>
  cases o with
  | cells cs t fr => exact ⟨cs, t, fr, rfl, by simpa [World.cell?, ho] using h⟩
  | _ => simp [World.cell?, ho] at h
theorem raw0 {W : World} {m : Int} (h1 : W.heap[1]? = some (.cells #[.int .i64 m] 3 (0, 0))) {b off : Nat} {zs : List Int} (h : ∀ j (hj : j < zs.length), W.cell? ⟨b, off + j, none⟩ = some (.int .i64 zs[j])) : RawAt (fz0 W m) b off zs := by
 cases zs with
 | nil => exact .inl rfl
 | cons z r =>
  right
  obtain ⟨cs, t, fr, ho, _⟩ := zsh (h 0 (by simp))
  have hall : ∀ j (hj : j < (z :: r).length), cs[off + j]? = some (.int .i64 (z :: r)[j]) := fun j hj => by
   have := h j hj
   simpa [World.cell?, ho] using this
  by_cases hb : b = 1
  ·subst hb
   rw [h1] at ho
   obtain ⟨rfl, rfl, rfl⟩ : #[Value.int .i64 m] = cs ∧ 3 = t ∧ (0, 0) = fr := by simpa using ho
   refine ⟨_, rfl, fun j hj => ?_⟩
   have := hall j hj
   show [SA.int .i64 m][off + j]? = _
   have h0 : off + j = 0 := by
    have := (Array.getElem?_eq_some_iff.1 this).1
    simp at this; omega
   rw [h0] at this ⊢
   simpa using this
  ·exact ⟨.obj (.cells cs t fr), by simp [fz0, hb, ho], fun j hj => hall j hj⟩
theorem zlz {W : World} (h : W.ShapedOpen Tryz.prog) : ∃ m, W.heap[1]? = some (.cells #[.int .i64 m] 3 (0, 0)) := by
 obtain ⟨cs, h1, h2, h3⟩ := h.1 1 #[.int .i64 0] 3 (of_decide_eq_true (by kernel_rfl)) (by kernel_rfl)
 obtain ⟨ts, ht, _, hcs⟩ := h3 (by kernel_rfl)
 have hts : Tryz.prog.cellTypes Tryz.prog.depth 3 = some [3] := by kernel_rfl
 rw [hts] at ht
 obtain rfl : [3] = ts := by simpa using ht
 have hsz : cs.size = 1 := h2
 obtain ⟨v, rfl⟩ : ∃ v, cs = #[v] := by
  cases cs with
  | mk l => match l, hsz with
   | [v], _ => exact ⟨v, rfl⟩
 obtain ⟨u, hu, hok⟩ := hcs 0 v rfl
 obtain rfl : 3 = u := by simpa using hu
 obtain ⟨n, rfl⟩ : ∃ n, v = .int .i64 n := by
  simp only [Cell.ok, Tryz.underlying3] at hok
  cases v <;> simp_all
 exact ⟨n, h1⟩
theorem ziu {n : Int} (h : (Lit.int .i64 n).wf = true) : i64 n := by
 simp only [Lit.wf, Bool.and_eq_true, decide_eq_true_eq] at h
 exact ⟨h.1, h.2⟩
theorem zpb {P : Program} {W : World} {base : Nat} {t e : TypeId} {a : Addr} {len cap : Nat} (ht : P.underlying t = some (.slice e)) (h : Value.okWide P W .any base t (.slice (some a) len cap)) : a.spot = none := by
 simp only [Value.okWide, ht, Cell.okWide, Cell.ok] at h
 exact h.2.2.2.1
section
variable {H : Type} {enc : TypeId × Value → H}
theorem zok {W : World} {m : Int} {base : Nat} {v : Value} {d : DataW H} {ps : List MemPlace} (h1 : W.heap[1]? = some (.cells #[.int .i64 m] 3 (0, 0))) (hval : Value.okWide Tryz.prog W .any base 23 v) (h : DataW.Trod enc Tryz.prog W 0 (fun _ => true) true 23 v d ps) :
  ∃ (n : Bool) (b e s l c : Nat) (x : List Int), v = SA.den (fun _ k => k) (.slice n 0 b e s l c) ∧
   ∀ (p : Int) G, 1 ≤ p ∧ p ≤ 8 → Fz.le (fz0 W m) G → Fo Tryz.prog G 14 [.va (.int .i64 p), .va (.slice n 0 b e s l c)] (fun o F' => ∃ sc, o = .ret (.va sc) ∧ za4 F' sc (zev p x)) := by
 obtain ⟨a, len, cap, rfl⟩ := okWide_slice Tryz.underlying23 hval
 obtain ⟨fuel, h⟩ := h
 rcases open_ints Tryz.underlying23 Tryz.underlying3 cells3 h with ⟨h0, -⟩ | ⟨a', len', cap', zs, h0, _, hl, hm, hz, _, hc, hw⟩
 ·have h0 : a = none ∧ len = 0 ∧ cap = 0 := by simpa [Value.cells] using h0
  obtain ⟨rfl, rfl, rfl⟩ := h0
  refine ⟨true, 0, 0, 1, 0, 0, [], rfl, fun p G hp _ => ?_⟩
  exact ztb G _ [] p ⟨true, 0, 0, 0, [], 0, rfl, fun _ => rfl, (fun h => by cases h), Nat.le_refl _, rfl⟩ (by simp) (by simp) hp
 ·have h0 : a = some a' ∧ len = len' ∧ cap = cap' := by simpa [Value.cells] using h0
  obtain ⟨rfl, rfl, rfl⟩ := h0
  obtain ⟨b, off, spot⟩ := a'
  obtain rfl : spot = none := zpb Tryz.underlying23 hval
  have hz : zs.length = cap := hz
  have hlen : (zs.take len).length = len := by rw [List.length_take]; omega
  have hr : RawAt (fz0 W m) b off (zs.take len) := raw0 h1 fun j hj => by
   have hj2 : j < zs.length := by rw [List.length_take] at hj; omega
   have := hc j hj2
   rw [add_plain] at this
   rw [this]; simp [List.getD, hj2]
  refine ⟨false, b, off, 1, len, cap, zs.take len, by simp [SA.den], fun p G hp hG => ?_⟩
  have := zpc G b off cap (zs.take len) p (hr.mono hG) (by unfold maxLen at hm; omega) (fun z hz => ziu (hw z (List.mem_of_mem_take hz))) hp
  rwa [hlen] at this
end
end Go.Proofs.YtblllibdahkgfaaGreatDoor

namespace Go.Proofs.YtblllibdahkgfaaGreatDoor
open Go Go.RowKit Go.ChangeShapes Go.WideShapes Go.ChangeAt Sx
set_option maxRecDepth 100000
theorem own : ownKnob Tryz.prog.godebug = none := by kernel_rfl
theorem zph {H : Type} {enc : TypeId × Value → H} {f : Func} {s : ChangeSpec} {W W' : World} {args : Array Value} {ds : List (DataW H)} {before : List MemPlace}
  (hvars : s.vars = []) (hres : f.resultTypes = #[4]) (hs : s.fn H (ds ++ []) = { results := [.lit (.bool true)], args := ds })
  (hW : DataW.Whole enc Tryz.prog f.params.toList s.vars false W args.toList ds [] before)
  (hstay : ∀ sp : Nat → Bool, (∀ p ∈ before, sp p.block = true) → DataW.TrodAll enc Tryz.prog W' 0 sp true f.params.toList args.toList ds before)
  (hb : Below W.heap.size W W') : s.post enc Tryz.prog f false true false false W args (.bool true) W' := by
 have hlt := hW.lt
 have hold : ∀ p ∈ before, (fun b => decide (b < W.heap.size)) p.block = true := fun p hp => by simpa using hlt p hp
 have hvs : ∀ sp : Nat → Bool, DataW.TrodVars enc Tryz.prog W' sp s.vars (s.fn H (ds ++ [])).vars [] := fun sp => by rw [hvars, hs]; rfl
 have hrs : ∀ (b : Nat) (sp : Nat → Bool) (hd : Bool), DataW.TrodAll enc Tryz.prog W' b sp hd f.resultTypes.toList ((Value.bool true).resultList f.resultTypes.size) (s.fn H (ds ++ [])).results [] := fun b sp hd => by
  rw [hres, hs]
  exact trodAll_mk1 (shut_bool Tryz.underlying4 _)
 have hag : ∀ sp : Nat → Bool, (∀ p ∈ before, sp p.block = true) → DataW.TrodAll enc Tryz.prog W' 0 sp true f.params.toList args.toList (s.fn H (ds ++ [])).args before := fun sp h => by
  rw [hs]; exact hstay sp h
 exact ⟨ds, [], before, [], before, [], hW, hrs _ _ _, hag _ hold, hvs _, hb.frame _, fun h => by cases h⟩
end Go.Proofs.YtblllibdahkgfaaGreatDoor

namespace Go.Proofs.YtblllibdahkgfaaGreatDoor
open Go Go.RowKit Go.ChangeShapes Go.WideShapes Go.ChangeAt Sx
set_option maxRecDepth 100000
theorem rec37 : Tryz.prog.readableRec 37 = true := by kernel_rfl
theorem zxe : 37 < Tryz.prog.types.size := of_decide_eq_true (by kernel_rfl)
theorem zvh : Tryz.prog.cellsOf 86 = 4 := by kernel_rfl
theorem zuh {H : Type} {enc : TypeId × Value → H} {W W' : World} {sp : Nat → Bool} (hb : Below W.heap.size W W') : ∀ (ts : List TypeId) (vs : List Value) (ds : List (DataW H)) (ps : List MemPlace), (∀ t ∈ ts, Tryz.prog.readableRec t = true ∧ t < Tryz.prog.types.size) →
  DataW.TrodAll enc Tryz.prog W 0 (fun _ => true) true ts vs ds ps → (∀ p ∈ ps, p.block < W.heap.size) → (∀ p ∈ ps, sp p.block = true) → DataW.TrodAll enc Tryz.prog W' 0 sp true ts vs ds ps
 | [], vs, ds, ps, _, h, _, _ => by
  obtain ⟨rfl, rfl, rfl⟩ := trodAll_nil h
  rfl
 | t :: ts, vs, ds, ps, ht, h, hlt, hsp => by
  obtain ⟨v, vs', d, ds', p, q, rfl, rfl, rfl, h1, h2⟩ := trodAll_cons h
  refine ⟨p, q, ?_, zuh hb ts vs' ds' q (fun t' h' => ht t' (List.mem_cons_of_mem _ h')) h2 (fun x hx => hlt x (List.mem_append_right _ hx)) (fun x hx => hsp x (List.mem_append_right _ hx)), rfl⟩
  have hs : ∀ x ∈ p, W.sameAt W' x := fun x hx => hb.same (hlt x (List.mem_append_left _ hx))
  have hs2 : ∀ x ∈ p, sp x.block = true := fun x hx => hsp x (List.mem_append_left _ hx)
  have ht0 := ht t (List.mem_cons_self ..)
  exact WideElems.Trod_stays zsa ht0.1 ht0.2 h1 hs hs2
section
variable {H : Type} {enc : TypeId × Value → H}
theorem zmm {W : World} {m : Int} {base : Nat} {v : Value} {d : DataW H} {ps : List MemPlace} (h1 : W.heap[1]? = some (.cells #[.int .i64 m] 3 (0, 0))) (hval : Value.okWide Tryz.prog W .any base 37 v) (h : DataW.Trod enc Tryz.prog W 0 (fun _ => true) true 37 v d ps) :
  ∃ (n : Bool) (b e s l c : Nat), v = SA.den (fun _ k => k) (.slice n 0 b e s l c) ∧ zrq (fz0 W m) (.slice n 0 b e s l c) := by
 obtain ⟨a, len, cap, rfl⟩ := okWide_slice Tryz.underlying37 hval
 obtain ⟨fuel, h⟩ := h
 rcases Deep.open_slice Tryz.underlying37 h with ⟨h0, -⟩ | ⟨a', len', cap', m', n', D, Pl, h0, _, hl, hm, hmm, _, hc⟩
 ·have h0 : a = none ∧ len = 0 ∧ cap = 0 := by simpa [Value.cells] using h0
  obtain ⟨rfl, rfl, rfl⟩ := h0
  refine ⟨true, 0, 0, 1, 0, 0, rfl, fun P G hP _ => ?_⟩
  exact zn7 G true 0 0 0 [] P (.inl rfl) (fun h => absurd rfl h) (by simp) (by simp) hP
 ·have h0 : a = some a' ∧ len = len' ∧ cap = cap' := by simpa [Value.cells] using h0
  obtain ⟨rfl, rfl, rfl⟩ := h0
  obtain ⟨b, off, spot⟩ := a'
  obtain rfl : spot = none := zpb Tryz.underlying37 hval
  have hmm : m' = cap := hmm
  have each : ∀ i, i < len → ∃ q : Q4, (W.cell? ⟨b, off + i * 4, none⟩ = some (.int .i64 q.1) ∧ W.cell? ⟨b, off + i * 4 + 1, none⟩ = some (.int .i64 q.2.1) ∧ W.cell? ⟨b, off + i * 4 + 2, none⟩ = some (.int .i64 q.2.2.1) ∧ W.cell? ⟨b, off + i * 4 + 3, none⟩ = some (.int .i64 q.2.2.2)) ∧ (i64 q.1 ∧ i64 q.2.1 ∧ i64 q.2.2.1 ∧ i64 q.2.2.2) := fun i hi => by
   obtain ⟨cs', k1, k2⟩ := hc i (by omega)
   rw [zvh] at k1
   obtain ⟨_, hlen, hcell⟩ := World.cells?_some k1
   match cs', hlen, k2, hcell with
   | [c0, c1, c2, c3], _, k2, hcell =>
    obtain ⟨y0, y1, y2, y3, n, _, t0, t1, t2, t3⟩ := trod_array4 Tryz.underlying86 cells3 k2
    obtain ⟨z0, e0, _, w0⟩ := DataW.trod_int Tryz.underlying3 t0
    obtain ⟨z1, e1, _, w1⟩ := DataW.trod_int Tryz.underlying3 t1
    obtain ⟨z2, e2, _, w2⟩ := DataW.trod_int Tryz.underlying3 t2
    obtain ⟨z3, e3, _, w3⟩ := DataW.trod_int Tryz.underlying3 t3
    obtain rfl : c0 = .int .i64 z0 := by simpa using e0
    obtain rfl : c1 = .int .i64 z1 := by simpa using e1
    obtain rfl : c2 = .int .i64 z2 := by simpa using e2
    obtain rfl : c3 = .int .i64 z3 := by simpa using e3
    have g0 := hcell 0 (by omega)
    have g1 := hcell 1 (by omega)
    have g2 := hcell 2 (by omega)
    have g3 := hcell 3 (by omega)
    simp only [add_plain, List.getElem?_cons_zero, List.getElem?_cons_succ] at g0 g1 g2 g3
    exact ⟨(z0, z1, z2, z3), ⟨g0, g1, g2, g3⟩, ziu w0, ziu w1, ziu w2, ziu w3⟩
  have hex : ∃ f : Nat → Q4, ∀ i, i < len → (W.cell? ⟨b, off + i * 4, none⟩ = some (.int .i64 (f i).1) ∧ W.cell? ⟨b, off + i * 4 + 1, none⟩ = some (.int .i64 (f i).2.1) ∧ W.cell? ⟨b, off + i * 4 + 2, none⟩ = some (.int .i64 (f i).2.2.1) ∧ W.cell? ⟨b, off + i * 4 + 3, none⟩ = some (.int .i64 (f i).2.2.2)) ∧ (i64 (f i).1 ∧ i64 (f i).2.1 ∧ i64 (f i).2.2.1 ∧ i64 (f i).2.2.2) :=
   ⟨fun i => if h : i < len then (each i h).choose else (0, 0, 0, 0), fun i hi => by simp only [hi, dif_pos]; exact (each i hi).choose_spec⟩
  obtain ⟨f, hf⟩ := hex
  have hlen : ((List.range len).map f).length = len := by simp
  have hr : RawAt (fz0 W m) b off (ints4 ((List.range len).map f)) := raw0 h1 fun j hj => by
   have hj2 : j < len * 4 := by rw [zg3, hlen] at hj; exact hj
   have hi : j / 4 < len := by omega
   have hat := zj4 ((List.range len).map f) (j / 4)
   rw [List.getElem?_map, List.getElem?_range hi] at hat
   obtain ⟨a0, a1, a2, a3⟩ := hat
   have hfi := (hf (j / 4) hi).1
   have hc : j = j / 4 * 4 ∨ j = j / 4 * 4 + 1 ∨ j = j / 4 * 4 + 2 ∨ j = j / 4 * 4 + 3 := by omega
   have key : ∃ z, (ints4 ((List.range len).map f))[j]? = some z ∧ W.cell? ⟨b, off + j, none⟩ = some (.int .i64 z) := by
    rcases hc with hc | hc | hc | hc
    ·rw [← hc] at a0
     exact ⟨(f (j / 4)).1, a0, by rw [← hfi.1]; congr 2; omega⟩
    ·rw [← hc] at a1
     exact ⟨(f (j / 4)).2.1, a1, by rw [← hfi.2.1]; congr 2; omega⟩
    ·rw [← hc] at a2
     exact ⟨(f (j / 4)).2.2.1, a2, by rw [← hfi.2.2.1]; congr 2; omega⟩
    ·rw [← hc] at a3
     exact ⟨(f (j / 4)).2.2.2, a3, by rw [← hfi.2.2.2]; congr 2; omega⟩
   obtain ⟨z, hz, hw⟩ := key
   rw [hw, (List.getElem?_eq_some_iff.1 hz).2]
  refine ⟨false, b, off, 1, len, cap, by simp [SA.den], fun P G hP hG => ?_⟩
  have := zn7 G false b off cap ((List.range len).map f) P (hr.mono hG) (fun _ => rfl) (by rw [hlen]; unfold maxLen at hm; omega) (fun q hq => by
   obtain ⟨i, hi, rfl⟩ := List.mem_map.1 hq
   exact (hf i (List.mem_range.1 hi)).2) hP
  rwa [hlen] at this
end
end Go.Proofs.YtblllibdahkgfaaGreatDoor

namespace Go.Proofs.YtblllibdahkgfaaGreatDoor
open Go Go.RowKit Go.ChangeShapes Go.WideShapes Go.ChangeAt Sx
set_option maxRecDepth 100000
theorem zor (H : Type) (enc : TypeId × Value → H) (W : World) (base : Nat) (args : Array Value) (ds gs : List (DataW H)) (before : List MemPlace)
  (hval : ∀ (j : Nat) t v, Tryz.f9.params[j]? = some t → args[j]? = some v → Value.okWide Tryz.prog W .any base t v)
  (hW : DataW.Whole enc Tryz.prog Tryz.f9.params.toList Rows.abstractionEachSpec.vars false W args.toList ds gs before) (hS : W.ShapedOpen Tryz.prog) :
  Calls Tryz.prog 9 args W fun e W' => ∃ v, e = .returned v ∧ Rows.abstractionEachSpec.post enc Tryz.prog Tryz.f9 false true false false W args v W' := by
 have hW' := hW
 obtain ⟨p, q, hA0, hV, rfl, _, _⟩ := hW
 have hA : DataW.TrodAll enc Tryz.prog W 0 (fun _ => true) true Tryz.f9.params.toList args.toList ds p := hA0
 obtain ⟨rfl, rfl⟩ := trodVars_none hV
 rw [Tryz.params9] at hA hval
 obtain ⟨v0, vs0, d0, ds0, p0, q0, hargs, rfl, rfl, h0, r0⟩ := trodAll_cons hA
 obtain ⟨v1, vs1, d1, ds1, p1, q1, rfl, rfl, rfl, h1, r1⟩ := trodAll_cons r0
 obtain ⟨v2, vs2, d2, ds2, p2, q2, rfl, rfl, rfl, h2, r2⟩ := trodAll_cons r1
 obtain ⟨rfl, rfl, rfl⟩ := trodAll_nil r2
 obtain rfl : args = #[v0, v1, v2] := by cases args; simp_all
 obtain ⟨m, hm⟩ := zlz hS
 obtain ⟨z0, rfl, _, _, w0⟩ := open_int Tryz.underlying3 (hval 0 3 v0 rfl rfl) h0
 obtain ⟨n1, b1, e1, s1, l1, c1, rfl, a1⟩ := zmm hm (hval 1 37 v1 rfl rfl) h1
 obtain ⟨n2, b2, e2, s2, l2, c2, x2, rfl, a2⟩ := zok hm (hval 2 23 v2 rfl rfl) h2
 have walk := zmz (zvt (fz0 W m) (mlf0 W m) z0 (ziu w0) n1 n2 b1 b2 e1 e2 s1 s2 l1 l2 c1 c2 x2 a1 a2) (holds0 hm)
  (vs := [.int .i64 z0, _, _]) ⟨rfl, rfl, rfl, trivial⟩ (by
   intro s hs
   simp at hs
   rcases hs with rfl | rfl | rfl
   ·trivial
   ·exact .inr Nat.zero_lt_one
   ·exact .inr Nat.zero_lt_one)
 refine walk.mono fun e W' ⟨he, hbel⟩ => ?_
 subst he
 refine ⟨_, rfl, zph rfl rfl rfl hW' (fun sp hsp => ?_) hbel⟩
 refine zuh hbel _ _ _ _ ?_ (by simpa using hA0) (fun x hx => hW'.lt x hx) hsp
 intro t ht
 rw [Tryz.params9] at ht
 have hc := (by decide : ∀ t ∈ ([3, 37, 23] : List Nat), t = 3 ∨ t = 23 ∨ t = 37) t ht
 rcases hc with rfl | rfl | rfl
 ·exact ⟨rec3, zri.1⟩
 ·exact ⟨rec23, zri.2.2⟩
 ·exact ⟨rec37, zxe⟩
noncomputable def zf5 (os : Os) : World := World.laidAll Tryz.prog os Rows.abstractionEachRow.laid
theorem zw0 (os : Os) (args : Array Value) : laidMet Tryz.prog Rows.abstractionEachRow.laid ((zf5 os).forCall (fun _ _ => 0) ⟨#[], args, []⟩).memory :=
 laidMet_laidAll args (by kernel_rfl) (by kernel_rfl)
end Go.Proofs.YtblllibdahkgfaaGreatDoor
