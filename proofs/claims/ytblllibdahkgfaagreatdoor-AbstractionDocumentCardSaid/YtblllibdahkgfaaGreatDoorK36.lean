import Derived.Test.YtblllibdahkgfaaGreatDoorK25
import Derived.Test.YtblllibdahkgfaaGreatDoorK27
import Derived.Test.YtblllibdahkgfaaGreatDoorCards
import Derived.Test.YtblllibdahkgfaaGreatDoorTie
import Derived.WalkKit
import Derived.ProofKit
import Derived.OpenShut
import Derived.Deep.DeepHandedRow
import Derived.Lib.LaidTab
import Derived.Deep.SlicePairs
import Derived.Carry
import Derived.Lay
import Derived.Test.YtblllibdahkgfaaGreatDoorK28
import Derived.Deep.Slices
import Derived.Laws.IdiomArrays
import Derived.Test.YtblllibdahkgfaaGreatDoorK35

namespace Go.Proofs.YtblllibdahkgfaaGreatDoor
open Go Go.RowKit Go.ChangeShapes Go.WideShapes Go.ChangeAt Sx
set_option maxRecDepth 100000
theorem cells3 : Tryz.prog.cellsOf 3 = 1 := by kernel_rfl
theorem laidOut0 : laidOutB Tryz.prog = true := by kernel_rfl
theorem rec23 : Tryz.prog.readableRec 23 = true := by kernel_rfl
theorem rows_lt : 3 < Tryz.prog.types.size ∧ 22 < Tryz.prog.types.size ∧ 23 < Tryz.prog.types.size := ⟨of_decide_eq_true (by kernel_rfl), of_decide_eq_true (by kernel_rfl), of_decide_eq_true (by kernel_rfl)⟩
/-- The frozen blocks at a start: what lies in memory. -/
def fz0 (W : World) (m : Int) : Fz := fun k => if k = 1 then some (.cells 3 [.int .i64 m]) else (W.heap[k]?).map SB.obj
theorem holds0 {W : World} {m : Int} (h : W.heap[1]? = some (.cells #[.int .i64 m] 3 (0, 0))) : Holds (fz0 W m) W := by
  intro b B hB
  unfold fz0 at hB
  split at hB
  · rename_i hb
    subst hb
    obtain rfl : SB.cells 3 [.int .i64 m] = B := by simpa using hB
    refine ⟨fun a ha => ?_, _, h, fun ρ _ => ⟨(0, 0), fun j _ => by simp, rfl⟩⟩
    simp at ha; subst ha; trivial
  · obtain ⟨o, ho, rfl⟩ := Option.map_eq_some_iff.1 hB
    exact ⟨trivial, o, ho, fun _ _ => rfl⟩
theorem mlf0 (W : World) (m : Int) : MLF (fz0 W m) := ⟨m, rfl⟩
theorem cell_obj {w : World} {b i : Nat} {v : Value} (h : w.cell? ⟨b, i, none⟩ = some v) : ∃ cs t fr, w.heap[b]? = some (.cells cs t fr) ∧ cs[i]? = some v := by
  cases ho : w.heap[b]? with
  | none => simp [World.cell?, ho] at h
  | some o =>
    cases o with
    | cells cs t fr => exact ⟨cs, t, fr, rfl, by simpa [World.cell?, ho] using h⟩
    | _ => simp [World.cell?, ho] at h
theorem raw0 {W : World} {m : Int} (h1 : W.heap[1]? = some (.cells #[.int .i64 m] 3 (0, 0))) {b off : Nat} {zs : List Int} (h : ∀ j (hj : j < zs.length), W.cell? ⟨b, off + j, none⟩ = some (.int .i64 zs[j])) : RawAt (fz0 W m) b off zs := by
  cases zs with
  | nil => exact .inl rfl
  | cons z r =>
    right
    obtain ⟨cs, t, fr, ho, _⟩ := cell_obj (h 0 (by simp))
    have hall : ∀ j (hj : j < (z :: r).length), cs[off + j]? = some (.int .i64 (z :: r)[j]) := fun j hj => by
      have := h j hj
      simpa [World.cell?, ho] using this
    by_cases hb : b = 1
    · subst hb
      rw [h1] at ho
      obtain ⟨rfl, rfl, rfl⟩ : #[Value.int .i64 m] = cs ∧ 3 = t ∧ (0, 0) = fr := by simpa using ho
      refine ⟨_, rfl, fun j hj => ?_⟩
      have := hall j hj
      show [SA.int .i64 m][off + j]? = _
      have h0 : off + j = 0 := by
        have := (Array.getElem?_eq_some_iff.1 this).1
        simp at this; omega
      rw [h0] at this ⊢
      simpa using this
    · exact ⟨.obj (.cells cs t fr), by simp [fz0, hb, ho], fun j hj => hall j hj⟩
theorem maxLen_block {W : World} (h : W.ShapedOpen Tryz.prog) : ∃ m, W.heap[1]? = some (.cells #[.int .i64 m] 3 (0, 0)) := by
  obtain ⟨cs, h1, h2, h3⟩ := h.1 1 #[.int .i64 0] 3 (of_decide_eq_true (by kernel_rfl)) (by kernel_rfl)
  obtain ⟨ts, ht, _, hcs⟩ := h3 (by kernel_rfl)
  have hts : Tryz.prog.cellTypes Tryz.prog.depth 3 = some [3] := by kernel_rfl
  rw [hts] at ht
  obtain rfl : [3] = ts := by simpa using ht
  have hsz : cs.size = 1 := h2
  obtain ⟨v, rfl⟩ : ∃ v, cs = #[v] := by
    cases cs with
    | mk l => match l, hsz with
      | [v], _ => exact ⟨v, rfl⟩
  obtain ⟨u, hu, hok⟩ := hcs 0 v rfl
  obtain rfl : 3 = u := by simpa using hu
  obtain ⟨n, rfl⟩ : ∃ n, v = .int .i64 n := by
    simp only [Cell.ok, Tryz.underlying3] at hok
    cases v <;> simp_all
  exact ⟨n, h1⟩
theorem i64_of {n : Int} (h : (Lit.int .i64 n).wf = true) : i64 n := by
  simp only [Lit.wf, Bool.and_eq_true, decide_eq_true_eq] at h
  exact ⟨h.1, h.2⟩
theorem spot_of {P : Program} {W : World} {base : Nat} {t e : TypeId} {a : Addr} {len cap : Nat} (ht : P.underlying t = some (.slice e)) (h : Value.okWide P W .any base t (.slice (some a) len cap)) : a.spot = none := by
  simp only [Value.okWide, ht, Cell.okWide, Cell.ok] at h
  exact h.2.2.2.1
section
variable {H : Type} {enc : TypeId × Value → H}
/-- A []int that came in. -/
theorem open_ints0 {W : World} {m : Int} {base : Nat} {v : Value} {d : DataW H} {ps : List MemPlace} (h1 : W.heap[1]? = some (.cells #[.int .i64 m] 3 (0, 0))) (hval : Value.okWide Tryz.prog W .any base 23 v) (h : DataW.Trod enc Tryz.prog W 0 (fun _ => true) true 23 v d ps) :
    ∃ (n : Bool) (b e s l c : Nat) (x : List Int), v = SA.den (fun _ k => k) (.slice n 0 b e s l c) ∧
      ∀ (p : Int) G, 1 ≤ p ∧ p ≤ 8 → Fz.le (fz0 W m) G → Fo Tryz.prog G 14 [.va (.int .i64 p), .va (.slice n 0 b e s l c)] (fun o F' => ∃ sc, o = .ret (.va sc) ∧ StepsAt F' sc (stepsS p x)) := by
  obtain ⟨a, len, cap, rfl⟩ := okWide_slice Tryz.underlying23 hval
  obtain ⟨fuel, h⟩ := h
  rcases open_ints Tryz.underlying23 Tryz.underlying3 cells3 h with ⟨h0, -⟩ | ⟨a', len', cap', zs, h0, _, hl, hm, hz, _, hc, hw⟩
  · have h0 : a = none ∧ len = 0 ∧ cap = 0 := by simpa [Value.cells] using h0
    obtain ⟨rfl, rfl, rfl⟩ := h0
    refine ⟨true, 0, 0, 1, 0, 0, [], rfl, fun p G hp _ => ?_⟩
    exact steps_fn G _ [] p ⟨true, 0, 0, 0, [], 0, rfl, fun _ => rfl, (fun h => by cases h), Nat.le_refl _, rfl⟩ (by simp) (by simp) hp
  · have h0 : a = some a' ∧ len = len' ∧ cap = cap' := by simpa [Value.cells] using h0
    obtain ⟨rfl, rfl, rfl⟩ := h0
    obtain ⟨b, off, spot⟩ := a'
    obtain rfl : spot = none := spot_of Tryz.underlying23 hval
    have hz : zs.length = cap := hz
    have hlen : (zs.take len).length = len := by rw [List.length_take]; omega
    have hr : RawAt (fz0 W m) b off (zs.take len) := raw0 h1 fun j hj => by
      have hj2 : j < zs.length := by rw [List.length_take] at hj; omega
      have := hc j hj2
      rw [add_plain] at this
      rw [this]; simp [List.getD, hj2]
    refine ⟨false, b, off, 1, len, cap, zs.take len, by simp [SA.den], fun p G hp hG => ?_⟩
    have := steps_raw G b off cap (zs.take len) p (hr.mono hG) (by unfold maxLen at hm; omega) (fun z hz => i64_of (hw z (List.mem_of_mem_take hz))) hp
    rwa [hlen] at this
end
end Go.Proofs.YtblllibdahkgfaaGreatDoor

namespace Go.Proofs.YtblllibdahkgfaaGreatDoor
open Go Go.RowKit Go.ChangeShapes Go.WideShapes Go.ChangeAt Sx
set_option maxRecDepth 100000
theorem own : ownKnob Tryz.prog.godebug = none := by kernel_rfl
/-- A call that leaves what was there as it was and says true: what the row asks behind it. -/
theorem post_true {H : Type} {enc : TypeId × Value → H} {f : Func} {s : ChangeSpec} {W W' : World} {args : Array Value} {ds : List (DataW H)} {before : List MemPlace}
    (hvars : s.vars = []) (hres : f.resultTypes = #[4]) (hs : s.fn H (ds ++ []) = { results := [.lit (.bool true)], args := ds })
    (hW : DataW.Whole enc Tryz.prog f.params.toList s.vars false W args.toList ds [] before)
    (hstay : ∀ sp : Nat → Bool, (∀ p ∈ before, sp p.block = true) → DataW.TrodAll enc Tryz.prog W' 0 sp true f.params.toList args.toList ds before)
    (hb : Below W.heap.size W W') : s.post enc Tryz.prog f false true false false W args (.bool true) W' := by
  have hlt := hW.lt
  have hold : ∀ p ∈ before, (fun b => decide (b < W.heap.size)) p.block = true := fun p hp => by simpa using hlt p hp
  have hvs : ∀ sp : Nat → Bool, DataW.TrodVars enc Tryz.prog W' sp s.vars (s.fn H (ds ++ [])).vars [] := fun sp => by rw [hvars, hs]; rfl
  have hrs : ∀ (b : Nat) (sp : Nat → Bool) (hd : Bool), DataW.TrodAll enc Tryz.prog W' b sp hd f.resultTypes.toList ((Value.bool true).resultList f.resultTypes.size) (s.fn H (ds ++ [])).results [] := fun b sp hd => by
    rw [hres, hs]
    exact trodAll_mk1 (shut_bool Tryz.underlying4 _)
  have hag : ∀ sp : Nat → Bool, (∀ p ∈ before, sp p.block = true) → DataW.TrodAll enc Tryz.prog W' 0 sp true f.params.toList args.toList (s.fn H (ds ++ [])).args before := fun sp h => by
    rw [hs]; exact hstay sp h
  exact ⟨ds, [], before, [], before, [], hW, hrs _ _ _, hag _ hold, hvs _, hb.frame _, fun h => by cases h⟩
end Go.Proofs.YtblllibdahkgfaaGreatDoor

namespace Go.Proofs.YtblllibdahkgfaaGreatDoor
open Go Go.RowKit Go.ChangeShapes Go.WideShapes Go.ChangeAt Sx
set_option maxRecDepth 100000
/-- Arguments of readable types read as they read. -/
theorem stays2 {H : Type} {enc : TypeId × Value → H} {W W' : World} {sp : Nat → Bool} (hb : Below W.heap.size W W') : ∀ (ts : List TypeId) (vs : List Value) (ds : List (DataW H)) (ps : List MemPlace), (∀ t ∈ ts, Tryz.prog.readableRec t = true ∧ t < Tryz.prog.types.size) →
    DataW.TrodAll enc Tryz.prog W 0 (fun _ => true) true ts vs ds ps → (∀ p ∈ ps, p.block < W.heap.size) → (∀ p ∈ ps, sp p.block = true) → DataW.TrodAll enc Tryz.prog W' 0 sp true ts vs ds ps
  | [], vs, ds, ps, _, h, _, _ => by
    obtain ⟨rfl, rfl, rfl⟩ := trodAll_nil h
    rfl
  | t :: ts, vs, ds, ps, ht, h, hlt, hsp => by
    obtain ⟨v, vs', d, ds', p, q, rfl, rfl, rfl, h1, h2⟩ := trodAll_cons h
    refine ⟨p, q, ?_, stays2 hb ts vs' ds' q (fun t' h' => ht t' (List.mem_cons_of_mem _ h')) h2 (fun x hx => hlt x (List.mem_append_right _ hx)) (fun x hx => hsp x (List.mem_append_right _ hx)), rfl⟩
    have hs : ∀ x ∈ p, W.sameAt W' x := fun x hx => hb.same (hlt x (List.mem_append_left _ hx))
    have hs2 : ∀ x ∈ p, sp x.block = true := fun x hx => hsp x (List.mem_append_left _ hx)
    have ht0 := ht t (List.mem_cons_self ..)
    exact WideElems.Trod_stays laidOut0 ht0.1 ht0.2 h1 hs hs2
section
variable {H : Type} {enc : TypeId × Value → H}
end
end Go.Proofs.YtblllibdahkgfaaGreatDoor

namespace Go.Proofs.YtblllibdahkgfaaGreatDoor
open Go Go.RowKit Go.ChangeShapes Go.WideShapes Go.ChangeAt Sx
set_option maxRecDepth 100000
theorem flatAt {β : Type} {sz : Nat} : ∀ (L : List (List β)), (∀ x ∈ L, x.length = sz) → ∀ i j, j < sz → L.flatten[i * sz + j]? = (L[i]?).bind fun x => x[j]?
  | [], _, i, j, _ => by simp
  | x :: r, h, 0, j, hj => by
    have hx := h x (by simp)
    rw [List.flatten_cons, Nat.zero_mul, Nat.zero_add, List.getElem?_append_left (by omega)]; rfl
  | x :: r, h, i + 1, j, hj => by
    have hx := h x (by simp)
    have h2 : (i + 1) * sz + j = sz + (i * sz + j) := by rw [Nat.succ_mul]; omega
    rw [List.flatten_cons, h2, List.getElem?_append_right (by omega), hx, Nat.add_sub_cancel_left, flatAt r (fun y hy => h y (by simp [hy])) i j hj]
    rfl
theorem flatU {β : Type} {sz : Nat} : ∀ (L : List (List β)), (∀ x ∈ L, x.length = sz) → L.flatten.length = L.length * sz
  | [], _ => by simp
  | x :: r, h => by
    have hx := h x (by simp)
    rw [List.flatten_cons, List.length_append, hx, flatU r (fun y hy => h y (by simp [hy])), List.length_cons, Nat.succ_mul, Nat.add_comm]
theorem raw_row {α : Type} {W : World} {m : Int} (h1 : W.heap[1]? = some (.cells #[.int .i64 m] 3 (0, 0))) {sz : Nat} {enc : α → List SA} {vals : α → List Value} {b off : Nat} {l : List α} (hsz : 2 ≤ sz)
    (hlen : ∀ x, (enc x).length = sz) (hb : ∀ x, ∀ a ∈ enc x, a.below 0) (hden : ∀ ρ x, (enc x).map (SA.den ρ) = vals x)
    (h : ∀ i (hi : i < l.length) j, j < sz → W.cell? ⟨b, off + i * sz + j, none⟩ = (vals l[i])[j]?) : RawRow (fz0 W m) sz enc b off l := by
  intro n hn hnl
  have hvl : ∀ x, (vals x).length = sz := fun x => by rw [← hden (fun _ _ => 0) x, List.length_map, hlen]
  have hv : ∀ x j (hj : j < sz), ∃ v, (vals x)[j]? = some v := fun x j hj => ⟨_, List.getElem?_eq_getElem (by rw [hvl]; exact hj)⟩
  obtain ⟨v0, hv0⟩ := hv l[0] 0 (by omega)
  obtain ⟨v1, hv1⟩ := hv l[0] 1 (by omega)
  have c0 := h 0 (by omega) 0 (by omega)
  have c1 := h 0 (by omega) 1 (by omega)
  rw [hv0] at c0
  rw [hv1] at c1
  obtain ⟨cs, t, fr, ho, _⟩ := cell_obj c0
  have hat : ∀ i, W.cell? ⟨b, i, none⟩ = cs[i]? := fun i => by simp [World.cell?, ho]
  have hb1 : b ≠ 1 := by
    rintro rfl
    rw [h1] at ho
    obtain ⟨rfl, _, _⟩ : #[Value.int .i64 m] = cs ∧ 3 = t ∧ (0, 0) = fr := by simpa using ho
    rw [hat] at c1
    have := (Array.getElem?_eq_some_iff.1 c1).1
    simp at this
  refine ⟨.obj (.cells cs t fr), by simp [fz0, hb1, ho], ?_⟩
  have hXl : ((l.take n).map enc).flatten.length = n * sz := by
    rw [flatU _ (fun x hx => by obtain ⟨y, _, rfl⟩ := List.mem_map.1 hx; exact hlen y), List.length_map, List.length_take, Nat.min_eq_left hnl]
  have hcs : ∀ k, k < n * sz → cs.toList[off + k]? = (((l.take n).map vals).flatten)[k]? := fun k hk => by
    have hz : 0 < sz := by omega
    have hi : k / sz < n := by rw [Nat.div_lt_iff_lt_mul hz]; exact hk
    have hj := Nat.mod_lt k hz
    have hk2 : k / sz * sz + k % sz = k := by rw [Nat.mul_comm]; exact Nat.div_add_mod k sz
    have h3 := h (k / sz) (by omega) (k % sz) hj
    rw [hat, Nat.add_assoc, hk2] at h3
    rw [Array.getElem?_toList, h3]
    conv => rhs; rw [← hk2]
    rw [flatAt (sz := sz) _ (fun x hx => by obtain ⟨y, _, rfl⟩ := List.mem_map.1 hx; exact hvl y) _ _ hj, List.getElem?_map, List.getElem?_take_of_lt hi, List.getElem?_eq_getElem (l := l) (show k / sz < l.length by omega)]
    rfl
  have hend : off + n * sz ≤ cs.toList.length := by
    have hp : 0 < n * sz := Nat.mul_pos hn (by omega)
    have h3 := hcs (n * sz - 1) (by omega)
    have h4 : (((l.take n).map vals).flatten).length = n * sz := by
      rw [flatU _ (fun x hx => by obtain ⟨y, _, rfl⟩ := List.mem_map.1 hx; exact hvl y), List.length_map, List.length_take, Nat.min_eq_left hnl]
    rw [List.getElem?_eq_getElem (show n * sz - 1 < _ by omega)] at h3
    have := (List.getElem?_eq_some_iff.1 h3).1
    omega
  refine ⟨((l.take n).map enc).flatten, ⟨hXl, fun a ha => ?_, fun ρ => ⟨t, fr, cs.toList.take off, cs.toList.drop (off + n * sz), ?_, ?_⟩⟩, rfl⟩
  · obtain ⟨x, hx, hax⟩ := List.mem_flatten.1 ha
    obtain ⟨y, _, rfl⟩ := List.mem_map.1 hx
    exact hb y a hax
  · have hX : ((l.take n).map enc).flatten.map (SA.den ρ) = ((l.take n).map vals).flatten := by
      rw [List.map_flatten, List.map_map]
      congr 2
      funext x
      exact hden ρ x
    have hmid : (cs.toList.drop off).take (n * sz) = ((l.take n).map vals).flatten := by
      refine List.ext_getElem? fun k => ?_
      by_cases hk : k < n * sz
      · rw [List.getElem?_take_of_lt hk, List.getElem?_drop, hcs k hk]
      · rw [List.getElem?_eq_none (by rw [List.length_take]; omega), List.getElem?_eq_none (by rw [← hX, List.length_map, hXl]; omega)]
    rw [hX, ← hmid]
    congr 1
    have : cs.toList.take off ++ (cs.toList.drop off).take (n * sz) ++ cs.toList.drop (off + n * sz) = cs.toList := by
      rw [List.append_assoc, ← List.drop_drop, List.take_append_drop, List.take_append_drop]
    rw [this]
  · rw [List.length_take]
    show _ = off * 1 + 0
    omega
theorem cells168 : Tryz.prog.cellsOf 168 = 2 := by kernel_rfl
theorem cells172 : Tryz.prog.cellsOf 172 = 6 := by kernel_rfl
theorem cells9 : Tryz.prog.cellsOf 9 = 1 := by kernel_rfl
theorem cells4 : Tryz.prog.cellsOf 4 = 1 := by kernel_rfl
theorem cells62 : Tryz.prog.cellsOf 62 = 1 := by kernel_rfl
theorem cells63 : Tryz.prog.cellsOf 63 = 1 := by kernel_rfl
theorem cells65 : Tryz.prog.cellsOf 65 = 4 := by kernel_rfl
theorem rec65 : Tryz.prog.readableRec 65 = true := by kernel_rfl
theorem rows65 : 65 < Tryz.prog.types.size := of_decide_eq_true (by kernel_rfl)
def vlN (x : DLn) : List Value := [.string ⟨x.1.toArray⟩, .int .i64 x.2]
def vlC (x : Cel) : List Value := [.int .i64 x.row, .int .i64 x.col, .bool x.sum, .int .i64 x.value, .int .i64 x.top, .int .i64 x.left]
section
variable {H : Type} {enc : TypeId × Value → H}
theorem pick_lt {α : Type} [Inhabited α] {n : Nat} {p : Nat → α → Prop} (h : ∀ i, i < n → ∃ x, p i x) : ∃ l : List α, l.length = n ∧ ∀ i (hi : i < l.length), p i l[i] := by
  refine ⟨(List.range n).map fun i => if hi : i < n then (h i hi).choose else default, by simp, fun i hi => ?_⟩
  have hi : i < n := by simpa using hi
  simp only [List.getElem_map, List.getElem_range, hi, dif_pos]
  exact (h i hi).choose_spec
instance : Inhabited Cel := ⟨⟨0, 0, false, 0, 0, 0⟩⟩
theorem open_lines {W : World} {m : Int} {fuel : Nat} {cs : List Value} {x : DataW H × List MemPlace} (h1 : W.heap[1]? = some (.cells #[.int .i64 m] 3 (0, 0))) (h : DataW.trod enc Tryz.prog W 0 (fun _ => true) true fuel 62 cs = some x)
    (hsp : ∀ a len cap, cs = [.slice (some a) len cap] → a.spot = none) :
    ∃ (n : Bool) (b e c : Nat) (l : List DLn), cs = [SA.den (fun _ k => k) (.slice n 0 b e 1 l.length c)] ∧ (n = true → l = []) ∧ l.length ≤ c ∧ RawRow (fz0 W m) 2 encN b e l := by
  rcases Deep.open_slice Tryz.underlying62 h with ⟨rfl, -⟩ | ⟨a, len, cap, m', n', D, Pl, rfl, _, hl, hm, hmm, _, hc⟩
  · exact ⟨true, 0, 0, 0, [], rfl, fun _ => rfl, Nat.le_refl _, fun n h1 h2 => by simp at h2; omega⟩
  · obtain ⟨b, off, spot⟩ := a
    obtain rfl : spot = none := hsp _ _ _ rfl
    have hmm : m' = cap := hmm
    have each : ∀ i, i < len → ∃ q : DLn, ∀ j, j < 2 → W.cell? ⟨b, off + i * 2 + j, none⟩ = (vlN q)[j]? := fun i hi => by
      obtain ⟨cs', k1, k2⟩ := hc i (by omega)
      rw [cells168] at k1
      obtain ⟨_, hlen, hcell⟩ := World.cells?_some k1
      match cs', hlen, k2, hcell with
      | [c0, c1], _, k2, hcell =>
        obtain ⟨xs, n, _, _, _, hlen, hf⟩ := DataW.trod_struct Tryz.underlying168 k2
        match xs, hlen with
        | [y0, y1], _ =>
          have t0 := hf 0 _ rfl
          have t1 := hf 1 _ rfl
          obtain ⟨s, e0, _, _⟩ := DataW.trod_string Tryz.underlying9 (x := y0) t0
          obtain ⟨z, e1, _, _⟩ := DataW.trod_int Tryz.underlying3 (x := y1) t1
          obtain rfl : c0 = .string s := by simpa [cells3, cells9, cells4] using e0
          obtain rfl : c1 = .int .i64 z := by simpa [cells3, cells9, cells4] using e1
          refine ⟨(s.data.toList, z), fun j hj => ?_⟩
          have g := hcell j (by omega)
          simp only [add_plain] at g
          rw [g]
          rfl
    obtain ⟨l, hl2, hf⟩ := pick_lt each
    refine ⟨false, b, off, cap, l, by rw [hl2]; simp [SA.den], (fun h => by cases h), by omega, raw_row (vals := vlN) h1 (Nat.le_refl 2) (fun _ => rfl) (fun x a ha => ?_) (fun ρ x => rfl) fun i hi j hj => hf i hi j hj⟩
    simp only [encN, List.mem_cons, List.not_mem_nil, or_false] at ha
    rcases ha with rfl | rfl <;> trivial
theorem open_cells {W : World} {m : Int} {fuel : Nat} {cs : List Value} {x : DataW H × List MemPlace} (h1 : W.heap[1]? = some (.cells #[.int .i64 m] 3 (0, 0))) (h : DataW.trod enc Tryz.prog W 0 (fun _ => true) true fuel 63 cs = some x)
    (hsp : ∀ a len cap, cs = [.slice (some a) len cap] → a.spot = none) :
    ∃ (n : Bool) (b e c : Nat) (l : List Cel), cs = [SA.den (fun _ k => k) (.slice n 0 b e 1 l.length c)] ∧ (n = true → l = []) ∧ l.length ≤ c ∧ RawRow (fz0 W m) 6 encK b e l := by
  rcases Deep.open_slice Tryz.underlying63 h with ⟨rfl, -⟩ | ⟨a, len, cap, m', n', D, Pl, rfl, _, hl, hm, hmm, _, hc⟩
  · exact ⟨true, 0, 0, 0, [], rfl, fun _ => rfl, Nat.le_refl _, fun n h1 h2 => by simp at h2; omega⟩
  · obtain ⟨b, off, spot⟩ := a
    obtain rfl : spot = none := hsp _ _ _ rfl
    have hmm : m' = cap := hmm
    have each : ∀ i, i < len → ∃ q : Cel, ∀ j, j < 6 → W.cell? ⟨b, off + i * 6 + j, none⟩ = (vlC q)[j]? := fun i hi => by
      obtain ⟨cs', k1, k2⟩ := hc i (by omega)
      rw [cells172] at k1
      obtain ⟨_, hlen, hcell⟩ := World.cells?_some k1
      match cs', hlen, k2, hcell with
      | [c0, c1, c2, c3, c4, c5], _, k2, hcell =>
        obtain ⟨xs, n, _, _, _, hlen, hf⟩ := DataW.trod_struct Tryz.underlying172 k2
        match xs, hlen with
        | [y0, y1, y2, y3, y4, y5], _ =>
          obtain ⟨z0, e0, _, _⟩ := DataW.trod_int Tryz.underlying3 (x := y0) (hf 0 _ rfl)
          obtain ⟨z1, e1, _, _⟩ := DataW.trod_int Tryz.underlying3 (x := y1) (hf 1 _ rfl)
          obtain ⟨z2, e2, _⟩ := DataW.trod_bool Tryz.underlying4 (x := y2) (hf 2 _ rfl)
          obtain ⟨z3, e3, _, _⟩ := DataW.trod_int Tryz.underlying3 (x := y3) (hf 3 _ rfl)
          obtain ⟨z4, e4, _, _⟩ := DataW.trod_int Tryz.underlying3 (x := y4) (hf 4 _ rfl)
          obtain ⟨z5, e5, _, _⟩ := DataW.trod_int Tryz.underlying3 (x := y5) (hf 5 _ rfl)
          obtain rfl : c0 = .int .i64 z0 := by simpa [cells3, cells9, cells4] using e0
          obtain rfl : c1 = .int .i64 z1 := by simpa [cells3, cells9, cells4] using e1
          obtain rfl : c2 = .bool z2 := by simpa [cells3, cells9, cells4] using e2
          obtain rfl : c3 = .int .i64 z3 := by simpa [cells3, cells9, cells4] using e3
          obtain rfl : c4 = .int .i64 z4 := by simpa [cells3, cells9, cells4] using e4
          obtain rfl : c5 = .int .i64 z5 := by simpa [cells3, cells9, cells4] using e5
          refine ⟨⟨z0, z1, z2, z3, z4, z5⟩, fun j hj => ?_⟩
          have g := hcell j (by omega)
          simp only [add_plain] at g
          rw [g]
          rfl
    obtain ⟨l, hl2, hf⟩ := pick_lt each
    refine ⟨false, b, off, cap, l, by rw [hl2]; simp [SA.den], (fun h => by cases h), by omega, raw_row (vals := vlC) h1 (by decide) (fun _ => rfl) (fun x a ha => ?_) (fun ρ x => rfl) fun i hi j hj => hf i hi j hj⟩
    simp only [encK, List.mem_cons, List.not_mem_nil, or_false] at ha
    rcases ha with rfl | rfl | rfl | rfl | rfl | rfl <;> trivial
/-- A Doc that came in. -/
theorem open_doc {W : World} {m : Int} {base : Nat} {v : Value} {d : DataW H} {ps : List MemPlace} (h1 : W.heap[1]? = some (.cells #[.int .i64 m] 3 (0, 0))) (hval : Value.okWide Tryz.prog W .any base 65 v) (h : DataW.Trod enc Tryz.prog W 0 (fun _ => true) true 65 v d ps) :
    ∃ (an bn : Bool) (ab ao ac bb bo bc : Nat) (L : List DLn) (K : List Cel) (w : Int) (s : List UInt8),
      v = .agg ([SA.slice an 0 ab ao 1 L.length ac, .slice bn 0 bb bo 1 K.length bc, .int .i64 w, .str s].map (SA.den (fun _ k => k))).toArray ∧
      (an = true → L = []) ∧ L.length ≤ ac ∧ RawRow (fz0 W m) 2 encN ab ao L ∧ (bn = true → K = []) ∧ K.length ≤ bc ∧ RawRow (fz0 W m) 6 encK bb bo K ∧ i64 w := by
  obtain ⟨ca, rfl, hsz⟩ := okWide_struct Tryz.underlying65 hval
  rw [cells65] at hsz
  obtain ⟨fuel, h⟩ := h
  simp only [Value.okWide, Tryz.underlying65] at hval
  obtain ⟨ca', hca, _, ts, hts, _, hrow⟩ := hval
  obtain rfl : ca = ca' := by simpa using hca
  have hts2 : Tryz.prog.cellTypes Tryz.prog.depth 65 = some [62, 63, 3, 9] := by kernel_rfl
  rw [hts2] at hts
  obtain rfl : [62, 63, 3, 9] = ts := by simpa using hts
  obtain ⟨cl⟩ := ca
  match cl, hsz with
  | [c0, c1, c2, c3], _ =>
    obtain ⟨xs, n, _, _, _, hlen, hf⟩ := DataW.trod_struct Tryz.underlying65 h
    match xs, hlen with
    | [y0, y1, y2, y3], _ =>
      have t0 := hf 0 _ rfl
      have t1 := hf 1 _ rfl
      obtain ⟨z, e2, _, w2⟩ := DataW.trod_int Tryz.underlying3 (x := y2) (hf 2 _ rfl)
      obtain ⟨s, e3, _, _⟩ := DataW.trod_string Tryz.underlying9 (x := y3) (hf 3 _ rfl)
      obtain rfl : c2 = .int .i64 z := by simpa [cells3, cells9, cells62, cells63, Value.cells] using e2
      obtain rfl : c3 = .string s := by simpa [cells3, cells9, cells62, cells63, Value.cells] using e3
      obtain ⟨an, ab, ao, ac, L, hA, a1, a2, a3⟩ := open_lines h1 (x := y0) t0 (by
        intro a len cap hc
        obtain rfl : c0 = .slice (some a) len cap := by simpa [cells3, cells9, cells62, cells63, Value.cells] using hc
        obtain ⟨u, hu, hok⟩ := hrow 0 _ rfl
        obtain rfl : 62 = u := by simpa using hu
        simp only [Tryz.underlying62, Cell.okWide, Cell.ok] at hok
        exact hok.2.2.2.1)
      obtain ⟨bn, bb, bo, bc, K, hB, b1, b2, b3⟩ := open_cells h1 (x := y1) t1 (by
        intro a len cap hc
        obtain rfl : c1 = .slice (some a) len cap := by simpa [cells3, cells9, cells62, cells63, Value.cells] using hc
        obtain ⟨u, hu, hok⟩ := hrow 1 _ rfl
        obtain rfl : 63 = u := by simpa using hu
        simp only [Tryz.underlying63, Cell.okWide, Cell.ok] at hok
        exact hok.2.2.2.1)
      obtain rfl : c0 = _ := by simpa [cells3, cells9, cells62, cells63, Value.cells] using hA
      obtain rfl : c1 = _ := by simpa [cells3, cells9, cells62, cells63, Value.cells] using hB
      exact ⟨an, bn, ab, ao, ac, bb, bo, bc, L, K, z, s.data.toList, rfl, a1, a2, a3, b1, b2, b3, i64_of w2⟩
end
end Go.Proofs.YtblllibdahkgfaaGreatDoor

namespace Go.Proofs.YtblllibdahkgfaaGreatDoor
open Go Go.RowKit Go.ChangeShapes Go.WideShapes Go.ChangeAt Sx
set_option maxRecDepth 100000
/-- The law's contract. -/
theorem contract08 (H : Type) (enc : TypeId × Value → H) (W : World) (base : Nat) (args : Array Value) (ds gs : List (DataW H)) (before : List MemPlace)
    (hval : ∀ (j : Nat) t v, Tryz.f10.params[j]? = some t → args[j]? = some v → Value.okWide Tryz.prog W .any base t v)
    (hW : DataW.Whole enc Tryz.prog Tryz.f10.params.toList Rows.abstractionDocumentSpec.vars false W args.toList ds gs before) (hS : W.ShapedOpen Tryz.prog) :
    Calls Tryz.prog 10 args W fun e W' => ∃ v, e = .returned v ∧ Rows.abstractionDocumentSpec.post enc Tryz.prog Tryz.f10 false true false false W args v W' := by
  have hW' := hW
  obtain ⟨p, q, hA0, hV, rfl, _, _⟩ := hW
  have hA : DataW.TrodAll enc Tryz.prog W 0 (fun _ => true) true Tryz.f10.params.toList args.toList ds p := hA0
  obtain ⟨rfl, rfl⟩ := trodVars_none hV
  rw [Tryz.params10] at hA hval
  obtain ⟨v0, vs0, d0, ds0, p0, q0, hargs, rfl, rfl, h0, r0⟩ := trodAll_cons hA
  obtain ⟨v1, vs1, d1, ds1, p1, q1, rfl, rfl, rfl, h1, r1⟩ := trodAll_cons r0
  obtain ⟨rfl, rfl, rfl⟩ := trodAll_nil r1
  obtain rfl : args = #[v0, v1] := by cases args; simp_all
  obtain ⟨m, hm⟩ := maxLen_block hS
  obtain ⟨an0, bn0, ab0, ao0, ac0, bb0, bo0, bc0, L0, K0, w0, s0, rfl, da0, db0, dc0, dd0, de0, df0, _⟩ := open_doc hm (hval 0 65 v0 rfl rfl) h0
  obtain ⟨n1, b1, e1, s1, l1, c1, x1, rfl, a1⟩ := open_ints0 hm (hval 1 23 v1 rfl rfl) h1
  have walk := calls_of_Fo (law8_fn (fz0 W m) (mlf0 W m) an0 bn0 n1 ab0 ao0 ac0 bb0 bo0 bc0 b1 e1 s1 l1 c1 L0 K0 w0 s0 x1 da0 db0 dc0 dd0 de0 df0 a1) (holds0 hm)
    (vs := [_, _]) ⟨rfl, rfl, trivial⟩ (by
      intro s hs
      simp at hs
      rcases hs with rfl | rfl
      · intro a ha
        simp at ha
        rcases ha with rfl | rfl | rfl | rfl
        · exact .inr Nat.zero_lt_one
        · exact .inr Nat.zero_lt_one
        · trivial
        · trivial
      · exact .inr Nat.zero_lt_one)
  refine walk.mono fun e W' ⟨he, hbel⟩ => ?_
  subst he
  refine ⟨_, rfl, post_true rfl rfl rfl hW' (fun sp hsp => ?_) hbel⟩
  refine stays2 hbel _ _ _ _ ?_ (by simpa using hA0) (fun x hx => hW'.lt x hx) hsp
  intro t ht
  rw [Tryz.params10] at ht
  have hc := (by decide : ∀ t ∈ ([65, 23] : List Nat), t = 23 ∨ t = 65) t ht
  rcases hc with rfl | rfl
  · exact ⟨rec23, rows_lt.2.2⟩
  · exact ⟨rec65, rows65⟩
noncomputable def world08 (os : Os) : World := World.laidAll Tryz.prog os Rows.abstractionDocumentRow.laid
theorem laid08 (os : Os) (args : Array Value) : laidMet Tryz.prog Rows.abstractionDocumentRow.laid ((world08 os).forCall (fun _ _ => 0) ⟨#[], args, []⟩).memory :=
  laidMet_laidAll args (by kernel_rfl) (by kernel_rfl)
end Go.Proofs.YtblllibdahkgfaaGreatDoor
