import Derived.Test.YtblllibdahkgfaaGreatDoorK25

namespace Go.Proofs.YtblllibdahkgfaaGreatDoor
open Go Sx
theorem apply_write {p : Int} {l : List Stp} {v : Val} (hl : validS p l = true) (hv : VOK p v) : applyS p l (writeS p v) = (writeS p (runS l v), 0) := by
  rw [applyS, if_pos hl, read_write (valid_p hl) hv]
theorem run_ok {p : Int} {l : List Stp} {v : Val} (hl : validS p l = true) (hv : VOK p v) : VOK p (runS l v) := VOK_run (valid_p hl) l v (valid_ok hl) hv
theorem nfs_valid {p : Int} (hp : 1 ≤ p ∧ p ≤ 8) : ∀ m ∈ nfs p, validS p m = true := by
  rcases p8 hp with rfl | rfl | rfl | rfl | rfl | rfl | rfl | rfl <;> decide +kernel
theorem norm_in {p : Int} {l : List Stp} (hl : validS p l = true) : normS l ∈ nfs p := norm_mem (valid_p hl) l (valid_ok hl)
theorem normV {p : Int} {l : List Stp} (hl : validS p l = true) : validS p (normS l) = true := nfs_valid (valid_p hl) _ (norm_in hl)
theorem write_inj {p : Int} {v w : Val} (hp : 1 ≤ p ∧ p ≤ 8) (hv : VOK p v) (hw : VOK p w) (h : writeS p v = writeS p w) : v = w := by
  have h1 := read_write hp hv
  rw [h, read_write hp hw] at h1
  exact (Option.some.inj h1).symm
def keyV (v : Val) : Bool × List Ln × Int × Int := (v.lost, v.lines, v.w, v.h)
instance decNums (p : Int) : ∀ (l acc : List Int), Decidable (numsOk p acc l)
  | [], _ => isTrue trivial
  | x :: r, acc => @instDecidableAnd _ _ inferInstance (decNums p r (acc ++ [x]))
instance decLn (p : Int) (before : List Ln) (x : Ln) : Decidable (lnOk p before x) := by
  unfold lnOk
  have : Decidable (∀ y, before.getLast? = some y → cmpL (y.2.take 2) (x.2.take 2) < 0) := by
    cases h : before.getLast? with
    | none => exact isTrue (fun y hy => by cases hy)
    | some z =>
      by_cases hz : cmpL (z.2.take 2) (x.2.take 2) < 0
      · exact isTrue (fun y hy => by cases hy; exact hz)
      · exact isFalse (fun hy => hz (hy z rfl))
  infer_instance
instance decLns (p : Int) : ∀ (l acc : List Ln), Decidable (lnsOk p acc l)
  | [], _ => isTrue trivial
  | x :: r, acc => @instDecidableAnd _ _ (decLn p acc x) (decLns p r (acc ++ [x]))
/-- A value that is not lost. -/
def VOK1 (p : Int) (v : Val) : Prop := v.lost = false ∧
    if p = 8 then v.lines = [] ∧ v.bits = [] ∧ (0 ≤ v.w ∧ v.w ≤ 64) ∧ (0 ≤ v.h ∧ v.h ≤ 64)
    else if 6 ≤ p then v.lines = [] ∧ (0 ≤ v.w ∧ v.w ≤ 32) ∧ (min v.w 1 ≤ v.h ∧ v.h ≤ min v.w 1 * 32) ∧ (if p = 7 then (v.bits.length : Int) = v.w * v.h ∧ v.bits.all (fun b => b == 48 || b == 49) = true else v.bits = [])
    else v.w = 0 ∧ v.h = 0 ∧ v.bits = [] ∧ v.lines.length ≤ 64 ∧ lnsOk p [] v.lines
theorem VOK1.ok {p : Int} {v : Val} (h : VOK1 p v) : VOK p v := .inr h
instance decVOK (p : Int) (v : Val) : Decidable (VOK1 p v) := by unfold VOK1; infer_instance
def pairV (p : Int) (m n : List Stp) : Val × Val :=
  if n.head? = some (6, 0) then
    if p = 1 then (⟨false, [([120], [])], 0, 0, []⟩, ⟨false, [([121], [])], 0, 0, []⟩)
    else if p = 7 then (⟨false, [], 0, 0, []⟩, ⟨false, [], 1, 1, [49]⟩)
    else if 6 ≤ p then (⟨false, [], 0, 0, []⟩, ⟨false, [], 1, 1, []⟩)
    else if p = 2 then (⟨false, [], 0, 0, []⟩, ⟨false, [([], [0])], 0, 0, []⟩)
    else if p = 4 then (⟨false, [], 0, 0, []⟩, ⟨false, [([], [0, 0, 0, 0])], 0, 0, []⟩)
    else (⟨false, [], 0, 0, []⟩, ⟨false, [([], [0, 0, 0])], 0, 0, []⟩)
  else if p = 1 then
    if n.head? = some (1, 0) ∧ m.head? ≠ some (1, 0) then (⟨false, [([65], [])], 0, 0, []⟩, ⟨false, [([97], [])], 0, 0, []⟩)
    else (⟨false, [([97, 32, 32, 98], [])], 0, 0, []⟩, ⟨false, [([97, 32, 98], [])], 0, 0, []⟩)
  else if p = 2 then (⟨false, [([], [((n.head?.map (·.2)).getD 0) + 1])], 0, 0, []⟩, ⟨false, [([], [0])], 0, 0, []⟩)
  else if p = 3 ∨ p = 5 then (⟨false, [([], [0, 0, ((m.head?.map (·.2)).getD 1)])], 0, 0, []⟩, ⟨false, [([], [0, 0, 0])], 0, 0, []⟩)
  else if p = 6 then (⟨false, [], 2 ^ m.length, 1, []⟩, ⟨false, [], 2 ^ (m.length + 1), 1, []⟩)
  else (⟨false, [], 2 ^ m.length, 1, List.replicate (2 ^ m.length) 48⟩, ⟨false, [], 2 ^ (m.length + 1), 1, List.replicate (2 ^ (m.length + 1)) 48⟩)
def fullV (v : Val) : Bool × List Ln × Int × Int × List UInt8 := (v.lost, v.lines, v.w, v.h, v.bits)
theorem fullV_inj {v w : Val} (h : fullV v = fullV w) : v = w := by
  obtain ⟨a, b, c, d, e⟩ := v
  obtain ⟨a', b', c', d', e'⟩ := w
  simp only [fullV, Prod.mk.injEq] at h
  obtain ⟨rfl, rfl, rfl, rfl, rfl⟩ := h
  rfl
def pairOk (p : Int) (m n : List Stp) : Bool :=
  coarS p m n || (decide (n ≠ []) && (decide (n.head? = some (6, 0)) || decide (m.length ≤ 4)) && decide (m.head? ≠ some (6, 0)) && decide (VOK1 p (pairV p m n).1) && decide (VOK1 p (pairV p m n).2) &&
    decide (fullV (runS n (pairV p m n).1) = fullV (runS n (pairV p m n).2)) && decide (keyV (runS m (pairV p m n).1) ≠ keyV (runS m (pairV p m n).2)))
theorem pair_dec {p : Int} (hp : 1 ≤ p ∧ p ≤ 8) : ∀ m ∈ nfs p, ∀ n ∈ nfs p, pairOk p m n = true := by
  rcases p8 hp with rfl | rfl | rfl | rfl | rfl | rfl | rfl | rfl <;> decide +kernel
theorem pair_ok {p : Int} (hp : 1 ≤ p ∧ p ≤ 8) {m n : List Stp} (hm : m ∈ nfs p) (hn : n ∈ nfs p) (h : coarS p m n = false) :
    n ≠ [] ∧ (n.head? = some (6, 0) ∨ m.length ≤ 4) ∧ m.head? ≠ some (6, 0) ∧ VOK p (pairV p m n).1 ∧ VOK p (pairV p m n).2 ∧
    runS n (pairV p m n).1 = runS n (pairV p m n).2 ∧ runS m (pairV p m n).1 ≠ runS m (pairV p m n).2 := by
  have h1 := pair_dec hp m hm n hn
  simp only [pairOk, h, Bool.false_or, Bool.and_eq_true, Bool.or_eq_true, decide_eq_true_eq] at h1
  obtain ⟨⟨⟨⟨⟨⟨a1, a2⟩, a3⟩, a4⟩, a5⟩, a6⟩, a7⟩ := h1
  exact ⟨a1, a2, a3, a4.ok, a5.ok, fullV_inj a6, fun e => a7 (by rw [e])⟩
end Go.Proofs.YtblllibdahkgfaaGreatDoor

namespace Go.Proofs.YtblllibdahkgfaaGreatDoor
open Go Sx
theorem pickI_in (c : Int) {n : Int} (hn : 0 < n) : 0 ≤ pickI c n ∧ pickI c n < n := by
  unfold pickI
  split
  · exact ⟨Int.tmod_nonneg _ (by omega), Int.tmod_lt_of_pos _ hn⟩
  · exact ⟨Int.tmod_nonneg _ (by omega), Int.tmod_lt_of_pos _ hn⟩
theorem stepOk_sts {p : Int} (hp : 1 ≤ p ∧ p ≤ 8) : ∀ s ∈ sts p, stepOk p s = true := by
  rcases p8 hp with rfl | rfl | rfl | rfl | rfl | rfl | rfl | rfl <;> decide +kernel
theorem stepOf_in {p : Int} (hp : 1 ≤ p ∧ p ≤ 8) (x : Int) : ∀ s ∈ stepOf p x, s ∈ sts p := by
  intro s hs
  have hk := pickI_in (x.tdiv 8) (n := 21) (by decide)
  unfold stepOf at hs
  unfold sts
  split at hs
  · split at hs
    · rename_i h1
      rw [if_pos h1]
      have h2 : 0 ≤ (pickI (x.tdiv 8) 21).tmod 2 := Int.tmod_nonneg _ hk.1
      have h3 : (pickI (x.tdiv 8) 21).tmod 2 < 2 := Int.tmod_lt_of_pos _ (by decide)
      have hc : (pickI (x.tdiv 8) 21).tmod 2 = 0 ∨ (pickI (x.tdiv 8) 21).tmod 2 = 1 := by omega
      rw [List.mem_singleton] at hs
      subst hs
      rcases hc with h | h <;> rw [h] <;> simp
    rename_i n1
    split at hs
    · rename_i h2'
      rw [if_neg n1, if_pos h2']
      have h2 : 0 ≤ (pickI (x.tdiv 8) 21).tmod 7 := Int.tmod_nonneg _ hk.1
      have h3 : (pickI (x.tdiv 8) 21).tmod 7 < 7 := Int.tmod_lt_of_pos _ (by decide)
      obtain ⟨m, hm⟩ : ∃ m, (pickI (x.tdiv 8) 21).tmod 7 = m := ⟨_, rfl⟩
      rw [hm] at h2 h3 hs
      rw [List.mem_singleton] at hs
      subst hs
      have hc : m = 0 ∨ m = 1 ∨ m = 2 ∨ m = 3 ∨ m = 4 ∨ m = 5 ∨ m = 6 := by omega
      rcases hc with rfl | rfl | rfl | rfl | rfl | rfl | rfl <;> simp
    rename_i n2
    split at hs
    · rename_i h3
      rw [if_neg n1, if_neg n2, if_pos h3]
      rw [List.mem_singleton] at hs
      subst hs
      split
      · simp
      · split <;> simp
    rename_i n3
    split at hs
    · rename_i h4
      rw [if_neg n1, if_neg n2, if_neg n3, if_pos h4]
      rw [List.mem_singleton] at hs
      subst hs; simp
    · exact absurd hs (by simp)
  · rw [List.mem_singleton] at hs
    subst hs; simp
theorem stepsS_valid {p : Int} (hp : 1 ≤ p ∧ p ≤ 8) (x : List Int) : validS p (stepsS p x) = true := by
  refine valid_of hp ?_ ?_
  · have := steps_len p (x.take 8)
    rw [List.length_take] at this
    unfold stepsS; omega
  · intro s hs
    unfold stepsS at hs
    obtain ⟨l, hl, hs⟩ := List.mem_flatten.1 hs
    obtain ⟨a, _, rfl⟩ := List.mem_map.1 hl
    exact stepOk_sts hp s (stepOf_in hp a s hs)
end Go.Proofs.YtblllibdahkgfaaGreatDoor

namespace Go.Proofs.YtblllibdahkgfaaGreatDoor
open Go Sx
set_option maxRecDepth 100000
theorem writeS_len {p : Int} {v : Val} (hv : Fits v) : (writeS p v).length ≤ 100000000000 := by
  unfold writeS
  split
  · simp
  split
  · have h1 := numbersS_len [v.w, v.h]
    have h2 := putSR_len v.bits
    rw [List.length_append]
    simp only [List.length_cons, List.length_nil] at h1
    split
    · omega
    · simp only [List.length_nil]; omega
  · have h1 := numbersS_len [(v.lines.length : Int)]
    have h2 := linesW_len (p := p) v.lines (fun x hx => (hv.h2 x hx).2)
    have h3 := hv.h1
    rw [List.length_append]
    simp only [List.length_cons, List.length_nil] at h1
    have h4 : 74545 * v.lines.length ≤ 74545 * 1000 := Nat.mul_le_mul_left _ h3
    omega
theorem writeV_len {p : Int} {v : Val} (hp : 1 ≤ p ∧ p ≤ 8) (hv : VOK p v) : (writeS p v).length ≤ 1000000000000000000 := by
  have := writeS_len (p := p) (fits_of hp hv); omega
theorem valid_short {p : Int} {l : List Stp} (h : validS p l = true) : l.length < 1000000 := by have := valid_len h; omega
theorem normOk {q : Int} {a : List Stp} (ha : validS q a = true) (F : Fz) (sa : SA) (sA : StepsAt F sa a) :
    Fo Tryz.prog F 15 [.va (.int .i64 q), .va sa] (fun o F' => ∃ sc, o = .ret (.tup [.va sc, .va (.int .i64 0)]) ∧ StepsAt F' sc (normS a)) := by
  have h := normalE_fn F sa a q sA (valid_short ha)
  rw [normR, if_pos ha] at h
  exact h
theorem applyOk {q : Int} {l : List Stp} {v : Val} (hl : validS q l = true) (hv : VOK q v) (F : Fz) (hM : MLF F) (sa : SA) (sA : StepsAt F sa l) :
    Fo Tryz.prog F 26 [.va (.int .i64 q), .va sa, .va (.str (writeS q v))] (fun o F' => o = .ret (.tup [.va (.str (writeS q (runS l v))), .va (.int .i64 0)])) := by
  have h := apply_fn F hM sa l q (writeS q v) sA (valid_short hl) (writeV_len (valid_p hl) hv)
  rw [apply_write hl hv] at h
  exact h
theorem saneL (F : Fz) (hM : MLF F) : Fo Tryz.prog F 11 [] (fun o F' => o = .ret (.va (.lit true)) ∧ True) := Fo_lit (sane_fn F hM)
/-- What the laws know of the arguments that came in. -/
abbrev StepsArg (F0 : Fz) (s : SA) (x : List Int) : Prop := ∀ (P : Int) G, 1 ≤ P ∧ P ≤ 8 → Fz.le F0 G → Fo Tryz.prog G 14 [.va (.int .i64 P), .va s] (fun o F' => ∃ sc, o = .ret (.va sc) ∧ StepsAt F' sc (stepsS P x))
end Go.Proofs.YtblllibdahkgfaaGreatDoor

namespace Go.Proofs.YtblllibdahkgfaaGreatDoor
open Go Sx
set_option maxRecDepth 100000
end Go.Proofs.YtblllibdahkgfaaGreatDoor

namespace Go.Proofs.YtblllibdahkgfaaGreatDoor
open Go Sx
set_option maxRecDepth 100000
/-- A loop that appends noughts. -/
theorem noughts {k : Nat} : List.replicate k (48 : UInt8) ++ [48] = List.replicate (k + 1) 48 := by rw [List.replicate_succ']
end Go.Proofs.YtblllibdahkgfaaGreatDoor

namespace Go.Proofs.YtblllibdahkgfaaGreatDoor
open Go Sx
set_option maxRecDepth 100000
abbrev PairK (F : Fz) (p : Int) (m n : List Stp) : Out → Fz → Prop := fun o _ => o = .ret (.tup [.va (.str (writeS p (pairV p m n).1)), .va (.str (writeS p (pairV p m n).2))])
theorem pairEnd {F F1 : Fz} {p : Int} {m n : List Stp} {t u : List UInt8} {h : Hp} {nx : Nat} (ht : writeS p (pairV p m n).1 = t) (hu : writeS p (pairV p m n).2 = u) (hle : Fz.le F F1) (h0 : lget h 0 = some (.frz F1)) :
    Cln 1 (FoK F (PairK F p m n)) (.ret (.tup [.va (.str t), .va (.str u)])) h nx := by
  subst ht
  subst hu
  exact endFo (.ret (.tup [.va (.str (writeS p (pairV p m n).1)), .va (.str (writeS p (pairV p m n).2))])) F1 h0 hle (Fz.le_refl F1) rfl (outE_refl _) rfl
set_option maxHeartbeats 8000000 in
theorem pairL1_fn (F : Fz) (sa sb : SA) (m nr : List Stp) (hm : StepsAt F sa m) (hn : StepsAt F sb ((6, 0) :: nr)) (hl : nr.length < 1000) :
    Fo Tryz.prog F 30 [.va (.int .i64 1), .va sa, .va sb] (PairK F 1 m ((6, 0) :: nr)) := by
  have e1 : writeS 1 (pairV 1 m ((6, 0) :: nr)).1 = textS [[120]] := by
    simp [writeS, pairV, lineW, numbersS, textS]
  have e2 : writeS 1 (pairV 1 m ((6, 0) :: nr)).2 = textS [[121]] := by
    simp [writeS, pairV, lineW, numbersS, textS]
  have ghn : 0 < ((6, 0) :: nr : List Stp).length := by simp
  have hlthn : (0 : Int) < (((6, 0) :: nr : List Stp).length : Nat) := by rw [List.length_cons]; omega
  have hz : ¬ (((((6, 0) :: nr : List Stp).length : Nat) : Int) = 0) := by rw [List.length_cons]; omega
  obtain ⟨hmn, hmb, hme, hmc, hmL, hmr, rfl, hm1, hm2, hm3, hm4⟩ := hm
  obtain ⟨hnn, hnb, hne, hnc, hnL, hnr, rfl, hn1, hn2, hn3, hn4⟩ := hn
  have hgethn : hnL[hne + ((0 : Nat) : Int).toNat]? = some (enc (6, 0)) := Sl.at (k := 0) hn4 ghn
  refine fo_of hΘ Tryz.func30 rfl (by decide) _ _ rfl rfl rfl ?_
  conv => whnf
  refine br (fun g => absurd (of_decide_eq_true g) hz) (fun _ => ?_)
  conv => whnf
  refine ⟨Sl.lt hn1 ghn, ⟨by simp, hlthn⟩, ?_⟩
  conv => whnf
  refine ⟨_, hn2 (Sl.lt hn1 ghn), ?_⟩
  conv => whnf
  refine ⟨_, hgethn, ?_⟩
  conv => whnf
  refine br (fun _ => ?_) (fun g => absurd g (by decide))
  conv => whnf
  refine br (fun _ => ?_) (fun g => absurd g (by decide))
  conv => whnf
  refine freezeC 1 (fun _ => .arr 9 1 (([[120]] : List (List UInt8)).map encS) 1) rfl rfl rfl (fun _ _ => rfl) (fun _ _ => SB.bB_ok rfl) ?_
  intro b1 A1 k1 hb1
  refine usePu (text_fn A1 _ _ (Sl.new (l := ([[120]] : List (List UInt8))) (cap := 1) (hb1 0 rfl)) (by decide) (by simp)) rfl ⟨⟨rfl, rfl, rfl, .inr ⟨rfl, rfl, rfl, rfl⟩⟩, trivial⟩ rfl ?_
  conv => whnf
  refine freezeC 2 (fun _ => .arr 9 1 (([[121]] : List (List UInt8)).map encS) 1) rfl rfl rfl (fun _ _ => rfl) (fun _ _ => SB.bB_ok rfl) ?_
  intro b2 A2 k2 hb2
  refine usePu (text_fn A2 _ _ (Sl.new (l := ([[121]] : List (List UInt8))) (cap := 1) (hb2 0 rfl)) (by decide) (by simp)) rfl ⟨⟨rfl, rfl, rfl, .inr ⟨rfl, rfl, rfl, rfl⟩⟩, trivial⟩ rfl ?_
  conv => whnf
  exact pairEnd e1 e2 (Fz.le_trans k1 k2) rfl
set_option maxHeartbeats 8000000 in
theorem pairL6_fn (F : Fz) (sa sb : SA) (m nr : List Stp) (hm : StepsAt F sa m) (hn : StepsAt F sb ((6, 0) :: nr)) (hl : nr.length < 1000) :
    Fo Tryz.prog F 30 [.va (.int .i64 6), .va sa, .va sb] (PairK F 6 m ((6, 0) :: nr)) := by
  have e1 : writeS 6 (pairV 6 m ((6, 0) :: nr)).1 = numbersS [0, 0] := by
    simp [writeS, pairV, lineW, numbersS, textS]
  have e2 : writeS 6 (pairV 6 m ((6, 0) :: nr)).2 = numbersS [1, 1] := by
    simp [writeS, pairV, lineW, numbersS, textS]
  have ghn : 0 < ((6, 0) :: nr : List Stp).length := by simp
  have hlthn : (0 : Int) < (((6, 0) :: nr : List Stp).length : Nat) := by rw [List.length_cons]; omega
  have hz : ¬ (((((6, 0) :: nr : List Stp).length : Nat) : Int) = 0) := by rw [List.length_cons]; omega
  obtain ⟨hmn, hmb, hme, hmc, hmL, hmr, rfl, hm1, hm2, hm3, hm4⟩ := hm
  obtain ⟨hnn, hnb, hne, hnc, hnL, hnr, rfl, hn1, hn2, hn3, hn4⟩ := hn
  have hgethn : hnL[hne + ((0 : Nat) : Int).toNat]? = some (enc (6, 0)) := Sl.at (k := 0) hn4 ghn
  refine fo_of hΘ Tryz.func30 rfl (by decide) _ _ rfl rfl rfl ?_
  conv => whnf
  refine br (fun g => absurd (of_decide_eq_true g) hz) (fun _ => ?_)
  conv => whnf
  refine ⟨Sl.lt hn1 ghn, ⟨by simp, hlthn⟩, ?_⟩
  conv => whnf
  refine ⟨_, hn2 (Sl.lt hn1 ghn), ?_⟩
  conv => whnf
  refine ⟨_, hgethn, ?_⟩
  conv => whnf
  refine br (fun _ => ?_) (fun g => absurd g (by decide))
  conv => whnf
  refine br (fun g => absurd g (by decide)) (fun _ => ?_)
  conv => whnf
  refine br (fun g => absurd g (by decide)) (fun _ => ?_)
  conv => whnf
  refine br (fun _ => ?_) (fun g => absurd g (by decide))
  conv => whnf
  refine freezeC 1 (fun _ => .arr 3 1 (([0, 0] : List Int).map encI) 2) rfl rfl rfl (fun _ _ => rfl) (fun _ _ => SB.bB_ok rfl) ?_
  intro b1 A1 k1 hb1
  refine usePu (numbers_fn A1 _ _ (Sl.new (l := ([0, 0] : List Int)) (cap := 2) (hb1 0 rfl)) (by simp)) rfl ⟨⟨rfl, rfl, rfl, .inr ⟨rfl, rfl, rfl, rfl⟩⟩, trivial⟩ rfl ?_
  conv => whnf
  refine freezeC 2 (fun _ => .arr 3 1 (([1, 1] : List Int).map encI) 2) rfl rfl rfl (fun _ _ => rfl) (fun _ _ => SB.bB_ok rfl) ?_
  intro b2 A2 k2 hb2
  refine usePu (numbers_fn A2 _ _ (Sl.new (l := ([1, 1] : List Int)) (cap := 2) (hb2 0 rfl)) (by simp)) rfl ⟨⟨rfl, rfl, rfl, .inr ⟨rfl, rfl, rfl, rfl⟩⟩, trivial⟩ rfl ?_
  conv => whnf
  exact pairEnd e1 e2 (Fz.le_trans k1 k2) rfl
set_option maxHeartbeats 8000000 in
theorem pairL8_fn (F : Fz) (sa sb : SA) (m nr : List Stp) (hm : StepsAt F sa m) (hn : StepsAt F sb ((6, 0) :: nr)) (hl : nr.length < 1000) :
    Fo Tryz.prog F 30 [.va (.int .i64 8), .va sa, .va sb] (PairK F 8 m ((6, 0) :: nr)) := by
  have e1 : writeS 8 (pairV 8 m ((6, 0) :: nr)).1 = numbersS [0, 0] := by
    simp [writeS, pairV, lineW, numbersS, textS]
  have e2 : writeS 8 (pairV 8 m ((6, 0) :: nr)).2 = numbersS [1, 1] := by
    simp [writeS, pairV, lineW, numbersS, textS]
  have ghn : 0 < ((6, 0) :: nr : List Stp).length := by simp
  have hlthn : (0 : Int) < (((6, 0) :: nr : List Stp).length : Nat) := by rw [List.length_cons]; omega
  have hz : ¬ (((((6, 0) :: nr : List Stp).length : Nat) : Int) = 0) := by rw [List.length_cons]; omega
  obtain ⟨hmn, hmb, hme, hmc, hmL, hmr, rfl, hm1, hm2, hm3, hm4⟩ := hm
  obtain ⟨hnn, hnb, hne, hnc, hnL, hnr, rfl, hn1, hn2, hn3, hn4⟩ := hn
  have hgethn : hnL[hne + ((0 : Nat) : Int).toNat]? = some (enc (6, 0)) := Sl.at (k := 0) hn4 ghn
  refine fo_of hΘ Tryz.func30 rfl (by decide) _ _ rfl rfl rfl ?_
  conv => whnf
  refine br (fun g => absurd (of_decide_eq_true g) hz) (fun _ => ?_)
  conv => whnf
  refine ⟨Sl.lt hn1 ghn, ⟨by simp, hlthn⟩, ?_⟩
  conv => whnf
  refine ⟨_, hn2 (Sl.lt hn1 ghn), ?_⟩
  conv => whnf
  refine ⟨_, hgethn, ?_⟩
  conv => whnf
  refine br (fun _ => ?_) (fun g => absurd g (by decide))
  conv => whnf
  refine br (fun g => absurd g (by decide)) (fun _ => ?_)
  conv => whnf
  refine br (fun g => absurd g (by decide)) (fun _ => ?_)
  conv => whnf
  refine br (fun _ => ?_) (fun g => absurd g (by decide))
  conv => whnf
  refine freezeC 1 (fun _ => .arr 3 1 (([0, 0] : List Int).map encI) 2) rfl rfl rfl (fun _ _ => rfl) (fun _ _ => SB.bB_ok rfl) ?_
  intro b1 A1 k1 hb1
  refine usePu (numbers_fn A1 _ _ (Sl.new (l := ([0, 0] : List Int)) (cap := 2) (hb1 0 rfl)) (by simp)) rfl ⟨⟨rfl, rfl, rfl, .inr ⟨rfl, rfl, rfl, rfl⟩⟩, trivial⟩ rfl ?_
  conv => whnf
  refine freezeC 2 (fun _ => .arr 3 1 (([1, 1] : List Int).map encI) 2) rfl rfl rfl (fun _ _ => rfl) (fun _ _ => SB.bB_ok rfl) ?_
  intro b2 A2 k2 hb2
  refine usePu (numbers_fn A2 _ _ (Sl.new (l := ([1, 1] : List Int)) (cap := 2) (hb2 0 rfl)) (by simp)) rfl ⟨⟨rfl, rfl, rfl, .inr ⟨rfl, rfl, rfl, rfl⟩⟩, trivial⟩ rfl ?_
  conv => whnf
  exact pairEnd e1 e2 (Fz.le_trans k1 k2) rfl
set_option maxHeartbeats 8000000 in
theorem pairL2_fn (F : Fz) (sa sb : SA) (m nr : List Stp) (hm : StepsAt F sa m) (hn : StepsAt F sb ((6, 0) :: nr)) (hl : nr.length < 1000) :
    Fo Tryz.prog F 30 [.va (.int .i64 2), .va sa, .va sb] (PairK F 2 m ((6, 0) :: nr)) := by
  have e1 : writeS 2 (pairV 2 m ((6, 0) :: nr)).1 = numbersS [0] := by
    simp [writeS, pairV, lineW, numbersS, textS]
  have e2 : writeS 2 (pairV 2 m ((6, 0) :: nr)).2 = numbersS [1, 0] := by
    simp [writeS, pairV, lineW, numbersS, textS]
  have ghn : 0 < ((6, 0) :: nr : List Stp).length := by simp
  have hlthn : (0 : Int) < (((6, 0) :: nr : List Stp).length : Nat) := by rw [List.length_cons]; omega
  have hz : ¬ (((((6, 0) :: nr : List Stp).length : Nat) : Int) = 0) := by rw [List.length_cons]; omega
  obtain ⟨hmn, hmb, hme, hmc, hmL, hmr, rfl, hm1, hm2, hm3, hm4⟩ := hm
  obtain ⟨hnn, hnb, hne, hnc, hnL, hnr, rfl, hn1, hn2, hn3, hn4⟩ := hn
  have hgethn : hnL[hne + ((0 : Nat) : Int).toNat]? = some (enc (6, 0)) := Sl.at (k := 0) hn4 ghn
  refine fo_of hΘ Tryz.func30 rfl (by decide) _ _ rfl rfl rfl ?_
  conv => whnf
  refine br (fun g => absurd (of_decide_eq_true g) hz) (fun _ => ?_)
  conv => whnf
  refine ⟨Sl.lt hn1 ghn, ⟨by simp, hlthn⟩, ?_⟩
  conv => whnf
  refine ⟨_, hn2 (Sl.lt hn1 ghn), ?_⟩
  conv => whnf
  refine ⟨_, hgethn, ?_⟩
  conv => whnf
  refine br (fun _ => ?_) (fun g => absurd g (by decide))
  conv => whnf
  refine br (fun g => absurd g (by decide)) (fun _ => ?_)
  conv => whnf
  refine br (fun g => absurd g (by decide)) (fun _ => ?_)
  conv => whnf
  refine br (fun g => absurd g (by decide)) (fun _ => ?_)
  conv => whnf
  refine br (fun _ => ?_) (fun g => absurd g (by decide))
  conv => whnf
  refine freezeC 1 (fun _ => .arr 3 1 (([0] : List Int).map encI) 1) rfl rfl rfl (fun _ _ => rfl) (fun _ _ => SB.bB_ok rfl) ?_
  intro b1 A1 k1 hb1
  refine usePu (numbers_fn A1 _ _ (Sl.new (l := ([0] : List Int)) (cap := 1) (hb1 0 rfl)) (by simp)) rfl ⟨⟨rfl, rfl, rfl, .inr ⟨rfl, rfl, rfl, rfl⟩⟩, trivial⟩ rfl ?_
  conv => whnf
  refine freezeC 2 (fun _ => .arr 3 1 (([1, 0] : List Int).map encI) 2) rfl rfl rfl (fun _ _ => rfl) (fun _ _ => SB.bB_ok rfl) ?_
  intro b2 A2 k2 hb2
  refine usePu (numbers_fn A2 _ _ (Sl.new (l := ([1, 0] : List Int)) (cap := 2) (hb2 0 rfl)) (by simp)) rfl ⟨⟨rfl, rfl, rfl, .inr ⟨rfl, rfl, rfl, rfl⟩⟩, trivial⟩ rfl ?_
  conv => whnf
  exact pairEnd e1 e2 (Fz.le_trans k1 k2) rfl
set_option maxHeartbeats 8000000 in
theorem pairL4_fn (F : Fz) (sa sb : SA) (m nr : List Stp) (hm : StepsAt F sa m) (hn : StepsAt F sb ((6, 0) :: nr)) (hl : nr.length < 1000) :
    Fo Tryz.prog F 30 [.va (.int .i64 4), .va sa, .va sb] (PairK F 4 m ((6, 0) :: nr)) := by
  have e1 : writeS 4 (pairV 4 m ((6, 0) :: nr)).1 = numbersS [0] := by
    simp [writeS, pairV, lineW, numbersS, textS]
  have e2 : writeS 4 (pairV 4 m ((6, 0) :: nr)).2 = numbersS [1, 0, 0, 0, 0] := by
    simp [writeS, pairV, lineW, numbersS, textS]
  have ghn : 0 < ((6, 0) :: nr : List Stp).length := by simp
  have hlthn : (0 : Int) < (((6, 0) :: nr : List Stp).length : Nat) := by rw [List.length_cons]; omega
  have hz : ¬ (((((6, 0) :: nr : List Stp).length : Nat) : Int) = 0) := by rw [List.length_cons]; omega
  obtain ⟨hmn, hmb, hme, hmc, hmL, hmr, rfl, hm1, hm2, hm3, hm4⟩ := hm
  obtain ⟨hnn, hnb, hne, hnc, hnL, hnr, rfl, hn1, hn2, hn3, hn4⟩ := hn
  have hgethn : hnL[hne + ((0 : Nat) : Int).toNat]? = some (enc (6, 0)) := Sl.at (k := 0) hn4 ghn
  refine fo_of hΘ Tryz.func30 rfl (by decide) _ _ rfl rfl rfl ?_
  conv => whnf
  refine br (fun g => absurd (of_decide_eq_true g) hz) (fun _ => ?_)
  conv => whnf
  refine ⟨Sl.lt hn1 ghn, ⟨by simp, hlthn⟩, ?_⟩
  conv => whnf
  refine ⟨_, hn2 (Sl.lt hn1 ghn), ?_⟩
  conv => whnf
  refine ⟨_, hgethn, ?_⟩
  conv => whnf
  refine br (fun _ => ?_) (fun g => absurd g (by decide))
  conv => whnf
  refine br (fun g => absurd g (by decide)) (fun _ => ?_)
  conv => whnf
  refine br (fun g => absurd g (by decide)) (fun _ => ?_)
  conv => whnf
  refine br (fun g => absurd g (by decide)) (fun _ => ?_)
  conv => whnf
  refine br (fun g => absurd g (by decide)) (fun _ => ?_)
  conv => whnf
  refine br (fun _ => ?_) (fun g => absurd g (by decide))
  conv => whnf
  refine freezeC 1 (fun _ => .arr 3 1 (([0] : List Int).map encI) 1) rfl rfl rfl (fun _ _ => rfl) (fun _ _ => SB.bB_ok rfl) ?_
  intro b1 A1 k1 hb1
  refine usePu (numbers_fn A1 _ _ (Sl.new (l := ([0] : List Int)) (cap := 1) (hb1 0 rfl)) (by simp)) rfl ⟨⟨rfl, rfl, rfl, .inr ⟨rfl, rfl, rfl, rfl⟩⟩, trivial⟩ rfl ?_
  conv => whnf
  refine freezeC 2 (fun _ => .arr 3 1 (([1, 0, 0, 0, 0] : List Int).map encI) 5) rfl rfl rfl (fun _ _ => rfl) (fun _ _ => SB.bB_ok rfl) ?_
  intro b2 A2 k2 hb2
  refine usePu (numbers_fn A2 _ _ (Sl.new (l := ([1, 0, 0, 0, 0] : List Int)) (cap := 5) (hb2 0 rfl)) (by simp)) rfl ⟨⟨rfl, rfl, rfl, .inr ⟨rfl, rfl, rfl, rfl⟩⟩, trivial⟩ rfl ?_
  conv => whnf
  exact pairEnd e1 e2 (Fz.le_trans k1 k2) rfl
set_option maxHeartbeats 8000000 in
theorem pairL3_fn (F : Fz) (sa sb : SA) (m nr : List Stp) (hm : StepsAt F sa m) (hn : StepsAt F sb ((6, 0) :: nr)) (hl : nr.length < 1000) :
    Fo Tryz.prog F 30 [.va (.int .i64 3), .va sa, .va sb] (PairK F 3 m ((6, 0) :: nr)) := by
  have e1 : writeS 3 (pairV 3 m ((6, 0) :: nr)).1 = numbersS [0] := by
    simp [writeS, pairV, lineW, numbersS, textS]
  have e2 : writeS 3 (pairV 3 m ((6, 0) :: nr)).2 = numbersS [1, 0, 0, 0] := by
    simp [writeS, pairV, lineW, numbersS, textS]
  have ghn : 0 < ((6, 0) :: nr : List Stp).length := by simp
  have hlthn : (0 : Int) < (((6, 0) :: nr : List Stp).length : Nat) := by rw [List.length_cons]; omega
  have hz : ¬ (((((6, 0) :: nr : List Stp).length : Nat) : Int) = 0) := by rw [List.length_cons]; omega
  obtain ⟨hmn, hmb, hme, hmc, hmL, hmr, rfl, hm1, hm2, hm3, hm4⟩ := hm
  obtain ⟨hnn, hnb, hne, hnc, hnL, hnr, rfl, hn1, hn2, hn3, hn4⟩ := hn
  have hgethn : hnL[hne + ((0 : Nat) : Int).toNat]? = some (enc (6, 0)) := Sl.at (k := 0) hn4 ghn
  refine fo_of hΘ Tryz.func30 rfl (by decide) _ _ rfl rfl rfl ?_
  conv => whnf
  refine br (fun g => absurd (of_decide_eq_true g) hz) (fun _ => ?_)
  conv => whnf
  refine ⟨Sl.lt hn1 ghn, ⟨by simp, hlthn⟩, ?_⟩
  conv => whnf
  refine ⟨_, hn2 (Sl.lt hn1 ghn), ?_⟩
  conv => whnf
  refine ⟨_, hgethn, ?_⟩
  conv => whnf
  refine br (fun _ => ?_) (fun g => absurd g (by decide))
  conv => whnf
  refine br (fun g => absurd g (by decide)) (fun _ => ?_)
  conv => whnf
  refine br (fun g => absurd g (by decide)) (fun _ => ?_)
  conv => whnf
  refine br (fun g => absurd g (by decide)) (fun _ => ?_)
  conv => whnf
  refine br (fun g => absurd g (by decide)) (fun _ => ?_)
  conv => whnf
  refine br (fun g => absurd g (by decide)) (fun _ => ?_)
  conv => whnf
  refine freezeC 1 (fun _ => .arr 3 1 (([0] : List Int).map encI) 1) rfl rfl rfl (fun _ _ => rfl) (fun _ _ => SB.bB_ok rfl) ?_
  intro b1 A1 k1 hb1
  refine usePu (numbers_fn A1 _ _ (Sl.new (l := ([0] : List Int)) (cap := 1) (hb1 0 rfl)) (by simp)) rfl ⟨⟨rfl, rfl, rfl, .inr ⟨rfl, rfl, rfl, rfl⟩⟩, trivial⟩ rfl ?_
  conv => whnf
  refine freezeC 2 (fun _ => .arr 3 1 (([1, 0, 0, 0] : List Int).map encI) 4) rfl rfl rfl (fun _ _ => rfl) (fun _ _ => SB.bB_ok rfl) ?_
  intro b2 A2 k2 hb2
  refine usePu (numbers_fn A2 _ _ (Sl.new (l := ([1, 0, 0, 0] : List Int)) (cap := 4) (hb2 0 rfl)) (by simp)) rfl ⟨⟨rfl, rfl, rfl, .inr ⟨rfl, rfl, rfl, rfl⟩⟩, trivial⟩ rfl ?_
  conv => whnf
  exact pairEnd e1 e2 (Fz.le_trans k1 k2) rfl
set_option maxHeartbeats 8000000 in
theorem pairL5_fn (F : Fz) (sa sb : SA) (m nr : List Stp) (hm : StepsAt F sa m) (hn : StepsAt F sb ((6, 0) :: nr)) (hl : nr.length < 1000) :
    Fo Tryz.prog F 30 [.va (.int .i64 5), .va sa, .va sb] (PairK F 5 m ((6, 0) :: nr)) := by
  have e1 : writeS 5 (pairV 5 m ((6, 0) :: nr)).1 = numbersS [0] := by
    simp [writeS, pairV, lineW, numbersS, textS]
  have e2 : writeS 5 (pairV 5 m ((6, 0) :: nr)).2 = numbersS [1, 0, 0, 0] := by
    simp [writeS, pairV, lineW, numbersS, textS]
  have ghn : 0 < ((6, 0) :: nr : List Stp).length := by simp
  have hlthn : (0 : Int) < (((6, 0) :: nr : List Stp).length : Nat) := by rw [List.length_cons]; omega
  have hz : ¬ (((((6, 0) :: nr : List Stp).length : Nat) : Int) = 0) := by rw [List.length_cons]; omega
  obtain ⟨hmn, hmb, hme, hmc, hmL, hmr, rfl, hm1, hm2, hm3, hm4⟩ := hm
  obtain ⟨hnn, hnb, hne, hnc, hnL, hnr, rfl, hn1, hn2, hn3, hn4⟩ := hn
  have hgethn : hnL[hne + ((0 : Nat) : Int).toNat]? = some (enc (6, 0)) := Sl.at (k := 0) hn4 ghn
  refine fo_of hΘ Tryz.func30 rfl (by decide) _ _ rfl rfl rfl ?_
  conv => whnf
  refine br (fun g => absurd (of_decide_eq_true g) hz) (fun _ => ?_)
  conv => whnf
  refine ⟨Sl.lt hn1 ghn, ⟨by simp, hlthn⟩, ?_⟩
  conv => whnf
  refine ⟨_, hn2 (Sl.lt hn1 ghn), ?_⟩
  conv => whnf
  refine ⟨_, hgethn, ?_⟩
  conv => whnf
  refine br (fun _ => ?_) (fun g => absurd g (by decide))
  conv => whnf
  refine br (fun g => absurd g (by decide)) (fun _ => ?_)
  conv => whnf
  refine br (fun g => absurd g (by decide)) (fun _ => ?_)
  conv => whnf
  refine br (fun g => absurd g (by decide)) (fun _ => ?_)
  conv => whnf
  refine br (fun g => absurd g (by decide)) (fun _ => ?_)
  conv => whnf
  refine br (fun g => absurd g (by decide)) (fun _ => ?_)
  conv => whnf
  refine freezeC 1 (fun _ => .arr 3 1 (([0] : List Int).map encI) 1) rfl rfl rfl (fun _ _ => rfl) (fun _ _ => SB.bB_ok rfl) ?_
  intro b1 A1 k1 hb1
  refine usePu (numbers_fn A1 _ _ (Sl.new (l := ([0] : List Int)) (cap := 1) (hb1 0 rfl)) (by simp)) rfl ⟨⟨rfl, rfl, rfl, .inr ⟨rfl, rfl, rfl, rfl⟩⟩, trivial⟩ rfl ?_
  conv => whnf
  refine freezeC 2 (fun _ => .arr 3 1 (([1, 0, 0, 0] : List Int).map encI) 4) rfl rfl rfl (fun _ _ => rfl) (fun _ _ => SB.bB_ok rfl) ?_
  intro b2 A2 k2 hb2
  refine usePu (numbers_fn A2 _ _ (Sl.new (l := ([1, 0, 0, 0] : List Int)) (cap := 4) (hb2 0 rfl)) (by simp)) rfl ⟨⟨rfl, rfl, rfl, .inr ⟨rfl, rfl, rfl, rfl⟩⟩, trivial⟩ rfl ?_
  conv => whnf
  exact pairEnd e1 e2 (Fz.le_trans k1 k2) rfl
end Go.Proofs.YtblllibdahkgfaaGreatDoor
