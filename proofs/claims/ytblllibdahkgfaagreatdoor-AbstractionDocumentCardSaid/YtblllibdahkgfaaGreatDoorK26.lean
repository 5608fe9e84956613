import Derived.Test.YtblllibdahkgfaaGreatDoorK25

namespace Go.Proofs.YtblllibdahkgfaaGreatDoor
open Go Sx
theorem pickI_in (c : Int) {n : Int} (hn : 0 < n) : 0 ≤ pickI c n ∧ pickI c n < n := by
  unfold pickI
  split
  · exact ⟨Int.tmod_nonneg _ (by omega), Int.tmod_lt_of_pos _ hn⟩
  · exact ⟨Int.tmod_nonneg _ (by omega), Int.tmod_lt_of_pos _ hn⟩
theorem stepOk_sts {p : Int} (hp : 1 ≤ p ∧ p ≤ 8) : ∀ s ∈ sts p, stepOk p s = true := by
  rcases p8 hp with rfl | rfl | rfl | rfl | rfl | rfl | rfl | rfl <;> decide +kernel
theorem stepOf_in {p : Int} (hp : 1 ≤ p ∧ p ≤ 8) (x : Int) : ∀ s ∈ stepOf p x, s ∈ sts p := by
  intro s hs
  have hk := pickI_in (x.tdiv 8) (n := 21) (by decide)
  unfold stepOf at hs
  unfold sts
  split at hs
  · split at hs
    · rename_i h1
      rw [if_pos h1]
      have h2 : 0 ≤ (pickI (x.tdiv 8) 21).tmod 2 := Int.tmod_nonneg _ hk.1
      have h3 : (pickI (x.tdiv 8) 21).tmod 2 < 2 := Int.tmod_lt_of_pos _ (by decide)
      have hc : (pickI (x.tdiv 8) 21).tmod 2 = 0 ∨ (pickI (x.tdiv 8) 21).tmod 2 = 1 := by omega
      rw [List.mem_singleton] at hs
      subst hs
      rcases hc with h | h <;> rw [h] <;> simp
    rename_i n1
    split at hs
    · rename_i h2'
      rw [if_neg n1, if_pos h2']
      have h2 : 0 ≤ (pickI (x.tdiv 8) 21).tmod 7 := Int.tmod_nonneg _ hk.1
      have h3 : (pickI (x.tdiv 8) 21).tmod 7 < 7 := Int.tmod_lt_of_pos _ (by decide)
      obtain ⟨m, hm⟩ : ∃ m, (pickI (x.tdiv 8) 21).tmod 7 = m := ⟨_, rfl⟩
      rw [hm] at h2 h3 hs
      rw [List.mem_singleton] at hs
      subst hs
      have hc : m = 0 ∨ m = 1 ∨ m = 2 ∨ m = 3 ∨ m = 4 ∨ m = 5 ∨ m = 6 := by omega
      rcases hc with rfl | rfl | rfl | rfl | rfl | rfl | rfl <;> simp
    rename_i n2
    split at hs
    · rename_i h3
      rw [if_neg n1, if_neg n2, if_pos h3]
      rw [List.mem_singleton] at hs
      subst hs
      split
      · simp
      · split <;> simp
    rename_i n3
    split at hs
    · rename_i h4
      rw [if_neg n1, if_neg n2, if_neg n3, if_pos h4]
      rw [List.mem_singleton] at hs
      subst hs; simp
    · exact absurd hs (by simp)
  · rw [List.mem_singleton] at hs
    subst hs; simp
theorem stepsS_valid {p : Int} (hp : 1 ≤ p ∧ p ≤ 8) (x : List Int) : validS p (stepsS p x) = true := by
  refine valid_of hp ?_ ?_
  · have := steps_len p (x.take 8)
    rw [List.length_take] at this
    unfold stepsS; omega
  · intro s hs
    unfold stepsS at hs
    obtain ⟨l, hl, hs⟩ := List.mem_flatten.1 hs
    obtain ⟨a, _, rfl⟩ := List.mem_map.1 hl
    exact stepOk_sts hp s (stepOf_in hp a s hs)
end Go.Proofs.YtblllibdahkgfaaGreatDoor

namespace Go.Proofs.YtblllibdahkgfaaGreatDoor
open Go Sx
set_option maxRecDepth 100000
theorem writeS_len {p : Int} {v : Val} (hv : Fits v) : (writeS p v).length ≤ 100000000000 := by
  unfold writeS
  split
  · simp
  split
  · have h1 := numbersS_len [v.w, v.h]
    have h2 := putSR_len v.bits
    rw [List.length_append]
    simp only [List.length_cons, List.length_nil] at h1
    split
    · omega
    · simp only [List.length_nil]; omega
  · have h1 := numbersS_len [(v.lines.length : Int)]
    have h2 := linesW_len (p := p) v.lines (fun x hx => (hv.h2 x hx).2)
    have h3 := hv.h1
    rw [List.length_append]
    simp only [List.length_cons, List.length_nil] at h1
    have h4 : 74545 * v.lines.length ≤ 74545 * 1000 := Nat.mul_le_mul_left _ h3
    omega
theorem writeV_len {p : Int} {v : Val} (hp : 1 ≤ p ∧ p ≤ 8) (hv : VOK p v) : (writeS p v).length ≤ 1000000000000000000 := by
  have := writeS_len (p := p) (fits_of hp hv); omega
theorem valid_short {p : Int} {l : List Stp} (h : validS p l = true) : l.length < 1000000 := by have := valid_len h; omega
theorem applyOk {q : Int} {l : List Stp} {v : Val} (hl : validS q l = true) (hv : VOK q v) (F : Fz) (hM : MLF F) (sa : SA) (sA : StepsAt F sa l) :
    Fo Tryz.prog F 26 [.va (.int .i64 q), .va sa, .va (.str (writeS q v))] (fun o F' => o = .ret (.tup [.va (.str (writeS q (runS l v))), .va (.int .i64 0)])) := by
  have h := apply_fn F hM sa l q (writeS q v) sA (valid_short hl) (writeV_len (valid_p hl) hv)
  rw [apply_write hl hv] at h
  exact h
theorem isOk {q : Int} {l : List Stp} {v : Val} {t : List UInt8} (hl : validS q l = true) (hv : VOK q v) (ht : writeS q (runS l v) = t) (F : Fz) (hM : MLF F) (sa : SA) (sA : StepsAt F sa l) :
    Fo Tryz.prog F 28 [.va (.int .i64 q), .va sa, .va (.str (writeS q v)), .va (.str t)] (fun o F' => o = .ret (.va (.lit true)) ∧ True) := by
  refine isLit ?_ F hM sa sA (valid_short hl) (writeV_len (valid_p hl) hv)
  rw [isS, apply_write hl hv, ht]
  simp
theorem saneL (F : Fz) (hM : MLF F) : Fo Tryz.prog F 11 [] (fun o F' => o = .ret (.va (.lit true)) ∧ True) := Fo_lit (sane_fn F hM)
/-- What the laws know of the arguments that came in. -/
abbrev StepsArg (F0 : Fz) (s : SA) (x : List Int) : Prop := ∀ (P : Int) G, 1 ≤ P ∧ P ≤ 8 → Fz.le F0 G → Fo Tryz.prog G 14 [.va (.int .i64 P), .va s] (fun o F' => ∃ sc, o = .ret (.va sc) ∧ StepsAt F' sc (stepsS P x))
end Go.Proofs.YtblllibdahkgfaaGreatDoor
