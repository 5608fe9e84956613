import Derived.Test.YtblllibdahkgfaaGreatDoorK26
import Derived.Test.YtblllibdahkgfaaGreatDoorK22
import Derived.Test.YtblllibdahkgfaaGreatDoorK25

namespace Go.Proofs.YtblllibdahkgfaaGreatDoor
open Go Sx
set_option maxRecDepth 100000
theorem rwEnd {F F1 : Fz} {p : Int} {v : RVal} {c : Nat} {t : List UInt8} {hh : Hp} {nx : Nat} (hb : rwriteS p v = t) (hle : Fz.le F F1) (h0 : lget hh 0 = some (.frz F1)) (h1 : lget hh 1 = some (gE 88 5 encL c v.lines)) :
    Cln 2 (fun o F0 h0 n0 => Fz.le F F0 ∧ (Fz.le F F0 ∧ n0 = 2 ∧ o = .ret (.va (.str (rwriteS p v))) ∧ h0 = [(1, gE 88 5 encL c v.lines)])) (.ret (.va (.str t))) hh nx := by
  subst hb
  exact clean [] (.ret (.va (.str (rwriteS p v)))) F1 [(1, gE 88 5 encL c v.lines)] 2 ⟨hle, hle, rfl, rfl, rfl⟩ (outE_refl _) rfl rfl trivial ⟨gE_below encL_plain _ _ _ _ _, trivial⟩ ⟨by simp only [entE, aget, Ent.ren]; rw [h0]; exact Fz.le_refl F1, by simp only [entE, aget]; rw [h1]; exact sub_gE encL_plain (gE_self _ _ _ _), trivial⟩
set_option maxHeartbeats 8000000 in
theorem rwriteNil_fn (F : Fz) (p w h : Int) (bits : List UInt8) (c : Nat) (hp : ¬ 6 ≤ p) :
    Ct Tryz.prog 32 [.va (.int .i64 p), rvalV ⟨false, [], w, h, bits⟩ 1 c] F [(1, gE 88 5 encL c [])] 2
      (fun o F0 h0 n0 => Fz.le F F0 ∧ n0 = 2 ∧ o = .ret (.va (.str (rwriteS p ⟨false, [], w, h, bits⟩))) ∧ h0 = [(1, gE 88 5 encL c [])]) := by
  have hW : rwriteS p ⟨false, [], w, h, bits⟩ = (putIR 0).1 := by
    rw [rwriteS, if_neg (by simp), if_neg hp]; exact List.append_nil _
  have hp0 := rputInt_fn F 0
  refine ct_of hΘ Tryz.func32 rfl (by decide) _ _ rfl rfl rfl ?_
  conv => whnf
  refine br (fun g => absurd (of_decide_eq_true g) hp) (fun _ => ?_)
  conv => whnf
  refine usePu hp0 rfl ⟨rfl, trivial⟩ rfl ?_
  conv => whnf
  refine rounds1 hΘ 0 ?_
  conv => whnf
  refine br (fun g => absurd g (by decide)) (fun _ => ?_)
  conv => whnf
  exact rwEnd hW (Fz.le_refl F) rfl rfl
theorem rwrite_fn (F : Fz) (p : Int) (v : RVal) (c : Nat) (hp : 1 ≤ p ∧ p ≤ 8) (hl : v.lines.length ≤ 1000) (hx : ∀ x ∈ v.lines, x.1.length ≤ 1000000) (hb : v.bits.length ≤ 9000000000000000000) :
    Ct Tryz.prog 32 [.va (.int .i64 p), rvalV v 1 c] F [(1, gE 88 5 encL c v.lines)] 2
      (fun o F0 h0 n0 => Fz.le F F0 ∧ n0 = 2 ∧ o = .ret (.va (.str (rwriteS p v))) ∧ h0 = [(1, gE 88 5 encL c v.lines)]) := by
  by_cases h6 : 6 ≤ p
  · exact rwrite6_fn F p v c h6 hb
  obtain ⟨lost, L, w, h, bits⟩ := v
  cases lost with
  | true =>
    refine ct_of hΘ Tryz.func32 rfl (by decide) _ _ rfl rfl rfl ?_
    conv => whnf
    exact rwEnd (v := ⟨true, L, w, h, bits⟩) (t := []) rfl (Fz.le_refl F) rfl rfl
  | false =>
    by_cases hne : L = []
    · subst hne
      exact rwriteNil_fn F p w h bits c h6
    have hpc : p = 1 ∨ p = 2 ∨ p = 3 ∨ p = 4 ∨ p = 5 := by omega
    rcases hpc with rfl | rfl | rfl | rfl | rfl
    · exact rwriteL1_fn F L w h bits c hne hl hx
    · exact rwriteL2_fn F L w h bits c hne hl hx
    · exact rwriteL3_fn F L w h bits c hne hl hx
    · exact rwriteL4_fn F L w h bits c hne hl hx
    · exact rwriteL5_fn F L w h bits c hne hl hx
end Go.Proofs.YtblllibdahkgfaaGreatDoor

namespace Go.Proofs.YtblllibdahkgfaaGreatDoor
open Go Sx
theorem unz_zig (n : Int) : unz (zig n) = n := by
  unfold zig unz
  split <;> split <;> omega
theorem putZ_nn (z : Nat) : putZ z ≠ [] := by
  by_cases h : z < 128
  · rw [putZ_lt h]; simp
  · rw [putZ_ge h]; simp
theorem decZ_putZ (z : Nat) : ∀ (r : List UInt8) (f i acc : Nat), (putZ z).length ≤ f → ∃ b, decZ (putZ z ++ r) f i acc = some (acc + z * 128 ^ i, i + ((putZ z).length - 1), b) ∧ (b = 0 → z = 0) := by
  induction z using Nat.strongRecOn with
  | _ z ih =>
    intro r f i acc hf
    by_cases hz : z < 128
    · rw [putZ_lt hz] at hf ⊢
      obtain ⟨f, rfl⟩ : ∃ g, f = g + 1 := ⟨f - 1, by simp at hf; omega⟩
      have e : (UInt8.ofNat z).toNat = z := by rw [UInt8.toNat_ofNat']; exact Nat.mod_eq_of_lt (by omega)
      refine ⟨UInt8.ofNat z, ?_, fun h => ?_⟩
      · rw [List.cons_append, List.nil_append, decZ, if_neg (by rw [e]; omega), e]; rfl
      · rw [h] at e; exact e.symm
    · have h1 := ih (z / 128) (by omega)
      rw [putZ_ge hz] at hf ⊢
      obtain ⟨f, rfl⟩ : ∃ g, f = g + 1 := ⟨f - 1, by simp at hf; omega⟩
      have e : (UInt8.ofNat (z % 128 + 128)).toNat = z % 128 + 128 := by rw [UInt8.toNat_ofNat']; exact Nat.mod_eq_of_lt (by omega)
      obtain ⟨b, h2, h3⟩ := h1 r f (i + 1) (acc + (z % 128 + 128) % 128 * 128 ^ i) (by simp at hf; omega)
      have hne : 0 < (putZ (z / 128)).length := List.length_pos_iff.2 (putZ_nn _)
      refine ⟨b, ?_, fun hb => ?_⟩
      · rw [List.cons_append, decZ, if_pos (by rw [e]; omega), e, h2, Nat.pow_succ]
        have e2 : acc + (z % 128 + 128) % 128 * 128 ^ i + z / 128 * (128 ^ i * 128) = acc + z * 128 ^ i := by
          have h4 : z * 128 ^ i = (z % 128 + 128 * (z / 128)) * 128 ^ i := by rw [Nat.mod_add_div]
          have h5 : (z % 128 + 128) % 128 = z % 128 := by omega
          rw [h4, h5, Nat.add_mul, Nat.mul_comm (128 ^ i) 128, ← Nat.mul_assoc, Nat.mul_comm (z / 128) 128]
          omega
        rw [e2, List.length_cons]
        have e3 : i + 1 + ((putZ (z / 128)).length - 1) = i + ((putZ (z / 128)).length + 1 - 1) := by omega
        rw [e3]
      · have := h3 hb; omega
def okI (n : Int) : Prop := -4611686018427387903 ≤ n ∧ n ≤ 4611686018427387903
theorem putIR_ok {n : Int} (h : okI n) : (putIR n).1 = putI n := by
  unfold okI at h
  rw [putIR, if_neg (by omega)]
theorem putI_ne (n : Int) : putI n ≠ [] := putZ_nn _
theorem getI_put (pre r : List UInt8) {n : Int} (h : okI n) : getI (pre ++ (putI n ++ r)) (pre.length : Nat) = (n, (((pre ++ putI n).length : Nat) : Int), 0) := by
  have hl := putI_len n h
  have hne : 0 < (putI n).length := List.length_pos_iff.2 (putI_ne n)
  obtain ⟨b, h1, h2⟩ := decZ_putZ (zig n) r 9 0 0 hl
  rw [getI, if_neg (by rw [List.length_append]; omega), Int.toNat_natCast, List.drop_left]
  show (match decZ (putZ (zig n) ++ r) 9 0 0 with | none => _ | some (z, i, b) => _) = _
  rw [h1]
  have e1 : 0 + zig n * 128 ^ 0 = zig n := by simp
  simp only [e1, unz_zig]
  have hn : okI n := h
  unfold okI at h
  rw [if_neg]
  · have e2 : ((0 + ((putZ (zig n)).length - 1) : Nat) : Int) + 1 = (putI n).length := by
      show ((0 + ((putI n).length - 1) : Nat) : Int) + 1 = _
      omega
    rw [List.length_append]
    have : (pre.length : Int) + ((0 + ((putZ (zig n)).length - 1) : Nat) : Int) + 1 = ((pre.length + (putI n).length : Nat) : Int) := by omega
    rw [this]
  · rintro (⟨h3, h4⟩ | h3)
    · have hz := h2 h3
      rw [hz, putZ_lt (by omega)] at h4
      simp at h4
    · omega
theorem getS_put (pre r t : List UInt8) (h : t.length ≤ 65536) : getS (pre ++ ((putSR t).1 ++ r)) (pre.length : Nat) = (t, (((pre ++ (putSR t).1).length : Nat) : Int), 0) := by
  have e : (putSR t).1 = putI t.length ++ t := by rw [putSR, if_neg (by omega)]
  have hok : okI (t.length : Int) := by unfold okI; omega
  rw [e]
  have hg := getI_put pre (t ++ r) hok
  rw [List.append_assoc, getS, hg]
  dsimp only
  rw [if_neg (by simp), if_neg]
  · have e1 : ((((pre ++ putI t.length).length : Nat) : Int) + (t.length : Int)).toNat = (pre ++ putI t.length ++ t).length := by
      rw [List.length_append (bs := t)]; omega
    have e2 : pre ++ (putI t.length ++ (t ++ r)) = (pre ++ putI t.length ++ t) ++ r := by simp only [List.append_assoc]
    rw [e1, e2, List.take_left, Int.toNat_natCast, List.drop_left]
    refine Prod.ext rfl (Prod.ext ?_ rfl)
    show (((pre ++ putI t.length).length : Nat) : Int) + (t.length : Int) = _
    show _ = (((pre ++ (putI t.length ++ t)).length : Nat) : Int)
    simp only [List.length_append]; omega
  · rintro (h1 | h1 | h1)
    · omega
    · omega
    · simp only [List.length_append] at h1; omega
theorem numOk_put (pre r : List UInt8) {n lo hi : Int} (h : okI n) (h2 : lo ≤ n ∧ n ≤ hi) : numOkR (pre ++ (putI n ++ r)) (pre.length : Nat) lo hi = true := by
  rw [numOkR_iff, getI_put pre r h]
  exact ⟨rfl, h2⟩
theorem getD_ok {acc : List Int} (ha : ∀ x ∈ acc, okI x) (k : Nat) : okI (acc.getD k 0) := by
  rw [List.getD_eq_getElem?_getD]
  cases h : acc[k]? with
  | none => show okI 0; unfold okI; omega
  | some x => exact ha x (List.mem_of_getElem? h)
theorem bnd_ok {p : Int} {acc : List Int} (ha : ∀ x ∈ acc, okI x) {x : Int} (h : (bnd p acc).1 ≤ x ∧ x ≤ (bnd p acc).2) : okI x := by
  unfold bnd at h
  have h2 := getD_ok ha (acc.length - 2)
  unfold okI at h2 ⊢
  split at h
  · dsimp only at h; omega
  split at h
  · dsimp only at h; omega
  split at h
  · dsimp only at h; omega
  split at h
  · dsimp only at h; omega
  · dsimp only at h; omega
theorem numbersS_cons (x : Int) (r : List Int) : numbersS (x :: r) = (putIR x).1 ++ numbersS r := rfl
theorem numsS_put {p : Int} (r : List UInt8) : ∀ (n acc : List Int) (pre : List UInt8), (∀ x ∈ acc, okI x) → numsOk p acc n → numsS (pre ++ (numbersS n ++ r)) p n.length acc (pre.length : Nat) = some (acc ++ n, (((pre ++ numbersS n).length : Nat) : Int))
  | [], acc, pre, _, _ => by
    show some (acc, _) = _
    simp [numbersS]
  | x :: n, acc, pre, ha, h => by
    have hx := bnd_ok ha h.1
    have ih := numsS_put r n (acc ++ [x]) (pre ++ putI x) (fun z hz => by rcases List.mem_append.1 hz with h | h; exact ha z h; rw [List.mem_singleton.1 h]; exact hx) h.2
    rw [numbersS_cons, putIR_ok hx, List.append_assoc, List.length_cons, numsS, if_pos (numOk_put pre _ hx h.1), getI_put pre _ hx]
    dsimp only
    rw [List.append_assoc] at ih
    rw [ih]
    simp only [List.append_assoc, List.singleton_append]
theorem lineS_put {p : Int} {before : List Ln} {x : Ln} (pre r : List UInt8) (h : lnOk p before x) : lineS (pre ++ (lineW p x ++ r)) p before (pre.length : Nat) = some (x, (((pre ++ lineW p x).length : Nat) : Int)) := by
  unfold lnOk at h
  unfold lineS
  split at h
  · rename_i hp
    obtain ⟨t, n⟩ := x
    obtain ⟨h1, h2, h3⟩ := h
    replace h1 : n = [] := h1
    subst h1
    have e : lineW p (t, []) = (putSR t).1 := by rw [lineW, if_pos hp]; exact List.append_nil _
    replace h2 : t.length ≤ 80 := h2
    rw [if_pos hp, e, getS_put pre r t (by omega)]
    exact if_pos ⟨rfl, h2, h3⟩
  · rename_i hp
    obtain ⟨t, n⟩ := x
    obtain ⟨h1, h2, h3, h4⟩ := h
    replace h1 : t = [] := h1
    subst h1
    replace h2 : n.length = cols p := h2
    have e : lineW p ([], n) = numbersS n := by rw [lineW, if_neg hp]; rfl
    rw [if_neg hp, e, ← h2, numsS_put r n [] pre (fun _ h => absurd h (by simp)) h3]
    dsimp only
    rw [List.nil_append]
    by_cases hp2 : p = 2
    · rw [if_pos hp2]
    · rw [if_neg hp2]
      cases hl : before.getLast? with
      | none => rfl
      | some y => exact if_pos (h4 hp2 y hl)
theorem linesS_put {p : Int} (r : List UInt8) : ∀ (l acc : List Ln) (pre : List UInt8), lnsOk p acc l → linesS (pre ++ ((l.map (lineW p)).flatten ++ r)) p l.length acc (pre.length : Nat) = some (acc ++ l, (((pre ++ (l.map (lineW p)).flatten).length : Nat) : Int))
  | [], acc, pre, _ => by
    show some (acc, _) = _
    simp
  | x :: l, acc, pre, h => by
    have ih := linesS_put r l (acc ++ [x]) (pre ++ lineW p x) h.2
    rw [List.map_cons, List.flatten_cons, List.append_assoc, List.length_cons, linesS, lineS_put pre _ h.1]
    dsimp only
    rw [List.append_assoc] at ih
    rw [ih]
    simp only [List.append_assoc, List.singleton_append]
theorem numbersS1 {n : Int} (h : okI n) : numbersS [n] = putI n := by
  rw [numbersS_cons, putIR_ok h]; exact List.append_nil _
theorem numbersS2 {n m : Int} (h : okI n) (h2 : okI m) : numbersS [n, m] = putI n ++ putI m := by
  rw [numbersS_cons, putIR_ok h, numbersS1 h2]
theorem read_write {p : Int} {v : Val} (hp : 1 ≤ p ∧ p ≤ 8) (hv : VOK p v) : readS p (writeS p v) = some v := by
  rcases hv with rfl | ⟨hl, hv⟩
  · have e : writeS p loseV = [] := if_pos rfl
    rw [e, readS, if_neg (by omega), if_pos rfl]; rfl
  obtain ⟨lost, L, w, h, bits⟩ := v
  replace hl : lost = false := hl
  subst hl
  dsimp only at hv
  by_cases h8 : p = 8
  · rw [if_pos h8] at hv
    obtain ⟨rfl, rfl, hw, hh⟩ := hv
    have ow : okI w := by unfold okI; omega
    have oh : okI h := by unfold okI; omega
    have e : writeS p ⟨false, [], w, h, []⟩ = putI w ++ putI h := by
      rw [writeS, if_neg (by simp), if_pos (by omega), if_neg (by omega), List.append_nil, numbersS2 ow oh]
    have g1 := getI_put [] (putI h) ow
    have g2 := getI_put (putI w) [] oh
    rw [List.nil_append, List.nil_append] at g1
    rw [List.append_nil] at g2
    replace g1 : getI (putI w ++ putI h) 0 = (w, ((putI w).length : Int), 0) := g1
    rw [e, readS, if_neg (by omega), if_neg (by simp [putI_ne]), if_pos h8, g1]
    dsimp only
    rw [g2, if_pos]
    exact ⟨numOkR_iff.2 (by rw [g1]; exact ⟨rfl, hw⟩), numOkR_iff.2 (by rw [g2]; exact ⟨rfl, hh⟩), rfl⟩
  rw [if_neg h8] at hv
  by_cases h6 : 6 ≤ p
  · rw [if_pos h6] at hv
    obtain ⟨rfl, hw, hh, hb⟩ := hv
    have ow : okI w := by unfold okI; omega
    have oh : okI h := by unfold okI; omega
    by_cases h7 : p = 7
    · rw [if_pos h7] at hb
      have hbl : bits.length ≤ 65536 := by
        have h5 : w * h ≤ 32 * h := Int.mul_le_mul_of_nonneg_right hw.2 (by omega)
        omega
      have e : writeS p ⟨false, [], w, h, bits⟩ = putI w ++ (putI h ++ (putSR bits).1) := by
        rw [writeS, if_neg (by simp), if_pos (by omega), if_pos h7, numbersS2 ow oh, List.append_assoc]
      have g1 := getI_put [] (putI h ++ (putSR bits).1) ow
      have g2 := getI_put (putI w) (putSR bits).1 oh
      have g3 := getS_put (putI w ++ putI h) [] bits hbl
      rw [List.nil_append, List.nil_append] at g1
      rw [List.append_nil, List.append_assoc (putI w)] at g3
      replace g1 : getI (putI w ++ (putI h ++ (putSR bits).1)) 0 = (w, ((putI w).length : Int), 0) := g1
      rw [e, readS, if_neg (by omega), if_neg (by simp [putI_ne]), if_neg h8, if_pos h6, g1]
      dsimp only
      rw [g2]
      dsimp only
      rw [if_pos ⟨numOkR_iff.2 (by rw [g1]; exact ⟨rfl, hw⟩), numOkR_iff.2 (by rw [g2]; exact ⟨rfl, hh⟩)⟩, if_pos h7, g3]
      exact if_pos ⟨rfl, hb.1, hb.2, by simp only [List.append_assoc]⟩
    · rw [if_neg h7] at hb
      subst hb
      have e : writeS p ⟨false, [], w, h, []⟩ = putI w ++ putI h := by
        rw [writeS, if_neg (by simp), if_pos (by omega), if_neg (by omega), List.append_nil, numbersS2 ow oh]
      have g1 := getI_put [] (putI h) ow
      have g2 := getI_put (putI w) [] oh
      rw [List.nil_append, List.nil_append] at g1
      rw [List.append_nil] at g2
      replace g1 : getI (putI w ++ putI h) 0 = (w, ((putI w).length : Int), 0) := g1
      rw [e, readS, if_neg (by omega), if_neg (by simp [putI_ne]), if_neg h8, if_pos h6, g1]
      dsimp only
      rw [g2]
      dsimp only
      rw [if_pos ⟨numOkR_iff.2 (by rw [g1]; exact ⟨rfl, hw⟩), numOkR_iff.2 (by rw [g2]; exact ⟨rfl, hh⟩)⟩, if_neg h7]
      exact if_pos rfl
  · rw [if_neg h6] at hv
    obtain ⟨rfl, rfl, rfl, hl, ho⟩ := hv
    have on : okI (L.length : Int) := by unfold okI; omega
    have e : writeS p ⟨false, L, 0, 0, []⟩ = putI L.length ++ (L.map (lineW p)).flatten := by
      rw [writeS, if_neg (by simp), if_neg h6, numbersS1 on]
    have g1 := getI_put [] ((L.map (lineW p)).flatten) on
    have g2 := linesS_put [] L [] (putI L.length) ho
    rw [List.nil_append, List.nil_append] at g1
    rw [List.append_nil] at g2
    replace g1 : getI (putI L.length ++ (L.map (lineW p)).flatten) 0 = ((L.length : Int), ((putI L.length).length : Int), 0) := g1
    rw [e, readS, if_neg (by omega), if_neg (by simp [putI_ne]), if_neg h8, if_neg h6, if_pos (numOkR_iff.2 (by rw [g1]; exact ⟨rfl, by dsimp only; omega, by dsimp only; omega⟩)), g1]
    dsimp only
    rw [Int.toNat_natCast, g2]
    dsimp only
    rw [List.nil_append]
    exact if_pos rfl
end Go.Proofs.YtblllibdahkgfaaGreatDoor

namespace Go.Proofs.YtblllibdahkgfaaGreatDoor
open Go Sx
theorem VOK_lost {p : Int} {v : Val} (h : VOK p v) (hl : v.lost = true) : v = loseV := by
  rcases h with rfl | ⟨h, _⟩
  · rfl
  · rw [h] at hl; cases hl
theorem run_append (a b : List Stp) (v : Val) : runS (a ++ b) v = runS b (runS a v) := List.foldl_append
theorem run_lose : ∀ l : List Stp, runS l loseV = loseV
  | [] => rfl
  | s :: r => by
    show runS r (if loseV.lost = true then loseV else stepS s loseV) = loseV
    rw [if_pos (show loseV.lost = true from rfl)]; exact run_lose r
theorem run_one (s : Stp) {v : Val} (h : v.lost = false) : runS [s] v = stepS s v := by
  show (if v.lost = true then v else stepS s v) = _
  rw [if_neg (by rw [h]; simp)]
theorem run_six {p : Int} {v : Val} (hv : VOK p v) (n : Int) : runS [(6, n)] v = loseV := by
  by_cases h : v.lost = true
  · rw [VOK_lost hv h, run_lose]
  · rw [run_one _ (by simpa using h)]; rfl
def nfs (p : Int) : List (List Stp) :=
  [(6, 0)] :: if p = 1 then [[], [(1, 0)], [(2, 0)], [(1, 0), (2, 0)]]
  else if p = 2 then [[], [(4, 0)], [(4, 1)], [(4, 2)], [(4, 3)], [(4, 4)], [(4, 5)], [(4, 6)]]
  else if p = 3 ∨ p = 5 then [[], [(3, 10)], [(3, 100)], [(3, 1000)]]
  else if p = 6 ∨ p = 7 then [[], [(5, 0)], [(5, 0), (5, 0)], [(5, 0), (5, 0), (5, 0)], [(5, 0), (5, 0), (5, 0), (5, 0)], [(5, 0), (5, 0), (5, 0), (5, 0), (5, 0)]]
  else [[]]
def sts (p : Int) : List Stp :=
  (6, 0) :: if p = 1 then [(1, 0), (2, 0)] else if p = 2 then [(4, 0), (4, 1), (4, 2), (4, 3), (4, 4), (4, 5), (4, 6)] else if p = 3 ∨ p = 5 then [(3, 10), (3, 100), (3, 1000)] else if p = 6 ∨ p = 7 then [(5, 0)] else []
theorem p8 {p : Int} (hp : 1 ≤ p ∧ p ≤ 8) : p = 1 ∨ p = 2 ∨ p = 3 ∨ p = 4 ∨ p = 5 ∨ p = 6 ∨ p = 7 ∨ p = 8 := by omega
theorem mem_sts {p : Int} {s : Stp} (hp : 1 ≤ p ∧ p ≤ 8) (h : stepOk p s = true) : s ∈ sts p := by
  obtain ⟨k, n⟩ := s
  rcases stepOk_cases hp h with ⟨rfl, rfl, rfl⟩ | ⟨rfl, rfl, rfl⟩ | ⟨rfl, rfl | rfl, rfl | rfl | rfl⟩ | ⟨rfl, rfl, hn⟩ | ⟨rfl, rfl | rfl, rfl⟩ | ⟨rfl, rfl⟩
  case inr.inr.inr.inl =>
    have : n = 0 ∨ n = 1 ∨ n = 2 ∨ n = 3 ∨ n = 4 ∨ n = 5 ∨ n = 6 := by omega
    rcases this with rfl | rfl | rfl | rfl | rfl | rfl | rfl <;> decide
  case inr.inr.inr.inr.inr => simp [sts]
  all_goals decide
theorem nfs_step {p : Int} (hp : 1 ≤ p ∧ p ≤ 8) : ∀ m ∈ nfs p, ∀ s ∈ sts p, normS (m ++ [s]) ∈ nfs p := by
  rcases p8 hp with rfl | rfl | rfl | rfl | rfl | rfl | rfl | rfl <;> decide +kernel
theorem norm_idem (l : List Stp) : normS (normS l) = normS l := by
  have h := norm_norm l []
  rw [show normS [] = [] from rfl, List.append_nil, List.append_nil] at h
  exact h
theorem norm_snoc (l : List Stp) (s : Stp) : normS (normS l ++ [s]) = normS (l ++ [s]) := by
  have h1 := norm_norm l [s]
  have h2 := norm_norm (normS l) [s]
  rw [norm_idem, h1] at h2
  exact h2.symm
theorem snoc_ind {α : Type} {P : List α → Prop} (h0 : P []) (h1 : ∀ l x, P l → P (l ++ [x])) (l : List α) : P l := by
  have : ∀ n, n ≤ l.length → P (l.take n) := by
    intro n
    induction n with
    | zero => intro _; exact h0
    | succ n ih =>
      intro h
      rw [List.take_succ_eq_append_getElem (by omega)]
      exact h1 _ _ (ih (by omega))
  have h := this l.length (Nat.le_refl _)
  rwa [List.take_length] at h
theorem norm_mem {p : Int} (hp : 1 ≤ p ∧ p ≤ 8) (l : List Stp) : (∀ s ∈ l, stepOk p s = true) → normS l ∈ nfs p := by
  refine snoc_ind (P := fun l => (∀ s ∈ l, stepOk p s = true) → normS l ∈ nfs p) ?_ ?_ l
  · intro _
    rcases p8 hp with rfl | rfl | rfl | rfl | rfl | rfl | rfl | rfl <;> decide +kernel
  · intro l x ih h
    rw [← norm_snoc]
    exact nfs_step hp _ (ih fun s hs => h s (List.mem_append_left _ hs)) _ (mem_sts hp (h x (by simp)))
theorem nfs_ok {p : Int} (hp : 1 ≤ p ∧ p ≤ 8) : ∀ m ∈ nfs p, ∀ x ∈ m, stepOk p x = true := by
  rcases p8 hp with rfl | rfl | rfl | rfl | rfl | rfl | rfl | rfl <;> decide +kernel
theorem low_low : ∀ b : UInt8, Lib.lowerB (Lib.lowerB b) = Lib.lowerB b := by
  intro b
  have : ∀ n : Fin 256, Lib.lowerB (Lib.lowerB (UInt8.ofNat n.1)) = Lib.lowerB (UInt8.ofNat n.1) := by decide +kernel
  have h := this ⟨b.toNat, b.toNat_lt⟩
  simpa using h
theorem low_32 : ∀ b : UInt8, (Lib.lowerB b == 32) = (b == 32) := by
  intro b
  have : ∀ n : Fin 256, (Lib.lowerB (UInt8.ofNat n.1) == 32) = (UInt8.ofNat n.1 == 32) := by decide +kernel
  have h := this ⟨b.toNat, b.toNat_lt⟩
  simpa using h
theorem lowA_lowA (s : List UInt8) : Lib.toLowerA (Lib.toLowerA s) = Lib.toLowerA s := by
  unfold Lib.toLowerA
  rw [List.map_map]
  exact List.map_congr_left fun b _ => low_low b
theorem hasD_low : ∀ s : List UInt8, hasD (Lib.toLowerA s) = hasD s
  | [] => rfl
  | [_] => rfl
  | a :: b :: r => by
    have ih := hasD_low (b :: r)
    show ((Lib.lowerB a == 32 && Lib.lowerB b == 32) || hasD (Lib.toLowerA (b :: r))) = _
    rw [low_32, low_32, ih]; rfl
theorem repD_low : ∀ s : List UInt8, repD (Lib.toLowerA s) = Lib.toLowerA (repD s)
  | [] => rfl
  | [_] => rfl
  | a :: b :: r => by
    have ih1 := repD_low r
    have ih2 := repD_low (b :: r)
    show (if (Lib.lowerB a == 32 && Lib.lowerB b == 32) = true then 32 :: repD (Lib.toLowerA r) else Lib.lowerB a :: repD (Lib.toLowerA (b :: r))) = _
    rw [low_32, low_32, ih1, ih2, repD]
    split
    · show _ = Lib.lowerB 32 :: Lib.toLowerA (repD r)
      rw [show Lib.lowerB 32 = 32 by decide]
    · rfl
theorem spS_low : ∀ (f : Nat) (s : List UInt8), spS f (Lib.toLowerA s) = Lib.toLowerA (spS f s)
  | 0, _ => rfl
  | f + 1, s => by
    rw [spS, spS, hasD_low]
    split
    · rw [repD_low]; exact spS_low f _
    · rfl
theorem lowA_len (s : List UInt8) : (Lib.toLowerA s).length = s.length := by unfold Lib.toLowerA; simp
theorem spS_noD : ∀ (f : Nat) (s : List UInt8), s.length ≤ f → hasD (spS f s) = false
  | 0, s, h => by
    have : s = [] := List.eq_nil_of_length_eq_zero (by omega)
    subst this; rfl
  | f + 1, s, h => by
    rw [spS]
    by_cases hd : hasD s = true
    · rw [if_pos hd]; exact spS_noD f _ (by have := repD_lt s hd; omega)
    · rw [if_neg hd]; simpa using hd
theorem fold_fold (x : Ln) : foldL (foldL x) = foldL x := Prod.ext (lowA_lowA _) rfl
theorem space_space (x : Ln) : spaceL (spaceL x) = spaceL x := Prod.ext (spS_end (spS_noD _ _ (Nat.le_refl _))) rfl
theorem fold_space (x : Ln) : foldL (spaceL x) = spaceL (foldL x) := by
  refine Prod.ext ?_ rfl
  show Lib.toLowerA (spS x.1.length x.1) = spS (Lib.toLowerA x.1).length (Lib.toLowerA x.1)
  rw [spS_low, lowA_len]
theorem lim_lim {n k : Int} (hk : 0 ≤ k) (x : Ln) : limL k (limL n x) = limL (if k < n then k else n) x := by
  obtain ⟨t, m⟩ := x
  refine Prod.ext rfl ?_
  cases m with
  | nil => rfl
  | cons a r =>
    show (if (if a > n then 0 else a) > k then 0 else (if a > n then 0 else a)) :: r = (if a > (if k < n then k else n) then 0 else a) :: r
    congr 1
    by_cases h1 : a > n
    · rw [if_pos h1, if_neg (by omega)]
      by_cases h2 : k < n
      · rw [if_pos h2, if_pos (by omega)]
      · rw [if_neg h2, if_pos h1]
    · rw [if_neg h1]
      by_cases h2 : k < n
      · rw [if_pos h2]
      · rw [if_neg h2, if_neg h1, if_neg (by omega)]
theorem tm_tm {n k z : Int} (hn : n = 10 ∨ n = 100 ∨ n = 1000) (hk : k = 10 ∨ k = 100 ∨ k = 1000) : (z - z.tmod n) - (z - z.tmod n).tmod k = z - z.tmod (if n < k then k else n) := by
  have e : ∀ z m : Int, 0 < m → z.tmod m = if 0 ≤ z then z % m else -((-z) % m) := by
    intro z m hm
    split
    · rename_i h; exact Int.tmod_eq_emod_of_nonneg h
    · rename_i h
      have h1 := Int.neg_tmod z m
      have h2 : (-z).tmod m = (-z) % m := Int.tmod_eq_emod_of_nonneg (by omega)
      omega
  rcases hn with rfl | rfl | rfl <;> rcases hk with rfl | rfl | rfl
  all_goals
    first
    | rw [if_pos (by decide)]
    | rw [if_neg (by decide)]
    rw [e _ _ (by decide), e _ _ (by decide)]
    try rw [e z _ (by decide)]
    by_cases hz : 0 ≤ z
    · simp only [if_pos hz]
      rw [if_pos (by omega)]
      omega
    · simp only [if_neg hz]
      split <;> omega
theorem rnd_rnd {n k : Int} (hn : n = 10 ∨ n = 100 ∨ n = 1000) (hk : k = 10 ∨ k = 100 ∨ k = 1000) (x : Ln) : roundL k (roundL n x) = roundL (if n < k then k else n) x := by
  obtain ⟨t, m⟩ := x
  refine Prod.ext rfl ?_
  match m with
  | [] => rfl
  | [_] => rfl
  | [_, _] => rfl
  | a :: b :: z :: r =>
    show a :: b :: (z - z.tmod n - (z - z.tmod n).tmod k) :: r = a :: b :: (z - z.tmod _) :: r
    rw [tm_tm hn hk]
theorem halV_fix {p : Int} {v : Val} (hp : p = 6 ∨ p = 7) (hv : VOK p v) (hl : v.lost = false) (hw : v.w ≤ 1) (hh : v.h ≤ 1) : halV v = v := by
  obtain ⟨h1, h2, h3, h4⟩ := VOK_raster hv hl hp
  obtain ⟨lost, L, w, h, bits⟩ := v
  dsimp only at *
  subst hl h1
  have hc : (w = 0 ∧ h = 0) ∨ (w = 1 ∧ h = 1) := by omega
  have hb : bits = [] ∨ (w = 1 ∧ h = 1 ∧ ∃ b, bits = [b] ∧ (b = 48 ∨ b = 49)) := by
    rcases hp with h6 | h7
    · rw [if_neg (by omega)] at h4; exact .inl h4
    · rw [if_pos h7] at h4
      rcases hc with ⟨rfl, rfl⟩ | ⟨rfl, rfl⟩
      · exact .inl (List.eq_nil_of_length_eq_zero (by have := h4.1; omega))
      · right
        refine ⟨rfl, rfl, ?_⟩
        match bits, h4.1, h4.2 with
        | [b], _, h5 =>
          refine ⟨b, rfl, ?_⟩
          simpa using h5
        | [], h5, _ => simp at h5
        | _ :: _ :: _, h5, _ => simp only [List.length_cons] at h5; omega
  unfold halV
  dsimp only
  rcases hb with rfl | ⟨rfl, rfl, b, rfl, hb⟩
  · rcases hc with ⟨rfl, rfl⟩ | ⟨rfl, rfl⟩ <;> rfl
  · rcases hb with rfl | rfl <;> rfl
theorem run_half {v : Val} (hl : v.lost = false) (r : List Stp) : runS ((5, 0) :: r) v = runS r (halV v) := by
  show runS r (if v.lost = true then v else stepS (5, 0) v) = _
  rw [if_neg (by rw [hl]; simp)]; rfl
theorem half6 {p : Int} {v : Val} (hp : p = 6 ∨ p = 7) (hv : VOK p v) (hl : v.lost = false) :
    runS [(5, 0), (5, 0), (5, 0), (5, 0), (5, 0), (5, 0)] v = runS [(5, 0), (5, 0), (5, 0), (5, 0), (5, 0)] v := by
  obtain ⟨_, h2, h3, _⟩ := VOK_raster hv hl hp
  rw [run_half hl, run_half hl]
  have v1 := half_ok hp hv hl
  have v2 := half_ok hp v1 rfl
  have v3 := half_ok hp v2 rfl
  have v4 := half_ok hp v3 rfl
  have v5 := half_ok hp v4 rfl
  show halV (halV (halV (halV (halV (halV v))))) = halV (halV (halV (halV (halV v))))
  refine halV_fix hp v5 rfl ?_ ?_
  · show (((((v.w + 1) / 2 + 1) / 2 + 1) / 2 + 1) / 2 + 1) / 2 ≤ 1
    omega
  · show (((((v.h + 1) / 2 + 1) / 2 + 1) / 2 + 1) / 2 + 1) / 2 ≤ 1
    omega
theorem mm {f g k : Ln → Ln} (h : ∀ x, g (f x) = k x) (L : List Ln) : (L.map f).map g = L.map k := by
  rw [List.map_map]; exact List.map_congr_left fun x _ => h x
theorem norm_lims (n k : Int) : normS [(4, n), (4, k)] = [(4, if k < n then k else n)] := by
  have h : sel 4 [((4 : Int), n), (4, k)] = [n, k] := rfl
  show [(4, mn [n, k])] = _
  rfl
theorem norm_rnds (n k : Int) : normS [(3, n), (3, k)] = [(3, if n < k then k else n)] := by
  show [(3, mx [n, k])] = _
  show [(3, if k > n then k else n)] = _
  rfl
theorem nfs_rep {p : Int} (hp : p = 6 ∨ p = 7) {m : List Stp} (h : m ∈ nfs p) : m = [(6, 0)] ∨ ∃ k, k ≤ 5 ∧ m = List.replicate k (5, 0) := by
  rcases hp with rfl | rfl
  all_goals
    rw [nfs, if_neg (by decide), if_neg (by decide), if_neg (by decide), if_pos (by decide)] at h
    simp only [List.mem_cons, List.not_mem_nil, or_false] at h
    rcases h with rfl | rfl | rfl | rfl | rfl | rfl | rfl
    · exact .inl rfl
    · exact .inr ⟨0, by omega, rfl⟩
    · exact .inr ⟨1, by omega, rfl⟩
    · exact .inr ⟨2, by omega, rfl⟩
    · exact .inr ⟨3, by omega, rfl⟩
    · exact .inr ⟨4, by omega, rfl⟩
    · exact .inr ⟨5, by omega, rfl⟩
theorem run_step {p : Int} (hp : 1 ≤ p ∧ p ≤ 8) {m : List Stp} (hm : m ∈ nfs p) {s : Stp} (hs : s ∈ sts p) {v : Val} (hok : ∀ x ∈ m, stepOk p x = true) (hv : VOK p v) : runS (normS (m ++ [s])) v = runS (m ++ [s]) v := by
  by_cases hl : v.lost = true
  · rw [VOK_lost hv hl, run_lose, run_lose]
  have hl : v.lost = false := by simpa using hl
  by_cases h6 : s = (6, 0)
  · subst h6
    rw [normS_yes (by rw [sel_app, sel_lost]; simp), run_six hv, run_append, run_six (VOK_run hp m v hok hv)]
  by_cases m6 : m = [(6, 0)]
  · subst m6
    rw [normS_yes (by rw [sel_app, sel_lost]; simp), run_six hv, run_append, run_six hv, run_lose]
  obtain ⟨lost, L, w, h, bits⟩ := v
  replace hl : lost = false := hl
  subst hl
  rcases p8 hp with rfl | rfl | rfl | rfl | rfl | hp6 | hp7 | rfl
  · rw [nfs, if_pos rfl] at hm
    rw [sts, if_pos rfl] at hs
    simp only [List.mem_cons, List.not_mem_nil, or_false] at hm hs
    rcases hm with hm | rfl | rfl | rfl | rfl
    · exact absurd hm m6
    all_goals
      rcases hs with hs | rfl | rfl
      · exact absurd hs h6
    · rfl
    · rfl
    · show Val.mk false (L.map foldL) w h bits = Val.mk false ((L.map foldL).map foldL) w h bits
      rw [mm fold_fold]
    · rfl
    · show Val.mk false ((L.map foldL).map spaceL) w h bits = Val.mk false ((L.map spaceL).map foldL) w h bits
      rw [mm (k := fun x => spaceL (foldL x)) (fun x => rfl), mm fold_space]
    · show Val.mk false (L.map spaceL) w h bits = Val.mk false ((L.map spaceL).map spaceL) w h bits
      rw [mm space_space]
    · show Val.mk false ((L.map foldL).map spaceL) w h bits = Val.mk false (((L.map foldL).map spaceL).map foldL) w h bits
      rw [mm fold_space, mm (k := fun x => spaceL (foldL x)) (fun x => rfl), mm (k := fun x => spaceL (foldL x)) (fun x => by rw [fold_fold])]
    · show Val.mk false ((L.map foldL).map spaceL) w h bits = Val.mk false (((L.map foldL).map spaceL).map spaceL) w h bits
      rw [mm space_space]
  · rw [nfs, if_neg (by decide), if_pos rfl] at hm
    rw [sts, if_neg (by decide), if_pos rfl] at hs
    have hm' : m = [] ∨ ∃ n, m = [(4, n)] := by
      simp only [List.mem_cons, List.not_mem_nil, or_false] at hm
      rcases hm with hm | rfl | rfl | rfl | rfl | rfl | rfl | rfl | rfl
      · exact absurd hm m6
      · exact .inl rfl
      all_goals exact .inr ⟨_, rfl⟩
    have hs' : ∃ k, 0 ≤ k ∧ s = (4, k) := by
      simp only [List.mem_cons, List.not_mem_nil, or_false] at hs
      rcases hs with hs | rfl | rfl | rfl | rfl | rfl | rfl | rfl
      · exact absurd hs h6
      all_goals exact ⟨_, by decide, rfl⟩
    obtain ⟨k, hk, rfl⟩ := hs'
    rcases hm' with rfl | ⟨n, rfl⟩
    · rfl
    · show runS (normS [(4, n), (4, k)]) _ = _
      rw [norm_lims]
      show Val.mk false (L.map (limL (if k < n then k else n))) w h bits = Val.mk false ((L.map (limL n)).map (limL k)) w h bits
      rw [mm (lim_lim hk)]
  case inr.inr.inl | inr.inr.inr.inr.inl =>
    rw [nfs, if_neg (by decide), if_neg (by decide), if_pos (by decide)] at hm
    rw [sts, if_neg (by decide), if_neg (by decide), if_pos (by decide)] at hs
    have hm' : m = [] ∨ ∃ n, (n = 10 ∨ n = 100 ∨ n = 1000) ∧ m = [(3, n)] := by
      simp only [List.mem_cons, List.not_mem_nil, or_false] at hm
      rcases hm with hm | rfl | rfl | rfl | rfl
      · exact absurd hm m6
      · exact .inl rfl
      all_goals exact .inr ⟨_, by decide, rfl⟩
    have hs' : ∃ k, (k = 10 ∨ k = 100 ∨ k = 1000) ∧ s = (3, k) := by
      simp only [List.mem_cons, List.not_mem_nil, or_false] at hs
      rcases hs with hs | rfl | rfl | rfl
      · exact absurd hs h6
      all_goals exact ⟨_, by decide, rfl⟩
    obtain ⟨k, hk, rfl⟩ := hs'
    rcases hm' with rfl | ⟨n, hn, rfl⟩
    · rfl
    · show runS (normS [(3, n), (3, k)]) _ = _
      rw [norm_rnds]
      show Val.mk false (L.map (roundL (if n < k then k else n))) w h bits = Val.mk false ((L.map (roundL n)).map (roundL k)) w h bits
      rw [mm (rnd_rnd hn hk)]
  case inr.inr.inr.inl | inr.inr.inr.inr.inr.inr.inr =>
    rw [sts, if_neg (by decide), if_neg (by decide), if_neg (by decide), if_neg (by decide)] at hs
    simp only [List.mem_cons, List.not_mem_nil, or_false] at hs
    exact absurd hs h6
  all_goals
    have hp67 : p = 6 ∨ p = 7 := by omega
    have hs' : s = (5, 0) := by
      rw [sts, if_neg (by omega), if_neg (by omega), if_neg (by omega), if_pos hp67] at hs
      simp only [List.mem_cons, List.not_mem_nil, or_false] at hs
      exact hs.resolve_left h6
    subst hs'
    obtain ⟨k, hk, rfl⟩ := (nfs_rep hp67 hm).resolve_left m6
    rw [show List.replicate k ((5 : Int), (0 : Int)) ++ [(5, 0)] = List.replicate (k + 1) (5, 0) by rw [List.replicate_succ'], norm_rep]
    by_cases h5 : k + 1 ≤ 5
    · rw [Nat.min_eq_left h5]
    · obtain rfl : k = 5 := by omega
      exact (half6 hp67 hv rfl).symm
theorem run_norm {p : Int} (hp : 1 ≤ p ∧ p ≤ 8) (l : List Stp) : (∀ s ∈ l, stepOk p s = true) → ∀ v, VOK p v → runS (normS l) v = runS l v := by
  refine snoc_ind (P := fun l => (∀ s ∈ l, stepOk p s = true) → ∀ v, VOK p v → runS (normS l) v = runS l v) ?_ ?_ l
  · intro _ v _; rfl
  · intro l x ih h v hv
    have hl : ∀ s ∈ l, stepOk p s = true := fun s hs => h s (List.mem_append_left _ hs)
    have hx := h x (by simp)
    have hm := norm_mem hp l hl
    have hmok : ∀ s ∈ normS l, stepOk p s = true := nfs_ok hp _ hm
    rw [← norm_snoc, run_step hp hm (mem_sts hp hx) hmok hv, run_append, run_append, ih hl v hv]
end Go.Proofs.YtblllibdahkgfaaGreatDoor

namespace Go.Proofs.YtblllibdahkgfaaGreatDoor
open Go Sx
theorem apply_write {p : Int} {l : List Stp} {v : Val} (hl : validS p l = true) (hv : VOK p v) : applyS p l (writeS p v) = (writeS p (runS l v), 0) := by
  rw [applyS, if_pos hl, read_write (valid_p hl) hv]
theorem run_ok {p : Int} {l : List Stp} {v : Val} (hl : validS p l = true) (hv : VOK p v) : VOK p (runS l v) := VOK_run (valid_p hl) l v (valid_ok hl) hv
theorem nfs_valid {p : Int} (hp : 1 ≤ p ∧ p ≤ 8) : ∀ m ∈ nfs p, validS p m = true := by
  rcases p8 hp with rfl | rfl | rfl | rfl | rfl | rfl | rfl | rfl <;> decide +kernel
theorem norm_in {p : Int} {l : List Stp} (hl : validS p l = true) : normS l ∈ nfs p := norm_mem (valid_p hl) l (valid_ok hl)
theorem normV {p : Int} {l : List Stp} (hl : validS p l = true) : validS p (normS l) = true := nfs_valid (valid_p hl) _ (norm_in hl)
theorem app_ok {p : Int} {a b : List Stp} (ha : validS p a = true) (hb : validS p b = true) : ∀ s ∈ a ++ b, stepOk p s = true := fun s hs => by
  rcases List.mem_append.1 hs with h | h
  · exact valid_ok ha s h
  · exact valid_ok hb s h
theorem run_normV {p : Int} {l : List Stp} {v : Val} (hl : validS p l = true) (hv : VOK p v) : runS (normS l) v = runS l v := run_norm (valid_p hl) l (valid_ok hl) v hv
theorem run_comp {p : Int} {a b : List Stp} {v : Val} (ha : validS p a = true) (hb : validS p b = true) (hv : VOK p v) : runS (normS (a ++ b)) v = runS b (runS a v) := by
  rw [run_norm (valid_p ha) _ (app_ok ha hb) v hv, run_append]
theorem write_inj {p : Int} {v w : Val} (hp : 1 ≤ p ∧ p ≤ 8) (hv : VOK p v) (hw : VOK p w) (h : writeS p v = writeS p w) : v = w := by
  have h1 := read_write hp hv
  rw [h, read_write hp hw] at h1
  exact (Option.some.inj h1).symm
instance decNums (p : Int) : ∀ (l acc : List Int), Decidable (numsOk p acc l)
  | [], _ => isTrue trivial
  | x :: r, acc => @instDecidableAnd _ _ inferInstance (decNums p r (acc ++ [x]))
instance decLn (p : Int) (before : List Ln) (x : Ln) : Decidable (lnOk p before x) := by
  unfold lnOk
  have : Decidable (∀ y, before.getLast? = some y → cmpL (y.2.take 2) (x.2.take 2) < 0) := by
    cases h : before.getLast? with
    | none => exact isTrue (fun y hy => by cases hy)
    | some z =>
      by_cases hz : cmpL (z.2.take 2) (x.2.take 2) < 0
      · exact isTrue (fun y hy => by cases hy; exact hz)
      · exact isFalse (fun hy => hz (hy z rfl))
  infer_instance
instance decLns (p : Int) : ∀ (l acc : List Ln), Decidable (lnsOk p acc l)
  | [], _ => isTrue trivial
  | x :: r, acc => @instDecidableAnd _ _ (decLn p acc x) (decLns p r (acc ++ [x]))
def VOK1 (p : Int) (v : Val) : Prop := v.lost = false ∧
    if p = 8 then v.lines = [] ∧ v.bits = [] ∧ (0 ≤ v.w ∧ v.w ≤ 64) ∧ (0 ≤ v.h ∧ v.h ≤ 64)
    else if 6 ≤ p then v.lines = [] ∧ (0 ≤ v.w ∧ v.w ≤ 32) ∧ (min v.w 1 ≤ v.h ∧ v.h ≤ min v.w 1 * 32) ∧ (if p = 7 then (v.bits.length : Int) = v.w * v.h ∧ v.bits.all (fun b => b == 48 || b == 49) = true else v.bits = [])
    else v.w = 0 ∧ v.h = 0 ∧ v.bits = [] ∧ v.lines.length ≤ 64 ∧ lnsOk p [] v.lines
theorem VOK1.ok {p : Int} {v : Val} (h : VOK1 p v) : VOK p v := .inr h
instance decVOK (p : Int) (v : Val) : Decidable (VOK1 p v) := by unfold VOK1; infer_instance
theorem coar_norm {p : Int} {a b : List Stp} (ha : validS p a = true) (hb : validS p b = true) : coarS p (normS a) (normS b) = coarS p a b := by
  have h := norm_norm b a
  unfold coarS
  rw [if_pos (show validS p (normS a) = true ∧ validS p (normS b) = true from ⟨normV ha, normV hb⟩), if_pos (show validS p a = true ∧ validS p b = true from ⟨ha, hb⟩), norm_idem, norm_idem, h]
theorem ord1 {p : Int} (hp : 1 ≤ p ∧ p ≤ 8) : ∀ m ∈ nfs p, coarS p m m = true ∧ coarS p m [] = true ∧ coarS p [(6, 0)] m = true := by
  rcases p8 hp with rfl | rfl | rfl | rfl | rfl | rfl | rfl | rfl <;> decide +kernel
theorem ord2 {p : Int} (hp : 1 ≤ p ∧ p ≤ 8) : ∀ m ∈ nfs p, ∀ n ∈ nfs p, coarS p m n = true → coarS p n m = decide (m = n) := by
  rcases p8 hp with rfl | rfl | rfl | rfl | rfl | rfl | rfl | rfl <;> decide +kernel
theorem ord3 {p : Int} (hp : 1 ≤ p ∧ p ≤ 8) : ∀ m ∈ nfs p, ∀ n ∈ nfs p, coarS p m n = true → ∀ k ∈ nfs p, coarS p n k = true → coarS p m k = true := by
  rcases p8 hp with rfl | rfl | rfl | rfl | rfl | rfl | rfl | rfl <;> decide +kernel
theorem nilV {p : Int} (hp : 1 ≤ p ∧ p ≤ 8) : validS p [] = true := by
  rcases p8 hp with rfl | rfl | rfl | rfl | rfl | rfl | rfl | rfl <;> decide
theorem coar_refl {p : Int} {a : List Stp} (ha : validS p a = true) : coarS p a a = true := by
  rw [← coar_norm ha ha]; exact (ord1 (valid_p ha) _ (norm_in ha)).1
theorem coar_nil {p : Int} {a : List Stp} (ha : validS p a = true) : coarS p a [] = true := by
  rw [← coar_norm ha (nilV (valid_p ha))]; exact (ord1 (valid_p ha) _ (norm_in ha)).2.1
theorem coar_lost {p : Int} {a : List Stp} (ha : validS p a = true) : coarS p [(6, 0)] a = true := by
  rw [← coar_norm (lost_valid (valid_p ha)) ha]; exact (ord1 (valid_p ha) _ (norm_in ha)).2.2
theorem coar_anti {p : Int} {a b : List Stp} (ha : validS p a = true) (hb : validS p b = true) (h : coarS p a b = true) : coarS p b a = decide (normS a = normS b) := by
  rw [← coar_norm ha hb] at h
  rw [← coar_norm hb ha]
  exact ord2 (valid_p ha) _ (norm_in ha) _ (norm_in hb) h
theorem coar_trans {p : Int} {a b c : List Stp} (ha : validS p a = true) (hb : validS p b = true) (hc : validS p c = true) (h : coarS p a b = true) (h2 : coarS p b c = true) : coarS p a c = true := by
  rw [← coar_norm ha hb] at h
  rw [← coar_norm hb hc] at h2
  rw [← coar_norm ha hc]
  exact ord3 (valid_p ha) _ (norm_in ha) _ (norm_in hb) h _ (norm_in hc) h2
theorem coar_run {p : Int} {a b : List Stp} (ha : validS p a = true) (hb : validS p b = true) (h : coarS p a b = true) : ∃ c, validS p c = true ∧ ∀ v, VOK p v → runS a v = runS c (runS b v) := by
  rw [← rcoar_eq, rcoar_iff ha hb] at h
  obtain ⟨c, _, hc, he⟩ := h
  refine ⟨c, hc, fun v hv => ?_⟩
  rw [← run_normV ha hv, ← he, run_comp hb hc hv]
end Go.Proofs.YtblllibdahkgfaaGreatDoor

namespace Go.Proofs.YtblllibdahkgfaaGreatDoor
open Go Sx
theorem pickI_in (c : Int) {n : Int} (hn : 0 < n) : 0 ≤ pickI c n ∧ pickI c n < n := by
  unfold pickI
  split
  · exact ⟨Int.tmod_nonneg _ (by omega), Int.tmod_lt_of_pos _ hn⟩
  · exact ⟨Int.tmod_nonneg _ (by omega), Int.tmod_lt_of_pos _ hn⟩
theorem stepOk_sts {p : Int} (hp : 1 ≤ p ∧ p ≤ 8) : ∀ s ∈ sts p, stepOk p s = true := by
  rcases p8 hp with rfl | rfl | rfl | rfl | rfl | rfl | rfl | rfl <;> decide +kernel
theorem stepOf_in {p : Int} (hp : 1 ≤ p ∧ p ≤ 8) (x : Int) : ∀ s ∈ stepOf p x, s ∈ sts p := by
  intro s hs
  have hk := pickI_in (x.tdiv 8) (n := 21) (by decide)
  unfold stepOf at hs
  unfold sts
  split at hs
  · split at hs
    · rename_i h1
      rw [if_pos h1]
      have h2 : 0 ≤ (pickI (x.tdiv 8) 21).tmod 2 := Int.tmod_nonneg _ hk.1
      have h3 : (pickI (x.tdiv 8) 21).tmod 2 < 2 := Int.tmod_lt_of_pos _ (by decide)
      have hc : (pickI (x.tdiv 8) 21).tmod 2 = 0 ∨ (pickI (x.tdiv 8) 21).tmod 2 = 1 := by omega
      rw [List.mem_singleton] at hs
      subst hs
      rcases hc with h | h <;> rw [h] <;> simp
    rename_i n1
    split at hs
    · rename_i h2'
      rw [if_neg n1, if_pos h2']
      have h2 : 0 ≤ (pickI (x.tdiv 8) 21).tmod 7 := Int.tmod_nonneg _ hk.1
      have h3 : (pickI (x.tdiv 8) 21).tmod 7 < 7 := Int.tmod_lt_of_pos _ (by decide)
      obtain ⟨m, hm⟩ : ∃ m, (pickI (x.tdiv 8) 21).tmod 7 = m := ⟨_, rfl⟩
      rw [hm] at h2 h3 hs
      rw [List.mem_singleton] at hs
      subst hs
      have hc : m = 0 ∨ m = 1 ∨ m = 2 ∨ m = 3 ∨ m = 4 ∨ m = 5 ∨ m = 6 := by omega
      rcases hc with rfl | rfl | rfl | rfl | rfl | rfl | rfl <;> simp
    rename_i n2
    split at hs
    · rename_i h3
      rw [if_neg n1, if_neg n2, if_pos h3]
      rw [List.mem_singleton] at hs
      subst hs
      split
      · simp
      · split <;> simp
    rename_i n3
    split at hs
    · rename_i h4
      rw [if_neg n1, if_neg n2, if_neg n3, if_pos h4]
      rw [List.mem_singleton] at hs
      subst hs; simp
    · exact absurd hs (by simp)
  · rw [List.mem_singleton] at hs
    subst hs; simp
theorem stepsS_valid {p : Int} (hp : 1 ≤ p ∧ p ≤ 8) (x : List Int) : validS p (stepsS p x) = true := by
  refine valid_of hp ?_ ?_
  · have := steps_len p (x.take 8)
    rw [List.length_take] at this
    unfold stepsS; omega
  · intro s hs
    unfold stepsS at hs
    obtain ⟨l, hl, hs⟩ := List.mem_flatten.1 hs
    obtain ⟨a, _, rfl⟩ := List.mem_map.1 hl
    exact stepOk_sts hp s (stepOf_in hp a s hs)
end Go.Proofs.YtblllibdahkgfaaGreatDoor

namespace Go.Proofs.YtblllibdahkgfaaGreatDoor
open Go Sx
set_option maxRecDepth 100000
theorem writeS_len {p : Int} {v : Val} (hv : Fits v) : (writeS p v).length ≤ 100000000000 := by
  unfold writeS
  split
  · simp
  split
  · have h1 := numbersS_len [v.w, v.h]
    have h2 := putSR_len v.bits
    rw [List.length_append]
    simp only [List.length_cons, List.length_nil] at h1
    split
    · omega
    · simp only [List.length_nil]; omega
  · have h1 := numbersS_len [(v.lines.length : Int)]
    have h2 := linesW_len (p := p) v.lines (fun x hx => (hv.h2 x hx).2)
    have h3 := hv.h1
    rw [List.length_append]
    simp only [List.length_cons, List.length_nil] at h1
    have h4 : 74545 * v.lines.length ≤ 74545 * 1000 := Nat.mul_le_mul_left _ h3
    omega
theorem writeV_len {p : Int} {v : Val} (hp : 1 ≤ p ∧ p ≤ 8) (hv : VOK p v) : (writeS p v).length ≤ 1000000000000000000 := by
  have := writeS_len (p := p) (fits_of hp hv); omega
theorem valid_short {p : Int} {l : List Stp} (h : validS p l = true) : l.length < 1000000 := by have := valid_len h; omega
theorem normOk {q : Int} {a : List Stp} (ha : validS q a = true) (F : Fz) (sa : SA) (sA : StepsAt F sa a) :
    Fo Tryz.prog F 15 [.va (.int .i64 q), .va sa] (fun o F' => ∃ sc, o = .ret (.tup [.va sc, .va (.int .i64 0)]) ∧ StepsAt F' sc (normS a)) := by
  have h := normalE_fn F sa a q sA (valid_short ha)
  rw [normR, if_pos ha] at h
  exact h
theorem applyOk {q : Int} {l : List Stp} {v : Val} (hl : validS q l = true) (hv : VOK q v) (F : Fz) (hM : MLF F) (sa : SA) (sA : StepsAt F sa l) :
    Fo Tryz.prog F 26 [.va (.int .i64 q), .va sa, .va (.str (writeS q v))] (fun o F' => o = .ret (.tup [.va (.str (writeS q (runS l v))), .va (.int .i64 0)])) := by
  have h := apply_fn F hM sa l q (writeS q v) sA (valid_short hl) (writeV_len (valid_p hl) hv)
  rw [apply_write hl hv] at h
  exact h
theorem saneL (F : Fz) (hM : MLF F) : Fo Tryz.prog F 11 [] (fun o F' => o = .ret (.va (.lit true)) ∧ True) := Fo_lit (sane_fn F hM)
abbrev StepsArg (F0 : Fz) (s : SA) (x : List Int) : Prop := ∀ (P : Int) G, 1 ≤ P ∧ P ≤ 8 → Fz.le F0 G → Fo Tryz.prog G 14 [.va (.int .i64 P), .va s] (fun o F' => ∃ sc, o = .ret (.va sc) ∧ StepsAt F' sc (stepsS P x))
abbrev SomeArg (F0 : Fz) (s : SA) : Prop := ∀ (P : Int) G, 1 ≤ P ∧ P ≤ 8 → Fz.le F0 G → Fo Tryz.prog G 24 [.va (.int .i64 P), .va s] (fun o F' => ∃ v, VOK P v ∧ o = .ret (.va (.str (writeS P v))))
end Go.Proofs.YtblllibdahkgfaaGreatDoor

namespace Go.Proofs.YtblllibdahkgfaaGreatDoor
open Go Sx
set_option maxRecDepth 100000
end Go.Proofs.YtblllibdahkgfaaGreatDoor

namespace Go.Proofs.YtblllibdahkgfaaGreatDoor
open Go Sx
set_option maxRecDepth 100000
end Go.Proofs.YtblllibdahkgfaaGreatDoor

namespace Go.Proofs.YtblllibdahkgfaaGreatDoor
open Go Sx
set_option maxRecDepth 100000
end Go.Proofs.YtblllibdahkgfaaGreatDoor
