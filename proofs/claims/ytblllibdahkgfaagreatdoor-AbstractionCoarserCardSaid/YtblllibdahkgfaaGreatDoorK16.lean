import Derived.Test.YtblllibdahkgfaaGreatDoorK15
import Derived.Test.YtblllibdahkgfaaGreatDoorK12

namespace Go.Proofs.YtblllibdahkgfaaGreatDoor
open Go Sx
set_option maxRecDepth 100000
def encB (b : UInt8) : List SA := [.int .u8 b.toNat]
theorem encB_plain : Plain encB := fun x => ⟨fun _ => rfl, fun a ha => by simp only [encB, List.mem_singleton] at ha; subst ha; trivial⟩
def putZ (z : Nat) : List UInt8 := if z < 128 then [UInt8.ofNat z] else UInt8.ofNat (z % 128 + 128) :: putZ (z / 128)
termination_by z
decreasing_by omega
theorem putZ_lt {z : Nat} (h : z < 128) : putZ z = [UInt8.ofNat z] := by rw [putZ, if_pos h]
theorem putZ_ge {z : Nat} (h : ¬ z < 128) : putZ z = UInt8.ofNat (z % 128 + 128) :: putZ (z / 128) := by rw [putZ, if_neg h]
def zig (n : Int) : Nat := if n < 0 then ((-n) * 2 - 1).toNat else (n * 2).toNat
def putI (n : Int) : List UInt8 := putZ (zig n)
def putIR (n : Int) : List UInt8 × Int := if n < -4611686018427387903 ∨ 4611686018427387903 < n then ([], 10) else (putI n, 0)
def putSR (s : List UInt8) : List UInt8 × Int := if 65536 < s.length then ([], 10) else (putI s.length ++ s, 0)
theorem wrapu64 {n : Int} (h1 : 0 ≤ n) (h2 : n ≤ 18446744073709551615) : IntKind.u64.wrap n = n := IntWalk.u64_in _ ⟨h1, h2⟩
theorem wrapu8 {n : Int} (h1 : 0 ≤ n) (h2 : n ≤ 255) : IntKind.u8.wrap n = n := IntWalk.u8_in _ ⟨h1, h2⟩
theorem zigzag_pu (n : Int) (h : -4611686018427387903 ≤ n ∧ n ≤ 4611686018427387903) : Pu Tryz.prog 88 [.va (.int .i64 n)] (.va (.int .u64 (zig n))) := by
  intro F
  refine fo_of hΘ Tryz.func88 rfl (by decide) _ _ rfl rfl rfl ?_
  conv => whnf
  refine br (fun g => ?_) (fun g => ?_)
  · have g1 : n < 0 := by simpa using g
    conv => whnf
    refine endPu rfl (Fz.le_refl F) (oi ?_) rfl
    rw [wrap64_id (n := 0 - n) (by omega) (by omega), wrapu64 (n := 0 - n) (by omega) (by omega), wrapu64 (n := (0 - n) * 2) (by omega) (by omega), wrapu64 (by omega) (by omega), zig, if_pos g1]
    omega
  · have g1 : ¬ n < 0 := by simpa using g
    conv => whnf
    refine endPu rfl (Fz.le_refl F) (oi ?_) rfl
    rw [wrapu64 (n := n) (by omega) (by omega), wrapu64 (by omega) (by omega), zig, if_neg g1]
    omega
theorem zig_lt (n : Int) (h : -4611686018427387903 ≤ n ∧ n ≤ 4611686018427387903) : zig n < 9223372036854775808 := by
  unfold zig; split <;> omega
theorem byte_eq (m : Nat) (h : m < 256) : SA.int .u8 (IntKind.u8.wrap (m : Int)) = SA.int .u8 ((UInt8.ofNat m).toNat : Int) := by
  rw [wrapu8 (by omega) (by omega)]
  simp [Nat.mod_eq_of_lt h]
theorem few7 {z len m : Nat} (h1 : 1 ≤ z) (h : z * 128 ^ len ≤ m) (hm : m < 9223372036854775808) : len < 10 := by
  apply Classical.byContradiction; intro hl
  have h2 : 128 ^ 10 ≤ 128 ^ len := Nat.pow_le_pow_right (by omega) (by omega)
  have h3 : 1 * 128 ^ len ≤ z * 128 ^ len := Nat.mul_le_mul_right _ h1
  omega
theorem next7 {z len m : Nat} (h : z * 128 ^ len ≤ m) : z / 128 * 128 ^ (len + 1) ≤ m := by
  have h1 : z / 128 * 128 ^ (len + 1) = (z / 128 * 128) * 128 ^ len := by rw [Nat.pow_succ, Nat.mul_comm (128 ^ len) 128, Nat.mul_assoc]
  have h2 : z / 128 * 128 ≤ z := Nat.div_mul_le_self z 128
  rw [h1]; exact Nat.le_trans (Nat.mul_le_mul_right _ h2) h
set_option maxHeartbeats 2000000 in
theorem rputInt_fn (F : Fz) (n : Int) : Fo Tryz.prog F 58 [.va (.int .i64 n)] (fun o F' => o = .ret (.tup [.va (.str (putIR n).1), .va (.int .i64 (putIR n).2)]) ∧ F' = F) := by
  have bad : n < -4611686018427387903 ∨ 4611686018427387903 < n → putIR n = ([], 10) := fun h => by rw [putIR, if_pos h]
  refine fo_of hΘ Tryz.func58 rfl (by decide) _ _ rfl rfl rfl ?_
  conv => whnf
  refine ⟨fun g => ?_, fun g => ?_⟩
  · have g1 : ¬ n < -4611686018427387903 := by simpa using g
    conv => whnf
    refine br (fun g => ?_) (fun g => ?_)
    · have g2 : 4611686018427387903 < n := by simpa using g
      conv => whnf
      exact endFo (.ret (.tup [.va (.str []), .va (.int .i64 10)])) F rfl (Fz.le_refl F) (Fz.le_refl F) ⟨by rw [bad (.inr g2)], rfl⟩ (outE_refl _) rfl
    · have g2 : ¬ 4611686018427387903 < n := by simpa using g
      have hb : -4611686018427387903 ≤ n ∧ n ≤ 4611686018427387903 := by omega
      have hz := zig_lt n hb
      have e : putIR n = (putZ (zig n), 0) := by rw [putIR, if_neg (by omega), putI]
      conv => whnf
      refine usePu (zigzag_pu n hb F) rfl (argsE_refl _) rfl ?_
      conv => whnf
      refine loop_at hΘ (X := { x : Nat × List UInt8 × Nat // x.1 < 9223372036854775808 ∧ putZ (zig n) = x.2.1 ++ putZ x.1 ∧ x.1 * 128 ^ x.2.1.length ≤ zig n ∧ x.2.1.length ≤ 10 }) (fun x => [(4, .va (.int .u64 x.1.1)), (5, .va (gA 1 1 x.1.2.2 x.1.2.1))]) [14, 15, 16, 17, 18, 19, 20, 21, 22, 23, 24]
        (fun x => [(0, .frz F), (1, gE 5 1 encB x.1.2.2 x.1.2.1)]) 2 (fun x => x.1.1) ⟨(zig n, [], 0), hz, rfl, by show zig n * 128 ^ 0 ≤ zig n; omega, by simp⟩
        (fun hH hT => leI [(1, 1)] hH hT rfl ⟨trivial, gE_below encB_plain _ _ _ _ _, trivial⟩ ⟨rfl, rfl, trivial⟩ ⟨Fz.le_refl F, rfl, trivial⟩) ?_
      rintro ⟨⟨z, out, c⟩, hz1, hz2, hz3, hz4⟩ hH hT
      replace hz4 : out.length ≤ 10 := hz4
      replace hz1 : z < 9223372036854775808 := hz1
      replace hz2 : putZ (zig n) = out ++ putZ z := hz2
      replace hz3 : z * 128 ^ out.length ≤ zig n := hz3
      conv => whnf
      refine br (fun gb => ?_) (fun gb => ?_)
      · have gz : ¬ z < 128 := by
          have h0 : (128 : Int) ≤ z := by simpa using gb
          omega
        clear gb
        have hlen := few7 (by omega) hz3 hz
        have hn3 : z / 128 * 128 ^ (out ++ [UInt8.ofNat (z % 128 + 128)]).length ≤ zig n := by rw [List.length_append]; exact next7 hz3
        have hn2 : putZ (zig n) = (out ++ [UInt8.ofNat (z % 128 + 128)]) ++ putZ (z / 128) := by rw [hz2, putZ_ge gz, List.append_assoc]; rfl
        have hb8 : SA.int .u8 (IntKind.u8.wrap (IntKind.u64.wrap ((z : Int).tmod 128 + 128))) = SA.int .u8 ((UInt8.ofNat (z % 128 + 128)).toNat : Int) := by
          have h1 : (z : Int).tmod 128 = ((z % 128 : Nat) : Int) := rfl
          rw [h1, wrapu64 (by omega) (by omega)]
          exact byte_eq (z % 128 + 128) (by omega)
        have hq : IntKind.u64.wrap ((z : Int).tdiv 128) = ((z / 128 : Nat) : Int) := by
          have h1 : (z : Int).tdiv 128 = ((z / 128 : Nat) : Int) := rfl
          rw [h1, wrapu64 (by omega) (by omega)]
        have hlo : ([] ++ [UInt8.ofNat (z % 128 + 128)] : List UInt8).length = 1 := rfl
        rcases out with _ | ⟨x, r⟩
        · conv => whnf
          refine ⟨by decide, ?_⟩
          conv => whnf
          refine ⟨Nat.le_of_ble_eq_true rfl, [encB (UInt8.ofNat (z % 128 + 128))], by show [[SA.int .u8 _]] = _; rw [hb8]; rfl, ?_⟩
          conv => whnf
          refine ⟨rfl, rfl, ?_⟩
          conv => whnf
          refine ⟨Nat.le_of_ble_eq_true rfl, fun c' hc => ?_⟩
          conv => whnf
          refine ⟨by decide, ?_⟩
          conv => whnf
          exact ⟨⟨(z / 128, [] ++ [UInt8.ofNat (z % 128 + 128)], c'), by show z / 128 < 9223372036854775808; omega, hn2, hn3, by simp <;> omega⟩, by show z / 128 < z; omega,
            leR [(1, 3)] hH hT rfl ⟨trivial, gE_below encB_plain _ _ _ _ _, trivial⟩ ⟨by show SA.int .u64 _ = SA.int .u64 _; rw [hq], gA_new (μ := sig [(1, 3)]) (i := 1) (j := 3) rfl 1 c' _ [] (UInt8.ofNat (z % 128 + 128)) rfl, trivial⟩ ⟨Fz.le_refl F, sub_gE encB_plain (gE_one [encB (UInt8.ofNat (z % 128 + 128))] rfl), trivial⟩⟩
        · replace hlen : r.length + 1 < 10 := hlen
          conv => whnf
          refine ⟨by decide, ?_⟩
          conv => whnf
          refine ⟨Nat.le_of_ble_eq_true rfl, [encB (UInt8.ofNat (z % 128 + 128))], by show [[SA.int .u8 _]] = _; rw [hb8]; rfl, ?_⟩
          conv => whnf
          refine ⟨rfl, rfl, by simp, rfl, by show (r.length + 1 + 1) * 1 ≤ 140737488355328; omega, fun c' hc => ?_⟩
          conv => whnf
          refine ⟨by decide, ?_⟩
          conv => whnf
          exact ⟨⟨(z / 128, (x :: r) ++ [UInt8.ofNat (z % 128 + 128)], c'), by show z / 128 < 9223372036854775808; omega, hn2, hn3, by simp <;> omega⟩, by show z / 128 < z; omega,
            leR [(1, 3)] hH hT rfl ⟨trivial, gE_below encB_plain _ _ _ _ _, trivial⟩ ⟨by show SA.int .u64 _ = SA.int .u64 _; rw [hq], gA_new (μ := sig [(1, 3)]) (i := 1) (j := 3) rfl 1 c' _ (x :: r) (UInt8.ofNat (z % 128 + 128)) rfl, trivial⟩ ⟨Fz.le_refl F, sub_gE encB_plain (gE_one _ (by simp)), trivial⟩⟩
      · have gz : z < 128 := by
          have h0 : ¬ (128 : Int) ≤ z := by simpa using gb
          omega
        clear gb
        rw [putZ_lt gz] at hz2
        rcases out with _ | ⟨x, r⟩
        · skip
          conv => whnf
          refine ⟨Nat.le_of_ble_eq_true rfl, [encB (UInt8.ofNat z)], by show [[SA.int .u8 _]] = _; rw [byte_eq z (by omega)]; rfl, ?_⟩
          conv => whnf
          refine ⟨rfl, rfl, ?_⟩
          conv => whnf
          refine ⟨Nat.le_of_ble_eq_true rfl, fun c' hc => ?_⟩
          conv => whnf
          refine ⟨Nat.le_of_ble_eq_true rfl, _, rfl, [UInt8.ofNat z], rfl, ?_⟩
          conv => whnf
          exact endFo (.ret (.tup [.va (.str ([] ++ [UInt8.ofNat z])), .va (.int .i64 0)])) F rfl (Fz.le_refl F) (Fz.le_refl F) ⟨by rw [e, hz2], rfl⟩ (outE_refl _) rfl
        · replace hz4 : r.length + 1 ≤ 10 := hz4
          conv => whnf
          refine ⟨Nat.le_of_ble_eq_true rfl, [encB (UInt8.ofNat z)], by show [[SA.int .u8 _]] = _; rw [byte_eq z (by omega)]; rfl, ?_⟩
          conv => whnf
          refine ⟨rfl, rfl, by simp, rfl, by show (r.length + 1 + 1) * 1 ≤ 140737488355328; omega, fun c' hc => ?_⟩
          conv => whnf
          refine ⟨by show 0 + (r.length + 1 + 1) ≤ (((x :: r).map encB) ++ [encB (UInt8.ofNat z)]).length; simp, ((x :: r) ++ [UInt8.ofNat z]).map encB, by show ((((x :: r).map encB) ++ [encB (UInt8.ofNat z)]).drop 0).take (r.length + 1 + 1) = _; rw [List.drop_zero, List.take_of_length_le (by simp)]; simp, (x :: r) ++ [UInt8.ofNat z], rfl, ?_⟩
          conv => whnf
          exact endFo (.ret (.tup [.va (.str ((x :: r) ++ [UInt8.ofNat z])), .va (.int .i64 0)])) F rfl (Fz.le_refl F) (Fz.le_refl F) ⟨by rw [e, hz2], rfl⟩ (outE_refl _) rfl
  · have g1 : n < -4611686018427387903 := by simpa using g
    conv => whnf
    exact endFo (.ret (.tup [.va (.str []), .va (.int .i64 10)])) F rfl (Fz.le_refl F) (Fz.le_refl F) ⟨by rw [bad (.inl g1)], rfl⟩ (outE_refl _) rfl
theorem putZ_len : ∀ (k z : Nat), z < 128 ^ (k + 1) → (putZ z).length ≤ k + 1
  | 0, z, h => by rw [putZ_lt (by simpa using h)]; simp
  | k + 1, z, h => by
    by_cases hz : z < 128
    · rw [putZ_lt hz]; simp
    · rw [putZ_ge hz, List.length_cons]
      have := putZ_len k (z / 128) (by rw [Nat.div_lt_iff_lt_mul (by omega), ← Nat.pow_succ]; exact h)
      omega
theorem putI_len (n : Int) (h : -4611686018427387903 ≤ n ∧ n ≤ 4611686018427387903) : (putI n).length ≤ 9 :=
  putZ_len 8 _ (Nat.lt_of_lt_of_le (zig_lt n h) (by decide))
theorem putIR_len (n : Int) : (putIR n).1.length ≤ 9 := by
  unfold putIR; split
  · simp
  · exact putI_len n (by omega)
theorem rputString_fn (F : Fz) (s : List UInt8) (hs : s.length ≤ 9000000000000000000) : Fo Tryz.prog F 36 [.va (.str s)] (fun o F' => o = .ret (.tup [.va (.str (putSR s).1), .va (.int .i64 (putSR s).2)]) ∧ F' = F) := by
  refine fo_of hΘ Tryz.func36 rfl (by decide) _ _ rfl rfl rfl ?_
  conv => whnf
  refine br (fun g => ?_) (fun g => ?_)
  · have g1 : 65536 < s.length := by have h0 : (65536 : Int) < s.length := (by simpa using g); omega
    conv => whnf
    exact endFo (.ret (.tup [.va (.str []), .va (.int .i64 10)])) F rfl (Fz.le_refl F) (Fz.le_refl F) ⟨by rw [putSR, if_pos g1], rfl⟩ (outE_refl _) rfl
  · have g1 : ¬ 65536 < s.length := by have h0 : ¬ (65536 : Int) < s.length := (by simpa using g); omega
    have e1 : putIR s.length = (putI s.length, 0) := by rw [putIR, if_neg (by omega)]
    have e2 : putSR s = (putI s.length ++ s, 0) := by rw [putSR, if_neg g1]
    conv => whnf
    refine usePu (rputInt_fn F s.length) rfl (argsE_refl _) rfl ?_
    conv => whnf
    have hl := putIR_len s.length
    refine ⟨by omega, ?_⟩
    conv => whnf
    exact endFo (.ret (.tup [.va (.str ((putIR s.length).1 ++ s)), .va (.int .i64 0)])) F rfl (Fz.le_refl F) (Fz.le_refl F) ⟨by rw [e2, e1], rfl⟩ (outE_refl _) rfl
def numbersS (l : List Int) : List UInt8 := (l.map fun n => (putIR n).1).flatten
def encS (s : List UInt8) : List SA := [.str s]
abbrev StrsAt (F : Fz) (a : SA) (l : List (List UInt8)) : Prop := Sl F 9 1 encS a l
def textS (l : List (List UInt8)) : List UInt8 := (putIR l.length).1 ++ (l.map fun s => (putSR s).1).flatten
theorem map_take_succ {α β : Type} {f : α → List β} {l : List α} {k : Nat} (g : k < l.length) : ((l.take (k + 1)).map f).flatten = ((l.take k).map f).flatten ++ f l[k] := by
  rw [List.take_succ_eq_append_getElem g, List.map_append, List.flatten_append]; simp
theorem flat_len {α β : Type} {f : α → List β} {m : Nat} (h : ∀ x, (f x).length ≤ m) : ∀ l : List α, (l.map f).flatten.length ≤ m * l.length
  | [] => by simp
  | x :: r => by
    have := flat_len h r
    have := h x
    simp only [List.map_cons, List.flatten_cons, List.length_append, List.length_cons, Nat.mul_add]; omega
theorem putSR_len (s : List UInt8) : (putSR s).1.length ≤ 65545 := by
  unfold putSR; split
  · simp
  · have := putI_len s.length (by omega)
    rw [List.length_append]; omega
set_option maxHeartbeats 1000000 in
theorem numbers_fn (F : Fz) (sa : SA) (l : List Int) (ha : IntsAt F sa l) (hl : l.length < 1000000) :
    Fo Tryz.prog F 35 [.va sa] (fun o F' => o = .ret (.va (.str (numbersS l))) ∧ F' = F) := by
  obtain ⟨han, hab, hae, hac, haL, har, rfl, ha1, ha2, ha3, ha4⟩ := ha
  refine fo_of hΘ Tryz.func35 rfl (by decide) _ _ rfl rfl rfl ?_
  conv => whnf
  refine loop_at hΘ (X := { k : Nat // k ≤ l.length }) (fun k => [(3, .va (.str (((l.take k.1).map fun n => (putIR n).1).flatten))), (4, .va (.int .i64 k.1))]) [5, 6, 7, 8, 9, 10, 11, 12, 13, 14, 15, 16, 17, 18, 19, 20, 21, 22, 23] (fz fun _ => F) 1 (fun k => l.length - k.1) ⟨0, by simp⟩
    (fun hH hT => le0 hH hT rfl (Fz.le_refl F) rfl ⟨rfl, rfl, trivial⟩) ?_
  rintro ⟨k, hk⟩ hH hT
  conv => whnf
  refine br (fun g => ?_) (fun g => ?_)
  · have g : k < l.length := by simpa using g
    have h9 := flat_len putIR_len (l.take k)
    have h8 := putIR_len l[k]
    rw [List.length_take] at h9
    conv => whnf
    refine ⟨Sl.lt ha1 g, ⟨by simp, by simpa using g⟩, ?_⟩
    conv => whnf
    refine ⟨_, ha2 (Sl.lt ha1 g), ?_⟩
    conv => whnf
    refine ⟨_, Sl.at ha4 g, ?_⟩
    conv => whnf
    refine usePu (rputInt_fn F l[k]) rfl (argsE_refl _) rfl ?_
    conv => whnf
    refine ⟨by dsimp only; omega, ?_⟩
    conv => whnf
    refine ⟨⟨k + 1, by omega⟩, by show l.length - (k + 1) < l.length - k; omega, lr0 hH hT rfl (Fz.le_refl F) rfl ⟨?_, cnt (by omega), trivial⟩⟩
    exact congrArg SA.str (map_take_succ g)
  · have g : ¬ k < l.length := by simpa using g
    conv => whnf
    refine endPu rfl (Fz.le_refl F) ?_ rfl
    show SA.str (numbersS l) = SA.str ((l.take k).map fun n => (putIR n).1).flatten
    rw [numbersS, List.take_of_length_le (by omega)]
set_option maxHeartbeats 1000000 in
theorem text_fn (F : Fz) (sa : SA) (l : List (List UInt8)) (ha : StrsAt F sa l) (hl : l.length < 1000000) (hs : ∀ s ∈ l, s.length ≤ 9000000000000000000) :
    Fo Tryz.prog F 34 [.va sa] (fun o F' => o = .ret (.va (.str (textS l))) ∧ F' = F) := by
  have hp9 := putIR_len l.length
  obtain ⟨han, hab, hae, hac, haL, har, rfl, ha1, ha2, ha3, ha4⟩ := ha
  refine fo_of hΘ Tryz.func34 rfl (by decide) _ _ rfl rfl rfl ?_
  conv => whnf
  refine usePu (rputInt_fn F l.length) rfl (argsE_refl _) rfl ?_
  conv => whnf
  refine loop_at hΘ (X := { k : Nat // k ≤ l.length }) (fun k => [(3, .va (.str ((putIR l.length).1 ++ (((l.take k.1).map fun s => (putSR s).1).flatten)))), (5, .va (.int .i64 k.1))]) [6, 7, 14, 15, 16, 17, 18, 19, 20, 21, 22, 23, 24, 25, 26, 27, 28, 29, 30] (fz fun _ => F) 1 (fun k => l.length - k.1) ⟨0, by simp⟩
    (fun hH hT => le0 hH hT rfl (Fz.le_refl F) rfl ⟨congrArg SA.str (by simp), rfl, trivial⟩) ?_
  rintro ⟨k, hk⟩ hH hT
  conv => whnf
  refine br (fun g => ?_) (fun g => ?_)
  · have g : k < l.length := by simpa using g
    have h9 := flat_len putSR_len (l.take k)
    have h8 := putSR_len l[k]
    rw [List.length_take] at h9
    conv => whnf
    refine ⟨Sl.lt ha1 g, ⟨by simp, by simpa using g⟩, ?_⟩
    conv => whnf
    refine ⟨_, ha2 (Sl.lt ha1 g), ?_⟩
    conv => whnf
    refine ⟨_, Sl.at ha4 g, ?_⟩
    conv => whnf
    refine usePu (rputString_fn F l[k] (hs _ (List.getElem_mem g))) rfl (argsE_refl _) rfl ?_
    conv => whnf
    refine ⟨by dsimp only; rw [List.length_append]; omega, ?_⟩
    conv => whnf
    refine ⟨⟨k + 1, by omega⟩, by show l.length - (k + 1) < l.length - k; omega, lr0 hH hT rfl (Fz.le_refl F) rfl ⟨?_, cnt (by omega), trivial⟩⟩
    exact congrArg SA.str (by rw [List.append_assoc, ← map_take_succ g])
  · have g : ¬ k < l.length := by simpa using g
    conv => whnf
    refine endPu rfl (Fz.le_refl F) ?_ rfl
    show SA.str (textS l) = SA.str ((putIR l.length).1 ++ ((l.take k).map fun s => (putSR s).1).flatten)
    rw [textS, List.take_of_length_le (by omega)]
end Go.Proofs.YtblllibdahkgfaaGreatDoor

namespace Go.Proofs.YtblllibdahkgfaaGreatDoor
open Go Sx
set_option maxRecDepth 100000
def decZ : List UInt8 → Nat → Nat → Nat → Option (Nat × Nat × UInt8)
  | _, 0, _, _ => none
  | [], _ + 1, _, _ => none
  | b :: r, f + 1, i, z => if 128 ≤ b.toNat then decZ r f (i + 1) (z + b.toNat % 128 * 128 ^ i) else some (z + b.toNat * 128 ^ i, i, b)
def unz (z : Nat) : Int := if z % 2 = 1 then -((z / 2 : Nat) : Int) - 1 else ((z / 2 : Nat) : Int)
def getI (s : List UInt8) (at_ : Int) : Int × Int × Int :=
  if at_ < 0 ∨ (s.length : Int) < at_ then (0, 0, 2) else
  match decZ (s.drop at_.toNat) 9 0 0 with
  | none => (0, 0, 10)
  | some (z, i, b) => if (b = 0 ∧ 0 < i) ∨ unz z < -4611686018427387903 then (0, 0, 10) else (unz z, at_ + i + 1, 0)
theorem and127 (b : UInt8) : bAnd .u8 (b.toNat : Int) 127 = ((b.toNat % 128 : Nat) : Int) := by
  have hb := b.toNat_lt
  have h1 : (BitVec.ofInt IntKind.u8.bits (b.toNat : Int) &&& BitVec.ofInt IntKind.u8.bits 127).toNat = b.toNat % 128 := by
    show (BitVec.ofInt 8 (b.toNat : Int) &&& BitVec.ofInt 8 127).toNat = _
    rw [BitVec.toNat_and, BitVec.ofInt_natCast, BitVec.toNat_ofNat]
    show b.toNat % 256 &&& 127 = _
    rw [Nat.mod_eq_of_lt hb]
    exact Nat.and_two_pow_sub_one_eq_mod b.toNat 7
  rw [bAnd, h1, wrapu8 (by omega) (by omega)]
theorem or_lt {z m i : Nat} (hz : z < 128 ^ i) : z ||| (m * 128 ^ i) = z + m * 128 ^ i := by
  have e : 128 ^ i = 2 ^ (7 * i) := by rw [Nat.pow_mul]
  rw [e] at hz ⊢
  have := Nat.two_pow_add_eq_or_of_lt hz m
  rw [Nat.mul_comm m, Nat.or_comm, ← this, Nat.add_comm]
theorem pow9 {i : Nat} (h : i ≤ 8) : 128 ^ i ≤ 72057594037927936 := by
  have : 128 ^ i ≤ 128 ^ 8 := Nat.pow_le_pow_right (by omega) h
  exact this
theorem shl7 (m i : Nat) (hm : m < 128) (hi : i ≤ 8) : shlI .u64 (m : Int) (IntKind.i64.wrap (7 * (i : Int))) = ((m * 128 ^ i : Nat) : Int) := by
  have hp := pow9 hi
  have h1 : m * 128 ^ i ≤ 127 * 72057594037927936 := Nat.mul_le_mul (by omega) hp
  have e : (IntKind.i64.wrap (7 * (i : Int))).toNat = 7 * i := by rw [wrap64_id (by omega) (by omega)]; omega
  rw [shlI, e, Nat.min_eq_left (show 7 * i ≤ IntKind.u64.bits by show 7 * i ≤ 64; omega)]
  have e2 : (m : Int) * 2 ^ (7 * i) = ((m * 128 ^ i : Nat) : Int) := by
    rw [show (128 : Nat) ^ i = 2 ^ (7 * i) by rw [Nat.pow_mul]]; simp
  rw [e2, wrapu64 (by omega) (by omega)]
theorem or7 {z m i : Nat} (hz : z < 128 ^ i) (hm : m < 128) (hi : i ≤ 8) : bOr .u64 (z : Int) ((m * 128 ^ i : Nat) : Int) = ((z + m * 128 ^ i : Nat) : Int) := by
  have hp := pow9 hi
  have h1 : m * 128 ^ i ≤ 127 * 72057594037927936 := Nat.mul_le_mul (by omega) hp
  have h2 : (BitVec.ofInt IntKind.u64.bits (z : Int) ||| BitVec.ofInt IntKind.u64.bits ((m * 128 ^ i : Nat) : Int)).toNat = z + m * 128 ^ i := by
    show (BitVec.ofInt 64 (z : Int) ||| BitVec.ofInt 64 ((m * 128 ^ i : Nat) : Int)).toNat = _
    rw [BitVec.toNat_or, BitVec.ofInt_natCast, BitVec.ofInt_natCast, BitVec.toNat_ofNat, BitVec.toNat_ofNat, Nat.mod_eq_of_lt (by omega), Nat.mod_eq_of_lt (by omega)]
    exact or_lt hz
  rw [bOr, h2, wrapu64 (by omega) (by omega)]
theorem acc7 {z i : Nat} (b : UInt8) (hz : z < 128 ^ i) (hi : i ≤ 8) : bOr .u64 (z : Int) (shlI .u64 (IntKind.u64.wrap (bAnd .u8 (b.toNat : Int) 127)) (IntKind.i64.wrap (7 * (i : Int)))) = ((z + b.toNat % 128 * 128 ^ i : Nat) : Int) := by
  have hm : b.toNat % 128 < 128 := Nat.mod_lt _ (by omega)
  rw [and127, wrapu64 (by omega) (by omega), shl7 _ _ hm hi, or7 hz hm hi]
theorem acc_lt {z i m : Nat} (hz : z < 128 ^ i) (hm : m < 128) : z + m * 128 ^ i < 128 ^ (i + 1) := by
  rw [Nat.pow_succ]
  have : m * 128 ^ i ≤ 127 * 128 ^ i := Nat.mul_le_mul_right _ (by omega)
  omega
theorem and1 (z : Nat) (h : z < 18446744073709551616) : bAnd .u64 (z : Int) 1 = ((z % 2 : Nat) : Int) := by
  have h1 : (BitVec.ofInt IntKind.u64.bits (z : Int) &&& BitVec.ofInt IntKind.u64.bits 1).toNat = z % 2 := by
    show (BitVec.ofInt 64 (z : Int) &&& BitVec.ofInt 64 1).toNat = _
    rw [BitVec.toNat_and, BitVec.ofInt_natCast, BitVec.toNat_ofNat, Nat.mod_eq_of_lt h]
    exact Nat.and_one_is_mod z
  rw [bAnd, h1, wrapu64 (by omega) (by omega)]
theorem unz_eq (z : Nat) (h : z < 9223372036854775808) : bXor .i64 (IntKind.i64.wrap (shrI .u64 (z : Int) 1)) (IntKind.i64.wrap (0 - IntKind.i64.wrap (bAnd .u64 (z : Int) 1))) = unz z := by
  have e1 : shrI .u64 (z : Int) 1 = ((z / 2 : Nat) : Int) := by
    show (z : Int).fdiv (2 ^ 1) = _
    rw [Int.fdiv_eq_ediv_of_nonneg _ (by decide)]; rfl
  rw [e1, and1 z (by omega), wrap64_id (n := ((z / 2 : Nat) : Int)) (by omega) (by omega), wrap64_id (n := ((z % 2 : Nat) : Int)) (by omega) (by omega), wrap64_id (n := 0 - _) (by omega) (by omega)]
  by_cases ho : z % 2 = 1
  · rw [ho, unz, if_pos ho]
    have h2 : (BitVec.ofInt IntKind.i64.bits ((z / 2 : Nat) : Int) ^^^ BitVec.ofInt IntKind.i64.bits (0 - ((1 : Nat) : Int))).toNat = 18446744073709551615 - z / 2 := by
      show (BitVec.ofInt 64 ((z / 2 : Nat) : Int) ^^^ BitVec.ofInt 64 (0 - ((1 : Nat) : Int))).toNat = _
      have : BitVec.ofInt 64 (0 - ((1 : Nat) : Int)) = BitVec.allOnes 64 := by decide
      rw [this, BitVec.xor_allOnes, BitVec.toNat_not, BitVec.ofInt_natCast, BitVec.toNat_ofNat, Nat.mod_eq_of_lt (by omega)]
    rw [bXor, h2, IntKind.wrap_i64]; omega
  · have h0 : z % 2 = 0 := by omega
    rw [h0, unz, if_neg ho]
    have h2 : (BitVec.ofInt IntKind.i64.bits ((z / 2 : Nat) : Int) ^^^ BitVec.ofInt IntKind.i64.bits (0 - ((0 : Nat) : Int))).toNat = z / 2 := by
      show (BitVec.ofInt 64 ((z / 2 : Nat) : Int) ^^^ BitVec.ofInt 64 (0 - ((0 : Nat) : Int))).toNat = _
      have : BitVec.ofInt 64 (0 - ((0 : Nat) : Int)) = 0#64 := by decide
      rw [this, BitVec.xor_zero, BitVec.ofInt_natCast, BitVec.toNat_ofNat, Nat.mod_eq_of_lt (by omega)]
    rw [bXor, h2, wrap64_id (by omega) (by omega)]
end Go.Proofs.YtblllibdahkgfaaGreatDoor

namespace Go.Proofs.YtblllibdahkgfaaGreatDoor
open Go Sx
set_option maxRecDepth 100000
theorem decZ_stop {f i z : Nat} : decZ [] f i z = none := by cases f <;> rfl
theorem drop_at {s : List UInt8} {k : Nat} (h : k < s.length) : s.drop k = s[k] :: s.drop (k + 1) := List.drop_eq_getElem_cons h
set_option maxHeartbeats 4000000 in
theorem int_fn (F : Fz) (s : List UInt8) (p : Int) (hs : s.length ≤ 1000000000000000000) (hp : i64 p) :
    Fo Tryz.prog F 98 [.va (.str s), .va (.int .i64 p)] (fun o F' => o = .ret (.tup [.va (.int .i64 (getI s p).1), .va (.int .i64 (getI s p).2.1), .va (.int .i64 (getI s p).2.2)]) ∧ F' = F) := by
  have fin : ∀ (n x e : Int) (h : Hp) (nx : Nat), getI s p = (n, x, e) → lget h 0 = some (.frz F) →
      Cln 1 (FoK F fun o F' => o = .ret (.tup [.va (.int .i64 (getI s p).1), .va (.int .i64 (getI s p).2.1), .va (.int .i64 (getI s p).2.2)]) ∧ F' = F) (.ret (.tup [.va (.int .i64 n), .va (.int .i64 x), .va (.int .i64 e)])) h nx := by
    intro n x e h nx hv h0
    exact endFo (.ret (.tup [.va (.int .i64 n), .va (.int .i64 x), .va (.int .i64 e)])) F h0 (Fz.le_refl F) (Fz.le_refl F) ⟨by rw [hv], rfl⟩ (outE_refl _) rfl
  refine fo_of hΘ Tryz.func98 rfl (by decide) _ _ rfl rfl rfl ?_
  conv => whnf
  refine ⟨fun g => ?_, fun g => ?_⟩
  · have g1 : ¬ p < 0 := by simpa using g
    conv => whnf
    refine br (fun g => ?_) (fun g => ?_)
    · have g2 : (s.length : Int) < p := by simpa using g
      conv => whnf
      exact fin 0 0 2 _ _ (by rw [getI, if_pos (.inr g2)]) rfl
    · have g2 : ¬ (s.length : Int) < p := by simpa using g
      have hex : ∃ a : Nat, p = a ∧ a ≤ s.length := ⟨p.toNat, by omega, by omega⟩
      obtain ⟨a, ea, hal⟩ := hex
      subst ea
      have hg : getI s a = match decZ (s.drop a) 9 0 0 with
        | none => (0, 0, 10)
        | some (z, i, b) => if (b = 0 ∧ 0 < i) ∨ unz z < -4611686018427387903 then (0, 0, 10) else (unz z, a + i + 1, 0) := by
        rw [getI, if_neg (by omega)]; rfl
      have hno : decZ (s.drop a) 9 0 0 = none → getI s a = (0, 0, 10) := fun h => by rw [hg, h]
      conv => whnf
      refine loop_at hΘ (X := { x : Nat × Nat // x.1 ≤ 9 ∧ x.2 < 128 ^ x.1 ∧ decZ (s.drop a) 9 0 0 = decZ (s.drop (a + x.1)) (9 - x.1) x.1 x.2 }) (fun x => [(7, .va (.int .u64 x.1.2)), (19, .va (.int .i64 x.1.1))]) [4, 5, 6, 8, 9, 10, 20, 21, 22, 23, 24, 25, 26, 27, 28, 29, 30, 31, 32, 33, 34, 35, 36, 37, 38, 39, 40, 41, 42, 43, 44, 45, 46, 47, 48, 49, 50, 51, 52, 53, 54, 55, 56, 57, 58, 59, 60, 61, 62, 63, 64, 65, 66] (fz fun _ => F) 1 (fun x => 9 - x.1.1) ⟨(0, 0), by simp⟩
        (fun hH hT => le0 hH hT rfl (Fz.le_refl F) rfl ⟨rfl, rfl, trivial⟩) ?_
      rintro ⟨⟨i, z⟩, hi, hz, hd⟩ hH hT
      replace hi : i ≤ 9 := hi
      replace hz : z < 128 ^ i := hz
      replace hd : decZ (s.drop a) 9 0 0 = decZ (s.drop (a + i)) (9 - i) i z := hd
      conv => whnf
      refine br (fun gb => ?_) (fun gb => ?_)
      · have gi : i < 9 := by
          have h0 : (i : Int) < 9 := by simpa using gb
          omega
        clear gb
        have ew : IntKind.i64.wrap ((a : Int) + i) = ((a + i : Nat) : Int) := by rw [wrap64_id (by omega) (by omega)]; rfl
        have h9 : 9 - i = (9 - (i + 1)) + 1 := by omega
        conv => whnf
        refine br (fun gc => ?_) (fun gc => ?_)
        · have gl : s.length ≤ a + i := by
            have h0 : (s.length : Int) ≤ IntKind.i64.wrap ((a : Int) + i) := by simpa using gc
            rw [ew] at h0; omega
          conv => whnf
          exact fin 0 0 10 _ _ (hno (by rw [hd, List.drop_of_length_le gl, decZ_stop])) rfl
        · have gl : a + i < s.length := by
            have h0 : ¬ (s.length : Int) ≤ IntKind.i64.wrap ((a : Int) + i) := by simpa using gc
            rw [ew] at h0; omega
          clear gc
          have hd2 := hd
          rw [drop_at gl, h9, decZ] at hd2
          have hacc := acc7 s[a + i] hz (by omega)
          have hm : s[a + i].toNat % 128 < 128 := Nat.mod_lt _ (by omega)
          have hlt := acc_lt hz hm
          conv => whnf
          refine ⟨by dsimp only; rw [ew]; omega, s[a + i], by dsimp only; rw [ew, Int.toNat_natCast, List.getElem?_eq_getElem gl], ?_⟩
          conv => whnf
          refine ⟨by dsimp only; rw [wrap64_id (by omega) (by omega)]; omega, ?_⟩
          conv => whnf
          refine br (fun gd => ?_) (fun gd => ?_)
          · have g128 : 128 ≤ s[a + i].toNat := by
              have h0 : (128 : Int) ≤ s[a + i].toNat := by simpa using gd
              omega
            clear gd
            rw [if_pos g128] at hd2
            conv => whnf
            refine ⟨⟨(i + 1, z + s[a + i].toNat % 128 * 128 ^ i), by show i + 1 ≤ 9; omega, hlt, hd2⟩, by show 9 - (i + 1) < 9 - i; omega, lr0 hH hT rfl (Fz.le_refl F) rfl ⟨?_, cnt (by omega), trivial⟩⟩
            exact congrArg (SA.int .u64) hacc.symm
          · have g128 : ¬ 128 ≤ s[a + i].toNat := by
              have h0 : ¬ (128 : Int) ≤ s[a + i].toNat := by simpa using gd
              omega
            clear gd
            rw [if_neg g128] at hd2
            have hmm : s[a + i].toNat % 128 = s[a + i].toNat := Nat.mod_eq_of_lt (by omega)
            rw [hmm] at hacc hlt
            have hp9 : 128 ^ (i + 1) ≤ 9223372036854775808 := by
              have : 128 ^ (i + 1) ≤ 128 ^ 9 := Nat.pow_le_pow_right (by omega) (by omega)
              exact this
            have hu := unz_eq (z + s[a + i].toNat * 128 ^ i) (by omega)
            rw [← hacc] at hu
            have hfin : getI s a = if (s[a + i] = 0 ∧ 0 < i) ∨ unz (z + s[a + i].toNat * 128 ^ i) < -4611686018427387903 then (0, 0, 10) else (unz (z + s[a + i].toNat * 128 ^ i), (a : Int) + i + 1, 0) := by rw [hg, hd2]
            have e2 : IntKind.i64.wrap (IntKind.i64.wrap ((a : Int) + i) + 1) = (a : Int) + i + 1 := by rw [ew, wrap64_id (by omega) (by omega)]; omega
            have bz : (s[a + i].toNat : Int) = 0 ↔ s[a + i] = 0 := by
              constructor
              · intro h; exact UInt8.toNat_inj.1 (by simpa using h)
              · intro h; rw [h]; rfl
            conv => whnf
            refine ⟨by decide, ?_⟩
            conv => whnf
            refine ⟨fun gz => ?_, fun gz => ?_⟩
            · have gz' : s[a + i] = 0 := bz.1 (of_decide_eq_true gz)
              conv => whnf
              refine ⟨fun gp => ?_, fun gp => ?_⟩
              · have nz : ¬ (s[a + i] = 0 ∧ 0 < i) := fun h => by
                  have h0 : ¬ (0 : Int) < i := of_decide_eq_false gp
                  omega
                conv => whnf
                refine br (fun gn => ?_) (fun gn => ?_)
                · have gn' : unz (z + s[a + i].toNat * 128 ^ i) < -4611686018427387903 := by
                    have h0 := of_decide_eq_true gn
                    rw [← hu]; exact h0
                  conv => whnf
                  exact fin 0 0 10 _ _ (by rw [hfin, if_pos (.inr gn')]) rfl
                · have gn' : ¬ unz (z + s[a + i].toNat * 128 ^ i) < -4611686018427387903 := by
                    have h0 := of_decide_eq_false gn
                    rw [← hu]; exact h0
                  conv => whnf
                  exact fin _ _ 0 _ _ (by rw [hfin, if_neg (by rintro (h | h); exact nz h; exact gn' h), ← hu, ← e2]) rfl
              · have nz : s[a + i] = 0 ∧ 0 < i := ⟨gz', by
                  have h0 : (0 : Int) < i := of_decide_eq_true gp
                  omega⟩
                conv => whnf
                exact fin 0 0 10 _ _ (by rw [hfin, if_pos (.inl nz)]) rfl
            · have nz : ¬ (s[a + i] = 0 ∧ 0 < i) := fun h => of_decide_eq_false gz (bz.2 h.1)
              conv => whnf
              refine br (fun gn => ?_) (fun gn => ?_)
              · have gn' : unz (z + s[a + i].toNat * 128 ^ i) < -4611686018427387903 := by
                  have h0 := of_decide_eq_true gn
                  rw [← hu]; exact h0
                conv => whnf
                exact fin 0 0 10 _ _ (by rw [hfin, if_pos (.inr gn')]) rfl
              · have gn' : ¬ unz (z + s[a + i].toNat * 128 ^ i) < -4611686018427387903 := by
                  have h0 := of_decide_eq_false gn
                  rw [← hu]; exact h0
                conv => whnf
                exact fin _ _ 0 _ _ (by rw [hfin, if_neg (by rintro (h | h); exact nz h; exact gn' h), ← hu, ← e2]) rfl
      · have gi : i = 9 := by
          have h0 : ¬ (i : Int) < 9 := by simpa using gb
          omega
        subst gi
        conv => whnf
        exact fin 0 0 10 _ _ (hno (by rw [hd]; cases s.drop (a + 9) <;> rfl)) rfl
  · have g1 : p < 0 := by simpa using g
    conv => whnf
    exact fin 0 0 2 _ _ (by rw [getI, if_pos (.inl g1)]) rfl
end Go.Proofs.YtblllibdahkgfaaGreatDoor

namespace Go.Proofs.YtblllibdahkgfaaGreatDoor
open Go Sx
set_option maxRecDepth 100000
theorem decZ_some : ∀ (l : List UInt8) (f i z : Nat) {z' i' : Nat} {b : UInt8}, decZ l f i z = some (z', i', b) → i ≤ i' ∧ i' - i < l.length ∧ i' < i + f ∧ l[i' - i]? = some b
  | _, 0, _, _, _, _, _, h => by simp [decZ] at h
  | [], _ + 1, _, _, _, _, _, h => by simp [decZ] at h
  | b :: r, f + 1, i, z, z', i', b', h => by
    rw [decZ] at h
    split at h
    · obtain ⟨h1, h2, h3, h4⟩ := decZ_some r f (i + 1) _ h
      refine ⟨by omega, by simp; omega, by omega, ?_⟩
      have : i' - i = (i' - (i + 1)) + 1 := by omega
      rw [this, List.getElem?_cons_succ]; exact h4
    · simp only [Option.some.injEq, Prod.mk.injEq] at h
      obtain ⟨_, h2, h3⟩ := h
      subst h2; subst h3
      exact ⟨Nat.le_refl _, by simp, by omega, by simp⟩
theorem decZ_lt : ∀ (l : List UInt8) (f i z : Nat) {z' i' : Nat} {b : UInt8}, decZ l f i z = some (z', i', b) → z < 128 ^ i → z' < 128 ^ (i' + 1)
  | _, 0, _, _, _, _, _, h, _ => by simp [decZ] at h
  | [], _ + 1, _, _, _, _, _, h, _ => by simp [decZ] at h
  | b :: r, f + 1, i, z, z', i', b', h, hz => by
    rw [decZ] at h
    split at h
    · exact decZ_lt r f (i + 1) _ h (acc_lt hz (Nat.mod_lt _ (by omega)))
    · rename_i hb
      simp only [Option.some.injEq, Prod.mk.injEq] at h
      obtain ⟨h1, h2, _⟩ := h
      subst h1; subst h2
      exact acc_lt hz (by omega)
theorem getI_ok {s : List UInt8} {p : Int} (h : (getI s p).2.2 = 0) : 0 ≤ p ∧ p < (getI s p).2.1 ∧ (getI s p).2.1 ≤ s.length ∧ -4611686018427387903 ≤ (getI s p).1 ∧ (getI s p).1 ≤ 4611686018427387903 := by
  rw [getI] at h ⊢
  split at h
  · simp at h
  · rename_i hb
    rw [if_neg hb]
    split at h
    · simp at h
    · rename_i z i b hd
      split at h
      · simp at h
      · rename_i hn
        simp only [if_neg hn]
        obtain ⟨h1, h2, h3, h4⟩ := decZ_some _ _ _ _ hd
        have h5 := decZ_lt _ _ _ _ hd (by simp)
        have h6 : 128 ^ (i + 1) ≤ 128 ^ 9 := Nat.pow_le_pow_right (by omega) (by omega)
        have h7 : (128 : Nat) ^ 9 = 9223372036854775808 := by decide
        rw [List.length_drop] at h2
        refine ⟨by omega, by omega, by omega, by omega, ?_⟩
        unfold unz; split <;> omega
def getS (s : List UInt8) (p : Int) : List UInt8 × Int × Int :=
  if (getI s p).2.2 ≠ 0 then ([], 0, (getI s p).2.2) else
  if (getI s p).1 < 0 ∨ 65536 < (getI s p).1 ∨ (s.length : Int) - (getI s p).2.1 < (getI s p).1 then ([], 0, 10) else
  ((s.take ((getI s p).2.1 + (getI s p).1).toNat).drop (getI s p).2.1.toNat, (getI s p).2.1 + (getI s p).1, 0)
set_option maxHeartbeats 4000000 in
theorem string_fn (F : Fz) (s : List UInt8) (p : Int) (hs : s.length ≤ 1000000000000000000) (hp : i64 p) :
    Fo Tryz.prog F 99 [.va (.str s), .va (.int .i64 p)] (fun o F' => o = .ret (.tup [.va (.str (getS s p).1), .va (.int .i64 (getS s p).2.1), .va (.int .i64 (getS s p).2.2)]) ∧ F' = F) := by
  have fin : ∀ (n : List UInt8) (x e : Int) (h : Hp) (nx : Nat), getS s p = (n, x, e) → lget h 0 = some (.frz F) →
      Cln 1 (FoK F fun o F' => o = .ret (.tup [.va (.str (getS s p).1), .va (.int .i64 (getS s p).2.1), .va (.int .i64 (getS s p).2.2)]) ∧ F' = F) (.ret (.tup [.va (.str n), .va (.int .i64 x), .va (.int .i64 e)])) h nx := by
    intro n x e h nx hv h0
    exact endFo (.ret (.tup [.va (.str n), .va (.int .i64 x), .va (.int .i64 e)])) F h0 (Fz.le_refl F) (Fz.le_refl F) ⟨by rw [hv], rfl⟩ (outE_refl _) rfl
  have hi := int_fn F s p hs hp
  have hok := @getI_ok s p
  have hge : ∀ n x e, getI s p = (n, x, e) → getS s p = if e ≠ 0 then ([], 0, e) else if n < 0 ∨ 65536 < n ∨ (s.length : Int) - x < n then ([], 0, 10) else ((s.take (x + n).toNat).drop x.toNat, x + n, 0) := fun n x e h => by rw [getS, h]
  obtain ⟨n, x, e, hg⟩ : ∃ n x e, getI s p = (n, x, e) := ⟨_, _, _, rfl⟩
  have hge := hge n x e hg
  rw [hg] at hi hok
  replace hok : e = 0 → 0 ≤ p ∧ p < x ∧ x ≤ s.length ∧ -4611686018427387903 ≤ n ∧ n ≤ 4611686018427387903 := hok
  refine fo_of hΘ Tryz.func99 rfl (by decide) _ _ rfl rfl rfl ?_
  conv => whnf
  refine usePu (hi) rfl (argsE_refl _) rfl ?_
  conv => whnf
  refine br (fun g => ?_) (fun g => ?_)
  · have g1 : e ≠ 0 := by simpa using g
    conv => whnf
    exact fin [] 0 e _ _ (by rw [hge, if_pos g1]) rfl
  · have g1 : e = 0 := by simpa using g
    have hb := hok g1
    have hge2 : getS s p = if n < 0 ∨ 65536 < n ∨ (s.length : Int) - x < n then ([], 0, 10) else ((s.take (x + n).toNat).drop x.toNat, x + n, 0) := by rw [hge, if_neg (by simp [g1])]
    have ew : IntKind.i64.wrap ((s.length : Int) - x) = s.length - x := wrap64_id (by omega) (by omega)
    conv => whnf
    refine ⟨fun ga => ?_, fun ga => ?_⟩
    · have ga' : ¬ n < 0 := of_decide_eq_false ga
      conv => whnf
      refine ⟨fun gb => ?_, fun gb => ?_⟩
      · have gb' : ¬ 65536 < n := of_decide_eq_false gb
        conv => whnf
        refine br (fun gc => ?_) (fun gc => ?_)
        · have gc' : (s.length : Int) - x < n := by have h0 := of_decide_eq_true gc; rw [← ew]; exact h0
          conv => whnf
          exact fin [] 0 10 _ _ (by rw [hge2, if_pos (.inr (.inr gc'))]) rfl
        · have gc' : ¬ (s.length : Int) - x < n := by have h0 := of_decide_eq_false gc; rw [← ew]; exact h0
          have e2 : IntKind.i64.wrap (x + n) = x + n := wrap64_id (by omega) (by omega)
          conv => whnf
          refine ⟨⟨by dsimp only; rw [e2]; omega, by dsimp only; rw [e2]; omega⟩, ⟨by dsimp only; omega, by dsimp only; rw [e2]; omega⟩, ?_⟩
          conv => whnf
          refine fin _ _ 0 _ _ ?_ rfl
          rw [hge2, if_neg (by omega), e2]
      · have gb' : 65536 < n := of_decide_eq_true gb
        conv => whnf
        exact fin [] 0 10 _ _ (by rw [hge2, if_pos (.inr (.inl gb'))]) rfl
    · have ga' : n < 0 := of_decide_eq_true ga
      conv => whnf
      exact fin [] 0 10 _ _ (by rw [hge2, if_pos (.inl ga')]) rfl
end Go.Proofs.YtblllibdahkgfaaGreatDoor

namespace Go.Proofs.YtblllibdahkgfaaGreatDoor
open Go Sx
set_option maxRecDepth 100000
def perr : Value := .iface 29 (.int .i64 70)
theorem must_fn (F : Fz) (b : Bool) : Fo Tryz.prog F 51 [.va (.bool b)] (fun o F' => F = F' ∧ ((b = true ∧ o = .ret (.tup [])) ∨ (b = false ∧ o = .panic perr))) := by
  refine fo_of hΘ Tryz.func51 rfl (by decide) _ _ rfl rfl rfl ?_
  conv => whnf
  refine br (fun g => ?_) (fun g => ?_)
  · conv => whnf
    exact endFo (.panic perr) F rfl (Fz.le_refl F) (Fz.le_refl F) ⟨rfl, .inr ⟨not_t g, rfl⟩⟩ rfl rfl
  · conv => whnf
    exact endFo (.ret (.tup [])) F rfl (Fz.le_refl F) (Fz.le_refl F) ⟨rfl, .inl ⟨by simpa using g, rfl⟩⟩ (outE_refl _) rfl
def rdr (s : List UInt8) (p : Int) : Ent := .one (.cells 117 [.str s, .int .i64 p])
theorem rdr_below {n : Nat} (s : List UInt8) (p : Int) : (rdr s p).below n := (SB.bB_ok rfl : SB.below n (.cells 117 [.str s, .int .i64 p]))
def numOkR (s : List UInt8) (p lo hi : Int) : Bool := decide ((getI s p).2.2 = 0) && (decide (lo ≤ (getI s p).1) && decide ((getI s p).1 ≤ hi))
set_option maxHeartbeats 4000000 in
theorem number_fn (F : Fz) (s : List UInt8) (p lo hi : Int) (hs : s.length ≤ 1000000000000000000) (hp : i64 p) :
    Ct Tryz.prog 75 [.va (.ptr ⟨1, 0, 0, 0, 0⟩), .va (.int .i64 lo), .va (.int .i64 hi)] F [(1, rdr s p)] 2
      (fun o F0 h0 n0 => F = F0 ∧ n0 = 2 ∧ (if numOkR s p lo hi = true then o = .ret (.va (.int .i64 (getI s p).1)) ∧ h0 = [(1, rdr s (getI s p).2.1)] else o = .panic perr ∧ h0 = [(1, rdr s p)])) := by
  have hi1 := int_fn F s p hs hp
  obtain ⟨n, x, e, hg⟩ : ∃ n x e, getI s p = (n, x, e) := ⟨_, _, _, rfl⟩
  have hok : numOkR s p lo hi = (decide (e = 0) && (decide (lo ≤ n) && decide (n ≤ hi))) := by rw [numOkR, hg]
  rw [hg] at hi1
  have hgx : (getI s p).2.1 = x := by rw [hg]
  have hgn : (getI s p).1 = n := by rw [hg]
  refine ct_of hΘ Tryz.func75 rfl (by decide) _ _ rfl rfl rfl ?_
  conv => whnf
  refine drawP hΘ mixed (.look 0 (.look 1 (.look 2 (.look 3 (.look 4 (.look 5 (.look 6 (.look 7 (.alt 8 (.look 9 (.look 10 (.look 11 (.look 12 (.look 13 (.look 14 (.look 15 .done))))))) .nil))))))))) [1] (by kernel_rfl) ?_
  conv => whnf
  repeat' ((conv => whnf); first
    | refine ⟨rfl, ?_⟩
    | refine ⟨Fz.le_refl _, rfl, ?_⟩
    | refine ⟨Fz.le_refl _, rfl, rfl, ?_⟩
    | refine ⟨⟨by simp, by simp⟩, ?_⟩
    | fail)
  conv => whnf
  refine usePu (hi1) rfl (argsE_refl _) rfl ?_
  conv => whnf
  refine ⟨Fz.le_refl F, rfl, ?_⟩
  conv => whnf
  refine ⟨fun ge => ?_, fun ge => ?_⟩
  · have ge' : e = 0 := of_decide_eq_true ge
    conv => whnf
    refine usePu (within_pu n lo hi F) rfl (argsE_refl _) rfl ?_
    conv => whnf
    refine useFo (must_fn F (decide (lo ≤ n) && decide (n ≤ hi))) rfl ⟨rfl, trivial⟩ rfl ?_
    rintro _ _ l1 ⟨rfl, ⟨hb, rfl⟩ | ⟨hb, rfl⟩⟩
    · conv => whnf
      refine clean [] (.ret (.va (.int .i64 n))) F [(1, rdr s x)] 2 ⟨Fz.le_refl F, rfl, rfl, ?_⟩ (outE_refl _) rfl rfl trivial ⟨rdr_below s _, trivial⟩ ⟨Fz.le_refl F, rfl, trivial⟩
      rw [hok, if_pos (by rw [ge, hb]; rfl), hgn, hgx]; exact ⟨rfl, rfl⟩
    · conv => whnf
      refine clean [] (.panic perr) F [(1, rdr s p)] 2 ⟨Fz.le_refl F, rfl, rfl, ?_⟩ rfl rfl rfl trivial ⟨rdr_below s _, trivial⟩ ⟨Fz.le_refl F, rfl, trivial⟩
      rw [hok, if_neg (by rw [hb]; simp)]; exact ⟨rfl, rfl⟩
  · conv => whnf
    refine useFo (must_fn F false) rfl ⟨rfl, trivial⟩ rfl ?_
    rintro _ _ l1 ⟨rfl, ⟨hb, rfl⟩ | ⟨hb, rfl⟩⟩
    · cases hb
    · conv => whnf
      refine clean [] (.panic perr) F [(1, rdr s p)] 2 ⟨Fz.le_refl F, rfl, rfl, ?_⟩ rfl rfl rfl trivial ⟨rdr_below s _, trivial⟩ ⟨Fz.le_refl F, rfl, trivial⟩
      rw [hok, if_neg (by rw [ge]; simp)]; exact ⟨rfl, rfl⟩
set_option maxHeartbeats 4000000 in
theorem rtext_fn (F : Fz) (s : List UInt8) (p : Int) (hs : s.length ≤ 1000000000000000000) (hp : i64 p) :
    Ct Tryz.prog 76 [.va (.ptr ⟨1, 0, 0, 0, 0⟩)] F [(1, rdr s p)] 2
      (fun o F0 h0 n0 => F = F0 ∧ n0 = 2 ∧ (if (getS s p).2.2 = 0 then o = .ret (.va (.str (getS s p).1)) ∧ h0 = [(1, rdr s (getS s p).2.1)] else o = .panic perr ∧ h0 = [(1, rdr s p)])) := by
  have hi1 := string_fn F s p hs hp
  obtain ⟨n, x, e, hg⟩ : ∃ n x e, getS s p = (n, x, e) := ⟨_, _, _, rfl⟩
  rw [hg] at hi1
  have hge : (getS s p).2.2 = e := by rw [hg]
  have hgx : (getS s p).2.1 = x := by rw [hg]
  have hgn : (getS s p).1 = n := by rw [hg]
  refine ct_of hΘ Tryz.func76 rfl (by decide) _ _ rfl rfl rfl ?_
  conv => whnf
  refine drawP hΘ mixed (.look 0 (.look 1 (.look 2 (.look 3 (.look 4 (.look 5 (.look 6 (.look 7 (.alt 8 (.look 9 (.look 10 (.look 11 (.look 12 (.look 13 (.look 14 (.look 15 .done))))))) .nil))))))))) [1] (by kernel_rfl) ?_
  conv => whnf
  repeat' ((conv => whnf); first
    | refine ⟨rfl, ?_⟩
    | refine ⟨Fz.le_refl _, rfl, ?_⟩
    | refine ⟨Fz.le_refl _, rfl, rfl, ?_⟩
    | refine ⟨⟨by simp, by simp⟩, ?_⟩
    | fail)
  conv => whnf
  refine usePu (hi1) rfl (argsE_refl _) rfl ?_
  conv => whnf
  refine ⟨Fz.le_refl F, rfl, ?_⟩
  conv => whnf
  refine useFo (must_fn F (decide (e = 0))) rfl ⟨rfl, trivial⟩ rfl ?_
  rintro _ _ l1 ⟨rfl, ⟨hb, rfl⟩ | ⟨hb, rfl⟩⟩
  · conv => whnf
    refine clean [] (.ret (.va (.str n))) F [(1, rdr s x)] 2 ⟨Fz.le_refl F, rfl, rfl, ?_⟩ (outE_refl _) rfl rfl trivial ⟨rdr_below s _, trivial⟩ ⟨Fz.le_refl F, rfl, trivial⟩
    rw [hge, if_pos (of_decide_eq_true hb), hgn, hgx]; exact ⟨rfl, rfl⟩
  · conv => whnf
    refine clean [] (.panic perr) F [(1, rdr s p)] 2 ⟨Fz.le_refl F, rfl, rfl, ?_⟩ rfl rfl rfl trivial ⟨rdr_below s _, trivial⟩ ⟨Fz.le_refl F, rfl, trivial⟩
    rw [hge, if_neg (of_decide_eq_false hb)]; exact ⟨rfl, rfl⟩
end Go.Proofs.YtblllibdahkgfaaGreatDoor
