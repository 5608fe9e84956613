import Derived.Test.YtblllibdahkgfaaGreatDoorK22

namespace Go.Proofs.YtblllibdahkgfaaGreatDoor
open Go Sx
set_option maxRecDepth 100000
def spc : Bool → List UInt8 → List UInt8
 | _, [] => []
 | p, b :: r => if b = 32 ∧ p = true then spc true r else b :: spc (b == 32) r
def lastS (p : Bool) : List UInt8 → Bool
 | [] => p
 | b :: r => lastS (b == 32) r
theorem zok : ∀ (l : List UInt8) (p : Bool) (x : UInt8), spc p (l ++ [x]) = spc p l ++ (if x = 32 ∧ lastS p l = true then [] else [x])
 | [], p, x => by
  by_cases h : x = 32 ∧ p = true
  ·simp [spc, lastS, h]
  ·simp [spc, lastS, h]
 | b :: r, p, x => by
  have ih := zok r
  by_cases h : b = 32 ∧ p = true
  ·obtain ⟨rfl, rfl⟩ := h
   simp [spc, lastS, ih]
  ·rw [List.cons_append, spc, if_neg h, spc, if_neg h, ih, List.cons_append]
   rfl
theorem zo9 {s : List UInt8} {k : Nat} (h : k < s.length) (p : Bool) : lastS p (s.take (k + 1)) = (s[k] == 32) := by
 induction s generalizing k p with
 | nil => simp at h
 | cons b r ih =>
  cases k with
  | zero => simp [lastS]
  | succ k => simp only [List.take_succ_cons, lastS, List.getElem_cons_succ]; exact ih (by simpa using h) _
theorem zqy : ∀ (l : List UInt8) (p : Bool), (spc p l).length ≤ l.length
 | [], p => by simp [spc]
 | b :: r, p => by
  rw [spc]
  split
  ·have := zqy r true; simp only [List.length_cons]; omega
  ·have := zqy r (b == 32); simp only [List.length_cons]; omega
set_option maxHeartbeats 4000000 in
theorem zpl (F : Fz) (s : List UInt8) (hs : s.length < 1000000) : Fo Tryz.prog F 85 [.va (.str s)] (fun o F' => o = .ret (.va (.str (spc false s))) ∧ F' = F) := by
 refine fo_of hΘ Tryz.func85 rfl (by decide) _ _ rfl rfl rfl ?_;conv=>whnf
 refine zau hΘ (X := { x : Nat × List UInt8 × Nat // x.1 ≤ s.length ∧ x.2.1 = spc false (s.take x.1) }) (fun x => [(3, .va (gA 1 1 x.1.2.2 x.1.2.1)), (4, .va (.int .i64 x.1.1))]) [5, 6, 7, 8, 9, 10, 11, 12, 13, 14, 15, 16, 17, 18, 19, 20, 21, 22, 23, 24, 25, 26, 27, 28, 29, 30, 31]
  (fun x => [(0, .frz F), (1, gE 5 1 encB x.1.2.2 x.1.2.1)]) 2 (fun x => s.length - x.1.1) ⟨(0, [], 0), by simp [spc]⟩
  (fun hH hT => leI [(1, 1)] hH hT rfl ⟨trivial, zac zae _ _ _ _ _, trivial⟩ ⟨rfl, rfl, trivial⟩ ⟨Fz.le_refl F, rfl, trivial⟩) ?_
 rintro ⟨⟨k, out, c⟩, hk, ho⟩ hH hT
 replace hk : k ≤ s.length := hk
 replace ho : out = spc false (s.take k) := ho
 have hol : out.length ≤ k := by
  have := zqy (s.take k) false
  rw [ho]; rw [List.length_take] at this; omega
 conv=>whnf
 refine br (fun gb => ?_) (fun gb => ?_)
 ·have gk : k < s.length := by
   have h0 : (k : Int) < (s.length : Int) := of_decide_eq_true gb
   omega
  clear gb
  have hnext : spc false (s.take (k + 1)) = out ++ (if s[k] = 32 ∧ lastS false (s.take k) = true then [] else [s[k]]) := by rw [List.take_succ_eq_append_getElem gk, zok, ho]
  have b32 : (s[k].toNat : Int) = 32 ↔ s[k] = 32 := by
   constructor
   ·intro h; exact UInt8.toNat_inj.1 (by have : s[k].toNat = 32 := by omega
                                         simpa using this)
   ·intro h; rw [h]; rfl
  have gk1 : k - 1 < s.length := by omega
  have hl : ¬ k = 0 → lastS false (s.take k) = (s[k - 1] == 32) := fun h0 => by
   have := zo9 gk1 false
   rwa [show k - 1 + 1 = k by omega] at this
  have c32 : (!decide ((s[k - 1].toNat : Int) = 32)) = true ↔ ¬ s[k - 1] = 32 := by
   rw [Bool.not_eq_true', decide_eq_false_iff_not]
   refine not_congr ⟨fun h => UInt8.toNat_inj.1 ?_, fun h => by rw [h]; rfl⟩
   have : s[k - 1].toNat = 32 := by omega
   simpa using this
  have hA : ¬ k = 0 → ¬ s[k - 1] = 32 → spc false (s.take (k + 1)) = out ++ [s[k]] := fun h0 h => by rw [hnext, hl h0, if_neg (fun h' => h (by simpa using h'.2))]
  have hB : s[k] = 32 → ¬ k = 0 → s[k - 1] = 32 → spc false (s.take (k + 1)) = out := fun h1 h0 h => by rw [hnext, hl h0, if_pos ⟨h1, by simpa using h⟩, List.append_nil]
  have hC : k = 0 → spc false (s.take (k + 1)) = out ++ [s[k]] := fun h0 => by
   have hl : lastS false (s.take k) = false := by rw [h0]; rfl
   rw [hnext, hl, if_neg (fun h => by simp at h)]
  have hD : ¬ s[k] = 32 → spc false (s.take (k + 1)) = out ++ [s[k]] := fun h => by rw [hnext, if_neg (fun h' => h h'.1)]
  clear hnext hl;conv=>whnf
  refine ⟨by dsimp only; omega, s[k], by dsimp only; rw [Int.toNat_natCast, List.getElem?_eq_getElem gk], ?_⟩;conv=>whnf
  refine ⟨fun ga => ?_, fun ga => ?_⟩
  ·have g32 : s[k] = 32 := b32.1 (by simpa using ga)
   clear ga;conv=>whnf
   refine ⟨fun gz => ?_, fun gz => ?_⟩
   ·have gz' : ¬ k = 0 := by
     have h0 : ¬ (k : Int) = 0 := of_decide_eq_false gz
     omega
    clear gz;conv=>whnf
    have ew : IntKind.i64.wrap ((k : Int) - 1) = ((k - 1 : Nat) : Int) := by rw [zai (by omega) (by omega)]; omega
    refine ⟨by dsimp only; rw [ew]; omega, s[k - 1], by dsimp only; rw [ew, Int.toNat_natCast, List.getElem?_eq_getElem (by omega)], ?_⟩;conv=>whnf
    refine br (fun gc => ?_) (fun gc => ?_)
    ·have hkeep := hA gz' (c32.1 gc)
     clear gc
     rcases out with _ | ⟨yo, ro⟩
     ·conv=>whnf
      refine ⟨by dsimp only; omega, s[k], by dsimp only; rw [Int.toNat_natCast, List.getElem?_eq_getElem gk], ?_⟩;conv=>whnf
      refine ⟨Nat.le_of_ble_eq_true rfl, [encB s[k]], rfl, ?_⟩;conv=>whnf
      refine ⟨rfl, rfl, Nat.le_of_ble_eq_true rfl, fun c' hc => ?_⟩
      clear hc;conv=>whnf
      exact ⟨⟨(k + 1, ([] : List UInt8) ++ [s[k]], c'), by show k + 1 ≤ s.length; omega, hkeep.symm⟩, by show s.length - (k + 1) < s.length - k; omega, leR [(1, 3)] hH hT rfl ⟨trivial, zac zae _ _ _ _ _, trivial⟩ ⟨zdt (μ := sig [(1, 3)]) (i := 1) (j := 3) rfl 1 c' _ ([]) s[k] rfl, cnt (by omega), trivial⟩ ⟨Fz.le_refl F, zam zae (zbt [encB s[k]] rfl), trivial⟩⟩
     ·skip
      replace hol : ro.length + 1 ≤ k := hol
      conv=>whnf
      refine ⟨by dsimp only; omega, s[k], by dsimp only; rw [Int.toNat_natCast, List.getElem?_eq_getElem gk], ?_⟩;conv=>whnf
      refine ⟨Nat.le_of_ble_eq_true rfl, [encB s[k]], rfl, ?_⟩;conv=>whnf
      refine ⟨rfl, rfl, by simp, rfl, by show (ro.length + 1 + 1) * 1 ≤ 140737488355328; omega, fun c' hc => ?_⟩
      clear hc;conv=>whnf
      exact ⟨⟨(k + 1, (yo :: ro : List UInt8) ++ [s[k]], c'), by show k + 1 ≤ s.length; omega, hkeep.symm⟩, by show s.length - (k + 1) < s.length - k; omega, leR [(1, 3)] hH hT rfl ⟨trivial, zac zae _ _ _ _ _, trivial⟩ ⟨zdt (μ := sig [(1, 3)]) (i := 1) (j := 3) rfl 1 c' _ (yo :: ro) s[k] rfl, cnt (by omega), trivial⟩ ⟨Fz.le_refl F, zam zae (zbt _ (by simp)), trivial⟩⟩
    ·have hkeep := hB g32 gz' (Decidable.byContradiction fun h => by rw [c32.2 h] at gc; cases gc)
     clear gc
     rcases out with _ | ⟨yo, ro⟩
     ·conv=>whnf
      exact ⟨⟨(k + 1, ([] : List UInt8), c), by show k + 1 ≤ s.length; omega, hkeep.symm⟩, by show s.length - (k + 1) < s.length - k; omega, leR [(1, 1)] hH hT rfl ⟨trivial, zac zae _ _ _ _ _, trivial⟩ ⟨rfl, cnt (by omega), trivial⟩ ⟨Fz.le_refl F, zam zae (zao _ _ _ _), trivial⟩⟩
     ·conv=>whnf
      exact ⟨⟨(k + 1, (yo :: ro : List UInt8), c), by show k + 1 ≤ s.length; omega, hkeep.symm⟩, by show s.length - (k + 1) < s.length - k; omega, leR [(1, 1)] hH hT rfl ⟨trivial, zac zae _ _ _ _ _, trivial⟩ ⟨⟨rfl, rfl, rfl, .inr ⟨rfl, rfl, rfl, rfl⟩⟩, cnt (by omega), trivial⟩ ⟨Fz.le_refl F, zam zae (zao _ _ _ _), trivial⟩⟩
   ·have gz' : k = 0 := by
     have h0 : (k : Int) = 0 := of_decide_eq_true gz
     omega
    clear gz
    have hkeep := hC gz'
    rcases out with _ | ⟨yo, ro⟩
    ·conv=>whnf
     refine ⟨by dsimp only; omega, s[k], by dsimp only; rw [Int.toNat_natCast, List.getElem?_eq_getElem gk], ?_⟩;conv=>whnf
     refine ⟨Nat.le_of_ble_eq_true rfl, [encB s[k]], rfl, ?_⟩;conv=>whnf
     refine ⟨rfl, rfl, Nat.le_of_ble_eq_true rfl, fun c' hc => ?_⟩
     clear hc;conv=>whnf
     exact ⟨⟨(k + 1, ([] : List UInt8) ++ [s[k]], c'), by show k + 1 ≤ s.length; omega, hkeep.symm⟩, by show s.length - (k + 1) < s.length - k; omega, leR [(1, 3)] hH hT rfl ⟨trivial, zac zae _ _ _ _ _, trivial⟩ ⟨zdt (μ := sig [(1, 3)]) (i := 1) (j := 3) rfl 1 c' _ ([]) s[k] rfl, cnt (by omega), trivial⟩ ⟨Fz.le_refl F, zam zae (zbt [encB s[k]] rfl), trivial⟩⟩
    ·skip
     replace hol : ro.length + 1 ≤ k := hol
     conv=>whnf
     refine ⟨by dsimp only; omega, s[k], by dsimp only; rw [Int.toNat_natCast, List.getElem?_eq_getElem gk], ?_⟩;conv=>whnf
     refine ⟨Nat.le_of_ble_eq_true rfl, [encB s[k]], rfl, ?_⟩;conv=>whnf
     refine ⟨rfl, rfl, by simp, rfl, by show (ro.length + 1 + 1) * 1 ≤ 140737488355328; omega, fun c' hc => ?_⟩
     clear hc;conv=>whnf
     exact ⟨⟨(k + 1, (yo :: ro : List UInt8) ++ [s[k]], c'), by show k + 1 ≤ s.length; omega, hkeep.symm⟩, by show s.length - (k + 1) < s.length - k; omega, leR [(1, 3)] hH hT rfl ⟨trivial, zac zae _ _ _ _ _, trivial⟩ ⟨zdt (μ := sig [(1, 3)]) (i := 1) (j := 3) rfl 1 c' _ (yo :: ro) s[k] rfl, cnt (by omega), trivial⟩ ⟨Fz.le_refl F, zam zae (zbt _ (by simp)), trivial⟩⟩
  ·have g32 : ¬ s[k] = 32 := fun h => by
    have := b32.2 h
    simp [this] at ga
   have hkeep := hD g32
   clear ga
   rcases out with _ | ⟨yo, ro⟩
   ·conv=>whnf
    refine ⟨by dsimp only; omega, s[k], by dsimp only; rw [Int.toNat_natCast, List.getElem?_eq_getElem gk], ?_⟩;conv=>whnf
    refine ⟨Nat.le_of_ble_eq_true rfl, [encB s[k]], rfl, ?_⟩;conv=>whnf
    refine ⟨rfl, rfl, Nat.le_of_ble_eq_true rfl, fun c' hc => ?_⟩
    clear hc;conv=>whnf
    exact ⟨⟨(k + 1, ([] : List UInt8) ++ [s[k]], c'), by show k + 1 ≤ s.length; omega, hkeep.symm⟩, by show s.length - (k + 1) < s.length - k; omega, leR [(1, 3)] hH hT rfl ⟨trivial, zac zae _ _ _ _ _, trivial⟩ ⟨zdt (μ := sig [(1, 3)]) (i := 1) (j := 3) rfl 1 c' _ ([]) s[k] rfl, cnt (by omega), trivial⟩ ⟨Fz.le_refl F, zam zae (zbt [encB s[k]] rfl), trivial⟩⟩
   ·skip
    replace hol : ro.length + 1 ≤ k := hol
    conv=>whnf
    refine ⟨by dsimp only; omega, s[k], by dsimp only; rw [Int.toNat_natCast, List.getElem?_eq_getElem gk], ?_⟩;conv=>whnf
    refine ⟨Nat.le_of_ble_eq_true rfl, [encB s[k]], rfl, ?_⟩;conv=>whnf
    refine ⟨rfl, rfl, by simp, rfl, by show (ro.length + 1 + 1) * 1 ≤ 140737488355328; omega, fun c' hc => ?_⟩
    clear hc;conv=>whnf
    exact ⟨⟨(k + 1, (yo :: ro : List UInt8) ++ [s[k]], c'), by show k + 1 ≤ s.length; omega, hkeep.symm⟩, by show s.length - (k + 1) < s.length - k; omega, leR [(1, 3)] hH hT rfl ⟨trivial, zac zae _ _ _ _ _, trivial⟩ ⟨zdt (μ := sig [(1, 3)]) (i := 1) (j := 3) rfl 1 c' _ (yo :: ro) s[k] rfl, cnt (by omega), trivial⟩ ⟨Fz.le_refl F, zam zae (zbt _ (by simp)), trivial⟩⟩
 ·have gk : ¬ k < s.length := by
   have h0 : ¬ (k : Int) < (s.length : Int) := of_decide_eq_false gb
   omega
  clear gb
  have hout : out = spc false s := by rw [ho, List.take_of_length_le (by omega)]
  rcases out with _ | ⟨yo, ro⟩
  ·conv=>whnf
   exact endFo (.ret (.va (.str []))) F rfl (Fz.le_refl F) (Fz.le_refl F) ⟨by rw [hout], rfl⟩ (zar _) rfl
  ·conv=>whnf
   refine ⟨rfl, ?_⟩;conv=>whnf
   refine ⟨by simp, (yo :: ro).map encB, by simp [List.take_of_length_le], yo :: ro, rfl, ?_⟩;conv=>whnf
   exact endFo (.ret (.va (.str (yo :: ro)))) F rfl (Fz.le_refl F) (Fz.le_refl F) ⟨by rw [hout], rfl⟩ (zar _) rfl
end Go.Proofs.YtblllibdahkgfaaGreatDoor

namespace Go.Proofs.YtblllibdahkgfaaGreatDoor
open Go Sx
set_option maxRecDepth 100000
def vals : List UInt8 → Nat
 | [] => 0
 | b :: r => b.toNat % 128 + 128 * vals r
theorem zik : ∀ (l : List UInt8) (b : UInt8), vals (l ++ [b]) = vals l + b.toNat % 128 * 128 ^ l.length
 | [], b => by simp [vals]
 | x :: r, b => by
  simp only [List.cons_append, vals, zik r b, List.length_cons, Nat.pow_succ, Nat.mul_add]
  have : 128 * (b.toNat % 128 * 128 ^ r.length) = b.toNat % 128 * (128 ^ r.length * 128) := by
   rw [Nat.mul_comm (128 ^ r.length) 128, ← Nat.mul_assoc, ← Nat.mul_assoc, Nat.mul_comm 128 (b.toNat % 128)]
  omega
theorem zwc (z : Nat) : putZ z ≠ [] := by
 by_cases h : z < 128
 ·rw [zfx h]; simp
 ·rw [zgu h]; simp
theorem zk4 : ∀ (pre : List UInt8) (b : UInt8), (∀ x ∈ pre, 128 ≤ x.toNat) → b.toNat < 128 → (pre = [] ∨ b ≠ 0) → putZ (vals (pre ++ [b])) = pre ++ [b]
 | [], b, _, hb, _ => by
  have e : vals ([] ++ [b]) = b.toNat := by simp [vals, Nat.mod_eq_of_lt hb]
  rw [e, zfx hb]; simp
 | x :: r, b, hp, hb, hn => by
  have hb0 : b ≠ 0 := by rcases hn with h | h; cases h; exact h
  have hpos : 0 < b.toNat := by
   refine Nat.pos_of_ne_zero fun h => hb0 (UInt8.toNat_inj.1 (by simpa using h))
  have ih := zk4 r b (fun y hy => hp y (List.mem_cons_of_mem _ hy)) hb (.inr hb0)
  have hv : 1 ≤ vals (r ++ [b]) := by
   rw [zik, Nat.mod_eq_of_lt hb]
   have : 1 * 1 ≤ b.toNat * 128 ^ r.length := Nat.mul_le_mul hpos (Nat.pow_pos (by omega))
   omega
  have hx := hp x (List.mem_cons_self ..)
  have hx2 := x.toNat_lt
  have e : vals ((x :: r) ++ [b]) = x.toNat % 128 + 128 * vals (r ++ [b]) := rfl
  rw [e, zgu (by omega), show (x.toNat % 128 + 128 * vals (r ++ [b])) / 128 = vals (r ++ [b]) by omega, ih, show (x.toNat % 128 + 128 * vals (r ++ [b])) % 128 + 128 = x.toNat by omega]
  simp
theorem zsz (z : Nat) : ∀ l : List UInt8, putZ z = l ++ [0] → l = [] := by
 induction z using Nat.strongRecOn with
 | _ z ih =>
  intro l h
  by_cases hz : z < 128
  ·rw [zfx hz] at h
   cases l with
   | nil => rfl
   | cons y r => cases r <;> simp at h
  ·rw [zgu hz] at h
   cases l with
   | nil => rfl
   | cons y r =>
    simp only [List.cons_append, List.cons.injEq] at h
    have hr := ih (z / 128) (by omega) r h.2
    subst hr
    have h2 := h.2
    by_cases hz2 : z / 128 < 128
    ·rw [zfx hz2] at h2
     simp only [List.nil_append, List.cons.injEq, and_true] at h2
     have h3 := congrArg UInt8.toNat h2
     rw [UInt8.toNat_ofNat', Nat.mod_eq_of_lt (by omega)] at h3
     have h4 : z / 128 = 0 := h3
     omega
    ·rw [zgu hz2] at h2
     simp only [List.nil_append, List.cons.injEq] at h2
     exact absurd h2.2 (zwc _)
theorem zxr (z : Nat) : zig (unz z) = z := by
 unfold zig unz
 split <;> split <;> omega
theorem zkw {z : Nat} (h : ¬ unz z < -4611686018427387903) (hz : z < 9223372036854775808) : putIR (unz z) = (putZ z, 0) := by
 have h2 : unz z ≤ 4611686018427387903 := by unfold unz; split <;> omega
 rw [putIR, if_neg (by omega), putI, zxr]
theorem zi3 {z : Nat} (h : unz z < -4611686018427387903) : putIR (unz z) = ([], 10) := by
 rw [putIR, if_pos (.inl h)]
theorem zqz (pre : List UInt8) (b : UInt8) (hp : ∀ x ∈ pre, 128 ≤ x.toNat) (hb : b.toNat < 128) : putZ (vals (pre ++ [b])) = pre ++ [b] ↔ ¬ (b = 0 ∧ 0 < pre.length) := by
 constructor
 ·rintro h ⟨rfl, hl⟩
  have := zsz _ _ h
  subst this; simp at hl
 ·intro h
  refine zk4 pre b hp hb ?_
  by_cases h0 : b = 0
  ·exact .inl (List.eq_nil_of_length_eq_zero (by
    have : ¬ 0 < pre.length := fun h' => h ⟨h0, h'⟩
    omega))
  ·exact .inr h0
end Go.Proofs.YtblllibdahkgfaaGreatDoor

namespace Go.Proofs.YtblllibdahkgfaaGreatDoor
open Go Sx
set_option maxRecDepth 100000
set_option maxHeartbeats 4000000 in
theorem zsn (F : Fz) (s : List UInt8) (p : Int) (hs : s.length ≤ 1000000000000000000) (hp : i64 p) :
  Fo Tryz.prog F 86 [.va (.str s), .va (.int .i64 p)] (fun o F' => o = .ret (.tup [.va (.int .i64 (getI s p).1), .va (.int .i64 (getI s p).2.1), .va (.int .i64 (getI s p).2.2)]) ∧ F' = F) := by
 have fin : ∀ (n x e : Int) (h : Hp) (nx : Nat), getI s p = (n, x, e) → lget h 0 = some (.frz F) →
   Cln 1 (FoK F fun o F' => o = .ret (.tup [.va (.int .i64 (getI s p).1), .va (.int .i64 (getI s p).2.1), .va (.int .i64 (getI s p).2.2)]) ∧ F' = F) (.ret (.tup [.va (.int .i64 n), .va (.int .i64 x), .va (.int .i64 e)])) h nx := by
  intro n x e h nx hv h0
  exact endFo (.ret (.tup [.va (.int .i64 n), .va (.int .i64 x), .va (.int .i64 e)])) F h0 (Fz.le_refl F) (Fz.le_refl F) ⟨by rw [hv], rfl⟩ (zar _) rfl
 refine fo_of hΘ Tryz.func86 rfl (by decide) _ _ rfl rfl rfl ?_;conv=>whnf
 refine ⟨fun g => ?_, fun g => ?_⟩
 ·have g1 : ¬ p < 0 := by simpa using g
  conv=>whnf
  refine br (fun g => ?_) (fun g => ?_)
  ·have g2 : (s.length : Int) < p := by simpa using g
   conv=>whnf
   exact fin 0 0 2 _ _ (by rw [getI, if_pos (.inr g2)]) rfl
  ·have g2 : ¬ (s.length : Int) < p := by simpa using g
   have hex : ∃ a : Nat, p = a ∧ a ≤ s.length := ⟨p.toNat, by omega, by omega⟩
   obtain ⟨a, ea, hal⟩ := hex
   subst ea
   have hg : getI s a = match decZ (s.drop a) 9 0 0 with
    | none => (0, 0, 10)
    | some (z, i, b) => if (b = 0 ∧ 0 < i) ∨ unz z < -4611686018427387903 then (0, 0, 10) else (unz z, a + i + 1, 0) := by
    rw [getI, if_neg (by omega)]; rfl
   have hno : decZ (s.drop a) 9 0 0 = none → getI s a = (0, 0, 10) := fun h => by rw [hg, h]
   conv=>whnf
   refine zau hΘ (X := { x : Nat × Nat // (x.1 ≤ 9 ∧ a + x.1 ≤ s.length) ∧ x.2 < 128 ^ x.1 ∧ decZ (s.drop a) 9 0 0 = decZ (s.drop (a + x.1)) (9 - x.1) x.1 x.2 ∧ (∀ y ∈ (s.drop a).take x.1, 128 ≤ y.toNat) ∧ vals ((s.drop a).take x.1) = x.2 }) (fun x => [(7, .va (.int .u64 x.1.2)), (8, .va (.int .i64 x.1.1))]) [4, 5, 6, 9, 10, 11, 12, 21, 22, 23, 24, 25, 26, 27, 28, 29, 30, 31, 32, 33, 34, 35, 36, 37, 38, 39, 40, 41, 42, 43, 44, 45, 46, 47, 48, 49, 50, 51, 52, 53, 54, 55, 56, 57, 58, 59, 60, 61, 62, 63, 64, 65, 66, 67, 68, 69, 70, 71, 72, 73, 74, 75, 76, 77, 78, 79] (fz fun _ => F) 1 (fun x => 9 - x.1.1) ⟨(0, 0), by simp [hal], by simp, rfl, by simp, by simp [vals]⟩
    (fun hH hT => le0 hH hT rfl (Fz.le_refl F) rfl ⟨rfl, rfl, trivial⟩) ?_
   rintro ⟨⟨i, z⟩, hi, hz, hd, hpre, hv⟩ hH hT
   replace hi : i ≤ 9 ∧ a + i ≤ s.length := hi
   replace hz : z < 128 ^ i := hz
   replace hd : decZ (s.drop a) 9 0 0 = decZ (s.drop (a + i)) (9 - i) i z := hd
   replace hpre : ∀ y ∈ (s.drop a).take i, 128 ≤ y.toNat := hpre
   replace hv : vals ((s.drop a).take i) = z := hv
   have hplen : ((s.drop a).take i).length = i := by rw [List.length_take, List.length_drop]; omega
   have ew : IntKind.i64.wrap ((a : Int) + i) = ((a + i : Nat) : Int) := by rw [zai (by omega) (by omega)]; rfl
   conv=>whnf
   refine ⟨fun gb => ?_, fun gb => ?_⟩
   ·have gi : i < 9 := by
     have h0 : (i : Int) < 9 := by simpa using gb
     omega
    clear gb
    have h9 : 9 - i = (9 - (i + 1)) + 1 := by omega
    conv=>whnf
    refine br (fun gc => ?_) (fun gc => ?_)
    ·have gl : a + i < s.length := by
      have h0 : IntKind.i64.wrap ((a : Int) + i) < (s.length : Int) := by simpa using gc
      rw [ew] at h0; omega
     clear gc
     have hd2 := hd
     rw [drop_at gl, h9, decZ] at hd2
     have hm : s[a + i].toNat % 128 < 128 := Nat.mod_lt _ (by omega)
     have hlt := zoh hz hm
     have hsh := shl7 (s[a + i].toNat % 128) i hm (by omega)
     have htm : (s[a + i].toNat : Int).tmod 128 = ((s[a + i].toNat % 128 : Nat) : Int) := rfl
     have hp9 : 128 ^ (i + 1) ≤ 9223372036854775808 := by
      have : 128 ^ (i + 1) ≤ 128 ^ 9 := Nat.pow_le_pow_right (by omega) (by omega)
      exact this
     have hb8 := s[a + i].toNat_lt
     have hb64 : IntKind.u64.wrap (s[a + i].toNat : Int) = (s[a + i].toNat : Int) := zdg (by omega) (by omega)
     have hacc : IntKind.u64.wrap ((z : Int) + shlI .u64 ((IntKind.u64.wrap (s[a + i].toNat : Int)).tmod 128) (IntKind.i64.wrap (7 * (i : Int)))) = ((z + s[a + i].toNat % 128 * 128 ^ i : Nat) : Int) := by
      rw [hb64, htm, hsh, zdg (by omega) (by omega)]; omega
     have hsnoc : (s.drop a).take (i + 1) = (s.drop a).take i ++ [s[a + i]] := by
      have h1 : i < (s.drop a).length := by rw [List.length_drop]; omega
      rw [List.take_succ_eq_append_getElem h1]
      simp
     have hv2 : vals ((s.drop a).take (i + 1)) = z + s[a + i].toNat % 128 * 128 ^ i := by rw [hsnoc, zik, hv, hplen]
     conv=>whnf
     refine ⟨by dsimp only; rw [ew]; omega, s[a + i], by dsimp only; rw [ew, Int.toNat_natCast, List.getElem?_eq_getElem gl], ?_⟩;conv=>whnf
     refine ⟨by decide, ?_⟩;conv=>whnf
     refine ⟨by dsimp only; rw [zai (by omega) (by omega)]; omega, ?_⟩;conv=>whnf
     refine br (fun gd => ?_) (fun gd => ?_)
     ·have g128 : 128 ≤ s[a + i].toNat := by
       have h0 : (128 : Int) ≤ IntKind.u64.wrap (s[a + i].toNat : Int) := of_decide_eq_true gd
       rw [hb64] at h0; omega
      clear gd
      rw [if_pos g128] at hd2
      have hp2 : ∀ y ∈ (s.drop a).take (i + 1), 128 ≤ y.toNat := by
       intro y hy
       rw [hsnoc] at hy
       rcases List.mem_append.1 hy with h | h
       ·exact hpre y h
       ·rw [List.mem_singleton.1 h]; exact g128
      conv=>whnf
      refine ⟨⟨(i + 1, z + s[a + i].toNat % 128 * 128 ^ i), by show i + 1 ≤ 9 ∧ a + (i + 1) ≤ s.length; omega, hlt, hd2, hp2, hv2⟩, by show 9 - (i + 1) < 9 - i; omega, lr0 hH hT rfl (Fz.le_refl F) rfl ⟨?_, cnt (by omega), trivial⟩⟩
      exact congrArg (SA.int .u64) hacc.symm
     ·have g128 : ¬ 128 ≤ s[a + i].toNat := by
       have h0 : ¬ (128 : Int) ≤ IntKind.u64.wrap (s[a + i].toNat : Int) := of_decide_eq_false gd
       rw [hb64] at h0; omega
      clear gd
      rw [if_neg g128] at hd2
      have hmm : s[a + i].toNat % 128 = s[a + i].toNat := Nat.mod_eq_of_lt (by omega)
      rw [hmm] at hacc hlt hv2
      have hZ : ∃ Z, Z = z + s[a + i].toNat * 128 ^ i := ⟨_, rfl⟩
      obtain ⟨Z, hZ⟩ := hZ
      rw [← hZ] at hacc hlt hv2 hd2
      have hZ9 : Z < 9223372036854775808 := by omega
      have hget : getI s a = if (s[a + i] = 0 ∧ 0 < i) ∨ unz Z < -4611686018427387903 then (0, 0, 10) else (unz Z, (a : Int) + i + 1, 0) := by rw [hg, hd2]
      have hb1 : Z = vals ((s.drop a).take i ++ [s[a + i]]) := by rw [← hv2, hsnoc]
      have hown := zqz ((s.drop a).take i) s[a + i] hpre (by omega)
      rw [← hb1, ← hsnoc, hplen] at hown
      have hput := zal F (unz Z)
      have hr : unz Z < -4611686018427387903 ∨ ¬ unz Z < -4611686018427387903 := Decidable.em _
      have hsl : (s.take (a + i + 1)).drop a = (s.drop a).take (i + 1) := by rw [List.drop_take]; congr 1; omega
      have he2 : IntKind.i64.wrap (IntKind.i64.wrap ((a : Int) + i) + 1) = ((a + i + 1 : Nat) : Int) := by rw [ew, zai (by omega) (by omega)]; omega
      have hb2 : 0 ≤ IntKind.i64.wrap (IntKind.i64.wrap ((a : Int) + i) + 1) ∧ IntKind.i64.wrap (IntKind.i64.wrap ((a : Int) + i) + 1) ≤ (s.length : Int) := by rw [he2]; omega
      have hb3 : 0 ≤ (a : Int) ∧ (a : Int) ≤ IntKind.i64.wrap (IntKind.i64.wrap ((a : Int) + i) + 1) := by rw [he2]; omega
      have he3 : IntKind.i64.wrap (IntKind.i64.wrap ((a : Int) + i) + 1) = (a : Int) + i + 1 := by rw [he2]; omega
      have hcmp : (putZ Z == List.drop (a : Int).toNat (List.take (IntKind.i64.wrap (IntKind.i64.wrap ((a : Int) + i) + 1)).toNat s)) = decide (¬ (s[a + i] = 0 ∧ 0 < i)) := by
       rw [he2, Int.toNat_natCast, Int.toNat_natCast, hsl, Bool.eq_iff_iff, beq_iff_eq, decide_eq_true_iff]
       exact hown
      have hbad : (!(putZ Z == List.drop (a : Int).toNat (List.take (IntKind.i64.wrap (IntKind.i64.wrap ((a : Int) + i) + 1)).toNat s))) = true → s[a + i] = 0 ∧ 0 < i := fun h => by
       rw [hcmp] at h
       exact Decidable.byContradiction fun h' => by
        rw [decide_eq_true h'] at h; cases h
      have hgood : (!(putZ Z == List.drop (a : Int).toNat (List.take (IntKind.i64.wrap (IntKind.i64.wrap ((a : Int) + i) + 1)).toNat s))) = false → ¬ (s[a + i] = 0 ∧ 0 < i) := fun h => by
       rw [hcmp] at h
       exact of_decide_eq_true (by
        rw [Bool.not_eq_false'] at h; exact h)
      clear hcmp
      have hq0 : IntKind.i64.wrap (IntKind.u64.wrap ((IntKind.u64.wrap ((z : Int) + shlI .u64 ((IntKind.u64.wrap (s[a + i].toNat : Int)).tmod 128) (IntKind.i64.wrap (7 * (i : Int))))).tdiv 2)) = ((Z / 2 : Nat) : Int) := by
       have h1 : (Z : Int).tdiv 2 = ((Z / 2 : Nat) : Int) := rfl
       rw [hacc, h1, zdg (by omega) (by omega), zai (by omega) (by omega)]
      have hmod : ((IntKind.u64.wrap ((z : Int) + shlI .u64 ((IntKind.u64.wrap (s[a + i].toNat : Int)).tmod 128) (IntKind.i64.wrap (7 * (i : Int))))).tmod 2) = ((Z % 2 : Nat) : Int) := by
       rw [hacc]; rfl
      conv=>whnf
      refine ⟨by decide, ?_⟩;conv=>whnf
      refine ⟨by decide, ?_⟩;conv=>whnf
      refine br (fun gp => ?_) (fun gp => ?_)
      ·have hodd : Z % 2 = 1 := by
        have h0 := of_decide_eq_true gp
        rw [hmod] at h0; omega
       have hu : IntKind.i64.wrap (IntKind.i64.wrap (0 - IntKind.i64.wrap (IntKind.u64.wrap ((IntKind.u64.wrap ((z : Int) + shlI .u64 ((IntKind.u64.wrap (s[a + i].toNat : Int)).tmod 128) (IntKind.i64.wrap (7 * (i : Int))))).tdiv 2))) - 1) = unz Z := by
        have hn1 : IntKind.i64.wrap (0 - ((Z / 2 : Nat) : Int)) = -((Z / 2 : Nat) : Int) := by rw [zai (by omega) (by omega)]; omega
        rw [hq0, hn1, zai (by omega) (by omega), unz, if_pos hodd]
       clear gp hq0 hmod
       rcases hr with hr | hr
       ·rw [zi3 hr] at hput
        conv=>whnf
        refine usePu hput rfl ⟨congrArg (SA.int .i64) hu.symm, trivial⟩ rfl ?_;conv=>whnf
        refine ⟨fun g => absurd g (by simp), fun _ => ?_⟩;conv=>whnf
        exact fin 0 0 10 _ _ (by rw [hget, if_pos (.inr hr)]) rfl
       ·rw [zkw hr hZ9] at hput
        conv=>whnf
        refine usePu hput rfl ⟨congrArg (SA.int .i64) hu.symm, trivial⟩ rfl ?_;conv=>whnf
        refine ⟨fun _ => ?_, fun g => absurd g (by simp)⟩;conv=>whnf
        refine ⟨hb2, ?_⟩;conv=>whnf
        refine ⟨hb3, ?_⟩;conv=>whnf
        refine br (fun gx => ?_) (fun gx => ?_)
        ·have hx := hbad gx
         conv=>whnf
         exact fin 0 0 10 _ _ (by rw [hget, if_pos (.inl hx)]) rfl
        ·have hx := hgood gx
         conv=>whnf
         exact fin _ _ 0 _ _ (by rw [hget, if_neg (by rintro (h | h); exact hx h; exact hr h), ← hu, ← he3]) rfl
      ·have hev : ¬ Z % 2 = 1 := by
        have h0 := of_decide_eq_false gp
        rw [hmod] at h0; omega
       have hu : IntKind.i64.wrap (IntKind.u64.wrap ((IntKind.u64.wrap ((z : Int) + shlI .u64 ((IntKind.u64.wrap (s[a + i].toNat : Int)).tmod 128) (IntKind.i64.wrap (7 * (i : Int))))).tdiv 2)) = unz Z := by
        rw [hq0, unz, if_neg hev]
       clear gp hq0 hmod
       rcases hr with hr | hr
       ·rw [zi3 hr] at hput
        conv=>whnf
        refine usePu hput rfl ⟨congrArg (SA.int .i64) hu.symm, trivial⟩ rfl ?_;conv=>whnf
        refine ⟨fun g => absurd g (by simp), fun _ => ?_⟩;conv=>whnf
        exact fin 0 0 10 _ _ (by rw [hget, if_pos (.inr hr)]) rfl
       ·rw [zkw hr hZ9] at hput
        conv=>whnf
        refine usePu hput rfl ⟨congrArg (SA.int .i64) hu.symm, trivial⟩ rfl ?_;conv=>whnf
        refine ⟨fun _ => ?_, fun g => absurd g (by simp)⟩;conv=>whnf
        refine ⟨hb2, ?_⟩;conv=>whnf
        refine ⟨hb3, ?_⟩;conv=>whnf
        refine br (fun gx => ?_) (fun gx => ?_)
        ·have hx := hbad gx
         conv=>whnf
         exact fin 0 0 10 _ _ (by rw [hget, if_pos (.inl hx)]) rfl
        ·have hx := hgood gx
         conv=>whnf
         exact fin _ _ 0 _ _ (by rw [hget, if_neg (by rintro (h | h); exact hx h; exact hr h), ← hu, ← he3]) rfl
    ·have gl : s.length ≤ a + i := by
      have h0 : ¬ IntKind.i64.wrap ((a : Int) + i) < (s.length : Int) := by simpa using gc
      rw [ew] at h0; omega
     have hz : decZ (s.drop a) 9 0 0 = none := by rw [hd, List.drop_of_length_le gl, zli]
     conv=>whnf
     exact fin 0 0 10 _ _ (hno hz) rfl
   ·have gi : i = 9 := by
     have h0 : ¬ (i : Int) < 9 := by simpa using gb
     omega
    subst gi
    have hz : decZ (s.drop a) 9 0 0 = none := by rw [hd]; cases s.drop (a + 9) <;> rfl
    conv=>whnf
    exact fin 0 0 10 _ _ (hno hz) rfl
 ·have g1 : p < 0 := by simpa using g
  conv=>whnf
  exact fin 0 0 2 _ _ (by rw [getI, if_pos (.inl g1)]) rfl
end Go.Proofs.YtblllibdahkgfaaGreatDoor

namespace Go.Proofs.YtblllibdahkgfaaGreatDoor
open Go Sx
set_option maxRecDepth 100000
set_option maxHeartbeats 4000000 in
theorem zp1 (F : Fz) (s : List UInt8) (p : Int) (hs : s.length ≤ 1000000000000000000) (hp : i64 p) :
  Fo Tryz.prog F 87 [.va (.str s), .va (.int .i64 p)] (fun o F' => o = .ret (.tup [.va (.str (getS s p).1), .va (.int .i64 (getS s p).2.1), .va (.int .i64 (getS s p).2.2)]) ∧ F' = F) := by
 have fin : ∀ (n : List UInt8) (x e : Int) (h : Hp) (nx : Nat), getS s p = (n, x, e) → lget h 0 = some (.frz F) →
   Cln 1 (FoK F fun o F' => o = .ret (.tup [.va (.str (getS s p).1), .va (.int .i64 (getS s p).2.1), .va (.int .i64 (getS s p).2.2)]) ∧ F' = F) (.ret (.tup [.va (.str n), .va (.int .i64 x), .va (.int .i64 e)])) h nx := by
  intro n x e h nx hv h0
  exact endFo (.ret (.tup [.va (.str n), .va (.int .i64 x), .va (.int .i64 e)])) F h0 (Fz.le_refl F) (Fz.le_refl F) ⟨by rw [hv], rfl⟩ (zar _) rfl
 have hi := zsn F s p hs hp
 have hok := @zd3 s p
 have hge : ∀ n x e, getI s p = (n, x, e) → getS s p = if e ≠ 0 then ([], 0, e) else if n < 0 ∨ 65536 < n ∨ (s.length : Int) - x < n then ([], 0, 10) else ((s.take (x + n).toNat).drop x.toNat, x + n, 0) := fun n x e h => by rw [getS, h]
 obtain ⟨n, x, e, hg⟩ : ∃ n x e, getI s p = (n, x, e) := ⟨_, _, _, rfl⟩
 have hge := hge n x e hg
 rw [hg] at hi hok
 replace hok : e = 0 → 0 ≤ p ∧ p < x ∧ x ≤ s.length ∧ -4611686018427387903 ≤ n ∧ n ≤ 4611686018427387903 := hok
 refine fo_of hΘ Tryz.func87 rfl (by decide) _ _ rfl rfl rfl ?_;conv=>whnf
 refine usePu (hi) rfl (zaf _) rfl ?_;conv=>whnf
 refine br (fun g => ?_) (fun g => ?_)
 ·have g1 : e ≠ 0 := by simpa using g
  conv=>whnf
  exact fin [] 0 e _ _ (by rw [hge, if_pos g1]) rfl
 ·have g1 : e = 0 := by simpa using g
  have hb := hok g1
  have hge2 : getS s p = if n < 0 ∨ 65536 < n ∨ (s.length : Int) - x < n then ([], 0, 10) else ((s.take (x + n).toNat).drop x.toNat, x + n, 0) := by rw [hge, if_neg (by simp [g1])]
  have ew : IntKind.i64.wrap ((s.length : Int) - x) = s.length - x := zai (by omega) (by omega)
  conv=>whnf
  refine ⟨fun ga => ?_, fun ga => ?_⟩
  ·have ga' : ¬ n < 0 := of_decide_eq_false ga
   conv=>whnf
   refine ⟨fun gb => ?_, fun gb => ?_⟩
   ·have gb' : ¬ 65536 < n := of_decide_eq_false gb
    conv=>whnf
    refine br (fun gc => ?_) (fun gc => ?_)
    ·have gc' : (s.length : Int) - x < n := by have h0 := of_decide_eq_true gc; rw [← ew]; exact h0
     conv=>whnf
     exact fin [] 0 10 _ _ (by rw [hge2, if_pos (.inr (.inr gc'))]) rfl
    ·have gc' : ¬ (s.length : Int) - x < n := by have h0 := of_decide_eq_false gc; rw [← ew]; exact h0
     have e2 : IntKind.i64.wrap (x + n) = x + n := zai (by omega) (by omega)
     conv=>whnf
     refine ⟨⟨by dsimp only; rw [e2]; omega, by dsimp only; rw [e2]; omega⟩, ⟨by dsimp only; omega, by dsimp only; rw [e2]; omega⟩, ?_⟩;conv=>whnf
     refine fin _ _ 0 _ _ ?_ rfl
     rw [hge2, if_neg (by omega), e2]
   ·have gb' : 65536 < n := of_decide_eq_true gb
    conv=>whnf
    exact fin [] 0 10 _ _ (by rw [hge2, if_pos (.inr (.inl gb'))]) rfl
  ·have ga' : n < 0 := of_decide_eq_true ga
   conv=>whnf
   exact fin [] 0 10 _ _ (by rw [hge2, if_pos (.inl ga')]) rfl
end Go.Proofs.YtblllibdahkgfaaGreatDoor

namespace Go.Proofs.YtblllibdahkgfaaGreatDoor
open Go Sx
set_option maxRecDepth 100000
def rrd (s : List UInt8) (p : Int) (b : Bool) : Ent := .one (.cells 102 [.str s, .int .i64 p, .lit b])
theorem zaq {n : Nat} (s : List UInt8) (p : Int) (b : Bool) : (rrd s p b).below n := (SB.bB_ok rfl : SB.below n (.cells 102 [.str s, .int .i64 p, .lit b]))
def rdNum (s : List UInt8) (p : Int) (b : Bool) : Int × Int × Bool := if b = true ∨ (getI s p).2.2 ≠ 0 then (0, p, true) else ((getI s p).1, (getI s p).2.1, false)
def rdTxt (s : List UInt8) (p : Int) (b : Bool) : List UInt8 × Int × Bool := if b = true ∨ (getS s p).2.2 ≠ 0 then ([], p, true) else ((getS s p).1, (getS s p).2.1, false)
set_option maxHeartbeats 4000000 in
theorem zbi (F : Fz) (s : List UInt8) (p : Int) (b : Bool) (hs : s.length ≤ 1000000000000000000) (hp : i64 p) :
  Ct Tryz.prog 55 [.va (.ptr ⟨1, 0, 0, 0, 0⟩)] F [(1, rrd s p b)] 2
   (fun o F0 h0 n0 => F = F0 ∧ n0 = 2 ∧ o = .ret (.va (.int .i64 (rdNum s p b).1)) ∧ h0 = [(1, rrd s (rdNum s p b).2.1 (rdNum s p b).2.2)]) := by
 have hi1 := zsn F s p hs hp
 obtain ⟨n, x, e, hg⟩ : ∃ n x e, getI s p = (n, x, e) := ⟨_, _, _, rfl⟩
 rw [hg] at hi1
 have hbad : b = true ∨ e ≠ 0 → rdNum s p b = (0, p, true) := fun h => by rw [rdNum, hg, if_pos h]
 have hgood : b = false → e = 0 → rdNum s p b = (n, x, false) := fun h1 h2 => by rw [rdNum, hg, if_neg (by rintro (h | h); rw [h1] at h; cases h; exact h h2)]
 refine ct_of hΘ Tryz.func55 rfl (by decide) _ _ rfl rfl rfl ?_;conv=>whnf
 refine drawP hΘ mixed (.look 0 (.look 1 (.look 2 (.look 3 (.look 4 (.look 5 (.look 6 (.look 7 (.alt 8 (.look 9 (.look 10 (.look 11 (.look 12 (.look 13 (.look 14 (.look 15 .done))))))) .nil))))))))) [1] (by kernel_rfl) ?_;conv=>whnf
 repeat' ((conv=>whnf); first
  | refine ⟨rfl, ?_⟩
  | refine ⟨Fz.le_refl _, rfl, ?_⟩
  | refine ⟨Fz.le_refl _, rfl, rfl, ?_⟩
  | refine ⟨⟨by simp, by simp⟩, ?_⟩
  | fail)
 conv=>whnf
 refine usePu (hi1) rfl (zaf _) rfl ?_;conv=>whnf
 refine ⟨Fz.le_refl F, rfl, ?_⟩;conv=>whnf
 rcases b with _ | _
 ·conv=>whnf
  refine br (fun ge => ?_) (fun ge => ?_)
  ·have ge' : e ≠ 0 := by simpa using ge
   conv=>whnf
   refine clean [] (.ret (.va (.int .i64 0))) F [(1, rrd s p true)] 2 ⟨Fz.le_refl F, rfl, rfl, ?_⟩ (zar _) rfl rfl trivial ⟨zaq s _ _, trivial⟩ ⟨Fz.le_refl F, rfl, trivial⟩
   rw [hbad (.inr ge')]; exact ⟨rfl, rfl⟩
  ·have ge' : e = 0 := by simpa using ge
   conv=>whnf
   refine clean [] (.ret (.va (.int .i64 n))) F [(1, rrd s x false)] 2 ⟨Fz.le_refl F, rfl, rfl, ?_⟩ (zar _) rfl rfl trivial ⟨zaq s _ _, trivial⟩ ⟨Fz.le_refl F, rfl, trivial⟩
   rw [hgood rfl ge']; exact ⟨rfl, rfl⟩
 ·conv=>whnf
  refine clean [] (.ret (.va (.int .i64 0))) F [(1, rrd s p true)] 2 ⟨Fz.le_refl F, rfl, rfl, ?_⟩ (zar _) rfl rfl trivial ⟨zaq s _ _, trivial⟩ ⟨Fz.le_refl F, rfl, trivial⟩
  rw [hbad (.inl rfl)]; exact ⟨rfl, rfl⟩
set_option maxHeartbeats 4000000 in
theorem zlc (F : Fz) (s : List UInt8) (p : Int) (b : Bool) (hs : s.length ≤ 1000000000000000000) (hp : i64 p) :
  Ct Tryz.prog 56 [.va (.ptr ⟨1, 0, 0, 0, 0⟩)] F [(1, rrd s p b)] 2
   (fun o F0 h0 n0 => F = F0 ∧ n0 = 2 ∧ o = .ret (.va (.str (rdTxt s p b).1)) ∧ h0 = [(1, rrd s (rdTxt s p b).2.1 (rdTxt s p b).2.2)]) := by
 have hi1 := zp1 F s p hs hp
 obtain ⟨n, x, e, hg⟩ : ∃ n x e, getS s p = (n, x, e) := ⟨_, _, _, rfl⟩
 rw [hg] at hi1
 have hbad : b = true ∨ e ≠ 0 → rdTxt s p b = ([], p, true) := fun h => by rw [rdTxt, hg, if_pos h]
 have hgood : b = false → e = 0 → rdTxt s p b = (n, x, false) := fun h1 h2 => by rw [rdTxt, hg, if_neg (by rintro (h | h); rw [h1] at h; cases h; exact h h2)]
 refine ct_of hΘ Tryz.func56 rfl (by decide) _ _ rfl rfl rfl ?_;conv=>whnf
 refine drawP hΘ mixed (.look 0 (.look 1 (.look 2 (.look 3 (.look 4 (.look 5 (.look 6 (.look 7 (.alt 8 (.look 9 (.look 10 (.look 11 (.look 12 (.look 13 (.look 14 (.look 15 .done))))))) .nil))))))))) [1] (by kernel_rfl) ?_;conv=>whnf
 repeat' ((conv=>whnf); first
  | refine ⟨rfl, ?_⟩
  | refine ⟨Fz.le_refl _, rfl, ?_⟩
  | refine ⟨Fz.le_refl _, rfl, rfl, ?_⟩
  | refine ⟨⟨by simp, by simp⟩, ?_⟩
  | fail)
 conv=>whnf
 refine usePu (hi1) rfl (zaf _) rfl ?_;conv=>whnf
 refine ⟨Fz.le_refl F, rfl, ?_⟩;conv=>whnf
 rcases b with _ | _
 ·conv=>whnf
  refine br (fun ge => ?_) (fun ge => ?_)
  ·have ge' : e ≠ 0 := by simpa using ge
   conv=>whnf
   refine clean [] (.ret (.va (.str []))) F [(1, rrd s p true)] 2 ⟨Fz.le_refl F, rfl, rfl, ?_⟩ (zar _) rfl rfl trivial ⟨zaq s _ _, trivial⟩ ⟨Fz.le_refl F, rfl, trivial⟩
   rw [hbad (.inr ge')]; exact ⟨rfl, rfl⟩
  ·have ge' : e = 0 := by simpa using ge
   conv=>whnf
   refine clean [] (.ret (.va (.str n))) F [(1, rrd s x false)] 2 ⟨Fz.le_refl F, rfl, rfl, ?_⟩ (zar _) rfl rfl trivial ⟨zaq s _ _, trivial⟩ ⟨Fz.le_refl F, rfl, trivial⟩
   rw [hgood rfl ge']; exact ⟨rfl, rfl⟩
 ·conv=>whnf
  refine clean [] (.ret (.va (.str []))) F [(1, rrd s p true)] 2 ⟨Fz.le_refl F, rfl, rfl, ?_⟩ (zar _) rfl rfl trivial ⟨zaq s _ _, trivial⟩ ⟨Fz.le_refl F, rfl, trivial⟩
  rw [hbad (.inl rfl)]; exact ⟨rfl, rfl⟩
def colN (p : Int) : Nat := if p = 2 then 1 else if p = 3 ∨ p = 5 then 3 else if p = 4 then 4 else 0
theorem zcm (p : Int) : Pu Tryz.prog 57 [.va (.int .i64 p)] (.va (.int .i64 (colN p : Nat))) := by
 intro F
 have h2 : p = 2 → colN p = 1 := fun h => by rw [colN, if_pos h]
 have h3 : p = 3 ∨ p = 5 → colN p = 3 := fun h => by rw [colN, if_neg (by omega), if_pos h]
 have h4 : p = 4 → colN p = 4 := fun h => by rw [colN, if_neg (by omega), if_neg (by omega), if_pos h]
 have h0 : ¬ p = 2 → ¬ p = 3 → ¬ p = 5 → ¬ p = 4 → colN p = 0 := fun a b c d => by rw [colN, if_neg a, if_neg (by omega), if_neg d]
 have e2 : ∀ h : p = 2, ((colN p : Nat) : Int) = 1 := fun h => by rw [h2 h]; rfl
 have e3 : ∀ h : p = 3 ∨ p = 5, ((colN p : Nat) : Int) = 3 := fun h => by rw [h3 h]; rfl
 have e4 : ∀ h : p = 4, ((colN p : Nat) : Int) = 4 := fun h => by rw [h4 h]; rfl
 have e0 : ¬ p = 2 → ¬ p = 3 → ¬ p = 5 → ¬ p = 4 → ((colN p : Nat) : Int) = 0 := fun a b c d => by rw [h0 a b c d]; rfl
 clear h2 h3 h4 h0
 refine fo_of hΘ Tryz.func57 rfl (by decide) _ _ rfl rfl rfl ?_;conv=>whnf
 refine br (fun g => ?_) (fun g => ?_)
 ·conv=>whnf
  exact endPu rfl (Fz.le_refl F) (congrArg (SA.int .i64) (e2 (of_decide_eq_true g))) rfl
 ·have g2 : ¬ p = 2 := of_decide_eq_false g
  conv=>whnf
  refine br (fun g => ?_) (fun g => ?_)
  ·conv=>whnf
   refine br (fun _ => ?_) (fun g' => absurd (of_decide_eq_true g) (of_decide_eq_false g'));conv=>whnf
   exact endPu rfl (Fz.le_refl F) (congrArg (SA.int .i64) (e3 (.inl (of_decide_eq_true g)))) rfl
  ·have g3 : ¬ p = 3 := of_decide_eq_false g
   conv=>whnf
   refine br (fun g => ?_) (fun g => ?_)
   ·conv=>whnf
    exact endPu rfl (Fz.le_refl F) (congrArg (SA.int .i64) (e3 (.inr (of_decide_eq_true g)))) rfl
   ·have g5 : ¬ p = 5 := of_decide_eq_false g
    conv=>whnf
    refine br (fun g => ?_) (fun g => ?_)
    ·conv=>whnf
     exact endPu rfl (Fz.le_refl F) (congrArg (SA.int .i64) (e4 (of_decide_eq_true g))) rfl
    ·have g4 : ¬ p = 4 := of_decide_eq_false g
     conv=>whnf
     exact endPu rfl (Fz.le_refl F) (congrArg (SA.int .i64) (e0 g2 g3 g5 g4)) rfl
end Go.Proofs.YtblllibdahkgfaaGreatDoor

namespace Go.Proofs.YtblllibdahkgfaaGreatDoor
open Go Sx
set_option maxRecDepth 100000
abbrev RLn := List UInt8 × Int × Int × Int × Int
def encL (x : RLn) : List SA := [.str x.1, .int .i64 x.2.1, .int .i64 x.2.2.1, .int .i64 x.2.2.2.1, .int .i64 x.2.2.2.2]
theorem zaa : Plain encL := fun x => ⟨fun μ => rfl, fun a ha => by
 simp [encL] at ha
 rcases ha with rfl | rfl | rfl | rfl | rfl <;> trivial⟩
def inR (n lo hi : Int) : Bool := decide (lo ≤ n) && decide (n ≤ hi)
def zeh (l : List RLn) (x : RLn) : Bool :=
 match l.getLast? with
 | none => true
 | some y => !(decide (x.2.1 < y.2.1) || (decide (y.2.1 = x.2.1) && decide (x.2.2.1 ≤ y.2.2.1)))
def fitsR (p : Int) (l : List RLn) (x : RLn) : Bool :=
 if p = 1 then x.1.all (fun b => decide (32 ≤ b.toNat) && decide (b.toNat ≤ 126)) && decide (x.1.length ≤ 80)
 else if p = 2 then inR x.2.1 0 7
 else if inR x.2.1 0 31 = true ∧ inR x.2.2.1 0 31 = true ∧ zeh l x = true then
  if p = 3 then inR x.2.2.2.1 (-1000000) 1000000 else if p = 5 then inR x.2.2.2.1 (-1000000000000) 1000000000000 else inR x.2.2.2.1 0 x.2.1 && inR x.2.2.2.2 0 x.2.2.1
 else false
theorem zb3 {n lo hi : Int} {b : Bool} (h : inR n lo hi = b) (F : Fz) : Fo Tryz.prog F 45 [.va (.int .i64 n), .va (.int .i64 lo), .va (.int .i64 hi)] (fun o F' => o = .ret (.va (.lit b)) ∧ F' = F) := by
 have h1 := zfg n lo hi F
 rw [show (decide (lo ≤ n) && decide (n ≤ hi)) = b from h] at h1
 exact zh3 h1
theorem zpe (x : RLn) : zeh [] x = true := rfl
theorem zka {p : Int} {l : List RLn} {x : RLn} (g1 : ¬ p = 1) (g2 : ¬ p = 2) (h : inR x.2.1 0 31 = false ∨ inR x.2.2.1 0 31 = false ∨ zeh l x = false) : fitsR p l x = false := by
 rw [fitsR, if_neg g1, if_neg g2, if_neg]
 rintro ⟨h1, h2, h3⟩
 rcases h with h | h | h
 ·rw [h1] at h; cases h
 ·rw [h2] at h; cases h
 ·rw [h3] at h; cases h
theorem zqn {p : Int} {l : List RLn} {x : RLn} (g : p = 3) (h1 : inR x.2.1 0 31 = true) (h2 : inR x.2.2.1 0 31 = true) (h3 : zeh l x = true) : fitsR p l x = inR x.2.2.2.1 (-1000000) 1000000 := by
 rw [fitsR, if_neg (by omega), if_neg (by omega), if_pos ⟨h1, h2, h3⟩, if_pos g]
theorem zra {p : Int} {l : List RLn} {x : RLn} (g : p = 5) (h1 : inR x.2.1 0 31 = true) (h2 : inR x.2.2.1 0 31 = true) (h3 : zeh l x = true) : fitsR p l x = inR x.2.2.2.1 (-1000000000000) 1000000000000 := by
 rw [fitsR, if_neg (by omega), if_neg (by omega), if_pos ⟨h1, h2, h3⟩, if_neg (by omega), if_pos g]
theorem zsa {p : Int} {l : List RLn} {x : RLn} (g1 : ¬ p = 1) (g2 : ¬ p = 2) (g3 : ¬ p = 3) (g5 : ¬ p = 5) (h1 : inR x.2.1 0 31 = true) (h2 : inR x.2.2.1 0 31 = true) (h3 : zeh l x = true) : fitsR p l x = (inR x.2.2.2.1 0 x.2.1 && inR x.2.2.2.2 0 x.2.2.1) := by
 rw [fitsR, if_neg g1, if_neg g2, if_pos ⟨h1, h2, h3⟩, if_neg g3, if_neg g5]
end Go.Proofs.YtblllibdahkgfaaGreatDoor
