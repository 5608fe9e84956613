import Derived.Test.YtblllibdahkgfaaGreatDoorK23
import Derived.Test.YtblllibdahkgfaaGreatDoorK21

namespace Go.Proofs.YtblllibdahkgfaaGreatDoor
open Go Sx
theorem znf {p : Int} {v : Val} (h : VOK p v) (hl : v.lost = true) : v = loseV := by
 rcases h with rfl | ⟨h, _⟩
 ·rfl
 ·rw [h] at hl; cases hl
def sts (p : Int) : List Stp :=
 (6, 0) :: if p = 1 then [(1, 0), (2, 0)] else if p = 2 then [(4, 0), (4, 1), (4, 2), (4, 3), (4, 4), (4, 5), (4, 6)] else if p = 3 ∨ p = 5 then [(3, 10), (3, 100), (3, 1000)] else if p = 6 ∨ p = 7 then [(5, 0)] else []
theorem p8 {p : Int} (hp : 1 ≤ p ∧ p ≤ 8) : p = 1 ∨ p = 2 ∨ p = 3 ∨ p = 4 ∨ p = 5 ∨ p = 6 ∨ p = 7 ∨ p = 8 := by omega
end Go.Proofs.YtblllibdahkgfaaGreatDoor

namespace Go.Proofs.YtblllibdahkgfaaGreatDoor
open Go Sx
theorem zma {p : Int} {l : List Stp} {v : Val} (hl : zbl p l = true) (hv : VOK p v) : zdt p l (zay p v) = (zay p (runS l v), 0) := by
 rw [zdt, if_pos hl, zf4 (zmv hl) hv]
theorem zw6 {p : Int} {l : List Stp} {v : Val} (hl : zbl p l = true) (hv : VOK p v) : VOK p (runS l v) := zj7 (zmv hl) l v (znb hl) hv
instance decNums (p : Int) : ∀ (l acc : List Int), Decidable (zdw p acc l)
 | [], _ => isTrue trivial
 | x :: r, acc => @instDecidableAnd _ _ inferInstance (decNums p r (acc ++ [x]))
instance decLn (p : Int) (before : List Ln) (x : Ln) : Decidable (lnOk p before x) := by
 unfold lnOk
 have : Decidable (∀ y, before.getLast? = some y → cmpL (y.2.take 2) (x.2.take 2) < 0) := by
  cases h : before.getLast? with
  | none => exact isTrue (fun y hy => by cases hy)
  | some z =>
   by_cases hz : cmpL (z.2.take 2) (x.2.take 2) < 0
   ·exact isTrue (fun y hy => by cases hy; exact hz)
   ·exact isFalse (fun hy => hz (hy z rfl))
 infer_instance
instance decLns (p : Int) : ∀ (l acc : List Ln), Decidable (lnsOk p acc l)
 | [], _ => isTrue trivial
 | x :: r, acc => @instDecidableAnd _ _ (decLn p acc x) (decLns p r (acc ++ [x]))
def VOK1 (p : Int) (v : Val) : Prop := v.lost = false ∧
  if p = 8 then v.lines = [] ∧ v.bits = [] ∧ (0 ≤ v.w ∧ v.w ≤ 64) ∧ (0 ≤ v.h ∧ v.h ≤ 64)
  else if 6 ≤ p then v.lines = [] ∧ (0 ≤ v.w ∧ v.w ≤ 32) ∧ (min v.w 1 ≤ v.h ∧ v.h ≤ min v.w 1 * 32) ∧ (if p = 7 then (v.bits.length : Int) = v.w * v.h ∧ v.bits.all (fun b => b == 48 || b == 49) = true else v.bits = [])
  else v.w = 0 ∧ v.h = 0 ∧ v.bits = [] ∧ v.lines.length ≤ 64 ∧ lnsOk p [] v.lines
theorem VOK1.ok {p : Int} {v : Val} (h : VOK1 p v) : VOK p v := .inr h
instance decVOK (p : Int) (v : Val) : Decidable (VOK1 p v) := by unfold VOK1; infer_instance
end Go.Proofs.YtblllibdahkgfaaGreatDoor

namespace Go.Proofs.YtblllibdahkgfaaGreatDoor
open Go Sx
theorem zr2 (c : Int) {n : Int} (hn : 0 < n) : 0 ≤ pickI c n ∧ pickI c n < n := by
 unfold pickI
 split
 ·exact ⟨Int.tmod_nonneg _ (by omega), Int.tmod_lt_of_pos _ hn⟩
 ·exact ⟨Int.tmod_nonneg _ (by omega), Int.tmod_lt_of_pos _ hn⟩
theorem zoj {p : Int} (hp : 1 ≤ p ∧ p ≤ 8) : ∀ s ∈ sts p, zbu p s = true := by
 rcases p8 hp with rfl | rfl | rfl | rfl | rfl | rfl | rfl | rfl <;> decide +kernel
theorem zp5 {p : Int} (hp : 1 ≤ p ∧ p ≤ 8) (x : Int) : ∀ s ∈ stepOf p x, s ∈ sts p := by
 intro s hs
 have hk := zr2 (x.tdiv 8) (n := 21) (by decide)
 unfold stepOf at hs
 unfold sts
 split at hs
 ·split at hs
  ·rename_i h1
   rw [if_pos h1]
   have h2 : 0 ≤ (pickI (x.tdiv 8) 21).tmod 2 := Int.tmod_nonneg _ hk.1
   have h3 : (pickI (x.tdiv 8) 21).tmod 2 < 2 := Int.tmod_lt_of_pos _ (by decide)
   have hc : (pickI (x.tdiv 8) 21).tmod 2 = 0 ∨ (pickI (x.tdiv 8) 21).tmod 2 = 1 := by omega
   rw [List.mem_singleton] at hs
   subst hs
   rcases hc with h | h <;> rw [h] <;> simp
  rename_i n1
  split at hs
  ·rename_i h2'
   rw [if_neg n1, if_pos h2']
   have h2 : 0 ≤ (pickI (x.tdiv 8) 21).tmod 7 := Int.tmod_nonneg _ hk.1
   have h3 : (pickI (x.tdiv 8) 21).tmod 7 < 7 := Int.tmod_lt_of_pos _ (by decide)
   obtain ⟨m, hm⟩ : ∃ m, (pickI (x.tdiv 8) 21).tmod 7 = m := ⟨_, rfl⟩
   rw [hm] at h2 h3 hs
   rw [List.mem_singleton] at hs
   subst hs
   have hc : m = 0 ∨ m = 1 ∨ m = 2 ∨ m = 3 ∨ m = 4 ∨ m = 5 ∨ m = 6 := by omega
   rcases hc with rfl | rfl | rfl | rfl | rfl | rfl | rfl <;> simp
  rename_i n2
  split at hs
  ·rename_i h3
   rw [if_neg n1, if_neg n2, if_pos h3]
   rw [List.mem_singleton] at hs
   subst hs
   split
   ·simp
   ·split <;> simp
  rename_i n3
  split at hs
  ·rename_i h4
   rw [if_neg n1, if_neg n2, if_neg n3, if_pos h4]
   rw [List.mem_singleton] at hs
   subst hs; simp
  ·exact absurd hs (by simp)
 ·rw [List.mem_singleton] at hs
  subst hs; simp
theorem zlt {p : Int} (hp : 1 ≤ p ∧ p ≤ 8) (x : List Int) : zbl p (zev p x) = true := by
 refine zsk hp ?_ ?_
 ·have := zfz p (x.take 8)
  rw [List.length_take] at this
  unfold zev; omega
 ·intro s hs
  unfold zev at hs
  obtain ⟨l, hl, hs⟩ := List.mem_flatten.1 hs
  obtain ⟨a, _, rfl⟩ := List.mem_map.1 hl
  exact zoj hp s (zp5 hp a s hs)
end Go.Proofs.YtblllibdahkgfaaGreatDoor

namespace Go.Proofs.YtblllibdahkgfaaGreatDoor
open Go Sx
set_option maxRecDepth 100000
theorem zoy {p : Int} {v : Val} (hv : Fits v) : (zay p v).length ≤ 100000000000 := by
 unfold zay
 split
 ·simp
 split
 ·have h1 := zdj [v.w, v.h]
  have h2 := zbv v.bits
  rw [List.length_append]
  simp only [List.length_cons, List.length_nil] at h1
  split
  ·omega
  ·simp only [List.length_nil]; omega
 ·have h1 := zdj [(v.lines.length : Int)]
  have h2 := zgc (p := p) v.lines (fun x hx => (hv.h2 x hx).2)
  have h3 := hv.h1
  rw [List.length_append]
  simp only [List.length_cons, List.length_nil] at h1
  have h4 : 74545 * v.lines.length ≤ 74545 * 1000 := Nat.mul_le_mul_left _ h3
  omega
theorem zge {p : Int} {v : Val} (hp : 1 ≤ p ∧ p ≤ 8) (hv : VOK p v) : (zay p v).length ≤ 1000000000000000000 := by
 have := zoy (p := p) (zq7 hp hv); omega
theorem zhn {p : Int} {l : List Stp} (h : zbl p l = true) : l.length < 1000000 := by have := zf2 h; omega
theorem zuv {q : Int} {a : List Stp} (ha : zbl q a = true) (F : Fz) (sa : SA) (sA : za4 F sa a) :
  Fo Tryz.prog F 15 [.va (.int .i64 q), .va sa] (fun o F' => ∃ sc, o = .ret (.tup [.va sc, .va (.int .i64 0)]) ∧ za4 F' sc (normS a)) := by
 have h := zi3 F sa a q sA (zhn ha)
 rw [normR, if_pos ha] at h
 exact h
theorem zpo {q : Int} {l : List Stp} {v : Val} (hl : zbl q l = true) (hv : VOK q v) (F : Fz) (hM : MLF F) (sa : SA) (sA : za4 F sa l) :
  Fo Tryz.prog F 26 [.va (.int .i64 q), .va sa, .va (.str (zay q v))] (fun o F' => o = .ret (.tup [.va (.str (zay q (runS l v))), .va (.int .i64 0)])) := by
 have h := zje F hM sa l q (zay q v) sA (zhn hl) (zge (zmv hl) hv)
 rw [zma hl hv] at h
 exact h
theorem saneL (F : Fz) (hM : MLF F) : Fo Tryz.prog F 11 [] (fun o F' => o = .ret (.va (.lit true)) ∧ True) := zhg (zwg F hM)
abbrev zr1 (F0 : Fz) (s : SA) (x : List Int) : Prop := ∀ (P : Int) G, 1 ≤ P ∧ P ≤ 8 → Fz.le F0 G → Fo Tryz.prog G 14 [.va (.int .i64 P), .va s] (fun o F' => ∃ sc, o = .ret (.va sc) ∧ za4 F' sc (zev P x))
abbrev zrq (F0 : Fz) (s : SA) : Prop := ∀ (P : Int) G, 1 ≤ P ∧ P ≤ 8 → Fz.le F0 G → Fo Tryz.prog G 24 [.va (.int .i64 P), .va s] (fun o F' => ∃ v, VOK P v ∧ o = .ret (.va (.str (zay P v))))
end Go.Proofs.YtblllibdahkgfaaGreatDoor

namespace Go.Proofs.YtblllibdahkgfaaGreatDoor
open Go Sx
set_option maxRecDepth 100000
end Go.Proofs.YtblllibdahkgfaaGreatDoor
