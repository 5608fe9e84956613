import Derived.Test.YtblllibdahkgfaaGreatDoorK23
import Derived.Test.YtblllibdahkgfaaGreatDoorK24
import Derived.Test.YtblllibdahkgfaaGreatDoorK25
import Derived.Test.YtblllibdahkgfaaGreatDoorK22

namespace Go.Proofs.YtblllibdahkgfaaGreatDoor
open Go Sx
set_option maxRecDepth 100000
abbrev Q4 := Int × Int × Int × Int
def ints4 (x : List Q4) : List Int := (x.map fun q => [q.1, q.2.1, q.2.2.1, q.2.2.2]).flatten
theorem zga (q : Q4) (r : List Q4) : ints4 (q :: r) = q.1 :: q.2.1 :: q.2.2.1 :: q.2.2.2 :: ints4 r := rfl
theorem zg3 : ∀ l : List Q4, (ints4 l).length = l.length * 4
 | [] => rfl
 | q :: r => by
  have := zg3 r
  rw [zga]
  simp only [List.length_cons]; omega
theorem zj4 : ∀ (l : List Q4) (k : Nat), (ints4 l)[k * 4]? = (l[k]?).map (·.1) ∧ (ints4 l)[k * 4 + 1]? = (l[k]?).map (·.2.1) ∧ (ints4 l)[k * 4 + 2]? = (l[k]?).map (·.2.2.1) ∧ (ints4 l)[k * 4 + 3]? = (l[k]?).map (·.2.2.2)
 | [], k => by simp [ints4]
 | q :: r, 0 => by rw [zga]; exact ⟨rfl, rfl, rfl, rfl⟩
 | q :: r, k + 1 => by
  have h := zj4 r k
  rw [zga]
  have e : (k + 1) * 4 = k * 4 + 4 := by omega
  rw [e]
  exact h
theorem RawAt.quad {F : Fz} {b off : Nat} {x : List Q4} (h : RawAt F b off (ints4 x)) : ∃ B, ∀ (k : Nat) (g : k < x.length), F b = some B ∧ RawB B (off + k * 4) x[k].1 ∧ RawB B (off + k * 4 + 1) x[k].2.1 ∧ RawB B (off + k * 4 + 2) x[k].2.2.1 ∧ RawB B (off + k * 4 + 3) x[k].2.2.2 := by
 have hro := h.rdO
 obtain ⟨B, hB⟩ := hro
 refine ⟨B, fun k g => ?_⟩
 have hl := zg3 x
 obtain ⟨a0, a1, a2, a3⟩ := zj4 x k
 rw [List.getElem?_eq_getElem g] at a0 a1 a2 a3
 have h0 := hB (k * 4) (by omega)
 have h1 := hB (k * 4 + 1) (by omega)
 have h2 := hB (k * 4 + 2) (by omega)
 have h3 := hB (k * 4 + 3) (by omega)
 rw [(List.getElem?_eq_some_iff.1 a0).2] at h0
 rw [(List.getElem?_eq_some_iff.1 a1).2] at h1
 rw [(List.getElem?_eq_some_iff.1 a2).2] at h2
 rw [(List.getElem?_eq_some_iff.1 a3).2] at h3
 exact ⟨h0.1, h0.2, h1.2, h2.2, h3.2⟩
def ofR (p : Int) (x : RLn) : Ln := if p = 1 then (x.1, []) else ([], (numsOf x).take (colN p))
def ofV (p : Int) (v : RVal) : Val := ⟨v.lost, v.lines.map (ofR p), v.w, v.h, v.bits⟩
theorem zpr (p : Int) (x : RLn) : zbc p x = lineW p (ofR p x) := by
 unfold zbc lineW ofR
 by_cases h : p = 1
 ·subst h; rfl
 ·rw [if_neg h, if_neg h, if_neg h]; rfl
theorem zb8 (p : Int) (v : RVal) : zar p v = zay p (ofV p v) := by
 unfold zar zay
 show (if v.lost = true then [] else _) = (if v.lost = true then [] else _)
 by_cases hl : v.lost = true
 ·rw [if_pos hl, if_pos hl]
 rw [if_neg hl, if_neg hl]
 by_cases h6 : 6 ≤ p
 ·rw [if_pos h6, if_pos h6]
  show _ = ((putIR v.w).1 ++ ((putIR v.h).1 ++ [])) ++ _
  rw [List.append_nil]; rfl
 ·rw [if_neg h6, if_neg h6]
  show (putIR (v.lines.length : Nat)).1 ++ _ = ((putIR (((v.lines.map (ofR p)).length : Nat) : Int)).1 ++ []) ++ ((v.lines.map (ofR p)).map (lineW p)).flatten
  rw [List.append_nil, List.length_map, List.map_map]
  congr 2
  exact List.map_congr_left fun x _ => zpr p x
theorem zlf {p : Int} : cols p = colN p := by
 unfold cols colN
 by_cases h2 : p = 2
 ·rw [if_pos h2, if_pos h2]
 rw [if_neg h2, if_neg h2]
 by_cases h3 : p = 3
 ·rw [if_pos h3, if_pos (.inl h3)]
 by_cases h5 : p = 5
 ·rw [if_neg h3, if_neg (by omega), if_pos h5, if_pos (.inr h5)]
 rw [if_neg h3, if_neg (show ¬ (p = 3 ∨ p = 5) by omega)]
 by_cases h4 : p = 4
 ·rw [if_pos h4, if_pos h4]
 ·rw [if_neg h4, if_neg h4, if_neg h5]
theorem zbe {n lo hi : Int} : inR n lo hi = true ↔ lo ≤ n ∧ n ≤ hi := by
 unfold inR; simp
theorem cmp2 (a b c d : Int) : cmpL [a, b] [c, d] < 0 ↔ a < c ∨ (a = c ∧ b < d) := by
 unfold cmpL cmpL cmpL cmpI
 by_cases h1 : a < c
 ·simp [h1]
 ·by_cases h2 : c < a
  ·simp [h1, h2]; omega
  ·have : a = c := by omega
   subst this
   by_cases h3 : b < d
   ·simp [h3]
   ·by_cases h4 : d < b
    ·simp [h3, h4]
    ·simp [h3, h4]
theorem zpf {p : Int} (h3 : p = 3 ∨ p = 4 ∨ p = 5) (L : List RLn) (x : RLn) : zd6 L x = true ↔ ∀ y, (L.map (ofR p)).getLast? = some y → cmpL (y.2.take 2) ((ofR p x).2.take 2) < 0 := by
 have ht : ∀ z : RLn, (ofR p z).2.take 2 = [z.2.1, z.2.2.1] := fun z => by
  rcases h3 with rfl | rfl | rfl <;> rfl
 rw [getLast?_map', ht]
 unfold zd6
 cases hl : L.getLast? with
 | none => simp
 | some y =>
  have e : (∀ y', (some y).map (ofR p) = some y' → cmpL (y'.2.take 2) [x.2.1, x.2.2.1] < 0) ↔ cmpL ((ofR p y).2.take 2) [x.2.1, x.2.2.1] < 0 := by
   simp
  rw [e, ht, cmp2]
  simp
  omega
theorem zjl {p : Int} (hp : 1 ≤ p ∧ p ≤ 5) (L : List RLn) (x : RLn) : fitsR p L x = true ↔ lnOk p (L.map (ofR p)) (ofR p x) := by
 by_cases h1 : p = 1
 ·subst h1
  have e : x.1.any badC = false ↔ x.1.all (fun b => decide (32 ≤ b.toNat) && decide (b.toNat ≤ 126)) = true := by
   rw [List.any_eq_false, List.all_eq_true]
   simp [badC]
  unfold fitsR lnOk
  rw [if_pos rfl, if_pos rfl]
  show _ ↔ ([] : List Int) = [] ∧ x.1.length ≤ 80 ∧ x.1.any badC = false
  rw [e, Bool.and_eq_true, decide_eq_true_eq]
  exact ⟨fun h => ⟨rfl, h.2, h.1⟩, fun h => ⟨h.2.2, h.2.1⟩⟩
 by_cases h2 : p = 2
 ·subst h2
  unfold fitsR lnOk
  rw [if_neg (by decide), if_pos rfl, if_neg (by decide), zbe]
  show _ ↔ ([] : List UInt8) = [] ∧ [x.2.1].length = 1 ∧ (((bnd 2 []).1 ≤ x.2.1 ∧ x.2.1 ≤ (bnd 2 []).2) ∧ True) ∧ _
  exact ⟨fun h => ⟨rfl, rfl, ⟨h, trivial⟩, fun h => absurd rfl h⟩, fun h => h.2.2.1.1⟩
 have h3 : p = 3 ∨ p = 4 ∨ p = 5 := by omega
 have ha := zpf h3 L x
 unfold fitsR lnOk
 rw [if_neg h1, if_neg h2, if_neg h1]
 rcases h3 with rfl | rfl | rfl
 ·show (if _ then inR x.2.2.2.1 (-1000000) 1000000 else false) = true ↔ ([] : List UInt8) = [] ∧ [x.2.1, x.2.2.1, x.2.2.2.1].length = 3 ∧ (((0 : Int) ≤ x.2.1 ∧ x.2.1 ≤ 31) ∧ ((0 : Int) ≤ x.2.2.1 ∧ x.2.2.1 ≤ 31) ∧ ((-1000000 : Int) ≤ x.2.2.2.1 ∧ x.2.2.2.1 ≤ 1000000) ∧ True) ∧ _
  constructor
  ·intro h
   split at h
   ·rename_i hc; exact ⟨rfl, rfl, ⟨zbe.1 hc.1, zbe.1 hc.2.1, zbe.1 h, trivial⟩, fun _ => ha.1 hc.2.2⟩
   ·cases h
  ·rintro ⟨_, _, ⟨a1, a2, a3, _⟩, a4⟩
   rw [if_pos ⟨zbe.2 a1, zbe.2 a2, ha.2 (a4 (by decide))⟩]; exact zbe.2 a3
 ·show (if _ then inR x.2.2.2.1 0 x.2.1 && inR x.2.2.2.2 0 x.2.2.1 else false) = true ↔ ([] : List UInt8) = [] ∧ [x.2.1, x.2.2.1, x.2.2.2.1, x.2.2.2.2].length = 4 ∧ (((0 : Int) ≤ x.2.1 ∧ x.2.1 ≤ 31) ∧ ((0 : Int) ≤ x.2.2.1 ∧ x.2.2.1 ≤ 31) ∧ ((0 : Int) ≤ x.2.2.2.1 ∧ x.2.2.2.1 ≤ x.2.1) ∧ ((0 : Int) ≤ x.2.2.2.2 ∧ x.2.2.2.2 ≤ x.2.2.1) ∧ True) ∧ _
  constructor
  ·intro h
   split at h
   ·rename_i hc
    rw [Bool.and_eq_true, zbe, zbe] at h
    exact ⟨rfl, rfl, ⟨zbe.1 hc.1, zbe.1 hc.2.1, h.1, h.2, trivial⟩, fun _ => ha.1 hc.2.2⟩
   ·cases h
  ·rintro ⟨_, _, ⟨a1, a2, a3, a5, _⟩, a4⟩
   rw [if_pos ⟨zbe.2 a1, zbe.2 a2, ha.2 (a4 (by decide))⟩, Bool.and_eq_true, zbe, zbe]; exact ⟨a3, a5⟩
 ·show (if _ then inR x.2.2.2.1 (-1000000000000) 1000000000000 else false) = true ↔ ([] : List UInt8) = [] ∧ [x.2.1, x.2.2.1, x.2.2.2.1].length = 3 ∧ (((0 : Int) ≤ x.2.1 ∧ x.2.1 ≤ 31) ∧ ((0 : Int) ≤ x.2.2.1 ∧ x.2.2.1 ≤ 31) ∧ ((-1000000000000 : Int) ≤ x.2.2.2.1 ∧ x.2.2.2.1 ≤ 1000000000000) ∧ True) ∧ _
  constructor
  ·intro h
   split at h
   ·rename_i hc; exact ⟨rfl, rfl, ⟨zbe.1 hc.1, zbe.1 hc.2.1, zbe.1 h, trivial⟩, fun _ => ha.1 hc.2.2⟩
   ·cases h
  ·rintro ⟨_, _, ⟨a1, a2, a3, _⟩, a4⟩
   rw [if_pos ⟨zbe.2 a1, zbe.2 a2, ha.2 (a4 (by decide))⟩]; exact zbe.2 a3
theorem zin {p : Int} {x : Ln} : ∀ (l acc : List Ln), lnsOk p acc l → lnOk p (acc ++ l) x → lnsOk p acc (l ++ [x])
 | [], acc, _, h => ⟨by rw [List.append_nil] at h; exact h, trivial⟩
 | y :: r, acc, h, h2 => ⟨h.1, zin r (acc ++ [y]) h.2 (by rw [List.append_assoc]; exact h2)⟩
end Go.Proofs.YtblllibdahkgfaaGreatDoor

namespace Go.Proofs.YtblllibdahkgfaaGreatDoor
open Go Sx
set_option maxRecDepth 100000
theorem pick4 {c n : Int} (hc : i64 c) (hn : 0 < n) {k : Int} (h : pickI c n = k) : 0 ≤ k ∧ k < n := by subst h; exact zjz c n hn hc
theorem zbn {F F1 : Fz} {p : Int} {v : Val} {t : List UInt8} {h : Hp} {nx : Nat} (hv : VOK p v) (ht : zay p v = t) (hle : Fz.le F F1) (h0 : lget h 0 = some (.frz F1)) :
  Cln 1 (FoK F fun o F' => ∃ v, VOK p v ∧ o = .ret (.va (.str (zay p v)))) (.ret (.va (.str t))) h nx := by
 subst ht
 exact endFo (.ret (.va (.str (zay p v)))) F1 h0 hle (Fz.le_refl F1) ⟨v, hv, rfl⟩ (zat _) rfl
theorem rasV {p w h : Int} {bits : List UInt8} (hp : 6 ≤ p ∧ p ≤ 8) (hw : 0 ≤ w ∧ w ≤ 32) (hh : min w 1 ≤ h ∧ h ≤ min w 1 * 32) (hb : if p = 7 then (bits.length : Int) = w * h ∧ bits.all (fun b => b == 48 || b == 49) = true else bits = []) : VOK p ⟨false, [], w, h, bits⟩ := by
 right
 refine ⟨rfl, ?_⟩
 by_cases h8 : p = 8
 ·rw [if_pos h8]
  rw [if_neg (by omega)] at hb
  exact ⟨rfl, hb, by dsimp only; omega, by dsimp only; omega⟩
 ·rw [if_neg h8, if_pos hp.1]
  exact ⟨rfl, hw, hh, hb⟩
set_option maxHeartbeats 8000000 in
theorem zsi (F : Fz) (b off cap : Nat) (q0 : Q4) (qr : List Q4) (p : Int) (hp : 6 ≤ p ∧ p ≤ 8) (np7 : ¬ p = 7) (ha : RawAt F b off (ints4 (q0 :: qr))) (hl : qr.length < 9223372036854775808) (hx : ∀ q ∈ q0 :: qr, i64 q.1 ∧ i64 q.2.1 ∧ i64 q.2.2.1 ∧ i64 q.2.2.2) :
  Fo Tryz.prog F 24 [.va (.int .i64 p), .va (.slice false 0 b off 1 (qr.length + 1) cap)] (fun o F' => ∃ v, VOK p v ∧ o = .ret (.va (.str (zay p v)))) := by
 have hro := ha.quad
 obtain ⟨B, hro⟩ := hro
 have hq := hro 0 (by simp)
 have hB := hq.1
 have hr0 := hq.2.1
 have hr1 := hq.2.2.1
 have hr2 := hq.2.2.2.1
 have hk0 : (off + (0 : Int).toNat * 4) * 1 + (0 + (0 : Int).toNat * 1) = off + 0 * 4 := by simp
 have hk1 : (off + (0 : Int).toNat * 4) * 1 + (0 + (1 : Int).toNat * 1) = off + 0 * 4 + 1 := by simp
 have hk2 : (off + (0 : Int).toNat * 4) * 1 + (0 + (2 : Int).toNat * 1) = off + 0 * 4 + 2 := by simp
 have hx0 := hx q0 (by simp)
 have hin0 : 0 ≤ (0 : Int) ∧ (0 : Int) < ((qr.length + 1 : Nat) : Int) := ⟨by omega, by omega⟩
 have hpos : (0 : Int) < ((qr.length + 1 : Nat) : Int) := by omega
 have pk0 := za3 q0.1 4 hx0.1 (by decide) F
 have hpk0 : ∃ k, pickI q0.1 4 = k := ⟨_, rfl⟩
 obtain ⟨k0, hpk0⟩ := hpk0
 have rg0 := pick4 hx0.1 (by decide) hpk0
 rw [hpk0] at pk0
 have pk1 := za3 q0.1 9 hx0.1 (by decide) F
 have hpk1 : ∃ k, pickI q0.1 9 = k := ⟨_, rfl⟩
 obtain ⟨k1, hpk1⟩ := hpk1
 have rg1 := pick4 hx0.1 (by decide) hpk1
 rw [hpk1] at pk1
 have pk2 := za3 q0.2.1 8 hx0.2.1 (by decide) F
 have hpk2 : ∃ k, pickI q0.2.1 8 = k := ⟨_, rfl⟩
 obtain ⟨k2, hpk2⟩ := hpk2
 have rg2 := pick4 hx0.2.1 (by decide) hpk2
 rw [hpk2] at pk2
 have pk3 := za3 q0.2.2.1 5 hx0.2.2.1 (by decide) F
 have hpk3 : ∃ k, pickI q0.2.2.1 5 = k := ⟨_, rfl⟩
 obtain ⟨k3, hpk3⟩ := hpk3
 have rg3 := pick4 hx0.2.2.1 (by decide) hpk3
 rw [hpk3] at pk3
 have pk4 := za3 q0.1 33 hx0.1 (by decide) F
 have hpk4 : ∃ k, pickI q0.1 33 = k := ⟨_, rfl⟩
 obtain ⟨k4, hpk4⟩ := hpk4
 have rg4 := pick4 hx0.1 (by decide) hpk4
 rw [hpk4] at pk4
 have pk5 := za3 q0.2.1 32 hx0.2.1 (by decide) F
 have hpk5 : ∃ k, pickI q0.2.1 32 = k := ⟨_, rfl⟩
 obtain ⟨k5, hpk5⟩ := hpk5
 have rg5 := pick4 hx0.2.1 (by decide) hpk5
 rw [hpk5] at pk5
 have eh2 : IntKind.i64.wrap (1 + k2) = 1 + k2 := zaj (by omega) (by omega)
 have eh5 : IntKind.i64.wrap (1 + k5) = 1 + k5 := zaj (by omega) (by omega)
 have vl : VOK p loseV := .inl rfl
 have el : zay p loseV = [] := if_pos rfl
 clear hpk0 hpk1 hpk2 hpk3 hpk4 hpk5 hx0 hq hx ha hro
 refine fo_of hΘ Tryz.func24 rfl (by decide) _ _ rfl rfl rfl ?_;conv=>whnf
 refine ⟨fun ga => ?A, fun ga => ?B⟩
 case' A =>
  clear ga;conv=>whnf
  refine ⟨rfl, hin0, ?_⟩;conv=>whnf
  refine ⟨⟨by decide, by decide⟩, ?_⟩;conv=>whnf
  refine ⟨_, hB, ?_⟩
  refine hr0.rd hk0 ?_;conv=>whnf
  refine usePu pk0 rfl ⟨rfl, rfl, trivial⟩ rfl ?_;conv=>whnf
  refine br (fun g => ?_) (fun g => ?_)
  ·conv=>whnf
   exact zbn vl el (Fz.le_refl F) rfl
  clear g
 case' B => clear ga
 all_goals
  conv=>whnf
  refine br (fun _ => ?_) (fun g => absurd hp.1 (of_decide_eq_false g));conv=>whnf
  refine br (fun _ => ?_) (fun g => absurd hpos (of_decide_eq_false g));conv=>whnf
  refine ⟨rfl, hin0, ?_⟩;conv=>whnf
  refine ⟨⟨by decide, by decide⟩, ?_⟩;conv=>whnf
  refine ⟨_, hB, ?_⟩
  refine hr0.rd hk0 ?_;conv=>whnf
  refine usePu pk1 rfl ⟨rfl, rfl, trivial⟩ rfl ?_;conv=>whnf
  refine ⟨rfl, hin0, ?_⟩;conv=>whnf
  refine ⟨⟨by decide, by decide⟩, ?_⟩;conv=>whnf
  refine ⟨_, hB, ?_⟩
  refine hr1.rd hk1 ?_;conv=>whnf
  refine usePu pk2 rfl ⟨rfl, rfl, trivial⟩ rfl ?_;conv=>whnf
  refine ⟨rfl, hin0, ?_⟩;conv=>whnf
  refine ⟨⟨by decide, by decide⟩, ?_⟩;conv=>whnf
  refine ⟨_, hB, ?_⟩
  refine hr2.rd hk2 ?_;conv=>whnf
  refine usePu pk3 rfl ⟨rfl, rfl, trivial⟩ rfl ?_;conv=>whnf
  refine br (fun g5 => ?_) (fun g5 => ?_)
  case' refine_1 =>
   clear g5;conv=>whnf
   refine ⟨rfl, hin0, ?_⟩;conv=>whnf
   refine ⟨⟨by decide, by decide⟩, ?_⟩;conv=>whnf
   refine ⟨_, hB, ?_⟩
   refine hr0.rd hk0 ?_;conv=>whnf
   refine usePu pk4 rfl ⟨rfl, rfl, trivial⟩ rfl ?_;conv=>whnf
   refine ⟨rfl, hin0, ?_⟩;conv=>whnf
   refine ⟨⟨by decide, by decide⟩, ?_⟩;conv=>whnf
   refine ⟨_, hB, ?_⟩
   refine hr1.rd hk1 ?_;conv=>whnf
   refine usePu pk5 rfl ⟨rfl, rfl, trivial⟩ rfl ?_;conv=>whnf
   clear pk0 pk1 pk2 pk3 pk4 pk5
   revert k4 k5
   intro kw rgw kh rgh ehh
  case' refine_2 =>
   clear g5;conv=>whnf
   clear pk0 pk1 pk2 pk3 pk4 pk5
   revert k1 k2
   intro kw rgw kh rgh ehh
  all_goals
   refine br (fun g0 => ?_) (fun g0 => ?_)
   ·have g0' : kw = 0 := of_decide_eq_true g0
    clear g0
    have hw : 0 ≤ kw ∧ kw ≤ 32 := ⟨by omega, by omega⟩
    have hh : min kw 1 ≤ 0 ∧ 0 ≤ min kw 1 * 32 := ⟨by omega, by omega⟩
    have hv := rasV (bits := []) hp hw hh (by rw [if_neg np7])
    have he : zay p ⟨false, [], kw, 0, []⟩ = zar p ⟨false, [], kw, 0, []⟩ := (zb8 p ⟨false, [], kw, 0, []⟩).symm
    have hwr := zcu F p ⟨false, [], kw, 0, []⟩ 0 (by omega) (Nat.zero_le _) (fun x hx => absurd hx (by simp)) (Nat.zero_le _)
    conv=>whnf
    refine za0 hΘ (X := Unit) (fun _ => [(6, .va (.int .i64 0))]) [66, 67, 68, 69, 70, 71, 72, 73, 74, 75, 76, 77, 78, 79, 80, 81, 82, 83, 84, 85, 86, 87, 88, 89, 90, 91, 92, 93, 94, 95, 96] (fun _ => [(0, .frz F), (1, rvalE ⟨false, [], kw, 0, []⟩ 2 0), (2, gE 88 5 encL 0 [])]) 3 (fun _ => 0) ()
     (fun hH hT => leI [(2, 2)] hH hT rfl ⟨trivial, zad (by omega) _, zac zaa _ _ _ _ _, trivial⟩ ⟨rfl, trivial⟩ ⟨Fz.le_refl F, rfl, rfl, trivial⟩) ?_
    rintro ⟨⟩ hH hT;conv=>whnf
    refine ⟨fun gb => ?_, fun gb => ?_⟩
    ·clear gb;conv=>whnf
     refine br (fun g => absurd (of_decide_eq_true g) np7) (fun _ => ?_);conv=>whnf
     refine use hwr [(1, 2)] rfl ⟨rfl, rfl, trivial⟩ rfl ⟨zac zaa _ _ _ _ _, trivial⟩ (by simp [SV.below, SA.below, rvalV, gA]) ⟨zas zaa (zao _ _ _ _), trivial⟩ ?_
     rintro out0 F0 h0 n0 hle ⟨hle2, rfl, rfl, rfl⟩;conv=>whnf
     exact zbn hv he hle rfl
    ·clear gb;conv=>whnf
     refine use hwr [(1, 2)] rfl ⟨rfl, rfl, trivial⟩ rfl ⟨zac zaa _ _ _ _ _, trivial⟩ (by simp [SV.below, SA.below, rvalV, gA]) ⟨zas zaa (zao _ _ _ _), trivial⟩ ?_
     rintro out0 F0 h0 n0 hle ⟨hle2, rfl, rfl, rfl⟩;conv=>whnf
     exact zbn hv he hle rfl
   ·have g0' : ¬ kw = 0 := of_decide_eq_false g0
    clear g0
    have hw : 0 ≤ kw ∧ kw ≤ 32 := ⟨by omega, by omega⟩
    have hh : min kw 1 ≤ IntKind.i64.wrap (1 + kh) ∧ IntKind.i64.wrap (1 + kh) ≤ min kw 1 * 32 := ⟨by rw [ehh]; omega, by rw [ehh]; omega⟩
    have hv := rasV (bits := []) hp hw hh (by rw [if_neg np7])
    have he : zay p ⟨false, [], kw, IntKind.i64.wrap (1 + kh), []⟩ = zar p ⟨false, [], kw, IntKind.i64.wrap (1 + kh), []⟩ := (zb8 p ⟨false, [], kw, IntKind.i64.wrap (1 + kh), []⟩).symm
    have hwr := zcu F p ⟨false, [], kw, IntKind.i64.wrap (1 + kh), []⟩ 0 (by omega) (Nat.zero_le _) (fun x hx => absurd hx (by simp)) (Nat.zero_le _)
    conv=>whnf
    refine za0 hΘ (X := Unit) (fun _ => [(6, .va (.int .i64 0))]) [66, 67, 68, 69, 70, 71, 72, 73, 74, 75, 76, 77, 78, 79, 80, 81, 82, 83, 84, 85, 86, 87, 88, 89, 90, 91, 92, 93, 94, 95, 96] (fun _ => [(0, .frz F), (1, rvalE ⟨false, [], kw, IntKind.i64.wrap (1 + kh), []⟩ 2 0), (2, gE 88 5 encL 0 [])]) 3 (fun _ => 0) ()
     (fun hH hT => leI [(2, 2)] hH hT rfl ⟨trivial, zad (by omega) _, zac zaa _ _ _ _ _, trivial⟩ ⟨rfl, trivial⟩ ⟨Fz.le_refl F, rfl, rfl, trivial⟩) ?_
    rintro ⟨⟩ hH hT;conv=>whnf
    refine ⟨fun gb => ?_, fun gb => ?_⟩
    ·clear gb;conv=>whnf
     refine br (fun g => absurd (of_decide_eq_true g) np7) (fun _ => ?_);conv=>whnf
     refine use hwr [(1, 2)] rfl ⟨rfl, rfl, trivial⟩ rfl ⟨zac zaa _ _ _ _ _, trivial⟩ (by simp [SV.below, SA.below, rvalV, gA]) ⟨zas zaa (zao _ _ _ _), trivial⟩ ?_
     rintro out0 F0 h0 n0 hle ⟨hle2, rfl, rfl, rfl⟩;conv=>whnf
     exact zbn hv he hle rfl
    ·clear gb;conv=>whnf
     refine use hwr [(1, 2)] rfl ⟨rfl, rfl, trivial⟩ rfl ⟨zac zaa _ _ _ _ _, trivial⟩ (by simp [SV.below, SA.below, rvalV, gA]) ⟨zas zaa (zao _ _ _ _), trivial⟩ ?_
     rintro out0 F0 h0 n0 hle ⟨hle2, rfl, rfl, rfl⟩;conv=>whnf
     exact zbn hv he hle rfl
end Go.Proofs.YtblllibdahkgfaaGreatDoor

namespace Go.Proofs.YtblllibdahkgfaaGreatDoor
open Go Sx
set_option maxRecDepth 100000
theorem zqr {x n : Int} (hx : i64 x) : i64 (shrI .i64 x n) := by
 unfold i64 at *
 unfold shrI
 obtain ⟨m, hm⟩ : ∃ m, min n.toNat IntKind.i64.bits = m := ⟨_, rfl⟩
 rw [hm]
 have hp : (0 : Int) < 2 ^ m := by exact_mod_cast Nat.two_pow_pos m
 obtain ⟨y, hy⟩ : ∃ y : Int, 2 ^ m = y := ⟨_, rfl⟩
 rw [hy] at hp ⊢
 rw [Int.fdiv_eq_ediv_of_nonneg _ (by omega)]
 constructor
 ·rw [Int.le_ediv_iff_mul_le hp]; omega
 ·have h2 : x / y ≤ 9223372036854775807 / y := Int.ediv_le_ediv hp hx.2
  have h3 : (9223372036854775807 : Int) / y ≤ 9223372036854775807 := Int.ediv_le_self _ (by omega)
  omega
theorem tmodN (i : Nat) {n : Nat} : (i : Int).tmod (n : Int) = ((i % n : Nat) : Int) := by
 rw [Int.tmod_eq_emod_of_nonneg (by omega)]; rfl
def bits2 (l : List UInt8) : Bool := l.all (fun b => b == 48 || b == 49)
theorem ze8 {l : List UInt8} {b : UInt8} (h : bits2 l = true) (hb : b = 48 ∨ b = 49) : bits2 (l ++ [b]) = true := by
 unfold bits2 at *
 rw [List.all_append, h]
 rcases hb with rfl | rfl <;> rfl
theorem zqz {w h : Int} (hw : 0 ≤ w ∧ w ≤ 32) (hh : min w 1 ≤ h ∧ h ≤ min w 1 * 32) : 0 ≤ w * h ∧ w * h ≤ 1024 := by
 have h0 : 0 ≤ h := by omega
 refine ⟨Int.mul_nonneg hw.1 h0, ?_⟩
 have h1 : w * h ≤ 32 * h := Int.mul_le_mul_of_nonneg_right hw.2 h0
 omega
set_option maxHeartbeats 16000000 in
theorem ztz (F : Fz) (b off cap : Nat) (q0 : Q4) (qr : List Q4) (ha : RawAt F b off (ints4 (q0 :: qr))) (hl : qr.length < 9223372036854775808) (hx : ∀ q ∈ q0 :: qr, i64 q.1 ∧ i64 q.2.1 ∧ i64 q.2.2.1 ∧ i64 q.2.2.2) :
  Fo Tryz.prog F 24 [.va (.int .i64 7), .va (.slice false 0 b off 1 (qr.length + 1) cap)] (fun o F' => ∃ v, VOK 7 v ∧ o = .ret (.va (.str (zay 7 v)))) := by
 have hro := ha.quad
 obtain ⟨B, hro⟩ := hro
 have hq := hro 0 (by simp)
 have hB := hq.1
 have hr0 := hq.2.1
 have hr1 := hq.2.2.1
 have hr2 := hq.2.2.2.1
 have hk0 : (off + (0 : Int).toNat * 4) * 1 + (0 + (0 : Int).toNat * 1) = off + 0 * 4 := by simp
 have hk1 : (off + (0 : Int).toNat * 4) * 1 + (0 + (1 : Int).toNat * 1) = off + 0 * 4 + 1 := by simp
 have hk2 : (off + (0 : Int).toNat * 4) * 1 + (0 + (2 : Int).toNat * 1) = off + 0 * 4 + 2 := by simp
 have hx0 := hx q0 (by simp)
 have hin0 : 0 ≤ (0 : Int) ∧ (0 : Int) < ((qr.length + 1 : Nat) : Int) := ⟨by omega, by omega⟩
 have hpos : (0 : Int) < ((qr.length + 1 : Nat) : Int) := by omega
 have pk0 := za3 q0.1 4 hx0.1 (by decide) F
 have hpk0 : ∃ k, pickI q0.1 4 = k := ⟨_, rfl⟩
 obtain ⟨k0, hpk0⟩ := hpk0
 have rg0 := pick4 hx0.1 (by decide) hpk0
 rw [hpk0] at pk0
 have pk1 := za3 q0.1 9 hx0.1 (by decide) F
 have hpk1 : ∃ k, pickI q0.1 9 = k := ⟨_, rfl⟩
 obtain ⟨k1, hpk1⟩ := hpk1
 have rg1 := pick4 hx0.1 (by decide) hpk1
 rw [hpk1] at pk1
 have pk2 := za3 q0.2.1 8 hx0.2.1 (by decide) F
 have hpk2 : ∃ k, pickI q0.2.1 8 = k := ⟨_, rfl⟩
 obtain ⟨k2, hpk2⟩ := hpk2
 have rg2 := pick4 hx0.2.1 (by decide) hpk2
 rw [hpk2] at pk2
 have pk3 := za3 q0.2.2.1 5 hx0.2.2.1 (by decide) F
 have hpk3 : ∃ k, pickI q0.2.2.1 5 = k := ⟨_, rfl⟩
 obtain ⟨k3, hpk3⟩ := hpk3
 have rg3 := pick4 hx0.2.2.1 (by decide) hpk3
 rw [hpk3] at pk3
 have pk4 := za3 q0.1 33 hx0.1 (by decide) F
 have hpk4 : ∃ k, pickI q0.1 33 = k := ⟨_, rfl⟩
 obtain ⟨k4, hpk4⟩ := hpk4
 have rg4 := pick4 hx0.1 (by decide) hpk4
 rw [hpk4] at pk4
 have pk5 := za3 q0.2.1 32 hx0.2.1 (by decide) F
 have hpk5 : ∃ k, pickI q0.2.1 32 = k := ⟨_, rfl⟩
 obtain ⟨k5, hpk5⟩ := hpk5
 have rg5 := pick4 hx0.2.1 (by decide) hpk5
 rw [hpk5] at pk5
 have eh2 : IntKind.i64.wrap (1 + k2) = 1 + k2 := zaj (by omega) (by omega)
 have eh5 : IntKind.i64.wrap (1 + k5) = 1 + k5 := zaj (by omega) (by omega)
 have vl : VOK 7 loseV := .inl rfl
 have el : zay 7 loseV = [] := if_pos rfl
 clear hpk0 hpk1 hpk2 hpk3 hpk4 hpk5 hx0 hq ha
 refine fo_of hΘ Tryz.func24 rfl (by decide) _ _ rfl rfl rfl ?_;conv=>whnf
 refine ⟨fun ga => ?A, fun ga => ?B⟩
 case' A =>
  clear ga;conv=>whnf
  refine ⟨rfl, hin0, ?_⟩;conv=>whnf
  refine ⟨⟨by decide, by decide⟩, ?_⟩;conv=>whnf
  refine ⟨_, hB, ?_⟩
  refine hr0.rd hk0 ?_;conv=>whnf
  refine usePu pk0 rfl ⟨rfl, rfl, trivial⟩ rfl ?_;conv=>whnf
  refine br (fun g => ?_) (fun g => ?_)
  ·conv=>whnf
   exact zbn vl el (Fz.le_refl F) rfl
  clear g
 case' B => clear ga
 all_goals
  conv=>whnf
  refine br (fun _ => ?_) (fun g => absurd g (by decide));conv=>whnf
  refine br (fun _ => ?_) (fun g => absurd hpos (of_decide_eq_false g));conv=>whnf
  refine ⟨rfl, hin0, ?_⟩;conv=>whnf
  refine ⟨⟨by decide, by decide⟩, ?_⟩;conv=>whnf
  refine ⟨_, hB, ?_⟩
  refine hr0.rd hk0 ?_;conv=>whnf
  refine usePu pk1 rfl ⟨rfl, rfl, trivial⟩ rfl ?_;conv=>whnf
  refine ⟨rfl, hin0, ?_⟩;conv=>whnf
  refine ⟨⟨by decide, by decide⟩, ?_⟩;conv=>whnf
  refine ⟨_, hB, ?_⟩
  refine hr1.rd hk1 ?_;conv=>whnf
  refine usePu pk2 rfl ⟨rfl, rfl, trivial⟩ rfl ?_;conv=>whnf
  refine ⟨rfl, hin0, ?_⟩;conv=>whnf
  refine ⟨⟨by decide, by decide⟩, ?_⟩;conv=>whnf
  refine ⟨_, hB, ?_⟩
  refine hr2.rd hk2 ?_;conv=>whnf
  refine usePu pk3 rfl ⟨rfl, rfl, trivial⟩ rfl ?_;conv=>whnf
  refine br (fun g5 => ?_) (fun g5 => ?_)
  case' refine_1 =>
   clear g5;conv=>whnf
   refine ⟨rfl, hin0, ?_⟩;conv=>whnf
   refine ⟨⟨by decide, by decide⟩, ?_⟩;conv=>whnf
   refine ⟨_, hB, ?_⟩
   refine hr0.rd hk0 ?_;conv=>whnf
   refine usePu pk4 rfl ⟨rfl, rfl, trivial⟩ rfl ?_;conv=>whnf
   refine ⟨rfl, hin0, ?_⟩;conv=>whnf
   refine ⟨⟨by decide, by decide⟩, ?_⟩;conv=>whnf
   refine ⟨_, hB, ?_⟩
   refine hr1.rd hk1 ?_;conv=>whnf
   refine usePu pk5 rfl ⟨rfl, rfl, trivial⟩ rfl ?_;conv=>whnf
   clear pk0 pk1 pk2 pk3 pk4 pk5
   revert k4 k5
   intro kw rgw kh rgh ehh
  case' refine_2 =>
   clear g5;conv=>whnf
   clear pk0 pk1 pk2 pk3 pk4 pk5
   revert k1 k2
   intro kw rgw kh rgh ehh
  all_goals
   refine br (fun g0 => ?_) (fun g0 => ?_)
   ·have g0' : kw = 0 := of_decide_eq_true g0
    clear g0
    have hw : 0 ≤ kw ∧ kw ≤ 32 := ⟨by omega, by omega⟩
    have hh : min kw 1 ≤ 0 ∧ 0 ≤ min kw 1 * 32 := ⟨by omega, by omega⟩
    have hwh : 0 ≤ kw * 0 ∧ kw * 0 ≤ 1024 := zqz hw hh
    have ewh : IntKind.i64.wrap (kw * 0) = kw * 0 := zaj (by omega) (by omega)
    conv=>whnf
    refine za0 hΘ (X := { y : Nat × List UInt8 // (y.1 : Int) ≤ kw * 0 ∧ y.2.length = y.1 ∧ bits2 y.2 = true }) (fun y => [(6, .va (.int .i64 y.1.1))]) [66, 67, 68, 69, 70, 71, 72, 73, 74, 75, 76, 77, 78, 79, 80, 81, 82, 83, 84, 85, 86, 87, 88, 89, 90, 91, 92, 93, 94, 95, 96] (fun y => [(0, .frz F), (1, rvalE ⟨false, [], kw, 0, y.1.2⟩ 2 0), (2, gE 88 5 encL 0 [])]) 3 (fun y => (kw * 0).toNat - y.1.1) ⟨(0, []), ⟨hwh.1, rfl, rfl⟩⟩
     (fun hH hT => leI [(2, 2)] hH hT rfl ⟨trivial, zad (by omega) _, zac zaa _ _ _ _ _, trivial⟩ ⟨rfl, trivial⟩ ⟨Fz.le_refl F, rfl, rfl, trivial⟩) ?_
    rintro ⟨⟨i, bs⟩, hi, hbl, hbs⟩ hH hT
    replace hi : (i : Int) ≤ kw * 0 := hi
    replace hbl : bs.length = i := hbl
    replace hbs : bits2 bs = true := hbs
    by_cases gi : (i : Int) < kw * 0
    ·have hlt : (i : Int) < IntKind.i64.wrap (kw * 0) := by rw [ewh]; exact gi
     have gm : i % (qr.length + 1) < (q0 :: qr).length := Nat.mod_lt _ (by simp)
     have em : (i : Int).tmod ((qr.length + 1 : Nat) : Int) = ((i % (qr.length + 1) : Nat) : Int) := tmodN i
     have hqm := hro (i % (qr.length + 1)) gm
     have hBm := hqm.1
     have hr3 := hqm.2.2.2.2
     have hx3 := (hx _ (List.getElem_mem gm)).2.2.2
     have hq3 : ∃ q3, (q0 :: qr)[i % (qr.length + 1)].2.2.2 = q3 := ⟨_, rfl⟩
     obtain ⟨q3, hq3⟩ := hq3
     rw [hq3] at hr3 hx3
     have hsh := zqr (n := (i : Int).tmod 7) hx3
     have pk6 := za3 (shrI .i64 q3 ((i : Int).tmod 7)) 2 hsh (by decide) F
     have hpk6 : ∃ k, pickI (shrI .i64 q3 ((i : Int).tmod 7)) 2 = k := ⟨_, rfl⟩
     obtain ⟨k6, hpk6⟩ := hpk6
     have rg6 := pick4 hsh (by decide) hpk6
     rw [hpk6] at pk6
     have hinm : 0 ≤ (i : Int).tmod ((qr.length + 1 : Nat) : Int) ∧ (i : Int).tmod ((qr.length + 1 : Nat) : Int) < ((qr.length + 1 : Nat) : Int) := by
      rw [em]
      have : i % (qr.length + 1) < qr.length + 1 := gm
      omega
     have hk3 : (off + ((i : Int).tmod ((qr.length + 1 : Nat) : Int)).toNat * 4) * 1 + (0 + (3 : Int).toNat * 1) = off + i % (qr.length + 1) * 4 + 3 := by rw [em, Int.toNat_natCast]; omega
     have hne0 : ((qr.length + 1 : Nat) : Int) ≠ 0 := by omega
     have hk6c : k6 = 0 ∨ k6 = 1 := by omega
     have hb1 : bs.length + 1 ≤ 9223372036854775807 := by omega
     have hi1 : ((i + 1 : Nat) : Int) ≤ kw * 0 := by omega
     have hi2 : i < 4611686018427387904 := by omega
     have hdec : (kw * 0).toNat - (i + 1) < (kw * 0).toNat - i := by omega
     have hbl48 : (bs ++ [(48 : UInt8)]).length = i + 1 := by rw [List.length_append, hbl]; rfl
     have hbl49 : (bs ++ [(49 : UInt8)]).length = i + 1 := by rw [List.length_append, hbl]; rfl
     have hbs48 := ze8 hbs (.inl (rfl : (48 : UInt8) = 48))
     have hbs49 := ze8 hbs (.inr (rfl : (49 : UInt8) = 49))
     have h7 : 0 ≤ (i : Int).tmod 7 := Int.tmod_nonneg _ (by omega)
     clear hpk6 hsh hqm hx hro hx3;conv=>whnf
     refine ⟨fun _ => ?_, fun g => absurd hlt (of_decide_eq_false g)⟩;conv=>whnf
     refine br (fun _ => ?_) (fun g => absurd g (by decide));conv=>whnf
     refine drawP hΘ mixed (.look 0 (.look 1 (.look 2 (.look 3 (.look 4 (.look 5 (.look 6 (.look 7 (.look 8 (.look 9 (.look 10 (.look 11 (.look 12 (.alt 13 (.look 14 (.look 15 (.look 16 (.look 17 (.last 18 .done))))) .nil)))))))))))))) [1] (by kernel_rfl) ?_;conv=>whnf
     repeat' ((conv=>whnf); first
      | refine ⟨rfl, ?_⟩
      | refine ⟨Fz.le_refl _, rfl, ?_⟩
      | refine ⟨Fz.le_refl _, rfl, rfl, ?_⟩
      | refine ⟨⟨by simp, by simp⟩, ?_⟩
      | fail)
     conv=>whnf
     refine ⟨hne0, ?_⟩;conv=>whnf
     refine ⟨rfl, hinm, ?_⟩;conv=>whnf
     refine ⟨⟨by decide, by decide⟩, ?_⟩;conv=>whnf
     refine ⟨rfl, ?_⟩;conv=>whnf
     refine ⟨_, hBm, ?_⟩
     refine hr3.rd hk3 ?_;conv=>whnf
     refine ⟨by decide, ?_⟩;conv=>whnf
     refine ⟨h7, ?_⟩;conv=>whnf
     refine usePu pk6 rfl ⟨rfl, rfl, trivial⟩ rfl ?_
     refine ⟨Fz.le_refl F, rfl, ?_⟩
     rcases hk6c with rfl | rfl
     ·conv=>whnf
      refine ⟨⟨by decide, by decide⟩, ?_⟩;conv=>whnf
      refine ⟨⟨by decide, by decide⟩, ?_⟩;conv=>whnf
      refine ⟨hb1, ?_⟩;conv=>whnf
      exact ⟨⟨(i + 1, bs ++ [48]), hi1, hbl48, hbs48⟩, hdec, leR [(2, 2)] hH hT rfl ⟨trivial, zad (by omega) _, zac zaa _ _ _ _ _, trivial⟩ ⟨cnt hi2, trivial⟩ ⟨Fz.le_refl F, rfl, zas zaa (zao _ _ _ _), trivial⟩⟩
     ·conv=>whnf
      refine ⟨⟨by decide, by decide⟩, ?_⟩;conv=>whnf
      refine ⟨⟨by decide, by decide⟩, ?_⟩;conv=>whnf
      refine ⟨hb1, ?_⟩;conv=>whnf
      exact ⟨⟨(i + 1, bs ++ [49]), hi1, hbl49, hbs49⟩, hdec, leR [(2, 2)] hH hT rfl ⟨trivial, zad (by omega) _, zac zaa _ _ _ _ _, trivial⟩ ⟨cnt hi2, trivial⟩ ⟨Fz.le_refl F, rfl, zas zaa (zao _ _ _ _), trivial⟩⟩
    ·have hge : ¬ (i : Int) < IntKind.i64.wrap (kw * 0) := by rw [ewh]; exact gi
     have ei : (bs.length : Int) = kw * 0 := by rw [hbl]; omega
     have hv := rasV (p := 7) (bits := bs) (by omega) hw hh (by rw [if_pos rfl]; exact ⟨ei, hbs⟩)
     have he : zay 7 ⟨false, [], kw, 0, bs⟩ = zar 7 ⟨false, [], kw, 0, bs⟩ := (zb8 7 ⟨false, [], kw, 0, bs⟩).symm
     have hwr := zcu F 7 ⟨false, [], kw, 0, bs⟩ 0 (by omega) (Nat.zero_le _) (fun x hx => absurd hx (by simp)) (by show bs.length ≤ 9000000000000000000; omega)
     conv=>whnf
     refine ⟨fun g => absurd (of_decide_eq_true g) hge, fun _ => ?_⟩;conv=>whnf
     refine use hwr [(1, 2)] rfl ⟨rfl, rfl, trivial⟩ rfl ⟨zac zaa _ _ _ _ _, trivial⟩ (by simp [SV.below, SA.below, rvalV, gA]) ⟨zas zaa (zao _ _ _ _), trivial⟩ ?_
     rintro out0 F0 h0 n0 hle ⟨hle2, rfl, rfl, rfl⟩;conv=>whnf
     exact zbn hv he hle rfl
   ·have g0' : ¬ kw = 0 := of_decide_eq_false g0
    clear g0
    have hw : 0 ≤ kw ∧ kw ≤ 32 := ⟨by omega, by omega⟩
    have hh : min kw 1 ≤ IntKind.i64.wrap (1 + kh) ∧ IntKind.i64.wrap (1 + kh) ≤ min kw 1 * 32 := ⟨by rw [ehh]; omega, by rw [ehh]; omega⟩
    have hwh : 0 ≤ kw * IntKind.i64.wrap (1 + kh) ∧ kw * IntKind.i64.wrap (1 + kh) ≤ 1024 := zqz hw hh
    have ewh : IntKind.i64.wrap (kw * IntKind.i64.wrap (1 + kh)) = kw * IntKind.i64.wrap (1 + kh) := zaj (by omega) (by omega)
    conv=>whnf
    refine za0 hΘ (X := { y : Nat × List UInt8 // (y.1 : Int) ≤ kw * IntKind.i64.wrap (1 + kh) ∧ y.2.length = y.1 ∧ bits2 y.2 = true }) (fun y => [(6, .va (.int .i64 y.1.1))]) [66, 67, 68, 69, 70, 71, 72, 73, 74, 75, 76, 77, 78, 79, 80, 81, 82, 83, 84, 85, 86, 87, 88, 89, 90, 91, 92, 93, 94, 95, 96] (fun y => [(0, .frz F), (1, rvalE ⟨false, [], kw, IntKind.i64.wrap (1 + kh), y.1.2⟩ 2 0), (2, gE 88 5 encL 0 [])]) 3 (fun y => (kw * IntKind.i64.wrap (1 + kh)).toNat - y.1.1) ⟨(0, []), ⟨hwh.1, rfl, rfl⟩⟩
     (fun hH hT => leI [(2, 2)] hH hT rfl ⟨trivial, zad (by omega) _, zac zaa _ _ _ _ _, trivial⟩ ⟨rfl, trivial⟩ ⟨Fz.le_refl F, rfl, rfl, trivial⟩) ?_
    rintro ⟨⟨i, bs⟩, hi, hbl, hbs⟩ hH hT
    replace hi : (i : Int) ≤ kw * IntKind.i64.wrap (1 + kh) := hi
    replace hbl : bs.length = i := hbl
    replace hbs : bits2 bs = true := hbs
    by_cases gi : (i : Int) < kw * IntKind.i64.wrap (1 + kh)
    ·have hlt : (i : Int) < IntKind.i64.wrap (kw * IntKind.i64.wrap (1 + kh)) := by rw [ewh]; exact gi
     have gm : i % (qr.length + 1) < (q0 :: qr).length := Nat.mod_lt _ (by simp)
     have em : (i : Int).tmod ((qr.length + 1 : Nat) : Int) = ((i % (qr.length + 1) : Nat) : Int) := tmodN i
     have hqm := hro (i % (qr.length + 1)) gm
     have hBm := hqm.1
     have hr3 := hqm.2.2.2.2
     have hx3 := (hx _ (List.getElem_mem gm)).2.2.2
     have hq3 : ∃ q3, (q0 :: qr)[i % (qr.length + 1)].2.2.2 = q3 := ⟨_, rfl⟩
     obtain ⟨q3, hq3⟩ := hq3
     rw [hq3] at hr3 hx3
     have hsh := zqr (n := (i : Int).tmod 7) hx3
     have pk6 := za3 (shrI .i64 q3 ((i : Int).tmod 7)) 2 hsh (by decide) F
     have hpk6 : ∃ k, pickI (shrI .i64 q3 ((i : Int).tmod 7)) 2 = k := ⟨_, rfl⟩
     obtain ⟨k6, hpk6⟩ := hpk6
     have rg6 := pick4 hsh (by decide) hpk6
     rw [hpk6] at pk6
     have hinm : 0 ≤ (i : Int).tmod ((qr.length + 1 : Nat) : Int) ∧ (i : Int).tmod ((qr.length + 1 : Nat) : Int) < ((qr.length + 1 : Nat) : Int) := by
      rw [em]
      have : i % (qr.length + 1) < qr.length + 1 := gm
      omega
     have hk3 : (off + ((i : Int).tmod ((qr.length + 1 : Nat) : Int)).toNat * 4) * 1 + (0 + (3 : Int).toNat * 1) = off + i % (qr.length + 1) * 4 + 3 := by rw [em, Int.toNat_natCast]; omega
     have hne0 : ((qr.length + 1 : Nat) : Int) ≠ 0 := by omega
     have hk6c : k6 = 0 ∨ k6 = 1 := by omega
     have hb1 : bs.length + 1 ≤ 9223372036854775807 := by omega
     have hi1 : ((i + 1 : Nat) : Int) ≤ kw * IntKind.i64.wrap (1 + kh) := by omega
     have hi2 : i < 4611686018427387904 := by omega
     have hdec : (kw * IntKind.i64.wrap (1 + kh)).toNat - (i + 1) < (kw * IntKind.i64.wrap (1 + kh)).toNat - i := by omega
     have hbl48 : (bs ++ [(48 : UInt8)]).length = i + 1 := by rw [List.length_append, hbl]; rfl
     have hbl49 : (bs ++ [(49 : UInt8)]).length = i + 1 := by rw [List.length_append, hbl]; rfl
     have hbs48 := ze8 hbs (.inl (rfl : (48 : UInt8) = 48))
     have hbs49 := ze8 hbs (.inr (rfl : (49 : UInt8) = 49))
     have h7 : 0 ≤ (i : Int).tmod 7 := Int.tmod_nonneg _ (by omega)
     clear hpk6 hsh hqm hx hro hx3;conv=>whnf
     refine ⟨fun _ => ?_, fun g => absurd hlt (of_decide_eq_false g)⟩;conv=>whnf
     refine br (fun _ => ?_) (fun g => absurd g (by decide));conv=>whnf
     refine drawP hΘ mixed (.look 0 (.look 1 (.look 2 (.look 3 (.look 4 (.look 5 (.look 6 (.look 7 (.look 8 (.look 9 (.look 10 (.look 11 (.look 12 (.alt 13 (.look 14 (.look 15 (.look 16 (.look 17 (.last 18 .done))))) .nil)))))))))))))) [1] (by kernel_rfl) ?_;conv=>whnf
     repeat' ((conv=>whnf); first
      | refine ⟨rfl, ?_⟩
      | refine ⟨Fz.le_refl _, rfl, ?_⟩
      | refine ⟨Fz.le_refl _, rfl, rfl, ?_⟩
      | refine ⟨⟨by simp, by simp⟩, ?_⟩
      | fail)
     conv=>whnf
     refine ⟨hne0, ?_⟩;conv=>whnf
     refine ⟨rfl, hinm, ?_⟩;conv=>whnf
     refine ⟨⟨by decide, by decide⟩, ?_⟩;conv=>whnf
     refine ⟨rfl, ?_⟩;conv=>whnf
     refine ⟨_, hBm, ?_⟩
     refine hr3.rd hk3 ?_;conv=>whnf
     refine ⟨by decide, ?_⟩;conv=>whnf
     refine ⟨h7, ?_⟩;conv=>whnf
     refine usePu pk6 rfl ⟨rfl, rfl, trivial⟩ rfl ?_
     refine ⟨Fz.le_refl F, rfl, ?_⟩
     rcases hk6c with rfl | rfl
     ·conv=>whnf
      refine ⟨⟨by decide, by decide⟩, ?_⟩;conv=>whnf
      refine ⟨⟨by decide, by decide⟩, ?_⟩;conv=>whnf
      refine ⟨hb1, ?_⟩;conv=>whnf
      exact ⟨⟨(i + 1, bs ++ [48]), hi1, hbl48, hbs48⟩, hdec, leR [(2, 2)] hH hT rfl ⟨trivial, zad (by omega) _, zac zaa _ _ _ _ _, trivial⟩ ⟨cnt hi2, trivial⟩ ⟨Fz.le_refl F, rfl, zas zaa (zao _ _ _ _), trivial⟩⟩
     ·conv=>whnf
      refine ⟨⟨by decide, by decide⟩, ?_⟩;conv=>whnf
      refine ⟨⟨by decide, by decide⟩, ?_⟩;conv=>whnf
      refine ⟨hb1, ?_⟩;conv=>whnf
      exact ⟨⟨(i + 1, bs ++ [49]), hi1, hbl49, hbs49⟩, hdec, leR [(2, 2)] hH hT rfl ⟨trivial, zad (by omega) _, zac zaa _ _ _ _ _, trivial⟩ ⟨cnt hi2, trivial⟩ ⟨Fz.le_refl F, rfl, zas zaa (zao _ _ _ _), trivial⟩⟩
    ·have hge : ¬ (i : Int) < IntKind.i64.wrap (kw * IntKind.i64.wrap (1 + kh)) := by rw [ewh]; exact gi
     have ei : (bs.length : Int) = kw * IntKind.i64.wrap (1 + kh) := by rw [hbl]; omega
     have hv := rasV (p := 7) (bits := bs) (by omega) hw hh (by rw [if_pos rfl]; exact ⟨ei, hbs⟩)
     have he : zay 7 ⟨false, [], kw, IntKind.i64.wrap (1 + kh), bs⟩ = zar 7 ⟨false, [], kw, IntKind.i64.wrap (1 + kh), bs⟩ := (zb8 7 ⟨false, [], kw, IntKind.i64.wrap (1 + kh), bs⟩).symm
     have hwr := zcu F 7 ⟨false, [], kw, IntKind.i64.wrap (1 + kh), bs⟩ 0 (by omega) (Nat.zero_le _) (fun x hx => absurd hx (by simp)) (by show bs.length ≤ 9000000000000000000; omega)
     conv=>whnf
     refine ⟨fun g => absurd (of_decide_eq_true g) hge, fun _ => ?_⟩;conv=>whnf
     refine use hwr [(1, 2)] rfl ⟨rfl, rfl, trivial⟩ rfl ⟨zac zaa _ _ _ _ _, trivial⟩ (by simp [SV.below, SA.below, rvalV, gA]) ⟨zas zaa (zao _ _ _ _), trivial⟩ ?_
     rintro out0 F0 h0 n0 hle ⟨hle2, rfl, rfl, rfl⟩;conv=>whnf
     exact zbn hv he hle rfl
end Go.Proofs.YtblllibdahkgfaaGreatDoor
