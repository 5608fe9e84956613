import Derived.Test.YtblllibdahkgfaaGreatDoorK27
import Derived.Test.YtblllibdahkgfaaGreatDoorK29
import Derived.Test.YtblllibdahkgfaaGreatDoorK26

namespace Go.Proofs.YtblllibdahkgfaaGreatDoor
open Go Sx
set_option maxRecDepth 100000
abbrev Q4 := Int × Int × Int × Int
def ints4 (x : List Q4) : List Int := (x.map fun q => [q.1, q.2.1, q.2.2.1, q.2.2.2]).flatten
theorem ints4_cons (q : Q4) (r : List Q4) : ints4 (q :: r) = q.1 :: q.2.1 :: q.2.2.1 :: q.2.2.2 :: ints4 r := rfl
theorem ints4_len : ∀ l : List Q4, (ints4 l).length = l.length * 4
  | [] => rfl
  | q :: r => by
    have := ints4_len r
    rw [ints4_cons]
    simp only [List.length_cons]; omega
theorem ints4_at : ∀ (l : List Q4) (k : Nat), (ints4 l)[k * 4]? = (l[k]?).map (·.1) ∧ (ints4 l)[k * 4 + 1]? = (l[k]?).map (·.2.1) ∧ (ints4 l)[k * 4 + 2]? = (l[k]?).map (·.2.2.1) ∧ (ints4 l)[k * 4 + 3]? = (l[k]?).map (·.2.2.2)
  | [], k => by simp [ints4]
  | q :: r, 0 => by rw [ints4_cons]; exact ⟨rfl, rfl, rfl, rfl⟩
  | q :: r, k + 1 => by
    have h := ints4_at r k
    rw [ints4_cons]
    have e : (k + 1) * 4 = k * 4 + 4 := by omega
    rw [e]
    exact h
theorem RawAt.quad {F : Fz} {b off : Nat} {x : List Q4} (h : RawAt F b off (ints4 x)) : ∃ B, ∀ (k : Nat) (g : k < x.length), F b = some B ∧ RawB B (off + k * 4) x[k].1 ∧ RawB B (off + k * 4 + 1) x[k].2.1 ∧ RawB B (off + k * 4 + 2) x[k].2.2.1 ∧ RawB B (off + k * 4 + 3) x[k].2.2.2 := by
  have hro := h.rdO
  obtain ⟨B, hB⟩ := hro
  refine ⟨B, fun k g => ?_⟩
  have hl := ints4_len x
  obtain ⟨a0, a1, a2, a3⟩ := ints4_at x k
  rw [List.getElem?_eq_getElem g] at a0 a1 a2 a3
  have h0 := hB (k * 4) (by omega)
  have h1 := hB (k * 4 + 1) (by omega)
  have h2 := hB (k * 4 + 2) (by omega)
  have h3 := hB (k * 4 + 3) (by omega)
  rw [(List.getElem?_eq_some_iff.1 a0).2] at h0
  rw [(List.getElem?_eq_some_iff.1 a1).2] at h1
  rw [(List.getElem?_eq_some_iff.1 a2).2] at h2
  rw [(List.getElem?_eq_some_iff.1 a3).2] at h3
  exact ⟨h0.1, h0.2, h1.2, h2.2, h3.2⟩
def ofR (p : Int) (x : RLn) : Ln := if p = 1 then (x.1, []) else ([], (numsOf x).take (colN p))
def ofV (p : Int) (v : RVal) : Val := ⟨v.lost, v.lines.map (ofR p), v.w, v.h, v.bits⟩
theorem rlineS_of (p : Int) (x : RLn) : rlineS p x = lineW p (ofR p x) := by
  unfold rlineS lineW ofR
  by_cases h : p = 1
  · subst h; rfl
  · rw [if_neg h, if_neg h, if_neg h]; rfl
theorem rwriteS_of (p : Int) (v : RVal) : rwriteS p v = writeS p (ofV p v) := by
  unfold rwriteS writeS
  show (if v.lost = true then [] else _) = (if v.lost = true then [] else _)
  by_cases hl : v.lost = true
  · rw [if_pos hl, if_pos hl]
  rw [if_neg hl, if_neg hl]
  by_cases h6 : 6 ≤ p
  · rw [if_pos h6, if_pos h6]
    show _ = ((putIR v.w).1 ++ ((putIR v.h).1 ++ [])) ++ _
    rw [List.append_nil]; rfl
  · rw [if_neg h6, if_neg h6]
    show (putIR (v.lines.length : Nat)).1 ++ _ = ((putIR (((v.lines.map (ofR p)).length : Nat) : Int)).1 ++ []) ++ ((v.lines.map (ofR p)).map (lineW p)).flatten
    rw [List.append_nil, List.length_map, List.map_map]
    congr 2
    exact List.map_congr_left fun x _ => rlineS_of p x
theorem inR_iff {n lo hi : Int} : inR n lo hi = true ↔ lo ≤ n ∧ n ≤ hi := by
  unfold inR; simp
theorem cmp2 (a b c d : Int) : cmpL [a, b] [c, d] < 0 ↔ a < c ∨ (a = c ∧ b < d) := by
  unfold cmpL cmpL cmpL cmpI
  by_cases h1 : a < c
  · simp [h1]
  · by_cases h2 : c < a
    · simp [h1, h2]; omega
    · have : a = c := by omega
      subst this
      by_cases h3 : b < d
      · simp [h3]
      · by_cases h4 : d < b
        · simp [h3, h4]
        · simp [h3, h4]
theorem after_iff {p : Int} (h3 : p = 3 ∨ p = 4 ∨ p = 5) (L : List RLn) (x : RLn) : afterL L x = true ↔ ∀ y, (L.map (ofR p)).getLast? = some y → cmpL (y.2.take 2) ((ofR p x).2.take 2) < 0 := by
  have ht : ∀ z : RLn, (ofR p z).2.take 2 = [z.2.1, z.2.2.1] := fun z => by
    rcases h3 with rfl | rfl | rfl <;> rfl
  rw [getLast?_map', ht]
  unfold afterL
  cases hl : L.getLast? with
  | none => simp
  | some y =>
    have e : (∀ y', (some y).map (ofR p) = some y' → cmpL (y'.2.take 2) [x.2.1, x.2.2.1] < 0) ↔ cmpL ((ofR p y).2.take 2) [x.2.1, x.2.2.1] < 0 := by
      simp
    rw [e, ht, cmp2]
    simp
    omega
theorem fits_iff {p : Int} (hp : 1 ≤ p ∧ p ≤ 5) (L : List RLn) (x : RLn) : fitsR p L x = true ↔ lnOk p (L.map (ofR p)) (ofR p x) := by
  by_cases h1 : p = 1
  · subst h1
    have e : x.1.any badC = false ↔ x.1.all (fun b => decide (32 ≤ b.toNat) && decide (b.toNat ≤ 126)) = true := by
      rw [List.any_eq_false, List.all_eq_true]
      simp [badC]
    unfold fitsR lnOk
    rw [if_pos rfl, if_pos rfl]
    show _ ↔ ([] : List Int) = [] ∧ x.1.length ≤ 80 ∧ x.1.any badC = false
    rw [e, Bool.and_eq_true, decide_eq_true_eq]
    exact ⟨fun h => ⟨rfl, h.2, h.1⟩, fun h => ⟨h.2.2, h.2.1⟩⟩
  by_cases h2 : p = 2
  · subst h2
    unfold fitsR lnOk
    rw [if_neg (by decide), if_pos rfl, if_neg (by decide), inR_iff]
    show _ ↔ ([] : List UInt8) = [] ∧ [x.2.1].length = 1 ∧ (((bnd 2 []).1 ≤ x.2.1 ∧ x.2.1 ≤ (bnd 2 []).2) ∧ True) ∧ _
    exact ⟨fun h => ⟨rfl, rfl, ⟨h, trivial⟩, fun h => absurd rfl h⟩, fun h => h.2.2.1.1⟩
  have h3 : p = 3 ∨ p = 4 ∨ p = 5 := by omega
  have ha := after_iff h3 L x
  unfold fitsR lnOk
  rw [if_neg h1, if_neg h2, if_neg h1]
  rcases h3 with rfl | rfl | rfl
  · show (if _ then inR x.2.2.2.1 (-1000000) 1000000 else false) = true ↔ ([] : List UInt8) = [] ∧ [x.2.1, x.2.2.1, x.2.2.2.1].length = 3 ∧ (((0 : Int) ≤ x.2.1 ∧ x.2.1 ≤ 31) ∧ ((0 : Int) ≤ x.2.2.1 ∧ x.2.2.1 ≤ 31) ∧ ((-1000000 : Int) ≤ x.2.2.2.1 ∧ x.2.2.2.1 ≤ 1000000) ∧ True) ∧ _
    constructor
    · intro h
      split at h
      · rename_i hc; exact ⟨rfl, rfl, ⟨inR_iff.1 hc.1, inR_iff.1 hc.2.1, inR_iff.1 h, trivial⟩, fun _ => ha.1 hc.2.2⟩
      · cases h
    · rintro ⟨_, _, ⟨a1, a2, a3, _⟩, a4⟩
      rw [if_pos ⟨inR_iff.2 a1, inR_iff.2 a2, ha.2 (a4 (by decide))⟩]; exact inR_iff.2 a3
  · show (if _ then inR x.2.2.2.1 0 x.2.1 && inR x.2.2.2.2 0 x.2.2.1 else false) = true ↔ ([] : List UInt8) = [] ∧ [x.2.1, x.2.2.1, x.2.2.2.1, x.2.2.2.2].length = 4 ∧ (((0 : Int) ≤ x.2.1 ∧ x.2.1 ≤ 31) ∧ ((0 : Int) ≤ x.2.2.1 ∧ x.2.2.1 ≤ 31) ∧ ((0 : Int) ≤ x.2.2.2.1 ∧ x.2.2.2.1 ≤ x.2.1) ∧ ((0 : Int) ≤ x.2.2.2.2 ∧ x.2.2.2.2 ≤ x.2.2.1) ∧ True) ∧ _
    constructor
    · intro h
      split at h
      · rename_i hc
        rw [Bool.and_eq_true, inR_iff, inR_iff] at h
        exact ⟨rfl, rfl, ⟨inR_iff.1 hc.1, inR_iff.1 hc.2.1, h.1, h.2, trivial⟩, fun _ => ha.1 hc.2.2⟩
      · cases h
    · rintro ⟨_, _, ⟨a1, a2, a3, a5, _⟩, a4⟩
      rw [if_pos ⟨inR_iff.2 a1, inR_iff.2 a2, ha.2 (a4 (by decide))⟩, Bool.and_eq_true, inR_iff, inR_iff]; exact ⟨a3, a5⟩
  · show (if _ then inR x.2.2.2.1 (-1000000000000) 1000000000000 else false) = true ↔ ([] : List UInt8) = [] ∧ [x.2.1, x.2.2.1, x.2.2.2.1].length = 3 ∧ (((0 : Int) ≤ x.2.1 ∧ x.2.1 ≤ 31) ∧ ((0 : Int) ≤ x.2.2.1 ∧ x.2.2.1 ≤ 31) ∧ ((-1000000000000 : Int) ≤ x.2.2.2.1 ∧ x.2.2.2.1 ≤ 1000000000000) ∧ True) ∧ _
    constructor
    · intro h
      split at h
      · rename_i hc; exact ⟨rfl, rfl, ⟨inR_iff.1 hc.1, inR_iff.1 hc.2.1, inR_iff.1 h, trivial⟩, fun _ => ha.1 hc.2.2⟩
      · cases h
    · rintro ⟨_, _, ⟨a1, a2, a3, _⟩, a4⟩
      rw [if_pos ⟨inR_iff.2 a1, inR_iff.2 a2, ha.2 (a4 (by decide))⟩]; exact inR_iff.2 a3
theorem lnsOk_snoc {p : Int} {x : Ln} : ∀ (l acc : List Ln), lnsOk p acc l → lnOk p (acc ++ l) x → lnsOk p acc (l ++ [x])
  | [], acc, _, h => ⟨by rw [List.append_nil] at h; exact h, trivial⟩
  | y :: r, acc, h, h2 => ⟨h.1, lnsOk_snoc r (acc ++ [y]) h.2 (by rw [List.append_assoc]; exact h2)⟩
end Go.Proofs.YtblllibdahkgfaaGreatDoor

namespace Go.Proofs.YtblllibdahkgfaaGreatDoor
open Go Sx
set_option maxRecDepth 100000
theorem pick4 {c n : Int} (hc : i64 c) (hn : 0 < n) {k : Int} (h : pickI c n = k) : 0 ≤ k ∧ k < n := by subst h; exact pickI_lt c n hn hc
theorem someEnd {F F1 : Fz} {p : Int} {v : Val} {t : List UInt8} {h : Hp} {nx : Nat} (hv : VOK p v) (ht : writeS p v = t) (hle : Fz.le F F1) (h0 : lget h 0 = some (.frz F1)) :
    Cln 1 (FoK F fun o F' => ∃ v, VOK p v ∧ o = .ret (.va (.str (writeS p v)))) (.ret (.va (.str t))) h nx := by
  subst ht
  exact endFo (.ret (.va (.str (writeS p v)))) F1 h0 hle (Fz.le_refl F1) ⟨v, hv, rfl⟩ (outE_refl _) rfl
theorem rasV {p w h : Int} {bits : List UInt8} (hp : 6 ≤ p ∧ p ≤ 8) (hw : 0 ≤ w ∧ w ≤ 32) (hh : min w 1 ≤ h ∧ h ≤ min w 1 * 32) (hb : if p = 7 then (bits.length : Int) = w * h ∧ bits.all (fun b => b == 48 || b == 49) = true else bits = []) : VOK p ⟨false, [], w, h, bits⟩ := by
  right
  refine ⟨rfl, ?_⟩
  by_cases h8 : p = 8
  · rw [if_pos h8]
    rw [if_neg (by omega)] at hb
    exact ⟨rfl, hb, by dsimp only; omega, by dsimp only; omega⟩
  · rw [if_neg h8, if_pos hp.1]
    exact ⟨rfl, hw, hh, hb⟩
set_option maxHeartbeats 8000000 in
theorem some6_fn (F : Fz) (b off cap : Nat) (q0 : Q4) (qr : List Q4) (p : Int) (hp : 6 ≤ p ∧ p ≤ 8) (np7 : ¬ p = 7) (ha : RawAt F b off (ints4 (q0 :: qr))) (hl : qr.length < 9223372036854775808) (hx : ∀ q ∈ q0 :: qr, i64 q.1 ∧ i64 q.2.1 ∧ i64 q.2.2.1 ∧ i64 q.2.2.2) :
    Fo Tryz.prog F 24 [.va (.int .i64 p), .va (.slice false 0 b off 1 (qr.length + 1) cap)] (fun o F' => ∃ v, VOK p v ∧ o = .ret (.va (.str (writeS p v)))) := by
  have hro := ha.quad
  obtain ⟨B, hro⟩ := hro
  have hq := hro 0 (by simp)
  have hB := hq.1
  have hr0 := hq.2.1
  have hr1 := hq.2.2.1
  have hr2 := hq.2.2.2.1
  have hk0 : (off + (0 : Int).toNat * 4) * 1 + (0 + (0 : Int).toNat * 1) = off + 0 * 4 := by simp
  have hk1 : (off + (0 : Int).toNat * 4) * 1 + (0 + (1 : Int).toNat * 1) = off + 0 * 4 + 1 := by simp
  have hk2 : (off + (0 : Int).toNat * 4) * 1 + (0 + (2 : Int).toNat * 1) = off + 0 * 4 + 2 := by simp
  have hx0 := hx q0 (by simp)
  have hin0 : 0 ≤ (0 : Int) ∧ (0 : Int) < ((qr.length + 1 : Nat) : Int) := ⟨by omega, by omega⟩
  have hpos : (0 : Int) < ((qr.length + 1 : Nat) : Int) := by omega
  have pk0 := pick_pu q0.1 4 hx0.1 (by decide) F
  have hpk0 : ∃ k, pickI q0.1 4 = k := ⟨_, rfl⟩
  obtain ⟨k0, hpk0⟩ := hpk0
  have rg0 := pick4 hx0.1 (by decide) hpk0
  rw [hpk0] at pk0
  have pk1 := pick_pu q0.1 9 hx0.1 (by decide) F
  have hpk1 : ∃ k, pickI q0.1 9 = k := ⟨_, rfl⟩
  obtain ⟨k1, hpk1⟩ := hpk1
  have rg1 := pick4 hx0.1 (by decide) hpk1
  rw [hpk1] at pk1
  have pk2 := pick_pu q0.2.1 8 hx0.2.1 (by decide) F
  have hpk2 : ∃ k, pickI q0.2.1 8 = k := ⟨_, rfl⟩
  obtain ⟨k2, hpk2⟩ := hpk2
  have rg2 := pick4 hx0.2.1 (by decide) hpk2
  rw [hpk2] at pk2
  have pk3 := pick_pu q0.2.2.1 5 hx0.2.2.1 (by decide) F
  have hpk3 : ∃ k, pickI q0.2.2.1 5 = k := ⟨_, rfl⟩
  obtain ⟨k3, hpk3⟩ := hpk3
  have rg3 := pick4 hx0.2.2.1 (by decide) hpk3
  rw [hpk3] at pk3
  have pk4 := pick_pu q0.1 33 hx0.1 (by decide) F
  have hpk4 : ∃ k, pickI q0.1 33 = k := ⟨_, rfl⟩
  obtain ⟨k4, hpk4⟩ := hpk4
  have rg4 := pick4 hx0.1 (by decide) hpk4
  rw [hpk4] at pk4
  have pk5 := pick_pu q0.2.1 32 hx0.2.1 (by decide) F
  have hpk5 : ∃ k, pickI q0.2.1 32 = k := ⟨_, rfl⟩
  obtain ⟨k5, hpk5⟩ := hpk5
  have rg5 := pick4 hx0.2.1 (by decide) hpk5
  rw [hpk5] at pk5
  have eh2 : IntKind.i64.wrap (1 + k2) = 1 + k2 := wrap64_id (by omega) (by omega)
  have eh5 : IntKind.i64.wrap (1 + k5) = 1 + k5 := wrap64_id (by omega) (by omega)
  have vl : VOK p loseV := .inl rfl
  have el : writeS p loseV = [] := if_pos rfl
  clear hpk0 hpk1 hpk2 hpk3 hpk4 hpk5 hx0 hq hx ha hro
  refine fo_of hΘ Tryz.func24 rfl (by decide) _ _ rfl rfl rfl ?_
  conv => whnf
  refine ⟨fun ga => ?_, fun ga => ?_⟩
  · clear ga
    conv => whnf
    refine ⟨rfl, hin0, ?_⟩
    conv => whnf
    refine ⟨⟨by decide, by decide⟩, ?_⟩
    conv => whnf
    refine ⟨_, hB, ?_⟩
    refine hr0.rd hk0 ?_
    conv => whnf
    refine usePu pk0 rfl ⟨rfl, rfl, trivial⟩ rfl ?_
    conv => whnf
    refine br (fun g => ?_) (fun g => ?_)
    · conv => whnf
      exact someEnd vl el (Fz.le_refl F) rfl
    · clear g
      conv => whnf
      refine br (fun _ => ?_) (fun g => absurd hp.1 (of_decide_eq_false g))
      conv => whnf
      refine br (fun _ => ?_) (fun g => absurd hpos (of_decide_eq_false g))
      conv => whnf
      refine ⟨rfl, hin0, ?_⟩
      conv => whnf
      refine ⟨⟨by decide, by decide⟩, ?_⟩
      conv => whnf
      refine ⟨_, hB, ?_⟩
      refine hr0.rd hk0 ?_
      conv => whnf
      refine usePu pk1 rfl ⟨rfl, rfl, trivial⟩ rfl ?_
      conv => whnf
      refine ⟨rfl, hin0, ?_⟩
      conv => whnf
      refine ⟨⟨by decide, by decide⟩, ?_⟩
      conv => whnf
      refine ⟨_, hB, ?_⟩
      refine hr1.rd hk1 ?_
      conv => whnf
      refine usePu pk2 rfl ⟨rfl, rfl, trivial⟩ rfl ?_
      conv => whnf
      refine ⟨rfl, hin0, ?_⟩
      conv => whnf
      refine ⟨⟨by decide, by decide⟩, ?_⟩
      conv => whnf
      refine ⟨_, hB, ?_⟩
      refine hr2.rd hk2 ?_
      conv => whnf
      refine usePu pk3 rfl ⟨rfl, rfl, trivial⟩ rfl ?_
      conv => whnf
      refine br (fun g5 => ?_) (fun g5 => ?_)
      · clear g5
        conv => whnf
        refine ⟨rfl, hin0, ?_⟩
        conv => whnf
        refine ⟨⟨by decide, by decide⟩, ?_⟩
        conv => whnf
        refine ⟨_, hB, ?_⟩
        refine hr0.rd hk0 ?_
        conv => whnf
        refine usePu pk4 rfl ⟨rfl, rfl, trivial⟩ rfl ?_
        conv => whnf
        refine ⟨rfl, hin0, ?_⟩
        conv => whnf
        refine ⟨⟨by decide, by decide⟩, ?_⟩
        conv => whnf
        refine ⟨_, hB, ?_⟩
        refine hr1.rd hk1 ?_
        conv => whnf
        refine usePu pk5 rfl ⟨rfl, rfl, trivial⟩ rfl ?_
        conv => whnf
        refine br (fun g0 => ?_) (fun g0 => ?_)
        · have g0' : k4 = 0 := of_decide_eq_true g0
          clear g0
          have hw : 0 ≤ k4 ∧ k4 ≤ 32 := ⟨by omega, by omega⟩
          have hh : min k4 1 ≤ 0 ∧ 0 ≤ min k4 1 * 32 := ⟨by omega, by omega⟩
          have hv := rasV (bits := []) hp hw hh (by rw [if_neg np7])
          have he : writeS p ⟨false, [], k4, 0, []⟩ = rwriteS p ⟨false, [], k4, 0, []⟩ := (rwriteS_of p ⟨false, [], k4, 0, []⟩).symm
          have hwr := rwrite_fn F p ⟨false, [], k4, 0, []⟩ 0 (by omega) (Nat.zero_le _) (fun x hx => absurd hx (by simp)) (Nat.zero_le _)
          conv => whnf
          refine loop_at hΘ (X := Unit) (fun _ => [(6, .va (.int .i64 0))]) [66, 67, 68, 69, 70, 71, 72, 73, 74, 75, 76, 77, 78, 79, 80, 81, 82, 83, 84, 85, 86, 87, 88, 89, 90, 91, 92, 93, 94, 95, 96] (fun _ => [(0, .frz F), (1, rvalE ⟨false, [], k4, 0, []⟩ 2 0), (2, gE 88 5 encL 0 [])]) 3 (fun _ => 0) ()
            (fun hH hT => leI [(2, 2)] hH hT rfl ⟨trivial, rvalE_below (by omega) _, gE_below encL_plain _ _ _ _ _, trivial⟩ ⟨rfl, trivial⟩ ⟨Fz.le_refl F, rfl, rfl, trivial⟩) ?_
          rintro ⟨⟩ hH hT
          conv => whnf
          refine ⟨fun gb => ?_, fun gb => ?_⟩
          · clear gb
            conv => whnf
            refine br (fun g => absurd (of_decide_eq_true g) np7) (fun _ => ?_)
            conv => whnf
            refine use hwr [(1, 2)] rfl ⟨rfl, rfl, trivial⟩ rfl ⟨gE_below encL_plain _ _ _ _ _, trivial⟩ (by simp [SV.below, SA.below, rvalV, gA]) ⟨sub_gE encL_plain (gE_self _ _ _ _), trivial⟩ ?_
            rintro out0 F0 h0 n0 hle ⟨hle2, rfl, rfl, rfl⟩
            conv => whnf
            exact someEnd hv he hle rfl
          · clear gb
            conv => whnf
            refine use hwr [(1, 2)] rfl ⟨rfl, rfl, trivial⟩ rfl ⟨gE_below encL_plain _ _ _ _ _, trivial⟩ (by simp [SV.below, SA.below, rvalV, gA]) ⟨sub_gE encL_plain (gE_self _ _ _ _), trivial⟩ ?_
            rintro out0 F0 h0 n0 hle ⟨hle2, rfl, rfl, rfl⟩
            conv => whnf
            exact someEnd hv he hle rfl
        · have g0' : ¬ k4 = 0 := of_decide_eq_false g0
          clear g0
          have hw : 0 ≤ k4 ∧ k4 ≤ 32 := ⟨by omega, by omega⟩
          have hh : min k4 1 ≤ IntKind.i64.wrap (1 + k5) ∧ IntKind.i64.wrap (1 + k5) ≤ min k4 1 * 32 := ⟨by rw [eh5]; omega, by rw [eh5]; omega⟩
          have hv := rasV (bits := []) hp hw hh (by rw [if_neg np7])
          have he : writeS p ⟨false, [], k4, IntKind.i64.wrap (1 + k5), []⟩ = rwriteS p ⟨false, [], k4, IntKind.i64.wrap (1 + k5), []⟩ := (rwriteS_of p ⟨false, [], k4, IntKind.i64.wrap (1 + k5), []⟩).symm
          have hwr := rwrite_fn F p ⟨false, [], k4, IntKind.i64.wrap (1 + k5), []⟩ 0 (by omega) (Nat.zero_le _) (fun x hx => absurd hx (by simp)) (Nat.zero_le _)
          conv => whnf
          refine loop_at hΘ (X := Unit) (fun _ => [(6, .va (.int .i64 0))]) [66, 67, 68, 69, 70, 71, 72, 73, 74, 75, 76, 77, 78, 79, 80, 81, 82, 83, 84, 85, 86, 87, 88, 89, 90, 91, 92, 93, 94, 95, 96] (fun _ => [(0, .frz F), (1, rvalE ⟨false, [], k4, IntKind.i64.wrap (1 + k5), []⟩ 2 0), (2, gE 88 5 encL 0 [])]) 3 (fun _ => 0) ()
            (fun hH hT => leI [(2, 2)] hH hT rfl ⟨trivial, rvalE_below (by omega) _, gE_below encL_plain _ _ _ _ _, trivial⟩ ⟨rfl, trivial⟩ ⟨Fz.le_refl F, rfl, rfl, trivial⟩) ?_
          rintro ⟨⟩ hH hT
          conv => whnf
          refine ⟨fun gb => ?_, fun gb => ?_⟩
          · clear gb
            conv => whnf
            refine br (fun g => absurd (of_decide_eq_true g) np7) (fun _ => ?_)
            conv => whnf
            refine use hwr [(1, 2)] rfl ⟨rfl, rfl, trivial⟩ rfl ⟨gE_below encL_plain _ _ _ _ _, trivial⟩ (by simp [SV.below, SA.below, rvalV, gA]) ⟨sub_gE encL_plain (gE_self _ _ _ _), trivial⟩ ?_
            rintro out0 F0 h0 n0 hle ⟨hle2, rfl, rfl, rfl⟩
            conv => whnf
            exact someEnd hv he hle rfl
          · clear gb
            conv => whnf
            refine use hwr [(1, 2)] rfl ⟨rfl, rfl, trivial⟩ rfl ⟨gE_below encL_plain _ _ _ _ _, trivial⟩ (by simp [SV.below, SA.below, rvalV, gA]) ⟨sub_gE encL_plain (gE_self _ _ _ _), trivial⟩ ?_
            rintro out0 F0 h0 n0 hle ⟨hle2, rfl, rfl, rfl⟩
            conv => whnf
            exact someEnd hv he hle rfl
      · clear g5
        conv => whnf
        refine br (fun g0 => ?_) (fun g0 => ?_)
        · have g0' : k1 = 0 := of_decide_eq_true g0
          clear g0
          have hw : 0 ≤ k1 ∧ k1 ≤ 32 := ⟨by omega, by omega⟩
          have hh : min k1 1 ≤ 0 ∧ 0 ≤ min k1 1 * 32 := ⟨by omega, by omega⟩
          have hv := rasV (bits := []) hp hw hh (by rw [if_neg np7])
          have he : writeS p ⟨false, [], k1, 0, []⟩ = rwriteS p ⟨false, [], k1, 0, []⟩ := (rwriteS_of p ⟨false, [], k1, 0, []⟩).symm
          have hwr := rwrite_fn F p ⟨false, [], k1, 0, []⟩ 0 (by omega) (Nat.zero_le _) (fun x hx => absurd hx (by simp)) (Nat.zero_le _)
          conv => whnf
          refine loop_at hΘ (X := Unit) (fun _ => [(6, .va (.int .i64 0))]) [66, 67, 68, 69, 70, 71, 72, 73, 74, 75, 76, 77, 78, 79, 80, 81, 82, 83, 84, 85, 86, 87, 88, 89, 90, 91, 92, 93, 94, 95, 96] (fun _ => [(0, .frz F), (1, rvalE ⟨false, [], k1, 0, []⟩ 2 0), (2, gE 88 5 encL 0 [])]) 3 (fun _ => 0) ()
            (fun hH hT => leI [(2, 2)] hH hT rfl ⟨trivial, rvalE_below (by omega) _, gE_below encL_plain _ _ _ _ _, trivial⟩ ⟨rfl, trivial⟩ ⟨Fz.le_refl F, rfl, rfl, trivial⟩) ?_
          rintro ⟨⟩ hH hT
          conv => whnf
          refine ⟨fun gb => ?_, fun gb => ?_⟩
          · clear gb
            conv => whnf
            refine br (fun g => absurd (of_decide_eq_true g) np7) (fun _ => ?_)
            conv => whnf
            refine use hwr [(1, 2)] rfl ⟨rfl, rfl, trivial⟩ rfl ⟨gE_below encL_plain _ _ _ _ _, trivial⟩ (by simp [SV.below, SA.below, rvalV, gA]) ⟨sub_gE encL_plain (gE_self _ _ _ _), trivial⟩ ?_
            rintro out0 F0 h0 n0 hle ⟨hle2, rfl, rfl, rfl⟩
            conv => whnf
            exact someEnd hv he hle rfl
          · clear gb
            conv => whnf
            refine use hwr [(1, 2)] rfl ⟨rfl, rfl, trivial⟩ rfl ⟨gE_below encL_plain _ _ _ _ _, trivial⟩ (by simp [SV.below, SA.below, rvalV, gA]) ⟨sub_gE encL_plain (gE_self _ _ _ _), trivial⟩ ?_
            rintro out0 F0 h0 n0 hle ⟨hle2, rfl, rfl, rfl⟩
            conv => whnf
            exact someEnd hv he hle rfl
        · have g0' : ¬ k1 = 0 := of_decide_eq_false g0
          clear g0
          have hw : 0 ≤ k1 ∧ k1 ≤ 32 := ⟨by omega, by omega⟩
          have hh : min k1 1 ≤ IntKind.i64.wrap (1 + k2) ∧ IntKind.i64.wrap (1 + k2) ≤ min k1 1 * 32 := ⟨by rw [eh2]; omega, by rw [eh2]; omega⟩
          have hv := rasV (bits := []) hp hw hh (by rw [if_neg np7])
          have he : writeS p ⟨false, [], k1, IntKind.i64.wrap (1 + k2), []⟩ = rwriteS p ⟨false, [], k1, IntKind.i64.wrap (1 + k2), []⟩ := (rwriteS_of p ⟨false, [], k1, IntKind.i64.wrap (1 + k2), []⟩).symm
          have hwr := rwrite_fn F p ⟨false, [], k1, IntKind.i64.wrap (1 + k2), []⟩ 0 (by omega) (Nat.zero_le _) (fun x hx => absurd hx (by simp)) (Nat.zero_le _)
          conv => whnf
          refine loop_at hΘ (X := Unit) (fun _ => [(6, .va (.int .i64 0))]) [66, 67, 68, 69, 70, 71, 72, 73, 74, 75, 76, 77, 78, 79, 80, 81, 82, 83, 84, 85, 86, 87, 88, 89, 90, 91, 92, 93, 94, 95, 96] (fun _ => [(0, .frz F), (1, rvalE ⟨false, [], k1, IntKind.i64.wrap (1 + k2), []⟩ 2 0), (2, gE 88 5 encL 0 [])]) 3 (fun _ => 0) ()
            (fun hH hT => leI [(2, 2)] hH hT rfl ⟨trivial, rvalE_below (by omega) _, gE_below encL_plain _ _ _ _ _, trivial⟩ ⟨rfl, trivial⟩ ⟨Fz.le_refl F, rfl, rfl, trivial⟩) ?_
          rintro ⟨⟩ hH hT
          conv => whnf
          refine ⟨fun gb => ?_, fun gb => ?_⟩
          · clear gb
            conv => whnf
            refine br (fun g => absurd (of_decide_eq_true g) np7) (fun _ => ?_)
            conv => whnf
            refine use hwr [(1, 2)] rfl ⟨rfl, rfl, trivial⟩ rfl ⟨gE_below encL_plain _ _ _ _ _, trivial⟩ (by simp [SV.below, SA.below, rvalV, gA]) ⟨sub_gE encL_plain (gE_self _ _ _ _), trivial⟩ ?_
            rintro out0 F0 h0 n0 hle ⟨hle2, rfl, rfl, rfl⟩
            conv => whnf
            exact someEnd hv he hle rfl
          · clear gb
            conv => whnf
            refine use hwr [(1, 2)] rfl ⟨rfl, rfl, trivial⟩ rfl ⟨gE_below encL_plain _ _ _ _ _, trivial⟩ (by simp [SV.below, SA.below, rvalV, gA]) ⟨sub_gE encL_plain (gE_self _ _ _ _), trivial⟩ ?_
            rintro out0 F0 h0 n0 hle ⟨hle2, rfl, rfl, rfl⟩
            conv => whnf
            exact someEnd hv he hle rfl
  · clear ga
    conv => whnf
    refine br (fun _ => ?_) (fun g => absurd hp.1 (of_decide_eq_false g))
    conv => whnf
    refine br (fun _ => ?_) (fun g => absurd hpos (of_decide_eq_false g))
    conv => whnf
    refine ⟨rfl, hin0, ?_⟩
    conv => whnf
    refine ⟨⟨by decide, by decide⟩, ?_⟩
    conv => whnf
    refine ⟨_, hB, ?_⟩
    refine hr0.rd hk0 ?_
    conv => whnf
    refine usePu pk1 rfl ⟨rfl, rfl, trivial⟩ rfl ?_
    conv => whnf
    refine ⟨rfl, hin0, ?_⟩
    conv => whnf
    refine ⟨⟨by decide, by decide⟩, ?_⟩
    conv => whnf
    refine ⟨_, hB, ?_⟩
    refine hr1.rd hk1 ?_
    conv => whnf
    refine usePu pk2 rfl ⟨rfl, rfl, trivial⟩ rfl ?_
    conv => whnf
    refine ⟨rfl, hin0, ?_⟩
    conv => whnf
    refine ⟨⟨by decide, by decide⟩, ?_⟩
    conv => whnf
    refine ⟨_, hB, ?_⟩
    refine hr2.rd hk2 ?_
    conv => whnf
    refine usePu pk3 rfl ⟨rfl, rfl, trivial⟩ rfl ?_
    conv => whnf
    refine br (fun g5 => ?_) (fun g5 => ?_)
    · clear g5
      conv => whnf
      refine ⟨rfl, hin0, ?_⟩
      conv => whnf
      refine ⟨⟨by decide, by decide⟩, ?_⟩
      conv => whnf
      refine ⟨_, hB, ?_⟩
      refine hr0.rd hk0 ?_
      conv => whnf
      refine usePu pk4 rfl ⟨rfl, rfl, trivial⟩ rfl ?_
      conv => whnf
      refine ⟨rfl, hin0, ?_⟩
      conv => whnf
      refine ⟨⟨by decide, by decide⟩, ?_⟩
      conv => whnf
      refine ⟨_, hB, ?_⟩
      refine hr1.rd hk1 ?_
      conv => whnf
      refine usePu pk5 rfl ⟨rfl, rfl, trivial⟩ rfl ?_
      conv => whnf
      refine br (fun g0 => ?_) (fun g0 => ?_)
      · have g0' : k4 = 0 := of_decide_eq_true g0
        clear g0
        have hw : 0 ≤ k4 ∧ k4 ≤ 32 := ⟨by omega, by omega⟩
        have hh : min k4 1 ≤ 0 ∧ 0 ≤ min k4 1 * 32 := ⟨by omega, by omega⟩
        have hv := rasV (bits := []) hp hw hh (by rw [if_neg np7])
        have he : writeS p ⟨false, [], k4, 0, []⟩ = rwriteS p ⟨false, [], k4, 0, []⟩ := (rwriteS_of p ⟨false, [], k4, 0, []⟩).symm
        have hwr := rwrite_fn F p ⟨false, [], k4, 0, []⟩ 0 (by omega) (Nat.zero_le _) (fun x hx => absurd hx (by simp)) (Nat.zero_le _)
        conv => whnf
        refine loop_at hΘ (X := Unit) (fun _ => [(6, .va (.int .i64 0))]) [66, 67, 68, 69, 70, 71, 72, 73, 74, 75, 76, 77, 78, 79, 80, 81, 82, 83, 84, 85, 86, 87, 88, 89, 90, 91, 92, 93, 94, 95, 96] (fun _ => [(0, .frz F), (1, rvalE ⟨false, [], k4, 0, []⟩ 2 0), (2, gE 88 5 encL 0 [])]) 3 (fun _ => 0) ()
          (fun hH hT => leI [(2, 2)] hH hT rfl ⟨trivial, rvalE_below (by omega) _, gE_below encL_plain _ _ _ _ _, trivial⟩ ⟨rfl, trivial⟩ ⟨Fz.le_refl F, rfl, rfl, trivial⟩) ?_
        rintro ⟨⟩ hH hT
        conv => whnf
        refine ⟨fun gb => ?_, fun gb => ?_⟩
        · clear gb
          conv => whnf
          refine br (fun g => absurd (of_decide_eq_true g) np7) (fun _ => ?_)
          conv => whnf
          refine use hwr [(1, 2)] rfl ⟨rfl, rfl, trivial⟩ rfl ⟨gE_below encL_plain _ _ _ _ _, trivial⟩ (by simp [SV.below, SA.below, rvalV, gA]) ⟨sub_gE encL_plain (gE_self _ _ _ _), trivial⟩ ?_
          rintro out0 F0 h0 n0 hle ⟨hle2, rfl, rfl, rfl⟩
          conv => whnf
          exact someEnd hv he hle rfl
        · clear gb
          conv => whnf
          refine use hwr [(1, 2)] rfl ⟨rfl, rfl, trivial⟩ rfl ⟨gE_below encL_plain _ _ _ _ _, trivial⟩ (by simp [SV.below, SA.below, rvalV, gA]) ⟨sub_gE encL_plain (gE_self _ _ _ _), trivial⟩ ?_
          rintro out0 F0 h0 n0 hle ⟨hle2, rfl, rfl, rfl⟩
          conv => whnf
          exact someEnd hv he hle rfl
      · have g0' : ¬ k4 = 0 := of_decide_eq_false g0
        clear g0
        have hw : 0 ≤ k4 ∧ k4 ≤ 32 := ⟨by omega, by omega⟩
        have hh : min k4 1 ≤ IntKind.i64.wrap (1 + k5) ∧ IntKind.i64.wrap (1 + k5) ≤ min k4 1 * 32 := ⟨by rw [eh5]; omega, by rw [eh5]; omega⟩
        have hv := rasV (bits := []) hp hw hh (by rw [if_neg np7])
        have he : writeS p ⟨false, [], k4, IntKind.i64.wrap (1 + k5), []⟩ = rwriteS p ⟨false, [], k4, IntKind.i64.wrap (1 + k5), []⟩ := (rwriteS_of p ⟨false, [], k4, IntKind.i64.wrap (1 + k5), []⟩).symm
        have hwr := rwrite_fn F p ⟨false, [], k4, IntKind.i64.wrap (1 + k5), []⟩ 0 (by omega) (Nat.zero_le _) (fun x hx => absurd hx (by simp)) (Nat.zero_le _)
        conv => whnf
        refine loop_at hΘ (X := Unit) (fun _ => [(6, .va (.int .i64 0))]) [66, 67, 68, 69, 70, 71, 72, 73, 74, 75, 76, 77, 78, 79, 80, 81, 82, 83, 84, 85, 86, 87, 88, 89, 90, 91, 92, 93, 94, 95, 96] (fun _ => [(0, .frz F), (1, rvalE ⟨false, [], k4, IntKind.i64.wrap (1 + k5), []⟩ 2 0), (2, gE 88 5 encL 0 [])]) 3 (fun _ => 0) ()
          (fun hH hT => leI [(2, 2)] hH hT rfl ⟨trivial, rvalE_below (by omega) _, gE_below encL_plain _ _ _ _ _, trivial⟩ ⟨rfl, trivial⟩ ⟨Fz.le_refl F, rfl, rfl, trivial⟩) ?_
        rintro ⟨⟩ hH hT
        conv => whnf
        refine ⟨fun gb => ?_, fun gb => ?_⟩
        · clear gb
          conv => whnf
          refine br (fun g => absurd (of_decide_eq_true g) np7) (fun _ => ?_)
          conv => whnf
          refine use hwr [(1, 2)] rfl ⟨rfl, rfl, trivial⟩ rfl ⟨gE_below encL_plain _ _ _ _ _, trivial⟩ (by simp [SV.below, SA.below, rvalV, gA]) ⟨sub_gE encL_plain (gE_self _ _ _ _), trivial⟩ ?_
          rintro out0 F0 h0 n0 hle ⟨hle2, rfl, rfl, rfl⟩
          conv => whnf
          exact someEnd hv he hle rfl
        · clear gb
          conv => whnf
          refine use hwr [(1, 2)] rfl ⟨rfl, rfl, trivial⟩ rfl ⟨gE_below encL_plain _ _ _ _ _, trivial⟩ (by simp [SV.below, SA.below, rvalV, gA]) ⟨sub_gE encL_plain (gE_self _ _ _ _), trivial⟩ ?_
          rintro out0 F0 h0 n0 hle ⟨hle2, rfl, rfl, rfl⟩
          conv => whnf
          exact someEnd hv he hle rfl
    · clear g5
      conv => whnf
      refine br (fun g0 => ?_) (fun g0 => ?_)
      · have g0' : k1 = 0 := of_decide_eq_true g0
        clear g0
        have hw : 0 ≤ k1 ∧ k1 ≤ 32 := ⟨by omega, by omega⟩
        have hh : min k1 1 ≤ 0 ∧ 0 ≤ min k1 1 * 32 := ⟨by omega, by omega⟩
        have hv := rasV (bits := []) hp hw hh (by rw [if_neg np7])
        have he : writeS p ⟨false, [], k1, 0, []⟩ = rwriteS p ⟨false, [], k1, 0, []⟩ := (rwriteS_of p ⟨false, [], k1, 0, []⟩).symm
        have hwr := rwrite_fn F p ⟨false, [], k1, 0, []⟩ 0 (by omega) (Nat.zero_le _) (fun x hx => absurd hx (by simp)) (Nat.zero_le _)
        conv => whnf
        refine loop_at hΘ (X := Unit) (fun _ => [(6, .va (.int .i64 0))]) [66, 67, 68, 69, 70, 71, 72, 73, 74, 75, 76, 77, 78, 79, 80, 81, 82, 83, 84, 85, 86, 87, 88, 89, 90, 91, 92, 93, 94, 95, 96] (fun _ => [(0, .frz F), (1, rvalE ⟨false, [], k1, 0, []⟩ 2 0), (2, gE 88 5 encL 0 [])]) 3 (fun _ => 0) ()
          (fun hH hT => leI [(2, 2)] hH hT rfl ⟨trivial, rvalE_below (by omega) _, gE_below encL_plain _ _ _ _ _, trivial⟩ ⟨rfl, trivial⟩ ⟨Fz.le_refl F, rfl, rfl, trivial⟩) ?_
        rintro ⟨⟩ hH hT
        conv => whnf
        refine ⟨fun gb => ?_, fun gb => ?_⟩
        · clear gb
          conv => whnf
          refine br (fun g => absurd (of_decide_eq_true g) np7) (fun _ => ?_)
          conv => whnf
          refine use hwr [(1, 2)] rfl ⟨rfl, rfl, trivial⟩ rfl ⟨gE_below encL_plain _ _ _ _ _, trivial⟩ (by simp [SV.below, SA.below, rvalV, gA]) ⟨sub_gE encL_plain (gE_self _ _ _ _), trivial⟩ ?_
          rintro out0 F0 h0 n0 hle ⟨hle2, rfl, rfl, rfl⟩
          conv => whnf
          exact someEnd hv he hle rfl
        · clear gb
          conv => whnf
          refine use hwr [(1, 2)] rfl ⟨rfl, rfl, trivial⟩ rfl ⟨gE_below encL_plain _ _ _ _ _, trivial⟩ (by simp [SV.below, SA.below, rvalV, gA]) ⟨sub_gE encL_plain (gE_self _ _ _ _), trivial⟩ ?_
          rintro out0 F0 h0 n0 hle ⟨hle2, rfl, rfl, rfl⟩
          conv => whnf
          exact someEnd hv he hle rfl
      · have g0' : ¬ k1 = 0 := of_decide_eq_false g0
        clear g0
        have hw : 0 ≤ k1 ∧ k1 ≤ 32 := ⟨by omega, by omega⟩
        have hh : min k1 1 ≤ IntKind.i64.wrap (1 + k2) ∧ IntKind.i64.wrap (1 + k2) ≤ min k1 1 * 32 := ⟨by rw [eh2]; omega, by rw [eh2]; omega⟩
        have hv := rasV (bits := []) hp hw hh (by rw [if_neg np7])
        have he : writeS p ⟨false, [], k1, IntKind.i64.wrap (1 + k2), []⟩ = rwriteS p ⟨false, [], k1, IntKind.i64.wrap (1 + k2), []⟩ := (rwriteS_of p ⟨false, [], k1, IntKind.i64.wrap (1 + k2), []⟩).symm
        have hwr := rwrite_fn F p ⟨false, [], k1, IntKind.i64.wrap (1 + k2), []⟩ 0 (by omega) (Nat.zero_le _) (fun x hx => absurd hx (by simp)) (Nat.zero_le _)
        conv => whnf
        refine loop_at hΘ (X := Unit) (fun _ => [(6, .va (.int .i64 0))]) [66, 67, 68, 69, 70, 71, 72, 73, 74, 75, 76, 77, 78, 79, 80, 81, 82, 83, 84, 85, 86, 87, 88, 89, 90, 91, 92, 93, 94, 95, 96] (fun _ => [(0, .frz F), (1, rvalE ⟨false, [], k1, IntKind.i64.wrap (1 + k2), []⟩ 2 0), (2, gE 88 5 encL 0 [])]) 3 (fun _ => 0) ()
          (fun hH hT => leI [(2, 2)] hH hT rfl ⟨trivial, rvalE_below (by omega) _, gE_below encL_plain _ _ _ _ _, trivial⟩ ⟨rfl, trivial⟩ ⟨Fz.le_refl F, rfl, rfl, trivial⟩) ?_
        rintro ⟨⟩ hH hT
        conv => whnf
        refine ⟨fun gb => ?_, fun gb => ?_⟩
        · clear gb
          conv => whnf
          refine br (fun g => absurd (of_decide_eq_true g) np7) (fun _ => ?_)
          conv => whnf
          refine use hwr [(1, 2)] rfl ⟨rfl, rfl, trivial⟩ rfl ⟨gE_below encL_plain _ _ _ _ _, trivial⟩ (by simp [SV.below, SA.below, rvalV, gA]) ⟨sub_gE encL_plain (gE_self _ _ _ _), trivial⟩ ?_
          rintro out0 F0 h0 n0 hle ⟨hle2, rfl, rfl, rfl⟩
          conv => whnf
          exact someEnd hv he hle rfl
        · clear gb
          conv => whnf
          refine use hwr [(1, 2)] rfl ⟨rfl, rfl, trivial⟩ rfl ⟨gE_below encL_plain _ _ _ _ _, trivial⟩ (by simp [SV.below, SA.below, rvalV, gA]) ⟨sub_gE encL_plain (gE_self _ _ _ _), trivial⟩ ?_
          rintro out0 F0 h0 n0 hle ⟨hle2, rfl, rfl, rfl⟩
          conv => whnf
          exact someEnd hv he hle rfl
end Go.Proofs.YtblllibdahkgfaaGreatDoor
