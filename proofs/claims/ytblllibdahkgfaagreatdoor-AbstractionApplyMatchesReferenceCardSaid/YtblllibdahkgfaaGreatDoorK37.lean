import Derived.Test.YtblllibdahkgfaaGreatDoorK36
import Derived.Test.YtblllibdahkgfaaGreatDoorK25

namespace Go.Proofs.YtblllibdahkgfaaGreatDoor
open Go Sx
set_option maxRecDepth 100000
abbrev zy1 (F0 : Fz) (s : SA) (a : List Stp) : Prop := ∀ G, Fz.le F0 G → Fo Tryz.prog G 13 [.va s] (fun o F' => ∃ sc, o = .ret (.va sc) ∧ zaz F' sc (a.take 66))
theorem both {F : Fz} (hM : MLF F) {sa : SA} {l : List Stp} {q : Int} {s : List UInt8} (ha : zaz F sa l) (hl : l.length < 1000000) (hs : s.length ≤ 1000000000000000000) :
  ∃ y e, Fo Tryz.prog F 26 [.va (.int .i64 q), .va sa, .va (.str s)] (fun o F' => o = .ret (.tup [.va (.str y), .va (.int .i64 e)])) ∧
   ∀ G, Fz.le F G → Fo Tryz.prog G 27 [.va (.int .i64 q), .va sa, .va (.str s)] (fun o F' => o = .ret (.tup [.va (.str y), .va (.int .i64 e)])) := by
 refine ⟨_, _, zj4 F hM sa l q s ha hl hs, fun G hG => ?_⟩
 have h := zr1 G q l s sa (ha.mono hG) hl hs
 unfold zkv at h
 rw [zry] at h
 exact h
theorem zmf {n : Nat} {a b c : SA} (ha : a.below n) (hb : b.below n) (hc : c.below n) : SB.below n (.arr 22 1 [[a], [b], [c]] 3) := by
 intro x hx y hy
 simp only [List.mem_cons, List.not_mem_nil, or_false] at hx
 rcases hx with rfl | rfl | rfl <;> (simp only [List.mem_cons, List.not_mem_nil, or_false] at hy; subst hy; assumption)
theorem zq2 {F : Fz} {s1 s2 : SA} {l1 l2 : List Stp} (h1 : zaz F s1 l1) (h2 : zaz F s2 l2) (k1 : l1.length < 1000000) (k2 : l2.length < 1000000) :
  ∀ k : Nat, k < 3 → (∃ n b e c l, ([[s1], [s2], [.nilsl]] : List (List SA))[0 + (k : Int).toNat]? = some [.slice n 0 b e 2 (List.length l) c] ∧ zaz F (.slice n 0 b e 2 (List.length l) c) l ∧ l.length < 1000000) ∨
   ([[s1], [s2], [.nilsl]] : List (List SA))[0 + (k : Int).toNat]? = some [.nilsl] := by
 intro k hk
 have e1 := h1
 have e2 := h2
 obtain ⟨e1n, e1b, e1e, e1c, e1L, e1r, rfl, e11, e12, e13, e14⟩ := e1
 obtain ⟨e2n, e2b, e2e, e2c, e2L, e2r, rfl, e21, e22, e23, e24⟩ := e2
 match k, hk with
 | 0, _ => exact .inl ⟨_, _, _, _, l1, rfl, h1, k1⟩
 | 1, _ => exact .inl ⟨_, _, _, _, l2, rfl, h2, k2⟩
 | 2, _ => exact .inr rfl
theorem zg9 {t1 t2 t3 : List UInt8} {m : Nat} (h1 : t1.length ≤ m) (h2 : t2.length ≤ m) (h3 : t3.length ≤ m) : ∀ k : Nat, k < 3 → ∃ t, (([t1, t2, t3] : List (List UInt8)).map encS)[0 + (k : Int).toNat]? = some [.str t] ∧ t.length ≤ m := by
 intro k hk
 match k, hk with
 | 0, _ => exact ⟨_, rfl, h1⟩
 | 1, _ => exact ⟨_, rfl, h2⟩
 | 2, _ => exact ⟨_, rfl, h3⟩
abbrev ziz (s : List UInt8) : List UInt8 := (s.take (if (200 : Int) < (s.length : Nat) then (200 : Int) else (s.length : Nat)).toNat).drop 0
theorem zfl (s : List UInt8) : (ziz s).length ≤ 1000000000000000000 := by
 unfold ziz
 rw [List.drop_zero, List.length_take]
 split <;> omega
abbrev chg (L : List UInt8) (k : Int) (c : UInt8) : List UInt8 := (L.take k.toNat).drop 0 ++ [c] ++ (L.take L.length).drop (IntKind.i64.wrap (k + 1)).toNat
theorem zx6 (L : List UInt8) (k : Int) (c : UInt8) : (chg L k c).length ≤ 2 * L.length + 1 := by
 unfold chg
 rw [List.length_append, List.length_append, List.length_drop, List.length_drop, List.length_take, List.length_take, List.length_singleton]
 omega
set_option maxHeartbeats 16000000 in
theorem zxv (F0 : Fz) (m0 : MLF F0) (raw p at_ : Int) (hp : i64 p) (hat : i64 at_) (s : List UInt8) (c : UInt8) (n1 n2 nv : Bool) (b1 b2 bv e1 e2 ev s1 s2 sv l1 l2 lv c1 c2 cv : Nat) (a : List Stp) (x : List Int)
  (ha : zy1 F0 (.slice n1 0 b1 e1 s1 l1 c1) a) (hx : ztr F0 (.slice n2 0 b2 e2 s2 l2 c2) x) (hv : zsk F0 (.slice nv 0 bv ev sv lv cv)) :
  Fo Tryz.prog F0 4 [.va (.int .i64 raw), .va (.slice n1 0 b1 e1 s1 l1 c1), .va (.str s), .va (.int .i64 p), .va (.slice n2 0 b2 e2 s2 l2 c2), .va (.slice nv 0 bv ev sv lv cv), .va (.int .i64 at_), .va (.int .u8 c.toNat)] (fun o F' => o = .ret (.va (.bool true)) ∧ True) := by
 have hpr := zhb p 8 (by omega) hp
 have hsane := saneL F0 m0
 have hprop := zm0 p hp
 obtain ⟨P, hP⟩ : ∃ P, P = 1 + pickI p 8 := ⟨_, rfl⟩
 have hP8 : 1 ≤ P ∧ P ≤ 8 := by omega
 rw [← hP] at hprop
 have hvL : ∀ G, Fz.le F0 G → Fo Tryz.prog G 24 [.va (.int .i64 P), .va (.slice nv 0 bv ev sv lv cv)] (fun o F' => ∃ L : List UInt8, L.length ≤ 400000000000000000 ∧ o = .ret (.va (.str L))) := fun G hG => zfc (hv P G hP8 hG) fun o F' ⟨v, vok, h⟩ => ⟨_, by
  have := zpg (p := P) (zqe hP8 vok); omega, h⟩
 have hcut : 0 ≤ (if (200 : Int) < (s.length : Nat) then (200 : Int) else (s.length : Nat)) ∧ (if (200 : Int) < (s.length : Nat) then (200 : Int) else (s.length : Nat)) ≤ (s.length : Nat) := by
  split <;> omega
 have fin : ∀ (F1 : Fz) (h : Hp) (nx : Nat), lget h 0 = some (.frz F1) → Fz.le F0 F1 → Cln 1 (FoK F0 fun o F' => o = .ret (.va (.bool true)) ∧ True) (.ret (.va (.bool true))) h nx := by
  intro F1 h nx h0 hle
  exact endFo (.ret (.va (.bool true))) F1 h0 hle (Fz.le_refl F1) ⟨rfl, trivial⟩ (zar _) rfl
 refine fo_of hΘ Tryz.func4 rfl (by decide) _ _ rfl rfl rfl ?_;conv=>whnf
 refine useFo hsane rfl (zaf _) rfl ?_
 rintro _ F1 u1 ⟨rfl, -⟩;conv=>whnf
 refine usePu (hprop F1) rfl (zaf _) rfl ?_;conv=>whnf
 refine useFo (hvL F1 u1) rfl ⟨rfl, ⟨rfl, rfl, rfl, .inr ⟨rfl, rfl, rfl, rfl⟩⟩, trivial⟩ rfl ?_
 rintro _ F2 u ⟨L, hLs, rfl⟩
 have u2 := Fz.le_trans u1 u
 clear u
 have hLl : L.length ≤ 1000000000000000000 := by omega
 by_cases hL0 : L = []
 ·subst hL0
  conv=>whnf
  refine br (fun g => absurd g (by decide)) (fun _ => ?_);conv=>whnf
  refine zfb 1 (fun _ => .arr 3 1 ([raw, P].map encI) 2) rfl rfl rfl (fun _ _ => rfl) (fun _ _ => SB.bB_ok rfl) ?_
  intro b1' F3 v3 hb1
  have hq : F3 (b1' 0) = some (.arr 3 1 ([raw, P].map encI) 2) := hb1 0 rfl
  have u3 := Fz.le_trans u2 v3
  refine zau hΘ (X := { x : Nat × Fz × List UInt8 // x.1 ≤ 2 ∧ Fz.le F3 x.2.1 ∧ x.2.2.length ≤ 1000000000000000000 }) (fun x => [(19, .va (.str x.1.2.2)), (60, .va (.int .i64 x.1.1))]) [16, 22, 24, 26, 27, 28, 29, 30, 61, 62, 63, 64, 65, 66, 67, 68, 69, 70, 71, 72, 73, 74, 75, 76, 77, 78, 79, 80, 81, 82, 83, 84, 85, 86, 87, 88, 89, 90, 91, 92, 93, 94, 95, 96, 97, 98, 99, 100, 101, 102, 103, 104, 105, 106, 107, 108, 109, 110, 111, 112] (fz fun x => x.1.2.1) 2 (fun x => 2 - x.1.1) ⟨(0, F3, []), Nat.zero_le _, Fz.le_refl F3, Nat.zero_le _⟩
   (fun hH hT => leI [] hH hT rfl ⟨trivial, trivial⟩ ⟨rfl, rfl, trivial⟩ ⟨Fz.le_refl F3, trivial⟩) ?_
  rintro ⟨⟨k, G, C⟩, hk, hG, hCl⟩ hH hT
  replace hk : k ≤ 2 := hk
  replace hG : Fz.le F3 G := hG
  replace hCl : C.length ≤ 1000000000000000000 := hCl
  have lG := Fz.le_trans u3 hG
  by_cases gk : k < 2
  ·have hlk : (k : Int) < 2 := by omega
   have hik : 0 ≤ (k : Int) ∧ (k : Int) < 2 := by omega
   have hqk : ∃ q, ([raw, P].map encI)[0 + (k : Int).toNat]? = some [.int .i64 q] := by
    have hc : k = 0 ∨ k = 1 := by omega
    rcases hc with rfl | rfl <;> exact ⟨_, rfl⟩
   obtain ⟨q, hqk⟩ := hqk
   have hk1 : k + 1 ≤ 2 := gk
   have hdk : 2 - (k + 1) < 2 - k := by omega
   have hk62 : k < 4611686018427387904 := by omega
   conv=>whnf
   refine br (fun _ => ?_) (fun g => absurd hlk (of_decide_eq_false g));conv=>whnf
   refine ⟨rfl, hik, ?_⟩;conv=>whnf
   refine ⟨_, hG _ _ hq, ?_⟩;conv=>whnf
   refine ⟨_, hqk, ?_⟩;conv=>whnf
   refine useFo (ha G lG) rfl ⟨⟨rfl, rfl, rfl, .inr ⟨rfl, rfl, rfl, rfl⟩⟩, trivial⟩ rfl ?_
   rintro _ G1 g1 ⟨sc1, rfl, w1⟩
   have y1 := w1
   obtain ⟨w1n, w1b, w1e, w1c, w1L, w1r, rfl, w11, w12, w13, w14⟩ := w1
   conv=>whnf
   refine useFo (hx P G1 hP8 (Fz.le_trans lG g1)) rfl ⟨rfl, ⟨rfl, rfl, rfl, .inr ⟨rfl, rfl, rfl, rfl⟩⟩, trivial⟩ rfl ?_
   rintro _ G2 g2 ⟨sc2, rfl, w2⟩
   have y2 := w2
   obtain ⟨w2n, w2b, w2e, w2c, w2L, w2r, rfl, w21, w22, w23, w24⟩ := w2
   conv=>whnf
   refine zfb 2 (fun _ => .arr 22 1 [[.slice w1n 0 w1b w1e 2 (a.take 66).length w1c], [.slice w2n 0 w2b w2e 2 (ze6 P x).length w2c], [.nilsl]] 3) rfl rfl rfl (fun _ _ => rfl) (fun _ _ => zmf (.inr Nat.zero_lt_one) (.inr Nat.zero_lt_one) trivial) ?_
   intro b5 G5 g5 hb5
   have hall := hb5 0 rfl
   have hget := zq2 (F := G5) (y1.mono (Fz.le_trans g2 g5)) (y2.mono g5) (zi0 a) (zir P x)
   clear y1 y2
   have lG5 : Fz.le G G5 := Fz.le_trans g1 (Fz.le_trans g2 g5)
   refine zau hΘ (X := { x : Nat × Fz // x.1 ≤ 3 ∧ Fz.le G5 x.2 }) (fun x => [(71, .va (.int .i64 x.1.1))]) [16, 24, 26, 27, 28, 29, 30, 72, 73, 74, 75, 76, 77, 78, 79, 80, 81, 82, 83, 84, 85, 86, 87, 88, 89, 90, 91, 92, 93, 94, 95, 96, 97, 98, 99, 100, 101, 102, 103, 104, 105, 106, 107, 108, 109, 110, 111] (fz fun x => x.1.2) 3 (fun x => 3 - x.1.1) ⟨(0, G5), Nat.zero_le _, Fz.le_refl G5⟩
    (fun hH hT => leI [] hH hT rfl ⟨trivial, trivial⟩ ⟨rfl, trivial⟩ ⟨Fz.le_refl G5, trivial⟩) ?_
   rintro ⟨⟨i, H⟩, hi, gGH⟩ hHi hTi
   replace hi : i ≤ 3 := hi
   replace gGH : Fz.le G5 H := gGH
   have lH := Fz.le_trans lG (Fz.le_trans lG5 gGH)
   by_cases gi : i < 3
   ·have hli : (i : Int) < 3 := by omega
    have hii : 0 ≤ (i : Int) ∧ (i : Int) < 3 := by omega
    have hgi := hget i gi
    have hi1 : i + 1 ≤ 3 := gi
    have hdi : 3 - (i + 1) < 3 - i := by omega
    have hi62 : i < 4611686018427387904 := by omega
    rcases hgi with ⟨sn, sb, se, sc, li, hgi, hli', lli⟩ | hgi
    ·have hlJ := fun {J : Fz} (u : Fz.le H J) => hli'.mono (Fz.le_trans gGH u)
     conv=>whnf
     refine br (fun _ => ?_) (fun g => absurd hli (of_decide_eq_false g));conv=>whnf
     refine ⟨rfl, hii, ?_⟩;conv=>whnf
     refine ⟨_, gGH _ _ hall, ?_⟩;conv=>whnf
     refine ⟨_, hgi, ?_⟩;conv=>whnf
     refine ⟨hcut, ?_⟩;conv=>whnf
     refine zfb 3 (fun _ => .arr 9 1 (([ziz s, [], C] : List (List UInt8)).map encS) 3) rfl rfl rfl (fun _ _ => rfl) (fun _ _ => SB.bB_ok rfl) ?_
     intro bs H1 h1 hbs
     have hst := hbs 0 rfl
     refine zau hΘ (X := { x : Nat × Fz // x.1 ≤ 3 ∧ Fz.le H1 x.2 }) (fun x => [(84, .va (.int .i64 x.1.1))]) [16, 26, 27, 28, 29, 30, 85, 86, 87, 88, 89, 90, 91, 92, 93, 94, 95, 96, 97, 98, 99, 100, 101, 102, 103, 104, 105, 106, 107, 108, 109, 110] (fz fun x => x.1.2) 4 (fun x => 3 - x.1.1) ⟨(0, H1), Nat.zero_le _, Fz.le_refl H1⟩
      (fun hH hT => leI [] hH hT rfl ⟨trivial, trivial⟩ ⟨rfl, trivial⟩ ⟨Fz.le_refl H1, trivial⟩) ?_
     rintro ⟨⟨j, J⟩, hj, hJ⟩ hHj hTj
     replace hj : j ≤ 3 := hj
     replace hJ : Fz.le H1 J := hJ
     have gHJ := Fz.le_trans h1 hJ
     by_cases gj : j < 3
     ·have hlj : (j : Int) < 3 := by omega
      have hij : 0 ≤ (j : Int) ∧ (j : Int) < 3 := by omega
      have hgj := zg9 (zfl s) (t2 := []) hLl hCl j gj
      obtain ⟨t, htj, htl⟩ := hgj
      have hbo := both (m0.mono (Fz.le_trans lH gHJ)) (q := q) (hlJ gHJ) lli htl
      obtain ⟨y, e, ap1, ap2⟩ := hbo
      have hj1 : j + 1 ≤ 3 := gj
      have hdj : 3 - (j + 1) < 3 - j := by omega
      have hj62 : j < 4611686018427387904 := by omega
      conv=>whnf
      refine br (fun _ => ?_) (fun g => absurd hlj (of_decide_eq_false g));conv=>whnf
      refine ⟨rfl, hij, ?_⟩;conv=>whnf
      refine ⟨_, hJ _ _ hst, ?_⟩;conv=>whnf
      refine ⟨_, htj, ?_⟩;conv=>whnf
      refine useFo ap1 rfl ⟨rfl, ⟨rfl, rfl, rfl, .inr ⟨rfl, rfl, rfl, rfl⟩⟩, rfl, trivial⟩ rfl ?_
      rintro _ J1 j1 rfl
      have ap3 := ap2 J1 j1
      conv=>whnf
      refine useFo ap3 rfl ⟨rfl, ⟨rfl, rfl, rfl, .inr ⟨rfl, rfl, rfl, rfl⟩⟩, rfl, trivial⟩ rfl ?_
      rintro _ J2 j2 rfl;conv=>whnf
      refine ⟨fun _ => ?_, fun g => absurd g (by simp)⟩;conv=>whnf
      refine br (fun g => absurd g (by simp)) (fun _ => ?_);conv=>whnf
      exact ⟨⟨(j + 1, J2), hj1, Fz.le_trans hJ (Fz.le_trans j1 j2)⟩, hdj, leR [] hHj hTj rfl ⟨trivial, trivial⟩ ⟨cnt hj62, trivial⟩ ⟨Fz.le_refl J2, trivial⟩⟩
     ·have hgj : ¬ (j : Int) < 3 := by omega
      conv=>whnf
      refine br (fun g => absurd (of_decide_eq_true g) hgj) (fun _ => ?_);conv=>whnf
      exact ⟨⟨(i + 1, J), hi1, Fz.le_trans gGH gHJ⟩, hdi, leRn [_, _, _] [_, _] [] hHi hTi rfl ⟨trivial, trivial⟩ ⟨cnt hi62, trivial⟩ ⟨Fz.le_refl J, trivial⟩⟩
    ·have hlJ := fun {J : Fz} (_ : Fz.le H J) => (Sl.nil : zaz J (.slice true 0 0 0 2 0 0) [])
     have lli : ([] : List Stp).length < 1000000 := by decide
     conv=>whnf
     refine br (fun _ => ?_) (fun g => absurd hli (of_decide_eq_false g));conv=>whnf
     refine ⟨rfl, hii, ?_⟩;conv=>whnf
     refine ⟨_, gGH _ _ hall, ?_⟩;conv=>whnf
     refine ⟨_, hgi, ?_⟩;conv=>whnf
     refine ⟨hcut, ?_⟩;conv=>whnf
     refine zfb 3 (fun _ => .arr 9 1 (([ziz s, [], C] : List (List UInt8)).map encS) 3) rfl rfl rfl (fun _ _ => rfl) (fun _ _ => SB.bB_ok rfl) ?_
     intro bs H1 h1 hbs
     have hst := hbs 0 rfl
     refine zau hΘ (X := { x : Nat × Fz // x.1 ≤ 3 ∧ Fz.le H1 x.2 }) (fun x => [(84, .va (.int .i64 x.1.1))]) [16, 26, 27, 28, 29, 30, 85, 86, 87, 88, 89, 90, 91, 92, 93, 94, 95, 96, 97, 98, 99, 100, 101, 102, 103, 104, 105, 106, 107, 108, 109, 110] (fz fun x => x.1.2) 4 (fun x => 3 - x.1.1) ⟨(0, H1), Nat.zero_le _, Fz.le_refl H1⟩
      (fun hH hT => leI [] hH hT rfl ⟨trivial, trivial⟩ ⟨rfl, trivial⟩ ⟨Fz.le_refl H1, trivial⟩) ?_
     rintro ⟨⟨j, J⟩, hj, hJ⟩ hHj hTj
     replace hj : j ≤ 3 := hj
     replace hJ : Fz.le H1 J := hJ
     have gHJ := Fz.le_trans h1 hJ
     by_cases gj : j < 3
     ·have hlj : (j : Int) < 3 := by omega
      have hij : 0 ≤ (j : Int) ∧ (j : Int) < 3 := by omega
      have hgj := zg9 (zfl s) (t2 := []) hLl hCl j gj
      obtain ⟨t, htj, htl⟩ := hgj
      have hbo := both (m0.mono (Fz.le_trans lH gHJ)) (q := q) (hlJ gHJ) lli htl
      obtain ⟨y, e, ap1, ap2⟩ := hbo
      have hj1 : j + 1 ≤ 3 := gj
      have hdj : 3 - (j + 1) < 3 - j := by omega
      have hj62 : j < 4611686018427387904 := by omega
      conv=>whnf
      refine br (fun _ => ?_) (fun g => absurd hlj (of_decide_eq_false g));conv=>whnf
      refine ⟨rfl, hij, ?_⟩;conv=>whnf
      refine ⟨_, hJ _ _ hst, ?_⟩;conv=>whnf
      refine ⟨_, htj, ?_⟩;conv=>whnf
      refine useFo ap1 rfl ⟨rfl, ⟨rfl, rfl, rfl⟩, rfl, trivial⟩ rfl ?_
      rintro _ J1 j1 rfl
      have ap3 := ap2 J1 j1
      conv=>whnf
      refine useFo ap3 rfl ⟨rfl, ⟨rfl, rfl, rfl⟩, rfl, trivial⟩ rfl ?_
      rintro _ J2 j2 rfl;conv=>whnf
      refine ⟨fun _ => ?_, fun g => absurd g (by simp)⟩;conv=>whnf
      refine br (fun g => absurd g (by simp)) (fun _ => ?_);conv=>whnf
      exact ⟨⟨(j + 1, J2), hj1, Fz.le_trans hJ (Fz.le_trans j1 j2)⟩, hdj, leR [] hHj hTj rfl ⟨trivial, trivial⟩ ⟨cnt hj62, trivial⟩ ⟨Fz.le_refl J2, trivial⟩⟩
     ·have hgj : ¬ (j : Int) < 3 := by omega
      conv=>whnf
      refine br (fun g => absurd (of_decide_eq_true g) hgj) (fun _ => ?_);conv=>whnf
      exact ⟨⟨(i + 1, J), hi1, Fz.le_trans gGH gHJ⟩, hdi, leRn [_, _, _] [_, _] [] hHi hTi rfl ⟨trivial, trivial⟩ ⟨cnt hi62, trivial⟩ ⟨Fz.le_refl J, trivial⟩⟩
   ·have hgi : ¬ (i : Int) < 3 := by omega
    conv=>whnf
    refine br (fun g => absurd (of_decide_eq_true g) hgi) (fun _ => ?_);conv=>whnf
    exact ⟨⟨(k + 1, H, C), hk1, Fz.le_trans hG (Fz.le_trans lG5 gGH), hCl⟩, hdk, leRn [_, _, _] [_, _] [] hH hT rfl ⟨trivial, trivial⟩ ⟨rfl, cnt hk62, trivial⟩ ⟨Fz.le_refl H, trivial⟩⟩
  ·have hgk : ¬ (k : Int) < 2 := by omega
   conv=>whnf
   refine br (fun g => absurd (of_decide_eq_true g) hgk) (fun _ => ?_);conv=>whnf
   exact fin G _ _ rfl lG
 ·have hLn : (!(L == [])) = true := by simpa using hL0
  have hpos : 0 < L.length := List.length_pos_iff.2 hL0
  have hpk := zns at_ (L.length : Nat) hat (by omega) F2
  have hkl := zhb at_ (L.length : Nat) (by omega) hat
  have hkx : ∃ k0, pickI at_ (L.length : Nat) = k0 := ⟨_, rfl⟩
  obtain ⟨k0, hkx⟩ := hkx
  rw [hkx] at hpk hkl
  have hkw : IntKind.i64.wrap (k0 + 1) = k0 + 1 := zai (by omega) (by omega)
  have hCl0 : (chg L k0 c).length ≤ 1000000000000000000 := by
   have := zx6 L k0 c
   omega
  have hc1 : ((L.take k0.toNat).drop 0).length + [c].length ≤ 9223372036854775807 := by
   rw [List.length_drop, List.length_take, List.length_singleton]; omega
  have hc2 : ((L.take k0.toNat).drop 0 ++ [c]).length + ((L.take L.length).drop (IntKind.i64.wrap (k0 + 1)).toNat).length ≤ 9223372036854775807 := by
   rw [List.length_append, List.length_drop, List.length_drop, List.length_take, List.length_take, List.length_singleton]; omega
  conv=>whnf
  refine br (fun _ => ?_) (fun g => absurd hLn (by rw [g]; simp));conv=>whnf
  refine usePu hpk rfl ⟨rfl, rfl, trivial⟩ rfl ?_;conv=>whnf
  refine drawP hΘ mixed (.look 0 (.look 1 (.look 2 (.look 3 (.look 7 (.look 8 (.look 9 (.look 10 (.alt 4 (.alt 5 (.look 6 (.look 11 (.look 12 .done))) .nil) .nil))))))))) [] (by kernel_rfl) ?_;conv=>whnf
  refine ⟨⟨hkl.1, by omega⟩, ?_⟩;conv=>whnf
  refine ⟨⟨by rw [hkw]; omega, by rw [hkw]; omega⟩, ?_⟩;conv=>whnf
  refine ⟨Fz.le_refl F2, ?_⟩;conv=>whnf
  refine ⟨Nat.le_refl 1, [encB c], rfl, [c], rfl, ?_⟩;conv=>whnf
  refine ⟨Fz.le_refl F2, ?_⟩;conv=>whnf
  refine ⟨hc1, ?_⟩;conv=>whnf
  refine ⟨hc2, ?_⟩;conv=>whnf
  refine zfb 2 (fun _ => .arr 3 1 ([raw, P].map encI) 2) rfl rfl rfl (fun _ _ => rfl) (fun _ _ => SB.bB_ok rfl) ?_
  intro b1' F3 v3 hb1
  have hq : F3 (b1' 0) = some (.arr 3 1 ([raw, P].map encI) 2) := hb1 0 rfl
  have u3 := Fz.le_trans u2 v3
  refine zau hΘ (X := { x : Nat × Fz × List UInt8 // x.1 ≤ 2 ∧ Fz.le F3 x.2.1 ∧ x.2.2.length ≤ 1000000000000000000 }) (fun x => [(19, .va (.str x.1.2.2)), (60, .va (.int .i64 x.1.1))]) [16, 22, 24, 26, 27, 28, 29, 30, 61, 62, 63, 64, 65, 66, 67, 68, 69, 70, 71, 72, 73, 74, 75, 76, 77, 78, 79, 80, 81, 82, 83, 84, 85, 86, 87, 88, 89, 90, 91, 92, 93, 94, 95, 96, 97, 98, 99, 100, 101, 102, 103, 104, 105, 106, 107, 108, 109, 110, 111, 112] (fz fun x => x.1.2.1) 3 (fun x => 2 - x.1.1) ⟨(0, F3, chg L k0 c), Nat.zero_le _, Fz.le_refl F3, hCl0⟩
   (fun hH hT => leI [] hH hT rfl ⟨trivial, trivial⟩ ⟨rfl, rfl, trivial⟩ ⟨Fz.le_refl F3, trivial⟩) ?_
  rintro ⟨⟨k, G, C⟩, hk, hG, hCl⟩ hH hT
  replace hk : k ≤ 2 := hk
  replace hG : Fz.le F3 G := hG
  replace hCl : C.length ≤ 1000000000000000000 := hCl
  have lG := Fz.le_trans u3 hG
  by_cases gk : k < 2
  ·have hlk : (k : Int) < 2 := by omega
   have hik : 0 ≤ (k : Int) ∧ (k : Int) < 2 := by omega
   have hqk : ∃ q, ([raw, P].map encI)[0 + (k : Int).toNat]? = some [.int .i64 q] := by
    have hc : k = 0 ∨ k = 1 := by omega
    rcases hc with rfl | rfl <;> exact ⟨_, rfl⟩
   obtain ⟨q, hqk⟩ := hqk
   have hk1 : k + 1 ≤ 2 := gk
   have hdk : 2 - (k + 1) < 2 - k := by omega
   have hk62 : k < 4611686018427387904 := by omega
   conv=>whnf
   refine br (fun _ => ?_) (fun g => absurd hlk (of_decide_eq_false g));conv=>whnf
   refine ⟨rfl, hik, ?_⟩;conv=>whnf
   refine ⟨_, hG _ _ hq, ?_⟩;conv=>whnf
   refine ⟨_, hqk, ?_⟩;conv=>whnf
   refine useFo (ha G lG) rfl ⟨⟨rfl, rfl, rfl, .inr ⟨rfl, rfl, rfl, rfl⟩⟩, trivial⟩ rfl ?_
   rintro _ G1 g1 ⟨sc1, rfl, w1⟩
   have y1 := w1
   obtain ⟨w1n, w1b, w1e, w1c, w1L, w1r, rfl, w11, w12, w13, w14⟩ := w1
   conv=>whnf
   refine useFo (hx P G1 hP8 (Fz.le_trans lG g1)) rfl ⟨rfl, ⟨rfl, rfl, rfl, .inr ⟨rfl, rfl, rfl, rfl⟩⟩, trivial⟩ rfl ?_
   rintro _ G2 g2 ⟨sc2, rfl, w2⟩
   have y2 := w2
   obtain ⟨w2n, w2b, w2e, w2c, w2L, w2r, rfl, w21, w22, w23, w24⟩ := w2
   conv=>whnf
   refine zfb 3 (fun _ => .arr 22 1 [[.slice w1n 0 w1b w1e 2 (a.take 66).length w1c], [.slice w2n 0 w2b w2e 2 (ze6 P x).length w2c], [.nilsl]] 3) rfl rfl rfl (fun _ _ => rfl) (fun _ _ => zmf (.inr Nat.zero_lt_one) (.inr Nat.zero_lt_one) trivial) ?_
   intro b5 G5 g5 hb5
   have hall := hb5 0 rfl
   have hget := zq2 (F := G5) (y1.mono (Fz.le_trans g2 g5)) (y2.mono g5) (zi0 a) (zir P x)
   clear y1 y2
   have lG5 : Fz.le G G5 := Fz.le_trans g1 (Fz.le_trans g2 g5)
   refine zau hΘ (X := { x : Nat × Fz // x.1 ≤ 3 ∧ Fz.le G5 x.2 }) (fun x => [(71, .va (.int .i64 x.1.1))]) [16, 24, 26, 27, 28, 29, 30, 72, 73, 74, 75, 76, 77, 78, 79, 80, 81, 82, 83, 84, 85, 86, 87, 88, 89, 90, 91, 92, 93, 94, 95, 96, 97, 98, 99, 100, 101, 102, 103, 104, 105, 106, 107, 108, 109, 110, 111] (fz fun x => x.1.2) 4 (fun x => 3 - x.1.1) ⟨(0, G5), Nat.zero_le _, Fz.le_refl G5⟩
    (fun hH hT => leI [] hH hT rfl ⟨trivial, trivial⟩ ⟨rfl, trivial⟩ ⟨Fz.le_refl G5, trivial⟩) ?_
   rintro ⟨⟨i, H⟩, hi, gGH⟩ hHi hTi
   replace hi : i ≤ 3 := hi
   replace gGH : Fz.le G5 H := gGH
   have lH := Fz.le_trans lG (Fz.le_trans lG5 gGH)
   by_cases gi : i < 3
   ·have hli : (i : Int) < 3 := by omega
    have hii : 0 ≤ (i : Int) ∧ (i : Int) < 3 := by omega
    have hgi := hget i gi
    have hi1 : i + 1 ≤ 3 := gi
    have hdi : 3 - (i + 1) < 3 - i := by omega
    have hi62 : i < 4611686018427387904 := by omega
    rcases hgi with ⟨sn, sb, se, sc, li, hgi, hli', lli⟩ | hgi
    ·have hlJ := fun {J : Fz} (u : Fz.le H J) => hli'.mono (Fz.le_trans gGH u)
     conv=>whnf
     refine br (fun _ => ?_) (fun g => absurd hli (of_decide_eq_false g));conv=>whnf
     refine ⟨rfl, hii, ?_⟩;conv=>whnf
     refine ⟨_, gGH _ _ hall, ?_⟩;conv=>whnf
     refine ⟨_, hgi, ?_⟩;conv=>whnf
     refine ⟨hcut, ?_⟩;conv=>whnf
     refine zfb 4 (fun _ => .arr 9 1 (([ziz s, L, C] : List (List UInt8)).map encS) 3) rfl rfl rfl (fun _ _ => rfl) (fun _ _ => SB.bB_ok rfl) ?_
     intro bs H1 h1 hbs
     have hst := hbs 0 rfl
     refine zau hΘ (X := { x : Nat × Fz // x.1 ≤ 3 ∧ Fz.le H1 x.2 }) (fun x => [(84, .va (.int .i64 x.1.1))]) [16, 26, 27, 28, 29, 30, 85, 86, 87, 88, 89, 90, 91, 92, 93, 94, 95, 96, 97, 98, 99, 100, 101, 102, 103, 104, 105, 106, 107, 108, 109, 110] (fz fun x => x.1.2) 5 (fun x => 3 - x.1.1) ⟨(0, H1), Nat.zero_le _, Fz.le_refl H1⟩
      (fun hH hT => leI [] hH hT rfl ⟨trivial, trivial⟩ ⟨rfl, trivial⟩ ⟨Fz.le_refl H1, trivial⟩) ?_
     rintro ⟨⟨j, J⟩, hj, hJ⟩ hHj hTj
     replace hj : j ≤ 3 := hj
     replace hJ : Fz.le H1 J := hJ
     have gHJ := Fz.le_trans h1 hJ
     by_cases gj : j < 3
     ·have hlj : (j : Int) < 3 := by omega
      have hij : 0 ≤ (j : Int) ∧ (j : Int) < 3 := by omega
      have hgj := zg9 (zfl s) (t2 := L) hLl hCl j gj
      obtain ⟨t, htj, htl⟩ := hgj
      have hbo := both (m0.mono (Fz.le_trans lH gHJ)) (q := q) (hlJ gHJ) lli htl
      obtain ⟨y, e, ap1, ap2⟩ := hbo
      have hj1 : j + 1 ≤ 3 := gj
      have hdj : 3 - (j + 1) < 3 - j := by omega
      have hj62 : j < 4611686018427387904 := by omega
      conv=>whnf
      refine br (fun _ => ?_) (fun g => absurd hlj (of_decide_eq_false g));conv=>whnf
      refine ⟨rfl, hij, ?_⟩;conv=>whnf
      refine ⟨_, hJ _ _ hst, ?_⟩;conv=>whnf
      refine ⟨_, htj, ?_⟩;conv=>whnf
      refine useFo ap1 rfl ⟨rfl, ⟨rfl, rfl, rfl, .inr ⟨rfl, rfl, rfl, rfl⟩⟩, rfl, trivial⟩ rfl ?_
      rintro _ J1 j1 rfl
      have ap3 := ap2 J1 j1
      conv=>whnf
      refine useFo ap3 rfl ⟨rfl, ⟨rfl, rfl, rfl, .inr ⟨rfl, rfl, rfl, rfl⟩⟩, rfl, trivial⟩ rfl ?_
      rintro _ J2 j2 rfl;conv=>whnf
      refine ⟨fun _ => ?_, fun g => absurd g (by simp)⟩;conv=>whnf
      refine br (fun g => absurd g (by simp)) (fun _ => ?_);conv=>whnf
      exact ⟨⟨(j + 1, J2), hj1, Fz.le_trans hJ (Fz.le_trans j1 j2)⟩, hdj, leR [] hHj hTj rfl ⟨trivial, trivial⟩ ⟨cnt hj62, trivial⟩ ⟨Fz.le_refl J2, trivial⟩⟩
     ·have hgj : ¬ (j : Int) < 3 := by omega
      conv=>whnf
      refine br (fun g => absurd (of_decide_eq_true g) hgj) (fun _ => ?_);conv=>whnf
      exact ⟨⟨(i + 1, J), hi1, Fz.le_trans gGH gHJ⟩, hdi, leRn [_, _, _] [_, _] [] hHi hTi rfl ⟨trivial, trivial⟩ ⟨cnt hi62, trivial⟩ ⟨Fz.le_refl J, trivial⟩⟩
    ·have hlJ := fun {J : Fz} (_ : Fz.le H J) => (Sl.nil : zaz J (.slice true 0 0 0 2 0 0) [])
     have lli : ([] : List Stp).length < 1000000 := by decide
     conv=>whnf
     refine br (fun _ => ?_) (fun g => absurd hli (of_decide_eq_false g));conv=>whnf
     refine ⟨rfl, hii, ?_⟩;conv=>whnf
     refine ⟨_, gGH _ _ hall, ?_⟩;conv=>whnf
     refine ⟨_, hgi, ?_⟩;conv=>whnf
     refine ⟨hcut, ?_⟩;conv=>whnf
     refine zfb 4 (fun _ => .arr 9 1 (([ziz s, L, C] : List (List UInt8)).map encS) 3) rfl rfl rfl (fun _ _ => rfl) (fun _ _ => SB.bB_ok rfl) ?_
     intro bs H1 h1 hbs
     have hst := hbs 0 rfl
     refine zau hΘ (X := { x : Nat × Fz // x.1 ≤ 3 ∧ Fz.le H1 x.2 }) (fun x => [(84, .va (.int .i64 x.1.1))]) [16, 26, 27, 28, 29, 30, 85, 86, 87, 88, 89, 90, 91, 92, 93, 94, 95, 96, 97, 98, 99, 100, 101, 102, 103, 104, 105, 106, 107, 108, 109, 110] (fz fun x => x.1.2) 5 (fun x => 3 - x.1.1) ⟨(0, H1), Nat.zero_le _, Fz.le_refl H1⟩
      (fun hH hT => leI [] hH hT rfl ⟨trivial, trivial⟩ ⟨rfl, trivial⟩ ⟨Fz.le_refl H1, trivial⟩) ?_
     rintro ⟨⟨j, J⟩, hj, hJ⟩ hHj hTj
     replace hj : j ≤ 3 := hj
     replace hJ : Fz.le H1 J := hJ
     have gHJ := Fz.le_trans h1 hJ
     by_cases gj : j < 3
     ·have hlj : (j : Int) < 3 := by omega
      have hij : 0 ≤ (j : Int) ∧ (j : Int) < 3 := by omega
      have hgj := zg9 (zfl s) (t2 := L) hLl hCl j gj
      obtain ⟨t, htj, htl⟩ := hgj
      have hbo := both (m0.mono (Fz.le_trans lH gHJ)) (q := q) (hlJ gHJ) lli htl
      obtain ⟨y, e, ap1, ap2⟩ := hbo
      have hj1 : j + 1 ≤ 3 := gj
      have hdj : 3 - (j + 1) < 3 - j := by omega
      have hj62 : j < 4611686018427387904 := by omega
      conv=>whnf
      refine br (fun _ => ?_) (fun g => absurd hlj (of_decide_eq_false g));conv=>whnf
      refine ⟨rfl, hij, ?_⟩;conv=>whnf
      refine ⟨_, hJ _ _ hst, ?_⟩;conv=>whnf
      refine ⟨_, htj, ?_⟩;conv=>whnf
      refine useFo ap1 rfl ⟨rfl, ⟨rfl, rfl, rfl⟩, rfl, trivial⟩ rfl ?_
      rintro _ J1 j1 rfl
      have ap3 := ap2 J1 j1
      conv=>whnf
      refine useFo ap3 rfl ⟨rfl, ⟨rfl, rfl, rfl⟩, rfl, trivial⟩ rfl ?_
      rintro _ J2 j2 rfl;conv=>whnf
      refine ⟨fun _ => ?_, fun g => absurd g (by simp)⟩;conv=>whnf
      refine br (fun g => absurd g (by simp)) (fun _ => ?_);conv=>whnf
      exact ⟨⟨(j + 1, J2), hj1, Fz.le_trans hJ (Fz.le_trans j1 j2)⟩, hdj, leR [] hHj hTj rfl ⟨trivial, trivial⟩ ⟨cnt hj62, trivial⟩ ⟨Fz.le_refl J2, trivial⟩⟩
     ·have hgj : ¬ (j : Int) < 3 := by omega
      conv=>whnf
      refine br (fun g => absurd (of_decide_eq_true g) hgj) (fun _ => ?_);conv=>whnf
      exact ⟨⟨(i + 1, J), hi1, Fz.le_trans gGH gHJ⟩, hdi, leRn [_, _, _] [_, _] [] hHi hTi rfl ⟨trivial, trivial⟩ ⟨cnt hi62, trivial⟩ ⟨Fz.le_refl J, trivial⟩⟩
   ·have hgi : ¬ (i : Int) < 3 := by omega
    conv=>whnf
    refine br (fun g => absurd (of_decide_eq_true g) hgi) (fun _ => ?_);conv=>whnf
    exact ⟨⟨(k + 1, H, C), hk1, Fz.le_trans hG (Fz.le_trans lG5 gGH), hCl⟩, hdk, leRn [_, _, _] [_, _] [] hH hT rfl ⟨trivial, trivial⟩ ⟨rfl, cnt hk62, trivial⟩ ⟨Fz.le_refl H, trivial⟩⟩
  ·have hgk : ¬ (k : Int) < 2 := by omega
   conv=>whnf
   refine br (fun g => absurd (of_decide_eq_true g) hgk) (fun _ => ?_);conv=>whnf
   exact fin G _ _ rfl lG
end Go.Proofs.YtblllibdahkgfaaGreatDoor
