import Derived.Test.YtblllibdahkgfaaGreatDoorK30
import Derived.Test.YtblllibdahkgfaaGreatDoorK27

namespace Go.Proofs.YtblllibdahkgfaaGreatDoor
open Go Sx
set_option maxRecDepth 100000
theorem zci {μ : Mu} {i j c n : Nat} {L : List RLn} {x : RLn} {w h : Int} {bits : List UInt8} (hm : μ i 0 = (j, 0)) (hn : n = L.length + 1) : SB.cells 57 [.lit false, .slice false j 0 0 5 n c, .int .i64 w, .int .i64 h, .str bits] = SB.ren μ (.cells 57 [.lit false, gA 5 i c (L ++ [x]), .int .i64 w, .int .i64 h, .str bits]) := by
 subst hn
 cases L with
 | nil => simp only [gA, List.nil_append, SB.ren, List.map_cons, List.map_nil, SA.ren, hm, List.length_nil]
 | cons y r => simp only [gA, List.cons_append, SB.ren, List.map_cons, List.map_nil, SA.ren, hm, List.length_append, List.length_cons, List.length_nil]
set_option maxHeartbeats 16000000 in
theorem zot (F : Fz) (s : List UInt8) (hs : s.length ≤ 1000000000000000000) (hne : ¬ s = []) : Fo Tryz.prog F 31 [.va (.int .i64 2), .va (.str s)] (zd4 2 s) := by
 have hin : inR 2 1 8 = true := by decide
 have hw := zbz hin F
 have z0 : i64 0 := ⟨by omega, by omega⟩
 have m1 := zbh F s 0 false hs z0
 have i1 := zbo (b := false) hs z0
 have hx1 : ∃ x a b, rdNum s 0 false = (x, a, b) := ⟨_, _, _, rfl⟩
 obtain ⟨n, a0, b0, e1⟩ := hx1
 rw [e1] at m1 i1
 replace i1 : i64 a0 := i1
 have hcol := zce 2 F
 rw [show ((colN 2 : Nat) : Int) = 1 by decide] at hcol
 have hin2 : ∃ c, inR n 0 64 = c := ⟨_, rfl⟩
 obtain ⟨c0, hc0⟩ := hin2
 have w1 := zbz hc0 F
 have hR : readR 2 s = if b0 = true ∨ c0 = false then none else match zbf 2 s n.toNat [] a0 with
   | none => none
   | some (l, q) => if q = s.length then some ⟨false, l, 0, 0, []⟩ else none := by
  rw [readR, if_neg (by decide), if_neg hne, if_neg (by decide), e1]
  dsimp only
  rw [hc0]; rfl
 have hbad : b0 = true → readR 2 s = none := fun h => by rw [hR, if_pos (.inl h)]
 have hbad2 : c0 = false → readR 2 s = none := fun h => by rw [hR, if_pos (.inr h)]
 have hgood : b0 = false → c0 = true → readR 2 s = match zbf 2 s n.toNat [] a0 with
   | none => none
   | some (l, q) => if q = s.length then some ⟨false, l, 0, 0, []⟩ else none := fun h1 h2 => by
  rw [hR, if_neg (by rintro (h | h); rw [h1] at h; cases h; rw [h2] at h; cases h)]
 have hn64 : c0 = true → 0 ≤ n ∧ n ≤ 64 := fun h => zbe.1 (hc0.trans h)
 clear hR e1 hc0
 refine fo_of hΘ Tryz.func31 rfl (by decide) _ _ rfl rfl rfl ?_;conv=>whnf
 refine usePu hw rfl ⟨rfl, rfl, rfl, trivial⟩ rfl ?_;conv=>whnf
 refine br (fun g => absurd (by simpa using g) hne) (fun _ => ?_);conv=>whnf
 refine br (fun g => absurd g (by decide)) (fun _ => ?_);conv=>whnf
 refine use m1 [(1, 2)] rfl ⟨rfl, trivial⟩ rfl ⟨zan _ _ _, trivial⟩ (by simp [SV.below, SA.below]) ⟨rfl, trivial⟩ ?_
 rintro out0 F1 h0 n0 hle ⟨rfl, rfl, rfl, rfl⟩;conv=>whnf
 rcases b0 with _ | _
 case true =>
  have e := hbad rfl
  conv=>whnf
  exact zbj e rfl (Fz.le_refl F)
 conv=>whnf
 refine usePu w1 rfl ⟨rfl, rfl, rfl, trivial⟩ rfl ?_
 rcases c0 with _ | _
 ·have e := hbad2 rfl
  conv=>whnf
  exact zbj e rfl (Fz.le_refl F)
 have hn0 := hn64 rfl
 have hg := hgood rfl rfl
 clear hbad hbad2 hgood hn64
 have hnN : ((n.toNat : Nat) : Int) = n := Int.toNat_of_nonneg hn0.1
 conv=>whnf
 refine za0 hΘ (X := { y : Nat × List RLn × Nat × Int // (y.1 : Int) ≤ n ∧ y.2.1.length = y.1 ∧ zbf 2 s n.toNat [] a0 = zbf 2 s (n.toNat - y.1) y.2.1 y.2.2.2 ∧ i64 y.2.2.2 ∧ y.2.1.length ≤ y.2.2.1 }) (fun y => [(10, .va (.int .i64 y.1.1))]) [5, 11, 12, 13, 131, 132, 133, 134, 135, 136, 137, 138, 139, 140, 141, 142, 143, 144, 145, 146, 147, 148, 149, 150, 151, 152, 153, 154, 155, 156, 157, 158, 159, 160, 161, 162, 163, 164, 165, 166, 167, 168, 169, 170, 171, 172]
  (fun y => [(0, .frz F), (1, rvalE ⟨false, [], 0, 0, []⟩ 0 0), (2, rrd s y.1.2.2.2 false), (3, rvalE ⟨false, y.1.2.1, 0, 0, []⟩ 4 y.1.2.2.1), (4, gE 88 5 encL y.1.2.2.1 y.1.2.1)]) 5 (fun y => n.toNat - y.1.1) ⟨(0, [], 0, a0), ⟨hn0.1, rfl, rfl, i1, Nat.le_refl 0⟩⟩
  (fun hH hT => leI [(4, 4)] hH hT rfl ⟨trivial, zad (by omega) _, zan _ _ _, zad (by omega) _, zac zaa _ _ _ _ _, trivial⟩ ⟨rfl, trivial⟩ ⟨Fz.le_refl F, rfl, rfl, rfl, rfl, trivial⟩) ?_
 rintro ⟨⟨k, L, c, q⟩, hk, hL, hlr, hq, hcp⟩ hH hT
 replace hcp : L.length ≤ c := hcp
 replace hk : (k : Int) ≤ n := hk
 replace hL : L.length = k := hL
 replace hlr : zbf 2 s n.toNat [] a0 = zbf 2 s (n.toNat - k) L q := hlr
 replace hq : i64 q := hq
 rw [hlr] at hg
 by_cases gk : (k : Int) < n
 ·have hsuc : n.toNat - k = (n.toNat - (k + 1)) + 1 := by omega
  have hk1 : ((k + 1 : Nat) : Int) ≤ n := by omega
  have hdec : n.toNat - (k + 1) < n.toNat - k := by omega
  have hk62 : k < 4611686018427387904 := by omega
  have hlt : L.length < 1000000 := by omega
  have iq0 := hq
  have hs0 := zbh F s q false hs iq0
  have hp0 := zbo (b := false) hs iq0
  have he0 : ∃ x a b, rdNum s q false = (x, a, b) := ⟨_, _, _, rfl⟩
  obtain ⟨n0, q', b', he0⟩ := he0
  rw [he0] at hs0 hp0
  have hrd : rdL 2 s q = (([], n0, 0, 0, 0), q', b') := by rw [rdL, if_neg (by decide), if_pos rfl, he0]
  have hqq : i64 q' := hp0
  clear he0
  rw [hsuc, zbf, hrd] at hg hlr
  dsimp only at hg hlr
  have hno1 : b' = true → readR 2 s = none := fun h => by rw [hg, if_pos (.inl h)]
  have hno2 : fitsR 2 L ([], n0, 0, 0, 0) = false → readR 2 s = none := fun h => by rw [hg, if_pos (.inr h)]
  have hgo : b' = false → fitsR 2 L ([], n0, 0, 0, 0) = true → zbf 2 s n.toNat [] a0 = zbf 2 s (n.toNat - (k + 1)) (L ++ [([], n0, 0, 0, 0)]) q' := fun h1 h2 => by
   rw [hlr, if_neg (by rintro (h | h); rw [h1] at h; cases h; rw [h2] at h; cases h)]
  clear hg hlr hrd
  have hL1 : (L ++ [([], n0, 0, 0, 0)]).length = k + 1 := by rw [List.length_append, List.length_singleton, hL]
  rcases L with _ | ⟨l0, lr⟩
  ·have hf := zcr F 2 [] c ([], n0, 0, 0, 0) (by show 0 < 1000000; omega) hlt (by decide)
   conv=>whnf
   refine br (fun _ => ?_) (fun g => absurd gk (of_decide_eq_false g));conv=>whnf
   refine br (fun g => absurd g (by decide)) (fun _ => ?_);conv=>whnf
   refine zb4 hΘ 1 ?_;conv=>whnf
   refine usePu hcol rfl ⟨rfl, trivial⟩ rfl ?_;conv=>whnf
   refine br (fun _ => ?_) (fun g => absurd g (by decide));conv=>whnf
   refine use hs0 [(1, 2)] rfl ⟨rfl, trivial⟩ rfl ⟨zan _ _ _, trivial⟩ (by simp [SV.below, SA.below]) ⟨rfl, trivial⟩ ?_
   rintro out0 F1 h0 n0 hle ⟨rfl, rfl, rfl, rfl⟩;conv=>whnf
   refine ⟨by decide, ?_⟩;conv=>whnf
   refine sr_go hΘ ?_;conv=>whnf
   refine usePu hcol rfl ⟨rfl, trivial⟩ rfl ?_;conv=>whnf
   refine br (fun g => absurd g (by decide)) (fun _ => ?_);conv=>whnf
   refine use hf [(1, 4)] rfl ⟨rfl, rfl, rfl, trivial⟩ rfl ⟨zac zaa _ _ _ _ _, trivial⟩ (by simp [SV.below, SA.below, gA, encL]) ⟨zas zaa (zao _ _ _ _), trivial⟩ ?_
   rintro out0 F1 h0 n0 hle ⟨rfl, rfl, rfl, rfl⟩
   rcases b' with _ | _
   ·conv=>whnf
    refine br (fun g => ?_) (fun g => ?_)
    ·have e := hno2 (by simpa using g)
     conv=>whnf
     exact zbj e rfl (Fz.le_refl F)
    ·have hgo' := hgo rfl (by simpa using g)
     clear g;conv=>whnf
     refine ⟨Nat.le_of_ble_eq_true rfl, [encL ([], n0, 0, 0, 0)], rfl, ?_⟩;conv=>whnf
     refine ⟨rfl, rfl, ?_⟩;conv=>whnf
     refine ⟨by show 1 * 48 ≤ 140737488355328; omega, fun c' hc => ?_⟩;conv=>whnf
     exact ⟨⟨(k + 1, ([]) ++ [([], n0, 0, 0, 0)], c', q'), hk1, hL1, hgo', hqq, Nat.le_trans (Nat.le_of_eq (by simp)) hc⟩, hdec, leR [(4, 7)] hH hT rfl ⟨trivial, zad (by omega) _, zan _ _ _, zad (by omega) _, zac zaa _ _ _ _ _, trivial⟩ ⟨cnt hk62, trivial⟩ ⟨Fz.le_refl F, rfl, rfl, zci (μ := sig [(4, 7)]) rfl rfl, zas zaa (zc3 _ (by simp)), trivial⟩⟩
   ·have e := hno1 rfl
    conv=>whnf
    exact zbj e rfl (Fz.le_refl F)
  ·have hsz : (lr.length + 1 + 1) * 48 ≤ 140737488355328 := by
    have h9 : lr.length + 1 < 1000000 := hlt
    omega
   have hf := zcr F 2 (l0 :: lr) c ([], n0, 0, 0, 0) (by show 0 < 1000000; omega) hlt (by decide)
   conv=>whnf
   refine br (fun _ => ?_) (fun g => absurd gk (of_decide_eq_false g));conv=>whnf
   refine br (fun g => absurd g (by decide)) (fun _ => ?_);conv=>whnf
   refine zb4 hΘ 1 ?_;conv=>whnf
   refine usePu hcol rfl ⟨rfl, trivial⟩ rfl ?_;conv=>whnf
   refine br (fun _ => ?_) (fun g => absurd g (by decide));conv=>whnf
   refine use hs0 [(1, 2)] rfl ⟨rfl, trivial⟩ rfl ⟨zan _ _ _, trivial⟩ (by simp [SV.below, SA.below]) ⟨rfl, trivial⟩ ?_
   rintro out0 F1 h0 n0 hle ⟨rfl, rfl, rfl, rfl⟩;conv=>whnf
   refine ⟨by decide, ?_⟩;conv=>whnf
   refine sr_go hΘ ?_;conv=>whnf
   refine usePu hcol rfl ⟨rfl, trivial⟩ rfl ?_;conv=>whnf
   refine br (fun g => absurd g (by decide)) (fun _ => ?_);conv=>whnf
   refine use hf [(1, 4)] rfl ⟨rfl, ⟨rfl, rfl, rfl, .inr ⟨rfl, rfl, rfl, rfl⟩⟩, rfl, trivial⟩ rfl ⟨zac zaa _ _ _ _ _, trivial⟩ (by simp [SV.below, SA.below, gA, encL]) ⟨zas zaa (zao _ _ _ _), trivial⟩ ?_
   rintro out0 F1 h0 n0 hle ⟨rfl, rfl, rfl, rfl⟩
   rcases b' with _ | _
   ·conv=>whnf
    refine br (fun g => ?_) (fun g => ?_)
    ·have e := hno2 (by simpa using g)
     conv=>whnf
     exact zbj e rfl (Fz.le_refl F)
    ·have hgo' := hgo rfl (by simpa using g)
     clear g;conv=>whnf
     refine ⟨Nat.le_of_ble_eq_true rfl, [encL ([], n0, 0, 0, 0)], rfl, ?_⟩;conv=>whnf
     refine ⟨rfl, rfl, by simp, rfl, hsz, fun c' hc => ?_⟩;conv=>whnf
     exact ⟨⟨(k + 1, (l0 :: lr) ++ [([], n0, 0, 0, 0)], c', q'), hk1, hL1, hgo', hqq, Nat.le_trans (Nat.le_of_eq (by simp)) hc⟩, hdec, leR [(4, 7)] hH hT rfl ⟨trivial, zad (by omega) _, zan _ _ _, zad (by omega) _, zac zaa _ _ _ _ _, trivial⟩ ⟨cnt hk62, trivial⟩ ⟨Fz.le_refl F, rfl, rfl, zci (μ := sig [(4, 7)]) rfl rfl, zea zaa (l := l0 :: lr) rfl, trivial⟩⟩
   ·have e := hno1 rfl
    conv=>whnf
    exact zbj e rfl (Fz.le_refl F)
 ·have hk0 : n.toNat - k = 0 := by omega
  rw [hk0] at hg
  have hv : (decide (q = (s.length : Int)) = true ∧ readR 2 s = some ⟨false, L, 0, 0, []⟩) ∨ (decide (q = (s.length : Int)) = false ∧ readR 2 s = none) := by
   have hg2 : readR 2 s = if q = (s.length : Int) then some ⟨false, L, 0, 0, []⟩ else none := hg
   by_cases hql : q = (s.length : Int)
   ·rw [if_pos hql] at hg2; exact .inl ⟨decide_eq_true hql, hg2⟩
   ·rw [if_neg hql] at hg2; exact .inr ⟨decide_eq_false hql, hg2⟩
  clear hg hlr
  rcases L with _ | ⟨l0, lr⟩
  ·conv=>whnf
   refine br (fun g => absurd (of_decide_eq_true g) gk) (fun _ => ?_);conv=>whnf
   refine drawP hΘ mixed (.look 0 (.look 1 (.look 2 (.look 3 (.look 4 (.look 5 (.look 6 (.look 7 (.alt 8 (.look 9 .done) .nil))))))))) [2, 3] (by kernel_rfl) ?_;conv=>whnf
   refine ⟨rfl, ?_⟩;conv=>whnf
   refine ⟨rfl, ?_⟩;conv=>whnf
   refine ⟨Fz.le_refl F, rfl, rfl, ?_⟩;conv=>whnf
   exact zbr hv rfl (Fz.le_refl F)
  ·conv=>whnf
   refine br (fun g => absurd (of_decide_eq_true g) gk) (fun _ => ?_);conv=>whnf
   refine drawP hΘ mixed (.look 0 (.look 1 (.look 2 (.look 3 (.look 4 (.look 5 (.look 6 (.look 7 (.alt 8 (.look 9 .done) .nil))))))))) [2, 3] (by kernel_rfl) ?_;conv=>whnf
   refine ⟨rfl, ?_⟩;conv=>whnf
   refine ⟨rfl, ?_⟩;conv=>whnf
   refine ⟨Fz.le_refl F, rfl, rfl, ?_⟩;conv=>whnf
   refine zcd 4 (fun _ => .arr 88 5 ((l0 :: lr).map encL) c) rfl rfl rfl (fun _ _ => by exact zhx zaa rfl _ _ _ _) (fun _ _ => zdm zaa _ _ _ _ _) ?_
   intro b F' hle hb
   exact endFo (.ret (.tup [.agg (rvS ⟨false, l0 :: lr, 0, 0, []⟩ (.slice false 0 (b 0) 0 5 (lr.length + 1) c)), .va (.bool (decide (q = (s.length : Int))))])) F' rfl hle (Fz.le_refl F') ⟨_, _, _, rfl, Its.new (l := l0 :: lr) (hb 0 ⟨rfl, rfl⟩), hv, hcp⟩ ⟨rfl, rfl, trivial⟩ rfl
set_option maxHeartbeats 16000000 in
theorem zou (F : Fz) (s : List UInt8) (hs : s.length ≤ 1000000000000000000) (hne : ¬ s = []) : Fo Tryz.prog F 31 [.va (.int .i64 1), .va (.str s)] (zd4 1 s) := by
 have hin : inR 1 1 8 = true := by decide
 have hw := zbz hin F
 have z0 : i64 0 := ⟨by omega, by omega⟩
 have m1 := zbh F s 0 false hs z0
 have i1 := zbo (b := false) hs z0
 have hx1 : ∃ x a b, rdNum s 0 false = (x, a, b) := ⟨_, _, _, rfl⟩
 obtain ⟨n, a0, b0, e1⟩ := hx1
 rw [e1] at m1 i1
 replace i1 : i64 a0 := i1
 have hcol := zce 1 F
 rw [show ((colN 1 : Nat) : Int) = 0 by decide] at hcol
 have hin2 : ∃ c, inR n 0 64 = c := ⟨_, rfl⟩
 obtain ⟨c0, hc0⟩ := hin2
 have w1 := zbz hc0 F
 have hR : readR 1 s = if b0 = true ∨ c0 = false then none else match zbf 1 s n.toNat [] a0 with
   | none => none
   | some (l, q) => if q = s.length then some ⟨false, l, 0, 0, []⟩ else none := by
  rw [readR, if_neg (by decide), if_neg hne, if_neg (by decide), e1]
  dsimp only
  rw [hc0]; rfl
 have hbad : b0 = true → readR 1 s = none := fun h => by rw [hR, if_pos (.inl h)]
 have hbad2 : c0 = false → readR 1 s = none := fun h => by rw [hR, if_pos (.inr h)]
 have hgood : b0 = false → c0 = true → readR 1 s = match zbf 1 s n.toNat [] a0 with
   | none => none
   | some (l, q) => if q = s.length then some ⟨false, l, 0, 0, []⟩ else none := fun h1 h2 => by
  rw [hR, if_neg (by rintro (h | h); rw [h1] at h; cases h; rw [h2] at h; cases h)]
 have hn64 : c0 = true → 0 ≤ n ∧ n ≤ 64 := fun h => zbe.1 (hc0.trans h)
 clear hR e1 hc0
 refine fo_of hΘ Tryz.func31 rfl (by decide) _ _ rfl rfl rfl ?_;conv=>whnf
 refine usePu hw rfl ⟨rfl, rfl, rfl, trivial⟩ rfl ?_;conv=>whnf
 refine br (fun g => absurd (by simpa using g) hne) (fun _ => ?_);conv=>whnf
 refine br (fun g => absurd g (by decide)) (fun _ => ?_);conv=>whnf
 refine use m1 [(1, 2)] rfl ⟨rfl, trivial⟩ rfl ⟨zan _ _ _, trivial⟩ (by simp [SV.below, SA.below]) ⟨rfl, trivial⟩ ?_
 rintro out0 F1 h0 n0 hle ⟨rfl, rfl, rfl, rfl⟩;conv=>whnf
 rcases b0 with _ | _
 case true =>
  have e := hbad rfl
  conv=>whnf
  exact zbj e rfl (Fz.le_refl F)
 conv=>whnf
 refine usePu w1 rfl ⟨rfl, rfl, rfl, trivial⟩ rfl ?_
 rcases c0 with _ | _
 ·have e := hbad2 rfl
  conv=>whnf
  exact zbj e rfl (Fz.le_refl F)
 have hn0 := hn64 rfl
 have hg := hgood rfl rfl
 clear hbad hbad2 hgood hn64
 have hnN : ((n.toNat : Nat) : Int) = n := Int.toNat_of_nonneg hn0.1
 conv=>whnf
 refine za0 hΘ (X := { y : Nat × List RLn × Nat × Int // (y.1 : Int) ≤ n ∧ y.2.1.length = y.1 ∧ zbf 1 s n.toNat [] a0 = zbf 1 s (n.toNat - y.1) y.2.1 y.2.2.2 ∧ i64 y.2.2.2 ∧ y.2.1.length ≤ y.2.2.1 }) (fun y => [(10, .va (.int .i64 y.1.1))]) [5, 11, 12, 13, 131, 132, 133, 134, 135, 136, 137, 138, 139, 140, 141, 142, 143, 144, 145, 146, 147, 148, 149, 150, 151, 152, 153, 154, 155, 156, 157, 158, 159, 160, 161, 162, 163, 164, 165, 166, 167, 168, 169, 170, 171, 172]
  (fun y => [(0, .frz F), (1, rvalE ⟨false, [], 0, 0, []⟩ 0 0), (2, rrd s y.1.2.2.2 false), (3, rvalE ⟨false, y.1.2.1, 0, 0, []⟩ 4 y.1.2.2.1), (4, gE 88 5 encL y.1.2.2.1 y.1.2.1)]) 5 (fun y => n.toNat - y.1.1) ⟨(0, [], 0, a0), ⟨hn0.1, rfl, rfl, i1, Nat.le_refl 0⟩⟩
  (fun hH hT => leI [(4, 4)] hH hT rfl ⟨trivial, zad (by omega) _, zan _ _ _, zad (by omega) _, zac zaa _ _ _ _ _, trivial⟩ ⟨rfl, trivial⟩ ⟨Fz.le_refl F, rfl, rfl, rfl, rfl, trivial⟩) ?_
 rintro ⟨⟨k, L, c, q⟩, hk, hL, hlr, hq, hcp⟩ hH hT
 replace hcp : L.length ≤ c := hcp
 replace hk : (k : Int) ≤ n := hk
 replace hL : L.length = k := hL
 replace hlr : zbf 1 s n.toNat [] a0 = zbf 1 s (n.toNat - k) L q := hlr
 replace hq : i64 q := hq
 rw [hlr] at hg
 by_cases gk : (k : Int) < n
 ·have hsuc : n.toNat - k = (n.toNat - (k + 1)) + 1 := by omega
  have hk1 : ((k + 1 : Nat) : Int) ≤ n := by omega
  have hdec : n.toNat - (k + 1) < n.toNat - k := by omega
  have hk62 : k < 4611686018427387904 := by omega
  have hlt : L.length < 1000000 := by omega
  have iq0 := hq
  have hs0 := zlh F s q false hs iq0
  have hp0 := zpe (b := false) hs iq0
  have hts := zh0 s q false
  have he0 : ∃ x a b, rdTxt s q false = (x, a, b) := ⟨_, _, _, rfl⟩
  obtain ⟨t, q', b', he0⟩ := he0
  rw [he0] at hs0 hp0 hts
  replace hts : t.length ≤ 65536 := hts
  have hts' : t.length < 1000000 := by omega
  have hrd : rdL 1 s q = ((t, 0, 0, 0, 0), q', b') := by rw [rdL, if_pos rfl, he0]
  have hqq : i64 q' := hp0
  clear he0
  rw [hsuc, zbf, hrd] at hg hlr
  dsimp only at hg hlr
  have hno1 : b' = true → readR 1 s = none := fun h => by rw [hg, if_pos (.inl h)]
  have hno2 : fitsR 1 L (t, 0, 0, 0, 0) = false → readR 1 s = none := fun h => by rw [hg, if_pos (.inr h)]
  have hgo : b' = false → fitsR 1 L (t, 0, 0, 0, 0) = true → zbf 1 s n.toNat [] a0 = zbf 1 s (n.toNat - (k + 1)) (L ++ [(t, 0, 0, 0, 0)]) q' := fun h1 h2 => by
   rw [hlr, if_neg (by rintro (h | h); rw [h1] at h; cases h; rw [h2] at h; cases h)]
  clear hg hlr hrd
  have hL1 : (L ++ [(t, 0, 0, 0, 0)]).length = k + 1 := by rw [List.length_append, List.length_singleton, hL]
  rcases L with _ | ⟨l0, lr⟩
  ·have hf := zgu F 1 [] c (t, 0, 0, 0, 0) hts' rfl
   conv=>whnf
   refine br (fun _ => ?_) (fun g => absurd gk (of_decide_eq_false g));conv=>whnf
   refine br (fun _ => ?_) (fun g => absurd g (by decide));conv=>whnf
   refine use hs0 [(1, 2)] rfl ⟨rfl, trivial⟩ rfl ⟨zan _ _ _, trivial⟩ (by simp [SV.below, SA.below]) ⟨rfl, trivial⟩ ?_
   rintro out0 F1 h0 n0 hle ⟨rfl, rfl, rfl, rfl⟩;conv=>whnf
   refine zb4 hΘ 0 ?_;conv=>whnf
   refine usePu hcol rfl ⟨rfl, trivial⟩ rfl ?_;conv=>whnf
   refine br (fun g => absurd g (by decide)) (fun _ => ?_);conv=>whnf
   refine use hf [(1, 4)] rfl ⟨rfl, rfl, rfl, trivial⟩ rfl ⟨zac zaa _ _ _ _ _, trivial⟩ (by simp [SV.below, SA.below, gA, encL]) ⟨zas zaa (zao _ _ _ _), trivial⟩ ?_
   rintro out0 F1 h0 n0 hle ⟨rfl, rfl, rfl, rfl⟩
   rcases b' with _ | _
   ·conv=>whnf
    refine br (fun g => ?_) (fun g => ?_)
    ·have e := hno2 (by simpa using g)
     conv=>whnf
     exact zbj e rfl (Fz.le_refl F)
    ·have hgo' := hgo rfl (by simpa using g)
     clear g;conv=>whnf
     refine ⟨Nat.le_of_ble_eq_true rfl, [encL (t, 0, 0, 0, 0)], rfl, ?_⟩;conv=>whnf
     refine ⟨rfl, rfl, ?_⟩;conv=>whnf
     refine ⟨by show 1 * 48 ≤ 140737488355328; omega, fun c' hc => ?_⟩;conv=>whnf
     exact ⟨⟨(k + 1, ([]) ++ [(t, 0, 0, 0, 0)], c', q'), hk1, hL1, hgo', hqq, Nat.le_trans (Nat.le_of_eq (by simp)) hc⟩, hdec, leR [(4, 7)] hH hT rfl ⟨trivial, zad (by omega) _, zan _ _ _, zad (by omega) _, zac zaa _ _ _ _ _, trivial⟩ ⟨cnt hk62, trivial⟩ ⟨Fz.le_refl F, rfl, rfl, zci (μ := sig [(4, 7)]) rfl rfl, zas zaa (zc3 _ (by simp)), trivial⟩⟩
   ·have e := hno1 rfl
    conv=>whnf
    exact zbj e rfl (Fz.le_refl F)
  ·have hsz : (lr.length + 1 + 1) * 48 ≤ 140737488355328 := by
    have h9 : lr.length + 1 < 1000000 := hlt
    omega
   have hf := zgu F 1 (l0 :: lr) c (t, 0, 0, 0, 0) hts' rfl
   conv=>whnf
   refine br (fun _ => ?_) (fun g => absurd gk (of_decide_eq_false g));conv=>whnf
   refine br (fun _ => ?_) (fun g => absurd g (by decide));conv=>whnf
   refine use hs0 [(1, 2)] rfl ⟨rfl, trivial⟩ rfl ⟨zan _ _ _, trivial⟩ (by simp [SV.below, SA.below]) ⟨rfl, trivial⟩ ?_
   rintro out0 F1 h0 n0 hle ⟨rfl, rfl, rfl, rfl⟩;conv=>whnf
   refine zb4 hΘ 0 ?_;conv=>whnf
   refine usePu hcol rfl ⟨rfl, trivial⟩ rfl ?_;conv=>whnf
   refine br (fun g => absurd g (by decide)) (fun _ => ?_);conv=>whnf
   refine use hf [(1, 4)] rfl ⟨rfl, ⟨rfl, rfl, rfl, .inr ⟨rfl, rfl, rfl, rfl⟩⟩, rfl, trivial⟩ rfl ⟨zac zaa _ _ _ _ _, trivial⟩ (by simp [SV.below, SA.below, gA, encL]) ⟨zas zaa (zao _ _ _ _), trivial⟩ ?_
   rintro out0 F1 h0 n0 hle ⟨rfl, rfl, rfl, rfl⟩
   rcases b' with _ | _
   ·conv=>whnf
    refine br (fun g => ?_) (fun g => ?_)
    ·have e := hno2 (by simpa using g)
     conv=>whnf
     exact zbj e rfl (Fz.le_refl F)
    ·have hgo' := hgo rfl (by simpa using g)
     clear g;conv=>whnf
     refine ⟨Nat.le_of_ble_eq_true rfl, [encL (t, 0, 0, 0, 0)], rfl, ?_⟩;conv=>whnf
     refine ⟨rfl, rfl, by simp, rfl, hsz, fun c' hc => ?_⟩;conv=>whnf
     exact ⟨⟨(k + 1, (l0 :: lr) ++ [(t, 0, 0, 0, 0)], c', q'), hk1, hL1, hgo', hqq, Nat.le_trans (Nat.le_of_eq (by simp)) hc⟩, hdec, leR [(4, 7)] hH hT rfl ⟨trivial, zad (by omega) _, zan _ _ _, zad (by omega) _, zac zaa _ _ _ _ _, trivial⟩ ⟨cnt hk62, trivial⟩ ⟨Fz.le_refl F, rfl, rfl, zci (μ := sig [(4, 7)]) rfl rfl, zea zaa (l := l0 :: lr) rfl, trivial⟩⟩
   ·have e := hno1 rfl
    conv=>whnf
    exact zbj e rfl (Fz.le_refl F)
 ·have hk0 : n.toNat - k = 0 := by omega
  rw [hk0] at hg
  have hv : (decide (q = (s.length : Int)) = true ∧ readR 1 s = some ⟨false, L, 0, 0, []⟩) ∨ (decide (q = (s.length : Int)) = false ∧ readR 1 s = none) := by
   have hg2 : readR 1 s = if q = (s.length : Int) then some ⟨false, L, 0, 0, []⟩ else none := hg
   by_cases hql : q = (s.length : Int)
   ·rw [if_pos hql] at hg2; exact .inl ⟨decide_eq_true hql, hg2⟩
   ·rw [if_neg hql] at hg2; exact .inr ⟨decide_eq_false hql, hg2⟩
  clear hg hlr
  rcases L with _ | ⟨l0, lr⟩
  ·conv=>whnf
   refine br (fun g => absurd (of_decide_eq_true g) gk) (fun _ => ?_);conv=>whnf
   refine drawP hΘ mixed (.look 0 (.look 1 (.look 2 (.look 3 (.look 4 (.look 5 (.look 6 (.look 7 (.alt 8 (.look 9 .done) .nil))))))))) [2, 3] (by kernel_rfl) ?_;conv=>whnf
   refine ⟨rfl, ?_⟩;conv=>whnf
   refine ⟨rfl, ?_⟩;conv=>whnf
   refine ⟨Fz.le_refl F, rfl, rfl, ?_⟩;conv=>whnf
   exact zbr hv rfl (Fz.le_refl F)
  ·conv=>whnf
   refine br (fun g => absurd (of_decide_eq_true g) gk) (fun _ => ?_);conv=>whnf
   refine drawP hΘ mixed (.look 0 (.look 1 (.look 2 (.look 3 (.look 4 (.look 5 (.look 6 (.look 7 (.alt 8 (.look 9 .done) .nil))))))))) [2, 3] (by kernel_rfl) ?_;conv=>whnf
   refine ⟨rfl, ?_⟩;conv=>whnf
   refine ⟨rfl, ?_⟩;conv=>whnf
   refine ⟨Fz.le_refl F, rfl, rfl, ?_⟩;conv=>whnf
   refine zcd 4 (fun _ => .arr 88 5 ((l0 :: lr).map encL) c) rfl rfl rfl (fun _ _ => by exact zhx zaa rfl _ _ _ _) (fun _ _ => zdm zaa _ _ _ _ _) ?_
   intro b F' hle hb
   exact endFo (.ret (.tup [.agg (rvS ⟨false, l0 :: lr, 0, 0, []⟩ (.slice false 0 (b 0) 0 5 (lr.length + 1) c)), .va (.bool (decide (q = (s.length : Int))))])) F' rfl hle (Fz.le_refl F') ⟨_, _, _, rfl, Its.new (l := l0 :: lr) (hb 0 ⟨rfl, rfl⟩), hv, hcp⟩ ⟨rfl, rfl, trivial⟩ rfl
set_option maxHeartbeats 16000000 in
theorem zof (F : Fz) (s : List UInt8) (hs : s.length ≤ 1000000000000000000) (hne : ¬ s = []) : Fo Tryz.prog F 31 [.va (.int .i64 3), .va (.str s)] (zd4 3 s) := by
 have hin : inR 3 1 8 = true := by decide
 have hw := zbz hin F
 have z0 : i64 0 := ⟨by omega, by omega⟩
 have m1 := zbh F s 0 false hs z0
 have i1 := zbo (b := false) hs z0
 have hx1 : ∃ x a b, rdNum s 0 false = (x, a, b) := ⟨_, _, _, rfl⟩
 obtain ⟨n, a0, b0, e1⟩ := hx1
 rw [e1] at m1 i1
 replace i1 : i64 a0 := i1
 have hcol := zce 3 F
 rw [show ((colN 3 : Nat) : Int) = 3 by decide] at hcol
 have hin2 : ∃ c, inR n 0 64 = c := ⟨_, rfl⟩
 obtain ⟨c0, hc0⟩ := hin2
 have w1 := zbz hc0 F
 have hR : readR 3 s = if b0 = true ∨ c0 = false then none else match zbf 3 s n.toNat [] a0 with
   | none => none
   | some (l, q) => if q = s.length then some ⟨false, l, 0, 0, []⟩ else none := by
  rw [readR, if_neg (by decide), if_neg hne, if_neg (by decide), e1]
  dsimp only
  rw [hc0]; rfl
 have hbad : b0 = true → readR 3 s = none := fun h => by rw [hR, if_pos (.inl h)]
 have hbad2 : c0 = false → readR 3 s = none := fun h => by rw [hR, if_pos (.inr h)]
 have hgood : b0 = false → c0 = true → readR 3 s = match zbf 3 s n.toNat [] a0 with
   | none => none
   | some (l, q) => if q = s.length then some ⟨false, l, 0, 0, []⟩ else none := fun h1 h2 => by
  rw [hR, if_neg (by rintro (h | h); rw [h1] at h; cases h; rw [h2] at h; cases h)]
 have hn64 : c0 = true → 0 ≤ n ∧ n ≤ 64 := fun h => zbe.1 (hc0.trans h)
 clear hR e1 hc0
 refine fo_of hΘ Tryz.func31 rfl (by decide) _ _ rfl rfl rfl ?_;conv=>whnf
 refine usePu hw rfl ⟨rfl, rfl, rfl, trivial⟩ rfl ?_;conv=>whnf
 refine br (fun g => absurd (by simpa using g) hne) (fun _ => ?_);conv=>whnf
 refine br (fun g => absurd g (by decide)) (fun _ => ?_);conv=>whnf
 refine use m1 [(1, 2)] rfl ⟨rfl, trivial⟩ rfl ⟨zan _ _ _, trivial⟩ (by simp [SV.below, SA.below]) ⟨rfl, trivial⟩ ?_
 rintro out0 F1 h0 n0 hle ⟨rfl, rfl, rfl, rfl⟩;conv=>whnf
 rcases b0 with _ | _
 case true =>
  have e := hbad rfl
  conv=>whnf
  exact zbj e rfl (Fz.le_refl F)
 conv=>whnf
 refine usePu w1 rfl ⟨rfl, rfl, rfl, trivial⟩ rfl ?_
 rcases c0 with _ | _
 ·have e := hbad2 rfl
  conv=>whnf
  exact zbj e rfl (Fz.le_refl F)
 have hn0 := hn64 rfl
 have hg := hgood rfl rfl
 clear hbad hbad2 hgood hn64
 have hnN : ((n.toNat : Nat) : Int) = n := Int.toNat_of_nonneg hn0.1
 conv=>whnf
 refine za0 hΘ (X := { y : Nat × List RLn × Nat × Int // (y.1 : Int) ≤ n ∧ y.2.1.length = y.1 ∧ zbf 3 s n.toNat [] a0 = zbf 3 s (n.toNat - y.1) y.2.1 y.2.2.2 ∧ i64 y.2.2.2 ∧ y.2.1.length ≤ y.2.2.1 }) (fun y => [(10, .va (.int .i64 y.1.1))]) [5, 11, 12, 13, 131, 132, 133, 134, 135, 136, 137, 138, 139, 140, 141, 142, 143, 144, 145, 146, 147, 148, 149, 150, 151, 152, 153, 154, 155, 156, 157, 158, 159, 160, 161, 162, 163, 164, 165, 166, 167, 168, 169, 170, 171, 172]
  (fun y => [(0, .frz F), (1, rvalE ⟨false, [], 0, 0, []⟩ 0 0), (2, rrd s y.1.2.2.2 false), (3, rvalE ⟨false, y.1.2.1, 0, 0, []⟩ 4 y.1.2.2.1), (4, gE 88 5 encL y.1.2.2.1 y.1.2.1)]) 5 (fun y => n.toNat - y.1.1) ⟨(0, [], 0, a0), ⟨hn0.1, rfl, rfl, i1, Nat.le_refl 0⟩⟩
  (fun hH hT => leI [(4, 4)] hH hT rfl ⟨trivial, zad (by omega) _, zan _ _ _, zad (by omega) _, zac zaa _ _ _ _ _, trivial⟩ ⟨rfl, trivial⟩ ⟨Fz.le_refl F, rfl, rfl, rfl, rfl, trivial⟩) ?_
 rintro ⟨⟨k, L, c, q⟩, hk, hL, hlr, hq, hcp⟩ hH hT
 replace hcp : L.length ≤ c := hcp
 replace hk : (k : Int) ≤ n := hk
 replace hL : L.length = k := hL
 replace hlr : zbf 3 s n.toNat [] a0 = zbf 3 s (n.toNat - k) L q := hlr
 replace hq : i64 q := hq
 rw [hlr] at hg
 by_cases gk : (k : Int) < n
 ·have hsuc : n.toNat - k = (n.toNat - (k + 1)) + 1 := by omega
  have hk1 : ((k + 1 : Nat) : Int) ≤ n := by omega
  have hdec : n.toNat - (k + 1) < n.toNat - k := by omega
  have hk62 : k < 4611686018427387904 := by omega
  have hlt : L.length < 1000000 := by omega
  have iq0 := hq
  have hs0 := zbh F s q false hs iq0
  have hp0 := zbo (b := false) hs iq0
  have he0 : ∃ x a b, rdNum s q false = (x, a, b) := ⟨_, _, _, rfl⟩
  obtain ⟨n0, q1, b1, he0⟩ := he0
  rw [he0] at hs0 hp0
  have iq1 : i64 q1 := hp0
  have hs1 := zbh F s q1 b1 hs iq1
  have hp1 := zbo (b := b1) hs iq1
  have he1 : ∃ x a b, rdNum s q1 b1 = (x, a, b) := ⟨_, _, _, rfl⟩
  obtain ⟨n1, q2, b2, he1⟩ := he1
  rw [he1] at hs1 hp1
  have iq2 : i64 q2 := hp1
  have hs2 := zbh F s q2 b2 hs iq2
  have hp2 := zbo (b := b2) hs iq2
  have he2 : ∃ x a b, rdNum s q2 b2 = (x, a, b) := ⟨_, _, _, rfl⟩
  obtain ⟨n2, q', b', he2⟩ := he2
  rw [he2] at hs2 hp2
  have hrd : rdL 3 s q = (([], n0, n1, n2, 0), q', b') := by rw [rdL, if_neg (by decide), if_neg (by decide), if_neg (by decide), he0]; dsimp only; rw [he1]; dsimp only; rw [he2]
  have hqq : i64 q' := hp2
  clear he0 he1 he2
  rw [hsuc, zbf, hrd] at hg hlr
  dsimp only at hg hlr
  have hno1 : b' = true → readR 3 s = none := fun h => by rw [hg, if_pos (.inl h)]
  have hno2 : fitsR 3 L ([], n0, n1, n2, 0) = false → readR 3 s = none := fun h => by rw [hg, if_pos (.inr h)]
  have hgo : b' = false → fitsR 3 L ([], n0, n1, n2, 0) = true → zbf 3 s n.toNat [] a0 = zbf 3 s (n.toNat - (k + 1)) (L ++ [([], n0, n1, n2, 0)]) q' := fun h1 h2 => by
   rw [hlr, if_neg (by rintro (h | h); rw [h1] at h; cases h; rw [h2] at h; cases h)]
  clear hg hlr hrd
  have hL1 : (L ++ [([], n0, n1, n2, 0)]).length = k + 1 := by rw [List.length_append, List.length_singleton, hL]
  rcases L with _ | ⟨l0, lr⟩
  ·have hf := zcr F 3 [] c ([], n0, n1, n2, 0) (by show 0 < 1000000; omega) hlt (by decide)
   conv=>whnf
   refine br (fun _ => ?_) (fun g => absurd gk (of_decide_eq_false g));conv=>whnf
   refine br (fun g => absurd g (by decide)) (fun _ => ?_);conv=>whnf
   refine zb4 hΘ 3 ?_;conv=>whnf
   refine usePu hcol rfl ⟨rfl, trivial⟩ rfl ?_;conv=>whnf
   refine br (fun _ => ?_) (fun g => absurd g (by decide));conv=>whnf
   refine use hs0 [(1, 2)] rfl ⟨rfl, trivial⟩ rfl ⟨zan _ _ _, trivial⟩ (by simp [SV.below, SA.below]) ⟨rfl, trivial⟩ ?_
   rintro out0 F1 h0 n0 hle ⟨rfl, rfl, rfl, rfl⟩;conv=>whnf
   refine ⟨by decide, ?_⟩;conv=>whnf
   refine sr_go hΘ ?_;conv=>whnf
   refine usePu hcol rfl ⟨rfl, trivial⟩ rfl ?_;conv=>whnf
   refine br (fun _ => ?_) (fun g => absurd g (by decide));conv=>whnf
   refine use hs1 [(1, 2)] rfl ⟨rfl, trivial⟩ rfl ⟨zan _ _ _, trivial⟩ (by simp [SV.below, SA.below]) ⟨rfl, trivial⟩ ?_
   rintro out0 F1 h0 n0 hle ⟨rfl, rfl, rfl, rfl⟩;conv=>whnf
   refine ⟨by decide, ?_⟩;conv=>whnf
   refine sr_go hΘ ?_;conv=>whnf
   refine usePu hcol rfl ⟨rfl, trivial⟩ rfl ?_;conv=>whnf
   refine br (fun _ => ?_) (fun g => absurd g (by decide));conv=>whnf
   refine use hs2 [(1, 2)] rfl ⟨rfl, trivial⟩ rfl ⟨zan _ _ _, trivial⟩ (by simp [SV.below, SA.below]) ⟨rfl, trivial⟩ ?_
   rintro out0 F1 h0 n0 hle ⟨rfl, rfl, rfl, rfl⟩;conv=>whnf
   refine ⟨by decide, ?_⟩;conv=>whnf
   refine sr_go hΘ ?_;conv=>whnf
   refine usePu hcol rfl ⟨rfl, trivial⟩ rfl ?_;conv=>whnf
   refine br (fun g => absurd g (by decide)) (fun _ => ?_);conv=>whnf
   refine use hf [(1, 4)] rfl ⟨rfl, rfl, rfl, trivial⟩ rfl ⟨zac zaa _ _ _ _ _, trivial⟩ (by simp [SV.below, SA.below, gA, encL]) ⟨zas zaa (zao _ _ _ _), trivial⟩ ?_
   rintro out0 F1 h0 n0 hle ⟨rfl, rfl, rfl, rfl⟩
   rcases b' with _ | _
   ·conv=>whnf
    refine br (fun g => ?_) (fun g => ?_)
    ·have e := hno2 (by simpa using g)
     conv=>whnf
     exact zbj e rfl (Fz.le_refl F)
    ·have hgo' := hgo rfl (by simpa using g)
     clear g;conv=>whnf
     refine ⟨Nat.le_of_ble_eq_true rfl, [encL ([], n0, n1, n2, 0)], rfl, ?_⟩;conv=>whnf
     refine ⟨rfl, rfl, ?_⟩;conv=>whnf
     refine ⟨by show 1 * 48 ≤ 140737488355328; omega, fun c' hc => ?_⟩;conv=>whnf
     exact ⟨⟨(k + 1, ([]) ++ [([], n0, n1, n2, 0)], c', q'), hk1, hL1, hgo', hqq, Nat.le_trans (Nat.le_of_eq (by simp)) hc⟩, hdec, leR [(4, 7)] hH hT rfl ⟨trivial, zad (by omega) _, zan _ _ _, zad (by omega) _, zac zaa _ _ _ _ _, trivial⟩ ⟨cnt hk62, trivial⟩ ⟨Fz.le_refl F, rfl, rfl, zci (μ := sig [(4, 7)]) rfl rfl, zas zaa (zc3 _ (by simp)), trivial⟩⟩
   ·have e := hno1 rfl
    conv=>whnf
    exact zbj e rfl (Fz.le_refl F)
  ·have hsz : (lr.length + 1 + 1) * 48 ≤ 140737488355328 := by
    have h9 : lr.length + 1 < 1000000 := hlt
    omega
   have hf := zcr F 3 (l0 :: lr) c ([], n0, n1, n2, 0) (by show 0 < 1000000; omega) hlt (by decide)
   conv=>whnf
   refine br (fun _ => ?_) (fun g => absurd gk (of_decide_eq_false g));conv=>whnf
   refine br (fun g => absurd g (by decide)) (fun _ => ?_);conv=>whnf
   refine zb4 hΘ 3 ?_;conv=>whnf
   refine usePu hcol rfl ⟨rfl, trivial⟩ rfl ?_;conv=>whnf
   refine br (fun _ => ?_) (fun g => absurd g (by decide));conv=>whnf
   refine use hs0 [(1, 2)] rfl ⟨rfl, trivial⟩ rfl ⟨zan _ _ _, trivial⟩ (by simp [SV.below, SA.below]) ⟨rfl, trivial⟩ ?_
   rintro out0 F1 h0 n0 hle ⟨rfl, rfl, rfl, rfl⟩;conv=>whnf
   refine ⟨by decide, ?_⟩;conv=>whnf
   refine sr_go hΘ ?_;conv=>whnf
   refine usePu hcol rfl ⟨rfl, trivial⟩ rfl ?_;conv=>whnf
   refine br (fun _ => ?_) (fun g => absurd g (by decide));conv=>whnf
   refine use hs1 [(1, 2)] rfl ⟨rfl, trivial⟩ rfl ⟨zan _ _ _, trivial⟩ (by simp [SV.below, SA.below]) ⟨rfl, trivial⟩ ?_
   rintro out0 F1 h0 n0 hle ⟨rfl, rfl, rfl, rfl⟩;conv=>whnf
   refine ⟨by decide, ?_⟩;conv=>whnf
   refine sr_go hΘ ?_;conv=>whnf
   refine usePu hcol rfl ⟨rfl, trivial⟩ rfl ?_;conv=>whnf
   refine br (fun _ => ?_) (fun g => absurd g (by decide));conv=>whnf
   refine use hs2 [(1, 2)] rfl ⟨rfl, trivial⟩ rfl ⟨zan _ _ _, trivial⟩ (by simp [SV.below, SA.below]) ⟨rfl, trivial⟩ ?_
   rintro out0 F1 h0 n0 hle ⟨rfl, rfl, rfl, rfl⟩;conv=>whnf
   refine ⟨by decide, ?_⟩;conv=>whnf
   refine sr_go hΘ ?_;conv=>whnf
   refine usePu hcol rfl ⟨rfl, trivial⟩ rfl ?_;conv=>whnf
   refine br (fun g => absurd g (by decide)) (fun _ => ?_);conv=>whnf
   refine use hf [(1, 4)] rfl ⟨rfl, ⟨rfl, rfl, rfl, .inr ⟨rfl, rfl, rfl, rfl⟩⟩, rfl, trivial⟩ rfl ⟨zac zaa _ _ _ _ _, trivial⟩ (by simp [SV.below, SA.below, gA, encL]) ⟨zas zaa (zao _ _ _ _), trivial⟩ ?_
   rintro out0 F1 h0 n0 hle ⟨rfl, rfl, rfl, rfl⟩
   rcases b' with _ | _
   ·conv=>whnf
    refine br (fun g => ?_) (fun g => ?_)
    ·have e := hno2 (by simpa using g)
     conv=>whnf
     exact zbj e rfl (Fz.le_refl F)
    ·have hgo' := hgo rfl (by simpa using g)
     clear g;conv=>whnf
     refine ⟨Nat.le_of_ble_eq_true rfl, [encL ([], n0, n1, n2, 0)], rfl, ?_⟩;conv=>whnf
     refine ⟨rfl, rfl, by simp, rfl, hsz, fun c' hc => ?_⟩;conv=>whnf
     exact ⟨⟨(k + 1, (l0 :: lr) ++ [([], n0, n1, n2, 0)], c', q'), hk1, hL1, hgo', hqq, Nat.le_trans (Nat.le_of_eq (by simp)) hc⟩, hdec, leR [(4, 7)] hH hT rfl ⟨trivial, zad (by omega) _, zan _ _ _, zad (by omega) _, zac zaa _ _ _ _ _, trivial⟩ ⟨cnt hk62, trivial⟩ ⟨Fz.le_refl F, rfl, rfl, zci (μ := sig [(4, 7)]) rfl rfl, zea zaa (l := l0 :: lr) rfl, trivial⟩⟩
   ·have e := hno1 rfl
    conv=>whnf
    exact zbj e rfl (Fz.le_refl F)
 ·have hk0 : n.toNat - k = 0 := by omega
  rw [hk0] at hg
  have hv : (decide (q = (s.length : Int)) = true ∧ readR 3 s = some ⟨false, L, 0, 0, []⟩) ∨ (decide (q = (s.length : Int)) = false ∧ readR 3 s = none) := by
   have hg2 : readR 3 s = if q = (s.length : Int) then some ⟨false, L, 0, 0, []⟩ else none := hg
   by_cases hql : q = (s.length : Int)
   ·rw [if_pos hql] at hg2; exact .inl ⟨decide_eq_true hql, hg2⟩
   ·rw [if_neg hql] at hg2; exact .inr ⟨decide_eq_false hql, hg2⟩
  clear hg hlr
  rcases L with _ | ⟨l0, lr⟩
  ·conv=>whnf
   refine br (fun g => absurd (of_decide_eq_true g) gk) (fun _ => ?_);conv=>whnf
   refine drawP hΘ mixed (.look 0 (.look 1 (.look 2 (.look 3 (.look 4 (.look 5 (.look 6 (.look 7 (.alt 8 (.look 9 .done) .nil))))))))) [2, 3] (by kernel_rfl) ?_;conv=>whnf
   refine ⟨rfl, ?_⟩;conv=>whnf
   refine ⟨rfl, ?_⟩;conv=>whnf
   refine ⟨Fz.le_refl F, rfl, rfl, ?_⟩;conv=>whnf
   exact zbr hv rfl (Fz.le_refl F)
  ·conv=>whnf
   refine br (fun g => absurd (of_decide_eq_true g) gk) (fun _ => ?_);conv=>whnf
   refine drawP hΘ mixed (.look 0 (.look 1 (.look 2 (.look 3 (.look 4 (.look 5 (.look 6 (.look 7 (.alt 8 (.look 9 .done) .nil))))))))) [2, 3] (by kernel_rfl) ?_;conv=>whnf
   refine ⟨rfl, ?_⟩;conv=>whnf
   refine ⟨rfl, ?_⟩;conv=>whnf
   refine ⟨Fz.le_refl F, rfl, rfl, ?_⟩;conv=>whnf
   refine zcd 4 (fun _ => .arr 88 5 ((l0 :: lr).map encL) c) rfl rfl rfl (fun _ _ => by exact zhx zaa rfl _ _ _ _) (fun _ _ => zdm zaa _ _ _ _ _) ?_
   intro b F' hle hb
   exact endFo (.ret (.tup [.agg (rvS ⟨false, l0 :: lr, 0, 0, []⟩ (.slice false 0 (b 0) 0 5 (lr.length + 1) c)), .va (.bool (decide (q = (s.length : Int))))])) F' rfl hle (Fz.le_refl F') ⟨_, _, _, rfl, Its.new (l := l0 :: lr) (hb 0 ⟨rfl, rfl⟩), hv, hcp⟩ ⟨rfl, rfl, trivial⟩ rfl
set_option maxHeartbeats 16000000 in
theorem zop (F : Fz) (s : List UInt8) (hs : s.length ≤ 1000000000000000000) (hne : ¬ s = []) : Fo Tryz.prog F 31 [.va (.int .i64 4), .va (.str s)] (zd4 4 s) := by
 have hin : inR 4 1 8 = true := by decide
 have hw := zbz hin F
 have z0 : i64 0 := ⟨by omega, by omega⟩
 have m1 := zbh F s 0 false hs z0
 have i1 := zbo (b := false) hs z0
 have hx1 : ∃ x a b, rdNum s 0 false = (x, a, b) := ⟨_, _, _, rfl⟩
 obtain ⟨n, a0, b0, e1⟩ := hx1
 rw [e1] at m1 i1
 replace i1 : i64 a0 := i1
 have hcol := zce 4 F
 rw [show ((colN 4 : Nat) : Int) = 4 by decide] at hcol
 have hin2 : ∃ c, inR n 0 64 = c := ⟨_, rfl⟩
 obtain ⟨c0, hc0⟩ := hin2
 have w1 := zbz hc0 F
 have hR : readR 4 s = if b0 = true ∨ c0 = false then none else match zbf 4 s n.toNat [] a0 with
   | none => none
   | some (l, q) => if q = s.length then some ⟨false, l, 0, 0, []⟩ else none := by
  rw [readR, if_neg (by decide), if_neg hne, if_neg (by decide), e1]
  dsimp only
  rw [hc0]; rfl
 have hbad : b0 = true → readR 4 s = none := fun h => by rw [hR, if_pos (.inl h)]
 have hbad2 : c0 = false → readR 4 s = none := fun h => by rw [hR, if_pos (.inr h)]
 have hgood : b0 = false → c0 = true → readR 4 s = match zbf 4 s n.toNat [] a0 with
   | none => none
   | some (l, q) => if q = s.length then some ⟨false, l, 0, 0, []⟩ else none := fun h1 h2 => by
  rw [hR, if_neg (by rintro (h | h); rw [h1] at h; cases h; rw [h2] at h; cases h)]
 have hn64 : c0 = true → 0 ≤ n ∧ n ≤ 64 := fun h => zbe.1 (hc0.trans h)
 clear hR e1 hc0
 refine fo_of hΘ Tryz.func31 rfl (by decide) _ _ rfl rfl rfl ?_;conv=>whnf
 refine usePu hw rfl ⟨rfl, rfl, rfl, trivial⟩ rfl ?_;conv=>whnf
 refine br (fun g => absurd (by simpa using g) hne) (fun _ => ?_);conv=>whnf
 refine br (fun g => absurd g (by decide)) (fun _ => ?_);conv=>whnf
 refine use m1 [(1, 2)] rfl ⟨rfl, trivial⟩ rfl ⟨zan _ _ _, trivial⟩ (by simp [SV.below, SA.below]) ⟨rfl, trivial⟩ ?_
 rintro out0 F1 h0 n0 hle ⟨rfl, rfl, rfl, rfl⟩;conv=>whnf
 rcases b0 with _ | _
 case true =>
  have e := hbad rfl
  conv=>whnf
  exact zbj e rfl (Fz.le_refl F)
 conv=>whnf
 refine usePu w1 rfl ⟨rfl, rfl, rfl, trivial⟩ rfl ?_
 rcases c0 with _ | _
 ·have e := hbad2 rfl
  conv=>whnf
  exact zbj e rfl (Fz.le_refl F)
 have hn0 := hn64 rfl
 have hg := hgood rfl rfl
 clear hbad hbad2 hgood hn64
 have hnN : ((n.toNat : Nat) : Int) = n := Int.toNat_of_nonneg hn0.1
 conv=>whnf
 refine za0 hΘ (X := { y : Nat × List RLn × Nat × Int // (y.1 : Int) ≤ n ∧ y.2.1.length = y.1 ∧ zbf 4 s n.toNat [] a0 = zbf 4 s (n.toNat - y.1) y.2.1 y.2.2.2 ∧ i64 y.2.2.2 ∧ y.2.1.length ≤ y.2.2.1 }) (fun y => [(10, .va (.int .i64 y.1.1))]) [5, 11, 12, 13, 131, 132, 133, 134, 135, 136, 137, 138, 139, 140, 141, 142, 143, 144, 145, 146, 147, 148, 149, 150, 151, 152, 153, 154, 155, 156, 157, 158, 159, 160, 161, 162, 163, 164, 165, 166, 167, 168, 169, 170, 171, 172]
  (fun y => [(0, .frz F), (1, rvalE ⟨false, [], 0, 0, []⟩ 0 0), (2, rrd s y.1.2.2.2 false), (3, rvalE ⟨false, y.1.2.1, 0, 0, []⟩ 4 y.1.2.2.1), (4, gE 88 5 encL y.1.2.2.1 y.1.2.1)]) 5 (fun y => n.toNat - y.1.1) ⟨(0, [], 0, a0), ⟨hn0.1, rfl, rfl, i1, Nat.le_refl 0⟩⟩
  (fun hH hT => leI [(4, 4)] hH hT rfl ⟨trivial, zad (by omega) _, zan _ _ _, zad (by omega) _, zac zaa _ _ _ _ _, trivial⟩ ⟨rfl, trivial⟩ ⟨Fz.le_refl F, rfl, rfl, rfl, rfl, trivial⟩) ?_
 rintro ⟨⟨k, L, c, q⟩, hk, hL, hlr, hq, hcp⟩ hH hT
 replace hcp : L.length ≤ c := hcp
 replace hk : (k : Int) ≤ n := hk
 replace hL : L.length = k := hL
 replace hlr : zbf 4 s n.toNat [] a0 = zbf 4 s (n.toNat - k) L q := hlr
 replace hq : i64 q := hq
 rw [hlr] at hg
 by_cases gk : (k : Int) < n
 ·have hsuc : n.toNat - k = (n.toNat - (k + 1)) + 1 := by omega
  have hk1 : ((k + 1 : Nat) : Int) ≤ n := by omega
  have hdec : n.toNat - (k + 1) < n.toNat - k := by omega
  have hk62 : k < 4611686018427387904 := by omega
  have hlt : L.length < 1000000 := by omega
  have iq0 := hq
  have hs0 := zbh F s q false hs iq0
  have hp0 := zbo (b := false) hs iq0
  have he0 : ∃ x a b, rdNum s q false = (x, a, b) := ⟨_, _, _, rfl⟩
  obtain ⟨n0, q1, b1, he0⟩ := he0
  rw [he0] at hs0 hp0
  have iq1 : i64 q1 := hp0
  have hs1 := zbh F s q1 b1 hs iq1
  have hp1 := zbo (b := b1) hs iq1
  have he1 : ∃ x a b, rdNum s q1 b1 = (x, a, b) := ⟨_, _, _, rfl⟩
  obtain ⟨n1, q2, b2, he1⟩ := he1
  rw [he1] at hs1 hp1
  have iq2 : i64 q2 := hp1
  have hs2 := zbh F s q2 b2 hs iq2
  have hp2 := zbo (b := b2) hs iq2
  have he2 : ∃ x a b, rdNum s q2 b2 = (x, a, b) := ⟨_, _, _, rfl⟩
  obtain ⟨n2, q3, b3, he2⟩ := he2
  rw [he2] at hs2 hp2
  have iq3 : i64 q3 := hp2
  have hs3 := zbh F s q3 b3 hs iq3
  have hp3 := zbo (b := b3) hs iq3
  have he3 : ∃ x a b, rdNum s q3 b3 = (x, a, b) := ⟨_, _, _, rfl⟩
  obtain ⟨n3, q', b', he3⟩ := he3
  rw [he3] at hs3 hp3
  have hrd : rdL 4 s q = (([], n0, n1, n2, n3), q', b') := by rw [rdL, if_neg (by decide), if_neg (by decide), if_pos rfl, he0]; dsimp only; rw [he1]; dsimp only; rw [he2]; dsimp only; rw [he3]
  have hqq : i64 q' := hp3
  clear he0 he1 he2 he3
  rw [hsuc, zbf, hrd] at hg hlr
  dsimp only at hg hlr
  have hno1 : b' = true → readR 4 s = none := fun h => by rw [hg, if_pos (.inl h)]
  have hno2 : fitsR 4 L ([], n0, n1, n2, n3) = false → readR 4 s = none := fun h => by rw [hg, if_pos (.inr h)]
  have hgo : b' = false → fitsR 4 L ([], n0, n1, n2, n3) = true → zbf 4 s n.toNat [] a0 = zbf 4 s (n.toNat - (k + 1)) (L ++ [([], n0, n1, n2, n3)]) q' := fun h1 h2 => by
   rw [hlr, if_neg (by rintro (h | h); rw [h1] at h; cases h; rw [h2] at h; cases h)]
  clear hg hlr hrd
  have hL1 : (L ++ [([], n0, n1, n2, n3)]).length = k + 1 := by rw [List.length_append, List.length_singleton, hL]
  rcases L with _ | ⟨l0, lr⟩
  ·have hf := zcr F 4 [] c ([], n0, n1, n2, n3) (by show 0 < 1000000; omega) hlt (by decide)
   conv=>whnf
   refine br (fun _ => ?_) (fun g => absurd gk (of_decide_eq_false g));conv=>whnf
   refine br (fun g => absurd g (by decide)) (fun _ => ?_);conv=>whnf
   refine zb4 hΘ 4 ?_;conv=>whnf
   refine usePu hcol rfl ⟨rfl, trivial⟩ rfl ?_;conv=>whnf
   refine br (fun _ => ?_) (fun g => absurd g (by decide));conv=>whnf
   refine use hs0 [(1, 2)] rfl ⟨rfl, trivial⟩ rfl ⟨zan _ _ _, trivial⟩ (by simp [SV.below, SA.below]) ⟨rfl, trivial⟩ ?_
   rintro out0 F1 h0 n0 hle ⟨rfl, rfl, rfl, rfl⟩;conv=>whnf
   refine ⟨by decide, ?_⟩;conv=>whnf
   refine sr_go hΘ ?_;conv=>whnf
   refine usePu hcol rfl ⟨rfl, trivial⟩ rfl ?_;conv=>whnf
   refine br (fun _ => ?_) (fun g => absurd g (by decide));conv=>whnf
   refine use hs1 [(1, 2)] rfl ⟨rfl, trivial⟩ rfl ⟨zan _ _ _, trivial⟩ (by simp [SV.below, SA.below]) ⟨rfl, trivial⟩ ?_
   rintro out0 F1 h0 n0 hle ⟨rfl, rfl, rfl, rfl⟩;conv=>whnf
   refine ⟨by decide, ?_⟩;conv=>whnf
   refine sr_go hΘ ?_;conv=>whnf
   refine usePu hcol rfl ⟨rfl, trivial⟩ rfl ?_;conv=>whnf
   refine br (fun _ => ?_) (fun g => absurd g (by decide));conv=>whnf
   refine use hs2 [(1, 2)] rfl ⟨rfl, trivial⟩ rfl ⟨zan _ _ _, trivial⟩ (by simp [SV.below, SA.below]) ⟨rfl, trivial⟩ ?_
   rintro out0 F1 h0 n0 hle ⟨rfl, rfl, rfl, rfl⟩;conv=>whnf
   refine ⟨by decide, ?_⟩;conv=>whnf
   refine sr_go hΘ ?_;conv=>whnf
   refine usePu hcol rfl ⟨rfl, trivial⟩ rfl ?_;conv=>whnf
   refine br (fun _ => ?_) (fun g => absurd g (by decide));conv=>whnf
   refine use hs3 [(1, 2)] rfl ⟨rfl, trivial⟩ rfl ⟨zan _ _ _, trivial⟩ (by simp [SV.below, SA.below]) ⟨rfl, trivial⟩ ?_
   rintro out0 F1 h0 n0 hle ⟨rfl, rfl, rfl, rfl⟩;conv=>whnf
   refine ⟨by decide, ?_⟩;conv=>whnf
   refine sr_go hΘ ?_;conv=>whnf
   refine usePu hcol rfl ⟨rfl, trivial⟩ rfl ?_;conv=>whnf
   refine br (fun g => absurd g (by decide)) (fun _ => ?_);conv=>whnf
   refine use hf [(1, 4)] rfl ⟨rfl, rfl, rfl, trivial⟩ rfl ⟨zac zaa _ _ _ _ _, trivial⟩ (by simp [SV.below, SA.below, gA, encL]) ⟨zas zaa (zao _ _ _ _), trivial⟩ ?_
   rintro out0 F1 h0 n0 hle ⟨rfl, rfl, rfl, rfl⟩
   rcases b' with _ | _
   ·conv=>whnf
    refine br (fun g => ?_) (fun g => ?_)
    ·have e := hno2 (by simpa using g)
     conv=>whnf
     exact zbj e rfl (Fz.le_refl F)
    ·have hgo' := hgo rfl (by simpa using g)
     clear g;conv=>whnf
     refine ⟨Nat.le_of_ble_eq_true rfl, [encL ([], n0, n1, n2, n3)], rfl, ?_⟩;conv=>whnf
     refine ⟨rfl, rfl, ?_⟩;conv=>whnf
     refine ⟨by show 1 * 48 ≤ 140737488355328; omega, fun c' hc => ?_⟩;conv=>whnf
     exact ⟨⟨(k + 1, ([]) ++ [([], n0, n1, n2, n3)], c', q'), hk1, hL1, hgo', hqq, Nat.le_trans (Nat.le_of_eq (by simp)) hc⟩, hdec, leR [(4, 7)] hH hT rfl ⟨trivial, zad (by omega) _, zan _ _ _, zad (by omega) _, zac zaa _ _ _ _ _, trivial⟩ ⟨cnt hk62, trivial⟩ ⟨Fz.le_refl F, rfl, rfl, zci (μ := sig [(4, 7)]) rfl rfl, zas zaa (zc3 _ (by simp)), trivial⟩⟩
   ·have e := hno1 rfl
    conv=>whnf
    exact zbj e rfl (Fz.le_refl F)
  ·have hsz : (lr.length + 1 + 1) * 48 ≤ 140737488355328 := by
    have h9 : lr.length + 1 < 1000000 := hlt
    omega
   have hf := zcr F 4 (l0 :: lr) c ([], n0, n1, n2, n3) (by show 0 < 1000000; omega) hlt (by decide)
   conv=>whnf
   refine br (fun _ => ?_) (fun g => absurd gk (of_decide_eq_false g));conv=>whnf
   refine br (fun g => absurd g (by decide)) (fun _ => ?_);conv=>whnf
   refine zb4 hΘ 4 ?_;conv=>whnf
   refine usePu hcol rfl ⟨rfl, trivial⟩ rfl ?_;conv=>whnf
   refine br (fun _ => ?_) (fun g => absurd g (by decide));conv=>whnf
   refine use hs0 [(1, 2)] rfl ⟨rfl, trivial⟩ rfl ⟨zan _ _ _, trivial⟩ (by simp [SV.below, SA.below]) ⟨rfl, trivial⟩ ?_
   rintro out0 F1 h0 n0 hle ⟨rfl, rfl, rfl, rfl⟩;conv=>whnf
   refine ⟨by decide, ?_⟩;conv=>whnf
   refine sr_go hΘ ?_;conv=>whnf
   refine usePu hcol rfl ⟨rfl, trivial⟩ rfl ?_;conv=>whnf
   refine br (fun _ => ?_) (fun g => absurd g (by decide));conv=>whnf
   refine use hs1 [(1, 2)] rfl ⟨rfl, trivial⟩ rfl ⟨zan _ _ _, trivial⟩ (by simp [SV.below, SA.below]) ⟨rfl, trivial⟩ ?_
   rintro out0 F1 h0 n0 hle ⟨rfl, rfl, rfl, rfl⟩;conv=>whnf
   refine ⟨by decide, ?_⟩;conv=>whnf
   refine sr_go hΘ ?_;conv=>whnf
   refine usePu hcol rfl ⟨rfl, trivial⟩ rfl ?_;conv=>whnf
   refine br (fun _ => ?_) (fun g => absurd g (by decide));conv=>whnf
   refine use hs2 [(1, 2)] rfl ⟨rfl, trivial⟩ rfl ⟨zan _ _ _, trivial⟩ (by simp [SV.below, SA.below]) ⟨rfl, trivial⟩ ?_
   rintro out0 F1 h0 n0 hle ⟨rfl, rfl, rfl, rfl⟩;conv=>whnf
   refine ⟨by decide, ?_⟩;conv=>whnf
   refine sr_go hΘ ?_;conv=>whnf
   refine usePu hcol rfl ⟨rfl, trivial⟩ rfl ?_;conv=>whnf
   refine br (fun _ => ?_) (fun g => absurd g (by decide));conv=>whnf
   refine use hs3 [(1, 2)] rfl ⟨rfl, trivial⟩ rfl ⟨zan _ _ _, trivial⟩ (by simp [SV.below, SA.below]) ⟨rfl, trivial⟩ ?_
   rintro out0 F1 h0 n0 hle ⟨rfl, rfl, rfl, rfl⟩;conv=>whnf
   refine ⟨by decide, ?_⟩;conv=>whnf
   refine sr_go hΘ ?_;conv=>whnf
   refine usePu hcol rfl ⟨rfl, trivial⟩ rfl ?_;conv=>whnf
   refine br (fun g => absurd g (by decide)) (fun _ => ?_);conv=>whnf
   refine use hf [(1, 4)] rfl ⟨rfl, ⟨rfl, rfl, rfl, .inr ⟨rfl, rfl, rfl, rfl⟩⟩, rfl, trivial⟩ rfl ⟨zac zaa _ _ _ _ _, trivial⟩ (by simp [SV.below, SA.below, gA, encL]) ⟨zas zaa (zao _ _ _ _), trivial⟩ ?_
   rintro out0 F1 h0 n0 hle ⟨rfl, rfl, rfl, rfl⟩
   rcases b' with _ | _
   ·conv=>whnf
    refine br (fun g => ?_) (fun g => ?_)
    ·have e := hno2 (by simpa using g)
     conv=>whnf
     exact zbj e rfl (Fz.le_refl F)
    ·have hgo' := hgo rfl (by simpa using g)
     clear g;conv=>whnf
     refine ⟨Nat.le_of_ble_eq_true rfl, [encL ([], n0, n1, n2, n3)], rfl, ?_⟩;conv=>whnf
     refine ⟨rfl, rfl, by simp, rfl, hsz, fun c' hc => ?_⟩;conv=>whnf
     exact ⟨⟨(k + 1, (l0 :: lr) ++ [([], n0, n1, n2, n3)], c', q'), hk1, hL1, hgo', hqq, Nat.le_trans (Nat.le_of_eq (by simp)) hc⟩, hdec, leR [(4, 7)] hH hT rfl ⟨trivial, zad (by omega) _, zan _ _ _, zad (by omega) _, zac zaa _ _ _ _ _, trivial⟩ ⟨cnt hk62, trivial⟩ ⟨Fz.le_refl F, rfl, rfl, zci (μ := sig [(4, 7)]) rfl rfl, zea zaa (l := l0 :: lr) rfl, trivial⟩⟩
   ·have e := hno1 rfl
    conv=>whnf
    exact zbj e rfl (Fz.le_refl F)
 ·have hk0 : n.toNat - k = 0 := by omega
  rw [hk0] at hg
  have hv : (decide (q = (s.length : Int)) = true ∧ readR 4 s = some ⟨false, L, 0, 0, []⟩) ∨ (decide (q = (s.length : Int)) = false ∧ readR 4 s = none) := by
   have hg2 : readR 4 s = if q = (s.length : Int) then some ⟨false, L, 0, 0, []⟩ else none := hg
   by_cases hql : q = (s.length : Int)
   ·rw [if_pos hql] at hg2; exact .inl ⟨decide_eq_true hql, hg2⟩
   ·rw [if_neg hql] at hg2; exact .inr ⟨decide_eq_false hql, hg2⟩
  clear hg hlr
  rcases L with _ | ⟨l0, lr⟩
  ·conv=>whnf
   refine br (fun g => absurd (of_decide_eq_true g) gk) (fun _ => ?_);conv=>whnf
   refine drawP hΘ mixed (.look 0 (.look 1 (.look 2 (.look 3 (.look 4 (.look 5 (.look 6 (.look 7 (.alt 8 (.look 9 .done) .nil))))))))) [2, 3] (by kernel_rfl) ?_;conv=>whnf
   refine ⟨rfl, ?_⟩;conv=>whnf
   refine ⟨rfl, ?_⟩;conv=>whnf
   refine ⟨Fz.le_refl F, rfl, rfl, ?_⟩;conv=>whnf
   exact zbr hv rfl (Fz.le_refl F)
  ·conv=>whnf
   refine br (fun g => absurd (of_decide_eq_true g) gk) (fun _ => ?_);conv=>whnf
   refine drawP hΘ mixed (.look 0 (.look 1 (.look 2 (.look 3 (.look 4 (.look 5 (.look 6 (.look 7 (.alt 8 (.look 9 .done) .nil))))))))) [2, 3] (by kernel_rfl) ?_;conv=>whnf
   refine ⟨rfl, ?_⟩;conv=>whnf
   refine ⟨rfl, ?_⟩;conv=>whnf
   refine ⟨Fz.le_refl F, rfl, rfl, ?_⟩;conv=>whnf
   refine zcd 4 (fun _ => .arr 88 5 ((l0 :: lr).map encL) c) rfl rfl rfl (fun _ _ => by exact zhx zaa rfl _ _ _ _) (fun _ _ => zdm zaa _ _ _ _ _) ?_
   intro b F' hle hb
   exact endFo (.ret (.tup [.agg (rvS ⟨false, l0 :: lr, 0, 0, []⟩ (.slice false 0 (b 0) 0 5 (lr.length + 1) c)), .va (.bool (decide (q = (s.length : Int))))])) F' rfl hle (Fz.le_refl F') ⟨_, _, _, rfl, Its.new (l := l0 :: lr) (hb 0 ⟨rfl, rfl⟩), hv, hcp⟩ ⟨rfl, rfl, trivial⟩ rfl
set_option maxHeartbeats 16000000 in
theorem zoe (F : Fz) (s : List UInt8) (hs : s.length ≤ 1000000000000000000) (hne : ¬ s = []) : Fo Tryz.prog F 31 [.va (.int .i64 5), .va (.str s)] (zd4 5 s) := by
 have hin : inR 5 1 8 = true := by decide
 have hw := zbz hin F
 have z0 : i64 0 := ⟨by omega, by omega⟩
 have m1 := zbh F s 0 false hs z0
 have i1 := zbo (b := false) hs z0
 have hx1 : ∃ x a b, rdNum s 0 false = (x, a, b) := ⟨_, _, _, rfl⟩
 obtain ⟨n, a0, b0, e1⟩ := hx1
 rw [e1] at m1 i1
 replace i1 : i64 a0 := i1
 have hcol := zce 5 F
 rw [show ((colN 5 : Nat) : Int) = 3 by decide] at hcol
 have hin2 : ∃ c, inR n 0 64 = c := ⟨_, rfl⟩
 obtain ⟨c0, hc0⟩ := hin2
 have w1 := zbz hc0 F
 have hR : readR 5 s = if b0 = true ∨ c0 = false then none else match zbf 5 s n.toNat [] a0 with
   | none => none
   | some (l, q) => if q = s.length then some ⟨false, l, 0, 0, []⟩ else none := by
  rw [readR, if_neg (by decide), if_neg hne, if_neg (by decide), e1]
  dsimp only
  rw [hc0]; rfl
 have hbad : b0 = true → readR 5 s = none := fun h => by rw [hR, if_pos (.inl h)]
 have hbad2 : c0 = false → readR 5 s = none := fun h => by rw [hR, if_pos (.inr h)]
 have hgood : b0 = false → c0 = true → readR 5 s = match zbf 5 s n.toNat [] a0 with
   | none => none
   | some (l, q) => if q = s.length then some ⟨false, l, 0, 0, []⟩ else none := fun h1 h2 => by
  rw [hR, if_neg (by rintro (h | h); rw [h1] at h; cases h; rw [h2] at h; cases h)]
 have hn64 : c0 = true → 0 ≤ n ∧ n ≤ 64 := fun h => zbe.1 (hc0.trans h)
 clear hR e1 hc0
 refine fo_of hΘ Tryz.func31 rfl (by decide) _ _ rfl rfl rfl ?_;conv=>whnf
 refine usePu hw rfl ⟨rfl, rfl, rfl, trivial⟩ rfl ?_;conv=>whnf
 refine br (fun g => absurd (by simpa using g) hne) (fun _ => ?_);conv=>whnf
 refine br (fun g => absurd g (by decide)) (fun _ => ?_);conv=>whnf
 refine use m1 [(1, 2)] rfl ⟨rfl, trivial⟩ rfl ⟨zan _ _ _, trivial⟩ (by simp [SV.below, SA.below]) ⟨rfl, trivial⟩ ?_
 rintro out0 F1 h0 n0 hle ⟨rfl, rfl, rfl, rfl⟩;conv=>whnf
 rcases b0 with _ | _
 case true =>
  have e := hbad rfl
  conv=>whnf
  exact zbj e rfl (Fz.le_refl F)
 conv=>whnf
 refine usePu w1 rfl ⟨rfl, rfl, rfl, trivial⟩ rfl ?_
 rcases c0 with _ | _
 ·have e := hbad2 rfl
  conv=>whnf
  exact zbj e rfl (Fz.le_refl F)
 have hn0 := hn64 rfl
 have hg := hgood rfl rfl
 clear hbad hbad2 hgood hn64
 have hnN : ((n.toNat : Nat) : Int) = n := Int.toNat_of_nonneg hn0.1
 conv=>whnf
 refine za0 hΘ (X := { y : Nat × List RLn × Nat × Int // (y.1 : Int) ≤ n ∧ y.2.1.length = y.1 ∧ zbf 5 s n.toNat [] a0 = zbf 5 s (n.toNat - y.1) y.2.1 y.2.2.2 ∧ i64 y.2.2.2 ∧ y.2.1.length ≤ y.2.2.1 }) (fun y => [(10, .va (.int .i64 y.1.1))]) [5, 11, 12, 13, 131, 132, 133, 134, 135, 136, 137, 138, 139, 140, 141, 142, 143, 144, 145, 146, 147, 148, 149, 150, 151, 152, 153, 154, 155, 156, 157, 158, 159, 160, 161, 162, 163, 164, 165, 166, 167, 168, 169, 170, 171, 172]
  (fun y => [(0, .frz F), (1, rvalE ⟨false, [], 0, 0, []⟩ 0 0), (2, rrd s y.1.2.2.2 false), (3, rvalE ⟨false, y.1.2.1, 0, 0, []⟩ 4 y.1.2.2.1), (4, gE 88 5 encL y.1.2.2.1 y.1.2.1)]) 5 (fun y => n.toNat - y.1.1) ⟨(0, [], 0, a0), ⟨hn0.1, rfl, rfl, i1, Nat.le_refl 0⟩⟩
  (fun hH hT => leI [(4, 4)] hH hT rfl ⟨trivial, zad (by omega) _, zan _ _ _, zad (by omega) _, zac zaa _ _ _ _ _, trivial⟩ ⟨rfl, trivial⟩ ⟨Fz.le_refl F, rfl, rfl, rfl, rfl, trivial⟩) ?_
 rintro ⟨⟨k, L, c, q⟩, hk, hL, hlr, hq, hcp⟩ hH hT
 replace hcp : L.length ≤ c := hcp
 replace hk : (k : Int) ≤ n := hk
 replace hL : L.length = k := hL
 replace hlr : zbf 5 s n.toNat [] a0 = zbf 5 s (n.toNat - k) L q := hlr
 replace hq : i64 q := hq
 rw [hlr] at hg
 by_cases gk : (k : Int) < n
 ·have hsuc : n.toNat - k = (n.toNat - (k + 1)) + 1 := by omega
  have hk1 : ((k + 1 : Nat) : Int) ≤ n := by omega
  have hdec : n.toNat - (k + 1) < n.toNat - k := by omega
  have hk62 : k < 4611686018427387904 := by omega
  have hlt : L.length < 1000000 := by omega
  have iq0 := hq
  have hs0 := zbh F s q false hs iq0
  have hp0 := zbo (b := false) hs iq0
  have he0 : ∃ x a b, rdNum s q false = (x, a, b) := ⟨_, _, _, rfl⟩
  obtain ⟨n0, q1, b1, he0⟩ := he0
  rw [he0] at hs0 hp0
  have iq1 : i64 q1 := hp0
  have hs1 := zbh F s q1 b1 hs iq1
  have hp1 := zbo (b := b1) hs iq1
  have he1 : ∃ x a b, rdNum s q1 b1 = (x, a, b) := ⟨_, _, _, rfl⟩
  obtain ⟨n1, q2, b2, he1⟩ := he1
  rw [he1] at hs1 hp1
  have iq2 : i64 q2 := hp1
  have hs2 := zbh F s q2 b2 hs iq2
  have hp2 := zbo (b := b2) hs iq2
  have he2 : ∃ x a b, rdNum s q2 b2 = (x, a, b) := ⟨_, _, _, rfl⟩
  obtain ⟨n2, q', b', he2⟩ := he2
  rw [he2] at hs2 hp2
  have hrd : rdL 5 s q = (([], n0, n1, n2, 0), q', b') := by rw [rdL, if_neg (by decide), if_neg (by decide), if_neg (by decide), he0]; dsimp only; rw [he1]; dsimp only; rw [he2]
  have hqq : i64 q' := hp2
  clear he0 he1 he2
  rw [hsuc, zbf, hrd] at hg hlr
  dsimp only at hg hlr
  have hno1 : b' = true → readR 5 s = none := fun h => by rw [hg, if_pos (.inl h)]
  have hno2 : fitsR 5 L ([], n0, n1, n2, 0) = false → readR 5 s = none := fun h => by rw [hg, if_pos (.inr h)]
  have hgo : b' = false → fitsR 5 L ([], n0, n1, n2, 0) = true → zbf 5 s n.toNat [] a0 = zbf 5 s (n.toNat - (k + 1)) (L ++ [([], n0, n1, n2, 0)]) q' := fun h1 h2 => by
   rw [hlr, if_neg (by rintro (h | h); rw [h1] at h; cases h; rw [h2] at h; cases h)]
  clear hg hlr hrd
  have hL1 : (L ++ [([], n0, n1, n2, 0)]).length = k + 1 := by rw [List.length_append, List.length_singleton, hL]
  rcases L with _ | ⟨l0, lr⟩
  ·have hf := zcr F 5 [] c ([], n0, n1, n2, 0) (by show 0 < 1000000; omega) hlt (by decide)
   conv=>whnf
   refine br (fun _ => ?_) (fun g => absurd gk (of_decide_eq_false g));conv=>whnf
   refine br (fun g => absurd g (by decide)) (fun _ => ?_);conv=>whnf
   refine zb4 hΘ 3 ?_;conv=>whnf
   refine usePu hcol rfl ⟨rfl, trivial⟩ rfl ?_;conv=>whnf
   refine br (fun _ => ?_) (fun g => absurd g (by decide));conv=>whnf
   refine use hs0 [(1, 2)] rfl ⟨rfl, trivial⟩ rfl ⟨zan _ _ _, trivial⟩ (by simp [SV.below, SA.below]) ⟨rfl, trivial⟩ ?_
   rintro out0 F1 h0 n0 hle ⟨rfl, rfl, rfl, rfl⟩;conv=>whnf
   refine ⟨by decide, ?_⟩;conv=>whnf
   refine sr_go hΘ ?_;conv=>whnf
   refine usePu hcol rfl ⟨rfl, trivial⟩ rfl ?_;conv=>whnf
   refine br (fun _ => ?_) (fun g => absurd g (by decide));conv=>whnf
   refine use hs1 [(1, 2)] rfl ⟨rfl, trivial⟩ rfl ⟨zan _ _ _, trivial⟩ (by simp [SV.below, SA.below]) ⟨rfl, trivial⟩ ?_
   rintro out0 F1 h0 n0 hle ⟨rfl, rfl, rfl, rfl⟩;conv=>whnf
   refine ⟨by decide, ?_⟩;conv=>whnf
   refine sr_go hΘ ?_;conv=>whnf
   refine usePu hcol rfl ⟨rfl, trivial⟩ rfl ?_;conv=>whnf
   refine br (fun _ => ?_) (fun g => absurd g (by decide));conv=>whnf
   refine use hs2 [(1, 2)] rfl ⟨rfl, trivial⟩ rfl ⟨zan _ _ _, trivial⟩ (by simp [SV.below, SA.below]) ⟨rfl, trivial⟩ ?_
   rintro out0 F1 h0 n0 hle ⟨rfl, rfl, rfl, rfl⟩;conv=>whnf
   refine ⟨by decide, ?_⟩;conv=>whnf
   refine sr_go hΘ ?_;conv=>whnf
   refine usePu hcol rfl ⟨rfl, trivial⟩ rfl ?_;conv=>whnf
   refine br (fun g => absurd g (by decide)) (fun _ => ?_);conv=>whnf
   refine use hf [(1, 4)] rfl ⟨rfl, rfl, rfl, trivial⟩ rfl ⟨zac zaa _ _ _ _ _, trivial⟩ (by simp [SV.below, SA.below, gA, encL]) ⟨zas zaa (zao _ _ _ _), trivial⟩ ?_
   rintro out0 F1 h0 n0 hle ⟨rfl, rfl, rfl, rfl⟩
   rcases b' with _ | _
   ·conv=>whnf
    refine br (fun g => ?_) (fun g => ?_)
    ·have e := hno2 (by simpa using g)
     conv=>whnf
     exact zbj e rfl (Fz.le_refl F)
    ·have hgo' := hgo rfl (by simpa using g)
     clear g;conv=>whnf
     refine ⟨Nat.le_of_ble_eq_true rfl, [encL ([], n0, n1, n2, 0)], rfl, ?_⟩;conv=>whnf
     refine ⟨rfl, rfl, ?_⟩;conv=>whnf
     refine ⟨by show 1 * 48 ≤ 140737488355328; omega, fun c' hc => ?_⟩;conv=>whnf
     exact ⟨⟨(k + 1, ([]) ++ [([], n0, n1, n2, 0)], c', q'), hk1, hL1, hgo', hqq, Nat.le_trans (Nat.le_of_eq (by simp)) hc⟩, hdec, leR [(4, 7)] hH hT rfl ⟨trivial, zad (by omega) _, zan _ _ _, zad (by omega) _, zac zaa _ _ _ _ _, trivial⟩ ⟨cnt hk62, trivial⟩ ⟨Fz.le_refl F, rfl, rfl, zci (μ := sig [(4, 7)]) rfl rfl, zas zaa (zc3 _ (by simp)), trivial⟩⟩
   ·have e := hno1 rfl
    conv=>whnf
    exact zbj e rfl (Fz.le_refl F)
  ·have hsz : (lr.length + 1 + 1) * 48 ≤ 140737488355328 := by
    have h9 : lr.length + 1 < 1000000 := hlt
    omega
   have hf := zcr F 5 (l0 :: lr) c ([], n0, n1, n2, 0) (by show 0 < 1000000; omega) hlt (by decide)
   conv=>whnf
   refine br (fun _ => ?_) (fun g => absurd gk (of_decide_eq_false g));conv=>whnf
   refine br (fun g => absurd g (by decide)) (fun _ => ?_);conv=>whnf
   refine zb4 hΘ 3 ?_;conv=>whnf
   refine usePu hcol rfl ⟨rfl, trivial⟩ rfl ?_;conv=>whnf
   refine br (fun _ => ?_) (fun g => absurd g (by decide));conv=>whnf
   refine use hs0 [(1, 2)] rfl ⟨rfl, trivial⟩ rfl ⟨zan _ _ _, trivial⟩ (by simp [SV.below, SA.below]) ⟨rfl, trivial⟩ ?_
   rintro out0 F1 h0 n0 hle ⟨rfl, rfl, rfl, rfl⟩;conv=>whnf
   refine ⟨by decide, ?_⟩;conv=>whnf
   refine sr_go hΘ ?_;conv=>whnf
   refine usePu hcol rfl ⟨rfl, trivial⟩ rfl ?_;conv=>whnf
   refine br (fun _ => ?_) (fun g => absurd g (by decide));conv=>whnf
   refine use hs1 [(1, 2)] rfl ⟨rfl, trivial⟩ rfl ⟨zan _ _ _, trivial⟩ (by simp [SV.below, SA.below]) ⟨rfl, trivial⟩ ?_
   rintro out0 F1 h0 n0 hle ⟨rfl, rfl, rfl, rfl⟩;conv=>whnf
   refine ⟨by decide, ?_⟩;conv=>whnf
   refine sr_go hΘ ?_;conv=>whnf
   refine usePu hcol rfl ⟨rfl, trivial⟩ rfl ?_;conv=>whnf
   refine br (fun _ => ?_) (fun g => absurd g (by decide));conv=>whnf
   refine use hs2 [(1, 2)] rfl ⟨rfl, trivial⟩ rfl ⟨zan _ _ _, trivial⟩ (by simp [SV.below, SA.below]) ⟨rfl, trivial⟩ ?_
   rintro out0 F1 h0 n0 hle ⟨rfl, rfl, rfl, rfl⟩;conv=>whnf
   refine ⟨by decide, ?_⟩;conv=>whnf
   refine sr_go hΘ ?_;conv=>whnf
   refine usePu hcol rfl ⟨rfl, trivial⟩ rfl ?_;conv=>whnf
   refine br (fun g => absurd g (by decide)) (fun _ => ?_);conv=>whnf
   refine use hf [(1, 4)] rfl ⟨rfl, ⟨rfl, rfl, rfl, .inr ⟨rfl, rfl, rfl, rfl⟩⟩, rfl, trivial⟩ rfl ⟨zac zaa _ _ _ _ _, trivial⟩ (by simp [SV.below, SA.below, gA, encL]) ⟨zas zaa (zao _ _ _ _), trivial⟩ ?_
   rintro out0 F1 h0 n0 hle ⟨rfl, rfl, rfl, rfl⟩
   rcases b' with _ | _
   ·conv=>whnf
    refine br (fun g => ?_) (fun g => ?_)
    ·have e := hno2 (by simpa using g)
     conv=>whnf
     exact zbj e rfl (Fz.le_refl F)
    ·have hgo' := hgo rfl (by simpa using g)
     clear g;conv=>whnf
     refine ⟨Nat.le_of_ble_eq_true rfl, [encL ([], n0, n1, n2, 0)], rfl, ?_⟩;conv=>whnf
     refine ⟨rfl, rfl, by simp, rfl, hsz, fun c' hc => ?_⟩;conv=>whnf
     exact ⟨⟨(k + 1, (l0 :: lr) ++ [([], n0, n1, n2, 0)], c', q'), hk1, hL1, hgo', hqq, Nat.le_trans (Nat.le_of_eq (by simp)) hc⟩, hdec, leR [(4, 7)] hH hT rfl ⟨trivial, zad (by omega) _, zan _ _ _, zad (by omega) _, zac zaa _ _ _ _ _, trivial⟩ ⟨cnt hk62, trivial⟩ ⟨Fz.le_refl F, rfl, rfl, zci (μ := sig [(4, 7)]) rfl rfl, zea zaa (l := l0 :: lr) rfl, trivial⟩⟩
   ·have e := hno1 rfl
    conv=>whnf
    exact zbj e rfl (Fz.le_refl F)
 ·have hk0 : n.toNat - k = 0 := by omega
  rw [hk0] at hg
  have hv : (decide (q = (s.length : Int)) = true ∧ readR 5 s = some ⟨false, L, 0, 0, []⟩) ∨ (decide (q = (s.length : Int)) = false ∧ readR 5 s = none) := by
   have hg2 : readR 5 s = if q = (s.length : Int) then some ⟨false, L, 0, 0, []⟩ else none := hg
   by_cases hql : q = (s.length : Int)
   ·rw [if_pos hql] at hg2; exact .inl ⟨decide_eq_true hql, hg2⟩
   ·rw [if_neg hql] at hg2; exact .inr ⟨decide_eq_false hql, hg2⟩
  clear hg hlr
  rcases L with _ | ⟨l0, lr⟩
  ·conv=>whnf
   refine br (fun g => absurd (of_decide_eq_true g) gk) (fun _ => ?_);conv=>whnf
   refine drawP hΘ mixed (.look 0 (.look 1 (.look 2 (.look 3 (.look 4 (.look 5 (.look 6 (.look 7 (.alt 8 (.look 9 .done) .nil))))))))) [2, 3] (by kernel_rfl) ?_;conv=>whnf
   refine ⟨rfl, ?_⟩;conv=>whnf
   refine ⟨rfl, ?_⟩;conv=>whnf
   refine ⟨Fz.le_refl F, rfl, rfl, ?_⟩;conv=>whnf
   exact zbr hv rfl (Fz.le_refl F)
  ·conv=>whnf
   refine br (fun g => absurd (of_decide_eq_true g) gk) (fun _ => ?_);conv=>whnf
   refine drawP hΘ mixed (.look 0 (.look 1 (.look 2 (.look 3 (.look 4 (.look 5 (.look 6 (.look 7 (.alt 8 (.look 9 .done) .nil))))))))) [2, 3] (by kernel_rfl) ?_;conv=>whnf
   refine ⟨rfl, ?_⟩;conv=>whnf
   refine ⟨rfl, ?_⟩;conv=>whnf
   refine ⟨Fz.le_refl F, rfl, rfl, ?_⟩;conv=>whnf
   refine zcd 4 (fun _ => .arr 88 5 ((l0 :: lr).map encL) c) rfl rfl rfl (fun _ _ => by exact zhx zaa rfl _ _ _ _) (fun _ _ => zdm zaa _ _ _ _ _) ?_
   intro b F' hle hb
   exact endFo (.ret (.tup [.agg (rvS ⟨false, l0 :: lr, 0, 0, []⟩ (.slice false 0 (b 0) 0 5 (lr.length + 1) c)), .va (.bool (decide (q = (s.length : Int))))])) F' rfl hle (Fz.le_refl F') ⟨_, _, _, rfl, Its.new (l := l0 :: lr) (hb 0 ⟨rfl, rfl⟩), hv, hcp⟩ ⟨rfl, rfl, trivial⟩ rfl
theorem zkf (F : Fz) (p : Int) (s : List UInt8) (hs : s.length ≤ 1000000000000000000) : Fo Tryz.prog F 31 [.va (.int .i64 p), .va (.str s)] (zd4 p s) := by
 by_cases hp : 1 ≤ p ∧ p ≤ 8
 case neg => exact zmw F s p hp
 by_cases hne : s = []
 ·subst hne
  exact zji F p hp
 rcases p8 hp with rfl | rfl | rfl | rfl | rfl | rfl | rfl | rfl
 ·exact zou F s hs hne
 ·exact zot F s hs hne
 ·exact zof F s hs hne
 ·exact zop F s hs hne
 ·exact zoe F s hs hne
 ·exact zqf F s hs hne
 ·exact zpy F s hs hne
 ·exact zo9 F s hs hne
end Go.Proofs.YtblllibdahkgfaaGreatDoor
