import Derived.Test.YtblllibdahkgfaaGreatDoorK10

namespace Go.Proofs.YtblllibdahkgfaaGreatDoor
open Go Sx
set_option maxRecDepth 100000
def idx (v : Int) : List Int → Nat → Int
 | [], _ => -1
 | x :: r, n => if v = x then n else idx v r (n + 1)
theorem zuw (v : Int) (l : List Int) (k : Nat) (h : k < l.length) : idx v (l.drop k) k = if v = l[k] then (k : Int) else idx v (l.drop (k + 1)) (k + 1) := by
 rw [List.drop_eq_getElem_cons h]; rfl
theorem ztj (F : Fz) (sa : SA) (l : List Int) (v : Int) (ha : zel F sa l) (hl : l.length < 1000000) :
  Fo Tryz.prog F 74 [.va sa, .va (.int .i64 v)] (fun o F' => o = .ret (.va (.int .i64 (idx v l 0))) ∧ F' = F) := by
 obtain ⟨nil, ba, ea, ca, La, ra, rfl, ha1, ha2, ha3, ha4⟩ := ha
 have fin : ∀ (x : Int) (h : Hp) (nx : Nat), x = idx v l 0 → lget h 0 = some (.frz F) →
   Cln 1 (FoK F fun o F' => o = .ret (.va (.int .i64 (idx v l 0))) ∧ F' = F) (.ret (.va (.int .i64 x))) h nx := by
  intro x h nx hv h0
  exact endPu h0 (Fz.le_refl F) (by rw [hv]; rfl) rfl
 refine fo_of hΘ Tryz.func74 rfl (by decide) _ _ rfl rfl rfl ?_;conv=>whnf
 refine zau hΘ (X := { k : Nat // k ≤ l.length ∧ idx v l 0 = idx v (l.drop k) k }) (fun k => [(8, .va (.int .i64 k.1))]) [5, 9, 10, 11, 12, 13, 14, 15, 16, 17, 18] (fz fun _ => F) 1 (fun k => l.length - k.1) ⟨0, by simp⟩
  (fun hH hT => le0 hH hT rfl (Fz.le_refl F) rfl ⟨rfl, trivial⟩) ?_
 rintro ⟨k, hk, hp⟩ hH hT;conv=>whnf
 refine br (fun g => ?_) (fun g => ?_)
 ·have g : k < l.length := by simpa using g
  conv=>whnf
  refine ⟨Sl.lt ha1 g, ⟨by simp, by simpa using g⟩, ?_⟩;conv=>whnf
  refine ⟨_, ha2 (Sl.lt ha1 g), ?_⟩;conv=>whnf
  refine ⟨_, Sl.at ha4 g, ?_⟩;conv=>whnf
  rw [zuw v l k g] at hp
  refine br (fun g2 => ?_) (fun g2 => ?_)
  ·conv=>whnf
   refine fin _ _ _ ?_ rfl
   have g2 : v = l[k] := by simpa using g2
   exact (hp.trans (if_pos g2)).symm
  ·conv=>whnf
   have g2 : ¬ v = l[k] := by simpa using g2
   rw [if_neg g2] at hp
   exact ⟨⟨k + 1, by omega, hp⟩, by show l.length - (k + 1) < l.length - k; omega, lr0 hH hT rfl (Fz.le_refl F) rfl ⟨cnt (by omega), trivial⟩⟩
 ·conv=>whnf
  refine fin _ _ _ ?_ rfl
  have g : ¬ k < l.length := by simpa using g
  rw [List.drop_of_length_le (by omega)] at hp; exact hp.symm
theorem Sl.z {α : Type} {F : Fz} {t sz : Nat} {enc : α → List SA} {a : SA} {l : List α} (h : Sl F t sz enc a l) : a.z = true := by
 obtain ⟨nil, b, e, cap, L, room, rfl, _⟩ := h; rfl
theorem zdj (F : Fz) (sa : SA) (l : List Int) (v : Int) (ha : zel F sa l) (hl : l.length < 1000000) :
  Fo Tryz.prog F 44 [.va sa, .va (.int .i64 v)] (fun o F' => o = .ret (.va (.bool (decide (0 ≤ idx v l 0)))) ∧ F' = F) := by
 have h := ztj F sa l v ha hl
 obtain ⟨nil, ba, ea, ca, La, ra, rfl, ha1, ha2, ha3, ha4⟩ := ha
 refine fo_of hΘ Tryz.func44 rfl (by decide) _ _ rfl rfl rfl ?_;conv=>whnf
 refine usePu h rfl ⟨⟨rfl, rfl, rfl, .inr ⟨rfl, rfl, rfl, rfl⟩⟩, rfl, trivial⟩ rfl ?_;conv=>whnf
 exact endPu rfl (Fz.le_refl F) rfl rfl
end Go.Proofs.YtblllibdahkgfaaGreatDoor

namespace Go.Proofs.YtblllibdahkgfaaGreatDoor
open Go Sx
set_option maxRecDepth 100000
theorem zep (a : SA) : atomE a a := by
  cases a <;> simp [atomE]
theorem zd4 : ∀ l : List SC, tupE l l
  | [] => trivial
  | .va a :: r => ⟨zep a, zd4 r⟩
  | .agg _ :: r => ⟨rfl, zd4 r⟩
theorem zhh (v : SV) : svE v v := by
  cases v with
  | va a => exact zep a
  | agg l => rfl
  | tup l => exact zd4 l
  | junk => rfl
theorem zaf : ∀ l : List SV, argsE l l
  | [] => trivial
  | v :: r => ⟨zhh v, zaf r⟩
theorem zar (o : Out) : outE o o := by
  cases o with
  | ret v => exact zhh v
  | panic v => rfl
theorem ob {a b : Bool} (h : a = b) : outE (.ret (.va (.bool a))) (.ret (.va (.bool b))) := by rw [h]; exact zar _
theorem oi {k : IntKind} {a b : Int} (h : a = b) : outE (.ret (.va (.int k a))) (.ret (.va (.int k b))) := by rw [h]; exact zar _
theorem useP {P : Program} {F : Fz} {f : FuncId} {args0 args : List SV} {v : SV} {H : Hp} {NX : Nat} {K : Out → Hp → Nat → Prop} (hc : Pu P f args0 v) (hF : lget H 0 = some (.frz F)) (hargs : argsE args0 (zd5 (resP H) args)) (hb : (args0.all SV.z) = true)
    (hk : K (.ret v) (lput H 0 (.frz F)) NX) : zcb P f args H NX K := usePu (hc F) hF hargs hb hk
theorem zda (n lo hi : Int) : Pu Tryz.prog 41 [.va (.int .i64 n), .va (.int .i64 lo), .va (.int .i64 hi)] (.va (.bool (decide (lo ≤ n) && decide (n ≤ hi)))) := by
  intro F
  refine fo_of hΘ Tryz.func41 rfl (by decide) _ _ rfl rfl rfl ?_;conv=>whnf
  refine ⟨fun g => ?_, fun g => ?_⟩
  · conv=>whnf
    refine endPu rfl (Fz.le_refl F) (ob ?_) rfl
    rw [g, Bool.true_and]
  · conv=>whnf
    refine endPu rfl (Fz.le_refl F) (ob ?_) rfl
    rw [g, Bool.false_and]
theorem zj9 (n : Int) : Pu Tryz.prog 63 [.va (.int .i64 n)] (.va (.bool (decide (n = 0)))) := by
  intro F
  refine fo_of hΘ Tryz.func63 rfl (by decide) _ _ rfl rfl rfl ?_;conv=>whnf
  exact endPu rfl (Fz.le_refl F) rfl rfl
theorem zs1 (n : Int) : Pu Tryz.prog 67 [.va (.int .i64 n)] (.va (.bool (decide (n = 10) || decide (n = 100) || decide (n = 1000)))) := by
  intro F
  refine fo_of hΘ Tryz.func67 rfl (by decide) _ _ rfl rfl rfl ?_;conv=>whnf
  refine ⟨fun g => ?_, fun g => ?_⟩
  · conv=>whnf
    refine ⟨fun g2 => ?_, fun g2 => ?_⟩
    · conv=>whnf
      refine endPu rfl (Fz.le_refl F) (ob ?_) rfl
      rw [g, g2, Bool.false_or, Bool.false_or]
    · conv=>whnf
      refine endPu rfl (Fz.le_refl F) (ob ?_) rfl
      rw [g, g2]; rfl
  · conv=>whnf
    refine endPu rfl (Fz.le_refl F) (ob ?_) rfl
    rw [g]; rfl
theorem zqa (n : Int) : Pu Tryz.prog 69 [.va (.int .i64 n)] (.va (.bool (decide (0 ≤ n) && decide (n ≤ 6)))) := by
  intro F
  refine fo_of hΘ Tryz.func69 rfl (by decide) _ _ rfl rfl rfl ?_;conv=>whnf
  refine usePu (zda n 0 6 F) rfl (zaf _) rfl ?_;conv=>whnf
  exact endPu rfl (Fz.le_refl F) rfl rfl
abbrev fp (b : Nat) : Pl := ⟨0, b, 0, 0, 0⟩
theorem zj0 (F : Fz) (g : Nat) : Fo Tryz.prog F 64 [.va (.fn (.func g) [])] (fun o F' => ∃ b, o = .ret (.va (.fn (.func 93) [fp b])) ∧ F' b = some (.cells 110 [.fn (.func g) []])) := by
  refine fo_of hΘ Tryz.func64 rfl (by decide) _ _ rfl rfl rfl ?_;conv=>whnf
  refine zb8 1 (fun _ => .cells 110 [.fn (.func g) []]) rfl rfl rfl (fun _ _ => rfl) (fun _ _ => SB.bB_ok rfl) ?_
  intro b F' hle hb
  exact endFo (.ret (.va (.fn (.func 93) [fp (b 0)]))) F' rfl hle (Fz.le_refl F') ⟨b 0, rfl, hb 0 rfl⟩ rfl rfl
def zdy (b : Nat → Nat) : List SA :=
  [.nilsl, .nilfn, .nilfn,
   .slice false 0 (b 0) 0 1 1 1, .fn (.func 63) [], .fn (.func 93) [fp (b 6)],
   .slice false 0 (b 1) 0 1 1 1, .fn (.func 63) [], .fn (.func 93) [fp (b 7)],
   .slice false 0 (b 2) 0 1 2 2, .fn (.func 67) [], .fn (.func 93) [fp (b 8)],
   .slice false 0 (b 3) 0 1 1 1, .fn (.func 69) [], .fn (.func 93) [fp (b 9)],
   .slice false 0 (b 4) 0 1 2 2, .fn (.func 63) [], .fn (.func 71) [],
   .slice false 0 (b 5) 0 1 8 8, .fn (.func 63) [], .fn (.func 72) []]
def eI (l : List Int) : SB := .arr 3 1 (l.map encI) l.length
def eF (g : Nat) : SB := .cells 110 [.fn (.func g) []]
structure KindsAt (F : Fz) (b : Nat → Nat) : Prop where
  h0 : F (b 0) = some (eI [1])
  h1 : F (b 1) = some (eI [1])
  h2 : F (b 2) = some (eI [3, 5])
  h3 : F (b 3) = some (eI [2])
  h4 : F (b 4) = some (eI [6, 7])
  h5 : F (b 5) = some (eI [1, 2, 3, 4, 5, 6, 7, 8])
  h6 : F (b 6) = some (eF 65)
  h7 : F (b 7) = some (eF 66)
  h8 : F (b 8) = some (eF 68)
  h9 : F (b 9) = some (eF 70)
theorem KindsAt.mono {F F' : Fz} {b : Nat → Nat} (h : KindsAt F b) (hle : Fz.le F F') : KindsAt F' b :=
  ⟨hle _ _ h.h0, hle _ _ h.h1, hle _ _ h.h2, hle _ _ h.h3, hle _ _ h.h4, hle _ _ h.h5, hle _ _ h.h6, hle _ _ h.h7, hle _ _ h.h8, hle _ _ h.h9⟩
set_option maxHeartbeats 1000000 in
theorem znx (F : Fz) : Fo Tryz.prog F 40 [] (fun o F' => ∃ b, o = .ret (.agg (zdy b)) ∧ KindsAt F' b) := by
  refine fo_of hΘ Tryz.func40 rfl (by decide) _ _ rfl rfl rfl ?_;conv=>whnf
  refine useFo (zj0 F 65) rfl (zaf _) rfl ?_
  rintro _ F1 l1 ⟨b6, rfl, h6⟩;conv=>whnf
  refine useFo (zj0 F1 66) rfl (zaf _) rfl ?_
  rintro _ F2 l2 ⟨b7, rfl, h7⟩;conv=>whnf
  refine useFo (zj0 F2 68) rfl (zaf _) rfl ?_
  rintro _ F3 l3 ⟨b8, rfl, h8⟩;conv=>whnf
  refine useFo (zj0 F3 70) rfl (zaf _) rfl ?_
  rintro _ F4 l4 ⟨b9, rfl, h9⟩;conv=>whnf
  refine zb8 2 (fun _ => eI [1]) rfl rfl rfl (fun _ _ => rfl) (fun _ _ => SB.bB_ok rfl) ?_
  intro c0 G0 m0 k0
  refine zb8 3 (fun _ => eI [1]) rfl rfl rfl (fun _ _ => rfl) (fun _ _ => SB.bB_ok rfl) ?_
  intro c1 G1 m1 k1
  refine zb8 4 (fun _ => eI [3, 5]) rfl rfl rfl (fun _ _ => rfl) (fun _ _ => SB.bB_ok rfl) ?_
  intro c2 G2 m2 k2
  refine zb8 5 (fun _ => eI [2]) rfl rfl rfl (fun _ _ => rfl) (fun _ _ => SB.bB_ok rfl) ?_
  intro c3 G3 m3 k3
  refine zb8 6 (fun _ => eI [6, 7]) rfl rfl rfl (fun _ _ => rfl) (fun _ _ => SB.bB_ok rfl) ?_
  intro c4 G4 m4 k4
  refine zb8 7 (fun _ => eI [1, 2, 3, 4, 5, 6, 7, 8]) rfl rfl rfl (fun _ _ => rfl) (fun _ _ => SB.bB_ok rfl) ?_
  intro c5 G5 m5 k5
  refine endFo (.ret (.agg (zdy fun n => match n with | 0 => c0 0 | 1 => c1 0 | 2 => c2 0 | 3 => c3 0 | 4 => c4 0 | 5 => c5 0 | 6 => b6 | 7 => b7 | 8 => b8 | _ => b9))) G5 rfl ?_ (Fz.le_refl _) ⟨_, rfl, ?_⟩ rfl rfl
  · exact fun b B h => m5 _ _ (m4 _ _ (m3 _ _ (m2 _ _ (m1 _ _ (m0 _ _ (l4 _ _ (l3 _ _ (l2 _ _ (l1 _ _ h)))))))))
  · have M1 := m5; have M2 := Fz.le_trans m4 M1; have M3 := Fz.le_trans m3 M2; have M4 := Fz.le_trans m2 M3; have M5 := Fz.le_trans m1 M4; have M6 := Fz.le_trans m0 M5
    have M7 := Fz.le_trans l4 M6; have M8 := Fz.le_trans l3 M7; have M9 := Fz.le_trans l2 M8
    exact ⟨M5 _ _ (k0 0 rfl), M4 _ _ (k1 0 rfl), M3 _ _ (k2 0 rfl), M2 _ _ (k3 0 rfl), M1 _ _ (k4 0 rfl), k5 0 rfl, M9 _ _ h6, M8 _ _ h7, M7 _ _ h8, M6 _ _ h9⟩
end Go.Proofs.YtblllibdahkgfaaGreatDoor

namespace Go.Proofs.YtblllibdahkgfaaGreatDoor
open Go Sx
set_option maxRecDepth 100000
theorem not_t {b : Bool} (h : (!b) = true) : b = false := by cases b <;> simp_all
def props (k : Int) : List Int :=
 if k = 1 then [1] else if k = 2 then [1] else if k = 3 then [3, 5] else if k = 4 then [2] else if k = 5 then [6, 7] else [1, 2, 3, 4, 5, 6, 7, 8]
def numOk (k n : Int) : Bool :=
 if k = 3 then decide (n = 10) || decide (n = 100) || decide (n = 1000) else if k = 4 then decide (0 ≤ n) && decide (n ≤ 6) else decide (n = 0)
def zbn (p : Int) (s : Stp) : Bool := (decide (1 ≤ s.1) && decide (s.1 ≤ 6)) && (decide (0 ≤ idx p (props s.1) 0) && numOk s.1 s.2)
theorem zgt {F : Fz} {b : Nat} (l : List Int) (h : F b = some (eI l)) : zel F (.slice false 0 b 0 1 l.length l.length) l := Sl.new h
set_option maxHeartbeats 2000000 in
theorem zsv (F : Fz) (ba bp : Nat) (b : Nat → Nat) (p k n : Int) (hK : F ba = some (.cells 79 (zdy b))) (hB : KindsAt F b) (hP : F bp = some (.cells 3 [.int .i64 p])) :
  Fo Tryz.prog F 43 [.agg [.int .i64 k, .int .i64 n], .va (.ptr (fp ba)), .va (.ptr (fp bp))] (fun o F' => o = .ret (.va (.bool (!zbn p (k, n)))) ∧ F' = F) := by
 refine fo_of hΘ Tryz.func43 rfl (by decide) _ _ rfl rfl rfl ?_;conv=>whnf
 refine draw hΘ mixed [(0, true), (1, true), (2, false), (3, true), (4, true), (5, true), (6, true), (7, true), (8, true), (9, true), (10, true), (11, false), (12, true), (13, true), (14, true), (15, true), (16, true), (17, true), (18, true), (19, true), (20, true), (21, true), (22, false), (23, true), (24, true), (25, true)] [1] (by kernel_rfl) ?_;conv=>whnf
 refine ⟨rfl, ?_⟩;conv=>whnf
 refine usePu (zda k 1 6 F) rfl (zaf _) rfl ?_;conv=>whnf
 refine ⟨Fz.le_refl F, rfl, ?_⟩;conv=>whnf
 have fin : ∀ (v : Bool) (h : Hp) (nx : Nat), (!zbn p (k, n)) = v → lget h 0 = some (.frz F) → Cln 1 (FoK F fun o F' => o = .ret (.va (.bool (!zbn p (k, n)))) ∧ F' = F) (.ret (.va (.bool v))) h nx := by
  intro v h nx hv h0
  exact endPu h0 (Fz.le_refl F) (ob hv) rfl
 refine ⟨fun g => ?_, fun g => ?_⟩
 ·have g1 : (decide (1 ≤ k) && decide (k ≤ 6)) = true := by simpa using g
  have hk : k = 1 ∨ k = 2 ∨ k = 3 ∨ k = 4 ∨ k = 5 ∨ k = 6 := by simp at g1; omega
  clear g g1
  rcases hk with rfl | rfl | rfl | rfl | rfl | rfl
  ·conv=>whnf
   refine ⟨rfl, ?_⟩;conv=>whnf
   refine ⟨by decide, ?_⟩;conv=>whnf
   refine ⟨rfl, ?_⟩;conv=>whnf
   refine ⟨_, hK, ?_⟩;conv=>whnf
   refine ⟨rfl, ?_⟩;conv=>whnf
   refine ⟨_, hP, ?_⟩;conv=>whnf
   refine usePu (zdj F _ [1] p (zgt _ hB.h0) (by decide)) rfl (zaf _) rfl ?_;conv=>whnf
   refine ⟨Fz.le_refl F, rfl, ?_⟩;conv=>whnf
   refine ⟨fun g => ?_, fun g => ?_⟩
   ·conv=>whnf
    refine ⟨rfl, ?_⟩;conv=>whnf
    refine ⟨by decide, ?_⟩;conv=>whnf
    refine ⟨rfl, ?_⟩;conv=>whnf
    refine ⟨_, hK, ?_⟩;conv=>whnf
    refine ⟨rfl, ?_⟩;conv=>whnf
    refine usePu (zj9 n F) rfl (zaf _) rfl ?_;conv=>whnf
    refine ⟨Fz.le_refl F, rfl, ?_⟩;conv=>whnf
    refine fin _ _ _ ?_ rfl
    have g : decide (0 ≤ idx p [1] 0) = true := by simpa using g
    simp [zbn, props, numOk, g]
   ·conv=>whnf
    refine fin _ _ _ ?_ rfl
    have g : decide (0 ≤ idx p [1] 0) = false := by simpa using g
    simp [zbn, props, g]
  ·conv=>whnf
   refine ⟨rfl, ?_⟩;conv=>whnf
   refine ⟨by decide, ?_⟩;conv=>whnf
   refine ⟨rfl, ?_⟩;conv=>whnf
   refine ⟨_, hK, ?_⟩;conv=>whnf
   refine ⟨rfl, ?_⟩;conv=>whnf
   refine ⟨_, hP, ?_⟩;conv=>whnf
   refine usePu (zdj F _ [1] p (zgt _ hB.h1) (by decide)) rfl (zaf _) rfl ?_;conv=>whnf
   refine ⟨Fz.le_refl F, rfl, ?_⟩;conv=>whnf
   refine ⟨fun g => ?_, fun g => ?_⟩
   ·conv=>whnf
    refine ⟨rfl, ?_⟩;conv=>whnf
    refine ⟨by decide, ?_⟩;conv=>whnf
    refine ⟨rfl, ?_⟩;conv=>whnf
    refine ⟨_, hK, ?_⟩;conv=>whnf
    refine ⟨rfl, ?_⟩;conv=>whnf
    refine usePu (zj9 n F) rfl (zaf _) rfl ?_;conv=>whnf
    refine ⟨Fz.le_refl F, rfl, ?_⟩;conv=>whnf
    refine fin _ _ _ ?_ rfl
    have g : decide (0 ≤ idx p [1] 0) = true := by simpa using g
    simp [zbn, props, numOk, g]
   ·conv=>whnf
    refine fin _ _ _ ?_ rfl
    have g : decide (0 ≤ idx p [1] 0) = false := by simpa using g
    simp [zbn, props, g]
  ·conv=>whnf
   refine ⟨rfl, ?_⟩;conv=>whnf
   refine ⟨by decide, ?_⟩;conv=>whnf
   refine ⟨rfl, ?_⟩;conv=>whnf
   refine ⟨_, hK, ?_⟩;conv=>whnf
   refine ⟨rfl, ?_⟩;conv=>whnf
   refine ⟨_, hP, ?_⟩;conv=>whnf
   refine usePu (zdj F _ [3, 5] p (zgt _ hB.h2) (by decide)) rfl (zaf _) rfl ?_;conv=>whnf
   refine ⟨Fz.le_refl F, rfl, ?_⟩;conv=>whnf
   refine ⟨fun g => ?_, fun g => ?_⟩
   ·conv=>whnf
    refine ⟨rfl, ?_⟩;conv=>whnf
    refine ⟨by decide, ?_⟩;conv=>whnf
    refine ⟨rfl, ?_⟩;conv=>whnf
    refine ⟨_, hK, ?_⟩;conv=>whnf
    refine ⟨rfl, ?_⟩;conv=>whnf
    refine usePu (zs1 n F) rfl (zaf _) rfl ?_;conv=>whnf
    refine ⟨Fz.le_refl F, rfl, ?_⟩;conv=>whnf
    refine fin _ _ _ ?_ rfl
    have g : decide (0 ≤ idx p [3, 5] 0) = true := by simpa using g
    simp [zbn, props, numOk, g]
   ·conv=>whnf
    refine fin _ _ _ ?_ rfl
    have g : decide (0 ≤ idx p [3, 5] 0) = false := by simpa using g
    simp [zbn, props, g]
  ·conv=>whnf
   refine ⟨rfl, ?_⟩;conv=>whnf
   refine ⟨by decide, ?_⟩;conv=>whnf
   refine ⟨rfl, ?_⟩;conv=>whnf
   refine ⟨_, hK, ?_⟩;conv=>whnf
   refine ⟨rfl, ?_⟩;conv=>whnf
   refine ⟨_, hP, ?_⟩;conv=>whnf
   refine usePu (zdj F _ [2] p (zgt _ hB.h3) (by decide)) rfl (zaf _) rfl ?_;conv=>whnf
   refine ⟨Fz.le_refl F, rfl, ?_⟩;conv=>whnf
   refine ⟨fun g => ?_, fun g => ?_⟩
   ·conv=>whnf
    refine ⟨rfl, ?_⟩;conv=>whnf
    refine ⟨by decide, ?_⟩;conv=>whnf
    refine ⟨rfl, ?_⟩;conv=>whnf
    refine ⟨_, hK, ?_⟩;conv=>whnf
    refine ⟨rfl, ?_⟩;conv=>whnf
    refine usePu (zqa n F) rfl (zaf _) rfl ?_;conv=>whnf
    refine ⟨Fz.le_refl F, rfl, ?_⟩;conv=>whnf
    refine fin _ _ _ ?_ rfl
    have g : decide (0 ≤ idx p [2] 0) = true := by simpa using g
    simp [zbn, props, numOk, g]
   ·conv=>whnf
    refine fin _ _ _ ?_ rfl
    have g : decide (0 ≤ idx p [2] 0) = false := by simpa using g
    simp [zbn, props, g]
  ·conv=>whnf
   refine ⟨rfl, ?_⟩;conv=>whnf
   refine ⟨by decide, ?_⟩;conv=>whnf
   refine ⟨rfl, ?_⟩;conv=>whnf
   refine ⟨_, hK, ?_⟩;conv=>whnf
   refine ⟨rfl, ?_⟩;conv=>whnf
   refine ⟨_, hP, ?_⟩;conv=>whnf
   refine usePu (zdj F _ [6, 7] p (zgt _ hB.h4) (by decide)) rfl (zaf _) rfl ?_;conv=>whnf
   refine ⟨Fz.le_refl F, rfl, ?_⟩;conv=>whnf
   refine ⟨fun g => ?_, fun g => ?_⟩
   ·conv=>whnf
    refine ⟨rfl, ?_⟩;conv=>whnf
    refine ⟨by decide, ?_⟩;conv=>whnf
    refine ⟨rfl, ?_⟩;conv=>whnf
    refine ⟨_, hK, ?_⟩;conv=>whnf
    refine ⟨rfl, ?_⟩;conv=>whnf
    refine usePu (zj9 n F) rfl (zaf _) rfl ?_;conv=>whnf
    refine ⟨Fz.le_refl F, rfl, ?_⟩;conv=>whnf
    refine fin _ _ _ ?_ rfl
    have g : decide (0 ≤ idx p [6, 7] 0) = true := by simpa using g
    simp [zbn, props, numOk, g]
   ·conv=>whnf
    refine fin _ _ _ ?_ rfl
    have g : decide (0 ≤ idx p [6, 7] 0) = false := by simpa using g
    simp [zbn, props, g]
  ·conv=>whnf
   refine ⟨rfl, ?_⟩;conv=>whnf
   refine ⟨by decide, ?_⟩;conv=>whnf
   refine ⟨rfl, ?_⟩;conv=>whnf
   refine ⟨_, hK, ?_⟩;conv=>whnf
   refine ⟨rfl, ?_⟩;conv=>whnf
   refine ⟨_, hP, ?_⟩;conv=>whnf
   refine usePu (zdj F _ [1, 2, 3, 4, 5, 6, 7, 8] p (zgt _ hB.h5) (by decide)) rfl (zaf _) rfl ?_;conv=>whnf
   refine ⟨Fz.le_refl F, rfl, ?_⟩;conv=>whnf
   refine ⟨fun g => ?_, fun g => ?_⟩
   ·conv=>whnf
    refine ⟨rfl, ?_⟩;conv=>whnf
    refine ⟨by decide, ?_⟩;conv=>whnf
    refine ⟨rfl, ?_⟩;conv=>whnf
    refine ⟨_, hK, ?_⟩;conv=>whnf
    refine ⟨rfl, ?_⟩;conv=>whnf
    refine usePu (zj9 n F) rfl (zaf _) rfl ?_;conv=>whnf
    refine ⟨Fz.le_refl F, rfl, ?_⟩;conv=>whnf
    refine fin _ _ _ ?_ rfl
    have g : decide (0 ≤ idx p [1, 2, 3, 4, 5, 6, 7, 8] 0) = true := by simpa using g
    simp [zbn, props, numOk, g]
   ·conv=>whnf
    refine fin _ _ _ ?_ rfl
    have g : decide (0 ≤ idx p [1, 2, 3, 4, 5, 6, 7, 8] 0) = false := by simpa using g
    simp [zbn, props, g]
 ·conv=>whnf
  refine fin _ _ _ ?_ rfl
  have g : (decide (1 ≤ k) && decide (k ≤ 6)) = false := not_t g
  simp only [zbn, g, Bool.false_and, Bool.not_false]
end Go.Proofs.YtblllibdahkgfaaGreatDoor

namespace Go.Proofs.YtblllibdahkgfaaGreatDoor
open Go Sx
set_option maxRecDepth 100000
def idxF (p : Int) : List Stp → Nat → Int
 | [], _ => -1
 | x :: r, n => if zbn p x = false then n else idxF p r (n + 1)
theorem zqv (p : Int) (l : List Stp) (k : Nat) (h : k < l.length) : idxF p (l.drop k) k = if zbn p l[k] = false then (k : Int) else idxF p (l.drop (k + 1)) (k + 1) := by
 rw [List.drop_eq_getElem_cons h]; rfl
theorem zoa (p : Int) : ∀ (l : List Stp) (n : Nat), (0 ≤ idxF p l n) ↔ l.all (zbn p) = false
 | [], n => by simp [idxF]
 | x :: r, n => by
  simp only [idxF, List.all_cons]
  split
  ·rename_i h; simp [h]
  ·rename_i h
   have : zbn p x = true := by simpa using h
   rw [zoa p r (n + 1), this]; simp
set_option maxHeartbeats 2000000 in
theorem zl1 (F : Fz) (sa : SA) (l : List Stp) (ba bp : Nat) (b : Nat → Nat) (p : Int) (ha : zaz F sa l) (hl : l.length < 1000000) (hK : F ba = some (.cells 79 (zdy b))) (hB : KindsAt F b) (hP : F bp = some (.cells 3 [.int .i64 p])) :
  Fo Tryz.prog F 73 [.va sa, .va (.fn (.func 43) [fp ba, fp bp])] (fun o F' => o = .ret (.va (.int .i64 (idxF p l 0))) ∧ F' = F) := by
 obtain ⟨nil, ca, ea, cc, La, ra, rfl, ha1, ha2, ha3, ha4⟩ := ha
 have fin : ∀ (x : Int) (h : Hp) (nx : Nat), idxF p l 0 = x → lget h 0 = some (.frz F) →
   Cln 1 (FoK F fun o F' => o = .ret (.va (.int .i64 (idxF p l 0))) ∧ F' = F) (.ret (.va (.int .i64 x))) h nx := by
  intro x h nx hv h0
  exact endPu h0 (Fz.le_refl F) (oi hv) rfl
 refine fo_of hΘ Tryz.func73 rfl (by decide) _ _ rfl rfl rfl ?_;conv=>whnf
 refine zau hΘ (X := { k : Nat // k ≤ l.length ∧ idxF p l 0 = idxF p (l.drop k) k }) (fun k => [(8, .va (.int .i64 k.1))]) [5, 9, 10, 11, 12, 13, 14, 15, 16, 17, 18] (fz fun _ => F) 1 (fun k => l.length - k.1) ⟨0, by simp⟩
  (fun hH hT => le0 hH hT rfl (Fz.le_refl F) rfl ⟨rfl, trivial⟩) ?_
 rintro ⟨k, hk, hp⟩ hH hT;conv=>whnf
 refine br (fun g => ?_) (fun g => ?_)
 ·have g : k < l.length := by simpa using g
  conv=>whnf
  refine ⟨Sl.lt ha1 g, ⟨by simp, by simpa using g⟩, ?_⟩;conv=>whnf
  refine ⟨_, ha2 (Sl.lt ha1 g), ?_⟩;conv=>whnf
  refine ⟨_, Sl.at ha4 g, ?_⟩;conv=>whnf
  refine usePu (zsv F ba bp b p l[k].1 l[k].2 hK hB hP) rfl (zaf _) rfl ?_;conv=>whnf
  rw [zqv p l k g] at hp
  refine br (fun g2 => ?_) (fun g2 => ?_)
  ·conv=>whnf
   have g2 : zbn p l[k] = false := not_t g2
   exact fin _ _ _ (hp.trans (if_pos g2)) rfl
  ·conv=>whnf
   have g2 : ¬ zbn p l[k] = false := by
    intro h; have h' : (!zbn p l[k]) = false := g2; rw [h] at h'; cases h'
   rw [if_neg g2] at hp
   exact ⟨⟨k + 1, by omega, hp⟩, by show l.length - (k + 1) < l.length - k; omega, lr0 hH hT rfl (Fz.le_refl F) rfl ⟨cnt (by omega), trivial⟩⟩
 ·conv=>whnf
  have g : ¬ k < l.length := by simpa using g
  rw [List.drop_of_length_le (by omega)] at hp
  exact fin _ _ _ hp rfl
theorem zhz (F : Fz) (sa : SA) (l : List Stp) (ba bp : Nat) (b : Nat → Nat) (p : Int) (ha : zaz F sa l) (hl : l.length < 1000000) (hK : F ba = some (.cells 79 (zdy b))) (hB : KindsAt F b) (hP : F bp = some (.cells 3 [.int .i64 p])) :
  Fo Tryz.prog F 42 [.va sa, .va (.fn (.func 43) [fp ba, fp bp])] (fun o F' => o = .ret (.va (.bool (!l.all (zbn p)))) ∧ F' = F) := by
 have h := zl1 F sa l ba bp b p ha hl hK hB hP
 obtain ⟨nil, ca, ea, cc, La, ra, rfl, ha1, ha2, ha3, ha4⟩ := ha
 refine fo_of hΘ Tryz.func42 rfl (by decide) _ _ rfl rfl rfl ?_;conv=>whnf
 refine usePu h rfl (zaf _) rfl ?_;conv=>whnf
 refine endPu rfl (Fz.le_refl F) (ob ?_) rfl
 have := zoa p l 0
 cases h : l.all (zbn p) with
 | true => rw [h] at this; simp; have h2 : ¬ (0 ≤ idxF p l 0) := fun h3 => by have := this.1 h3; cases this
           omega
 | false => rw [h] at this; simp; exact this.2 rfl
def zbl (p : Int) (l : List Stp) : Bool := (decide (1 ≤ p) && decide (p ≤ 8)) && (decide (l.length ≤ 64) && l.all (zbn p))
set_option maxHeartbeats 2000000 in
theorem zew (F : Fz) (sa : SA) (l : List Stp) (p : Int) (ha : zaz F sa l) (hl : l.length < 1000000) :
  Fo Tryz.prog F 17 [.va (.int .i64 p), .va sa] (fun o F' => o = .ret (.va (.bool (zbl p l))) ∧ F' = F) := by
 have h := fun F' (hle : Fz.le F F') ba bp b => zhz F' sa l ba bp b p (ha.mono hle) hl
 obtain ⟨nil, ca, ea, cc, La, ra, rfl, ha1, ha2, ha3, ha4⟩ := ha
 have fin : ∀ (F1 : Fz) (x : Bool) (h : Hp) (nx : Nat), zbl p l = x → lget h 0 = some (.frz F1) → Fz.le F F1 →
   Cln 1 (FoK F fun o F' => o = .ret (.va (.bool (zbl p l))) ∧ F' = F) (.ret (.va (.bool x))) h nx := by
  intro F1 x h nx hv h0 hle
  exact endPu h0 hle (ob hv) rfl
 refine fo_of hΘ Tryz.func17 rfl (by decide) _ _ rfl rfl rfl ?_;conv=>whnf
 refine useFo (znx F) rfl (zaf _) rfl ?_
 rintro _ F1 l1 ⟨b, rfl, hB⟩;conv=>whnf
 refine usePu (zda p 1 8 F1) rfl (zaf _) rfl ?_;conv=>whnf
 refine ⟨fun g => ?_, fun g => ?_⟩
 ·conv=>whnf
  refine ⟨fun g2 => ?_, fun g2 => ?_⟩
  ·conv=>whnf
   refine zav 1 (fun _ => .cells 3 [.int .i64 p]) rfl rfl rfl (fun _ _ => rfl) (fun _ _ => SB.bB_ok rfl) ?_
   intro bp F2 l2 hP
   refine zav 2 (fun _ => .cells 79 (zdy b)) rfl rfl rfl (fun _ _ => rfl) (fun _ _ => SB.bB_ok rfl) ?_
   intro ba F3 l3 hK
   refine usePu (h F3 (Fz.le_trans l1 (Fz.le_trans l2 l3)) (ba 0) (bp 0) b (hK 0 rfl) (hB.mono (Fz.le_trans l2 l3)) (l3 _ _ (hP 0 rfl))) rfl (zaf _) rfl ?_;conv=>whnf
   refine fin F3 _ _ _ ?_ rfl (Fz.le_trans l1 (Fz.le_trans l2 l3))
   have g2 : decide (l.length ≤ 64) = true := by simp at g2 ⊢; omega
   simp [zbl, g, g2]
  ·conv=>whnf
   refine fin F1 _ _ _ ?_ rfl l1
   have g2 : decide (l.length ≤ 64) = false := by simp at g2 ⊢; omega
   simp only [zbl, g2, Bool.false_and, Bool.and_false]
 ·conv=>whnf
  refine fin F1 _ _ _ ?_ rfl l1
  simp only [zbl, g, Bool.false_and]
end Go.Proofs.YtblllibdahkgfaaGreatDoor

namespace Go.Proofs.YtblllibdahkgfaaGreatDoor
open Go Sx
set_option maxRecDepth 100000
theorem zfg (n lo hi : Int) : Pu Tryz.prog 45 [.va (.int .i64 n), .va (.int .i64 lo), .va (.int .i64 hi)] (.va (.bool (decide (lo ≤ n) && decide (n ≤ hi)))) := by
 intro F
 refine fo_of hΘ Tryz.func45 rfl (by decide) _ _ rfl rfl rfl ?_;conv=>whnf
 refine ⟨fun g => ?_, fun g => ?_⟩
 ·conv=>whnf
  refine endPu rfl (Fz.le_refl F) (ob ?_) rfl
  simp at g; simp [g]
 ·conv=>whnf
  refine endPu rfl (Fz.le_refl F) (ob ?_) rfl
  simp at g; simp; omega
theorem zoy (p : Int) : Pu Tryz.prog 46 [.va (.int .i64 p)] (.va (.bool (decide (p = 3) || decide (p = 5)))) := by
 intro F
 refine fo_of hΘ Tryz.func46 rfl (by decide) _ _ rfl rfl rfl ?_;conv=>whnf
 refine ⟨fun g => ?_, fun g => ?_⟩
 ·conv=>whnf
  refine endPu rfl (Fz.le_refl F) (ob ?_) rfl
  rw [g, Bool.false_or]
 ·conv=>whnf
  refine endPu rfl (Fz.le_refl F) (ob ?_) rfl
  rw [g, Bool.true_or]
def pickI (c n : Int) : Int := (if c < 0 then -(c + 1) else c).tmod n
def i64 (c : Int) : Prop := -9223372036854775808 ≤ c ∧ c ≤ 9223372036854775807
theorem za1 (c n : Int) (hc : i64 c) (hn : 0 < n) : Pu Tryz.prog 37 [.va (.int .i64 c), .va (.int .i64 n)] (.va (.int .i64 (pickI c n))) := by
 intro F
 unfold i64 at hc
 refine fo_of hΘ Tryz.func37 rfl (by decide) _ _ rfl rfl rfl ?_;conv=>whnf
 refine br (fun g => ?_) (fun g => ?_)
 ·conv=>whnf
  refine ⟨by omega, ?_⟩;conv=>whnf
  refine endPu rfl (Fz.le_refl F) (oi ?_) rfl
  simp at g
  rw [zai (n := c + 1) (by omega) (by omega), zai (n := 0 - (c + 1)) (by omega) (by omega), pickI, if_pos g]
  congr 1; omega
 ·conv=>whnf
  refine ⟨by omega, ?_⟩;conv=>whnf
  refine endPu rfl (Fz.le_refl F) (oi ?_) rfl
  simp at g
  rw [pickI, if_neg (by omega)]
theorem zns (c n : Int) (hc : i64 c) (hn : 0 < n) : Pu Tryz.prog 25 [.va (.int .i64 c), .va (.int .i64 n)] (.va (.int .i64 (pickI c n))) := by
 intro F
 unfold i64 at hc
 refine fo_of hΘ Tryz.func25 rfl (by decide) _ _ rfl rfl rfl ?_;conv=>whnf
 refine br (fun g => ?_) (fun g => ?_)
 ·conv=>whnf
  refine ⟨by omega, ?_⟩;conv=>whnf
  refine endPu rfl (Fz.le_refl F) (oi ?_) rfl
  simp at g
  rw [zai (n := c + 1) (by omega) (by omega), zai (n := 0 - (c + 1)) (by omega) (by omega), pickI, if_pos g]
  congr 1; omega
 ·conv=>whnf
  refine ⟨by omega, ?_⟩;conv=>whnf
  refine endPu rfl (Fz.le_refl F) (oi ?_) rfl
  simp at g
  rw [pickI, if_neg (by omega)]
theorem zhb (c n : Int) (hn : 0 < n) (hc : i64 c) : 0 ≤ pickI c n ∧ pickI c n < n := by
 unfold pickI; unfold i64 at hc
 split
 ·exact ⟨Int.tmod_nonneg _ (by omega), Int.tmod_lt_of_pos _ hn⟩
 ·exact ⟨Int.tmod_nonneg _ (by omega), Int.tmod_lt_of_pos _ hn⟩
theorem zm0 (p : Int) (hc : i64 p) : Pu Tryz.prog 12 [.va (.int .i64 p)] (.va (.int .i64 (1 + pickI p 8))) := by
 intro F
 refine fo_of hΘ Tryz.func12 rfl (by decide) _ _ rfl rfl rfl ?_;conv=>whnf
 refine usePu (zns p 8 hc (by omega) F) rfl (zaf _) rfl ?_;conv=>whnf
 refine endPu rfl (Fz.le_refl F) (oi ?_) rfl
 have := zhb p 8 (by omega) hc
 rw [zai (by omega) (by omega)]
theorem idx1 (p : Int) : decide (0 ≤ idx p [1] 0) = decide (p = 1) := by
 unfold idx; by_cases h : p = 1 <;> simp [h, idx]
theorem idx2 (p : Int) : decide (0 ≤ idx p [2] 0) = decide (p = 2) := by
 unfold idx; by_cases h : p = 2 <;> simp [h, idx]
theorem idx35 (p : Int) : decide (0 ≤ idx p [3, 5] 0) = (decide (p = 3) || decide (p = 5)) := by
 by_cases h : p = 3
 ·simp [idx, h]
 ·by_cases h' : p = 5
  ·simp [idx, h']
  ·simp [idx, h, h']
theorem idx67 (p : Int) : decide (0 ≤ idx p [6, 7] 0) = (decide (p = 6) || decide (p = 7)) := by
 by_cases h : p = 6
 ·simp [idx, h]
 ·by_cases h' : p = 7
  ·simp [idx, h']
  ·simp [idx, h, h']
theorem idx18 (p : Int) (h : 1 ≤ p ∧ p ≤ 8) : decide (0 ≤ idx p [1, 2, 3, 4, 5, 6, 7, 8] 0) = true := by
 have : p = 1 ∨ p = 2 ∨ p = 3 ∨ p = 4 ∨ p = 5 ∨ p = 6 ∨ p = 7 ∨ p = 8 := by omega
 rcases this with rfl | rfl | rfl | rfl | rfl | rfl | rfl | rfl <;> decide
theorem zzo {α : Type} (f : α → Bool) (l : List α) (k : Nat) (g : k < l.length) (h : f l[k] = false) : l.all f = false :=
 List.all_eq_false.2 ⟨l[k], List.getElem_mem g, by simp [h]⟩
theorem zxx {α : Type} (f : α → Bool) (l : List α) (k : Nat) (g : k < l.length) (hp : (l.take k).all f = true) (h : f l[k] = true) : (l.take (k + 1)).all f = true := by
 rw [List.take_succ_eq_append_getElem g, List.all_append, hp]; simp [h]
set_option maxHeartbeats 4000000 in
theorem zqc (F : Fz) (sa : SA) (l : List Stp) (p : Int) (ha : zaz F sa l) (hl : l.length < 1000000) :
  Fo Tryz.prog F 18 [.va (.int .i64 p), .va sa] (fun o F' => o = .ret (.va (.bool (zbl p l))) ∧ F' = F) := by
 obtain ⟨nil, ca, ea, cc, La, ra, rfl, ha1, ha2, ha3, ha4⟩ := ha
 have fin : ∀ (x : Bool) (h : Hp) (nx : Nat), zbl p l = x → lget h 0 = some (.frz F) →
   Cln 1 (FoK F fun o F' => o = .ret (.va (.bool (zbl p l))) ∧ F' = F) (.ret (.va (.bool x))) h nx := by
  intro x h nx hv h0
  exact endPu h0 (Fz.le_refl F) (ob hv) rfl
 refine fo_of hΘ Tryz.func18 rfl (by decide) _ _ rfl rfl rfl ?_;conv=>whnf
 refine usePu (zfg p 1 8 F) rfl (zaf _) rfl ?_;conv=>whnf
 refine ⟨fun g => ?_, fun g => ?_⟩
 ·conv=>whnf
  refine br (fun g2 => ?_) (fun g2 => ?_)
  ·conv=>whnf
   refine fin _ _ _ ?_ rfl
   simp at g2; simp [zbl]; omega
  ·conv=>whnf
   have hp8 : 1 ≤ p ∧ p ≤ 8 := by simpa using g
   have hl64 : l.length ≤ 64 := by simp at g2; omega
   have vS : zbl p l = l.all (zbn p) := by simp [zbl, hp8, hl64]
   refine zau hΘ (X := { k : Nat // k ≤ l.length ∧ (l.take k).all (zbn p) = true }) (fun k => [(5, .va (.int .i64 k.1))]) [6, 7, 16, 17, 18, 19, 20, 21, 22, 23, 24, 25, 26, 27, 28, 29, 30, 31, 32, 33, 34, 35, 36, 37, 38, 39, 40, 41, 42, 43, 44, 45, 46, 47, 48, 49, 50, 51, 52, 53, 54, 55, 56, 57, 58, 59, 60, 61, 62, 63, 64, 65, 66, 67, 68, 69, 70, 71, 72, 73, 74, 75, 76, 77, 78, 79, 80, 81, 82] (fz fun _ => F) 1 (fun k => l.length - k.1) ⟨0, by simp⟩
    (fun hH hT => le0 hH hT rfl (Fz.le_refl F) rfl ⟨rfl, trivial⟩) ?_
   rintro ⟨k, hk, hp⟩ hH hT;conv=>whnf
   refine br (fun g' => ?_) (fun g' => ?_)
   ·have g : k < l.length := by simpa using g'
    clear g'
    have no := zzo (zbn p) l k g
    have yes := zxx (zbn p) l k g hp
    have at1 := Sl.at ha4 g
    conv=>whnf
    refine ⟨Sl.lt ha1 g, ⟨by simp, by simpa using g⟩, ?_⟩;conv=>whnf
    refine ⟨_, ha2 (Sl.lt ha1 g), ?_⟩;conv=>whnf
    refine ⟨_, at1, ?_⟩;conv=>whnf
    refine ⟨Sl.lt ha1 g, ⟨by simp, by simpa using g⟩, ?_⟩;conv=>whnf
    refine ⟨_, ha2 (Sl.lt ha1 g), ?_⟩;conv=>whnf
    refine ⟨_, at1, ?_⟩
    repeat' ((conv=>whnf); first
     | with_reducible refine br (fun _ => ?_) (fun _ => ?_)
     | with_reducible refine ⟨fun _ => ?_, fun _ => ?_⟩
     | refine useP (zfg _ _ _) rfl (zaf _) rfl ?_
     | refine useP (zoy _) rfl (zaf _) rfl ?_)
    all_goals (conv=>whnf)
    all_goals first
     | (refine fin _ _ _ (vS.trans (no ?_)) rfl)
     | (refine ⟨⟨k + 1, by omega, yes ?_⟩, by show l.length - (k + 1) < l.length - k; omega, lr0 hH hT rfl (Fz.le_refl F) rfl ⟨cnt (by omega), trivial⟩⟩)
     | skip
    all_goals clear hH hT no yes fin
    all_goals clear ha1 ha2 ha3 ha4 at1 hp vS
    all_goals simp_all [zbn, props, numOk, idx1, idx2, idx35, idx67, idx18]
    all_goals omega
   ·conv=>whnf
    refine fin _ _ _ ?_ rfl
    have g : ¬ k < l.length := by simpa using g'
    rw [List.take_of_length_le (by omega)] at hp
    rw [vS, hp]
 ·conv=>whnf
  refine fin _ _ _ ?_ rfl
  have g : (decide (1 ≤ p) && decide (p ≤ 8)) = false := not_t g
  simp only [zbl, g, Bool.false_and]
end Go.Proofs.YtblllibdahkgfaaGreatDoor

namespace Go.Proofs.YtblllibdahkgfaaGreatDoor
open Go Sx
set_option maxRecDepth 100000
def mn (l : List Int) : Int := match l with
 | [] => 0
 | x :: r => r.foldl (fun m x => if x < m then x else m) x
def mx (l : List Int) : Int := match l with
 | [] => 0
 | x :: r => r.foldl (fun m x => if x > m then x else m) x
theorem zwz (l : List Int) (x : Int) : mn (l ++ [x]) = if l = [] then x else if x < mn l then x else mn l := by
 cases l with
 | nil => simp [mn]
 | cons a r => simp only [mn, List.cons_append, List.foldl_append, List.foldl_cons, List.foldl_nil]; rw [if_neg (show ¬ (a :: r = []) by simp)]; rfl
theorem zyc (l : List Int) (x : Int) : mx (l ++ [x]) = if l = [] then x else if x > mx l then x else mx l := by
 cases l with
 | nil => simp [mx]
 | cons a r => simp only [mx, List.cons_append, List.foldl_append, List.foldl_cons, List.foldl_nil]; rw [if_neg (show ¬ (a :: r = []) by simp)]; rfl
theorem zsl {α : Type} {l : List α} {k : Nat} (h1 : 1 ≤ k) (h2 : k ≤ l.length) : ¬ l.take k = [] := by
 intro h; have := congrArg List.length h; rw [List.length_take] at this; simp only [List.length_nil] at this; omega
theorem ei {k : IntKind} {a b : Int} (h : a = b) : SA.int k a = SA.int k b := by rw [h]
theorem zv4 (F : Fz) (sa : SA) (l : List Int) (ha : zel F sa l) (hl : l.length < 1000000) (h0 : 0 < l.length) :
  Fo Tryz.prog F 61 [.va sa] (fun o F' => o = .ret (.va (.int .i64 (mx l))) ∧ F' = F) := by
 obtain ⟨han, hab, hae, hac, haL, har, rfl, ha1, ha2, ha3, ha4⟩ := ha
 refine fo_of hΘ Tryz.func61 rfl (by decide) _ _ rfl rfl rfl ?_;conv=>whnf
 refine br (fun g => ?_) (fun g => ?_)
 ·simp at g; omega
 ·conv=>whnf
  refine ⟨Sl.lt ha1 h0, ⟨by simp, by simpa using h0⟩, ?_⟩;conv=>whnf
  refine ⟨_, ha2 (Sl.lt ha1 h0), ?_⟩;conv=>whnf
  refine ⟨_, Sl.at ha4 h0, ?_⟩;conv=>whnf
  have h1 : mx (l.take 1) = l[0] := by
   rw [List.take_succ_eq_append_getElem h0]; simp [mx]
  refine zau hΘ (X := { k : Nat // 1 ≤ k ∧ k ≤ l.length }) (fun k => [(3, .va (.int .i64 (mx (l.take k.1)))), (4, .va (.int .i64 k.1))]) [12, 13, 14, 15, 16, 17, 18, 19, 20, 21, 22, 23] (fz fun _ => F) 1 (fun k => l.length - k.1) ⟨1, by omega⟩
   (fun hH hT => le0 hH hT rfl (Fz.le_refl F) rfl ⟨ei h1, rfl, trivial⟩) ?_
  rintro ⟨k, hk1, hk⟩ hH hT;conv=>whnf
  refine br (fun g => ?_) (fun g => ?_)
  ·have g : k < l.length := by simpa using g
   conv=>whnf
   refine ⟨Sl.lt ha1 g, ⟨by simp, by simpa using g⟩, ?_⟩;conv=>whnf
   refine ⟨_, ha2 (Sl.lt ha1 g), ?_⟩;conv=>whnf
   refine ⟨_, Sl.at ha4 g, ?_⟩;conv=>whnf
   refine ⟨⟨k + 1, by omega, by omega⟩, by show l.length - (k + 1) < l.length - k; omega, lr0 hH hT rfl (Fz.le_refl F) rfl ⟨ei ?_, cnt (by omega), trivial⟩⟩
   show mx (l.take (k + 1)) = _
   rw [List.take_succ_eq_append_getElem g, zyc, if_neg (zsl hk1 hk)]
  ·conv=>whnf
   have g : ¬ k < l.length := by simpa using g
   refine endPu rfl (Fz.le_refl F) (oi ?_) rfl
   show mx l = mx (l.take k)
   rw [List.take_of_length_le (by omega)]
theorem zjc (F : Fz) (sa : SA) (l : List Int) (ha : zel F sa l) (hl : l.length < 1000000) (h0 : 0 < l.length) :
  Fo Tryz.prog F 62 [.va sa] (fun o F' => o = .ret (.va (.int .i64 (mn l))) ∧ F' = F) := by
 obtain ⟨han, hab, hae, hac, haL, har, rfl, ha1, ha2, ha3, ha4⟩ := ha
 refine fo_of hΘ Tryz.func62 rfl (by decide) _ _ rfl rfl rfl ?_;conv=>whnf
 refine br (fun g => ?_) (fun g => ?_)
 ·simp at g; omega
 ·conv=>whnf
  refine ⟨Sl.lt ha1 h0, ⟨by simp, by simpa using h0⟩, ?_⟩;conv=>whnf
  refine ⟨_, ha2 (Sl.lt ha1 h0), ?_⟩;conv=>whnf
  refine ⟨_, Sl.at ha4 h0, ?_⟩;conv=>whnf
  have h1 : mn (l.take 1) = l[0] := by
   rw [List.take_succ_eq_append_getElem h0]; simp [mn]
  refine zau hΘ (X := { k : Nat // 1 ≤ k ∧ k ≤ l.length }) (fun k => [(3, .va (.int .i64 (mn (l.take k.1)))), (4, .va (.int .i64 k.1))]) [12, 13, 14, 15, 16, 17, 18, 19, 20, 21, 22, 23] (fz fun _ => F) 1 (fun k => l.length - k.1) ⟨1, by omega⟩
   (fun hH hT => le0 hH hT rfl (Fz.le_refl F) rfl ⟨ei h1, rfl, trivial⟩) ?_
  rintro ⟨k, hk1, hk⟩ hH hT;conv=>whnf
  refine br (fun g => ?_) (fun g => ?_)
  ·have g : k < l.length := by simpa using g
   conv=>whnf
   refine ⟨Sl.lt ha1 g, ⟨by simp, by simpa using g⟩, ?_⟩;conv=>whnf
   refine ⟨_, ha2 (Sl.lt ha1 g), ?_⟩;conv=>whnf
   refine ⟨_, Sl.at ha4 g, ?_⟩;conv=>whnf
   refine ⟨⟨k + 1, by omega, by omega⟩, by show l.length - (k + 1) < l.length - k; omega, lr0 hH hT rfl (Fz.le_refl F) rfl ⟨ei ?_, cnt (by omega), trivial⟩⟩
   show mn (l.take (k + 1)) = _
   rw [List.take_succ_eq_append_getElem g, zwz, if_neg (zsl hk1 hk)]
  ·conv=>whnf
   have g : ¬ k < l.length := by simpa using g
   refine endPu rfl (Fz.le_refl F) (oi ?_) rfl
   show mn l = mn (l.take k)
   rw [List.take_of_length_le (by omega)]
set_option maxHeartbeats 1000000 in
theorem zvb (F : Fz) (sa sb : SA) (a b : List Stp) (ha : zaz F sa a) (hb : zaz F sb b) (la : a.length < 1000000) :
  Fo Tryz.prog F 48 [.va sa, .va sb] (fun o F' => o = .ret (.va (.bool (decide (a = b)))) ∧ F' = F) := by
 obtain ⟨han, hab, hae, hac, haL, har, rfl, ha1, ha2, ha3, ha4⟩ := ha
 obtain ⟨hbn, hbb, hbe, hbc, hbL, hbr, rfl, hb1, hb2, hb3, hb4⟩ := hb
 have fin : ∀ (v : Bool) (h : Hp) (nx : Nat), v = decide (a = b) → lget h 0 = some (.frz F) →
   Cln 1 (FoK F fun o F' => o = .ret (.va (.bool (decide (a = b)))) ∧ F' = F) (.ret (.va (.bool v))) h nx := by
  intro v h nx hv h0
  exact endPu h0 (Fz.le_refl F) (by rw [hv]; rfl) rfl
 refine fo_of hΘ Tryz.func48 rfl (by decide) _ _ rfl rfl rfl ?_;conv=>whnf
 refine br (fun g => ?_) (fun g => ?_)
 ·conv=>whnf
  refine fin _ _ _ ?_ rfl
  have : ¬ a = b := by rintro rfl; simp at g
  simp [this]
 ·have gl : a.length = b.length := neq_f g
  conv=>whnf
  refine zau hΘ (X := { k : Nat // k ≤ a.length ∧ a.take k = b.take k }) (fun k => [(13, .va (.int .i64 k.1))]) [4, 5, 14, 15, 16, 17, 18, 19, 20, 21, 22, 23, 24, 25] (fz fun _ => F) 1 (fun k => a.length - k.1) ⟨0, by simp⟩
   (fun hH hT => le0 hH hT rfl (Fz.le_refl F) rfl ⟨rfl, trivial⟩) ?_
  rintro ⟨k, hk, hp⟩ hH hT;conv=>whnf
  refine br (fun g => ?_) (fun g => ?_)
  ·have g : k < a.length := by simpa using g
   have gb : k < b.length := by omega
   conv=>whnf
   refine draw hΘ mixed [(0, true), (1, true), (2, true), (3, true), (4, true), (5, true), (6, true), (7, true), (8, true)] [] (by kernel_rfl) ?_;conv=>whnf
   refine ⟨Sl.lt ha1 g, ⟨by simp, by simpa using g⟩, ?_⟩;conv=>whnf
   refine ⟨rfl, ?_⟩;conv=>whnf
   refine ⟨_, ha2 (Sl.lt ha1 g), ?_⟩;conv=>whnf
   refine ⟨_, Sl.at ha4 g, ?_⟩;conv=>whnf
   refine ⟨Sl.lt hb1 gb, ⟨by simp, by simpa using gb⟩, ?_⟩;conv=>whnf
   refine ⟨rfl, ?_⟩;conv=>whnf
   refine ⟨_, hb2 (Sl.lt hb1 gb), ?_⟩;conv=>whnf
   refine ⟨_, Sl.at hb4 gb, ?_⟩;conv=>whnf
   refine ⟨_, agg50 _ _ _ _, ?_⟩;conv=>whnf
   refine br (fun g2 => ?_) (fun g2 => ?_)
   ·conv=>whnf
    refine fin _ _ _ ?_ rfl
    have : ¬ a = b := by rintro rfl; simp at g2
    simp [this]
   ·conv=>whnf
    refine ⟨⟨k + 1, by omega, ?_⟩, by show a.length - (k + 1) < a.length - k; omega, lr0 hH hT rfl (Fz.le_refl F) rfl ⟨cnt (by omega), trivial⟩⟩
    have h3 : a[k] = b[k] := by
     simp at g2; exact Prod.ext g2.1 g2.2
    rw [List.take_succ_eq_append_getElem g, List.take_succ_eq_append_getElem gb, hp, h3]
  ·conv=>whnf
   refine fin _ _ _ ?_ rfl
   have g : ¬ k < a.length := by simpa using g
   have h1 : a = b := by
    rw [List.take_of_length_le (by omega), List.take_of_length_le (by omega)] at hp; exact hp
   simp [h1]
def lostS (l : List Stp) : Bool := match l with
 | [x] => decide (x.1 = 6)
 | _ => false
theorem zkl (F : Fz) (sa : SA) (l : List Stp) (ha : zaz F sa l) :
  Fo Tryz.prog F 47 [.va sa] (fun o F' => o = .ret (.va (.bool (lostS l))) ∧ F' = F) := by
 obtain ⟨han, hab, hae, hac, haL, har, rfl, ha1, ha2, ha3, ha4⟩ := ha
 refine fo_of hΘ Tryz.func47 rfl (by decide) _ _ rfl rfl rfl ?_;conv=>whnf
 refine ⟨fun g => ?_, fun g => ?_⟩
 ·conv=>whnf
  have g1 : l.length = 1 := by simp at g; omega
  have g0 : 0 < l.length := by omega
  refine ⟨Sl.lt ha1 g0, ⟨by simp, by simpa using g0⟩, ?_⟩;conv=>whnf
  refine ⟨_, ha2 (Sl.lt ha1 g0), ?_⟩;conv=>whnf
  refine ⟨_, Sl.at ha4 g0, ?_⟩;conv=>whnf
  refine endPu rfl (Fz.le_refl F) (ob ?_) rfl
  match l, g1 with
  | [x], _ => rfl
 ·conv=>whnf
  refine endPu rfl (Fz.le_refl F) (ob ?_) rfl
  have g1 : l.length ≠ 1 := by simp at g; omega
  match l, g1 with
  | [], _ => rfl
  | [x], h => simp at h
  | _ :: _ :: _, _ => rfl
def sel (κ : Int) (l : List Stp) : List Int := (l.filter fun s => decide (s.1 = κ)).map (·.2)
theorem zwq (κ : Int) (l : List Stp) (k : Nat) (g : k < l.length) (h : l[k].1 = κ) : sel κ (l.take (k + 1)) = sel κ (l.take k) ++ [l[k].2] := by
 rw [List.take_succ_eq_append_getElem g, sel, List.filter_append, List.map_append]; simp [sel, h]
theorem zzp (κ : Int) (l : List Stp) (k : Nat) (g : k < l.length) (h : ¬ l[k].1 = κ) : sel κ (l.take (k + 1)) = sel κ (l.take k) := by
 rw [List.take_succ_eq_append_getElem g, sel, List.filter_append, List.map_append]; simp [sel, h]
theorem zyx (κ : Int) (l : List Stp) : (sel κ l).length ≤ l.length := by
 unfold sel; rw [List.length_map]; exact List.length_filter_le _ _
end Go.Proofs.YtblllibdahkgfaaGreatDoor
