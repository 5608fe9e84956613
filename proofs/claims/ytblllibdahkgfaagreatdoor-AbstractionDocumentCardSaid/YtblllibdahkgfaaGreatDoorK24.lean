import Derived.Test.YtblllibdahkgfaaGreatDoorK23

namespace Sx
open Go
def LI0 (st : St) (jl : List Nat) (F : Fz) : St := ⟨[] :: junks jl :: st.t, [(0, .frz F)] :: st.h, st.nx, st.n0, st.nt, st.d⟩
theorem cut_at {P : Program} {c : Code} {st : St} {Q : SE → St → Prop} {X : Type} (F0 : Fz) (upd : X → List (Nat × SV)) (jl : List Nat) (hup : X → List (Nat × Ent)) (N : Nat)
    (h0 : WfH st.h st.nx → WfT st.t st.nx → Le st (LI0 st jl F0))
    (h1 : WfH st.h st.nx → WfT st.t st.nx → WP P c (LI0 st jl F0) (fun e st' => e = .normal ∧ ∃ x, Le st' (LI st upd jl hup N x)))
    (h2 : ∀ x, Q .normal (LI st upd jl hup N x)) : WP P c st Q :=
  WP_cut (LI0 st jl F0) (LI st upd jl hup N) (fun hH hT => ⟨h0 hH hT, h1 hH hT⟩) h2
end Sx
namespace Go.Proofs.YtblllibdahkgfaaGreatDoor
open Go Sx
set_option maxRecDepth 100000
theorem validL {p : Int} {l : List Stp} {b : Bool} (h : validS p l = b) (F : Fz) (sa : SA) (ha : StepsAt F sa l) (hl : l.length < 1000000) :
    Fo Tryz.prog F 17 [.va (.int .i64 p), .va sa] (fun o F' => o = .ret (.va (.lit b)) ∧ F' = F) := by
  have h1 := valid_fn F sa l p ha hl
  rw [h] at h1
  exact Fo_lit h1
theorem coarL {p : Int} {a c : List Stp} {b : Bool} (h : coarS p a c = b) (F : Fz) (sa sb : SA) (ha : StepsAt F sa a) (hc : StepsAt F sb c) (la : a.length < 1000000) (lc : c.length < 1000000) :
    Fo Tryz.prog F 22 [.va (.int .i64 p), .va sa, .va sb] (fun o F' => o = .ret (.va (.lit b)) ∧ True) := by
  have h1 := coarserE_fn F sa sb a c p ha hc la lc
  rw [h] at h1
  exact Fo_lit (Fo_mono h1 fun o F' h => ⟨h, trivial⟩)
theorem sameL (F : Fz) (sa sb : SA) (a : List Stp) (ha : StepsAt F sa a) (hb : StepsAt F sb a) (la : a.length < 1000000) :
    Fo Tryz.prog F 19 [.va sa, .va sb] (fun o F' => o = .ret (.va (.lit true)) ∧ F' = F) := by
  have h1 := same_fn F sa sb a a ha hb la
  rw [decide_eq_true rfl] at h1
  exact Fo_lit h1
theorem isLit {p : Int} {l : List Stp} {s want : List UInt8} (h : isS p l s want = true) (F : Fz) (hM : MLF F) (sa : SA) (ha : StepsAt F sa l) (hl : l.length < 1000000) (hs : s.length ≤ 1000000000000000000) :
    Fo Tryz.prog F 28 [.va (.int .i64 p), .va sa, .va (.str s), .va (.str want)] (fun o F' => o = .ret (.va (.lit true)) ∧ True) := by
  have h1 := is_fn F hM sa l p s want ha hl hs
  rw [h] at h1
  exact Fo_lit h1
theorem normL (F : Fz) (sa : SA) (ha : StepsAt F sa [(2, 0), (1, 0), (2, 0)]) : Fo Tryz.prog F 15 [.va (.int .i64 1), .va sa] (fun o F' => ∃ sc, o = .ret (.tup [.va sc, .va (.int .i64 0)]) ∧ StepsAt F' sc [(1, 0), (2, 0)]) := by
  have h := normalE_fn F sa _ 1 ha (by decide)
  rw [sane_n] at h; exact h
theorem compL (F : Fz) (sa sb : SA) (ha : StepsAt F sa [(3, 100)]) (hb : StepsAt F sb [(3, 10)]) : Fo Tryz.prog F 20 [.va (.int .i64 5), .va sa, .va sb] (fun o F' => ∃ sc, o = .ret (.tup [.va sc, .va (.int .i64 0)]) ∧ StepsAt F' sc [(3, 100)]) := by
  have h := composeE_fn F sa sb _ _ 5 ha hb (by decide) (by decide)
  rw [sane_m] at h; exact h
theorem appL (F : Fz) (hM : MLF F) : Fo Tryz.prog F 26 [.va (.int .i64 1), .va (.slice true 0 0 0 2 0 0), .va (.str [120])] (fun o F' => o = .ret (.tup [.va (.str []), .va (.int .i64 70)])) := by
  have h := apply_fn F hM _ [] 1 [120] Sl.nil (by decide) (by decide)
  rw [sane_g] at h; exact h
set_option maxHeartbeats 16000000 in
theorem sane_fn (F0 : Fz) (m0 : MLF F0) : Fo Tryz.prog F0 11 [] (fun o F' => o = .ret (.va (.bool true)) ∧ True) := by
  have isT : ∀ (F : Fz) (hM : MLF F) (sa : SA), StepsAt F sa [(1, 0), (2, 0)] → Fo Tryz.prog F 28 [.va (.int .i64 1), .va sa, .va (.str (textS [[84, 111, 32, 32, 66, 101]])), .va (.str (textS [[116, 111, 32, 98, 101]]))] (fun o F' => o = .ret (.va (.lit true)) ∧ True) := fun F hM sa ha => by
    have h := is_fn F hM sa [(1, 0), (2, 0)] 1 (textS [[84, 111, 32, 32, 66, 101]]) (textS [[116, 111, 32, 98, 101]]) ha (by decide) (by decide +kernel)
    rw [sane_a] at h
    exact Fo_lit h
  have q0 := Fz.le_refl F0
  refine fo_of hΘ Tryz.func11 rfl (by decide) _ _ rfl rfl rfl ?_
  conv => whnf
  refine cut_at (X := { G : Fz // Fz.le F0 G ∧ MLF G }) F0 (fun x => [(3, .va (.lit true))]) [21, 22, 23, 24, 25, 26, 27, 28] (fun x => [(0, .frz x.1)]) 3
    (fun hH hT => leI [] hH hT rfl ⟨trivial, trivial⟩ trivial ⟨Fz.le_refl F0, trivial⟩) (fun hH hT => ?draws) ?rest
  case rest =>
    rintro ⟨G, q_G, m_G⟩
    conv => whnf
    refine freezeC 4 (fun _ => .arr 3 1 (([3, 0, 3, 4] : List Int).map encI) 4) rfl rfl rfl (fun _ _ => rfl) (fun _ _ => SB.bB_ok rfl) ?_
    intro b1 A1 k1 hb1
    have m_A1 := m_G.mono k1
    have q_A1 := Fz.le_trans q_G k1
    refine usePu (numbers_fn A1 _ _ (Sl.new (l := ([3, 0, 3, 4] : List Int)) (cap := 4) (hb1 0 rfl)) (by decide)) rfl ⟨⟨rfl, rfl, rfl, .inr ⟨rfl, rfl, rfl, rfl⟩⟩, trivial⟩ rfl ?_
    conv => whnf
    refine freezeC 5 (fun _ => .arr 3 1 (([3, 0, 3, 0] : List Int).map encI) 4) rfl rfl rfl (fun _ _ => rfl) (fun _ _ => SB.bB_ok rfl) ?_
    intro b2 A2 k2 hb2
    have m_A2 := m_A1.mono k2
    have q_A2 := Fz.le_trans q_A1 k2
    refine usePu (numbers_fn A2 _ _ (Sl.new (l := ([3, 0, 3, 0] : List Int)) (cap := 4) (hb2 0 rfl)) (by decide)) rfl ⟨⟨rfl, rfl, rfl, .inr ⟨rfl, rfl, rfl, rfl⟩⟩, trivial⟩ rfl ?_
    conv => whnf
    refine freezeC 3 (fun _ => .arr 50 2 (([(4, 3)] : List Stp).map enc) 1) rfl rfl rfl (fun _ _ => rfl) (fun _ _ => SB.bB_ok rfl) ?_
    intro b3 A3 k3 hb3
    have m_A3 := m_A2.mono k3
    have q_A3 := Fz.le_trans q_A2 k3
    refine useFo (isLit sane_b A3 m_A3 _ (Sl.new (l := ([(4, 3)] : List Stp)) (cap := 1) (hb3 0 rfl)) (by decide) (by decide +kernel)) rfl ⟨rfl, ⟨rfl, rfl, rfl, .inr ⟨rfl, rfl, rfl, rfl⟩⟩, rfl, rfl, trivial⟩ rfl ?_
    rintro _ A4 k4 ⟨rfl, -⟩
    have m_A4 := m_A3.mono k4
    have q_A4 := Fz.le_trans q_A3 k4
    conv => whnf
    refine freezeC 7 (fun _ => .arr 3 1 (([2, 0, 0, 19, 0, 1, -19] : List Int).map encI) 7) rfl rfl rfl (fun _ _ => rfl) (fun _ _ => SB.bB_ok rfl) ?_
    intro b5 A5 k5 hb5
    have m_A5 := m_A4.mono k5
    have q_A5 := Fz.le_trans q_A4 k5
    refine usePu (numbers_fn A5 _ _ (Sl.new (l := ([2, 0, 0, 19, 0, 1, -19] : List Int)) (cap := 7) (hb5 0 rfl)) (by decide)) rfl ⟨⟨rfl, rfl, rfl, .inr ⟨rfl, rfl, rfl, rfl⟩⟩, trivial⟩ rfl ?_
    conv => whnf
    refine freezeC 8 (fun _ => .arr 3 1 (([2, 0, 0, 10, 0, 1, -10] : List Int).map encI) 7) rfl rfl rfl (fun _ _ => rfl) (fun _ _ => SB.bB_ok rfl) ?_
    intro b6 A6 k6 hb6
    have m_A6 := m_A5.mono k6
    have q_A6 := Fz.le_trans q_A5 k6
    refine usePu (numbers_fn A6 _ _ (Sl.new (l := ([2, 0, 0, 10, 0, 1, -10] : List Int)) (cap := 7) (hb6 0 rfl)) (by decide)) rfl ⟨⟨rfl, rfl, rfl, .inr ⟨rfl, rfl, rfl, rfl⟩⟩, trivial⟩ rfl ?_
    conv => whnf
    refine freezeC 6 (fun _ => .arr 50 2 (([(3, 10)] : List Stp).map enc) 1) rfl rfl rfl (fun _ _ => rfl) (fun _ _ => SB.bB_ok rfl) ?_
    intro b7 A7 k7 hb7
    have m_A7 := m_A6.mono k7
    have q_A7 := Fz.le_trans q_A6 k7
    refine useFo (isLit sane_c A7 m_A7 _ (Sl.new (l := ([(3, 10)] : List Stp)) (cap := 1) (hb7 0 rfl)) (by decide) (by decide +kernel)) rfl ⟨rfl, ⟨rfl, rfl, rfl, .inr ⟨rfl, rfl, rfl, rfl⟩⟩, rfl, rfl, trivial⟩ rfl ?_
    rintro _ A8 k8 ⟨rfl, -⟩
    have m_A8 := m_A7.mono k8
    have q_A8 := Fz.le_trans q_A7 k8
    conv => whnf
    refine usePu (rputString_fn A8 [49, 48, 48, 48, 48, 48, 48, 48, 49] (by decide)) rfl (argsE_refl _) rfl ?_
    conv => whnf
    refine usePu (rputString_fn A8 [49, 48, 48, 49] (by decide)) rfl (argsE_refl _) rfl ?_
    conv => whnf
    refine freezeC 10 (fun _ => .arr 3 1 (([3, 3] : List Int).map encI) 2) rfl rfl rfl (fun _ _ => rfl) (fun _ _ => SB.bB_ok rfl) ?_
    intro b9 A9 k9 hb9
    have m_A9 := m_A8.mono k9
    have q_A9 := Fz.le_trans q_A8 k9
    refine usePu (numbers_fn A9 _ _ (Sl.new (l := ([3, 3] : List Int)) (cap := 2) (hb9 0 rfl)) (by decide)) rfl ⟨⟨rfl, rfl, rfl, .inr ⟨rfl, rfl, rfl, rfl⟩⟩, trivial⟩ rfl ?_
    conv => whnf
    refine ⟨by decide +kernel, ?_⟩
    conv => whnf
    refine freezeC 11 (fun _ => .arr 3 1 (([2, 2] : List Int).map encI) 2) rfl rfl rfl (fun _ _ => rfl) (fun _ _ => SB.bB_ok rfl) ?_
    intro b10 A10 k10 hb10
    have m_A10 := m_A9.mono k10
    have q_A10 := Fz.le_trans q_A9 k10
    refine usePu (numbers_fn A10 _ _ (Sl.new (l := ([2, 2] : List Int)) (cap := 2) (hb10 0 rfl)) (by decide)) rfl ⟨⟨rfl, rfl, rfl, .inr ⟨rfl, rfl, rfl, rfl⟩⟩, trivial⟩ rfl ?_
    conv => whnf
    refine ⟨by decide +kernel, ?_⟩
    conv => whnf
    refine freezeC 9 (fun _ => .arr 50 2 (([(5, 0)] : List Stp).map enc) 1) rfl rfl rfl (fun _ _ => rfl) (fun _ _ => SB.bB_ok rfl) ?_
    intro b11 A11 k11 hb11
    have m_A11 := m_A10.mono k11
    have q_A11 := Fz.le_trans q_A10 k11
    refine useFo (isLit sane_d A11 m_A11 _ (Sl.new (l := ([(5, 0)] : List Stp)) (cap := 1) (hb11 0 rfl)) (by decide) (by decide +kernel)) rfl ⟨rfl, ⟨rfl, rfl, rfl, .inr ⟨rfl, rfl, rfl, rfl⟩⟩, rfl, rfl, trivial⟩ rfl ?_
    rintro _ A12 k12 ⟨rfl, -⟩
    have m_A12 := m_A11.mono k12
    have q_A12 := Fz.le_trans q_A11 k12
    conv => whnf
    refine freezeC 12 (fun _ => .arr 50 2 (([(2, 0), (1, 0), (2, 0)] : List Stp).map enc) 3) rfl rfl rfl (fun _ _ => rfl) (fun _ _ => SB.bB_ok rfl) ?_
    intro b13 A13 k13 hb13
    have m_A13 := m_A12.mono k13
    have q_A13 := Fz.le_trans q_A12 k13
    refine useFo (normL A13 _ (Sl.new (l := ([(2, 0), (1, 0), (2, 0)] : List Stp)) (cap := 3) (hb13 0 rfl))) rfl ⟨rfl, ⟨rfl, rfl, rfl, .inr ⟨rfl, rfl, rfl, rfl⟩⟩, trivial⟩ rfl ?_
    rintro _ A14 k14 ⟨s1, rfl, hs1⟩
    have m_A14 := m_A13.mono k14
    have q_A14 := Fz.le_trans q_A13 k14
    have hs1c := hs1
    obtain ⟨n1, d1, o1, c1, L1, r1, rfl, -⟩ := hs1c
    conv => whnf
    refine freezeC 13 (fun _ => .arr 50 2 (([(3, 100)] : List Stp).map enc) 1) rfl rfl rfl (fun _ _ => rfl) (fun _ _ => SB.bB_ok rfl) ?_
    intro b15 A15 k15 hb15
    have m_A15 := m_A14.mono k15
    have q_A15 := Fz.le_trans q_A14 k15
    have hs1 := hs1.mono k15
    refine freezeC 14 (fun _ => .arr 50 2 (([(3, 10)] : List Stp).map enc) 1) rfl rfl rfl (fun _ _ => rfl) (fun _ _ => SB.bB_ok rfl) ?_
    intro b16 A16 k16 hb16
    have m_A16 := m_A15.mono k16
    have q_A16 := Fz.le_trans q_A15 k16
    have hs1 := hs1.mono k16
    have ha1 : StepsAt A16 _ [(3, 100)] := (Sl.new (l := ([(3, 100)] : List Stp)) (cap := 1) (k16 _ _ (hb15 0 rfl)))
    refine useFo (compL A16 _ _ ha1 (Sl.new (l := ([(3, 10)] : List Stp)) (cap := 1) (hb16 0 rfl))) rfl ⟨rfl, ⟨rfl, rfl, rfl, .inr ⟨rfl, rfl, rfl, rfl⟩⟩, ⟨rfl, rfl, rfl, .inr ⟨rfl, rfl, rfl, rfl⟩⟩, trivial⟩ rfl ?_
    rintro _ A17 k17 ⟨s2, rfl, hs2⟩
    have m_A17 := m_A16.mono k17
    have q_A17 := Fz.le_trans q_A16 k17
    have hs1 := hs1.mono k17
    have hs2c := hs2
    obtain ⟨n2, d2, o2, c2, L2, r2, rfl, -⟩ := hs2c
    conv => whnf
    refine useFo (appL A17 m_A17) rfl ⟨rfl, ⟨rfl, rfl, rfl⟩, rfl, trivial⟩ rfl ?_
    rintro _ A18 k18 rfl
    have m_A18 := m_A17.mono k18
    have q_A18 := Fz.le_trans q_A17 k18
    have hs1 := hs1.mono k18
    have hs2 := hs2.mono k18
    conv => whnf
    refine freezeC 15 (fun _ => .arr 50 2 (([(3, 10)] : List Stp).map enc) 1) rfl rfl rfl (fun _ _ => rfl) (fun _ _ => SB.bB_ok rfl) ?_
    intro b19 A19 k19 hb19
    have m_A19 := m_A18.mono k19
    have q_A19 := Fz.le_trans q_A18 k19
    have hs1 := hs1.mono k19
    have hs2 := hs2.mono k19
    refine useFo (validL sane_v1 A19 _ (Sl.new (l := ([(3, 10)] : List Stp)) (cap := 1) (hb19 0 rfl)) (by decide)) rfl ⟨rfl, ⟨rfl, rfl, rfl, .inr ⟨rfl, rfl, rfl, rfl⟩⟩, trivial⟩ rfl ?_
    rintro _ _ _ ⟨rfl, rfl⟩
    conv => whnf
    refine freezeC 16 (fun _ => .arr 50 2 (([(3, 20)] : List Stp).map enc) 1) rfl rfl rfl (fun _ _ => rfl) (fun _ _ => SB.bB_ok rfl) ?_
    intro b20 A20 k20 hb20
    have m_A20 := m_A19.mono k20
    have q_A20 := Fz.le_trans q_A19 k20
    have hs1 := hs1.mono k20
    have hs2 := hs2.mono k20
    refine useFo (validL sane_v2 A20 _ (Sl.new (l := ([(3, 20)] : List Stp)) (cap := 1) (hb20 0 rfl)) (by decide)) rfl ⟨rfl, ⟨rfl, rfl, rfl, .inr ⟨rfl, rfl, rfl, rfl⟩⟩, trivial⟩ rfl ?_
    rintro _ _ _ ⟨rfl, rfl⟩
    conv => whnf
    refine freezeC 17 (fun _ => .arr 50 2 (([(6, 0)] : List Stp).map enc) 1) rfl rfl rfl (fun _ _ => rfl) (fun _ _ => SB.bB_ok rfl) ?_
    intro b21 A21 k21 hb21
    have m_A21 := m_A20.mono k21
    have q_A21 := Fz.le_trans q_A20 k21
    have hs1 := hs1.mono k21
    have hs2 := hs2.mono k21
    refine useFo (validL sane_v3 A21 _ (Sl.new (l := ([(6, 0)] : List Stp)) (cap := 1) (hb21 0 rfl)) (by decide)) rfl ⟨rfl, ⟨rfl, rfl, rfl, .inr ⟨rfl, rfl, rfl, rfl⟩⟩, trivial⟩ rfl ?_
    rintro _ _ _ ⟨rfl, rfl⟩
    conv => whnf
    refine freezeC 18 (fun _ => .arr 50 2 (([(4, 2)] : List Stp).map enc) 1) rfl rfl rfl (fun _ _ => rfl) (fun _ _ => SB.bB_ok rfl) ?_
    intro b22 A22 k22 hb22
    have m_A22 := m_A21.mono k22
    have q_A22 := Fz.le_trans q_A21 k22
    have hs1 := hs1.mono k22
    have hs2 := hs2.mono k22
    refine freezeC 19 (fun _ => .arr 50 2 (([(4, 5)] : List Stp).map enc) 1) rfl rfl rfl (fun _ _ => rfl) (fun _ _ => SB.bB_ok rfl) ?_
    intro b23 A23 k23 hb23
    have m_A23 := m_A22.mono k23
    have q_A23 := Fz.le_trans q_A22 k23
    have hs1 := hs1.mono k23
    have hs2 := hs2.mono k23
    have ha1 : StepsAt A23 _ [(4, 2)] := (Sl.new (l := ([(4, 2)] : List Stp)) (cap := 1) (k23 _ _ (hb22 0 rfl)))
    refine useFo (coarL sane_c1 A23 _ _ ha1 (Sl.new (l := ([(4, 5)] : List Stp)) (cap := 1) (hb23 0 rfl)) (by decide) (by decide)) rfl ⟨rfl, ⟨rfl, rfl, rfl, .inr ⟨rfl, rfl, rfl, rfl⟩⟩, ⟨rfl, rfl, rfl, .inr ⟨rfl, rfl, rfl, rfl⟩⟩, trivial⟩ rfl ?_
    rintro _ A24 k24 ⟨rfl, -⟩
    have m_A24 := m_A23.mono k24
    have q_A24 := Fz.le_trans q_A23 k24
    have hs1 := hs1.mono k24
    have hs2 := hs2.mono k24
    conv => whnf
    refine freezeC 20 (fun _ => .arr 50 2 (([(4, 5)] : List Stp).map enc) 1) rfl rfl rfl (fun _ _ => rfl) (fun _ _ => SB.bB_ok rfl) ?_
    intro b25 A25 k25 hb25
    have m_A25 := m_A24.mono k25
    have q_A25 := Fz.le_trans q_A24 k25
    have hs1 := hs1.mono k25
    have hs2 := hs2.mono k25
    refine freezeC 21 (fun _ => .arr 50 2 (([(4, 2)] : List Stp).map enc) 1) rfl rfl rfl (fun _ _ => rfl) (fun _ _ => SB.bB_ok rfl) ?_
    intro b26 A26 k26 hb26
    have m_A26 := m_A25.mono k26
    have q_A26 := Fz.le_trans q_A25 k26
    have hs1 := hs1.mono k26
    have hs2 := hs2.mono k26
    have ha1 : StepsAt A26 _ [(4, 5)] := (Sl.new (l := ([(4, 5)] : List Stp)) (cap := 1) (k26 _ _ (hb25 0 rfl)))
    refine useFo (coarL sane_c2 A26 _ _ ha1 (Sl.new (l := ([(4, 2)] : List Stp)) (cap := 1) (hb26 0 rfl)) (by decide) (by decide)) rfl ⟨rfl, ⟨rfl, rfl, rfl, .inr ⟨rfl, rfl, rfl, rfl⟩⟩, ⟨rfl, rfl, rfl, .inr ⟨rfl, rfl, rfl, rfl⟩⟩, trivial⟩ rfl ?_
    rintro _ A27 k27 ⟨rfl, -⟩
    have m_A27 := m_A26.mono k27
    have q_A27 := Fz.le_trans q_A26 k27
    have hs1 := hs1.mono k27
    have hs2 := hs2.mono k27
    conv => whnf
    refine ⟨fun _ => ?_, fun g => absurd g (by simp)⟩
    conv => whnf
    refine freezeC 22 (fun _ => .arr 50 2 (([(1, 0), (2, 0)] : List Stp).map enc) 2) rfl rfl rfl (fun _ _ => rfl) (fun _ _ => SB.bB_ok rfl) ?_
    intro b28 A28 k28 hb28
    have m_A28 := m_A27.mono k28
    have q_A28 := Fz.le_trans q_A27 k28
    have hs1 := hs1.mono k28
    have hs2 := hs2.mono k28
    refine useFo (sameL A28 _ _ _ hs1 (Sl.new (l := ([(1, 0), (2, 0)] : List Stp)) (cap := 2) (hb28 0 rfl)) (by decide)) rfl ⟨⟨rfl, rfl, rfl, .inr ⟨rfl, rfl, rfl, rfl⟩⟩, ⟨rfl, rfl, rfl, .inr ⟨rfl, rfl, rfl, rfl⟩⟩, trivial⟩ rfl ?_
    rintro _ _ _ ⟨rfl, rfl⟩
    conv => whnf
    refine ⟨fun _ => ?_, fun g => absurd g (by simp)⟩
    conv => whnf
    refine freezeC 23 (fun _ => .arr 50 2 (([(3, 100)] : List Stp).map enc) 1) rfl rfl rfl (fun _ _ => rfl) (fun _ _ => SB.bB_ok rfl) ?_
    intro b29 A29 k29 hb29
    have m_A29 := m_A28.mono k29
    have q_A29 := Fz.le_trans q_A28 k29
    have hs1 := hs1.mono k29
    have hs2 := hs2.mono k29
    refine useFo (sameL A29 _ _ _ hs2 (Sl.new (l := ([(3, 100)] : List Stp)) (cap := 1) (hb29 0 rfl)) (by decide)) rfl ⟨⟨rfl, rfl, rfl, .inr ⟨rfl, rfl, rfl, rfl⟩⟩, ⟨rfl, rfl, rfl, .inr ⟨rfl, rfl, rfl, rfl⟩⟩, trivial⟩ rfl ?_
    rintro _ _ _ ⟨rfl, rfl⟩
    conv => whnf
    refine ⟨fun _ => ?_, fun g => absurd g (by simp)⟩
    conv => whnf
    exact endFo (.ret (.va (.bool true))) _ rfl q_A29 (Fz.le_refl _) ⟨rfl, trivial⟩ rfl rfl
  refine drawP hΘ mixed (.look 0 (.look 1 (.alt 2 (.alt 3 (.alt 4 (.alt 5 (.alt 6 (.alt 7 (.look 8 .done) .nil) .nil) .nil) (.alt 5 (.alt 4 (.alt 6 (.alt 7 (.look 8 .done) .nil) .nil) .nil) .nil)) (.alt 5 (.alt 3 (.alt 4 (.alt 6 (.alt 7 (.look 8 .done) .nil) .nil) .nil) .nil) .nil)) (.alt 3 (.alt 2 (.alt 4 (.alt 5 (.alt 6 (.alt 7 (.look 8 .done) .nil) .nil) .nil) (.alt 5 (.alt 4 (.alt 6 (.alt 7 (.look 8 .done) .nil) .nil) .nil) .nil)) (.alt 4 (.alt 2 (.alt 5 (.alt 6 (.alt 7 (.look 8 .done) .nil) .nil) .nil) (.alt 5 (.alt 2 (.alt 6 (.alt 7 (.look 8 .done) .nil) .nil) (.alt 6 (.alt 2 (.alt 7 (.look 8 .done) .nil) .nil) .nil)) .nil)) (.alt 5 (.alt 2 (.alt 4 (.alt 6 (.alt 7 (.look 8 .done) .nil) .nil) .nil) (.alt 4 (.alt 2 (.alt 6 (.alt 7 (.look 8 .done) .nil) .nil) (.alt 6 (.alt 2 (.alt 7 (.look 8 .done) .nil) .nil) .nil)) .nil)) .nil))) (.alt 5 (.alt 2 (.alt 3 (.alt 4 (.alt 6 (.alt 7 (.look 8 .done) .nil) .nil) .nil) .nil) (.alt 3 (.alt 2 (.alt 4 (.alt 6 (.alt 7 (.look 8 .done) .nil) .nil) .nil) (.alt 4 (.alt 2 (.alt 6 (.alt 7 (.look 8 .done) .nil) .nil) (.alt 6 (.alt 2 (.alt 7 (.look 8 .done) .nil) .nil) .nil)) .nil)) .nil)) .nil))))) [1, 2] (by kernel_rfl) ?_
  conv => whnf
  refine ⟨rfl, ?_⟩
  conv => whnf
  refine ⟨rfl, ?_⟩
  conv => whnf
  refine ⟨?_, ?_, ?_⟩
  · conv => whnf
    refine ⟨Fz.le_refl _, rfl, rfl, ?_⟩
    conv => whnf
    refine ⟨?_, ?_⟩
    · conv => whnf
      refine ⟨Fz.le_refl _, rfl, rfl, ?_⟩
      conv => whnf
      refine ⟨?_, ?_⟩
      · conv => whnf
        refine freezeC 4 (fun _ => .arr 9 1 ([[84, 111, 32, 32, 66, 101]].map encS) 1) rfl rfl rfl (fun _ _ => rfl) (fun _ _ => SB.bB_ok rfl) ?_
        intro b1 F1 l1 hb1
        have m1 := m0.mono l1
        have q1 := Fz.le_trans q0 l1
        refine usePu (text_fn F1 _ [[84, 111, 32, 32, 66, 101]] (Sl.new (l := [[84, 111, 32, 32, 66, 101]]) (cap := 1) (hb1 0 rfl)) (by decide) (by decide)) rfl ⟨⟨rfl, rfl, rfl, .inr ⟨rfl, rfl, rfl, rfl⟩⟩, trivial⟩ rfl ?_
        conv => whnf
        refine ⟨l1, rfl, rfl, ?_⟩
        conv => whnf
        conv => whnf
        refine ⟨Fz.le_refl _, rfl, rfl, ?_⟩
        conv => whnf
        conv => whnf
        refine freezeC 5 (fun _ => .arr 9 1 ([[116, 111, 32, 98, 101]].map encS) 1) rfl rfl rfl (fun _ _ => rfl) (fun _ _ => SB.bB_ok rfl) ?_
        intro b2 F2 l2 hb2
        have m2 := m1.mono l2
        have q2 := Fz.le_trans q1 l2
        refine usePu (text_fn F2 _ [[116, 111, 32, 98, 101]] (Sl.new (l := [[116, 111, 32, 98, 101]]) (cap := 1) (hb2 0 rfl)) (by decide) (by decide)) rfl ⟨⟨rfl, rfl, rfl, .inr ⟨rfl, rfl, rfl, rfl⟩⟩, trivial⟩ rfl ?_
        conv => whnf
        refine ⟨l2, rfl, rfl, ?_⟩
        conv => whnf
        refine freezeC 3 (fun _ => .arr 50 2 ([(1, 0), (2, 0)].map enc) 2) rfl rfl rfl (fun _ _ => rfl) (fun _ _ => SB.bB_ok rfl) ?_
        intro b3 F3 l3 hb3
        have m3 := m2.mono l3
        have q3 := Fz.le_trans q2 l3
        refine useFo (isT F3 m3 _ (Sl.new (l := [(1, 0), (2, 0)]) (cap := 2) (hb3 0 rfl))) rfl ⟨rfl, ⟨rfl, rfl, rfl, .inr ⟨rfl, rfl, rfl, rfl⟩⟩, rfl, rfl, trivial⟩ rfl ?_
        rintro _ F9 l9 ⟨rfl, -⟩
        conv => whnf
        refine ⟨Fz.le_trans l3 l9, rfl, rfl, ?_⟩
        conv => whnf
        exact ⟨rfl, ⟨F9, Fz.le_trans q3 l9, m3.mono l9⟩, leR [] hH hT rfl ⟨trivial, trivial⟩ ⟨rfl, trivial⟩ ⟨Fz.le_refl F9, trivial⟩⟩
      · conv => whnf
        refine ⟨Fz.le_refl _, rfl, rfl, ?_⟩
        conv => whnf
        conv => whnf
        refine freezeC 4 (fun _ => .arr 9 1 ([[84, 111, 32, 32, 66, 101]].map encS) 1) rfl rfl rfl (fun _ _ => rfl) (fun _ _ => SB.bB_ok rfl) ?_
        intro b1 F1 l1 hb1
        have m1 := m0.mono l1
        have q1 := Fz.le_trans q0 l1
        refine usePu (text_fn F1 _ [[84, 111, 32, 32, 66, 101]] (Sl.new (l := [[84, 111, 32, 32, 66, 101]]) (cap := 1) (hb1 0 rfl)) (by decide) (by decide)) rfl ⟨⟨rfl, rfl, rfl, .inr ⟨rfl, rfl, rfl, rfl⟩⟩, trivial⟩ rfl ?_
        conv => whnf
        refine ⟨l1, rfl, rfl, ?_⟩
        conv => whnf
        conv => whnf
        refine freezeC 5 (fun _ => .arr 9 1 ([[116, 111, 32, 98, 101]].map encS) 1) rfl rfl rfl (fun _ _ => rfl) (fun _ _ => SB.bB_ok rfl) ?_
        intro b2 F2 l2 hb2
        have m2 := m1.mono l2
        have q2 := Fz.le_trans q1 l2
        refine usePu (text_fn F2 _ [[116, 111, 32, 98, 101]] (Sl.new (l := [[116, 111, 32, 98, 101]]) (cap := 1) (hb2 0 rfl)) (by decide) (by decide)) rfl ⟨⟨rfl, rfl, rfl, .inr ⟨rfl, rfl, rfl, rfl⟩⟩, trivial⟩ rfl ?_
        conv => whnf
        refine ⟨l2, rfl, rfl, ?_⟩
        conv => whnf
        refine freezeC 3 (fun _ => .arr 50 2 ([(1, 0), (2, 0)].map enc) 2) rfl rfl rfl (fun _ _ => rfl) (fun _ _ => SB.bB_ok rfl) ?_
        intro b3 F3 l3 hb3
        have m3 := m2.mono l3
        have q3 := Fz.le_trans q2 l3
        refine useFo (isT F3 m3 _ (Sl.new (l := [(1, 0), (2, 0)]) (cap := 2) (hb3 0 rfl))) rfl ⟨rfl, ⟨rfl, rfl, rfl, .inr ⟨rfl, rfl, rfl, rfl⟩⟩, rfl, rfl, trivial⟩ rfl ?_
        rintro _ F9 l9 ⟨rfl, -⟩
        conv => whnf
        refine ⟨Fz.le_trans l3 l9, rfl, rfl, ?_⟩
        conv => whnf
        exact ⟨rfl, ⟨F9, Fz.le_trans q3 l9, m3.mono l9⟩, leR [] hH hT rfl ⟨trivial, trivial⟩ ⟨rfl, trivial⟩ ⟨Fz.le_refl F9, trivial⟩⟩
    · conv => whnf
      refine ⟨Fz.le_refl _, rfl, rfl, ?_⟩
      conv => whnf
      conv => whnf
      refine ⟨Fz.le_refl _, rfl, rfl, ?_⟩
      conv => whnf
      conv => whnf
      refine freezeC 5 (fun _ => .arr 9 1 ([[84, 111, 32, 32, 66, 101]].map encS) 1) rfl rfl rfl (fun _ _ => rfl) (fun _ _ => SB.bB_ok rfl) ?_
      intro b1 F1 l1 hb1
      have m1 := m0.mono l1
      have q1 := Fz.le_trans q0 l1
      refine usePu (text_fn F1 _ [[84, 111, 32, 32, 66, 101]] (Sl.new (l := [[84, 111, 32, 32, 66, 101]]) (cap := 1) (hb1 0 rfl)) (by decide) (by decide)) rfl ⟨⟨rfl, rfl, rfl, .inr ⟨rfl, rfl, rfl, rfl⟩⟩, trivial⟩ rfl ?_
      conv => whnf
      refine ⟨l1, rfl, rfl, ?_⟩
      conv => whnf
      conv => whnf
      refine freezeC 4 (fun _ => .arr 9 1 ([[116, 111, 32, 98, 101]].map encS) 1) rfl rfl rfl (fun _ _ => rfl) (fun _ _ => SB.bB_ok rfl) ?_
      intro b2 F2 l2 hb2
      have m2 := m1.mono l2
      have q2 := Fz.le_trans q1 l2
      refine usePu (text_fn F2 _ [[116, 111, 32, 98, 101]] (Sl.new (l := [[116, 111, 32, 98, 101]]) (cap := 1) (hb2 0 rfl)) (by decide) (by decide)) rfl ⟨⟨rfl, rfl, rfl, .inr ⟨rfl, rfl, rfl, rfl⟩⟩, trivial⟩ rfl ?_
      conv => whnf
      refine ⟨l2, rfl, rfl, ?_⟩
      conv => whnf
      refine freezeC 3 (fun _ => .arr 50 2 ([(1, 0), (2, 0)].map enc) 2) rfl rfl rfl (fun _ _ => rfl) (fun _ _ => SB.bB_ok rfl) ?_
      intro b3 F3 l3 hb3
      have m3 := m2.mono l3
      have q3 := Fz.le_trans q2 l3
      refine useFo (isT F3 m3 _ (Sl.new (l := [(1, 0), (2, 0)]) (cap := 2) (hb3 0 rfl))) rfl ⟨rfl, ⟨rfl, rfl, rfl, .inr ⟨rfl, rfl, rfl, rfl⟩⟩, rfl, rfl, trivial⟩ rfl ?_
      rintro _ F9 l9 ⟨rfl, -⟩
      conv => whnf
      refine ⟨Fz.le_trans l3 l9, rfl, rfl, ?_⟩
      conv => whnf
      exact ⟨rfl, ⟨F9, Fz.le_trans q3 l9, m3.mono l9⟩, leR [] hH hT rfl ⟨trivial, trivial⟩ ⟨rfl, trivial⟩ ⟨Fz.le_refl F9, trivial⟩⟩
  · conv => whnf
    refine ⟨Fz.le_refl _, rfl, rfl, ?_⟩
    conv => whnf
    refine ⟨?_, ?_, ?_⟩
    · conv => whnf
      refine ⟨Fz.le_refl _, rfl, rfl, ?_⟩
      conv => whnf
      refine ⟨?_, ?_⟩
      · conv => whnf
        refine freezeC 3 (fun _ => .arr 9 1 ([[84, 111, 32, 32, 66, 101]].map encS) 1) rfl rfl rfl (fun _ _ => rfl) (fun _ _ => SB.bB_ok rfl) ?_
        intro b1 F1 l1 hb1
        have m1 := m0.mono l1
        have q1 := Fz.le_trans q0 l1
        refine usePu (text_fn F1 _ [[84, 111, 32, 32, 66, 101]] (Sl.new (l := [[84, 111, 32, 32, 66, 101]]) (cap := 1) (hb1 0 rfl)) (by decide) (by decide)) rfl ⟨⟨rfl, rfl, rfl, .inr ⟨rfl, rfl, rfl, rfl⟩⟩, trivial⟩ rfl ?_
        conv => whnf
        refine ⟨l1, rfl, rfl, ?_⟩
        conv => whnf
        conv => whnf
        refine ⟨Fz.le_refl _, rfl, rfl, ?_⟩
        conv => whnf
        conv => whnf
        refine freezeC 5 (fun _ => .arr 9 1 ([[116, 111, 32, 98, 101]].map encS) 1) rfl rfl rfl (fun _ _ => rfl) (fun _ _ => SB.bB_ok rfl) ?_
        intro b2 F2 l2 hb2
        have m2 := m1.mono l2
        have q2 := Fz.le_trans q1 l2
        refine usePu (text_fn F2 _ [[116, 111, 32, 98, 101]] (Sl.new (l := [[116, 111, 32, 98, 101]]) (cap := 1) (hb2 0 rfl)) (by decide) (by decide)) rfl ⟨⟨rfl, rfl, rfl, .inr ⟨rfl, rfl, rfl, rfl⟩⟩, trivial⟩ rfl ?_
        conv => whnf
        refine ⟨l2, rfl, rfl, ?_⟩
        conv => whnf
        refine freezeC 4 (fun _ => .arr 50 2 ([(1, 0), (2, 0)].map enc) 2) rfl rfl rfl (fun _ _ => rfl) (fun _ _ => SB.bB_ok rfl) ?_
        intro b3 F3 l3 hb3
        have m3 := m2.mono l3
        have q3 := Fz.le_trans q2 l3
        refine useFo (isT F3 m3 _ (Sl.new (l := [(1, 0), (2, 0)]) (cap := 2) (hb3 0 rfl))) rfl ⟨rfl, ⟨rfl, rfl, rfl, .inr ⟨rfl, rfl, rfl, rfl⟩⟩, rfl, rfl, trivial⟩ rfl ?_
        rintro _ F9 l9 ⟨rfl, -⟩
        conv => whnf
        refine ⟨Fz.le_trans l3 l9, rfl, rfl, ?_⟩
        conv => whnf
        exact ⟨rfl, ⟨F9, Fz.le_trans q3 l9, m3.mono l9⟩, leR [] hH hT rfl ⟨trivial, trivial⟩ ⟨rfl, trivial⟩ ⟨Fz.le_refl F9, trivial⟩⟩
      · conv => whnf
        refine ⟨Fz.le_refl _, rfl, rfl, ?_⟩
        conv => whnf
        conv => whnf
        refine freezeC 3 (fun _ => .arr 9 1 ([[84, 111, 32, 32, 66, 101]].map encS) 1) rfl rfl rfl (fun _ _ => rfl) (fun _ _ => SB.bB_ok rfl) ?_
        intro b1 F1 l1 hb1
        have m1 := m0.mono l1
        have q1 := Fz.le_trans q0 l1
        refine usePu (text_fn F1 _ [[84, 111, 32, 32, 66, 101]] (Sl.new (l := [[84, 111, 32, 32, 66, 101]]) (cap := 1) (hb1 0 rfl)) (by decide) (by decide)) rfl ⟨⟨rfl, rfl, rfl, .inr ⟨rfl, rfl, rfl, rfl⟩⟩, trivial⟩ rfl ?_
        conv => whnf
        refine ⟨l1, rfl, rfl, ?_⟩
        conv => whnf
        conv => whnf
        refine freezeC 5 (fun _ => .arr 9 1 ([[116, 111, 32, 98, 101]].map encS) 1) rfl rfl rfl (fun _ _ => rfl) (fun _ _ => SB.bB_ok rfl) ?_
        intro b2 F2 l2 hb2
        have m2 := m1.mono l2
        have q2 := Fz.le_trans q1 l2
        refine usePu (text_fn F2 _ [[116, 111, 32, 98, 101]] (Sl.new (l := [[116, 111, 32, 98, 101]]) (cap := 1) (hb2 0 rfl)) (by decide) (by decide)) rfl ⟨⟨rfl, rfl, rfl, .inr ⟨rfl, rfl, rfl, rfl⟩⟩, trivial⟩ rfl ?_
        conv => whnf
        refine ⟨l2, rfl, rfl, ?_⟩
        conv => whnf
        refine freezeC 4 (fun _ => .arr 50 2 ([(1, 0), (2, 0)].map enc) 2) rfl rfl rfl (fun _ _ => rfl) (fun _ _ => SB.bB_ok rfl) ?_
        intro b3 F3 l3 hb3
        have m3 := m2.mono l3
        have q3 := Fz.le_trans q2 l3
        refine useFo (isT F3 m3 _ (Sl.new (l := [(1, 0), (2, 0)]) (cap := 2) (hb3 0 rfl))) rfl ⟨rfl, ⟨rfl, rfl, rfl, .inr ⟨rfl, rfl, rfl, rfl⟩⟩, rfl, rfl, trivial⟩ rfl ?_
        rintro _ F9 l9 ⟨rfl, -⟩
        conv => whnf
        refine ⟨Fz.le_trans l3 l9, rfl, rfl, ?_⟩
        conv => whnf
        exact ⟨rfl, ⟨F9, Fz.le_trans q3 l9, m3.mono l9⟩, leR [] hH hT rfl ⟨trivial, trivial⟩ ⟨rfl, trivial⟩ ⟨Fz.le_refl F9, trivial⟩⟩
    · conv => whnf
      refine freezeC 3 (fun _ => .arr 9 1 ([[84, 111, 32, 32, 66, 101]].map encS) 1) rfl rfl rfl (fun _ _ => rfl) (fun _ _ => SB.bB_ok rfl) ?_
      intro b1 F1 l1 hb1
      have m1 := m0.mono l1
      have q1 := Fz.le_trans q0 l1
      refine usePu (text_fn F1 _ [[84, 111, 32, 32, 66, 101]] (Sl.new (l := [[84, 111, 32, 32, 66, 101]]) (cap := 1) (hb1 0 rfl)) (by decide) (by decide)) rfl ⟨⟨rfl, rfl, rfl, .inr ⟨rfl, rfl, rfl, rfl⟩⟩, trivial⟩ rfl ?_
      conv => whnf
      refine ⟨l1, rfl, rfl, ?_⟩
      conv => whnf
      refine ⟨?_, ?_⟩
      · conv => whnf
        refine ⟨Fz.le_refl _, rfl, rfl, ?_⟩
        conv => whnf
        conv => whnf
        refine ⟨Fz.le_refl _, rfl, rfl, ?_⟩
        conv => whnf
        conv => whnf
        refine freezeC 5 (fun _ => .arr 9 1 ([[116, 111, 32, 98, 101]].map encS) 1) rfl rfl rfl (fun _ _ => rfl) (fun _ _ => SB.bB_ok rfl) ?_
        intro b2 F2 l2 hb2
        have m2 := m1.mono l2
        have q2 := Fz.le_trans q1 l2
        refine usePu (text_fn F2 _ [[116, 111, 32, 98, 101]] (Sl.new (l := [[116, 111, 32, 98, 101]]) (cap := 1) (hb2 0 rfl)) (by decide) (by decide)) rfl ⟨⟨rfl, rfl, rfl, .inr ⟨rfl, rfl, rfl, rfl⟩⟩, trivial⟩ rfl ?_
        conv => whnf
        refine ⟨l2, rfl, rfl, ?_⟩
        conv => whnf
        refine freezeC 4 (fun _ => .arr 50 2 ([(1, 0), (2, 0)].map enc) 2) rfl rfl rfl (fun _ _ => rfl) (fun _ _ => SB.bB_ok rfl) ?_
        intro b3 F3 l3 hb3
        have m3 := m2.mono l3
        have q3 := Fz.le_trans q2 l3
        refine useFo (isT F3 m3 _ (Sl.new (l := [(1, 0), (2, 0)]) (cap := 2) (hb3 0 rfl))) rfl ⟨rfl, ⟨rfl, rfl, rfl, .inr ⟨rfl, rfl, rfl, rfl⟩⟩, rfl, rfl, trivial⟩ rfl ?_
        rintro _ F9 l9 ⟨rfl, -⟩
        conv => whnf
        refine ⟨Fz.le_trans l3 l9, rfl, rfl, ?_⟩
        conv => whnf
        exact ⟨rfl, ⟨F9, Fz.le_trans q3 l9, m3.mono l9⟩, leR [] hH hT rfl ⟨trivial, trivial⟩ ⟨rfl, trivial⟩ ⟨Fz.le_refl F9, trivial⟩⟩
      · conv => whnf
        refine ⟨Fz.le_refl _, rfl, rfl, ?_⟩
        conv => whnf
        refine ⟨?_, ?_⟩
        · conv => whnf
          refine ⟨Fz.le_refl _, rfl, rfl, ?_⟩
          conv => whnf
          conv => whnf
          refine freezeC 4 (fun _ => .arr 9 1 ([[116, 111, 32, 98, 101]].map encS) 1) rfl rfl rfl (fun _ _ => rfl) (fun _ _ => SB.bB_ok rfl) ?_
          intro b2 F2 l2 hb2
          have m2 := m1.mono l2
          have q2 := Fz.le_trans q1 l2
          refine usePu (text_fn F2 _ [[116, 111, 32, 98, 101]] (Sl.new (l := [[116, 111, 32, 98, 101]]) (cap := 1) (hb2 0 rfl)) (by decide) (by decide)) rfl ⟨⟨rfl, rfl, rfl, .inr ⟨rfl, rfl, rfl, rfl⟩⟩, trivial⟩ rfl ?_
          conv => whnf
          refine ⟨l2, rfl, rfl, ?_⟩
          conv => whnf
          refine freezeC 5 (fun _ => .arr 50 2 ([(1, 0), (2, 0)].map enc) 2) rfl rfl rfl (fun _ _ => rfl) (fun _ _ => SB.bB_ok rfl) ?_
          intro b3 F3 l3 hb3
          have m3 := m2.mono l3
          have q3 := Fz.le_trans q2 l3
          refine useFo (isT F3 m3 _ (Sl.new (l := [(1, 0), (2, 0)]) (cap := 2) (hb3 0 rfl))) rfl ⟨rfl, ⟨rfl, rfl, rfl, .inr ⟨rfl, rfl, rfl, rfl⟩⟩, rfl, rfl, trivial⟩ rfl ?_
          rintro _ F9 l9 ⟨rfl, -⟩
          conv => whnf
          refine ⟨Fz.le_trans l3 l9, rfl, rfl, ?_⟩
          conv => whnf
          exact ⟨rfl, ⟨F9, Fz.le_trans q3 l9, m3.mono l9⟩, leR [] hH hT rfl ⟨trivial, trivial⟩ ⟨rfl, trivial⟩ ⟨Fz.le_refl F9, trivial⟩⟩
        · conv => whnf
          refine freezeC 4 (fun _ => .arr 9 1 ([[116, 111, 32, 98, 101]].map encS) 1) rfl rfl rfl (fun _ _ => rfl) (fun _ _ => SB.bB_ok rfl) ?_
          intro b2 F2 l2 hb2
          have m2 := m1.mono l2
          have q2 := Fz.le_trans q1 l2
          refine usePu (text_fn F2 _ [[116, 111, 32, 98, 101]] (Sl.new (l := [[116, 111, 32, 98, 101]]) (cap := 1) (hb2 0 rfl)) (by decide) (by decide)) rfl ⟨⟨rfl, rfl, rfl, .inr ⟨rfl, rfl, rfl, rfl⟩⟩, trivial⟩ rfl ?_
          conv => whnf
          refine ⟨l2, rfl, rfl, ?_⟩
          conv => whnf
          conv => whnf
          refine ⟨Fz.le_refl _, rfl, rfl, ?_⟩
          conv => whnf
          refine freezeC 5 (fun _ => .arr 50 2 ([(1, 0), (2, 0)].map enc) 2) rfl rfl rfl (fun _ _ => rfl) (fun _ _ => SB.bB_ok rfl) ?_
          intro b3 F3 l3 hb3
          have m3 := m2.mono l3
          have q3 := Fz.le_trans q2 l3
          refine useFo (isT F3 m3 _ (Sl.new (l := [(1, 0), (2, 0)]) (cap := 2) (hb3 0 rfl))) rfl ⟨rfl, ⟨rfl, rfl, rfl, .inr ⟨rfl, rfl, rfl, rfl⟩⟩, rfl, rfl, trivial⟩ rfl ?_
          rintro _ F9 l9 ⟨rfl, -⟩
          conv => whnf
          refine ⟨Fz.le_trans l3 l9, rfl, rfl, ?_⟩
          conv => whnf
          exact ⟨rfl, ⟨F9, Fz.le_trans q3 l9, m3.mono l9⟩, leR [] hH hT rfl ⟨trivial, trivial⟩ ⟨rfl, trivial⟩ ⟨Fz.le_refl F9, trivial⟩⟩
    · conv => whnf
      refine ⟨Fz.le_refl _, rfl, rfl, ?_⟩
      conv => whnf
      refine ⟨?_, ?_⟩
      · conv => whnf
        refine ⟨Fz.le_refl _, rfl, rfl, ?_⟩
        conv => whnf
        conv => whnf
        refine freezeC 3 (fun _ => .arr 9 1 ([[84, 111, 32, 32, 66, 101]].map encS) 1) rfl rfl rfl (fun _ _ => rfl) (fun _ _ => SB.bB_ok rfl) ?_
        intro b1 F1 l1 hb1
        have m1 := m0.mono l1
        have q1 := Fz.le_trans q0 l1
        refine usePu (text_fn F1 _ [[84, 111, 32, 32, 66, 101]] (Sl.new (l := [[84, 111, 32, 32, 66, 101]]) (cap := 1) (hb1 0 rfl)) (by decide) (by decide)) rfl ⟨⟨rfl, rfl, rfl, .inr ⟨rfl, rfl, rfl, rfl⟩⟩, trivial⟩ rfl ?_
        conv => whnf
        refine ⟨l1, rfl, rfl, ?_⟩
        conv => whnf
        conv => whnf
        refine freezeC 4 (fun _ => .arr 9 1 ([[116, 111, 32, 98, 101]].map encS) 1) rfl rfl rfl (fun _ _ => rfl) (fun _ _ => SB.bB_ok rfl) ?_
        intro b2 F2 l2 hb2
        have m2 := m1.mono l2
        have q2 := Fz.le_trans q1 l2
        refine usePu (text_fn F2 _ [[116, 111, 32, 98, 101]] (Sl.new (l := [[116, 111, 32, 98, 101]]) (cap := 1) (hb2 0 rfl)) (by decide) (by decide)) rfl ⟨⟨rfl, rfl, rfl, .inr ⟨rfl, rfl, rfl, rfl⟩⟩, trivial⟩ rfl ?_
        conv => whnf
        refine ⟨l2, rfl, rfl, ?_⟩
        conv => whnf
        refine freezeC 5 (fun _ => .arr 50 2 ([(1, 0), (2, 0)].map enc) 2) rfl rfl rfl (fun _ _ => rfl) (fun _ _ => SB.bB_ok rfl) ?_
        intro b3 F3 l3 hb3
        have m3 := m2.mono l3
        have q3 := Fz.le_trans q2 l3
        refine useFo (isT F3 m3 _ (Sl.new (l := [(1, 0), (2, 0)]) (cap := 2) (hb3 0 rfl))) rfl ⟨rfl, ⟨rfl, rfl, rfl, .inr ⟨rfl, rfl, rfl, rfl⟩⟩, rfl, rfl, trivial⟩ rfl ?_
        rintro _ F9 l9 ⟨rfl, -⟩
        conv => whnf
        refine ⟨Fz.le_trans l3 l9, rfl, rfl, ?_⟩
        conv => whnf
        exact ⟨rfl, ⟨F9, Fz.le_trans q3 l9, m3.mono l9⟩, leR [] hH hT rfl ⟨trivial, trivial⟩ ⟨rfl, trivial⟩ ⟨Fz.le_refl F9, trivial⟩⟩
      · conv => whnf
        refine freezeC 3 (fun _ => .arr 9 1 ([[84, 111, 32, 32, 66, 101]].map encS) 1) rfl rfl rfl (fun _ _ => rfl) (fun _ _ => SB.bB_ok rfl) ?_
        intro b1 F1 l1 hb1
        have m1 := m0.mono l1
        have q1 := Fz.le_trans q0 l1
        refine usePu (text_fn F1 _ [[84, 111, 32, 32, 66, 101]] (Sl.new (l := [[84, 111, 32, 32, 66, 101]]) (cap := 1) (hb1 0 rfl)) (by decide) (by decide)) rfl ⟨⟨rfl, rfl, rfl, .inr ⟨rfl, rfl, rfl, rfl⟩⟩, trivial⟩ rfl ?_
        conv => whnf
        refine ⟨l1, rfl, rfl, ?_⟩
        conv => whnf
        refine ⟨?_, ?_⟩
        · conv => whnf
          refine ⟨Fz.le_refl _, rfl, rfl, ?_⟩
          conv => whnf
          conv => whnf
          refine freezeC 4 (fun _ => .arr 9 1 ([[116, 111, 32, 98, 101]].map encS) 1) rfl rfl rfl (fun _ _ => rfl) (fun _ _ => SB.bB_ok rfl) ?_
          intro b2 F2 l2 hb2
          have m2 := m1.mono l2
          have q2 := Fz.le_trans q1 l2
          refine usePu (text_fn F2 _ [[116, 111, 32, 98, 101]] (Sl.new (l := [[116, 111, 32, 98, 101]]) (cap := 1) (hb2 0 rfl)) (by decide) (by decide)) rfl ⟨⟨rfl, rfl, rfl, .inr ⟨rfl, rfl, rfl, rfl⟩⟩, trivial⟩ rfl ?_
          conv => whnf
          refine ⟨l2, rfl, rfl, ?_⟩
          conv => whnf
          refine freezeC 5 (fun _ => .arr 50 2 ([(1, 0), (2, 0)].map enc) 2) rfl rfl rfl (fun _ _ => rfl) (fun _ _ => SB.bB_ok rfl) ?_
          intro b3 F3 l3 hb3
          have m3 := m2.mono l3
          have q3 := Fz.le_trans q2 l3
          refine useFo (isT F3 m3 _ (Sl.new (l := [(1, 0), (2, 0)]) (cap := 2) (hb3 0 rfl))) rfl ⟨rfl, ⟨rfl, rfl, rfl, .inr ⟨rfl, rfl, rfl, rfl⟩⟩, rfl, rfl, trivial⟩ rfl ?_
          rintro _ F9 l9 ⟨rfl, -⟩
          conv => whnf
          refine ⟨Fz.le_trans l3 l9, rfl, rfl, ?_⟩
          conv => whnf
          exact ⟨rfl, ⟨F9, Fz.le_trans q3 l9, m3.mono l9⟩, leR [] hH hT rfl ⟨trivial, trivial⟩ ⟨rfl, trivial⟩ ⟨Fz.le_refl F9, trivial⟩⟩
        · conv => whnf
          refine freezeC 4 (fun _ => .arr 9 1 ([[116, 111, 32, 98, 101]].map encS) 1) rfl rfl rfl (fun _ _ => rfl) (fun _ _ => SB.bB_ok rfl) ?_
          intro b2 F2 l2 hb2
          have m2 := m1.mono l2
          have q2 := Fz.le_trans q1 l2
          refine usePu (text_fn F2 _ [[116, 111, 32, 98, 101]] (Sl.new (l := [[116, 111, 32, 98, 101]]) (cap := 1) (hb2 0 rfl)) (by decide) (by decide)) rfl ⟨⟨rfl, rfl, rfl, .inr ⟨rfl, rfl, rfl, rfl⟩⟩, trivial⟩ rfl ?_
          conv => whnf
          refine ⟨l2, rfl, rfl, ?_⟩
          conv => whnf
          conv => whnf
          refine ⟨Fz.le_refl _, rfl, rfl, ?_⟩
          conv => whnf
          refine freezeC 5 (fun _ => .arr 50 2 ([(1, 0), (2, 0)].map enc) 2) rfl rfl rfl (fun _ _ => rfl) (fun _ _ => SB.bB_ok rfl) ?_
          intro b3 F3 l3 hb3
          have m3 := m2.mono l3
          have q3 := Fz.le_trans q2 l3
          refine useFo (isT F3 m3 _ (Sl.new (l := [(1, 0), (2, 0)]) (cap := 2) (hb3 0 rfl))) rfl ⟨rfl, ⟨rfl, rfl, rfl, .inr ⟨rfl, rfl, rfl, rfl⟩⟩, rfl, rfl, trivial⟩ rfl ?_
          rintro _ F9 l9 ⟨rfl, -⟩
          conv => whnf
          refine ⟨Fz.le_trans l3 l9, rfl, rfl, ?_⟩
          conv => whnf
          exact ⟨rfl, ⟨F9, Fz.le_trans q3 l9, m3.mono l9⟩, leR [] hH hT rfl ⟨trivial, trivial⟩ ⟨rfl, trivial⟩ ⟨Fz.le_refl F9, trivial⟩⟩
  · conv => whnf
    refine ⟨Fz.le_refl _, rfl, rfl, ?_⟩
    conv => whnf
    refine ⟨?_, ?_⟩
    · conv => whnf
      refine ⟨Fz.le_refl _, rfl, rfl, ?_⟩
      conv => whnf
      conv => whnf
      refine ⟨Fz.le_refl _, rfl, rfl, ?_⟩
      conv => whnf
      conv => whnf
      refine freezeC 5 (fun _ => .arr 9 1 ([[84, 111, 32, 32, 66, 101]].map encS) 1) rfl rfl rfl (fun _ _ => rfl) (fun _ _ => SB.bB_ok rfl) ?_
      intro b1 F1 l1 hb1
      have m1 := m0.mono l1
      have q1 := Fz.le_trans q0 l1
      refine usePu (text_fn F1 _ [[84, 111, 32, 32, 66, 101]] (Sl.new (l := [[84, 111, 32, 32, 66, 101]]) (cap := 1) (hb1 0 rfl)) (by decide) (by decide)) rfl ⟨⟨rfl, rfl, rfl, .inr ⟨rfl, rfl, rfl, rfl⟩⟩, trivial⟩ rfl ?_
      conv => whnf
      refine ⟨l1, rfl, rfl, ?_⟩
      conv => whnf
      conv => whnf
      refine freezeC 3 (fun _ => .arr 9 1 ([[116, 111, 32, 98, 101]].map encS) 1) rfl rfl rfl (fun _ _ => rfl) (fun _ _ => SB.bB_ok rfl) ?_
      intro b2 F2 l2 hb2
      have m2 := m1.mono l2
      have q2 := Fz.le_trans q1 l2
      refine usePu (text_fn F2 _ [[116, 111, 32, 98, 101]] (Sl.new (l := [[116, 111, 32, 98, 101]]) (cap := 1) (hb2 0 rfl)) (by decide) (by decide)) rfl ⟨⟨rfl, rfl, rfl, .inr ⟨rfl, rfl, rfl, rfl⟩⟩, trivial⟩ rfl ?_
      conv => whnf
      refine ⟨l2, rfl, rfl, ?_⟩
      conv => whnf
      refine freezeC 4 (fun _ => .arr 50 2 ([(1, 0), (2, 0)].map enc) 2) rfl rfl rfl (fun _ _ => rfl) (fun _ _ => SB.bB_ok rfl) ?_
      intro b3 F3 l3 hb3
      have m3 := m2.mono l3
      have q3 := Fz.le_trans q2 l3
      refine useFo (isT F3 m3 _ (Sl.new (l := [(1, 0), (2, 0)]) (cap := 2) (hb3 0 rfl))) rfl ⟨rfl, ⟨rfl, rfl, rfl, .inr ⟨rfl, rfl, rfl, rfl⟩⟩, rfl, rfl, trivial⟩ rfl ?_
      rintro _ F9 l9 ⟨rfl, -⟩
      conv => whnf
      refine ⟨Fz.le_trans l3 l9, rfl, rfl, ?_⟩
      conv => whnf
      exact ⟨rfl, ⟨F9, Fz.le_trans q3 l9, m3.mono l9⟩, leR [] hH hT rfl ⟨trivial, trivial⟩ ⟨rfl, trivial⟩ ⟨Fz.le_refl F9, trivial⟩⟩
    · conv => whnf
      refine ⟨Fz.le_refl _, rfl, rfl, ?_⟩
      conv => whnf
      refine ⟨?_, ?_⟩
      · conv => whnf
        refine ⟨Fz.le_refl _, rfl, rfl, ?_⟩
        conv => whnf
        conv => whnf
        refine freezeC 4 (fun _ => .arr 9 1 ([[84, 111, 32, 32, 66, 101]].map encS) 1) rfl rfl rfl (fun _ _ => rfl) (fun _ _ => SB.bB_ok rfl) ?_
        intro b1 F1 l1 hb1
        have m1 := m0.mono l1
        have q1 := Fz.le_trans q0 l1
        refine usePu (text_fn F1 _ [[84, 111, 32, 32, 66, 101]] (Sl.new (l := [[84, 111, 32, 32, 66, 101]]) (cap := 1) (hb1 0 rfl)) (by decide) (by decide)) rfl ⟨⟨rfl, rfl, rfl, .inr ⟨rfl, rfl, rfl, rfl⟩⟩, trivial⟩ rfl ?_
        conv => whnf
        refine ⟨l1, rfl, rfl, ?_⟩
        conv => whnf
        conv => whnf
        refine freezeC 3 (fun _ => .arr 9 1 ([[116, 111, 32, 98, 101]].map encS) 1) rfl rfl rfl (fun _ _ => rfl) (fun _ _ => SB.bB_ok rfl) ?_
        intro b2 F2 l2 hb2
        have m2 := m1.mono l2
        have q2 := Fz.le_trans q1 l2
        refine usePu (text_fn F2 _ [[116, 111, 32, 98, 101]] (Sl.new (l := [[116, 111, 32, 98, 101]]) (cap := 1) (hb2 0 rfl)) (by decide) (by decide)) rfl ⟨⟨rfl, rfl, rfl, .inr ⟨rfl, rfl, rfl, rfl⟩⟩, trivial⟩ rfl ?_
        conv => whnf
        refine ⟨l2, rfl, rfl, ?_⟩
        conv => whnf
        refine freezeC 5 (fun _ => .arr 50 2 ([(1, 0), (2, 0)].map enc) 2) rfl rfl rfl (fun _ _ => rfl) (fun _ _ => SB.bB_ok rfl) ?_
        intro b3 F3 l3 hb3
        have m3 := m2.mono l3
        have q3 := Fz.le_trans q2 l3
        refine useFo (isT F3 m3 _ (Sl.new (l := [(1, 0), (2, 0)]) (cap := 2) (hb3 0 rfl))) rfl ⟨rfl, ⟨rfl, rfl, rfl, .inr ⟨rfl, rfl, rfl, rfl⟩⟩, rfl, rfl, trivial⟩ rfl ?_
        rintro _ F9 l9 ⟨rfl, -⟩
        conv => whnf
        refine ⟨Fz.le_trans l3 l9, rfl, rfl, ?_⟩
        conv => whnf
        exact ⟨rfl, ⟨F9, Fz.le_trans q3 l9, m3.mono l9⟩, leR [] hH hT rfl ⟨trivial, trivial⟩ ⟨rfl, trivial⟩ ⟨Fz.le_refl F9, trivial⟩⟩
      · conv => whnf
        refine freezeC 4 (fun _ => .arr 9 1 ([[84, 111, 32, 32, 66, 101]].map encS) 1) rfl rfl rfl (fun _ _ => rfl) (fun _ _ => SB.bB_ok rfl) ?_
        intro b1 F1 l1 hb1
        have m1 := m0.mono l1
        have q1 := Fz.le_trans q0 l1
        refine usePu (text_fn F1 _ [[84, 111, 32, 32, 66, 101]] (Sl.new (l := [[84, 111, 32, 32, 66, 101]]) (cap := 1) (hb1 0 rfl)) (by decide) (by decide)) rfl ⟨⟨rfl, rfl, rfl, .inr ⟨rfl, rfl, rfl, rfl⟩⟩, trivial⟩ rfl ?_
        conv => whnf
        refine ⟨l1, rfl, rfl, ?_⟩
        conv => whnf
        refine ⟨?_, ?_⟩
        · conv => whnf
          refine ⟨Fz.le_refl _, rfl, rfl, ?_⟩
          conv => whnf
          conv => whnf
          refine freezeC 3 (fun _ => .arr 9 1 ([[116, 111, 32, 98, 101]].map encS) 1) rfl rfl rfl (fun _ _ => rfl) (fun _ _ => SB.bB_ok rfl) ?_
          intro b2 F2 l2 hb2
          have m2 := m1.mono l2
          have q2 := Fz.le_trans q1 l2
          refine usePu (text_fn F2 _ [[116, 111, 32, 98, 101]] (Sl.new (l := [[116, 111, 32, 98, 101]]) (cap := 1) (hb2 0 rfl)) (by decide) (by decide)) rfl ⟨⟨rfl, rfl, rfl, .inr ⟨rfl, rfl, rfl, rfl⟩⟩, trivial⟩ rfl ?_
          conv => whnf
          refine ⟨l2, rfl, rfl, ?_⟩
          conv => whnf
          refine freezeC 5 (fun _ => .arr 50 2 ([(1, 0), (2, 0)].map enc) 2) rfl rfl rfl (fun _ _ => rfl) (fun _ _ => SB.bB_ok rfl) ?_
          intro b3 F3 l3 hb3
          have m3 := m2.mono l3
          have q3 := Fz.le_trans q2 l3
          refine useFo (isT F3 m3 _ (Sl.new (l := [(1, 0), (2, 0)]) (cap := 2) (hb3 0 rfl))) rfl ⟨rfl, ⟨rfl, rfl, rfl, .inr ⟨rfl, rfl, rfl, rfl⟩⟩, rfl, rfl, trivial⟩ rfl ?_
          rintro _ F9 l9 ⟨rfl, -⟩
          conv => whnf
          refine ⟨Fz.le_trans l3 l9, rfl, rfl, ?_⟩
          conv => whnf
          exact ⟨rfl, ⟨F9, Fz.le_trans q3 l9, m3.mono l9⟩, leR [] hH hT rfl ⟨trivial, trivial⟩ ⟨rfl, trivial⟩ ⟨Fz.le_refl F9, trivial⟩⟩
        · conv => whnf
          refine freezeC 3 (fun _ => .arr 9 1 ([[116, 111, 32, 98, 101]].map encS) 1) rfl rfl rfl (fun _ _ => rfl) (fun _ _ => SB.bB_ok rfl) ?_
          intro b2 F2 l2 hb2
          have m2 := m1.mono l2
          have q2 := Fz.le_trans q1 l2
          refine usePu (text_fn F2 _ [[116, 111, 32, 98, 101]] (Sl.new (l := [[116, 111, 32, 98, 101]]) (cap := 1) (hb2 0 rfl)) (by decide) (by decide)) rfl ⟨⟨rfl, rfl, rfl, .inr ⟨rfl, rfl, rfl, rfl⟩⟩, trivial⟩ rfl ?_
          conv => whnf
          refine ⟨l2, rfl, rfl, ?_⟩
          conv => whnf
          conv => whnf
          refine ⟨Fz.le_refl _, rfl, rfl, ?_⟩
          conv => whnf
          refine freezeC 5 (fun _ => .arr 50 2 ([(1, 0), (2, 0)].map enc) 2) rfl rfl rfl (fun _ _ => rfl) (fun _ _ => SB.bB_ok rfl) ?_
          intro b3 F3 l3 hb3
          have m3 := m2.mono l3
          have q3 := Fz.le_trans q2 l3
          refine useFo (isT F3 m3 _ (Sl.new (l := [(1, 0), (2, 0)]) (cap := 2) (hb3 0 rfl))) rfl ⟨rfl, ⟨rfl, rfl, rfl, .inr ⟨rfl, rfl, rfl, rfl⟩⟩, rfl, rfl, trivial⟩ rfl ?_
          rintro _ F9 l9 ⟨rfl, -⟩
          conv => whnf
          refine ⟨Fz.le_trans l3 l9, rfl, rfl, ?_⟩
          conv => whnf
          exact ⟨rfl, ⟨F9, Fz.le_trans q3 l9, m3.mono l9⟩, leR [] hH hT rfl ⟨trivial, trivial⟩ ⟨rfl, trivial⟩ ⟨Fz.le_refl F9, trivial⟩⟩
end Go.Proofs.YtblllibdahkgfaaGreatDoor
