import Derived.Test.YtblllibdahkgfaaGreatDoorK27

namespace Go.Proofs.YtblllibdahkgfaaGreatDoor
open Go Sx
set_option maxRecDepth 100000
theorem sameLd {a b : List Stp} {d : Bool} (h : decide (a = b) = d) (F : Fz) (sa sb : SA) (ha : StepsAt F sa a) (hb : StepsAt F sb b) (la : a.length < 1000000) :
    Fo Tryz.prog F 19 [.va sa, .va sb] (fun o F' => o = .ret (.va (.lit d)) ∧ F' = F) := by
  have h1 := same_fn F sa sb a b ha hb la
  rw [h] at h1
  exact Fo_lit h1
set_option maxHeartbeats 32000000 in
theorem law5_fn (F0 : Fz) (m0 : MLF F0) (p : Int) (hp : i64 p) (nv nw n1 n2 n3 : Bool) (bv bw b1 b2 b3 ev ew e1 e2 e3 sv sw s1 s2 s3 lv lw l1 l2 l3 cv cw c1 c2 c3 : Nat) (x y z : List Int)
    (hv : SomeArg F0 (.slice nv 0 bv ev sv lv cv)) (hw : SomeArg F0 (.slice nw 0 bw ew sw lw cw)) (hx : StepsArg F0 (.slice n1 0 b1 e1 s1 l1 c1) x) (hy : StepsArg F0 (.slice n2 0 b2 e2 s2 l2 c2) y) (hz : StepsArg F0 (.slice n3 0 b3 e3 s3 l3 c3) z) :
    Fo Tryz.prog F0 7 [.va (.int .i64 p), .va (.slice nv 0 bv ev sv lv cv), .va (.slice nw 0 bw ew sw lw cw), .va (.slice n1 0 b1 e1 s1 l1 c1), .va (.slice n2 0 b2 e2 s2 l2 c2), .va (.slice n3 0 b3 e3 s3 l3 c3)] (fun o F' => o = .ret (.va (.bool true)) ∧ True) := by
  have hpr := pickI_lt p 8 (by omega) hp
  have hsane := saneL F0 m0
  have hprop := property_pu p hp
  obtain ⟨P, hP⟩ : ∃ P, P = 1 + pickI p 8 := ⟨_, rfl⟩
  have hP8 : 1 ≤ P ∧ P ≤ 8 := by omega
  rw [← hP] at hprop
  have va := stepsS_valid hP8 x
  have vb := stepsS_valid hP8 y
  have vc := stepsS_valid hP8 z
  have vn := nilV hP8
  have vl := lost_valid hP8
  obtain ⟨a, hA⟩ : ∃ a, stepsS P x = a := ⟨_, rfl⟩
  obtain ⟨b, hB⟩ : ∃ b, stepsS P y = b := ⟨_, rfl⟩
  obtain ⟨c, hC⟩ : ∃ c, stepsS P z = c := ⟨_, rfl⟩
  rw [hA] at va
  rw [hB] at vb
  rw [hC] at vc
  obtain ⟨ab, qab⟩ : ∃ t, coarS P a b = t := ⟨_, rfl⟩
  obtain ⟨ba, qba⟩ : ∃ t, coarS P b a = t := ⟨_, rfl⟩
  obtain ⟨bc, qbc⟩ : ∃ t, coarS P b c = t := ⟨_, rfl⟩
  have hanti : ab = true → decide (normS a = normS b) = ba := fun h => by rw [← qba, coar_anti va vb (qab.trans h)]
  have htrans : ab = true → bc = true → coarS P a c = true := fun h h2 => coar_trans va vb vc (qab.trans h) (qbc.trans h2)
  have hcr0 : ab = true → ∀ one two, VOK P one → VOK P two → writeS P (runS b one) = writeS P (runS b two) → writeS P (runS a one) = writeS P (runS a two) := fun h one two o1 o2 e => by
    obtain ⟨d, hd, hr⟩ := coar_run va vb (qab.trans h)
    have e2 := write_inj hP8 (run_ok vb o1) (run_ok vb o2) e
    rw [hr one o1, hr two o2, e2]
  have fin : ∀ (t : Bool) (F1 : Fz) (h : Hp) (nx : Nat), t = true → lget h 0 = some (.frz F1) → Fz.le F0 F1 → Cln 1 (FoK F0 fun o F' => o = .ret (.va (.bool true)) ∧ True) (.ret (.va (.bool t))) h nx := by
    intro t F1 h nx ht h0 hle
    subst ht
    exact endFo (.ret (.va (.bool true))) F1 h0 hle (Fz.le_refl F1) ⟨rfl, trivial⟩ (outE_refl _) rfl
  refine fo_of hΘ Tryz.func7 rfl (by decide) _ _ rfl rfl rfl ?_
  conv => whnf
  refine useFo hsane rfl (argsE_refl _) rfl ?_
  rintro _ F1 u1 ⟨rfl, -⟩
  conv => whnf
  refine usePu (hprop F1) rfl (argsE_refl _) rfl ?_
  conv => whnf
  refine useFo (hx P F1 hP8 u1) rfl ⟨rfl, ⟨rfl, rfl, rfl, .inr ⟨rfl, rfl, rfl, rfl⟩⟩, trivial⟩ rfl ?_
  rintro _ F3 u ⟨sa, rfl, ha⟩
  rw [hA] at ha
  have u3 := Fz.le_trans u1 u
  clear u
  have ha' := ha
  obtain ⟨han, hab, hae, hac, haL, har, rfl, ha1, ha2, ha3, ha4⟩ := ha
  conv => whnf
  refine useFo (hy P F3 hP8 u3) rfl ⟨rfl, ⟨rfl, rfl, rfl, .inr ⟨rfl, rfl, rfl, rfl⟩⟩, trivial⟩ rfl ?_
  rintro _ F4 u ⟨sb, rfl, hb⟩
  rw [hB] at hb
  have u4 := Fz.le_trans u3 u
  have ha4 := ha'.mono u
  clear u ha'
  have hb' := hb
  obtain ⟨hbn, hbb, hbe, hbc, hbL, hbr, rfl, hb1, hb2, hb3, hb4⟩ := hb
  conv => whnf
  refine useFo (hz P F4 hP8 u4) rfl ⟨rfl, ⟨rfl, rfl, rfl, .inr ⟨rfl, rfl, rfl, rfl⟩⟩, trivial⟩ rfl ?_
  rintro _ F5 u ⟨sc, rfl, hc⟩
  rw [hC] at hc
  have u5 := Fz.le_trans u4 u
  have ha5 := ha4.mono u
  have hb5 := hb'.mono u
  clear u ha4 hb'
  have hc' := hc
  obtain ⟨hcn, hcb, hce, hcc, hcL, hcr, rfl, hc1, hc2, hc3, hc4⟩ := hc
  conv => whnf
  refine useFo (normOk va F5 _ ha5) rfl ⟨rfl, ⟨rfl, rfl, rfl, .inr ⟨rfl, rfl, rfl, rfl⟩⟩, trivial⟩ rfl ?_
  rintro _ F6 u ⟨sm, rfl, hm⟩
  have u6 := Fz.le_trans u5 u
  have ha6 := ha5.mono u
  have hb6 := hb5.mono u
  have hc6 := hc'.mono u
  clear u ha5 hb5 hc'
  have hm' := hm
  obtain ⟨hmn, hmb, hme, hmc, hmL, hmr, rfl, hm1, hm2, hm3, hm4⟩ := hm
  conv => whnf
  refine useFo (normOk vb F6 _ hb6) rfl ⟨rfl, ⟨rfl, rfl, rfl, .inr ⟨rfl, rfl, rfl, rfl⟩⟩, trivial⟩ rfl ?_
  rintro _ F7 u ⟨sn, rfl, hn⟩
  have u7 := Fz.le_trans u6 u
  have ha7 := ha6.mono u
  have hb7 := hb6.mono u
  have hc7 := hc6.mono u
  have hm7 := hm'.mono u
  clear u ha6 hb6 hc6 hm'
  have hn' := hn
  obtain ⟨hnn, hnb, hne, hnc, hnL, hnr, rfl, hn1, hn2, hn3, hn4⟩ := hn
  have k1 := coarL (coar_refl va) F7 _ _ ha7 ha7 (valid_short va) (valid_short va)
  conv => whnf
  iterate 2
    refine ⟨fun _ => ?_, fun g => absurd g (by simp)⟩
    conv => whnf
  refine useFo (k1) rfl ⟨rfl, ⟨rfl, rfl, rfl, .inr ⟨rfl, rfl, rfl, rfl⟩⟩, ⟨rfl, rfl, rfl, .inr ⟨rfl, rfl, rfl, rfl⟩⟩, trivial⟩ rfl ?_
  rintro _ F8 u ⟨rfl, -⟩
  have u8 := Fz.le_trans u7 u
  have ha8 := ha7.mono u
  have hb8 := hb7.mono u
  have hc8 := hc7.mono u
  have hm8 := hm7.mono u
  have hn8 := hn'.mono u
  clear u ha7 hb7 hc7 hm7 hn'
  have k2 := coarL (coar_nil va) F8 _ (.slice true 0 0 0 2 0 0) ha8 Sl.nil (valid_short va) (by decide)
  conv => whnf
  refine useFo (k2) rfl ⟨rfl, ⟨rfl, rfl, rfl, .inr ⟨rfl, rfl, rfl, rfl⟩⟩, ⟨rfl, rfl, rfl⟩, trivial⟩ rfl ?_
  rintro _ F9 u ⟨rfl, -⟩
  have u9 := Fz.le_trans u8 u
  have ha9 := ha8.mono u
  have hb9 := hb8.mono u
  have hc9 := hc8.mono u
  have hm9 := hm8.mono u
  have hn9 := hn8.mono u
  clear u ha8 hb8 hc8 hm8 hn8
  conv => whnf
  refine freezeC 1 (fun _ => .arr 50 2 (([(6, 0)] : List Stp).map enc) 1) rfl rfl rfl (fun _ _ => rfl) (fun _ _ => SB.bB_ok rfl) ?_
  intro bl F10 u hbl
  have u10 := Fz.le_trans u9 u
  have ha10 := ha9.mono u
  have hb10 := hb9.mono u
  have hc10 := hc9.mono u
  have hm10 := hm9.mono u
  have hn10 := hn9.mono u
  clear u ha9 hb9 hc9 hm9 hn9
  have k3 := coarL (coar_lost va) F10 _ _ (Sl.new (l := ([(6, 0)] : List Stp)) (cap := 1) (hbl 0 rfl)) ha10 (by decide) (valid_short va)
  refine useFo (k3) rfl ⟨rfl, ⟨rfl, rfl, rfl, .inr ⟨rfl, rfl, rfl, rfl⟩⟩, ⟨rfl, rfl, rfl, .inr ⟨rfl, rfl, rfl, rfl⟩⟩, trivial⟩ rfl ?_
  rintro _ F11 u ⟨rfl, -⟩
  have u11 := Fz.le_trans u10 u
  have ha11 := ha10.mono u
  have hb11 := hb10.mono u
  have hc11 := hc10.mono u
  have hm11 := hm10.mono u
  have hn11 := hn10.mono u
  clear u ha10 hb10 hc10 hm10 hn10
  have k4 := coarL qab F11 _ _ ha11 hb11 (valid_short va) (valid_short vb)
  conv => whnf
  refine useFo (k4) rfl ⟨rfl, ⟨rfl, rfl, rfl, .inr ⟨rfl, rfl, rfl, rfl⟩⟩, ⟨rfl, rfl, rfl, .inr ⟨rfl, rfl, rfl, rfl⟩⟩, trivial⟩ rfl ?_
  rintro _ F12 u ⟨rfl, -⟩
  have u12 := Fz.le_trans u11 u
  have ha12 := ha11.mono u
  have hb12 := hb11.mono u
  have hc12 := hc11.mono u
  have hm12 := hm11.mono u
  have hn12 := hn11.mono u
  clear u ha11 hb11 hc11 hm11 hn11
  have k5 := coarL qba F12 _ _ hb12 ha12 (valid_short vb) (valid_short va)
  conv => whnf
  refine useFo (k5) rfl ⟨rfl, ⟨rfl, rfl, rfl, .inr ⟨rfl, rfl, rfl, rfl⟩⟩, ⟨rfl, rfl, rfl, .inr ⟨rfl, rfl, rfl, rfl⟩⟩, trivial⟩ rfl ?_
  rintro _ F13 u ⟨rfl, -⟩
  have u13 := Fz.le_trans u12 u
  have ya := ha12.mono u
  have yb := hb12.mono u
  have yc := hc12.mono u
  have ym := hm12.mono u
  have yn := hn12.mono u
  clear u ha12 hb12 hc12 hm12 hn12
  rcases ab with _ | _
  · conv => whnf
    have hvv := hv P F13 hP8 u13
    refine useFo (hvv) rfl ⟨rfl, ⟨rfl, rfl, rfl, .inr ⟨rfl, rfl, rfl, rfl⟩⟩, trivial⟩ rfl ?_
    rintro _ T1 u ⟨one, ok1, rfl⟩
    have w1 := Fz.le_trans u13 u
    have ya1 := ya.mono u
    have yb1 := yb.mono u
    clear u ya yb
    conv => whnf
    refine useFo (hw P T1 hP8 w1) rfl ⟨rfl, ⟨rfl, rfl, rfl, .inr ⟨rfl, rfl, rfl, rfl⟩⟩, trivial⟩ rfl ?_
    rintro _ T2 u ⟨two, ok2, rfl⟩
    have w2 := Fz.le_trans w1 u
    have ya2 := ya1.mono u
    have yb2 := yb1.mono u
    clear u ya1 yb1
    have hp1 := applyOk vb ok1 T2 (m0.mono w2) _ yb2
    conv => whnf
    refine useFo (hp1) rfl ⟨rfl, ⟨rfl, rfl, rfl, .inr ⟨rfl, rfl, rfl, rfl⟩⟩, rfl, trivial⟩ rfl ?_
    rintro _ T3 u rfl
    have w3 := Fz.le_trans w2 u
    have ya3 := ya2.mono u
    have yb3 := yb2.mono u
    clear u ya2 yb2
    have hp2 := applyOk vb ok2 T3 (m0.mono w3) _ yb3
    conv => whnf
    refine useFo (hp2) rfl ⟨rfl, ⟨rfl, rfl, rfl, .inr ⟨rfl, rfl, rfl, rfl⟩⟩, rfl, trivial⟩ rfl ?_
    rintro _ T4 u rfl
    have w4 := Fz.le_trans w3 u
    have ya4 := ya3.mono u
    clear u ya3 yb3
    have hp3 := applyOk va ok1 T4 (m0.mono w4) _ ya4
    conv => whnf
    refine useFo (hp3) rfl ⟨rfl, ⟨rfl, rfl, rfl, .inr ⟨rfl, rfl, rfl, rfl⟩⟩, rfl, trivial⟩ rfl ?_
    rintro _ T5 u rfl
    have w5 := Fz.le_trans w4 u
    have ya5 := ya4.mono u
    clear u ya4
    have hp4 := applyOk va ok2 T5 (m0.mono w5) _ ya5
    conv => whnf
    refine useFo (hp4) rfl ⟨rfl, ⟨rfl, rfl, rfl, .inr ⟨rfl, rfl, rfl, rfl⟩⟩, rfl, trivial⟩ rfl ?_
    rintro _ T6 u rfl
    have w6 := Fz.le_trans w5 u
    clear u ya5
    conv => whnf
    iterate 4
      refine ⟨fun _ => ?_, fun g => absurd g (by simp)⟩
      conv => whnf
    exact fin true T6 _ _ rfl rfl w6
  · have hd := hanti rfl
    have hcr := hcr0 rfl
    have htr := htrans rfl
    have k6 := sameLd hd F13 _ _ ym yn (valid_short (normV va))
    conv => whnf
    refine useFo (k6) rfl ⟨⟨rfl, rfl, rfl, .inr ⟨rfl, rfl, rfl, rfl⟩⟩, ⟨rfl, rfl, rfl, .inr ⟨rfl, rfl, rfl, rfl⟩⟩, trivial⟩ rfl ?_
    rintro _ F14 _ ⟨rfl, rfl⟩
    rcases ba with _ | _
    · conv => whnf
      refine ⟨fun _ => ?_, fun g => absurd g (by simp)⟩
      conv => whnf
      have k7 := coarL qbc F14 _ _ yb yc (valid_short vb) (valid_short vc)
      refine useFo (k7) rfl ⟨rfl, ⟨rfl, rfl, rfl, .inr ⟨rfl, rfl, rfl, rfl⟩⟩, ⟨rfl, rfl, rfl, .inr ⟨rfl, rfl, rfl, rfl⟩⟩, trivial⟩ rfl ?_
      rintro _ F15 u ⟨rfl, -⟩
      have u15 := Fz.le_trans u13 u
      replace ya := ya.mono u
      replace yb := yb.mono u
      replace yc := yc.mono u
      clear u
      rcases bc with _ | _
      · conv => whnf
        have hvv := hv P F15 hP8 u15
        refine useFo (hvv) rfl ⟨rfl, ⟨rfl, rfl, rfl, .inr ⟨rfl, rfl, rfl, rfl⟩⟩, trivial⟩ rfl ?_
        rintro _ T1 u ⟨one, ok1, rfl⟩
        have w1 := Fz.le_trans u15 u
        have ya1 := ya.mono u
        have yb1 := yb.mono u
        clear u ya yb
        conv => whnf
        refine useFo (hw P T1 hP8 w1) rfl ⟨rfl, ⟨rfl, rfl, rfl, .inr ⟨rfl, rfl, rfl, rfl⟩⟩, trivial⟩ rfl ?_
        rintro _ T2 u ⟨two, ok2, rfl⟩
        have w2 := Fz.le_trans w1 u
        have ya2 := ya1.mono u
        have yb2 := yb1.mono u
        clear u ya1 yb1
        have hp1 := applyOk vb ok1 T2 (m0.mono w2) _ yb2
        conv => whnf
        refine useFo (hp1) rfl ⟨rfl, ⟨rfl, rfl, rfl, .inr ⟨rfl, rfl, rfl, rfl⟩⟩, rfl, trivial⟩ rfl ?_
        rintro _ T3 u rfl
        have w3 := Fz.le_trans w2 u
        have ya3 := ya2.mono u
        have yb3 := yb2.mono u
        clear u ya2 yb2
        have hp2 := applyOk vb ok2 T3 (m0.mono w3) _ yb3
        conv => whnf
        refine useFo (hp2) rfl ⟨rfl, ⟨rfl, rfl, rfl, .inr ⟨rfl, rfl, rfl, rfl⟩⟩, rfl, trivial⟩ rfl ?_
        rintro _ T4 u rfl
        have w4 := Fz.le_trans w3 u
        have ya4 := ya3.mono u
        clear u ya3 yb3
        have hp3 := applyOk va ok1 T4 (m0.mono w4) _ ya4
        conv => whnf
        refine useFo (hp3) rfl ⟨rfl, ⟨rfl, rfl, rfl, .inr ⟨rfl, rfl, rfl, rfl⟩⟩, rfl, trivial⟩ rfl ?_
        rintro _ T5 u rfl
        have w5 := Fz.le_trans w4 u
        have ya5 := ya4.mono u
        clear u ya4
        have hp4 := applyOk va ok2 T5 (m0.mono w5) _ ya5
        conv => whnf
        refine useFo (hp4) rfl ⟨rfl, ⟨rfl, rfl, rfl, .inr ⟨rfl, rfl, rfl, rfl⟩⟩, rfl, trivial⟩ rfl ?_
        rintro _ T6 u rfl
        have w6 := Fz.le_trans w5 u
        clear u ya5
        have hlast := hcr one two ok1 ok2
        conv => whnf
        iterate 4
          refine ⟨fun _ => ?_, fun g => absurd g (by simp)⟩
          conv => whnf
        refine ⟨fun g => ?_, fun g => ?_⟩
        · have hkk : (writeS P (runS a one) == writeS P (runS a two)) = true := beq_iff_eq.2 (hlast (by simpa using g))
          clear g
          conv => whnf
          exact fin _ T6 _ _ hkk rfl w6
        · clear g
          conv => whnf
          exact fin true T6 _ _ rfl rfl w6
      · have k8 := coarL (htr rfl) F15 _ _ ya yc (valid_short va) (valid_short vc)
        conv => whnf
        refine useFo (k8) rfl ⟨rfl, ⟨rfl, rfl, rfl, .inr ⟨rfl, rfl, rfl, rfl⟩⟩, ⟨rfl, rfl, rfl, .inr ⟨rfl, rfl, rfl, rfl⟩⟩, trivial⟩ rfl ?_
        rintro _ F16 u ⟨rfl, -⟩
        have u16 := Fz.le_trans u15 u
        replace ya := ya.mono u
        replace yb := yb.mono u
        clear u
        conv => whnf
        have hvv := hv P F16 hP8 u16
        refine useFo (hvv) rfl ⟨rfl, ⟨rfl, rfl, rfl, .inr ⟨rfl, rfl, rfl, rfl⟩⟩, trivial⟩ rfl ?_
        rintro _ T1 u ⟨one, ok1, rfl⟩
        have w1 := Fz.le_trans u16 u
        have ya1 := ya.mono u
        have yb1 := yb.mono u
        clear u ya yb
        conv => whnf
        refine useFo (hw P T1 hP8 w1) rfl ⟨rfl, ⟨rfl, rfl, rfl, .inr ⟨rfl, rfl, rfl, rfl⟩⟩, trivial⟩ rfl ?_
        rintro _ T2 u ⟨two, ok2, rfl⟩
        have w2 := Fz.le_trans w1 u
        have ya2 := ya1.mono u
        have yb2 := yb1.mono u
        clear u ya1 yb1
        have hp1 := applyOk vb ok1 T2 (m0.mono w2) _ yb2
        conv => whnf
        refine useFo (hp1) rfl ⟨rfl, ⟨rfl, rfl, rfl, .inr ⟨rfl, rfl, rfl, rfl⟩⟩, rfl, trivial⟩ rfl ?_
        rintro _ T3 u rfl
        have w3 := Fz.le_trans w2 u
        have ya3 := ya2.mono u
        have yb3 := yb2.mono u
        clear u ya2 yb2
        have hp2 := applyOk vb ok2 T3 (m0.mono w3) _ yb3
        conv => whnf
        refine useFo (hp2) rfl ⟨rfl, ⟨rfl, rfl, rfl, .inr ⟨rfl, rfl, rfl, rfl⟩⟩, rfl, trivial⟩ rfl ?_
        rintro _ T4 u rfl
        have w4 := Fz.le_trans w3 u
        have ya4 := ya3.mono u
        clear u ya3 yb3
        have hp3 := applyOk va ok1 T4 (m0.mono w4) _ ya4
        conv => whnf
        refine useFo (hp3) rfl ⟨rfl, ⟨rfl, rfl, rfl, .inr ⟨rfl, rfl, rfl, rfl⟩⟩, rfl, trivial⟩ rfl ?_
        rintro _ T5 u rfl
        have w5 := Fz.le_trans w4 u
        have ya5 := ya4.mono u
        clear u ya4
        have hp4 := applyOk va ok2 T5 (m0.mono w5) _ ya5
        conv => whnf
        refine useFo (hp4) rfl ⟨rfl, ⟨rfl, rfl, rfl, .inr ⟨rfl, rfl, rfl, rfl⟩⟩, rfl, trivial⟩ rfl ?_
        rintro _ T6 u rfl
        have w6 := Fz.le_trans w5 u
        clear u ya5
        have hlast := hcr one two ok1 ok2
        conv => whnf
        iterate 4
          refine ⟨fun _ => ?_, fun g => absurd g (by simp)⟩
          conv => whnf
        refine ⟨fun g => ?_, fun g => ?_⟩
        · have hkk : (writeS P (runS a one) == writeS P (runS a two)) = true := beq_iff_eq.2 (hlast (by simpa using g))
          clear g
          conv => whnf
          exact fin _ T6 _ _ hkk rfl w6
        · clear g
          conv => whnf
          exact fin true T6 _ _ rfl rfl w6
    · conv => whnf
      refine ⟨fun _ => ?_, fun g => absurd g (by simp)⟩
      conv => whnf
      have k7 := coarL qbc F14 _ _ yb yc (valid_short vb) (valid_short vc)
      refine useFo (k7) rfl ⟨rfl, ⟨rfl, rfl, rfl, .inr ⟨rfl, rfl, rfl, rfl⟩⟩, ⟨rfl, rfl, rfl, .inr ⟨rfl, rfl, rfl, rfl⟩⟩, trivial⟩ rfl ?_
      rintro _ F15 u ⟨rfl, -⟩
      have u15 := Fz.le_trans u13 u
      replace ya := ya.mono u
      replace yb := yb.mono u
      replace yc := yc.mono u
      clear u
      rcases bc with _ | _
      · conv => whnf
        have hvv := hv P F15 hP8 u15
        refine useFo (hvv) rfl ⟨rfl, ⟨rfl, rfl, rfl, .inr ⟨rfl, rfl, rfl, rfl⟩⟩, trivial⟩ rfl ?_
        rintro _ T1 u ⟨one, ok1, rfl⟩
        have w1 := Fz.le_trans u15 u
        have ya1 := ya.mono u
        have yb1 := yb.mono u
        clear u ya yb
        conv => whnf
        refine useFo (hw P T1 hP8 w1) rfl ⟨rfl, ⟨rfl, rfl, rfl, .inr ⟨rfl, rfl, rfl, rfl⟩⟩, trivial⟩ rfl ?_
        rintro _ T2 u ⟨two, ok2, rfl⟩
        have w2 := Fz.le_trans w1 u
        have ya2 := ya1.mono u
        have yb2 := yb1.mono u
        clear u ya1 yb1
        have hp1 := applyOk vb ok1 T2 (m0.mono w2) _ yb2
        conv => whnf
        refine useFo (hp1) rfl ⟨rfl, ⟨rfl, rfl, rfl, .inr ⟨rfl, rfl, rfl, rfl⟩⟩, rfl, trivial⟩ rfl ?_
        rintro _ T3 u rfl
        have w3 := Fz.le_trans w2 u
        have ya3 := ya2.mono u
        have yb3 := yb2.mono u
        clear u ya2 yb2
        have hp2 := applyOk vb ok2 T3 (m0.mono w3) _ yb3
        conv => whnf
        refine useFo (hp2) rfl ⟨rfl, ⟨rfl, rfl, rfl, .inr ⟨rfl, rfl, rfl, rfl⟩⟩, rfl, trivial⟩ rfl ?_
        rintro _ T4 u rfl
        have w4 := Fz.le_trans w3 u
        have ya4 := ya3.mono u
        clear u ya3 yb3
        have hp3 := applyOk va ok1 T4 (m0.mono w4) _ ya4
        conv => whnf
        refine useFo (hp3) rfl ⟨rfl, ⟨rfl, rfl, rfl, .inr ⟨rfl, rfl, rfl, rfl⟩⟩, rfl, trivial⟩ rfl ?_
        rintro _ T5 u rfl
        have w5 := Fz.le_trans w4 u
        have ya5 := ya4.mono u
        clear u ya4
        have hp4 := applyOk va ok2 T5 (m0.mono w5) _ ya5
        conv => whnf
        refine useFo (hp4) rfl ⟨rfl, ⟨rfl, rfl, rfl, .inr ⟨rfl, rfl, rfl, rfl⟩⟩, rfl, trivial⟩ rfl ?_
        rintro _ T6 u rfl
        have w6 := Fz.le_trans w5 u
        clear u ya5
        have hlast := hcr one two ok1 ok2
        conv => whnf
        iterate 4
          refine ⟨fun _ => ?_, fun g => absurd g (by simp)⟩
          conv => whnf
        refine ⟨fun g => ?_, fun g => ?_⟩
        · have hkk : (writeS P (runS a one) == writeS P (runS a two)) = true := beq_iff_eq.2 (hlast (by simpa using g))
          clear g
          conv => whnf
          exact fin _ T6 _ _ hkk rfl w6
        · clear g
          conv => whnf
          exact fin true T6 _ _ rfl rfl w6
      · have k8 := coarL (htr rfl) F15 _ _ ya yc (valid_short va) (valid_short vc)
        conv => whnf
        refine useFo (k8) rfl ⟨rfl, ⟨rfl, rfl, rfl, .inr ⟨rfl, rfl, rfl, rfl⟩⟩, ⟨rfl, rfl, rfl, .inr ⟨rfl, rfl, rfl, rfl⟩⟩, trivial⟩ rfl ?_
        rintro _ F16 u ⟨rfl, -⟩
        have u16 := Fz.le_trans u15 u
        replace ya := ya.mono u
        replace yb := yb.mono u
        clear u
        conv => whnf
        have hvv := hv P F16 hP8 u16
        refine useFo (hvv) rfl ⟨rfl, ⟨rfl, rfl, rfl, .inr ⟨rfl, rfl, rfl, rfl⟩⟩, trivial⟩ rfl ?_
        rintro _ T1 u ⟨one, ok1, rfl⟩
        have w1 := Fz.le_trans u16 u
        have ya1 := ya.mono u
        have yb1 := yb.mono u
        clear u ya yb
        conv => whnf
        refine useFo (hw P T1 hP8 w1) rfl ⟨rfl, ⟨rfl, rfl, rfl, .inr ⟨rfl, rfl, rfl, rfl⟩⟩, trivial⟩ rfl ?_
        rintro _ T2 u ⟨two, ok2, rfl⟩
        have w2 := Fz.le_trans w1 u
        have ya2 := ya1.mono u
        have yb2 := yb1.mono u
        clear u ya1 yb1
        have hp1 := applyOk vb ok1 T2 (m0.mono w2) _ yb2
        conv => whnf
        refine useFo (hp1) rfl ⟨rfl, ⟨rfl, rfl, rfl, .inr ⟨rfl, rfl, rfl, rfl⟩⟩, rfl, trivial⟩ rfl ?_
        rintro _ T3 u rfl
        have w3 := Fz.le_trans w2 u
        have ya3 := ya2.mono u
        have yb3 := yb2.mono u
        clear u ya2 yb2
        have hp2 := applyOk vb ok2 T3 (m0.mono w3) _ yb3
        conv => whnf
        refine useFo (hp2) rfl ⟨rfl, ⟨rfl, rfl, rfl, .inr ⟨rfl, rfl, rfl, rfl⟩⟩, rfl, trivial⟩ rfl ?_
        rintro _ T4 u rfl
        have w4 := Fz.le_trans w3 u
        have ya4 := ya3.mono u
        clear u ya3 yb3
        have hp3 := applyOk va ok1 T4 (m0.mono w4) _ ya4
        conv => whnf
        refine useFo (hp3) rfl ⟨rfl, ⟨rfl, rfl, rfl, .inr ⟨rfl, rfl, rfl, rfl⟩⟩, rfl, trivial⟩ rfl ?_
        rintro _ T5 u rfl
        have w5 := Fz.le_trans w4 u
        have ya5 := ya4.mono u
        clear u ya4
        have hp4 := applyOk va ok2 T5 (m0.mono w5) _ ya5
        conv => whnf
        refine useFo (hp4) rfl ⟨rfl, ⟨rfl, rfl, rfl, .inr ⟨rfl, rfl, rfl, rfl⟩⟩, rfl, trivial⟩ rfl ?_
        rintro _ T6 u rfl
        have w6 := Fz.le_trans w5 u
        clear u ya5
        have hlast := hcr one two ok1 ok2
        conv => whnf
        iterate 4
          refine ⟨fun _ => ?_, fun g => absurd g (by simp)⟩
          conv => whnf
        refine ⟨fun g => ?_, fun g => ?_⟩
        · have hkk : (writeS P (runS a one) == writeS P (runS a two)) = true := beq_iff_eq.2 (hlast (by simpa using g))
          clear g
          conv => whnf
          exact fin _ T6 _ _ hkk rfl w6
        · clear g
          conv => whnf
          exact fin true T6 _ _ rfl rfl w6
end Go.Proofs.YtblllibdahkgfaaGreatDoor
