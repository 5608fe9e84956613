import Derived.Test.YtblllibdahkgfaaGreatDoorK28

namespace Go.Proofs.YtblllibdahkgfaaGreatDoor
open Go Sx
set_option maxRecDepth 100000
set_option maxHeartbeats 16000000 in
theorem law3_fn (F0 : Fz) (m0 : MLF F0) (p : Int) (hp : i64 p) (nv n1 n2 n3 : Bool) (bv b1 b2 b3 ev e1 e2 e3 sv s1 s2 s3 lv l1 l2 l3 cv c1 c2 c3 : Nat) (x y z : List Int)
    (hv : SomeArg F0 (.slice nv 0 bv ev sv lv cv)) (hx : StepsArg F0 (.slice n1 0 b1 e1 s1 l1 c1) x) (hy : StepsArg F0 (.slice n2 0 b2 e2 s2 l2 c2) y) (hz : StepsArg F0 (.slice n3 0 b3 e3 s3 l3 c3) z) :
    Fo Tryz.prog F0 5 [.va (.int .i64 p), .va (.slice nv 0 bv ev sv lv cv), .va (.slice n1 0 b1 e1 s1 l1 c1), .va (.slice n2 0 b2 e2 s2 l2 c2), .va (.slice n3 0 b3 e3 s3 l3 c3)] (fun o F' => o = .ret (.va (.bool true)) ∧ True) := by
  have hpr := pickI_lt p 8 (by omega) hp
  have hsane := saneL F0 m0
  have hprop := property_pu p hp
  obtain ⟨P, hP⟩ : ∃ P, P = 1 + pickI p 8 := ⟨_, rfl⟩
  have hP8 : 1 ≤ P ∧ P ≤ 8 := by omega
  rw [← hP] at hprop
  have va := stepsS_valid hP8 x
  have vb := stepsS_valid hP8 y
  have vc := stepsS_valid hP8 z
  have vn := nilV hP8
  obtain ⟨a, hA⟩ : ∃ a, stepsS P x = a := ⟨_, rfl⟩
  obtain ⟨b, hB⟩ : ∃ b, stepsS P y = b := ⟨_, rfl⟩
  obtain ⟨c, hC⟩ : ∃ c, stepsS P z = c := ⟨_, rfl⟩
  rw [hA] at va
  rw [hB] at vb
  rw [hC] at vc
  have fin : ∀ (F1 : Fz) (h : Hp) (nx : Nat), lget h 0 = some (.frz F1) → Fz.le F0 F1 → Cln 1 (FoK F0 fun o F' => o = .ret (.va (.bool true)) ∧ True) (.ret (.va (.bool true))) h nx := by
    intro F1 h nx h0 hle
    exact endFo (.ret (.va (.bool true))) F1 h0 hle (Fz.le_refl F1) ⟨rfl, trivial⟩ (outE_refl _) rfl
  refine fo_of hΘ Tryz.func5 rfl (by decide) _ _ rfl rfl rfl ?_
  conv => whnf
  refine useFo hsane rfl (argsE_refl _) rfl ?_
  rintro _ F1 u1 ⟨rfl, -⟩
  conv => whnf
  refine usePu (hprop F1) rfl (argsE_refl _) rfl ?_
  conv => whnf
  refine useFo (hv P F1 hP8 u1) rfl ⟨rfl, ⟨rfl, rfl, rfl, .inr ⟨rfl, rfl, rfl, rfl⟩⟩, trivial⟩ rfl ?_
  rintro _ F2 u ⟨v, vok, rfl⟩
  have u2 := Fz.le_trans u1 u
  clear u
  conv => whnf
  refine useFo (hx P F2 hP8 u2) rfl ⟨rfl, ⟨rfl, rfl, rfl, .inr ⟨rfl, rfl, rfl, rfl⟩⟩, trivial⟩ rfl ?_
  rintro _ F3 u ⟨sa, rfl, ha⟩
  rw [hA] at ha
  have u3 := Fz.le_trans u2 u
  clear u
  have ha' := ha
  obtain ⟨han, hab, hae, hac, haL, har, rfl, ha1, ha2, ha3, ha4⟩ := ha
  conv => whnf
  refine useFo (hy P F3 hP8 u3) rfl ⟨rfl, ⟨rfl, rfl, rfl, .inr ⟨rfl, rfl, rfl, rfl⟩⟩, trivial⟩ rfl ?_
  rintro _ F4 u ⟨sb, rfl, hb⟩
  rw [hB] at hb
  have u4 := Fz.le_trans u3 u
  have ha4 := ha'.mono u
  clear u
  have hb' := hb
  obtain ⟨hbn, hbb, hbe, hbc, hbL, hbr, rfl, hb1, hb2, hb3, hb4⟩ := hb
  conv => whnf
  refine useFo (hz P F4 hP8 u4) rfl ⟨rfl, ⟨rfl, rfl, rfl, .inr ⟨rfl, rfl, rfl, rfl⟩⟩, trivial⟩ rfl ?_
  rintro _ F5 u ⟨sc, rfl, hc⟩
  rw [hC] at hc
  have u5 := Fz.le_trans u4 u
  have ha5 := ha4.mono u
  have hb5 := hb'.mono u
  clear u ha4 ha' hb'
  have hc' := hc
  obtain ⟨hcn, hcb, hce, hcc, hcL, hcr, rfl, hc1, hc2, hc3, hc4⟩ := hc
  conv => whnf
  refine useFo (compOk va vb F5 _ _ ha5 hb5) rfl ⟨rfl, ⟨rfl, rfl, rfl, .inr ⟨rfl, rfl, rfl, rfl⟩⟩, ⟨rfl, rfl, rfl, .inr ⟨rfl, rfl, rfl, rfl⟩⟩, trivial⟩ rfl ?_
  rintro _ F6 u ⟨sab, rfl, hab⟩
  have u6 := Fz.le_trans u5 u
  have ha6 := ha5.mono u
  have hb6 := hb5.mono u
  have hc6 := hc'.mono u
  clear u ha5 hb5 hc'
  have hab' := hab
  obtain ⟨habn, habb, habe, habc, habL, habr, rfl, hab1, hab2, hab3, hab4⟩ := hab
  conv => whnf
  refine useFo (compOk vb vc F6 _ _ hb6 hc6) rfl ⟨rfl, ⟨rfl, rfl, rfl, .inr ⟨rfl, rfl, rfl, rfl⟩⟩, ⟨rfl, rfl, rfl, .inr ⟨rfl, rfl, rfl, rfl⟩⟩, trivial⟩ rfl ?_
  rintro _ F7 u ⟨sbc, rfl, hbc⟩
  have u7 := Fz.le_trans u6 u
  have ha7 := ha6.mono u
  have hb7 := hb6.mono u
  have hc7 := hc6.mono u
  have hab7 := hab'.mono u
  clear u ha6 hb6 hc6 hab'
  have hbc' := hbc
  obtain ⟨hbcn, hbcb, hbce, hbcc, hbcL, hbcr, rfl, hbc1, hbc2, hbc3, hbc4⟩ := hbc
  conv => whnf
  refine useFo (compOk (compV va vb) vc F7 _ _ hab7 hc7) rfl ⟨rfl, ⟨rfl, rfl, rfl, .inr ⟨rfl, rfl, rfl, rfl⟩⟩, ⟨rfl, rfl, rfl, .inr ⟨rfl, rfl, rfl, rfl⟩⟩, trivial⟩ rfl ?_
  rintro _ F8 u ⟨s1', rfl, hone⟩
  have u8 := Fz.le_trans u7 u
  have ha8 := ha7.mono u
  have hb8 := hb7.mono u
  have hab8 := hab7.mono u
  have hbc8 := hbc'.mono u
  clear u ha7 hb7 hc7 hab7 hbc'
  have hone' := hone
  obtain ⟨honen, honeb, honee, honec, honeL, honer, rfl, hone1, hone2, hone3, hone4⟩ := hone
  conv => whnf
  refine useFo (compOk va (compV vb vc) F8 _ _ ha8 hbc8) rfl ⟨rfl, ⟨rfl, rfl, rfl, .inr ⟨rfl, rfl, rfl, rfl⟩⟩, ⟨rfl, rfl, rfl, .inr ⟨rfl, rfl, rfl, rfl⟩⟩, trivial⟩ rfl ?_
  rintro _ F9 u ⟨s2', rfl, htwo⟩
  rw [← comp_assoc] at htwo
  have u9 := Fz.le_trans u8 u
  have ha9 := ha8.mono u
  have hb9 := hb8.mono u
  have hab9 := hab8.mono u
  have hone9 := hone'.mono u
  clear u ha8 hb8 hab8 hbc8 hone'
  have htwo' := htwo
  obtain ⟨htwon, htwob, htwoe, htwoc, htwoL, htwor, rfl, htwo1, htwo2, htwo3, htwo4⟩ := htwo
  conv => whnf
  refine useFo (compOk vn va F9 (.slice true 0 0 0 2 0 0) _ Sl.nil ha9) rfl ⟨rfl, ⟨rfl, rfl, rfl⟩, ⟨rfl, rfl, rfl, .inr ⟨rfl, rfl, rfl, rfl⟩⟩, trivial⟩ rfl ?_
  rintro _ F10 u ⟨s3', rfl, hleft⟩
  rw [List.nil_append] at hleft
  have u10 := Fz.le_trans u9 u
  have ha10 := ha9.mono u
  have hb10 := hb9.mono u
  have hab10 := hab9.mono u
  have hone10 := hone9.mono u
  have htwo10 := htwo'.mono u
  clear u ha9 hb9 hab9 hone9 htwo'
  have hleft' := hleft
  obtain ⟨hleftn, hleftb, hlefte, hleftc, hleftL, hleftr, rfl, hleft1, hleft2, hleft3, hleft4⟩ := hleft
  conv => whnf
  refine useFo (compOk va vn F10 _ (.slice true 0 0 0 2 0 0) ha10 Sl.nil) rfl ⟨rfl, ⟨rfl, rfl, rfl, .inr ⟨rfl, rfl, rfl, rfl⟩⟩, ⟨rfl, rfl, rfl⟩, trivial⟩ rfl ?_
  rintro _ F11 u ⟨s4', rfl, hright⟩
  rw [List.append_nil] at hright
  have u11 := Fz.le_trans u10 u
  have ha11 := ha10.mono u
  have hb11 := hb10.mono u
  have hab11 := hab10.mono u
  have hone11 := hone10.mono u
  have htwo11 := htwo10.mono u
  have hleft11 := hleft'.mono u
  clear u ha10 hb10 hab10 hone10 htwo10 hleft'
  have hright' := hright
  obtain ⟨hrightn, hrightb, hrighte, hrightc, hrightL, hrightr, rfl, hright1, hright2, hright3, hright4⟩ := hright
  have hS1 := sameL F11 _ _ _ hone11 htwo11 (valid_short (compV (compV va vb) vc))
  have hS2 := sameL F11 _ _ _ hleft11 hright' (valid_short (normV va))
  have hM11 := m0.mono u11
  have hap1 := applyOk va vok F11 hM11 _ ha11
  have rv1 := run_ok va vok
  have e3 := run_comp va vb vok
  have e4 := run_normV va vok
  conv => whnf
  iterate 6
    refine ⟨fun _ => ?_, fun g => absurd g (by simp)⟩
    conv => whnf
  refine useFo (hS1) rfl ⟨⟨rfl, rfl, rfl, .inr ⟨rfl, rfl, rfl, rfl⟩⟩, ⟨rfl, rfl, rfl, .inr ⟨rfl, rfl, rfl, rfl⟩⟩, trivial⟩ rfl ?_
  rintro _ F12 _ ⟨rfl, rfl⟩
  conv => whnf
  refine useFo (hS2) rfl ⟨⟨rfl, rfl, rfl, .inr ⟨rfl, rfl, rfl, rfl⟩⟩, ⟨rfl, rfl, rfl, .inr ⟨rfl, rfl, rfl, rfl⟩⟩, trivial⟩ rfl ?_
  rintro _ F12 _ ⟨rfl, rfl⟩
  conv => whnf
  refine useFo (hap1) rfl ⟨rfl, ⟨rfl, rfl, rfl, .inr ⟨rfl, rfl, rfl, rfl⟩⟩, rfl, trivial⟩ rfl ?_
  rintro _ F13 u rfl
  have u13 := Fz.le_trans u11 u
  have hb13 := hb11.mono u
  have hab13 := hab11.mono u
  have hleft13 := hleft11.mono u
  have hM13 := m0.mono u13
  have hap2 := applyOk vb rv1 F13 hM13 _ hb13
  conv => whnf
  refine useFo (hap2) rfl ⟨rfl, ⟨rfl, rfl, rfl, .inr ⟨rfl, rfl, rfl, rfl⟩⟩, rfl, trivial⟩ rfl ?_
  rintro _ F14 u' rfl
  have u14 := Fz.le_trans u13 u'
  have hab14 := hab13.mono u'
  have hleft14 := hleft13.mono u'
  have hM14 := m0.mono u14
  have his1 := isOk (compV va vb) vok (by rw [e3]) F14 hM14 _ hab14
  conv => whnf
  iterate 2
    refine ⟨fun _ => ?_, fun g => absurd g (by simp)⟩
    conv => whnf
  refine useFo (his1) rfl ⟨rfl, ⟨rfl, rfl, rfl, .inr ⟨rfl, rfl, rfl, rfl⟩⟩, rfl, rfl, trivial⟩ rfl ?_
  rintro _ F15 u'' ⟨rfl, -⟩
  have u15 := Fz.le_trans u14 u''
  have hleft15 := hleft14.mono u''
  have hM15 := m0.mono u15
  have his2 := isOk (normV va) vok (by rw [e4]) F15 hM15 _ hleft15
  conv => whnf
  refine useFo (his2) rfl ⟨rfl, ⟨rfl, rfl, rfl, .inr ⟨rfl, rfl, rfl, rfl⟩⟩, rfl, rfl, trivial⟩ rfl ?_
  rintro _ F16 u3' ⟨rfl, -⟩
  conv => whnf
  exact fin F16 _ _ rfl (Fz.le_trans u15 u3')
end Go.Proofs.YtblllibdahkgfaaGreatDoor
