import Derived.Test.YtblllibdahkgfaaGreatDoorK32

namespace Go.Proofs.YtblllibdahkgfaaGreatDoor
open Go Sx
set_option maxRecDepth 100000
set_option maxHeartbeats 16000000 in
theorem cellsfalse_fn (hP : PFun) (F : Fz) (bn : Bool) (bb be bc : Nat) (K : List Cel) (hb : Sl F 172 6 encK (.slice bn 0 bb be 6 K.length bc) K) (hl : K.length ≤ 1000) :
    Ct Tryz.prog 118 [.va (.ptr ⟨1, 0, 0, 0, 0⟩), .va (.slice bn 0 bb be 6 K.length bc), .va (.lit false)] F (wrH false 0 []) 3 (wrL (pcells false K)) := by
  have hfl : (K.filter (keepQ false)).length ≤ K.length := List.length_filter_le _ _
  have hpc : pcells false K = numbersS [((K.filter (keepQ false)).length : Int)] ++ ((K.filter (keepQ false)).map fun c => numbersS [c.row, c.col, c.value]).flatten := rfl
  have hpl : ∀ l : List Cel, ((l.map fun c => numbersS [c.row, c.col, c.value]).flatten).length ≤ l.length * 1000 := fun l => pcells_len false l
  by_cases hne : K = []
  · subst hne
    have hpc : pcells false [] = [] ++ numbersS [((0 : Nat) : Int)] := by simp [pcells]
    have hcl := clone0_fn F bn bb be bc hb
    refine ct_of hΘ Tryz.func118 rfl (by decide) _ _ rfl rfl rfl ?_
    conv => whnf
    refine useFo hcl rfl ⟨⟨rfl, rfl, rfl, .inr ⟨rfl, rfl, rfl, rfl⟩⟩, trivial⟩ rfl ?_
    rintro _ F1 l1 ⟨sa, rfl, hsa⟩
    conv => whnf
    refine freezeC 3 (fun _ => .cells 4 [.lit false]) rfl rfl rfl (fun _ _ => rfl) (fun _ _ => SB.bB_ok rfl) ?_
    intro bx F2 l2 hbx
    have hde := dele0_fn F2 sa false (bx 0) (hsa.mono l2) (hbx 0 rfl)
    have hsa2 := hsa.mono l2
    obtain ⟨hbn, hbb, hbe, hbc, hbL, hbr, rfl, hb1, hb2, hb3, hb4⟩ := hsa2
    refine useFo hde rfl ⟨⟨rfl, rfl, rfl, .inr ⟨rfl, rfl, rfl, rfl⟩⟩, rfl, trivial⟩ rfl ?_
    rintro _ F' l3 ⟨rfl, rfl⟩
    conv => whnf
    refine freezeC 4 (fun _ => .arr 3 1 ([((0 : Nat) : Int)].map encI) 1) rfl rfl rfl (fun _ _ => rfl) (fun _ _ => SB.bB_ok rfl) ?_
    intro b1 F3 l4 hb1'
    refine use (wnum_fn hP F3 _ [((0 : Nat) : Int)] false [] 0 (fun _ => rfl) (Sl.new (l := [((0 : Nat) : Int)]) (cap := 1) (hb1' 0 rfl)) (by simp) (by simp)) [(1, 1), (2, 2)] rfl ⟨rfl, ⟨rfl, rfl, rfl, .inr ⟨rfl, rfl, rfl, rfl⟩⟩, trivial⟩ rfl ⟨wrC_below _ (by omega) (by omega) _ _, gE_below encB_plain _ _ _ _ _, trivial⟩ (by simp [SV.below, SA.below]) ⟨wrC_sub (by rfl) (by rfl), sub_gE encB_plain (gE_self _ _ _ _), trivial⟩ ?_
    rintro out0 F' h0 n0 hle ⟨rfl, rfl, rfl, u1, c1, hu1, rfl⟩
    conv => whnf
    refine loop_at hΘ (X := { x : Nat // x = 0 }) (fun x => [(21, .va (.int .i64 x.1))]) [8, 22, 23, 24, 25, 26, 27, 28, 29, 30, 31, 32, 33, 34, 35, 36, 37, 38, 39, 40, 41, 42, 43, 44, 45, 46]
      (fun x => [(0, .frz F3), (1, wrC u1 1 6 c1 ([] ++ numbersS [((0 : Nat) : Int)])), (5, .gone), (6, gE 5 1 encB c1 ([] ++ numbersS [((0 : Nat) : Int)]))]) 7 (fun x => 0) ⟨0, rfl⟩
      (fun hH hT => leI [(6, 5)] hH hT rfl ⟨trivial, wrC_below _ (by omega) (by omega) _ _, trivial, gE_below encB_plain _ _ _ _ _, trivial⟩ ⟨rfl, trivial⟩ ⟨Fz.le_refl F3, wrC_sub2 (i' := 1) (j' := 5) (by rfl) (by rfl) (by rfl) (by rfl) rfl, sub_gE2 encB_plain, trivial⟩) ?_
    rintro ⟨k, rfl⟩ hH hT
    conv => whnf
    refine br (fun g2 => absurd g2 (by decide)) (fun _ => ?_)
    conv => whnf
    exact clean [(3, 6)] (.ret (.tup [])) F3 (wrM u1 c1 ([] ++ numbersS [((0 : Nat) : Int)])) 4 ⟨Fz.le_trans l1 (Fz.le_trans l2 l4), rfl, rfl, u1, c1, by rw [hpc]; exact hu1, by rw [hpc]⟩ trivial rfl rfl (Out.bB_ok (o := .ret (.tup [])) rfl) (wrM_below _ _ _) ⟨Fz.le_refl F3, wrC_sub (by rfl) (by rfl), sub_gE encB_plain (gE_self _ _ _ _), trivial⟩
  · have hcl := clone_fn F bn bb be bc K hne hb hl
    refine ct_of hΘ Tryz.func118 rfl (by decide) _ _ rfl rfl rfl ?_
    conv => whnf
    refine use hcl [] rfl ⟨⟨rfl, rfl, rfl, .inr ⟨rfl, rfl, rfl, rfl⟩⟩, trivial⟩ rfl trivial (by simp [SV.below, SA.below]) trivial ?_
    rintro _ F1 h0 n0 l1 ⟨rfl, c, hcc, rfl, rfl⟩
    conv => whnf
    refine freezeC 3 (fun _ => .cells 4 [.lit false]) rfl rfl rfl (fun _ _ => rfl) (fun _ _ => SB.bB_ok rfl) ?_
    intro bx F2 l2 hbx
    refine use (dele_fn F2 c K false (bx 0) hne (hbx 0 rfl) hl hcc) [(1, 4)] rfl ⟨⟨rfl, rfl, rfl, .inr ⟨rfl, rfl, rfl, rfl⟩⟩, rfl, trivial⟩ rfl ⟨gE_below encK_plain _ _ _ _ _, trivial⟩ (by simp [SV.below, SA.below]) ⟨sub_gE2 encK_plain, trivial⟩ ?_
    rintro _ F3 h0 n0 l3 ⟨rfl, rfl, rb, rfl, hR⟩
    have hbx3 := l3 _ _ (hbx 0 rfl)
    have hl3 := Fz.le_trans l1 (Fz.le_trans l2 l3)
    clear hcl l1 l2 l3 hbx hcc hne hb
    conv => whnf
    refine freezeC 5 (fun _ => .arr 3 1 ([(((K.filter (keepQ false)).length : Nat) : Int)].map encI) 1) rfl rfl rfl (fun _ _ => rfl) (fun _ _ => SB.bB_ok rfl) ?_
    intro b1 F4 l4 hb1'
    refine use (wnum_fn hP F4 _ [(((K.filter (keepQ false)).length : Nat) : Int)] false [] 0 (fun _ => rfl) (Sl.new (l := [(((K.filter (keepQ false)).length : Nat) : Int)]) (cap := 1) (hb1' 0 rfl)) (by simp) (by simp)) [(1, 1), (2, 2)] rfl ⟨rfl, ⟨rfl, rfl, rfl, .inr ⟨rfl, rfl, rfl, rfl⟩⟩, trivial⟩ rfl ⟨wrC_below _ (by omega) (by omega) _ _, gE_below encB_plain _ _ _ _ _, trivial⟩ (by simp [SV.below, SA.below]) ⟨wrC_sub (by rfl) (by rfl), sub_gE encB_plain (gE_self _ _ _ _), trivial⟩ ?_
    rintro out0 F' h0 n0 hle ⟨rfl, rfl, rfl, u1, c1, hu1, rfl⟩
    conv => whnf
    refine loop_at hΘ (X := { x : Nat × List UInt8 × Nat × Bool × Fz // Fz.le F4 x.2.2.2.2 ∧ x.1 ≤ (K.filter (keepQ false)).length ∧ x.2.1 = numbersS [(((K.filter (keepQ false)).length : Nat) : Int)] ++ (((K.filter (keepQ false)).take x.1).map fun c => numbersS [c.row, c.col, c.value]).flatten ∧ (x.2.2.2.1 = false → x.2.1 = []) }) (fun x => [(21, .va (.int .i64 x.1.1))]) [8, 22, 23, 24, 25, 26, 27, 28, 29, 30, 31, 32, 33, 34, 35, 36, 37, 38, 39, 40, 41, 42, 43, 44, 45, 46]
      (fun x => [(0, .frz x.1.2.2.2.2), (1, wrC x.1.2.2.2.1 1 7 x.1.2.2.1 x.1.2.1), (6, .gone), (7, gE 5 1 encB x.1.2.2.1 x.1.2.1)]) 8 (fun x => (K.filter (keepQ false)).length - x.1.1) ⟨(0, [] ++ numbersS [(((K.filter (keepQ false)).length : Nat) : Int)], c1, u1, F4), Fz.le_refl F4, by simpa using hu1⟩
      (fun hH hT => leI [(7, 6)] hH hT rfl ⟨trivial, wrC_below _ (by omega) (by omega) _ _, trivial, gE_below encB_plain _ _ _ _ _, trivial⟩ ⟨rfl, trivial⟩ ⟨Fz.le_refl F4, wrC_sub2 (i' := 1) (j' := 6) (by rfl) (by rfl) (by rfl) (by rfl) rfl, sub_gE2 encB_plain, trivial⟩) ?_
    rintro ⟨⟨k, ob, cb, ub, G⟩, hG, hk, hob, hub⟩ hH hT
    replace hG : Fz.le F4 G := hG
    replace hk : k ≤ (K.filter (keepQ false)).length := hk
    replace hob : ob = numbersS [(((K.filter (keepQ false)).length : Nat) : Int)] ++ (((K.filter (keepQ false)).take k).map fun c => numbersS [c.row, c.col, c.value]).flatten := hob
    replace hub : ub = false → ob = [] := hub
    have hlen : ob.length ≤ 100000000000 := by
      have h9 := hpl ((K.filter (keepQ false)).take k)
      have h8 := numbersS_len [(((K.filter (keepQ false)).length : Nat) : Int)]
      rw [List.length_take] at h9
      rw [List.length_singleton] at h8
      rw [hob, List.length_append]; omega
    by_cases g : k < (K.filter (keepQ false)).length
    · have hlt : (k : Int) < ((K.filter (keepQ false)).length : Nat) := by omega
      have hidx : 0 ≤ (k : Int) ∧ (k : Int) < ((K.filter (keepQ false)).length : Nat) := by omega
      have hex : ∃ x, (K.filter (keepQ false))[k] = x := ⟨_, rfl⟩
      have hR' := hR.mono (Fz.le_trans l4 hG)
      obtain ⟨nn, nb, ne, nc, nL, nr, heqR, hn1, hn2, hn3, hn4⟩ := hR'
      cases heqR
      obtain ⟨x, hx⟩ := hex
      have hat : nL[0 + (k : Int).toNat]? = some (encK x) := by rw [← hx]; exact Sl.at hn4 g
      have hob2 : ob ++ numbersS [x.row, x.col, x.value] = numbersS [(((K.filter (keepQ false)).length : Nat) : Int)] ++ (((K.filter (keepQ false)).take (k + 1)).map fun c => numbersS [c.row, c.col, c.value]).flatten := by
        rw [map_take_succ g, hx, hob, List.append_assoc]
      have hk1 : k + 1 ≤ (K.filter (keepQ false)).length := g
      have hdec : (K.filter (keepQ false)).length - (k + 1) < (K.filter (keepQ false)).length - k := by omega
      have hk62 : k < 4611686018427387904 := by omega
      have hbox := (Fz.le_trans l4 hG) _ _ hbx3
      have hnb := hn2 rfl
      clear hx
      conv => whnf
      refine br (fun _ => ?_) (fun g2 => absurd hlt (of_decide_eq_false g2))
      conv => whnf
      refine ⟨rfl, hidx, ?_⟩
      conv => whnf
      refine ⟨_, hnb, ?_⟩
      conv => whnf
      refine ⟨_, hat, ?_⟩
      conv => whnf
      refine ⟨_, hbox, ?_⟩
      conv => whnf
      refine freezeC 9 (fun _ => .arr 3 1 ([x.row, x.col, x.value].map encI) 3) rfl rfl rfl (fun _ _ => rfl) (fun _ _ => SB.bB_ok rfl) ?_
      intro b2 G2 l5 hb2'
      refine use (wnum_fn hP G2 _ [x.row, x.col, x.value] ub ob cb hub (Sl.new (l := [x.row, x.col, x.value]) (cap := 3) (hb2' 0 rfl)) (by simp) (by omega)) [(1, 1), (2, 7)] rfl ⟨rfl, ⟨rfl, rfl, rfl, .inr ⟨rfl, rfl, rfl, rfl⟩⟩, trivial⟩ rfl ⟨wrC_below _ (by omega) (by omega) _ _, gE_below encB_plain _ _ _ _ _, trivial⟩ (by simp [SV.below, SA.below]) ⟨wrC_sub (by rfl) (by rfl), sub_gE encB_plain (gE_self _ _ _ _), trivial⟩ ?_
      rintro out0 F' h0 n0 hle ⟨rfl, rfl, rfl, u2, c2, hu2, rfl⟩
      conv => whnf
      exact ⟨⟨(k + 1, ob ++ numbersS [x.row, x.col, x.value], c2, u2, G2), Fz.le_trans hG l5, hk1, hob2, hu2⟩, hdec, leR [(7, 10)] hH hT rfl ⟨trivial, wrC_below _ (by omega) (by omega) _ _, trivial, gE_below encB_plain _ _ _ _ _, trivial⟩ ⟨cnt hk62, trivial⟩ ⟨Fz.le_refl G2, wrC_sub2 (i' := 1) (j' := 10) (by rfl) (by rfl) (by rfl) (by rfl) rfl, sub_gE2 encB_plain, trivial⟩⟩
    · have hlt : ¬ (k : Int) < ((K.filter (keepQ false)).length : Nat) := by omega
      have hfin : ob = pcells false K := by rw [hob, hpc, List.take_of_length_le (by omega)]
      conv => whnf
      refine br (fun g2 => absurd (of_decide_eq_true g2) hlt) (fun _ => ?_)
      conv => whnf
      exact clean [(3, 7)] (.ret (.tup [])) G (wrM ub cb ob) 4 ⟨Fz.le_trans hl3 (Fz.le_trans l4 hG), rfl, rfl, ub, cb, by rw [← hfin]; exact hub, by rw [hfin]⟩ trivial rfl rfl (Out.bB_ok (o := .ret (.tup [])) rfl) (wrM_below _ _ _) ⟨Fz.le_refl G, wrC_sub (by rfl) (by rfl), sub_gE encB_plain (gE_self _ _ _ _), trivial⟩
set_option maxHeartbeats 16000000 in
theorem cellstrue_fn (hP : PFun) (F : Fz) (bn : Bool) (bb be bc : Nat) (K : List Cel) (hb : Sl F 172 6 encK (.slice bn 0 bb be 6 K.length bc) K) (hl : K.length ≤ 1000) :
    Ct Tryz.prog 118 [.va (.ptr ⟨1, 0, 0, 0, 0⟩), .va (.slice bn 0 bb be 6 K.length bc), .va (.lit true)] F (wrH false 0 []) 3 (wrL (pcells true K)) := by
  have hfl : (K.filter (keepQ true)).length ≤ K.length := List.length_filter_le _ _
  have hpc : pcells true K = numbersS [((K.filter (keepQ true)).length : Int)] ++ ((K.filter (keepQ true)).map fun c => numbersS [c.row, c.col, c.top, c.left]).flatten := rfl
  have hpl : ∀ l : List Cel, ((l.map fun c => numbersS [c.row, c.col, c.top, c.left]).flatten).length ≤ l.length * 1000 := fun l => pcells_len true l
  by_cases hne : K = []
  · subst hne
    have hpc : pcells true [] = [] ++ numbersS [((0 : Nat) : Int)] := by simp [pcells]
    have hcl := clone0_fn F bn bb be bc hb
    refine ct_of hΘ Tryz.func118 rfl (by decide) _ _ rfl rfl rfl ?_
    conv => whnf
    refine useFo hcl rfl ⟨⟨rfl, rfl, rfl, .inr ⟨rfl, rfl, rfl, rfl⟩⟩, trivial⟩ rfl ?_
    rintro _ F1 l1 ⟨sa, rfl, hsa⟩
    conv => whnf
    refine freezeC 3 (fun _ => .cells 4 [.lit true]) rfl rfl rfl (fun _ _ => rfl) (fun _ _ => SB.bB_ok rfl) ?_
    intro bx F2 l2 hbx
    have hde := dele0_fn F2 sa true (bx 0) (hsa.mono l2) (hbx 0 rfl)
    have hsa2 := hsa.mono l2
    obtain ⟨hbn, hbb, hbe, hbc, hbL, hbr, rfl, hb1, hb2, hb3, hb4⟩ := hsa2
    refine useFo hde rfl ⟨⟨rfl, rfl, rfl, .inr ⟨rfl, rfl, rfl, rfl⟩⟩, rfl, trivial⟩ rfl ?_
    rintro _ F' l3 ⟨rfl, rfl⟩
    conv => whnf
    refine freezeC 4 (fun _ => .arr 3 1 ([((0 : Nat) : Int)].map encI) 1) rfl rfl rfl (fun _ _ => rfl) (fun _ _ => SB.bB_ok rfl) ?_
    intro b1 F3 l4 hb1'
    refine use (wnum_fn hP F3 _ [((0 : Nat) : Int)] false [] 0 (fun _ => rfl) (Sl.new (l := [((0 : Nat) : Int)]) (cap := 1) (hb1' 0 rfl)) (by simp) (by simp)) [(1, 1), (2, 2)] rfl ⟨rfl, ⟨rfl, rfl, rfl, .inr ⟨rfl, rfl, rfl, rfl⟩⟩, trivial⟩ rfl ⟨wrC_below _ (by omega) (by omega) _ _, gE_below encB_plain _ _ _ _ _, trivial⟩ (by simp [SV.below, SA.below]) ⟨wrC_sub (by rfl) (by rfl), sub_gE encB_plain (gE_self _ _ _ _), trivial⟩ ?_
    rintro out0 F' h0 n0 hle ⟨rfl, rfl, rfl, u1, c1, hu1, rfl⟩
    conv => whnf
    refine loop_at hΘ (X := { x : Nat // x = 0 }) (fun x => [(21, .va (.int .i64 x.1))]) [8, 22, 23, 24, 25, 26, 27, 28, 29, 30, 31, 32, 33, 34, 35, 36, 37, 38, 39, 40, 41, 42, 43, 44, 45, 46]
      (fun x => [(0, .frz F3), (1, wrC u1 1 6 c1 ([] ++ numbersS [((0 : Nat) : Int)])), (5, .gone), (6, gE 5 1 encB c1 ([] ++ numbersS [((0 : Nat) : Int)]))]) 7 (fun x => 0) ⟨0, rfl⟩
      (fun hH hT => leI [(6, 5)] hH hT rfl ⟨trivial, wrC_below _ (by omega) (by omega) _ _, trivial, gE_below encB_plain _ _ _ _ _, trivial⟩ ⟨rfl, trivial⟩ ⟨Fz.le_refl F3, wrC_sub2 (i' := 1) (j' := 5) (by rfl) (by rfl) (by rfl) (by rfl) rfl, sub_gE2 encB_plain, trivial⟩) ?_
    rintro ⟨k, rfl⟩ hH hT
    conv => whnf
    refine br (fun g2 => absurd g2 (by decide)) (fun _ => ?_)
    conv => whnf
    exact clean [(3, 6)] (.ret (.tup [])) F3 (wrM u1 c1 ([] ++ numbersS [((0 : Nat) : Int)])) 4 ⟨Fz.le_trans l1 (Fz.le_trans l2 l4), rfl, rfl, u1, c1, by rw [hpc]; exact hu1, by rw [hpc]⟩ trivial rfl rfl (Out.bB_ok (o := .ret (.tup [])) rfl) (wrM_below _ _ _) ⟨Fz.le_refl F3, wrC_sub (by rfl) (by rfl), sub_gE encB_plain (gE_self _ _ _ _), trivial⟩
  · have hcl := clone_fn F bn bb be bc K hne hb hl
    refine ct_of hΘ Tryz.func118 rfl (by decide) _ _ rfl rfl rfl ?_
    conv => whnf
    refine use hcl [] rfl ⟨⟨rfl, rfl, rfl, .inr ⟨rfl, rfl, rfl, rfl⟩⟩, trivial⟩ rfl trivial (by simp [SV.below, SA.below]) trivial ?_
    rintro _ F1 h0 n0 l1 ⟨rfl, c, hcc, rfl, rfl⟩
    conv => whnf
    refine freezeC 3 (fun _ => .cells 4 [.lit true]) rfl rfl rfl (fun _ _ => rfl) (fun _ _ => SB.bB_ok rfl) ?_
    intro bx F2 l2 hbx
    refine use (dele_fn F2 c K true (bx 0) hne (hbx 0 rfl) hl hcc) [(1, 4)] rfl ⟨⟨rfl, rfl, rfl, .inr ⟨rfl, rfl, rfl, rfl⟩⟩, rfl, trivial⟩ rfl ⟨gE_below encK_plain _ _ _ _ _, trivial⟩ (by simp [SV.below, SA.below]) ⟨sub_gE2 encK_plain, trivial⟩ ?_
    rintro _ F3 h0 n0 l3 ⟨rfl, rfl, rb, rfl, hR⟩
    have hbx3 := l3 _ _ (hbx 0 rfl)
    have hl3 := Fz.le_trans l1 (Fz.le_trans l2 l3)
    clear hcl l1 l2 l3 hbx hcc hne hb
    conv => whnf
    refine freezeC 5 (fun _ => .arr 3 1 ([(((K.filter (keepQ true)).length : Nat) : Int)].map encI) 1) rfl rfl rfl (fun _ _ => rfl) (fun _ _ => SB.bB_ok rfl) ?_
    intro b1 F4 l4 hb1'
    refine use (wnum_fn hP F4 _ [(((K.filter (keepQ true)).length : Nat) : Int)] false [] 0 (fun _ => rfl) (Sl.new (l := [(((K.filter (keepQ true)).length : Nat) : Int)]) (cap := 1) (hb1' 0 rfl)) (by simp) (by simp)) [(1, 1), (2, 2)] rfl ⟨rfl, ⟨rfl, rfl, rfl, .inr ⟨rfl, rfl, rfl, rfl⟩⟩, trivial⟩ rfl ⟨wrC_below _ (by omega) (by omega) _ _, gE_below encB_plain _ _ _ _ _, trivial⟩ (by simp [SV.below, SA.below]) ⟨wrC_sub (by rfl) (by rfl), sub_gE encB_plain (gE_self _ _ _ _), trivial⟩ ?_
    rintro out0 F' h0 n0 hle ⟨rfl, rfl, rfl, u1, c1, hu1, rfl⟩
    conv => whnf
    refine loop_at hΘ (X := { x : Nat × List UInt8 × Nat × Bool × Fz // Fz.le F4 x.2.2.2.2 ∧ x.1 ≤ (K.filter (keepQ true)).length ∧ x.2.1 = numbersS [(((K.filter (keepQ true)).length : Nat) : Int)] ++ (((K.filter (keepQ true)).take x.1).map fun c => numbersS [c.row, c.col, c.top, c.left]).flatten ∧ (x.2.2.2.1 = false → x.2.1 = []) }) (fun x => [(21, .va (.int .i64 x.1.1))]) [8, 22, 23, 24, 25, 26, 27, 28, 29, 30, 31, 32, 33, 34, 35, 36, 37, 38, 39, 40, 41, 42, 43, 44, 45, 46]
      (fun x => [(0, .frz x.1.2.2.2.2), (1, wrC x.1.2.2.2.1 1 7 x.1.2.2.1 x.1.2.1), (6, .gone), (7, gE 5 1 encB x.1.2.2.1 x.1.2.1)]) 8 (fun x => (K.filter (keepQ true)).length - x.1.1) ⟨(0, [] ++ numbersS [(((K.filter (keepQ true)).length : Nat) : Int)], c1, u1, F4), Fz.le_refl F4, by simpa using hu1⟩
      (fun hH hT => leI [(7, 6)] hH hT rfl ⟨trivial, wrC_below _ (by omega) (by omega) _ _, trivial, gE_below encB_plain _ _ _ _ _, trivial⟩ ⟨rfl, trivial⟩ ⟨Fz.le_refl F4, wrC_sub2 (i' := 1) (j' := 6) (by rfl) (by rfl) (by rfl) (by rfl) rfl, sub_gE2 encB_plain, trivial⟩) ?_
    rintro ⟨⟨k, ob, cb, ub, G⟩, hG, hk, hob, hub⟩ hH hT
    replace hG : Fz.le F4 G := hG
    replace hk : k ≤ (K.filter (keepQ true)).length := hk
    replace hob : ob = numbersS [(((K.filter (keepQ true)).length : Nat) : Int)] ++ (((K.filter (keepQ true)).take k).map fun c => numbersS [c.row, c.col, c.top, c.left]).flatten := hob
    replace hub : ub = false → ob = [] := hub
    have hlen : ob.length ≤ 100000000000 := by
      have h9 := hpl ((K.filter (keepQ true)).take k)
      have h8 := numbersS_len [(((K.filter (keepQ true)).length : Nat) : Int)]
      rw [List.length_take] at h9
      rw [List.length_singleton] at h8
      rw [hob, List.length_append]; omega
    by_cases g : k < (K.filter (keepQ true)).length
    · have hlt : (k : Int) < ((K.filter (keepQ true)).length : Nat) := by omega
      have hidx : 0 ≤ (k : Int) ∧ (k : Int) < ((K.filter (keepQ true)).length : Nat) := by omega
      have hex : ∃ x, (K.filter (keepQ true))[k] = x := ⟨_, rfl⟩
      have hR' := hR.mono (Fz.le_trans l4 hG)
      obtain ⟨nn, nb, ne, nc, nL, nr, heqR, hn1, hn2, hn3, hn4⟩ := hR'
      cases heqR
      obtain ⟨x, hx⟩ := hex
      have hat : nL[0 + (k : Int).toNat]? = some (encK x) := by rw [← hx]; exact Sl.at hn4 g
      have hob2 : ob ++ numbersS [x.row, x.col, x.top, x.left] = numbersS [(((K.filter (keepQ true)).length : Nat) : Int)] ++ (((K.filter (keepQ true)).take (k + 1)).map fun c => numbersS [c.row, c.col, c.top, c.left]).flatten := by
        rw [map_take_succ g, hx, hob, List.append_assoc]
      have hk1 : k + 1 ≤ (K.filter (keepQ true)).length := g
      have hdec : (K.filter (keepQ true)).length - (k + 1) < (K.filter (keepQ true)).length - k := by omega
      have hk62 : k < 4611686018427387904 := by omega
      have hbox := (Fz.le_trans l4 hG) _ _ hbx3
      have hnb := hn2 rfl
      clear hx
      conv => whnf
      refine br (fun _ => ?_) (fun g2 => absurd hlt (of_decide_eq_false g2))
      conv => whnf
      refine ⟨rfl, hidx, ?_⟩
      conv => whnf
      refine ⟨_, hnb, ?_⟩
      conv => whnf
      refine ⟨_, hat, ?_⟩
      conv => whnf
      refine ⟨_, hbox, ?_⟩
      conv => whnf
      refine freezeC 9 (fun _ => .arr 3 1 ([x.row, x.col, x.top, x.left].map encI) 4) rfl rfl rfl (fun _ _ => rfl) (fun _ _ => SB.bB_ok rfl) ?_
      intro b2 G2 l5 hb2'
      refine use (wnum_fn hP G2 _ [x.row, x.col, x.top, x.left] ub ob cb hub (Sl.new (l := [x.row, x.col, x.top, x.left]) (cap := 4) (hb2' 0 rfl)) (by simp) (by omega)) [(1, 1), (2, 7)] rfl ⟨rfl, ⟨rfl, rfl, rfl, .inr ⟨rfl, rfl, rfl, rfl⟩⟩, trivial⟩ rfl ⟨wrC_below _ (by omega) (by omega) _ _, gE_below encB_plain _ _ _ _ _, trivial⟩ (by simp [SV.below, SA.below]) ⟨wrC_sub (by rfl) (by rfl), sub_gE encB_plain (gE_self _ _ _ _), trivial⟩ ?_
      rintro out0 F' h0 n0 hle ⟨rfl, rfl, rfl, u2, c2, hu2, rfl⟩
      conv => whnf
      exact ⟨⟨(k + 1, ob ++ numbersS [x.row, x.col, x.top, x.left], c2, u2, G2), Fz.le_trans hG l5, hk1, hob2, hu2⟩, hdec, leR [(7, 10)] hH hT rfl ⟨trivial, wrC_below _ (by omega) (by omega) _ _, trivial, gE_below encB_plain _ _ _ _ _, trivial⟩ ⟨cnt hk62, trivial⟩ ⟨Fz.le_refl G2, wrC_sub2 (i' := 1) (j' := 10) (by rfl) (by rfl) (by rfl) (by rfl) rfl, sub_gE2 encB_plain, trivial⟩⟩
    · have hlt : ¬ (k : Int) < ((K.filter (keepQ true)).length : Nat) := by omega
      have hfin : ob = pcells true K := by rw [hob, hpc, List.take_of_length_le (by omega)]
      conv => whnf
      refine br (fun g2 => absurd (of_decide_eq_true g2) hlt) (fun _ => ?_)
      conv => whnf
      exact clean [(3, 7)] (.ret (.tup [])) G (wrM ub cb ob) 4 ⟨Fz.le_trans hl3 (Fz.le_trans l4 hG), rfl, rfl, ub, cb, by rw [← hfin]; exact hub, by rw [hfin]⟩ trivial rfl rfl (Out.bB_ok (o := .ret (.tup [])) rfl) (wrM_below _ _ _) ⟨Fz.le_refl G, wrC_sub (by rfl) (by rfl), sub_gE encB_plain (gE_self _ _ _ _), trivial⟩
set_option maxHeartbeats 8000000 in
theorem cl3_fn (hP : PFun) (F : Fz) (an : Bool) (ab ae al ac : Nat) (bn : Bool) (bb be bc : Nat) (K : List Cel) (w : Int) (s : List UInt8) (hb : Sl F 172 6 encK (.slice bn 0 bb be 6 K.length bc) K) (hl : K.length ≤ 1000) :
    Ct Tryz.prog 117 [.agg (docS (.slice an 0 ab ae 2 al ac) (.slice bn 0 bb be 6 K.length bc) w s), .va (.ptr ⟨1, 0, 0, 0, 0⟩)] F (wrH false 0 []) 3 (wrL (pcells false K)) := by
  have hc := cellsfalse_fn hP F bn bb be bc K hb hl
  obtain ⟨P, hPc⟩ : ∃ P, pcells false K = P := ⟨_, rfl⟩
  rw [hPc] at hc ⊢
  clear hPc
  refine ct_of hΘ Tryz.func117 rfl (by decide) _ _ rfl rfl rfl ?_
  conv => whnf
  refine use hc [(1, 1), (2, 2)] rfl ⟨rfl, ⟨rfl, rfl, rfl, .inr ⟨rfl, rfl, rfl, rfl⟩⟩, rfl, trivial⟩ rfl ⟨wrC_below _ (by omega) (by omega) _ _, gE_below encB_plain _ _ _ _ _, trivial⟩ (by simp [SV.below, SA.below]) ⟨wrC_sub (by rfl) (by rfl), sub_gE encB_plain (gE_self _ _ _ _), trivial⟩ ?_
  rintro out0 F1 h0 n0 hle ⟨rfl, rfl, u1, c1, hu1, rfl⟩
  conv => whnf
  exact clean [(3, 4)] (.ret (.tup [])) F1 (wrM u1 c1 P) 4 ⟨hle, rfl, rfl, u1, c1, hu1, rfl⟩ trivial rfl rfl (Out.bB_ok (o := .ret (.tup [])) rfl) (wrM_below _ _ _) ⟨Fz.le_refl F1, wrC_sub2 (i' := 1) (j' := 4) (by rfl) (by rfl) (by rfl) (by rfl) rfl, sub_gE2 encB_plain, trivial⟩
set_option maxHeartbeats 8000000 in
theorem cl4_fn (hP : PFun) (F : Fz) (an : Bool) (ab ae al ac : Nat) (bn : Bool) (bb be bc : Nat) (K : List Cel) (w : Int) (s : List UInt8) (hb : Sl F 172 6 encK (.slice bn 0 bb be 6 K.length bc) K) (hl : K.length ≤ 1000) :
    Ct Tryz.prog 119 [.agg (docS (.slice an 0 ab ae 2 al ac) (.slice bn 0 bb be 6 K.length bc) w s), .va (.ptr ⟨1, 0, 0, 0, 0⟩)] F (wrH false 0 []) 3 (wrL (pcells true K)) := by
  have hc := cellstrue_fn hP F bn bb be bc K hb hl
  obtain ⟨P, hPc⟩ : ∃ P, pcells true K = P := ⟨_, rfl⟩
  rw [hPc] at hc ⊢
  clear hPc
  refine ct_of hΘ Tryz.func119 rfl (by decide) _ _ rfl rfl rfl ?_
  conv => whnf
  refine use hc [(1, 1), (2, 2)] rfl ⟨rfl, ⟨rfl, rfl, rfl, .inr ⟨rfl, rfl, rfl, rfl⟩⟩, rfl, trivial⟩ rfl ⟨wrC_below _ (by omega) (by omega) _ _, gE_below encB_plain _ _ _ _ _, trivial⟩ (by simp [SV.below, SA.below]) ⟨wrC_sub (by rfl) (by rfl), sub_gE encB_plain (gE_self _ _ _ _), trivial⟩ ?_
  rintro out0 F1 h0 n0 hle ⟨rfl, rfl, u1, c1, hu1, rfl⟩
  conv => whnf
  exact clean [(3, 4)] (.ret (.tup [])) F1 (wrM u1 c1 P) 4 ⟨hle, rfl, rfl, u1, c1, hu1, rfl⟩ trivial rfl rfl (Out.bB_ok (o := .ret (.tup [])) rfl) (wrM_below _ _ _) ⟨Fz.le_refl F1, wrC_sub2 (i' := 1) (j' := 4) (by rfl) (by rfl) (by rfl) (by rfl) rfl, sub_gE2 encB_plain, trivial⟩
end Go.Proofs.YtblllibdahkgfaaGreatDoor
