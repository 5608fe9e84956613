import Derived.Test.YtblllibdahkgfaaGreatDoorK33
import Derived.Test.YtblllibdahkgfaaGreatDoorK32
import Derived.Test.YtblllibdahkgfaaGreatDoorK24

namespace Go.Proofs.YtblllibdahkgfaaGreatDoor
open Go Sx
set_option maxRecDepth 100000
theorem Its.sub {F : Fz} {b e c room : Nat} {X : List (List SA)} {l : List RLn} (hF : F b = some (.arr 88 5 X room)) (h : (X.drop e).take l.length = l.map encL) (hc : l.length ≤ c) {k : Nat} (hk : k < l.length) (hk62 : k < 4611686018427387904) :
  Its F (.slice false 0 b (if c = (k : Int).toNat then e else e + (k : Int).toNat) 5 ((IntKind.i64.wrap ((k : Int) + 1)).toNat - (k : Int).toNat) (c - (k : Int).toNat)) [l[k]] := by
 have e1 : (k : Int).toNat = k := Int.toNat_natCast k
 have e2 : (IntKind.i64.wrap ((k : Int) + 1)).toNat = k + 1 := by
  rw [zaj (by omega) (by omega)]; omega
 have e3 : ¬ c = k := by omega
 rw [e1, e2, if_neg e3, show k + 1 - k = 1 by omega]
 have hat := Sl.at h hk
 rw [e1] at hat
 refine .inr ⟨by simp, b, e + k, c - k, X, room, rfl, hF, ?_⟩
 show (X.drop (e + k)).take 1 = [encL l[k]]
 have hlt := (List.getElem?_eq_some_iff.1 hat).1
 rw [List.drop_eq_getElem_cons hlt, (List.getElem?_eq_some_iff.1 hat).2]; rfl
theorem zfg {α β : Type} {f : α → β} {l : List α} {m : List β} (h : l.map f = m) {k : Nat} (hk : k < l.length) (hk' : k < m.length) : f l[k] = m[k] := by
 subst h; simp
def oneR (x : RLn) : RVal := ⟨false, [x], 0, 0, []⟩
theorem zq3 (p : Int) (x : RLn) : ofV p (oneR x) = oneV (ofR p x) := rfl
theorem zhm {p : Int} {v : Val} (hp : 1 ≤ p ∧ p ≤ 8) (hv : VOK p v) : ∃ r, readR p (zay p v) = some r ∧ ofV p r = v := by
 have h := zq1 p (zay p v)
 rw [zf4 hp hv] at h
 cases hr : readR p (zay p v) with
 | none => rw [hr] at h; cases h
 | some r => rw [hr] at h; exact ⟨r, rfl, Option.some.inj h⟩
set_option maxHeartbeats 16000000 in
theorem zvt (F0 : Fz) (m0 : MLF F0) (p : Int) (hp : i64 p) (nv n2 : Bool) (bv b2 ev e2 sv s2 lv l2 cv c2 : Nat) (x : List Int)
  (hv : zrq F0 (.slice nv 0 bv ev sv lv cv)) (hx : zr1 F0 (.slice n2 0 b2 e2 s2 l2 c2) x) :
  Fo Tryz.prog F0 9 [.va (.int .i64 p), .va (.slice nv 0 bv ev sv lv cv), .va (.slice n2 0 b2 e2 s2 l2 c2)] (fun o F' => o = .ret (.va (.bool true)) ∧ True) := by
 have hpr := zjz p 8 (by omega) hp
 have hsane := saneL F0 m0
 have hprop := zmr p hp
 obtain ⟨P, hP⟩ : ∃ P, P = 1 + pickI p 8 := ⟨_, rfl⟩
 have hP8 : 1 ≤ P ∧ P ≤ 8 := by omega
 rw [← hP] at hprop
 have vl := zlt hP8 x
 obtain ⟨l, hL⟩ : ∃ l, zev P x = l := ⟨_, rfl⟩
 rw [hL] at vl
 have okl := znb vl
 have hvW : ∀ G, Fz.le F0 G → Fo Tryz.prog G 24 [.va (.int .i64 P), .va (.slice nv 0 bv ev sv lv cv)] (fun o F' => ∃ V w, VOK P V ∧ zay P V = w ∧ o = .ret (.va (.str w))) := fun G hG => zez (hv P G hP8 hG) fun o F' ⟨v, vok, h⟩ => ⟨v, _, vok, rfl, h⟩
 have fin : ∀ (t : Bool) (F1 : Fz) (h : Hp) (nx : Nat), t = true → lget h 0 = some (.frz F1) → Fz.le F0 F1 → Cln 1 (FoK F0 fun o F' => o = .ret (.va (.bool true)) ∧ True) (.ret (.va (.bool t))) h nx := by
  intro t F1 h nx ht h0 hle
  subst ht
  exact endFo (.ret (.va (.bool true))) F1 h0 hle (Fz.le_refl F1) ⟨rfl, trivial⟩ (zat _) rfl
 refine fo_of hΘ Tryz.func9 rfl (by decide) _ _ rfl rfl rfl ?_;conv=>whnf
 refine useFo hsane rfl (zaf _) rfl ?_
 rintro _ F1 u1 ⟨rfl, -⟩;conv=>whnf
 refine usePu (hprop F1) rfl (zaf _) rfl ?_;conv=>whnf
 by_cases h5 : (5 : Int) < P
 ·refine br (fun _ => ?_) (fun g => absurd h5 (of_decide_eq_false g));conv=>whnf
  exact fin true F1 _ _ rfl rfl u1
 have hP5 : 1 ≤ P ∧ P ≤ 5 := by omega
 refine br (fun g => absurd (of_decide_eq_true g) h5) (fun _ => ?_);conv=>whnf
 refine useFo (hx P F1 hP8 u1) rfl ⟨rfl, ⟨rfl, rfl, rfl, .inr ⟨rfl, rfl, rfl, rfl⟩⟩, trivial⟩ rfl ?_
 rintro _ F2 u ⟨sa, rfl, ha⟩
 rw [hL] at ha
 have u2 := Fz.le_trans u1 u
 clear u
 have haC := ha
 obtain ⟨han, hab, hae, hac, haL, har, rfl, ha1, ha2, ha3, ha4⟩ := ha
 conv=>whnf
 refine useFo (hvW F2 u2) rfl ⟨rfl, ⟨rfl, rfl, rfl, .inr ⟨rfl, rfl, rfl, rfl⟩⟩, trivial⟩ rfl ?_
 rintro _ F3 u ⟨V, w, vok, hw, rfl⟩
 have u3 := Fz.le_trans u2 u
 have ha3' := haC.mono u
 clear u haC
 have hRx := zhm hP8 vok
 obtain ⟨R, hR, hRV⟩ := hRx
 have hRok := (znj hR).2
 obtain ⟨rl, rL, rw', rh, rb⟩ := R
 have wl1 := zge hP8 vok
 have vok2 := zw6 vl vok
 have hGx := zhm hP8 vok2
 obtain ⟨G, hG, hGV⟩ := hGx
 have hGok := (znj hG).2
 obtain ⟨gl, gL, gw, gh, gb⟩ := G
 have hwe := zhd hP8 vok2
 have hwe1 := zhd hP8 vok
 have hnorm := fun (h : V.lost = false) (h2 : (runS l V).lost = true) => zrb hP5 okl h h2
 have heach := fun (h : V.lost = false) (h2 : (runS l V).lost = false) => zwt hP5 okl h h2
 have hlostV := zi5 l V
 have hGl : (runS l V).lost = gl := by rw [← hGV]; rfl
 have hRl : V.lost = rl := by rw [← hRV]; rfl
 have hRL : rL.map (ofR P) = V.lines := by rw [← hRV]; rfl
 have hGL : gL.map (ofR P) = (runS l V).lines := by rw [← hGV]; rfl
 have hsx : ∃ w2, zay P (runS l V) = w2 := ⟨_, rfl⟩
 obtain ⟨w2, hw2⟩ := hsx
 rw [hw2] at hG hwe
 rw [hw] at hR hwe1 wl1
 have wl2 := zge hP8 vok2
 rw [hw2] at wl2
 have rd1 := zkf F3 P w wl1
 conv=>whnf
 refine useFo rd1 rfl ⟨rfl, rfl, trivial⟩ rfl ?_
 rintro _ F4 v4 ⟨R', a1, bb, rfl, hit1, hr1, hcp1⟩
 rw [hR] at hr1
 have hr1' : bb = true ∧ (⟨rl, rL, rw', rh, rb⟩ : RVal) = R' := by
  rcases hr1 with ⟨h1, h2⟩ | ⟨_, h2⟩
  ·exact ⟨h1, Option.some.inj h2⟩
  ·cases h2
 obtain ⟨rfl, rfl⟩ := hr1'
 have u4 := Fz.le_trans u3 v4
 have ha4' := ha3'.mono v4
 clear ha3' hr1
 have ap1 := zpo vl vok F4 (m0.mono u4) _ ha4'
 rw [hw2, hw] at ap1
 rcases hit1 with ⟨hRn, rfl⟩ | ⟨hRne, tb1, te1, tc1, X1, room1, rfl, hF1, hX1⟩
 ·conv=>whnf
  refine useFo (ap1) rfl ⟨rfl, ⟨rfl, rfl, rfl, .inr ⟨rfl, rfl, rfl, rfl⟩⟩, rfl, trivial⟩ rfl ?_
  rintro _ F5 v5 rfl
  have u5 := Fz.le_trans u4 v5
  have ha5' := ha4'.mono v5
  clear ha4'
  have rd2 := zkf F5 P w2 wl2
  conv=>whnf
  refine useFo rd2 rfl ⟨rfl, rfl, trivial⟩ rfl ?_
  rintro _ F6 v6 ⟨G', a2, bb2, rfl, hit2, hr2, hcp2⟩
  have v46 := Fz.le_trans v5 v6
  have u6 := Fz.le_trans u5 v6
  have ha6' := ha5'.mono v6
  clear ha5'
  rw [hG] at hr2
  have hr2' : bb2 = true ∧ (⟨gl, gL, gw, gh, gb⟩ : RVal) = G' := by
   rcases hr2 with ⟨h1, h2⟩ | ⟨_, h2⟩
   ·exact ⟨h1, Option.some.inj h2⟩
   ·cases h2
  obtain ⟨rfl, rfl⟩ := hr2'
  clear hr2
  rcases gl with _ | _
  ·have hvl : V.lost = false := by
    apply Classical.byContradiction; intro h
    have h2 := hlostV (by simpa using h)
    rw [hGl] at h2; cases h2
   have hev := heach hvl hGl
   have hln : gL.length = rL.length := by
    have h1 := congrArg List.length hGL
    have h2 := congrArg List.length hRL
    rw [List.length_map] at h1 h2
    rw [h1, h2]; exact hev.1
   have hb2 : (w2 == []) = false := by
    apply Classical.byContradiction; intro h
    have h2 : w2 = [] := by simpa using h
    have h3 := hwe.1 h2
    rw [hGl] at h3; cases h3
   have hrn : rL = [] := hRn
   subst hrn
   have hgn : gL = [] := List.eq_nil_of_length_eq_zero hln
   subst hgn
   have ea2 := Its.nil_of hit2
   subst ea2
   conv=>whnf
   refine ⟨fun _ => ?_, fun g => absurd g (by simp)⟩;conv=>whnf
   refine ⟨fun _ => ?_, fun g => absurd g (by simp)⟩;conv=>whnf
   refine br (fun g => absurd g (by show ¬ (!(false == (w2 == []))) = true; rw [hb2]; decide)) (fun _ => ?_);conv=>whnf
   refine br (fun g => absurd g (by decide)) (fun _ => ?_);conv=>whnf
   refine zb4 hΘ 0 ?_;conv=>whnf
   refine br (fun g => absurd g (by decide)) (fun _ => ?_);conv=>whnf
   exact fin true F6 _ _ rfl rfl u6
  ·have hgn : gL = [] := zif hGok rfl
   subst hgn
   have ea2 := Its.nil_of hit2
   subst ea2
   have hb2 : (w2 == []) = true := by rw [hwe.2 hGl]; rfl
   have nok := zuv vl F6 _ ha6'
   have hcs : ((w == []) = true) ∨ ((w == []) = false ∧ normS l = [(6, 0)]) := by
    by_cases hvl : V.lost = true
    ·left; rw [hwe1.2 hvl]; rfl
    ·right
     have hvf : V.lost = false := by simpa using hvl
     exact ⟨by
      apply Classical.byContradiction; intro h
      have h2 : w = [] := by simpa using h
      exact hvl (hwe1.1 h2), hnorm hvf hGl⟩
   conv=>whnf
   refine ⟨fun _ => ?_, fun g => absurd g (by simp)⟩;conv=>whnf
   refine ⟨fun _ => ?_, fun g => absurd g (by simp)⟩;conv=>whnf
   refine br (fun g => absurd g (by show ¬ (!(true == (w2 == []))) = true; rw [hb2]; decide)) (fun _ => ?_);conv=>whnf
   refine useFo (nok) rfl ⟨rfl, ⟨rfl, rfl, rfl, .inr ⟨rfl, rfl, rfl, rfl⟩⟩, trivial⟩ rfl ?_
   rintro _ F7 v7 ⟨sm, rfl, hm⟩
   have u7 := Fz.le_trans u6 v7
   rcases hcs with hcs | ⟨hcs, hnn⟩
   ·obtain ⟨hmn, hmb, hme, hmc, hmL, hmr, rfl, hm1, hm2, hm3, hm4⟩ := hm
    conv=>whnf
    refine ⟨fun _ => ?_, fun g => absurd g (by simp)⟩;conv=>whnf
    refine ⟨fun g => absurd g (by rw [hcs]; simp), fun _ => ?_⟩;conv=>whnf
    exact fin true F7 _ _ rfl rfl u7
   ·rw [hnn] at hm
    have ghm : 0 < ([(6, 0)] : List Stp).length := by decide
    obtain ⟨hmn, hmb, hme, hmc, hmL, hmr, rfl, hm1, hm2, hm3, hm4⟩ := hm
    have hgethm : hmL[hme + ((0 : Nat) : Int).toNat]? = some (enc (6, 0)) := Sl.at (k := 0) hm4 ghm
    conv=>whnf
    refine ⟨fun _ => ?_, fun g => absurd g (by simp)⟩;conv=>whnf
    refine ⟨fun _ => ?_, fun g => absurd g (by rw [hcs]; simp)⟩;conv=>whnf
    refine ⟨fun _ => ?_, fun g => absurd g (by simp)⟩;conv=>whnf
    refine ⟨Sl.lt hm1 ghm, ⟨by decide, by simp⟩, ?_⟩;conv=>whnf
    refine ⟨_, hm2 (Sl.lt hm1 ghm), ?_⟩;conv=>whnf
    refine ⟨_, hgethm, ?_⟩;conv=>whnf
    exact fin _ F7 _ _ (by simp) rfl u7
 ·conv=>whnf
  refine useFo (ap1) rfl ⟨rfl, ⟨rfl, rfl, rfl, .inr ⟨rfl, rfl, rfl, rfl⟩⟩, rfl, trivial⟩ rfl ?_
  rintro _ F5 v5 rfl
  have u5 := Fz.le_trans u4 v5
  have ha5' := ha4'.mono v5
  clear ha4'
  have rd2 := zkf F5 P w2 wl2
  conv=>whnf
  refine useFo rd2 rfl ⟨rfl, rfl, trivial⟩ rfl ?_
  rintro _ F6 v6 ⟨G', a2, bb2, rfl, hit2, hr2, hcp2⟩
  have v46 := Fz.le_trans v5 v6
  have u6 := Fz.le_trans u5 v6
  have ha6' := ha5'.mono v6
  clear ha5'
  rw [hG] at hr2
  have hr2' : bb2 = true ∧ (⟨gl, gL, gw, gh, gb⟩ : RVal) = G' := by
   rcases hr2 with ⟨h1, h2⟩ | ⟨_, h2⟩
   ·exact ⟨h1, Option.some.inj h2⟩
   ·cases h2
  obtain ⟨rfl, rfl⟩ := hr2'
  clear hr2
  rcases gl with _ | _
  ·have hvl : V.lost = false := by
    apply Classical.byContradiction; intro h
    have h2 := hlostV (by simpa using h)
    rw [hGl] at h2; cases h2
   have hev := heach hvl hGl
   have hln : gL.length = rL.length := by
    have h1 := congrArg List.length hGL
    have h2 := congrArg List.length hRL
    rw [List.length_map] at h1 h2
    rw [h1, h2]; exact hev.1
   have hb2 : (w2 == []) = false := by
    apply Classical.byContradiction; intro h
    have h2 : w2 = [] := by simpa using h
    have h3 := hwe.1 h2
    rw [hGl] at h3; cases h3
   rcases hit2 with ⟨hGn, _⟩ | ⟨hGne, tb2, te2, tc2, X2, room2, rfl, hF2, hX2⟩
   ·have h1 : gL = [] := hGn
    rw [h1] at hln
    exact absurd (List.eq_nil_of_length_eq_zero hln.symm) hRne
   replace hcp1 : rL.length ≤ tc1 := hcp1
   replace hcp2 : gL.length ≤ tc2 := hcp2
   have hlR := zko hP5 hRok (hRl.symm.trans hvl)
   have hlG := zko hP5 hGok rfl
   replace hlR : rL.length ≤ 64 ∧ (∀ y ∈ rL, y.1.length ≤ 80) ∧ _ := hlR
   replace hlG : gL.length ≤ 64 ∧ (∀ y ∈ gL, y.1.length ≤ 80) ∧ _ := hlG
   have hneq : (!decide ((gL.length : Int) = (rL.length : Int))) = false := by rw [hln]; simp
   conv=>whnf
   refine ⟨fun _ => ?_, fun g => absurd g (by simp)⟩;conv=>whnf
   refine ⟨fun _ => ?_, fun g => absurd g (by simp)⟩;conv=>whnf
   refine br (fun g => absurd g (by show ¬ (!(false == (w2 == []))) = true; rw [hb2]; decide)) (fun _ => ?_);conv=>whnf
   refine br (fun g => absurd g (by rw [hneq]; simp)) (fun _ => ?_);conv=>whnf
   refine za0 hΘ (X := { y : Nat × Fz // y.1 ≤ rL.length ∧ Fz.le F6 y.2 }) (fun y => [(18, .va (.int .i64 y.1.1))]) [6, 19, 20, 21, 102, 103, 104, 105, 106, 107, 108, 109, 110, 111, 112, 113, 114, 115, 116, 117, 118, 119, 120, 121, 122, 123, 124, 125, 126, 127, 128, 129, 130, 131, 132, 133, 134, 135, 136, 137, 138, 139]
    (fun y => [(0, .frz y.1.2), (1, rvSE ⟨rl, rL, rw', rh, rb⟩ tb1 te1 rL.length tc1), (2, rvSE ⟨false, gL, gw, gh, gb⟩ tb2 te2 gL.length tc2)]) 3 (fun y => rL.length - y.1.1) ⟨(0, F6), Nat.zero_le _, Fz.le_refl F6⟩
    (fun hH hT => leI [] hH hT rfl ⟨trivial, zb2, zb2, trivial⟩ ⟨rfl, trivial⟩ ⟨Fz.le_refl F6, rfl, rfl, trivial⟩) ?_
   rintro ⟨⟨k, J⟩, hk, hJ⟩ hH hT
   replace hk : k ≤ rL.length := hk
   replace hJ : Fz.le F6 J := hJ
   have uJ := Fz.le_trans u6 hJ
   by_cases gk : k < rL.length
   ·have gk2 : k < gL.length := by omega
    have hk62 : k < 4611686018427387904 := by omega
    have hkw : IntKind.i64.wrap ((k : Int) + 1) = (k : Int) + 1 := zaj (by omega) (by omega)
    have c1 : 0 ≤ IntKind.i64.wrap ((k : Int) + 1) ∧ IntKind.i64.wrap ((k : Int) + 1) ≤ (tc1 : Nat) := by rw [hkw]; omega
    have c2' : 0 ≤ IntKind.i64.wrap ((k : Int) + 1) ∧ IntKind.i64.wrap ((k : Int) + 1) ≤ (tc2 : Nat) := by rw [hkw]; omega
    have c3 : 0 ≤ (k : Int) ∧ (k : Int) ≤ IntKind.i64.wrap ((k : Int) + 1) := by rw [hkw]; omega
    have hI1 := Its.sub (F := J) (hJ _ _ (v46 _ _ hF1)) hX1 hcp1 gk hk62
    have wf1 := wf_fn J P (oneR rL[k]) _ hI1 hP8 (by show 1 ≤ 1000; omega) (fun y hy => by
     have h1 := hlR.2.1 y (by rw [List.mem_singleton.1 hy]; exact List.getElem_mem gk); omega) (Nat.zero_le _)
    have hkV : k < V.lines.length := by rw [← hRL, List.length_map]; exact gk
    have hkG : k < (runS l V).lines.length := by rw [← hGL, List.length_map]; exact gk2
    have o1 := zu4 hP5 vok hvl (List.getElem_mem hkV)
    have e1 : zar P (oneR rL[k]) = zay P (oneV V.lines[k]) := by
     rw [zb8, zq3, zfg hRL gk hkV]
    have e2 : zar P (oneR gL[k]) = zay P (runS l (oneV V.lines[k])) := by
     rw [zb8, zq3, zfg hGL gk2 hkG, hev.2 k hkV hkG]
    have hs1 : ∃ s1, zar P (oneR rL[k]) = s1 := ⟨_, rfl⟩
    obtain ⟨s1, hs1⟩ := hs1
    have hs2 : ∃ s2, zar P (oneR gL[k]) = s2 := ⟨_, rfl⟩
    obtain ⟨s2, hs2⟩ := hs2
    rw [hs1] at wf1 e1
    rw [hs2] at e2
    have wf2 := fun (J1 : Fz) (j1 : Fz.le J J1) => wf_fn J1 P (oneR gL[k]) _ (Its.sub (F := J1) (j1 _ _ (hJ _ _ hF2)) hX2 hcp2 gk2 hk62) hP8 (by show 1 ≤ 1000; omega) (fun y hy => by
     have h1 := hlG.2.1 y (by rw [List.mem_singleton.1 hy]; exact List.getElem_mem gk2); omega) (Nat.zero_le _)
    rw [hs2] at wf2
    have apJ := zpo vl o1 J (m0.mono uJ) _ (ha6'.mono hJ)
    rw [← e1, ← e2] at apJ
    have hlt : (k : Int) < (rL.length : Nat) := by omega
    have hk1 : k + 1 ≤ rL.length := gk
    have hdec : rL.length - (k + 1) < rL.length - k := by omega
    clear hI1 o1 e1 e2 hev;conv=>whnf
    refine br (fun _ => ?_) (fun g => absurd hlt (of_decide_eq_false g));conv=>whnf
    refine ⟨c1, c3, ?_⟩;conv=>whnf
    refine usePu wf1 rfl ⟨rfl, rfl, trivial⟩ rfl ?_;conv=>whnf
    refine useFo (apJ) rfl ⟨rfl, ⟨rfl, rfl, rfl, .inr ⟨rfl, rfl, rfl, rfl⟩⟩, rfl, trivial⟩ rfl ?_
    rintro _ J1 j1 rfl
    have wf3 := wf2 J1 j1
    conv=>whnf
    refine ⟨fun _ => ?_, fun g => absurd g (by simp)⟩;conv=>whnf
    refine ⟨c2', c3, ?_⟩;conv=>whnf
    refine usePu wf3 rfl ⟨rfl, rfl, trivial⟩ rfl ?_;conv=>whnf
    refine br (fun g => absurd g (by simp)) (fun _ => ?_);conv=>whnf
    exact ⟨⟨(k + 1, J1), hk1, Fz.le_trans hJ j1⟩, hdec, leR [] hH hT rfl ⟨trivial, zb2, zb2, trivial⟩ ⟨cnt hk62, trivial⟩ ⟨Fz.le_refl J1, rfl, rfl, trivial⟩⟩
   ·have hge : ¬ (k : Int) < (rL.length : Nat) := by omega
    conv=>whnf
    refine br (fun g => absurd (of_decide_eq_true g) hge) (fun _ => ?_);conv=>whnf
    exact fin true J _ _ rfl rfl uJ
  ·have hgn : gL = [] := zif hGok rfl
   subst hgn
   have ea2 := Its.nil_of hit2
   subst ea2
   have hb2 : (w2 == []) = true := by rw [hwe.2 hGl]; rfl
   have nok := zuv vl F6 _ ha6'
   have hcs : ((w == []) = true) ∨ ((w == []) = false ∧ normS l = [(6, 0)]) := by
    by_cases hvl : V.lost = true
    ·left; rw [hwe1.2 hvl]; rfl
    ·right
     have hvf : V.lost = false := by simpa using hvl
     exact ⟨by
      apply Classical.byContradiction; intro h
      have h2 : w = [] := by simpa using h
      exact hvl (hwe1.1 h2), hnorm hvf hGl⟩
   conv=>whnf
   refine ⟨fun _ => ?_, fun g => absurd g (by simp)⟩;conv=>whnf
   refine ⟨fun _ => ?_, fun g => absurd g (by simp)⟩;conv=>whnf
   refine br (fun g => absurd g (by show ¬ (!(true == (w2 == []))) = true; rw [hb2]; decide)) (fun _ => ?_);conv=>whnf
   refine useFo (nok) rfl ⟨rfl, ⟨rfl, rfl, rfl, .inr ⟨rfl, rfl, rfl, rfl⟩⟩, trivial⟩ rfl ?_
   rintro _ F7 v7 ⟨sm, rfl, hm⟩
   have u7 := Fz.le_trans u6 v7
   rcases hcs with hcs | ⟨hcs, hnn⟩
   ·obtain ⟨hmn, hmb, hme, hmc, hmL, hmr, rfl, hm1, hm2, hm3, hm4⟩ := hm
    conv=>whnf
    refine ⟨fun _ => ?_, fun g => absurd g (by simp)⟩;conv=>whnf
    refine ⟨fun g => absurd g (by rw [hcs]; simp), fun _ => ?_⟩;conv=>whnf
    exact fin true F7 _ _ rfl rfl u7
   ·rw [hnn] at hm
    have ghm : 0 < ([(6, 0)] : List Stp).length := by decide
    obtain ⟨hmn, hmb, hme, hmc, hmL, hmr, rfl, hm1, hm2, hm3, hm4⟩ := hm
    have hgethm : hmL[hme + ((0 : Nat) : Int).toNat]? = some (enc (6, 0)) := Sl.at (k := 0) hm4 ghm
    conv=>whnf
    refine ⟨fun _ => ?_, fun g => absurd g (by simp)⟩;conv=>whnf
    refine ⟨fun _ => ?_, fun g => absurd g (by rw [hcs]; simp)⟩;conv=>whnf
    refine ⟨fun _ => ?_, fun g => absurd g (by simp)⟩;conv=>whnf
    refine ⟨Sl.lt hm1 ghm, ⟨by decide, by simp⟩, ?_⟩;conv=>whnf
    refine ⟨_, hm2 (Sl.lt hm1 ghm), ?_⟩;conv=>whnf
    refine ⟨_, hgethm, ?_⟩;conv=>whnf
    exact fin _ F7 _ _ (by simp) rfl u7
end Go.Proofs.YtblllibdahkgfaaGreatDoor
