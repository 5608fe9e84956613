import Derived.Test.YtblllibdahkgfaaGreatDoorK29

namespace Go.Proofs.YtblllibdahkgfaaGreatDoor
open Go Sx
set_option maxRecDepth 100000
def clampF (n : Int) : Int := if 1000000000000 < (if -1000000000000 > n then -1000000000000 else n) then 1000000000000 else (if -1000000000000 > n then -1000000000000 else n)
def inArea (c e : Cel) : Bool := inR e.row c.top c.row && inR e.col c.left c.col
def sumF (c : Cel) : List (Cel × Int) → Int → Int
  | [], n => n
  | (e, v) :: r, n => sumF c r (if inArea c e = true then IntKind.i64.wrap (n + v) else n)
theorem sumF_snoc (c : Cel) : ∀ (l : List (Cel × Int)) (e : Cel) (v n : Int), sumF c (l ++ [(e, v)]) n = if inArea c e = true then IntKind.i64.wrap (sumF c l n + v) else sumF c l n
  | [], e, v, n => rfl
  | (e', v') :: r, e, v, n => sumF_snoc c r e v _
def valF (done : List Cel) (o : List Int) (c : Cel) : Int := clampF (if c.sum = true then sumF c (done.zip o) c.value else c.value)
def valsA : List Cel → List Cel → List Int → List Int
  | [], _, o => o
  | c :: r, done, o => valsA r (done ++ [c]) (o ++ [valF done o c])
def valsF (l : List Cel) : List Int := valsA l [] []
theorem valsA_drop {l : List Cel} {k : Nat} {o : List Int} {c : Cel} (g : k < l.length) (hc : l[k] = c) : valsA (l.drop k) (l.take k) o = valsA (l.drop (k + 1)) (l.take (k + 1)) (o ++ [valF (l.take k) o c]) := by
  rw [List.drop_eq_getElem_cons g, List.take_succ_eq_append_getElem g, hc]; rfl
theorem zip_take {l : List Cel} {o : List Int} {k j : Nat} {e : Cel} {v : Int} (hk : k ≤ l.length) (ho : o.length = k) (hj : j < k) (he : l[j]? = some e) (hv : o[j]? = some v) :
    ((l.take k).zip o).take (j + 1) = ((l.take k).zip o).take j ++ [(e, v)] := by
  have hz : ((l.take k).zip o).length = k := by rw [List.length_zip, List.length_take, ho]; omega
  rw [List.take_succ_eq_append_getElem (by rw [hz]; exact hj), List.getElem_zip]
  have h1 : (l.take k)[j]'(by rw [List.length_take]; omega) = e := by
    rw [List.getElem_take]
    exact (List.getElem?_eq_some_iff.1 he).2
  have h2 : o[j]'(by omega) = v := (List.getElem?_eq_some_iff.1 hv).2
  rw [h1, h2]
def docE4 (a b : SA) (w : Int) (s : List UInt8) : Ent := .one (.cells 144 (docS a b w s))
theorem docE4_below {n : Nat} {a b : SA} {w : Int} {s : List UInt8} (ha : a.below n) (hb : b.below n) : (docE4 a b w s).below n := docE_below (w := w) (s := s) ha hb
def celE (c : Cel) : Ent := .one (.cells 172 (encK c))
theorem celE_below {n : Nat} (c : Cel) : (celE c).below n := (SB.bB_ok rfl : SB.below n (.cells 172 (encK c)))
theorem valEnd {F F' : Fz} {o : List Int} {co b : Nat} {h : Hp} {nx : Nat} (hle : Fz.le F F') (hb : F' b = some (.arr 3 1 (o.map encI) co)) (h0 : lget h 0 = some (.frz F')) {K : List Cel} (hv : valsF K = o) {u : Out} (hu : u.ren (resP h) = .ret (.va (.slice false 0 b 0 1 o.length co))) :
    Cln 1 (FoK F fun o F' => ∃ r, o = .ret (.va r) ∧ ((K = [] ∧ r = .nilsl) ∨ (IntsAt F' r (valsF K) ∧ ∃ b c, r = .slice false 0 b 0 1 (valsF K).length c))) u h nx := by
  subst hv
  exact endFo (.ret (.va (.slice false 0 b 0 1 (valsF K).length co))) F' h0 hle (Fz.le_refl F') ⟨_, rfl, .inr ⟨Sl.new (l := valsF K) hb, _, _, rfl⟩⟩ (by rw [hu]; exact outE_refl _) rfl
set_option maxHeartbeats 16000000 in
theorem values_fn (F : Fz) (an : Bool) (ab ae al ac : Nat) (bn : Bool) (bb be bc : Nat) (K : List Cel) (w : Int) (s : List UInt8) (hb : Sl F 172 6 encK (.slice bn 0 bb be 6 K.length bc) K) (hl : K.length ≤ 1000) (hcap : K.length ≤ bc) :
    Fo Tryz.prog F 121 [.agg (docS (.slice an 0 ab ae 2 al ac) (.slice bn 0 bb be 6 K.length bc) w s)] (fun o F' => ∃ r, o = .ret (.va r) ∧ ((K = [] ∧ r = .nilsl) ∨ (IntsAt F' r (valsF K) ∧ ∃ b c, r = .slice false 0 b 0 1 (valsF K).length c))) := by
  obtain ⟨hbn, hbb, hbe, hbc, hbL, hbr, heq, hb1, hb2, hb3, hb4⟩ := hb
  cases heq
  refine fo_of hΘ Tryz.func121 rfl (by decide) _ _ rfl rfl rfl ?_
  conv => whnf
  refine loop_at hΘ (X := { y : Nat × List Int × Nat // y.1 ≤ K.length ∧ y.2.1.length = y.1 ∧ valsF K = valsA (K.drop y.1) (K.take y.1) y.2.1 }) (fun y => [(3, .va (gA 1 2 y.1.2.2 y.1.2.1)), (13, .va (.int .i64 y.1.1))]) [4, 5, 6, 7, 8, 14, 15, 16, 17, 18, 19, 20, 21, 22, 23, 24, 25, 26, 27, 28, 29, 30, 31, 32, 33, 34, 35, 36, 37, 38, 39, 40, 41, 42, 43, 44, 45, 46, 47, 48, 49, 50, 51, 52, 53, 54, 55, 56, 57, 58, 59, 60, 61, 62]
    (fun y => [(0, .frz F), (1, docE4 (.slice an 0 ab ae 2 al ac) (.slice bn 0 bb be 6 K.length bc) w s), (2, gE 3 1 encI y.1.2.2 y.1.2.1)]) 3 (fun y => K.length - y.1.1) ⟨(0, [], 0), Nat.zero_le _, rfl, rfl⟩
    (fun hH hT => leI [(2, 2)] hH hT rfl ⟨trivial, docE4_below (.inr (by omega)) (.inr (by omega)), gE_below encI_plain _ _ _ _ _, trivial⟩ ⟨rfl, rfl, trivial⟩ ⟨Fz.le_refl F, rfl, rfl, trivial⟩) ?_
  rintro ⟨⟨k, o, co⟩, hk, ho, hv⟩ hH hT
  replace hk : k ≤ K.length := hk
  replace ho : o.length = k := ho
  replace hv : valsF K = valsA (K.drop k) (K.take k) o := hv
  by_cases g : k < K.length
  · have hlt : (k : Int) < (K.length : Nat) := by omega
    have hidx : 0 ≤ (k : Int) ∧ (k : Int) < (K.length : Nat) := by omega
    have hex : ∃ c, K[k] = c := ⟨_, rfl⟩
    obtain ⟨c, hc⟩ := hex
    have hat : hbL[be + (k : Int).toNat]? = some (encK c) := by rw [← hc]; exact Sl.at hb4 g
    rw [valsA_drop g hc] at hv
    have hk1 : k + 1 ≤ K.length := g
    have hdec : K.length - (k + 1) < K.length - k := by omega
    have hk62 : k < 4611686018427387904 := by omega
    conv => whnf
    refine br (fun _ => ?_) (fun g2 => absurd hlt (of_decide_eq_false g2))
    conv => whnf
    refine ⟨Sl.lt hb1 g, hidx, ?_⟩
    conv => whnf
    refine ⟨_, hb2 (Sl.lt hb1 g), ?_⟩
    conv => whnf
    refine ⟨_, hat, ?_⟩
    conv => whnf
    by_cases hs : c.sum = true
    · refine br (fun _ => ?_) (fun g2 => absurd hs (by rw [g2]; simp))
      have hz : valF (K.take k) o c = clampF (sumF c ((K.take k).zip o) c.value) := by rw [valF, if_pos hs]
      have hcut : 0 ≤ (k : Int) ∧ (k : Int) ≤ (bc : Nat) := by omega
      conv => whnf
      refine ⟨hcut, ?_⟩
      conv => whnf
      refine loop_at hΘ (X := { y : Nat × Int // y.1 ≤ k ∧ y.2 = sumF c (((K.take k).zip o).take y.1) c.value }) (fun y => [(6, .va (.int .i64 y.1.2)), (28, .va (.int .i64 y.1.1))]) [7, 8, 29, 30, 31, 32, 33, 34, 35, 36, 37, 38, 39, 40, 41, 42, 43, 44, 45, 46, 47, 48, 49, 50, 51, 52, 53, 54, 55]
        (fun _ => [(0, .frz F), (1, docE4 (.slice an 0 ab ae 2 al ac) (.slice bn 0 bb be 6 K.length bc) w s), (2, gE 3 1 encI co o), (3, celE c)]) 4 (fun y => k - y.1.1) ⟨(0, c.value), Nat.zero_le _, rfl⟩
        (fun hH hT => leI [] hH hT rfl ⟨trivial, docE4_below (.inr (by omega)) (.inr (by omega)), gE_below encI_plain _ _ _ _ _, celE_below _, trivial⟩ ⟨rfl, rfl, trivial⟩ ⟨Fz.le_refl F, rfl, sub_gE encI_plain (gE_self _ _ _ _), rfl, trivial⟩) ?_
      rintro ⟨⟨j, n⟩, hj, hn⟩ hH1 hT1
      replace hj : j ≤ k := hj
      replace hn : n = sumF c (((K.take k).zip o).take j) c.value := hn
      by_cases gj : j < k
      · have hlj : (j : Int) < (k : Nat) := by omega
        have hij : 0 ≤ (j : Int) ∧ (j : Int) < (k : Nat) := by omega
        have gjK : j < K.length := by omega
        have gjo : j < o.length := by omega
        have hex2 : ∃ e v, K[j] = e ∧ o[j] = v := ⟨_, _, rfl, rfl⟩
        obtain ⟨e, v, hKe, hov⟩ := hex2
        have hat2 : hbL[(if bc = 0 then be else be + 0) + (j : Int).toNat]? = some (encK e) := by
          rw [← hKe, show (if bc = 0 then be else be + 0) = be by split <;> rfl]; exact Sl.at hb4 gjK
        have hot : (o.map encI)[0 + (j : Int).toNat]? = some (encI v) := by rw [Nat.zero_add, Int.toNat_natCast, List.getElem?_map, List.getElem?_eq_getElem gjo, hov]; rfl
        have hzt := zip_take (e := e) (v := v) hk ho gj (by rw [List.getElem?_eq_getElem gjK, hKe]) (by rw [List.getElem?_eq_getElem gjo, hov])
        have hnx : sumF c (((K.take k).zip o).take (j + 1)) c.value = if inArea c e = true then IntKind.i64.wrap (n + v) else n := by
          rw [hzt, sumF_snoc, ← hn]
        have hio : 0 ≤ (j : Int) ∧ (j : Int) < (o.length : Nat) := by omega
        have hxx : ∃ b1 b2, inR e.row c.top c.row = b1 ∧ inR e.col c.left c.col = b2 := ⟨_, _, rfl, rfl⟩
        obtain ⟨b1, b2, hb1', hb2'⟩ := hxx
        have w1 := cwithinL hb1' F
        have w2 := cwithinL hb2' F
        have hia : inArea c e = (b1 && b2) := by unfold inArea; rw [hb1', hb2']
        rw [hia] at hnx
        have hj1 : j + 1 ≤ k := gj
        have hdj : k - (j + 1) < k - j := by omega
        have hj62 : j < 4611686018427387904 := by omega
        clear hzt hKe hov hb1' hb2' hia
        rcases o with _ | ⟨o0, or'⟩
        · exact absurd gjo (by simp)
        · conv => whnf
          refine br (fun _ => ?_) (fun g2 => absurd hlj (of_decide_eq_false g2))
          conv => whnf
          refine ⟨Sl.lt hb1 gjK, hij, ?_⟩
          conv => whnf
          refine ⟨_, hb2 (Sl.lt hb1 gjK), ?_⟩
          conv => whnf
          refine ⟨_, hat2, ?_⟩
          conv => whnf
          refine usePu w1 rfl ⟨rfl, rfl, rfl, trivial⟩ rfl ?_
          rcases b1 with _ | _
          · conv => whnf
            exact ⟨⟨(j + 1, n), hj1, by rw [hnx]; rfl⟩, hdj, leR [] hH1 hT1 rfl ⟨trivial, docE4_below (.inr (by omega)) (.inr (by omega)), gE_below encI_plain _ _ _ _ _, celE_below _, trivial⟩ ⟨rfl, cnt hj62, trivial⟩ ⟨Fz.le_refl F, rfl, sub_gE encI_plain (gE_self _ _ _ _), rfl, trivial⟩⟩
          · conv => whnf
            refine usePu w2 rfl ⟨rfl, rfl, rfl, trivial⟩ rfl ?_
            rcases b2 with _ | _
            · conv => whnf
              exact ⟨⟨(j + 1, n), hj1, by rw [hnx]; rfl⟩, hdj, leR [] hH1 hT1 rfl ⟨trivial, docE4_below (.inr (by omega)) (.inr (by omega)), gE_below encI_plain _ _ _ _ _, celE_below _, trivial⟩ ⟨rfl, cnt hj62, trivial⟩ ⟨Fz.le_refl F, rfl, sub_gE encI_plain (gE_self _ _ _ _), rfl, trivial⟩⟩
            · conv => whnf
              refine ⟨rfl, hio, ?_⟩
              conv => whnf
              refine ⟨rfl, _, hot, ?_⟩
              conv => whnf
              exact ⟨⟨(j + 1, IntKind.i64.wrap (n + v)), hj1, by rw [hnx]; rfl⟩, hdj, leR [] hH1 hT1 rfl ⟨trivial, docE4_below (.inr (by omega)) (.inr (by omega)), gE_below encI_plain _ _ _ _ _, celE_below _, trivial⟩ ⟨rfl, cnt hj62, trivial⟩ ⟨Fz.le_refl F, rfl, sub_gE encI_plain (gE_self _ _ _ _), rfl, trivial⟩⟩
      · have hgj : ¬ (j : Int) < (k : Nat) := by omega
        have hjk : j = k := by omega
        have hzl : ((K.take k).zip o).length = k := by rw [List.length_zip, List.length_take, ho]; omega
        rw [hjk, List.take_of_length_le (Nat.le_of_eq hzl)] at hn
        rw [← hn] at hz
        rcases o with _ | ⟨o0, or'⟩
        · conv => whnf
          refine br (fun g2 => absurd (of_decide_eq_true g2) hgj) (fun _ => ?_)
          conv => whnf
          refine ⟨Nat.le_of_ble_eq_true rfl, [encI (clampF (n))], rfl, ?_⟩
          conv => whnf
          refine ⟨rfl, rfl, ?_⟩
          conv => whnf
          refine ⟨by show 1 * 8 ≤ 140737488355328; omega, fun c' hc' => ?_⟩
          conv => whnf
          exact ⟨⟨(k + 1, ([]) ++ [clampF (n)], c'), hk1, by rw [List.length_append, List.length_singleton, ho], by rw [hz] at hv; exact hv⟩, hdec, leRn [_, _, _] [_, _] [(2, 5)] hH hT rfl ⟨trivial, docE4_below (.inr (by omega)) (.inr (by omega)), gE_below encI_plain _ _ _ _ _, trivial⟩ ⟨by (conv => whnf); exact ⟨rfl, rfl, rfl, .inr ⟨rfl, rfl, rfl, rfl⟩⟩, cnt hk62, trivial⟩ ⟨Fz.le_refl F, rfl, sub_gE encI_plain (gE_one _ (by simp)), trivial⟩⟩
        · have hsz : (or'.length + 1 + 1) * 8 ≤ 140737488355328 := by
            have h9 : or'.length + 1 = k := ho
            omega
          conv => whnf
          refine br (fun g2 => absurd (of_decide_eq_true g2) hgj) (fun _ => ?_)
          conv => whnf
          refine ⟨Nat.le_of_ble_eq_true rfl, [encI (clampF (n))], rfl, ?_⟩
          conv => whnf
          refine ⟨rfl, rfl, by simp, rfl, hsz, fun c' hc' => ?_⟩
          conv => whnf
          exact ⟨⟨(k + 1, (o0 :: or') ++ [clampF (n)], c'), hk1, by rw [List.length_append, List.length_singleton, ho], by rw [hz] at hv; exact hv⟩, hdec, leRn [_, _, _] [_, _] [(2, 5)] hH hT rfl ⟨trivial, docE4_below (.inr (by omega)) (.inr (by omega)), gE_below encI_plain _ _ _ _ _, trivial⟩ ⟨gA_new (μ := sig [(2, 5)]) (i := 2) (j := 5) rfl 1 c' _ (o0 :: or') (clampF n) rfl, cnt hk62, trivial⟩ ⟨Fz.le_refl F, rfl, sub_gE encI_plain (gE_one _ (by simp)), trivial⟩⟩
    · refine br (fun g2 => absurd g2 hs) (fun _ => ?_)
      have hz : valF (K.take k) o c = clampF c.value := by rw [valF, if_neg hs]
      rcases o with _ | ⟨o0, or'⟩
      · conv => whnf
        refine ⟨Nat.le_of_ble_eq_true rfl, [encI (clampF (c.value))], rfl, ?_⟩
        conv => whnf
        refine ⟨rfl, rfl, ?_⟩
        conv => whnf
        refine ⟨by show 1 * 8 ≤ 140737488355328; omega, fun c' hc' => ?_⟩
        conv => whnf
        exact ⟨⟨(k + 1, ([]) ++ [clampF (c.value)], c'), hk1, by rw [List.length_append, List.length_singleton, ho], by rw [hz] at hv; exact hv⟩, hdec, leR [(2, 5)] hH hT rfl ⟨trivial, docE4_below (.inr (by omega)) (.inr (by omega)), gE_below encI_plain _ _ _ _ _, trivial⟩ ⟨by (conv => whnf); exact ⟨rfl, rfl, rfl, .inr ⟨rfl, rfl, rfl, rfl⟩⟩, cnt hk62, trivial⟩ ⟨Fz.le_refl F, rfl, sub_gE encI_plain (gE_one _ (by simp)), trivial⟩⟩
      · have hsz : (or'.length + 1 + 1) * 8 ≤ 140737488355328 := by
          have h9 : or'.length + 1 = k := ho
          omega
        conv => whnf
        refine ⟨Nat.le_of_ble_eq_true rfl, [encI (clampF (c.value))], rfl, ?_⟩
        conv => whnf
        refine ⟨rfl, rfl, by simp, rfl, hsz, fun c' hc' => ?_⟩
        conv => whnf
        exact ⟨⟨(k + 1, (o0 :: or') ++ [clampF (c.value)], c'), hk1, by rw [List.length_append, List.length_singleton, ho], by rw [hz] at hv; exact hv⟩, hdec, leR [(2, 5)] hH hT rfl ⟨trivial, docE4_below (.inr (by omega)) (.inr (by omega)), gE_below encI_plain _ _ _ _ _, trivial⟩ ⟨gA_new (μ := sig [(2, 5)]) (i := 2) (j := 5) rfl 1 c' _ (o0 :: or') (clampF c.value) rfl, cnt hk62, trivial⟩ ⟨Fz.le_refl F, rfl, sub_gE encI_plain (gE_one _ (by simp)), trivial⟩⟩
  · have hge : ¬ (k : Int) < (K.length : Nat) := by omega
    have hkl : k = K.length := by omega
    rw [hkl, List.drop_of_length_le (Nat.le_refl _)] at hv
    replace hv : valsF K = o := hv
    rcases o with _ | ⟨o0, or'⟩
    · have hK : K = [] := List.eq_nil_of_length_eq_zero (by rw [← hkl, ← ho]; rfl)
      conv => whnf
      refine br (fun g2 => absurd (of_decide_eq_true g2) hge) (fun _ => ?_)
      conv => whnf
      exact endFo (.ret (.va .nilsl)) F rfl (Fz.le_refl F) (Fz.le_refl F) ⟨_, rfl, .inl ⟨hK, rfl⟩⟩ (outE_refl _) rfl
    · conv => whnf
      refine br (fun g2 => absurd (of_decide_eq_true g2) hge) (fun _ => ?_)
      conv => whnf
      refine freezeE 2 (fun _ => .arr 3 1 ((o0 :: or').map encI) co) rfl rfl rfl (fun _ _ => by exact gB_ren encI_plain rfl _ _ _ _) (fun _ _ => gB_below encI_plain _ _ _ _ _) ?_
      intro b' F' hle hb'
      exact valEnd hle (hb' 0 ⟨rfl, rfl⟩) rfl hv rfl
end Go.Proofs.YtblllibdahkgfaaGreatDoor
