import Derived.Test.YtblllibdahkgfaaGreatDoorK32
import Derived.Test.YtblllibdahkgfaaGreatDoorK33
import Derived.Test.YtblllibdahkgfaaGreatDoorK25

namespace Go.Proofs.YtblllibdahkgfaaGreatDoor
open Go Sx
set_option maxRecDepth 100000
theorem forgetC {P : Program} {f : FuncId} {args : List SV} {h : Hp} {nx : Nat} {K : Out → Hp → Nat → Prop} (i : Nat) (h1 : (Nat.ble (i + 1) nx && !Nat.beq i 0) = true) (hk : CallWP P f args (lput h i .gone) nx K) : CallWP P f args h nx K := by
  unfold CallWP at *
  intro C ρ w vs S hr hb
  simp only [Bool.and_eq_true, Bool.not_eq_true'] at h1
  have hi : i < nx := Nat.le_of_ble_eq_true h1.1
  have hi0 : i ≠ 0 := fun h => by rw [h] at h1; exact absurd h1.2 (by decide)
  exact hk C ρ w vs (S.forget hi hi0) hr hb
theorem numbersS_ne {n : Int} (h : -4611686018427387903 ≤ n ∧ n ≤ 4611686018427387903) (l : List Int) : numbersS (n :: l) ≠ [] := by
  rw [numbersS, List.map_cons, List.flatten_cons, putIR_ok h]
  intro h
  exact putI_ne n (List.append_eq_nil_iff.1 h).1
theorem app_ne {α : Type} {a b : List α} (h : a ≠ []) : a ++ b ≠ [] := fun h2 => h (List.append_eq_nil_iff.1 h2).1
theorem propB_ne {p : Int} {d : Dc} (hd : docOk d = true) : propB p d ≠ [] := by
  obtain ⟨hl, hc, ha, hln, hcel, hras⟩ := docOk_iff hd
  obtain ⟨r1, r2, r3, r4⟩ := rasOk_iff hras
  have hf : ∀ b, (d.cells.filter (keepQ b)).length ≤ 64 := fun b => Nat.le_trans (List.length_filter_le _ _) hc
  have h1 := hf true
  have h2 := hf false
  unfold propB
  split
  · exact app_ne (numbersS_ne (by omega) _)
  split
  · exact app_ne (numbersS_ne (by omega) _)
  split
  · exact app_ne (numbersS_ne (by omega) _)
  split
  · exact app_ne (numbersS_ne (by omega) _)
  split
  · exact app_ne (numbersS_ne (by omega) _)
  split
  · exact numbersS_ne (by omega) _
  split
  · exact app_ne (numbersS_ne (by omega) _)
  · exact numbersS_ne (by omega) _
def pAns (p : Int) (d : Dc) : Out := .ret (.tup [.va (.str (if docOk d = true then propB p d else [])), .va (.int .i64 (if docOk d = true then 0 else 60))])
theorem pAns_t {p : Int} {d : Dc} (h : docOk d = true) : pAns p d = .ret (.tup [.va (.str (propB p d)), .va (.int .i64 0)]) := by rw [pAns, if_pos h, if_pos h]
theorem pAns_f {p : Int} {d : Dc} (h : docOk d = false) : pAns p d = .ret (.tup [.va (.str []), .va (.int .i64 60)]) := by rw [pAns, h]; rfl
set_option maxHeartbeats 8000000 in
theorem prop1_fn (hP : PFun) (F : Fz) (an : Bool) (ab ae ac : Nat) (bn : Bool) (bb be bc : Nat) (d : Dc) (ha : Sl F 168 2 encN (.slice an 0 ab ae 2 d.lines.length ac) d.lines) (hb : Sl F 172 6 encK (.slice bn 0 bb be 6 d.cells.length bc) d.cells)
    (hl : d.lines.length ≤ 1000) (hc : d.cells.length ≤ 1000) (hs : d.bits.length ≤ 70000) (hcap : d.cells.length ≤ bc) :
    Fo Tryz.prog F 59 [.agg (docS (.slice an 0 ab ae 2 d.lines.length ac) (.slice bn 0 bb be 6 d.cells.length bc) d.w d.bits), .va (.int .i64 1)] (fun o F' => o = pAns 1 d) := by
  have hva := valid90_fn F _ _ d ha hb hl hc hs
  have hpt := pAns_t (p := 1) (d := d)
  have hpf := pAns_f (p := 1) (d := d)
  have hne := propB_ne (p := 1) (d := d)
  have hB : propB 1 d = ptext d.lines := rfl
  have hx : docOk d = true → ∀ x ∈ d.lines, x.1.length ≤ 1000000 := fun hd x hx => by
    have := (docOk_iff hd).ln x hx
    unfold dlnOk at this
    simp only [Bool.and_eq_true, decide_eq_true_eq] at this
    omega
  have hlen := propB_len (p := 1) (d := d)
  have hcl := fun hd : docOk d = true => cl1_fn hP F an ab ae ac bn bb be d.cells.length bc d.lines d.w d.bits ha hl (hx hd)
  rw [← hB] at hcl
  clear hx hB hs hl hc hcap
  obtain ⟨T, hT⟩ : ∃ T, propB 1 d = T := ⟨_, rfl⟩
  rw [hT] at hcl hpt hne hlen
  clear hT
  obtain ⟨L, K, w, s⟩ := d
  replace ha : Sl F 168 2 encN (.slice an 0 ab ae 2 L.length ac) L := ha
  replace hb : Sl F 172 6 encK (.slice bn 0 bb be 6 K.length bc) K := hb
  obtain ⟨v, hv⟩ : ∃ v, docOk ⟨L, K, w, s⟩ = v := ⟨_, rfl⟩
  rw [hv] at hva hpt hpf hne hcl hlen
  have fin : ∀ (z : Out) (F1 : Fz) (h : Hp) (nx : Nat), pAns 1 ⟨L, K, w, s⟩ = z → (∀ μ, z.ren μ = z) → z.z = true → Fz.le F F1 → lget h 0 = some (.frz F1) → Cln 1 (FoK F fun o F' => o = pAns 1 ⟨L, K, w, s⟩) z h nx := by
    intro z F1 h nx hz hr hzz hle h0
    subst hz
    exact endFo (pAns 1 ⟨L, K, w, s⟩) F1 h0 hle (Fz.le_refl F1) rfl (by rw [hr]; exact outE_refl _) hzz
  refine fo_of hΘ Tryz.func59 rfl (by decide) _ _ rfl rfl rfl ?_
  conv => whnf
  refine use (props_fn F) [] rfl trivial rfl trivial (by simp) trivial ?_
  rintro _ F0 h0 n0 hle ⟨rfl, rfl, rfl, rfl⟩
  conv => whnf
  refine br (fun _ => ?_) (fun g => absurd g (by decide))
  conv => whnf
  refine usePu hva rfl (argsE_refl _) rfl ?_
  rcases v with _ | _
  · conv => whnf
    refine br (fun _ => ?_) (fun g => absurd g (by decide))
    conv => whnf
    exact fin _ F _ _ (hpf rfl) (fun _ => rfl) rfl (Fz.le_refl F) rfl
  · conv => whnf
    refine br (fun g => absurd g (by decide)) (fun _ => ?_)
    conv => whnf
    refine forgetC 2 rfl ?_
    refine use (hcl rfl) [(1, 3), (2, 2)] rfl ⟨rfl, rfl, trivial⟩ rfl ⟨wrC_below _ (by omega) (by omega) _ _, gE_below encB_plain _ _ _ _ _, trivial⟩ (by simp [SV.below, SC.below, SA.below]) ⟨rfl, rfl, trivial⟩ ?_
    rintro out0 F1 h0 n0 hle1 ⟨rfl, rfl, u1, c1, hu1, rfl⟩
    conv => whnf
    refine str_call (hne rfl) (hlen rfl) rfl (wrC_ren (by rfl) (by rfl) _ _) rfl (gE_ren encB_plain _ _ _ _ _) ?_
    intro o'
    conv => whnf
    exact fin _ F1 _ _ (hpt rfl) (fun _ => rfl) rfl hle1 rfl
set_option maxHeartbeats 8000000 in
theorem prop2_fn (hP : PFun) (F : Fz) (an : Bool) (ab ae ac : Nat) (bn : Bool) (bb be bc : Nat) (d : Dc) (ha : Sl F 168 2 encN (.slice an 0 ab ae 2 d.lines.length ac) d.lines) (hb : Sl F 172 6 encK (.slice bn 0 bb be 6 d.cells.length bc) d.cells)
    (hl : d.lines.length ≤ 1000) (hc : d.cells.length ≤ 1000) (hs : d.bits.length ≤ 70000) (hcap : d.cells.length ≤ bc) :
    Fo Tryz.prog F 59 [.agg (docS (.slice an 0 ab ae 2 d.lines.length ac) (.slice bn 0 bb be 6 d.cells.length bc) d.w d.bits), .va (.int .i64 2)] (fun o F' => o = pAns 2 d) := by
  have hva := valid90_fn F _ _ d ha hb hl hc hs
  have hpt := pAns_t (p := 2) (d := d)
  have hpf := pAns_f (p := 2) (d := d)
  have hne := propB_ne (p := 2) (d := d)
  have hB : propB 2 d = pmot d.lines := rfl
  have hx : docOk d = true → ∀ x ∈ d.lines, x.1.length ≤ 1000000 := fun hd x hx => by
    have := (docOk_iff hd).ln x hx
    unfold dlnOk at this
    simp only [Bool.and_eq_true, decide_eq_true_eq] at this
    omega
  have hlen := propB_len (p := 2) (d := d)
  have hcl := fun hd : docOk d = true => cl2_fn hP F an ab ae ac bn bb be d.cells.length bc d.lines d.w d.bits ha hl
  rw [← hB] at hcl
  clear hx hB hs hl hc hcap
  obtain ⟨T, hT⟩ : ∃ T, propB 2 d = T := ⟨_, rfl⟩
  rw [hT] at hcl hpt hne hlen
  clear hT
  obtain ⟨L, K, w, s⟩ := d
  replace ha : Sl F 168 2 encN (.slice an 0 ab ae 2 L.length ac) L := ha
  replace hb : Sl F 172 6 encK (.slice bn 0 bb be 6 K.length bc) K := hb
  obtain ⟨v, hv⟩ : ∃ v, docOk ⟨L, K, w, s⟩ = v := ⟨_, rfl⟩
  rw [hv] at hva hpt hpf hne hcl hlen
  have fin : ∀ (z : Out) (F1 : Fz) (h : Hp) (nx : Nat), pAns 2 ⟨L, K, w, s⟩ = z → (∀ μ, z.ren μ = z) → z.z = true → Fz.le F F1 → lget h 0 = some (.frz F1) → Cln 1 (FoK F fun o F' => o = pAns 2 ⟨L, K, w, s⟩) z h nx := by
    intro z F1 h nx hz hr hzz hle h0
    subst hz
    exact endFo (pAns 2 ⟨L, K, w, s⟩) F1 h0 hle (Fz.le_refl F1) rfl (by rw [hr]; exact outE_refl _) hzz
  refine fo_of hΘ Tryz.func59 rfl (by decide) _ _ rfl rfl rfl ?_
  conv => whnf
  refine use (props_fn F) [] rfl trivial rfl trivial (by simp) trivial ?_
  rintro _ F0 h0 n0 hle ⟨rfl, rfl, rfl, rfl⟩
  conv => whnf
  refine br (fun g => absurd g (by decide)) (fun _ => ?_); (conv => whnf); refine br (fun _ => ?_) (fun g => absurd g (by decide))
  conv => whnf
  refine usePu hva rfl (argsE_refl _) rfl ?_
  rcases v with _ | _
  · conv => whnf
    refine br (fun _ => ?_) (fun g => absurd g (by decide))
    conv => whnf
    exact fin _ F _ _ (hpf rfl) (fun _ => rfl) rfl (Fz.le_refl F) rfl
  · conv => whnf
    refine br (fun g => absurd g (by decide)) (fun _ => ?_)
    conv => whnf
    refine forgetC 2 rfl ?_
    refine use (hcl rfl) [(1, 3), (2, 2)] rfl ⟨rfl, rfl, trivial⟩ rfl ⟨wrC_below _ (by omega) (by omega) _ _, gE_below encB_plain _ _ _ _ _, trivial⟩ (by simp [SV.below, SC.below, SA.below]) ⟨rfl, rfl, trivial⟩ ?_
    rintro out0 F1 h0 n0 hle1 ⟨rfl, rfl, u1, c1, hu1, rfl⟩
    conv => whnf
    refine str_call (hne rfl) (hlen rfl) rfl (wrC_ren (by rfl) (by rfl) _ _) rfl (gE_ren encB_plain _ _ _ _ _) ?_
    intro o'
    conv => whnf
    exact fin _ F1 _ _ (hpt rfl) (fun _ => rfl) rfl hle1 rfl
set_option maxHeartbeats 8000000 in
theorem prop3_fn (hP : PFun) (F : Fz) (an : Bool) (ab ae ac : Nat) (bn : Bool) (bb be bc : Nat) (d : Dc) (ha : Sl F 168 2 encN (.slice an 0 ab ae 2 d.lines.length ac) d.lines) (hb : Sl F 172 6 encK (.slice bn 0 bb be 6 d.cells.length bc) d.cells)
    (hl : d.lines.length ≤ 1000) (hc : d.cells.length ≤ 1000) (hs : d.bits.length ≤ 70000) (hcap : d.cells.length ≤ bc) :
    Fo Tryz.prog F 59 [.agg (docS (.slice an 0 ab ae 2 d.lines.length ac) (.slice bn 0 bb be 6 d.cells.length bc) d.w d.bits), .va (.int .i64 3)] (fun o F' => o = pAns 3 d) := by
  have hva := valid90_fn F _ _ d ha hb hl hc hs
  have hpt := pAns_t (p := 3) (d := d)
  have hpf := pAns_f (p := 3) (d := d)
  have hne := propB_ne (p := 3) (d := d)
  have hB : propB 3 d = pcells false d.cells := rfl
  have hx : docOk d = true → ∀ x ∈ d.lines, x.1.length ≤ 1000000 := fun hd x hx => by
    have := (docOk_iff hd).ln x hx
    unfold dlnOk at this
    simp only [Bool.and_eq_true, decide_eq_true_eq] at this
    omega
  have hlen := propB_len (p := 3) (d := d)
  have hcl := fun hd : docOk d = true => cl3_fn hP F an ab ae d.lines.length ac bn bb be bc d.cells d.w d.bits hb hc
  rw [← hB] at hcl
  clear hx hB hs hl hc hcap
  obtain ⟨T, hT⟩ : ∃ T, propB 3 d = T := ⟨_, rfl⟩
  rw [hT] at hcl hpt hne hlen
  clear hT
  obtain ⟨L, K, w, s⟩ := d
  replace ha : Sl F 168 2 encN (.slice an 0 ab ae 2 L.length ac) L := ha
  replace hb : Sl F 172 6 encK (.slice bn 0 bb be 6 K.length bc) K := hb
  obtain ⟨v, hv⟩ : ∃ v, docOk ⟨L, K, w, s⟩ = v := ⟨_, rfl⟩
  rw [hv] at hva hpt hpf hne hcl hlen
  have fin : ∀ (z : Out) (F1 : Fz) (h : Hp) (nx : Nat), pAns 3 ⟨L, K, w, s⟩ = z → (∀ μ, z.ren μ = z) → z.z = true → Fz.le F F1 → lget h 0 = some (.frz F1) → Cln 1 (FoK F fun o F' => o = pAns 3 ⟨L, K, w, s⟩) z h nx := by
    intro z F1 h nx hz hr hzz hle h0
    subst hz
    exact endFo (pAns 3 ⟨L, K, w, s⟩) F1 h0 hle (Fz.le_refl F1) rfl (by rw [hr]; exact outE_refl _) hzz
  refine fo_of hΘ Tryz.func59 rfl (by decide) _ _ rfl rfl rfl ?_
  conv => whnf
  refine use (props_fn F) [] rfl trivial rfl trivial (by simp) trivial ?_
  rintro _ F0 h0 n0 hle ⟨rfl, rfl, rfl, rfl⟩
  conv => whnf
  refine br (fun g => absurd g (by decide)) (fun _ => ?_); (conv => whnf); refine br (fun g => absurd g (by decide)) (fun _ => ?_); (conv => whnf); refine br (fun _ => ?_) (fun g => absurd g (by decide))
  conv => whnf
  refine usePu hva rfl (argsE_refl _) rfl ?_
  rcases v with _ | _
  · conv => whnf
    refine br (fun _ => ?_) (fun g => absurd g (by decide))
    conv => whnf
    exact fin _ F _ _ (hpf rfl) (fun _ => rfl) rfl (Fz.le_refl F) rfl
  · conv => whnf
    refine br (fun g => absurd g (by decide)) (fun _ => ?_)
    conv => whnf
    refine forgetC 2 rfl ?_
    refine use (hcl rfl) [(1, 3), (2, 2)] rfl ⟨rfl, rfl, trivial⟩ rfl ⟨wrC_below _ (by omega) (by omega) _ _, gE_below encB_plain _ _ _ _ _, trivial⟩ (by simp [SV.below, SC.below, SA.below]) ⟨rfl, rfl, trivial⟩ ?_
    rintro out0 F1 h0 n0 hle1 ⟨rfl, rfl, u1, c1, hu1, rfl⟩
    conv => whnf
    refine str_call (hne rfl) (hlen rfl) rfl (wrC_ren (by rfl) (by rfl) _ _) rfl (gE_ren encB_plain _ _ _ _ _) ?_
    intro o'
    conv => whnf
    exact fin _ F1 _ _ (hpt rfl) (fun _ => rfl) rfl hle1 rfl
set_option maxHeartbeats 8000000 in
theorem prop4_fn (hP : PFun) (F : Fz) (an : Bool) (ab ae ac : Nat) (bn : Bool) (bb be bc : Nat) (d : Dc) (ha : Sl F 168 2 encN (.slice an 0 ab ae 2 d.lines.length ac) d.lines) (hb : Sl F 172 6 encK (.slice bn 0 bb be 6 d.cells.length bc) d.cells)
    (hl : d.lines.length ≤ 1000) (hc : d.cells.length ≤ 1000) (hs : d.bits.length ≤ 70000) (hcap : d.cells.length ≤ bc) :
    Fo Tryz.prog F 59 [.agg (docS (.slice an 0 ab ae 2 d.lines.length ac) (.slice bn 0 bb be 6 d.cells.length bc) d.w d.bits), .va (.int .i64 4)] (fun o F' => o = pAns 4 d) := by
  have hva := valid90_fn F _ _ d ha hb hl hc hs
  have hpt := pAns_t (p := 4) (d := d)
  have hpf := pAns_f (p := 4) (d := d)
  have hne := propB_ne (p := 4) (d := d)
  have hB : propB 4 d = pcells true d.cells := rfl
  have hx : docOk d = true → ∀ x ∈ d.lines, x.1.length ≤ 1000000 := fun hd x hx => by
    have := (docOk_iff hd).ln x hx
    unfold dlnOk at this
    simp only [Bool.and_eq_true, decide_eq_true_eq] at this
    omega
  have hlen := propB_len (p := 4) (d := d)
  have hcl := fun hd : docOk d = true => cl4_fn hP F an ab ae d.lines.length ac bn bb be bc d.cells d.w d.bits hb hc
  rw [← hB] at hcl
  clear hx hB hs hl hc hcap
  obtain ⟨T, hT⟩ : ∃ T, propB 4 d = T := ⟨_, rfl⟩
  rw [hT] at hcl hpt hne hlen
  clear hT
  obtain ⟨L, K, w, s⟩ := d
  replace ha : Sl F 168 2 encN (.slice an 0 ab ae 2 L.length ac) L := ha
  replace hb : Sl F 172 6 encK (.slice bn 0 bb be 6 K.length bc) K := hb
  obtain ⟨v, hv⟩ : ∃ v, docOk ⟨L, K, w, s⟩ = v := ⟨_, rfl⟩
  rw [hv] at hva hpt hpf hne hcl hlen
  have fin : ∀ (z : Out) (F1 : Fz) (h : Hp) (nx : Nat), pAns 4 ⟨L, K, w, s⟩ = z → (∀ μ, z.ren μ = z) → z.z = true → Fz.le F F1 → lget h 0 = some (.frz F1) → Cln 1 (FoK F fun o F' => o = pAns 4 ⟨L, K, w, s⟩) z h nx := by
    intro z F1 h nx hz hr hzz hle h0
    subst hz
    exact endFo (pAns 4 ⟨L, K, w, s⟩) F1 h0 hle (Fz.le_refl F1) rfl (by rw [hr]; exact outE_refl _) hzz
  refine fo_of hΘ Tryz.func59 rfl (by decide) _ _ rfl rfl rfl ?_
  conv => whnf
  refine use (props_fn F) [] rfl trivial rfl trivial (by simp) trivial ?_
  rintro _ F0 h0 n0 hle ⟨rfl, rfl, rfl, rfl⟩
  conv => whnf
  refine br (fun g => absurd g (by decide)) (fun _ => ?_); (conv => whnf); refine br (fun g => absurd g (by decide)) (fun _ => ?_); (conv => whnf); refine br (fun g => absurd g (by decide)) (fun _ => ?_); (conv => whnf); refine br (fun _ => ?_) (fun g => absurd g (by decide))
  conv => whnf
  refine usePu hva rfl (argsE_refl _) rfl ?_
  rcases v with _ | _
  · conv => whnf
    refine br (fun _ => ?_) (fun g => absurd g (by decide))
    conv => whnf
    exact fin _ F _ _ (hpf rfl) (fun _ => rfl) rfl (Fz.le_refl F) rfl
  · conv => whnf
    refine br (fun g => absurd g (by decide)) (fun _ => ?_)
    conv => whnf
    refine forgetC 2 rfl ?_
    refine use (hcl rfl) [(1, 3), (2, 2)] rfl ⟨rfl, rfl, trivial⟩ rfl ⟨wrC_below _ (by omega) (by omega) _ _, gE_below encB_plain _ _ _ _ _, trivial⟩ (by simp [SV.below, SC.below, SA.below]) ⟨rfl, rfl, trivial⟩ ?_
    rintro out0 F1 h0 n0 hle1 ⟨rfl, rfl, u1, c1, hu1, rfl⟩
    conv => whnf
    refine str_call (hne rfl) (hlen rfl) rfl (wrC_ren (by rfl) (by rfl) _ _) rfl (gE_ren encB_plain _ _ _ _ _) ?_
    intro o'
    conv => whnf
    exact fin _ F1 _ _ (hpt rfl) (fun _ => rfl) rfl hle1 rfl
set_option maxHeartbeats 8000000 in
theorem prop5_fn (hP : PFun) (F : Fz) (an : Bool) (ab ae ac : Nat) (bn : Bool) (bb be bc : Nat) (d : Dc) (ha : Sl F 168 2 encN (.slice an 0 ab ae 2 d.lines.length ac) d.lines) (hb : Sl F 172 6 encK (.slice bn 0 bb be 6 d.cells.length bc) d.cells)
    (hl : d.lines.length ≤ 1000) (hc : d.cells.length ≤ 1000) (hs : d.bits.length ≤ 70000) (hcap : d.cells.length ≤ bc) :
    Fo Tryz.prog F 59 [.agg (docS (.slice an 0 ab ae 2 d.lines.length ac) (.slice bn 0 bb be 6 d.cells.length bc) d.w d.bits), .va (.int .i64 5)] (fun o F' => o = pAns 5 d) := by
  have hva := valid90_fn F _ _ d ha hb hl hc hs
  have hpt := pAns_t (p := 5) (d := d)
  have hpf := pAns_f (p := 5) (d := d)
  have hne := propB_ne (p := 5) (d := d)
  have hB : propB 5 d = pvals d.cells := rfl
  have hx : docOk d = true → ∀ x ∈ d.lines, x.1.length ≤ 1000000 := fun hd x hx => by
    have := (docOk_iff hd).ln x hx
    unfold dlnOk at this
    simp only [Bool.and_eq_true, decide_eq_true_eq] at this
    omega
  have hlen := propB_len (p := 5) (d := d)
  have hcl := fun hd : docOk d = true => cl5_fn hP F an ab ae d.lines.length ac bn bb be bc d.cells d.w d.bits hb hc hcap
  rw [← hB] at hcl
  clear hx hB hs hl hc hcap
  obtain ⟨T, hT⟩ : ∃ T, propB 5 d = T := ⟨_, rfl⟩
  rw [hT] at hcl hpt hne hlen
  clear hT
  obtain ⟨L, K, w, s⟩ := d
  replace ha : Sl F 168 2 encN (.slice an 0 ab ae 2 L.length ac) L := ha
  replace hb : Sl F 172 6 encK (.slice bn 0 bb be 6 K.length bc) K := hb
  obtain ⟨v, hv⟩ : ∃ v, docOk ⟨L, K, w, s⟩ = v := ⟨_, rfl⟩
  rw [hv] at hva hpt hpf hne hcl hlen
  have fin : ∀ (z : Out) (F1 : Fz) (h : Hp) (nx : Nat), pAns 5 ⟨L, K, w, s⟩ = z → (∀ μ, z.ren μ = z) → z.z = true → Fz.le F F1 → lget h 0 = some (.frz F1) → Cln 1 (FoK F fun o F' => o = pAns 5 ⟨L, K, w, s⟩) z h nx := by
    intro z F1 h nx hz hr hzz hle h0
    subst hz
    exact endFo (pAns 5 ⟨L, K, w, s⟩) F1 h0 hle (Fz.le_refl F1) rfl (by rw [hr]; exact outE_refl _) hzz
  refine fo_of hΘ Tryz.func59 rfl (by decide) _ _ rfl rfl rfl ?_
  conv => whnf
  refine use (props_fn F) [] rfl trivial rfl trivial (by simp) trivial ?_
  rintro _ F0 h0 n0 hle ⟨rfl, rfl, rfl, rfl⟩
  conv => whnf
  refine br (fun g => absurd g (by decide)) (fun _ => ?_); (conv => whnf); refine br (fun g => absurd g (by decide)) (fun _ => ?_); (conv => whnf); refine br (fun g => absurd g (by decide)) (fun _ => ?_); (conv => whnf); refine br (fun g => absurd g (by decide)) (fun _ => ?_); (conv => whnf); refine br (fun _ => ?_) (fun g => absurd g (by decide))
  conv => whnf
  refine usePu hva rfl (argsE_refl _) rfl ?_
  rcases v with _ | _
  · conv => whnf
    refine br (fun _ => ?_) (fun g => absurd g (by decide))
    conv => whnf
    exact fin _ F _ _ (hpf rfl) (fun _ => rfl) rfl (Fz.le_refl F) rfl
  · conv => whnf
    refine br (fun g => absurd g (by decide)) (fun _ => ?_)
    conv => whnf
    refine forgetC 2 rfl ?_
    refine use (hcl rfl) [(1, 3), (2, 2)] rfl ⟨rfl, rfl, trivial⟩ rfl ⟨wrC_below _ (by omega) (by omega) _ _, gE_below encB_plain _ _ _ _ _, trivial⟩ (by simp [SV.below, SC.below, SA.below]) ⟨rfl, rfl, trivial⟩ ?_
    rintro out0 F1 h0 n0 hle1 ⟨rfl, rfl, u1, c1, hu1, rfl⟩
    conv => whnf
    refine str_call (hne rfl) (hlen rfl) rfl (wrC_ren (by rfl) (by rfl) _ _) rfl (gE_ren encB_plain _ _ _ _ _) ?_
    intro o'
    conv => whnf
    exact fin _ F1 _ _ (hpt rfl) (fun _ => rfl) rfl hle1 rfl
set_option maxHeartbeats 8000000 in
theorem prop6_fn (hP : PFun) (F : Fz) (an : Bool) (ab ae ac : Nat) (bn : Bool) (bb be bc : Nat) (d : Dc) (ha : Sl F 168 2 encN (.slice an 0 ab ae 2 d.lines.length ac) d.lines) (hb : Sl F 172 6 encK (.slice bn 0 bb be 6 d.cells.length bc) d.cells)
    (hl : d.lines.length ≤ 1000) (hc : d.cells.length ≤ 1000) (hs : d.bits.length ≤ 70000) (hcap : d.cells.length ≤ bc) :
    Fo Tryz.prog F 59 [.agg (docS (.slice an 0 ab ae 2 d.lines.length ac) (.slice bn 0 bb be 6 d.cells.length bc) d.w d.bits), .va (.int .i64 6)] (fun o F' => o = pAns 6 d) := by
  have hva := valid90_fn F _ _ d ha hb hl hc hs
  have hpt := pAns_t (p := 6) (d := d)
  have hpf := pAns_f (p := 6) (d := d)
  have hne := propB_ne (p := 6) (d := d)
  have hB : propB 6 d = numbersS [d.w, hgt d.w d.bits] := rfl
  have hx : docOk d = true → ∀ x ∈ d.lines, x.1.length ≤ 1000000 := fun hd x hx => by
    have := (docOk_iff hd).ln x hx
    unfold dlnOk at this
    simp only [Bool.and_eq_true, decide_eq_true_eq] at this
    omega
  have hlen := propB_len (p := 6) (d := d)
  have hcl := fun hd : docOk d = true => cl6_fn hP F an ab ae d.lines.length ac bn bb be d.cells.length bc d.w d.bits (by omega)
  rw [← hB] at hcl
  clear hx hB hs hl hc hcap
  obtain ⟨T, hT⟩ : ∃ T, propB 6 d = T := ⟨_, rfl⟩
  rw [hT] at hcl hpt hne hlen
  clear hT
  obtain ⟨L, K, w, s⟩ := d
  replace ha : Sl F 168 2 encN (.slice an 0 ab ae 2 L.length ac) L := ha
  replace hb : Sl F 172 6 encK (.slice bn 0 bb be 6 K.length bc) K := hb
  obtain ⟨v, hv⟩ : ∃ v, docOk ⟨L, K, w, s⟩ = v := ⟨_, rfl⟩
  rw [hv] at hva hpt hpf hne hcl hlen
  have fin : ∀ (z : Out) (F1 : Fz) (h : Hp) (nx : Nat), pAns 6 ⟨L, K, w, s⟩ = z → (∀ μ, z.ren μ = z) → z.z = true → Fz.le F F1 → lget h 0 = some (.frz F1) → Cln 1 (FoK F fun o F' => o = pAns 6 ⟨L, K, w, s⟩) z h nx := by
    intro z F1 h nx hz hr hzz hle h0
    subst hz
    exact endFo (pAns 6 ⟨L, K, w, s⟩) F1 h0 hle (Fz.le_refl F1) rfl (by rw [hr]; exact outE_refl _) hzz
  refine fo_of hΘ Tryz.func59 rfl (by decide) _ _ rfl rfl rfl ?_
  conv => whnf
  refine use (props_fn F) [] rfl trivial rfl trivial (by simp) trivial ?_
  rintro _ F0 h0 n0 hle ⟨rfl, rfl, rfl, rfl⟩
  conv => whnf
  refine br (fun g => absurd g (by decide)) (fun _ => ?_); (conv => whnf); refine br (fun g => absurd g (by decide)) (fun _ => ?_); (conv => whnf); refine br (fun g => absurd g (by decide)) (fun _ => ?_); (conv => whnf); refine br (fun g => absurd g (by decide)) (fun _ => ?_); (conv => whnf); refine br (fun g => absurd g (by decide)) (fun _ => ?_); (conv => whnf); refine br (fun _ => ?_) (fun g => absurd g (by decide))
  conv => whnf
  refine usePu hva rfl (argsE_refl _) rfl ?_
  rcases v with _ | _
  · conv => whnf
    refine br (fun _ => ?_) (fun g => absurd g (by decide))
    conv => whnf
    exact fin _ F _ _ (hpf rfl) (fun _ => rfl) rfl (Fz.le_refl F) rfl
  · conv => whnf
    refine br (fun g => absurd g (by decide)) (fun _ => ?_)
    conv => whnf
    refine forgetC 2 rfl ?_
    refine use (hcl rfl) [(1, 3), (2, 2)] rfl ⟨rfl, rfl, trivial⟩ rfl ⟨wrC_below _ (by omega) (by omega) _ _, gE_below encB_plain _ _ _ _ _, trivial⟩ (by simp [SV.below, SC.below, SA.below]) ⟨rfl, rfl, trivial⟩ ?_
    rintro out0 F1 h0 n0 hle1 ⟨rfl, rfl, u1, c1, hu1, rfl⟩
    conv => whnf
    refine str_call (hne rfl) (hlen rfl) rfl (wrC_ren (by rfl) (by rfl) _ _) rfl (gE_ren encB_plain _ _ _ _ _) ?_
    intro o'
    conv => whnf
    exact fin _ F1 _ _ (hpt rfl) (fun _ => rfl) rfl hle1 rfl
set_option maxHeartbeats 8000000 in
theorem prop7_fn (hP : PFun) (F : Fz) (an : Bool) (ab ae ac : Nat) (bn : Bool) (bb be bc : Nat) (d : Dc) (ha : Sl F 168 2 encN (.slice an 0 ab ae 2 d.lines.length ac) d.lines) (hb : Sl F 172 6 encK (.slice bn 0 bb be 6 d.cells.length bc) d.cells)
    (hl : d.lines.length ≤ 1000) (hc : d.cells.length ≤ 1000) (hs : d.bits.length ≤ 70000) (hcap : d.cells.length ≤ bc) :
    Fo Tryz.prog F 59 [.agg (docS (.slice an 0 ab ae 2 d.lines.length ac) (.slice bn 0 bb be 6 d.cells.length bc) d.w d.bits), .va (.int .i64 7)] (fun o F' => o = pAns 7 d) := by
  have hva := valid90_fn F _ _ d ha hb hl hc hs
  have hpt := pAns_t (p := 7) (d := d)
  have hpf := pAns_f (p := 7) (d := d)
  have hne := propB_ne (p := 7) (d := d)
  have hB : propB 7 d = numbersS [d.w, hgt d.w d.bits] ++ (putSR d.bits).1 := rfl
  have hx : docOk d = true → ∀ x ∈ d.lines, x.1.length ≤ 1000000 := fun hd x hx => by
    have := (docOk_iff hd).ln x hx
    unfold dlnOk at this
    simp only [Bool.and_eq_true, decide_eq_true_eq] at this
    omega
  have hlen := propB_len (p := 7) (d := d)
  have hcl := fun hd : docOk d = true => cl7_fn hP F an ab ae d.lines.length ac bn bb be d.cells.length bc d.w d.bits (by omega)
  rw [← hB] at hcl
  clear hx hB hs hl hc hcap
  obtain ⟨T, hT⟩ : ∃ T, propB 7 d = T := ⟨_, rfl⟩
  rw [hT] at hcl hpt hne hlen
  clear hT
  obtain ⟨L, K, w, s⟩ := d
  replace ha : Sl F 168 2 encN (.slice an 0 ab ae 2 L.length ac) L := ha
  replace hb : Sl F 172 6 encK (.slice bn 0 bb be 6 K.length bc) K := hb
  obtain ⟨v, hv⟩ : ∃ v, docOk ⟨L, K, w, s⟩ = v := ⟨_, rfl⟩
  rw [hv] at hva hpt hpf hne hcl hlen
  have fin : ∀ (z : Out) (F1 : Fz) (h : Hp) (nx : Nat), pAns 7 ⟨L, K, w, s⟩ = z → (∀ μ, z.ren μ = z) → z.z = true → Fz.le F F1 → lget h 0 = some (.frz F1) → Cln 1 (FoK F fun o F' => o = pAns 7 ⟨L, K, w, s⟩) z h nx := by
    intro z F1 h nx hz hr hzz hle h0
    subst hz
    exact endFo (pAns 7 ⟨L, K, w, s⟩) F1 h0 hle (Fz.le_refl F1) rfl (by rw [hr]; exact outE_refl _) hzz
  refine fo_of hΘ Tryz.func59 rfl (by decide) _ _ rfl rfl rfl ?_
  conv => whnf
  refine use (props_fn F) [] rfl trivial rfl trivial (by simp) trivial ?_
  rintro _ F0 h0 n0 hle ⟨rfl, rfl, rfl, rfl⟩
  conv => whnf
  refine br (fun g => absurd g (by decide)) (fun _ => ?_); (conv => whnf); refine br (fun g => absurd g (by decide)) (fun _ => ?_); (conv => whnf); refine br (fun g => absurd g (by decide)) (fun _ => ?_); (conv => whnf); refine br (fun g => absurd g (by decide)) (fun _ => ?_); (conv => whnf); refine br (fun g => absurd g (by decide)) (fun _ => ?_); (conv => whnf); refine br (fun g => absurd g (by decide)) (fun _ => ?_); (conv => whnf); refine br (fun _ => ?_) (fun g => absurd g (by decide))
  conv => whnf
  refine usePu hva rfl (argsE_refl _) rfl ?_
  rcases v with _ | _
  · conv => whnf
    refine br (fun _ => ?_) (fun g => absurd g (by decide))
    conv => whnf
    exact fin _ F _ _ (hpf rfl) (fun _ => rfl) rfl (Fz.le_refl F) rfl
  · conv => whnf
    refine br (fun g => absurd g (by decide)) (fun _ => ?_)
    conv => whnf
    refine forgetC 2 rfl ?_
    refine use (hcl rfl) [(1, 3), (2, 2)] rfl ⟨rfl, rfl, trivial⟩ rfl ⟨wrC_below _ (by omega) (by omega) _ _, gE_below encB_plain _ _ _ _ _, trivial⟩ (by simp [SV.below, SC.below, SA.below]) ⟨rfl, rfl, trivial⟩ ?_
    rintro out0 F1 h0 n0 hle1 ⟨rfl, rfl, u1, c1, hu1, rfl⟩
    conv => whnf
    refine str_call (hne rfl) (hlen rfl) rfl (wrC_ren (by rfl) (by rfl) _ _) rfl (gE_ren encB_plain _ _ _ _ _) ?_
    intro o'
    conv => whnf
    exact fin _ F1 _ _ (hpt rfl) (fun _ => rfl) rfl hle1 rfl
set_option maxHeartbeats 8000000 in
theorem prop8_fn (hP : PFun) (F : Fz) (an : Bool) (ab ae ac : Nat) (bn : Bool) (bb be bc : Nat) (d : Dc) (ha : Sl F 168 2 encN (.slice an 0 ab ae 2 d.lines.length ac) d.lines) (hb : Sl F 172 6 encK (.slice bn 0 bb be 6 d.cells.length bc) d.cells)
    (hl : d.lines.length ≤ 1000) (hc : d.cells.length ≤ 1000) (hs : d.bits.length ≤ 70000) (hcap : d.cells.length ≤ bc) :
    Fo Tryz.prog F 59 [.agg (docS (.slice an 0 ab ae 2 d.lines.length ac) (.slice bn 0 bb be 6 d.cells.length bc) d.w d.bits), .va (.int .i64 8)] (fun o F' => o = pAns 8 d) := by
  have hva := valid90_fn F _ _ d ha hb hl hc hs
  have hpt := pAns_t (p := 8) (d := d)
  have hpf := pAns_f (p := 8) (d := d)
  have hne := propB_ne (p := 8) (d := d)
  have hB : propB 8 d = numbersS [(d.lines.length : Int), (d.cells.length : Int)] := rfl
  have hx : docOk d = true → ∀ x ∈ d.lines, x.1.length ≤ 1000000 := fun hd x hx => by
    have := (docOk_iff hd).ln x hx
    unfold dlnOk at this
    simp only [Bool.and_eq_true, decide_eq_true_eq] at this
    omega
  have hlen := propB_len (p := 8) (d := d)
  have hcl := fun hd : docOk d = true => cl8_fn hP F an ab ae d.lines.length ac bn bb be d.cells.length bc d.w d.bits
  rw [← hB] at hcl
  clear hx hB hs hl hc hcap
  obtain ⟨T, hT⟩ : ∃ T, propB 8 d = T := ⟨_, rfl⟩
  rw [hT] at hcl hpt hne hlen
  clear hT
  obtain ⟨L, K, w, s⟩ := d
  replace ha : Sl F 168 2 encN (.slice an 0 ab ae 2 L.length ac) L := ha
  replace hb : Sl F 172 6 encK (.slice bn 0 bb be 6 K.length bc) K := hb
  obtain ⟨v, hv⟩ : ∃ v, docOk ⟨L, K, w, s⟩ = v := ⟨_, rfl⟩
  rw [hv] at hva hpt hpf hne hcl hlen
  have fin : ∀ (z : Out) (F1 : Fz) (h : Hp) (nx : Nat), pAns 8 ⟨L, K, w, s⟩ = z → (∀ μ, z.ren μ = z) → z.z = true → Fz.le F F1 → lget h 0 = some (.frz F1) → Cln 1 (FoK F fun o F' => o = pAns 8 ⟨L, K, w, s⟩) z h nx := by
    intro z F1 h nx hz hr hzz hle h0
    subst hz
    exact endFo (pAns 8 ⟨L, K, w, s⟩) F1 h0 hle (Fz.le_refl F1) rfl (by rw [hr]; exact outE_refl _) hzz
  refine fo_of hΘ Tryz.func59 rfl (by decide) _ _ rfl rfl rfl ?_
  conv => whnf
  refine use (props_fn F) [] rfl trivial rfl trivial (by simp) trivial ?_
  rintro _ F0 h0 n0 hle ⟨rfl, rfl, rfl, rfl⟩
  conv => whnf
  refine br (fun g => absurd g (by decide)) (fun _ => ?_); (conv => whnf); refine br (fun g => absurd g (by decide)) (fun _ => ?_); (conv => whnf); refine br (fun g => absurd g (by decide)) (fun _ => ?_); (conv => whnf); refine br (fun g => absurd g (by decide)) (fun _ => ?_); (conv => whnf); refine br (fun g => absurd g (by decide)) (fun _ => ?_); (conv => whnf); refine br (fun g => absurd g (by decide)) (fun _ => ?_); (conv => whnf); refine br (fun g => absurd g (by decide)) (fun _ => ?_); (conv => whnf); refine br (fun _ => ?_) (fun g => absurd g (by decide))
  conv => whnf
  refine usePu hva rfl (argsE_refl _) rfl ?_
  rcases v with _ | _
  · conv => whnf
    refine br (fun _ => ?_) (fun g => absurd g (by decide))
    conv => whnf
    exact fin _ F _ _ (hpf rfl) (fun _ => rfl) rfl (Fz.le_refl F) rfl
  · conv => whnf
    refine br (fun g => absurd g (by decide)) (fun _ => ?_)
    conv => whnf
    refine forgetC 2 rfl ?_
    refine use (hcl rfl) [(1, 3), (2, 2)] rfl ⟨rfl, rfl, trivial⟩ rfl ⟨wrC_below _ (by omega) (by omega) _ _, gE_below encB_plain _ _ _ _ _, trivial⟩ (by simp [SV.below, SC.below, SA.below]) ⟨rfl, rfl, trivial⟩ ?_
    rintro out0 F1 h0 n0 hle1 ⟨rfl, rfl, u1, c1, hu1, rfl⟩
    conv => whnf
    refine str_call (hne rfl) (hlen rfl) rfl (wrC_ren (by rfl) (by rfl) _ _) rfl (gE_ren encB_plain _ _ _ _ _) ?_
    intro o'
    conv => whnf
    exact fin _ F1 _ _ (hpt rfl) (fun _ => rfl) rfl hle1 rfl
end Go.Proofs.YtblllibdahkgfaaGreatDoor

namespace Go.Proofs.YtblllibdahkgfaaGreatDoor
open Go Sx
set_option maxRecDepth 100000
theorem prop_fn (hP : PFun) (F : Fz) (an : Bool) (ab ae ac : Nat) (bn : Bool) (bb be bc : Nat) (d : Dc) (ha : Sl F 168 2 encN (.slice an 0 ab ae 2 d.lines.length ac) d.lines) (hb : Sl F 172 6 encK (.slice bn 0 bb be 6 d.cells.length bc) d.cells)
    (hl : d.lines.length ≤ 1000) (hc : d.cells.length ≤ 1000) (hs : d.bits.length ≤ 70000) (hcap : d.cells.length ≤ bc) (p : Int) (hp : 1 ≤ p ∧ p ≤ 8) :
    Fo Tryz.prog F 59 [.agg (docS (.slice an 0 ab ae 2 d.lines.length ac) (.slice bn 0 bb be 6 d.cells.length bc) d.w d.bits), .va (.int .i64 p)] (fun o F' => o = pAns p d) := by
  have h8 : p = 1 ∨ p = 2 ∨ p = 3 ∨ p = 4 ∨ p = 5 ∨ p = 6 ∨ p = 7 ∨ p = 8 := by omega
  rcases h8 with rfl | rfl | rfl | rfl | rfl | rfl | rfl | rfl
  · exact prop1_fn hP F an ab ae ac bn bb be bc d ha hb hl hc hs hcap
  · exact prop2_fn hP F an ab ae ac bn bb be bc d ha hb hl hc hs hcap
  · exact prop3_fn hP F an ab ae ac bn bb be bc d ha hb hl hc hs hcap
  · exact prop4_fn hP F an ab ae ac bn bb be bc d ha hb hl hc hs hcap
  · exact prop5_fn hP F an ab ae ac bn bb be bc d ha hb hl hc hs hcap
  · exact prop6_fn hP F an ab ae ac bn bb be bc d ha hb hl hc hs hcap
  · exact prop7_fn hP F an ab ae ac bn bb be bc d ha hb hl hc hs hcap
  · exact prop8_fn hP F an ab ae ac bn bb be bc d ha hb hl hc hs hcap
def allB (d : Dc) : List (List UInt8) := (List.range 8).map fun k : Nat => propB ((k : Int) + 1) d
theorem allB_len (d : Dc) : (allB d).length = 8 := by simp [allB]
theorem allB_get (d : Dc) (k : Nat) (h : k < 8) : (allB d)[k]? = some (propB ((k : Int) + 1) d) := by simp [allB, h]
theorem docE65_below {n : Nat} {a b : SA} {w : Int} {s : List UInt8} (ha : a.below n) (hb : b.below n) : (Ent.one (.cells 65 (docS a b w s))).below n := docE_below (w := w) (s := s) ha hb
theorem encS_plain : Plain encS := fun x => ⟨fun μ => rfl, fun a ha => by simp only [encS, List.mem_singleton] at ha; subst ha; trivial⟩
abbrev docE65 (a b : SA) (w : Int) (s : List UInt8) : Ent := .one (.cells 65 (docS a b w s))
set_option maxHeartbeats 16000000 in
theorem all_fn (hP : PFun) (F : Fz) (an : Bool) (ab ae ac : Nat) (bn : Bool) (bb be bc : Nat) (d : Dc) (ha : Sl F 168 2 encN (.slice an 0 ab ae 2 d.lines.length ac) d.lines) (hb : Sl F 172 6 encK (.slice bn 0 bb be 6 d.cells.length bc) d.cells)
    (hl : d.lines.length ≤ 1000) (hc : d.cells.length ≤ 1000) (hs : d.bits.length ≤ 70000) (hcap : d.cells.length ≤ bc) :
    Fo Tryz.prog F 33 [.agg (docS (.slice an 0 ab ae 2 d.lines.length ac) (.slice bn 0 bb be 6 d.cells.length bc) d.w d.bits)] (fun o F' => (docOk d = false ∧ o = .ret (.tup [.va .nilsl, .va (.int .i64 60)])) ∨
      (docOk d = true ∧ ∃ b c, o = .ret (.tup [.va (.slice false 0 b 0 1 8 c), .va (.int .i64 0)]) ∧ F' b = some (.arr 9 1 ((allB d).map encS) c))) := by
  have hpr := fun F1 (l1 : Fz.le F F1) => prop_fn hP F1 an ab ae ac bn bb be bc d (ha.mono l1) (hb.mono l1) hl hc hs hcap
  have hpt := fun p => pAns_t (p := p) (d := d)
  have hpf := fun p => pAns_f (p := p) (d := d)
  have hgl := allB_len d
  have hgt := allB_get d
  obtain ⟨A, hA⟩ : ∃ A, allB d = A := ⟨_, rfl⟩
  rw [hA] at hgl hgt ⊢
  clear hA ha hb hl hc hs hcap
  obtain ⟨L, K, w, s⟩ := d
  obtain ⟨v, hv⟩ : ∃ v, docOk ⟨L, K, w, s⟩ = v := ⟨_, rfl⟩
  rw [hv] at hpt hpf ⊢
  clear hv
  rcases v with _ | _
  · have hcall := hpr F (Fz.le_refl F) 1 (by omega)
    rw [hpf 1 rfl] at hcall
    refine fo_of hΘ Tryz.func33 rfl (by decide) _ _ rfl rfl rfl ?_
    conv => whnf
    refine loop_at hΘ (X := { k : Nat // k = 0 }) (fun k => [(4, .va .nilsl), (8, .va (.int .i64 k.1))]) [2, 3, 5, 6, 7, 9, 10, 11, 12, 13, 14, 15, 16, 17, 18, 19, 20, 21, 22, 23, 24, 25]
      (fun y => [(0, .frz F), (1, docE65 (.slice an 0 ab ae 2 L.length ac) (.slice bn 0 bb be 6 K.length bc) w s)]) 2 (fun k => 0) ⟨0, rfl⟩
      (fun hH hT => leI [] hH hT rfl ⟨trivial, docE65_below (.inr (by omega)) (.inr (by omega)), trivial⟩ ⟨rfl, rfl, trivial⟩ ⟨Fz.le_refl F, rfl, trivial⟩) ?_
    rintro ⟨k, rfl⟩ hH hT
    conv => whnf
    refine br (fun _ => ?_) (fun g2 => absurd g2 (by decide))
    conv => whnf
    refine useFo hcall rfl (argsE_refl _) rfl ?_
    rintro _ F1 l1 rfl
    conv => whnf
    refine br (fun _ => ?_) (fun g2 => absurd g2 (by decide))
    conv => whnf
    exact endFo (.ret (.tup [.va .nilsl, .va (.int .i64 60)])) F1 rfl l1 (Fz.le_refl F1) (.inl ⟨rfl, rfl⟩) (outE_refl _) rfl
  · refine fo_of hΘ Tryz.func33 rfl (by decide) _ _ rfl rfl rfl ?_
    conv => whnf
    refine loop_at hΘ (X := { y : Nat × List (List UInt8) × Nat × Fz // Fz.le F y.2.2.2 ∧ y.1 ≤ 8 ∧ y.2.1 = A.take y.1 }) (fun y => [(4, .va (gA 1 2 y.1.2.2.1 y.1.2.1)), (8, .va (.int .i64 y.1.1))]) [2, 3, 5, 6, 7, 9, 10, 11, 12, 13, 14, 15, 16, 17, 18, 19, 20, 21, 22, 23, 24, 25]
      (fun y => [(0, .frz y.1.2.2.2), (1, docE65 (.slice an 0 ab ae 2 L.length ac) (.slice bn 0 bb be 6 K.length bc) w s), (2, gE 9 1 encS y.1.2.2.1 y.1.2.1)]) 3 (fun y => 8 - y.1.1) ⟨(0, [], 0, F), Fz.le_refl F, by omega, by simp⟩
      (fun hH hT => leI [(2, 2)] hH hT rfl ⟨trivial, docE65_below (.inr (by omega)) (.inr (by omega)), gE_below encS_plain _ _ _ _ _, trivial⟩ ⟨rfl, rfl, trivial⟩ ⟨Fz.le_refl F, rfl, rfl, trivial⟩) ?_
    rintro ⟨⟨k, o, co, G⟩, hG, hk, ho⟩ hH hT
    replace hG : Fz.le F G := hG
    replace hk : k ≤ 8 := hk
    replace ho : o = A.take k := ho
    by_cases g : k < 8
    · have hlt : (k : Int) < 8 := by omega
      have hk1 : k + 1 ≤ 8 := g
      have hdec : 8 - (k + 1) < 8 - k := by omega
      have hk62 : k < 4611686018427387904 := by omega
      have hw : SA.int .i64 ((k : Int) + 1) = SA.int .i64 (IntKind.i64.wrap ((k : Int) + 1)) := cnt hk62
      have hxt : ∃ t, propB ((k : Int) + 1) ⟨L, K, w, s⟩ = t := ⟨_, rfl⟩
      obtain ⟨t, ht⟩ := hxt
      have hcall := hpr G hG ((k : Int) + 1) (by omega)
      rw [hpt ((k : Int) + 1) rfl, ht] at hcall
      have hnx : o ++ [t] = A.take (k + 1) := by
        have hkA : k < A.length := by omega
        rw [List.take_succ_eq_append_getElem hkA, ho]
        have := hgt k g
        rw [List.getElem?_eq_getElem hkA, ht] at this
        rw [Option.some.inj this]
      have hol : o.length = k := by rw [ho, List.length_take]; omega
      clear ht ho
      rcases o with _ | ⟨o0, or'⟩
      · conv => whnf
        refine br (fun _ => ?_) (fun g2 => absurd hlt (of_decide_eq_false g2))
        conv => whnf
        refine useFo hcall rfl ⟨rfl, hw, trivial⟩ rfl ?_
        rintro _ G2 l2 rfl
        conv => whnf
        refine br (fun g2 => absurd g2 (by decide)) (fun _ => ?_)
        conv => whnf
        refine ⟨Nat.le_of_ble_eq_true rfl, [encS t], rfl, ?_⟩
        conv => whnf
        refine ⟨rfl, rfl, ?_⟩
        conv => whnf
        refine ⟨by show 1 * 16 ≤ 140737488355328; omega, fun c' hc' => ?_⟩
        conv => whnf
        exact ⟨⟨(k + 1, [] ++ [t], c', G2), Fz.le_trans hG l2, hk1, hnx⟩, hdec, leR [(2, 4)] hH hT rfl ⟨trivial, docE65_below (.inr (by omega)) (.inr (by omega)), gE_below encS_plain _ _ _ _ _, trivial⟩ ⟨by (conv => whnf); exact ⟨rfl, rfl, rfl, .inr ⟨rfl, rfl, rfl, rfl⟩⟩, cnt hk62, trivial⟩ ⟨Fz.le_refl G2, rfl, sub_gE encS_plain (gE_one _ (by simp)), trivial⟩⟩
      · have hsz : (or'.length + 1 + 1) * 16 ≤ 140737488355328 := by
          have h9 : or'.length + 1 = k := hol
          omega
        conv => whnf
        refine br (fun _ => ?_) (fun g2 => absurd hlt (of_decide_eq_false g2))
        conv => whnf
        refine useFo hcall rfl ⟨rfl, hw, trivial⟩ rfl ?_
        rintro _ G2 l2 rfl
        conv => whnf
        refine br (fun g2 => absurd g2 (by decide)) (fun _ => ?_)
        conv => whnf
        refine ⟨Nat.le_of_ble_eq_true rfl, [encS t], rfl, ?_⟩
        conv => whnf
        refine ⟨rfl, rfl, by simp, rfl, hsz, fun c' hc' => ?_⟩
        conv => whnf
        exact ⟨⟨(k + 1, (o0 :: or') ++ [t], c', G2), Fz.le_trans hG l2, hk1, hnx⟩, hdec, leR [(2, 4)] hH hT rfl ⟨trivial, docE65_below (.inr (by omega)) (.inr (by omega)), gE_below encS_plain _ _ _ _ _, trivial⟩ ⟨gA_new (μ := sig [(2, 4)]) (i := 2) (j := 4) rfl 1 c' _ (o0 :: or') t rfl, cnt hk62, trivial⟩ ⟨Fz.le_refl G2, rfl, sub_gE encS_plain (gE_one _ (by simp)), trivial⟩⟩
    · have hlt : ¬ (k : Int) < 8 := by omega
      have hk8 : k = 8 := by omega
      have hoA : o = A := by rw [ho, hk8, List.take_of_length_le (by omega)]
      rcases o with _ | ⟨o0, or'⟩
      · rw [← hoA] at hgl; cases hgl
      · have hol : or'.length + 1 = 8 := by rw [← hoA] at hgl; exact hgl
        conv => whnf
        refine br (fun g2 => absurd (of_decide_eq_true g2) hlt) (fun _ => ?_)
        conv => whnf
        refine freezeE 2 (fun _ => .arr 9 1 ((o0 :: or').map encS) co) rfl rfl rfl (fun _ _ => by exact gB_ren encS_plain rfl _ _ _ _) (fun _ _ => gB_below encS_plain _ _ _ _ _) ?_
        intro b' F' hle hb'
        refine endFo (.ret (.tup [.va (.slice false 0 (b' 0) 0 1 8 co), .va (.int .i64 0)])) F' rfl (Fz.le_trans hG hle) (Fz.le_refl F') (.inr ⟨rfl, _, _, rfl, by rw [← hoA]; exact hb' 0 ⟨rfl, rfl⟩⟩) ?_ rfl
        exact ⟨⟨rfl, hol.symm, rfl, .inr ⟨rfl, rfl, rfl, rfl⟩⟩, rfl, trivial⟩
end Go.Proofs.YtblllibdahkgfaaGreatDoor
