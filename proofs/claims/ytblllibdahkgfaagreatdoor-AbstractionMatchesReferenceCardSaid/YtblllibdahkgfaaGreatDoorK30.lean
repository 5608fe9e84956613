import Derived.Test.YtblllibdahkgfaaGreatDoorK29

namespace Go.Proofs.YtblllibdahkgfaaGreatDoor
open Go Sx
set_option maxRecDepth 100000

/-- The first 66 steps. -/
theorem few2_fn (F : Fz) (sa : SA) (l : List Stp) (ha : StepsAt F sa l) (hl : l.length < 1000000000000000000) (hcap : l.length ≤ capN sa) :
    Fo Tryz.prog F 13 [.va sa] (fun o F' => ∃ sc, o = .ret (.va sc) ∧ StepsAt F' sc (l.take 66)) := by
  obtain ⟨han, hab, hae, hac, haL, har, rfl, ha1, ha2, ha3, ha4⟩ := ha
  replace hcap : l.length ≤ hac := hcap
  have hz : (if (66 : Int) < ((l.length : Nat) : Int) then (66 : Int) else ((l.length : Nat) : Int)).toNat = (l.take 66).length := by
    rw [List.length_take]; split <;> omega
  have hzz : 0 ≤ (if (66 : Int) < ((l.length : Nat) : Int) then (66 : Int) else ((l.length : Nat) : Int)) ∧ (if (66 : Int) < ((l.length : Nat) : Int) then (66 : Int) else ((l.length : Nat) : Int)) ≤ (hac : Int) := by split <;> omega
  have htk : ∀ e : Nat, e = hae → (haL.drop e).take (l.take 66).length = (l.take 66).map enc := fun e he => by
    subst he
    have h1 : (l.take 66).length ≤ l.length := by rw [List.length_take]; omega
    rw [List.map_take, ← ha4, List.take_take, List.length_take, Nat.min_comm]
  have hl66 : (l.take 66).length ≤ 66 := by rw [List.length_take]; omega
  rcases han with _ | _
  · refine fo_of hΘ Tryz.func13 rfl (by decide) _ _ rfl rfl rfl ?_
    conv => whnf
    refine ⟨hzz, ?_⟩
    conv => whnf
    refine ⟨_, _, _, ha2 rfl, ?_, (l.take 66).map enc, ?_, ?_⟩
    · show (if hac = 0 then hae else hae + 0) + ((if (66 : Int) < ((l.length : Nat) : Int) then (66 : Int) else ((l.length : Nat) : Int)).toNat - 0) ≤ haL.length
      rw [hz]
      have h1 : (l.take 66).length ≤ l.length := by rw [List.length_take]; omega
      have h2 : (if hac = 0 then hae else hae + 0) = hae := by split <;> rfl
      rw [h2]; omega
    · show (haL.drop (if hac = 0 then hae else hae + 0)).take ((if (66 : Int) < ((l.length : Nat) : Int) then (66 : Int) else ((l.length : Nat) : Int)).toNat - 0) = _
      rw [hz]; exact htk _ (by split <;> rfl)
    conv => whnf
    refine ⟨rfl, rfl, rfl, by rw [List.length_map]; show (0 + (l.take 66).length) * 16 ≤ 140737488355328; omega, fun c hc => ?_⟩
    clear hc
    conv => whnf
    refine freezeE 2 (fun _ => .arr 50 2 ((l.take 66).map enc) c) rfl rfl rfl (fun _ _ => encB_ren' (by simp [chunk]) _ _) (fun _ _ => encB_below _ _ _) ?_
    intro b F' hle hb
    refine endFo (.ret (.va (.slice false 0 (b 0) 0 2 (l.take 66).length c))) F' rfl hle (Fz.le_refl F') ⟨_, rfl, Sl.new (hb 0 rfl)⟩ ⟨rfl, ?_, rfl, .inr ⟨rfl, rfl, rfl, rfl⟩⟩ rfl
    show (l.take 66).length = 0 + ((l.take 66).map enc).length
    rw [List.length_map, Nat.zero_add]
  · have hnil : l = [] := ha1 rfl
    subst hnil
    refine fo_of hΘ Tryz.func13 rfl (by decide) _ _ rfl rfl rfl ?_
    conv => whnf
    refine ⟨hzz, ?_⟩
    conv => whnf
    refine ⟨rfl, ?_⟩
    conv => whnf
    refine ⟨rfl, rfl, rfl, Nat.le_of_ble_eq_true rfl, fun c hc => ?_⟩
    clear hc
    conv => whnf
    refine freezeE 2 (fun _ => .arr 50 2 [] c) rfl rfl rfl (fun _ _ => rfl) (fun _ _ => SB.bB_ok rfl) ?_
    intro b F' hle hb
    exact endFo (.ret (.va (.slice false 0 (b 0) 0 2 0 c))) F' rfl hle (Fz.le_refl F') ⟨_, rfl, Sl.new (l := ([] : List Stp)) (hb 0 rfl)⟩ ⟨rfl, rfl, rfl, .inr ⟨rfl, rfl, rfl, rfl⟩⟩ rfl

theorem sl4_below {n : Nat} (a b c d : SA) (ha : a.below n) (hb : b.below n) (hc : c.below n) (hd : d.below n) : SB.below n (.arr 22 1 [[a], [b], [c], [d]] 4) := by
  intro x hx y hy
  simp only [List.mem_cons, List.not_mem_nil, or_false] at hx
  rcases hx with rfl | rfl | rfl | rfl <;> (simp only [List.mem_cons, List.not_mem_nil, or_false] at hy; subst hy; assumption)
theorem sl4_get {F : Fz} {s1 s2 s3 s4 : SA} {l1 l2 l3 l4 : List Stp} (h1 : StepsAt F s1 l1) (h2 : StepsAt F s2 l2) (h3 : StepsAt F s3 l3) (h4 : StepsAt F s4 l4) (k1 : l1.length < 1000000) (k2 : l2.length < 1000000) (k3 : l3.length < 1000000) (k4 : l4.length < 1000000) :
    ∀ k : Nat, k < 4 → ∃ a l, ([[s1], [s2], [s3], [s4]] : List (List SA))[0 + (k : Int).toNat]? = some [a] ∧ StepsAt F a l ∧ l.length < 1000000 := by
  intro k hk
  match k, hk with
  | 0, _ => exact ⟨s1, l1, rfl, h1, k1⟩
  | 1, _ => exact ⟨s2, l2, rfl, h2, k2⟩
  | 2, _ => exact ⟨s3, l3, rfl, h3, k3⟩
  | 3, _ => exact ⟨s4, l4, rfl, h4, k4⟩
theorem take66_len (l : List Stp) : (l.take 66).length < 1000000 := by rw [List.length_take]; omega
theorem stepsS_len (p : Int) (x : List Int) : (stepsS p x).length < 1000000 := by
  have := steps_len p (x.take 8)
  rw [List.length_take] at this
  unfold stepsS; omega
theorem rcoarL {p : Int} {a c : List Stp} {b : Bool} (h : coarS p a c = b) (F : Fz) (sa sb : SA) (ha : StepsAt F sa a) (hc : StepsAt F sb c) (la : a.length < 1000000) (lc : c.length < 1000000) :
    Fo Tryz.prog F 23 [.va (.int .i64 p), .va sa, .va sb] (fun o F' => o = .ret (.va (.lit b)) ∧ True) := by
  have h1 := rcoarserE_fn F sa sb a c p ha hc la lc
  rw [rcoar_eq, h] at h1
  exact Fo_lit (Fo_mono h1 fun o F' h => ⟨h, trivial⟩)
theorem normR_len (p : Int) (l : List Stp) : (normR p l).1.length < 1000000 := by
  unfold normR; split
  · have := normS_len l; show (normS l).length < 1000000; omega
  · show 0 < 1000000; omega
theorem validLE {p : Int} {l : List Stp} {b : Bool} (h : validS p l = b) (F : Fz) (sa : SA) (ha : StepsAt F sa l) (hl : l.length < 1000000) :
    Fo Tryz.prog F 17 [.va (.int .i64 p), .va sa] (fun o F' => o = .ret (.va (.lit b)) ∧ F' = F) := validL h F sa ha hl
theorem rvalidLE {p : Int} {l : List Stp} {b : Bool} (h : validS p l = b) (F : Fz) (sa : SA) (ha : StepsAt F sa l) (hl : l.length < 1000000) :
    Fo Tryz.prog F 18 [.va (.int .i64 p), .va sa] (fun o F' => o = .ret (.va (.lit b)) ∧ F' = F) := by
  have h1 := rvalid_fn F sa l p ha hl
  rw [h] at h1; exact Fo_lit h1

set_option maxHeartbeats 16000000 in
theorem law1_fn (F0 : Fz) (m0 : MLF F0) (raw p : Int) (hp : i64 p) (n1 n2 n3 n4 : Bool) (b1 b2 b3 b4 e1 e2 e3 e4 s1 s2 s3 s4 l1 l2 l3 l4 c1 c2 c3 c4 : Nat) (a b : List Stp) (x y : List Int)
    (ha : ∀ G, Fz.le F0 G → Fo Tryz.prog G 13 [.va (.slice n1 0 b1 e1 s1 l1 c1)] (fun o F' => ∃ sc, o = .ret (.va sc) ∧ StepsAt F' sc (a.take 66)))
    (hb : ∀ G, Fz.le F0 G → Fo Tryz.prog G 13 [.va (.slice n2 0 b2 e2 s2 l2 c2)] (fun o F' => ∃ sc, o = .ret (.va sc) ∧ StepsAt F' sc (b.take 66)))
    (hx : ∀ (P : Int) G, 1 ≤ P ∧ P ≤ 8 → Fz.le F0 G → Fo Tryz.prog G 14 [.va (.int .i64 P), .va (.slice n3 0 b3 e3 s3 l3 c3)] (fun o F' => ∃ sc, o = .ret (.va sc) ∧ StepsAt F' sc (stepsS P x)))
    (hy : ∀ (P : Int) G, 1 ≤ P ∧ P ≤ 8 → Fz.le F0 G → Fo Tryz.prog G 14 [.va (.int .i64 P), .va (.slice n4 0 b4 e4 s4 l4 c4)] (fun o F' => ∃ sc, o = .ret (.va sc) ∧ StepsAt F' sc (stepsS P y))) :
    Fo Tryz.prog F0 3 [.va (.int .i64 raw), .va (.slice n1 0 b1 e1 s1 l1 c1), .va (.slice n2 0 b2 e2 s2 l2 c2), .va (.int .i64 p), .va (.slice n3 0 b3 e3 s3 l3 c3), .va (.slice n4 0 b4 e4 s4 l4 c4)] (fun o F' => o = .ret (.va (.bool true)) ∧ True) := by
  have hpr := pickI_lt p 8 (by omega) hp
  have hsane := sane_fn F0 m0
  have hprop := property_pu p hp
  obtain ⟨P, hP⟩ : ∃ P, P = 1 + pickI p 8 := ⟨_, rfl⟩
  have hP8 : 1 ≤ P ∧ P ≤ 8 := by omega
  rw [← hP] at hprop
  refine fo_of hΘ Tryz.func3 rfl (by decide) _ _ rfl rfl rfl ?_
  conv => whnf
  refine useFo hsane rfl (argsE_refl _) rfl ?_
  rintro _ F1 l1 ⟨rfl, -⟩
  conv => whnf
  refine usePu (hprop F1) rfl (argsE_refl _) rfl ?_
  conv => whnf
  refine freezeW 1 (fun _ => .arr 3 1 ([raw, P].map encI) 2) rfl rfl rfl (fun _ _ => rfl) (fun _ _ => SB.bB_ok rfl) ?_
  intro b1 F2 l2 hb1
  have hq : F2 (b1 0) = some (.arr 3 1 ([raw, P].map encI) 2) := hb1 0 rfl
  refine loop_at hΘ (X := { x : Nat × Fz // x.1 ≤ 2 ∧ Fz.le F2 x.2 }) (fun x => [(34, .va (.int .i64 x.1.1))]) [12, 15, 16, 17, 18, 19, 20, 21, 22, 23, 24, 25, 26, 35, 36, 37, 38, 39, 40, 41, 42, 43, 44, 45, 46, 47, 48, 49, 50, 51, 52, 53, 54, 55, 56, 57, 58, 59, 60, 61, 62, 63, 64, 65, 66, 67, 68, 69, 70, 71, 72, 73, 74, 75, 76, 77, 78, 79, 80, 81, 82, 83, 84, 85, 86, 87, 88, 89, 90, 91, 92, 93, 94, 95, 96, 97, 98, 99, 100, 101, 102, 103, 104, 105, 106, 107, 108, 109, 110, 111, 112, 113, 114, 115, 116, 117, 118, 119, 120, 121, 122, 123, 124, 125, 126, 127, 128, 129, 130, 131, 132, 133, 134, 135, 136, 137, 138, 139, 140, 141, 142, 143, 144, 145, 146, 147, 148, 149, 150, 151, 152, 153, 154, 155, 156, 157, 158, 159, 160, 161] (fz fun x => x.1.2) 2 (fun x => 2 - x.1.1) ⟨(0, F2), by simp, Fz.le_refl F2⟩
    (fun hH hT => leI [] hH hT rfl ⟨trivial, trivial⟩ ⟨rfl, trivial⟩ ⟨Fz.le_refl F2, trivial⟩) ?_
  rintro ⟨⟨k, G⟩, hk, hG⟩ hH hT
  replace hk : k ≤ 2 := hk
  replace hG : Fz.le F2 G := hG
  conv => whnf
  refine br (fun gb => ?_) (fun gb => ?_)
  · have gk : k < 2 := by
      have h0 : (k : Int) < 2 := of_decide_eq_true gb
      omega
    clear gb
    have hqk : ∃ q, ([raw, P].map encI)[0 + (k : Int).toNat]? = some [.int .i64 q] := by
      have hc : k = 0 ∨ k = 1 := by omega
      rcases hc with rfl | rfl <;> exact ⟨_, rfl⟩
    obtain ⟨q, hqk⟩ := hqk
    have lG : Fz.le F0 G := Fz.le_trans l1 (Fz.le_trans l2 hG)
    conv => whnf
    refine ⟨rfl, ⟨by simp, by show (k : Int) < 2; omega⟩, ?_⟩
    conv => whnf
    refine ⟨_, hG _ _ hq, ?_⟩
    conv => whnf
    refine ⟨_, hqk, ?_⟩
    conv => whnf
    refine useFo (ha G lG) rfl ⟨⟨rfl, rfl, rfl, .inr ⟨rfl, rfl, rfl, rfl⟩⟩, trivial⟩ rfl ?_
    rintro _ G1 g1 ⟨s1, rfl, h1⟩
    have e1 := h1
    obtain ⟨h1n, h1b, h1e, h1c, h1L, h1r, rfl, h11, h12, h13, h14⟩ := h1
    conv => whnf
    refine useFo (hb G1 (Fz.le_trans lG g1)) rfl ⟨⟨rfl, rfl, rfl, .inr ⟨rfl, rfl, rfl, rfl⟩⟩, trivial⟩ rfl ?_
    rintro _ G2 g2 ⟨s2, rfl, h2⟩
    have e2 := h2
    obtain ⟨h2n, h2b, h2e, h2c, h2L, h2r, rfl, h21, h22, h23, h24⟩ := h2
    conv => whnf
    refine useFo (hx P G2 hP8 (Fz.le_trans lG (Fz.le_trans g1 g2))) rfl ⟨rfl, ⟨rfl, rfl, rfl, .inr ⟨rfl, rfl, rfl, rfl⟩⟩, trivial⟩ rfl ?_
    rintro _ G3 g3 ⟨s3, rfl, h3⟩
    have e3 := h3
    obtain ⟨h3n, h3b, h3e, h3c, h3L, h3r, rfl, h31, h32, h33, h34⟩ := h3
    conv => whnf
    refine useFo (hy P G3 hP8 (Fz.le_trans lG (Fz.le_trans g1 (Fz.le_trans g2 g3)))) rfl ⟨rfl, ⟨rfl, rfl, rfl, .inr ⟨rfl, rfl, rfl, rfl⟩⟩, trivial⟩ rfl ?_
    rintro _ G4 g4 ⟨s4, rfl, h4⟩
    have e4 := h4
    obtain ⟨h4n, h4b, h4e, h4c, h4L, h4r, rfl, h41, h42, h43, h44⟩ := h4
    conv => whnf
    refine freezeW 2 (fun _ => .arr 22 1 [[.slice h1n 0 h1b h1e 2 (a.take 66).length h1c], [.slice h2n 0 h2b h2e 2 (b.take 66).length h2c], [.slice h3n 0 h3b h3e 2 (stepsS P x).length h3c], [.slice h4n 0 h4b h4e 2 (stepsS P y).length h4c]] 4) rfl rfl rfl (fun _ _ => rfl) (fun _ _ => sl4_below _ _ _ _ (.inr Nat.zero_lt_one) (.inr Nat.zero_lt_one) (.inr Nat.zero_lt_one) (.inr Nat.zero_lt_one)) ?_
    intro b5 G5 g5 hb5
    have hall := hb5 0 rfl
    have hget := sl4_get (F := G5) (e1.mono (Fz.le_trans g2 (Fz.le_trans g3 (Fz.le_trans g4 g5)))) (e2.mono (Fz.le_trans g3 (Fz.le_trans g4 g5))) (e3.mono (Fz.le_trans g4 g5)) (e4.mono g5) (take66_len a) (take66_len b) (stepsS_len P x) (stepsS_len P y)
    clear e1 e2 e3 e4
    have lG5 : Fz.le G G5 := Fz.le_trans g1 (Fz.le_trans g2 (Fz.le_trans g3 (Fz.le_trans g4 g5)))
    refine loop_at hΘ (X := { x : Nat × Fz // x.1 ≤ 4 ∧ Fz.le G5 x.2 }) (fun x => [(17, .va (.int .i64 x.1.1))]) [12, 18, 19, 20, 21, 22, 23, 24, 25, 26, 49, 50, 51, 52, 53, 54, 55, 56, 57, 58, 59, 60, 61, 62, 63, 64, 65, 66, 67, 68, 69, 70, 71, 72, 73, 74, 75, 76, 77, 78, 79, 80, 81, 82, 83, 84, 85, 86, 87, 88, 89, 90, 91, 92, 93, 94, 95, 96, 97, 98, 99, 100, 101, 102, 103, 104, 105, 106, 107, 108, 109, 110, 111, 112, 113, 114, 115, 116, 117, 118, 119, 120, 121, 122, 123, 124, 125, 126, 127, 128, 129, 130, 131, 132, 133, 134, 135, 136, 137, 138, 139, 140, 141, 142, 143, 144, 145, 146, 147, 148, 149, 150, 151, 152, 153, 154, 155, 156, 157, 158, 159, 160] (fz fun x => x.1.2) 3 (fun x => 4 - x.1.1) ⟨(0, G5), by simp, Fz.le_refl G5⟩
      (fun hH hT => leI [] hH hT rfl ⟨trivial, trivial⟩ ⟨rfl, trivial⟩ ⟨Fz.le_refl G5, trivial⟩) ?_
    rintro ⟨⟨i, H⟩, hi, hGH⟩ hHi hTi
    replace hi : i ≤ 4 := hi
    replace hGH : Fz.le G5 H := hGH
    conv => whnf
    refine br (fun gbi => ?_) (fun gbi => ?_)
    · have gi : i < 4 := by
        have h0 : (i : Int) < 4 := of_decide_eq_true gbi
        omega
      clear gbi
      have hgi := hget i gi
      obtain ⟨ai, li, yi, hai, lli⟩ := hgi
      have hai' := hai.mono hGH
      have hN := normalE_fn H ai li q hai' lli
      have hRN := fun H1 (u : Fz.le H H1) => rnormalF H1 ai li q (hai'.mono u) lli
      have hvb : ∃ vb, validS q li = vb := ⟨_, rfl⟩
      obtain ⟨vb, hvb⟩ := hvb
      have hV := fun H1 (u : Fz.le H H1) => validLE (p := q) hvb H1 ai (hai'.mono u) lli
      have hRV := fun H1 (u : Fz.le H H1) => rvalidLE (p := q) hvb H1 ai (hai'.mono u) lli
      have haiC := hai
      obtain ⟨hain, haib, haie, haic, haiL, hair, rfl, hai1, hai2, hai3, hai4⟩ := hai
      conv => whnf
      refine ⟨rfl, ⟨by simp, by show (i : Int) < 4; omega⟩, ?_⟩
      conv => whnf
      refine ⟨_, hGH _ _ hall, ?_⟩
      conv => whnf
      refine ⟨_, yi, ?_⟩
      conv => whnf
      refine useFo hN rfl ⟨rfl, ⟨rfl, rfl, rfl, .inr ⟨rfl, rfl, rfl, rfl⟩⟩, trivial⟩ rfl ?_
      rintro _ H1 u1 ⟨m1, rfl, hm1⟩
      have hm1' := hm1
      obtain ⟨hm1n, hm1b, hm1e, hm1c, hm1L, hm1r, rfl, hm11, hm12, hm13, hm14⟩ := hm1
      conv => whnf
      have gl1 := Fz.le_trans hGH u1
      refine ⟨rfl, ⟨by simp, by show (i : Int) < 4; omega⟩, ?_⟩
      conv => whnf
      refine ⟨_, gl1 _ _ hall, ?_⟩
      conv => whnf
      refine ⟨_, yi, ?_⟩
      conv => whnf
      refine useFo (hRN H1 u1) rfl ⟨rfl, ⟨rfl, rfl, rfl, .inr ⟨rfl, rfl, rfl, rfl⟩⟩, trivial⟩ rfl ?_
      rintro _ H2 u2 ⟨m2, rfl, hm2⟩
      have hS := sameL H2 _ _ _ (hm1'.mono u2) hm2 (normR_len q li)
      obtain ⟨hm2n, hm2b, hm2e, hm2c, hm2L, hm2r, rfl, hm21, hm22, hm23, hm24⟩ := hm2
      conv => whnf
      have u12 := Fz.le_trans u1 u2
      have gl2 := Fz.le_trans gl1 u2
      refine drawP hΘ mixed (.look 0 (.look 1 (.look 2 (.look 3 (.look 4 (.look 6 (.look 7 (.look 8 (.look 9 (.look 10 (.alt 5 (.alt 11 (.look 12 (.look 13 (.look 14 (.look 15 (.look 16 (.look 17 (.look 18 (.look 19 (.look 20 (.alt 21 (.look 22 (.look 23 .done)) .nil)))))))))) .nil) .nil))))))))))) [2] (by kernel_rfl) ?_
      conv => whnf
      refine ⟨rfl, ⟨by simp, by show (i : Int) < 4; omega⟩, ?_⟩
      conv => whnf
      refine ⟨rfl, ?_⟩
      conv => whnf
      refine ⟨_, gl2 _ _ hall, ?_⟩
      conv => whnf
      refine ⟨_, yi, ?_⟩
      conv => whnf
      refine ⟨rfl, ⟨by simp, by show (i : Int) < 4; omega⟩, ?_⟩
      conv => whnf
      refine ⟨rfl, ?_⟩
      conv => whnf
      refine ⟨_, gl2 _ _ hall, ?_⟩
      conv => whnf
      refine ⟨_, yi, ?_⟩
      conv => whnf
      refine useFo (hV H2 u12) rfl ⟨rfl, ⟨rfl, rfl, rfl, .inr ⟨rfl, rfl, rfl, rfl⟩⟩, trivial⟩ rfl ?_
      rintro _ H2 _ ⟨rfl, rfl⟩
      conv => whnf
      refine ⟨Fz.le_refl _, rfl, ?_⟩
      conv => whnf
      refine useFo (hRV H2 u12) rfl ⟨rfl, ⟨rfl, rfl, rfl, .inr ⟨rfl, rfl, rfl, rfl⟩⟩, trivial⟩ rfl ?_
      rintro _ H2 _ ⟨rfl, rfl⟩
      conv => whnf
      refine ⟨Fz.le_refl _, rfl, ?_⟩
      rcases vb with _ | _
      · skip
        conv => whnf
        refine ⟨fun _ => ?_, fun g => absurd g (by simp)⟩
        conv => whnf
        refine ⟨fun _ => ?_, fun g => absurd g (by simp)⟩
        conv => whnf
        refine useFo hS rfl ⟨⟨rfl, rfl, rfl, .inr ⟨rfl, rfl, rfl, rfl⟩⟩, ⟨rfl, rfl, rfl, .inr ⟨rfl, rfl, rfl, rfl⟩⟩, trivial⟩ rfl ?_
        rintro _ H2 _ ⟨rfl, rfl⟩
        conv => whnf
        refine ⟨Fz.le_refl _, rfl, ?_⟩
        conv => whnf
        refine loop_at hΘ (X := { x : Nat × Fz // x.1 ≤ 4 ∧ Fz.le H2 x.2 }) (fun x => [(22, .va (.int .i64 x.1.1))]) [12, 23, 24, 25, 26, 97, 98, 99, 100, 101, 102, 103, 104, 105, 106, 107, 108, 109, 110, 111, 112, 113, 114, 115, 116, 117, 118, 119, 120, 121, 122, 123, 124, 125, 126, 127, 128, 129, 130, 131, 132, 133, 134, 135, 136, 137, 138, 139, 140, 141, 142, 143, 144, 145, 146, 147, 148, 149, 150, 151, 152, 153, 154, 155, 156, 157, 158, 159, 160] (fz fun x => x.1.2) 3 (fun x => 4 - x.1.1) ⟨(0, H2), by simp, Fz.le_refl H2⟩
          (fun hH hT => leI [] hH hT rfl ⟨trivial, trivial⟩ ⟨rfl, trivial⟩ ⟨Fz.le_refl H2, trivial⟩) ?_
        rintro ⟨⟨j, J⟩, hj, hJ⟩ hHj hTj
        replace hj : j ≤ 4 := hj
        replace hJ : Fz.le H2 J := hJ
        conv => whnf
        refine br (fun gbj => ?_) (fun gbj => ?_)
        · have gj : j < 4 := by
              have h0 : (j : Int) < 4 := of_decide_eq_true gbj
              omega
          clear gbj
          have hgj := hget j gj
          obtain ⟨aj, lj, yj, haj, llj⟩ := hgj
          have glJ := Fz.le_trans gl2 hJ
          have hajJ := haj.mono glJ
          have haiJ := haiC.mono glJ
          have hC := composeE_fn J (.slice hain 0 haib haie 2 li.length haic) aj li lj q haiJ hajJ lli llj
          have hRC := fun J1 (u : Fz.le J J1) => rcomposeE_fn J1 (.slice hain 0 haib haie 2 li.length haic) aj li lj q (haiJ.mono u) (hajJ.mono u) lli llj
          have hcb : ∃ cb, coarS q li lj = cb := ⟨_, rfl⟩
          obtain ⟨cb, hcb⟩ := hcb
          have hCo := fun J1 (u : Fz.le J J1) => coarL hcb J1 (.slice hain 0 haib haie 2 li.length haic) aj (haiJ.mono u) (hajJ.mono u) lli llj
          have hRCo := fun J1 (u : Fz.le J J1) => rcoarL hcb J1 (.slice hain 0 haib haie 2 li.length haic) aj (haiJ.mono u) (hajJ.mono u) lli llj
          obtain ⟨hajn, hajb, haje, hajc, hajL, hajr, rfl, haj1, haj2, haj3, haj4⟩ := haj
          conv => whnf
          refine drawP hΘ mixed (.look 0 (.look 1 (.look 2 (.look 3 (.look 4 (.look 5 (.look 6 (.look 7 (.look 8 (.alt 9 (.look 10 (.look 11 (.look 12 (.look 13 (.look 14 .done))))) .nil)))))))))) [2] (by kernel_rfl) ?_
          conv => whnf
          refine ⟨rfl, ⟨by simp, by show (i : Int) < 4; omega⟩, ?_⟩
          conv => whnf
          refine ⟨rfl, ?_⟩
          conv => whnf
          refine ⟨_, glJ _ _ hall, ?_⟩
          conv => whnf
          refine ⟨_, yi, ?_⟩
          conv => whnf
          refine ⟨rfl, ⟨by simp, by show (j : Int) < 4; omega⟩, ?_⟩
          conv => whnf
          refine ⟨rfl, ?_⟩
          conv => whnf
          refine ⟨_, glJ _ _ hall, ?_⟩
          conv => whnf
          refine ⟨_, yj, ?_⟩
          conv => whnf
          refine useFo hC rfl ⟨rfl, ⟨rfl, rfl, rfl, .inr ⟨rfl, rfl, rfl, rfl⟩⟩, ⟨rfl, rfl, rfl, .inr ⟨rfl, rfl, rfl, rfl⟩⟩, trivial⟩ rfl ?_
          rintro _ J1 v1 ⟨n1, rfl, hn1⟩
          have hn1C := hn1
          have glJ1 := Fz.le_trans glJ v1
          obtain ⟨hn1n, hn1b, hn1e, hn1c, hn1L, hn1r, rfl, hn11, hn12, hn13, hn14⟩ := hn1
          conv => whnf
          refine ⟨v1, rfl, ?_⟩
          conv => whnf
          refine drawP hΘ mixed (.look 0 (.look 1 (.look 2 (.look 3 (.look 4 (.look 5 (.look 6 (.look 7 (.look 8 (.alt 9 (.look 10 (.look 11 (.look 12 (.look 13 (.look 14 .done))))) .nil)))))))))) [2] (by kernel_rfl) ?_
          conv => whnf
          refine ⟨rfl, ⟨by simp, by show (i : Int) < 4; omega⟩, ?_⟩
          conv => whnf
          refine ⟨rfl, ?_⟩
          conv => whnf
          refine ⟨_, glJ1 _ _ hall, ?_⟩
          conv => whnf
          refine ⟨_, yi, ?_⟩
          conv => whnf
          refine ⟨rfl, ⟨by simp, by show (j : Int) < 4; omega⟩, ?_⟩
          conv => whnf
          refine ⟨rfl, ?_⟩
          conv => whnf
          refine ⟨_, glJ1 _ _ hall, ?_⟩
          conv => whnf
          refine ⟨_, yj, ?_⟩
          conv => whnf
          refine useFo (hRC J1 v1) rfl ⟨rfl, ⟨rfl, rfl, rfl, .inr ⟨rfl, rfl, rfl, rfl⟩⟩, ⟨rfl, rfl, rfl, .inr ⟨rfl, rfl, rfl, rfl⟩⟩, trivial⟩ rfl ?_
          rintro _ J2 v2 ⟨n2, rfl, hn2⟩
          have hS2 := sameL J2 _ _ _ (hn1C.mono v2) hn2 (Nat.lt_of_le_of_lt (compR_len q li lj) (by omega))
          have v12 := Fz.le_trans v1 v2
          have glJ2 := Fz.le_trans glJ1 v2
          obtain ⟨hn2n, hn2b, hn2e, hn2c, hn2L, hn2r, rfl, hn21, hn22, hn23, hn24⟩ := hn2
          conv => whnf
          refine ⟨v2, rfl, ?_⟩
          conv => whnf
          refine drawP hΘ mixed (.look 0 (.look 1 (.look 2 (.look 3 (.look 4 (.look 5 (.alt 6 (.look 7 (.look 8 (.look 9 (.look 10 (.look 11 (.look 12 (.look 13 (.look 14 (.look 15 (.look 16 (.look 17 (.look 18 (.look 20 (.look 21 (.look 22 (.look 23 (.look 24 (.look 25 (.look 26 (.look 27 (.look 28 (.alt 19 (.alt 29 (.look 30 (.look 31 .done)) .nil) .nil)))))))))))))))))))))) .nil))))))) [2] (by kernel_rfl) ?_
          conv => whnf
          refine ⟨fun _ => ?_, fun g => absurd g (by simp)⟩
          conv => whnf
          refine useFo hS2 rfl ⟨⟨rfl, rfl, rfl, .inr ⟨rfl, rfl, rfl, rfl⟩⟩, ⟨rfl, rfl, rfl, .inr ⟨rfl, rfl, rfl, rfl⟩⟩, trivial⟩ rfl ?_
          rintro _ J2 _ ⟨rfl, rfl⟩
          conv => whnf
          refine ⟨Fz.le_refl _, rfl, ?_⟩
          conv => whnf
          refine ⟨rfl, ⟨by simp, by show (i : Int) < 4; omega⟩, ?_⟩
          conv => whnf
          refine ⟨rfl, ?_⟩
          conv => whnf
          refine ⟨_, glJ2 _ _ hall, ?_⟩
          conv => whnf
          refine ⟨_, yi, ?_⟩
          conv => whnf
          refine ⟨rfl, ⟨by simp, by show (j : Int) < 4; omega⟩, ?_⟩
          conv => whnf
          refine ⟨rfl, ?_⟩
          conv => whnf
          refine ⟨_, glJ2 _ _ hall, ?_⟩
          conv => whnf
          refine ⟨_, yj, ?_⟩
          conv => whnf
          refine ⟨rfl, ⟨by simp, by show (i : Int) < 4; omega⟩, ?_⟩
          conv => whnf
          refine ⟨rfl, ?_⟩
          conv => whnf
          refine ⟨_, glJ2 _ _ hall, ?_⟩
          conv => whnf
          refine ⟨_, yi, ?_⟩
          conv => whnf
          refine ⟨rfl, ⟨by simp, by show (j : Int) < 4; omega⟩, ?_⟩
          conv => whnf
          refine ⟨rfl, ?_⟩
          conv => whnf
          refine ⟨_, glJ2 _ _ hall, ?_⟩
          conv => whnf
          refine ⟨_, yj, ?_⟩
          conv => whnf
          refine useFo (hCo J2 v12) rfl ⟨rfl, ⟨rfl, rfl, rfl, .inr ⟨rfl, rfl, rfl, rfl⟩⟩, ⟨rfl, rfl, rfl, .inr ⟨rfl, rfl, rfl, rfl⟩⟩, trivial⟩ rfl ?_
          rintro _ J3 v3 ⟨rfl, -⟩
          conv => whnf
          refine ⟨v3, rfl, ?_⟩
          conv => whnf
          refine useFo (hRCo J3 (Fz.le_trans v12 v3)) rfl ⟨rfl, ⟨rfl, rfl, rfl, .inr ⟨rfl, rfl, rfl, rfl⟩⟩, ⟨rfl, rfl, rfl, .inr ⟨rfl, rfl, rfl, rfl⟩⟩, trivial⟩ rfl ?_
          rintro _ J4 v4 ⟨rfl, -⟩
          conv => whnf
          refine ⟨v4, rfl, ?_⟩
          rcases cb with _ | _
          · skip
            conv => whnf
            refine br (fun g => absurd g (by decide)) (fun _ => ?_)
            conv => whnf
            exact ⟨⟨(j + 1, J4), by show j + 1 ≤ 4; omega, Fz.le_trans hJ (Fz.le_trans v12 (Fz.le_trans v3 v4))⟩, by show 4 - (j + 1) < 4 - j; omega, leR [] hHj hTj rfl ⟨trivial, trivial⟩ ⟨cnt (by omega), trivial⟩ ⟨Fz.le_refl J4, trivial⟩⟩
          · skip
            conv => whnf
            refine br (fun g => absurd g (by decide)) (fun _ => ?_)
            conv => whnf
            exact ⟨⟨(j + 1, J4), by show j + 1 ≤ 4; omega, Fz.le_trans hJ (Fz.le_trans v12 (Fz.le_trans v3 v4))⟩, by show 4 - (j + 1) < 4 - j; omega, leR [] hHj hTj rfl ⟨trivial, trivial⟩ ⟨cnt (by omega), trivial⟩ ⟨Fz.le_refl J4, trivial⟩⟩
        · skip
          conv => whnf
          exact ⟨⟨(i + 1, J), by show i + 1 ≤ 4; omega, Fz.le_trans gl2 hJ⟩, by show 4 - (i + 1) < 4 - i; omega, leRn [_, _, _] [_, _] [] hHi hTi rfl ⟨trivial, trivial⟩ ⟨cnt (by omega), trivial⟩ ⟨Fz.le_refl J, trivial⟩⟩
      · skip
        conv => whnf
        refine ⟨fun _ => ?_, fun g => absurd g (by simp)⟩
        conv => whnf
        refine ⟨fun _ => ?_, fun g => absurd g (by simp)⟩
        conv => whnf
        refine useFo hS rfl ⟨⟨rfl, rfl, rfl, .inr ⟨rfl, rfl, rfl, rfl⟩⟩, ⟨rfl, rfl, rfl, .inr ⟨rfl, rfl, rfl, rfl⟩⟩, trivial⟩ rfl ?_
        rintro _ H2 _ ⟨rfl, rfl⟩
        conv => whnf
        refine ⟨Fz.le_refl _, rfl, ?_⟩
        conv => whnf
        refine loop_at hΘ (X := { x : Nat × Fz // x.1 ≤ 4 ∧ Fz.le H2 x.2 }) (fun x => [(22, .va (.int .i64 x.1.1))]) [12, 23, 24, 25, 26, 97, 98, 99, 100, 101, 102, 103, 104, 105, 106, 107, 108, 109, 110, 111, 112, 113, 114, 115, 116, 117, 118, 119, 120, 121, 122, 123, 124, 125, 126, 127, 128, 129, 130, 131, 132, 133, 134, 135, 136, 137, 138, 139, 140, 141, 142, 143, 144, 145, 146, 147, 148, 149, 150, 151, 152, 153, 154, 155, 156, 157, 158, 159, 160] (fz fun x => x.1.2) 3 (fun x => 4 - x.1.1) ⟨(0, H2), by simp, Fz.le_refl H2⟩
          (fun hH hT => leI [] hH hT rfl ⟨trivial, trivial⟩ ⟨rfl, trivial⟩ ⟨Fz.le_refl H2, trivial⟩) ?_
        rintro ⟨⟨j, J⟩, hj, hJ⟩ hHj hTj
        replace hj : j ≤ 4 := hj
        replace hJ : Fz.le H2 J := hJ
        conv => whnf
        refine br (fun gbj => ?_) (fun gbj => ?_)
        · have gj : j < 4 := by
              have h0 : (j : Int) < 4 := of_decide_eq_true gbj
              omega
          clear gbj
          have hgj := hget j gj
          obtain ⟨aj, lj, yj, haj, llj⟩ := hgj
          have glJ := Fz.le_trans gl2 hJ
          have hajJ := haj.mono glJ
          have haiJ := haiC.mono glJ
          have hC := composeE_fn J (.slice hain 0 haib haie 2 li.length haic) aj li lj q haiJ hajJ lli llj
          have hRC := fun J1 (u : Fz.le J J1) => rcomposeE_fn J1 (.slice hain 0 haib haie 2 li.length haic) aj li lj q (haiJ.mono u) (hajJ.mono u) lli llj
          have hcb : ∃ cb, coarS q li lj = cb := ⟨_, rfl⟩
          obtain ⟨cb, hcb⟩ := hcb
          have hCo := fun J1 (u : Fz.le J J1) => coarL hcb J1 (.slice hain 0 haib haie 2 li.length haic) aj (haiJ.mono u) (hajJ.mono u) lli llj
          have hRCo := fun J1 (u : Fz.le J J1) => rcoarL hcb J1 (.slice hain 0 haib haie 2 li.length haic) aj (haiJ.mono u) (hajJ.mono u) lli llj
          obtain ⟨hajn, hajb, haje, hajc, hajL, hajr, rfl, haj1, haj2, haj3, haj4⟩ := haj
          conv => whnf
          refine drawP hΘ mixed (.look 0 (.look 1 (.look 2 (.look 3 (.look 4 (.look 5 (.look 6 (.look 7 (.look 8 (.alt 9 (.look 10 (.look 11 (.look 12 (.look 13 (.look 14 .done))))) .nil)))))))))) [2] (by kernel_rfl) ?_
          conv => whnf
          refine ⟨rfl, ⟨by simp, by show (i : Int) < 4; omega⟩, ?_⟩
          conv => whnf
          refine ⟨rfl, ?_⟩
          conv => whnf
          refine ⟨_, glJ _ _ hall, ?_⟩
          conv => whnf
          refine ⟨_, yi, ?_⟩
          conv => whnf
          refine ⟨rfl, ⟨by simp, by show (j : Int) < 4; omega⟩, ?_⟩
          conv => whnf
          refine ⟨rfl, ?_⟩
          conv => whnf
          refine ⟨_, glJ _ _ hall, ?_⟩
          conv => whnf
          refine ⟨_, yj, ?_⟩
          conv => whnf
          refine useFo hC rfl ⟨rfl, ⟨rfl, rfl, rfl, .inr ⟨rfl, rfl, rfl, rfl⟩⟩, ⟨rfl, rfl, rfl, .inr ⟨rfl, rfl, rfl, rfl⟩⟩, trivial⟩ rfl ?_
          rintro _ J1 v1 ⟨n1, rfl, hn1⟩
          have hn1C := hn1
          have glJ1 := Fz.le_trans glJ v1
          obtain ⟨hn1n, hn1b, hn1e, hn1c, hn1L, hn1r, rfl, hn11, hn12, hn13, hn14⟩ := hn1
          conv => whnf
          refine ⟨v1, rfl, ?_⟩
          conv => whnf
          refine drawP hΘ mixed (.look 0 (.look 1 (.look 2 (.look 3 (.look 4 (.look 5 (.look 6 (.look 7 (.look 8 (.alt 9 (.look 10 (.look 11 (.look 12 (.look 13 (.look 14 .done))))) .nil)))))))))) [2] (by kernel_rfl) ?_
          conv => whnf
          refine ⟨rfl, ⟨by simp, by show (i : Int) < 4; omega⟩, ?_⟩
          conv => whnf
          refine ⟨rfl, ?_⟩
          conv => whnf
          refine ⟨_, glJ1 _ _ hall, ?_⟩
          conv => whnf
          refine ⟨_, yi, ?_⟩
          conv => whnf
          refine ⟨rfl, ⟨by simp, by show (j : Int) < 4; omega⟩, ?_⟩
          conv => whnf
          refine ⟨rfl, ?_⟩
          conv => whnf
          refine ⟨_, glJ1 _ _ hall, ?_⟩
          conv => whnf
          refine ⟨_, yj, ?_⟩
          conv => whnf
          refine useFo (hRC J1 v1) rfl ⟨rfl, ⟨rfl, rfl, rfl, .inr ⟨rfl, rfl, rfl, rfl⟩⟩, ⟨rfl, rfl, rfl, .inr ⟨rfl, rfl, rfl, rfl⟩⟩, trivial⟩ rfl ?_
          rintro _ J2 v2 ⟨n2, rfl, hn2⟩
          have hS2 := sameL J2 _ _ _ (hn1C.mono v2) hn2 (Nat.lt_of_le_of_lt (compR_len q li lj) (by omega))
          have v12 := Fz.le_trans v1 v2
          have glJ2 := Fz.le_trans glJ1 v2
          obtain ⟨hn2n, hn2b, hn2e, hn2c, hn2L, hn2r, rfl, hn21, hn22, hn23, hn24⟩ := hn2
          conv => whnf
          refine ⟨v2, rfl, ?_⟩
          conv => whnf
          refine drawP hΘ mixed (.look 0 (.look 1 (.look 2 (.look 3 (.look 4 (.look 5 (.alt 6 (.look 7 (.look 8 (.look 9 (.look 10 (.look 11 (.look 12 (.look 13 (.look 14 (.look 15 (.look 16 (.look 17 (.look 18 (.look 20 (.look 21 (.look 22 (.look 23 (.look 24 (.look 25 (.look 26 (.look 27 (.look 28 (.alt 19 (.alt 29 (.look 30 (.look 31 .done)) .nil) .nil)))))))))))))))))))))) .nil))))))) [2] (by kernel_rfl) ?_
          conv => whnf
          refine ⟨fun _ => ?_, fun g => absurd g (by simp)⟩
          conv => whnf
          refine useFo hS2 rfl ⟨⟨rfl, rfl, rfl, .inr ⟨rfl, rfl, rfl, rfl⟩⟩, ⟨rfl, rfl, rfl, .inr ⟨rfl, rfl, rfl, rfl⟩⟩, trivial⟩ rfl ?_
          rintro _ J2 _ ⟨rfl, rfl⟩
          conv => whnf
          refine ⟨Fz.le_refl _, rfl, ?_⟩
          conv => whnf
          refine ⟨rfl, ⟨by simp, by show (i : Int) < 4; omega⟩, ?_⟩
          conv => whnf
          refine ⟨rfl, ?_⟩
          conv => whnf
          refine ⟨_, glJ2 _ _ hall, ?_⟩
          conv => whnf
          refine ⟨_, yi, ?_⟩
          conv => whnf
          refine ⟨rfl, ⟨by simp, by show (j : Int) < 4; omega⟩, ?_⟩
          conv => whnf
          refine ⟨rfl, ?_⟩
          conv => whnf
          refine ⟨_, glJ2 _ _ hall, ?_⟩
          conv => whnf
          refine ⟨_, yj, ?_⟩
          conv => whnf
          refine ⟨rfl, ⟨by simp, by show (i : Int) < 4; omega⟩, ?_⟩
          conv => whnf
          refine ⟨rfl, ?_⟩
          conv => whnf
          refine ⟨_, glJ2 _ _ hall, ?_⟩
          conv => whnf
          refine ⟨_, yi, ?_⟩
          conv => whnf
          refine ⟨rfl, ⟨by simp, by show (j : Int) < 4; omega⟩, ?_⟩
          conv => whnf
          refine ⟨rfl, ?_⟩
          conv => whnf
          refine ⟨_, glJ2 _ _ hall, ?_⟩
          conv => whnf
          refine ⟨_, yj, ?_⟩
          conv => whnf
          refine useFo (hCo J2 v12) rfl ⟨rfl, ⟨rfl, rfl, rfl, .inr ⟨rfl, rfl, rfl, rfl⟩⟩, ⟨rfl, rfl, rfl, .inr ⟨rfl, rfl, rfl, rfl⟩⟩, trivial⟩ rfl ?_
          rintro _ J3 v3 ⟨rfl, -⟩
          conv => whnf
          refine ⟨v3, rfl, ?_⟩
          conv => whnf
          refine useFo (hRCo J3 (Fz.le_trans v12 v3)) rfl ⟨rfl, ⟨rfl, rfl, rfl, .inr ⟨rfl, rfl, rfl, rfl⟩⟩, ⟨rfl, rfl, rfl, .inr ⟨rfl, rfl, rfl, rfl⟩⟩, trivial⟩ rfl ?_
          rintro _ J4 v4 ⟨rfl, -⟩
          conv => whnf
          refine ⟨v4, rfl, ?_⟩
          rcases cb with _ | _
          · skip
            conv => whnf
            refine br (fun g => absurd g (by decide)) (fun _ => ?_)
            conv => whnf
            exact ⟨⟨(j + 1, J4), by show j + 1 ≤ 4; omega, Fz.le_trans hJ (Fz.le_trans v12 (Fz.le_trans v3 v4))⟩, by show 4 - (j + 1) < 4 - j; omega, leR [] hHj hTj rfl ⟨trivial, trivial⟩ ⟨cnt (by omega), trivial⟩ ⟨Fz.le_refl J4, trivial⟩⟩
          · skip
            conv => whnf
            refine br (fun g => absurd g (by decide)) (fun _ => ?_)
            conv => whnf
            exact ⟨⟨(j + 1, J4), by show j + 1 ≤ 4; omega, Fz.le_trans hJ (Fz.le_trans v12 (Fz.le_trans v3 v4))⟩, by show 4 - (j + 1) < 4 - j; omega, leR [] hHj hTj rfl ⟨trivial, trivial⟩ ⟨cnt (by omega), trivial⟩ ⟨Fz.le_refl J4, trivial⟩⟩
        · skip
          conv => whnf
          exact ⟨⟨(i + 1, J), by show i + 1 ≤ 4; omega, Fz.le_trans gl2 hJ⟩, by show 4 - (i + 1) < 4 - i; omega, leRn [_, _, _] [_, _] [] hHi hTi rfl ⟨trivial, trivial⟩ ⟨cnt (by omega), trivial⟩ ⟨Fz.le_refl J, trivial⟩⟩
    · skip
      conv => whnf
      exact ⟨⟨(k + 1, H), by show k + 1 ≤ 2; omega, Fz.le_trans hG (Fz.le_trans lG5 hGH)⟩, by show 2 - (k + 1) < 2 - k; omega, leRn [_, _, _] [_, _] [] hH hT rfl ⟨trivial, trivial⟩ ⟨cnt (by omega), trivial⟩ ⟨Fz.le_refl H, trivial⟩⟩
  · conv => whnf
    exact endFo (.ret (.va (.bool true))) G rfl (Fz.le_trans l1 (Fz.le_trans l2 hG)) (Fz.le_refl G) ⟨rfl, trivial⟩ rfl rfl
end Go.Proofs.YtblllibdahkgfaaGreatDoor
