import Derived.Test.YtblllibdahkgfaaGreatDoorK13

namespace Go.Proofs.YtblllibdahkgfaaGreatDoor
open Go Sx
set_option maxRecDepth 100000

def mn (l : List Int) : Int := match l with
  | [] => 0
  | x :: r => r.foldl (fun m x => if x < m then x else m) x
def mx (l : List Int) : Int := match l with
  | [] => 0
  | x :: r => r.foldl (fun m x => if x > m then x else m) x
theorem mn_snoc (l : List Int) (x : Int) : mn (l ++ [x]) = if l = [] then x else if x < mn l then x else mn l := by
  cases l with
  | nil => simp [mn]
  | cons a r => simp only [mn, List.cons_append, List.foldl_append, List.foldl_cons, List.foldl_nil]; rw [if_neg (show ¬ (a :: r = []) by simp)]; rfl
theorem mx_snoc (l : List Int) (x : Int) : mx (l ++ [x]) = if l = [] then x else if x > mx l then x else mx l := by
  cases l with
  | nil => simp [mx]
  | cons a r => simp only [mx, List.cons_append, List.foldl_append, List.foldl_cons, List.foldl_nil]; rw [if_neg (show ¬ (a :: r = []) by simp)]; rfl

theorem take_ne {α : Type} {l : List α} {k : Nat} (h1 : 1 ≤ k) (h2 : k ≤ l.length) : ¬ l.take k = [] := by
  intro h; have := congrArg List.length h; rw [List.length_take] at this; simp only [List.length_nil] at this; omega
theorem ei {k : IntKind} {a b : Int} (h : a = b) : SA.int k a = SA.int k b := by rw [h]

theorem max_fn (F : Fz) (sa : SA) (l : List Int) (ha : IntsAt F sa l) (hl : l.length < 1000000) (h0 : 0 < l.length) :
    Fo Tryz.prog F 61 [.va sa] (fun o F' => o = .ret (.va (.int .i64 (mx l))) ∧ F' = F) := by
  obtain ⟨han, hab, hae, hac, haL, har, rfl, ha1, ha2, ha3, ha4⟩ := ha
  refine fo_of hΘ Tryz.func61 rfl (by decide) _ _ rfl rfl rfl ?_
  conv => whnf
  refine br (fun g => ?_) (fun g => ?_)
  · simp at g; omega
  · conv => whnf
    refine ⟨Sl.lt ha1 h0, ⟨by simp, by simpa using h0⟩, ?_⟩
    conv => whnf
    refine ⟨_, ha2 (Sl.lt ha1 h0), ?_⟩
    conv => whnf
    refine ⟨_, Sl.at ha4 h0, ?_⟩
    conv => whnf
    have h1 : mx (l.take 1) = l[0] := by
      rw [List.take_succ_eq_append_getElem h0]; simp [mx]
    refine loop_at hΘ (X := { k : Nat // 1 ≤ k ∧ k ≤ l.length }) (fun k => [(3, .va (.int .i64 (mx (l.take k.1)))), (4, .va (.int .i64 k.1))]) [12, 13, 14, 15, 16, 17, 18, 19, 20, 21, 22, 23] (fz fun _ => F) 1 (fun k => l.length - k.1) ⟨1, by omega⟩
      (fun hH hT => le0 hH hT rfl (Fz.le_refl F) rfl ⟨ei h1, rfl, trivial⟩) ?_
    rintro ⟨k, hk1, hk⟩ hH hT
    conv => whnf
    refine br (fun g => ?_) (fun g => ?_)
    · have g : k < l.length := by simpa using g
      conv => whnf
      refine ⟨Sl.lt ha1 g, ⟨by simp, by simpa using g⟩, ?_⟩
      conv => whnf
      refine ⟨_, ha2 (Sl.lt ha1 g), ?_⟩
      conv => whnf
      refine ⟨_, Sl.at ha4 g, ?_⟩
      conv => whnf
      refine ⟨⟨k + 1, by omega, by omega⟩, by show l.length - (k + 1) < l.length - k; omega, lr0 hH hT rfl (Fz.le_refl F) rfl ⟨ei ?_, cnt (by omega), trivial⟩⟩
      show mx (l.take (k + 1)) = _
      rw [List.take_succ_eq_append_getElem g, mx_snoc, if_neg (take_ne hk1 hk)]
    · conv => whnf
      have g : ¬ k < l.length := by simpa using g
      refine endPu rfl (Fz.le_refl F) (oi ?_) rfl
      show mx l = mx (l.take k)
      rw [List.take_of_length_le (by omega)]

theorem min_fn (F : Fz) (sa : SA) (l : List Int) (ha : IntsAt F sa l) (hl : l.length < 1000000) (h0 : 0 < l.length) :
    Fo Tryz.prog F 62 [.va sa] (fun o F' => o = .ret (.va (.int .i64 (mn l))) ∧ F' = F) := by
  obtain ⟨han, hab, hae, hac, haL, har, rfl, ha1, ha2, ha3, ha4⟩ := ha
  refine fo_of hΘ Tryz.func62 rfl (by decide) _ _ rfl rfl rfl ?_
  conv => whnf
  refine br (fun g => ?_) (fun g => ?_)
  · simp at g; omega
  · conv => whnf
    refine ⟨Sl.lt ha1 h0, ⟨by simp, by simpa using h0⟩, ?_⟩
    conv => whnf
    refine ⟨_, ha2 (Sl.lt ha1 h0), ?_⟩
    conv => whnf
    refine ⟨_, Sl.at ha4 h0, ?_⟩
    conv => whnf
    have h1 : mn (l.take 1) = l[0] := by
      rw [List.take_succ_eq_append_getElem h0]; simp [mn]
    refine loop_at hΘ (X := { k : Nat // 1 ≤ k ∧ k ≤ l.length }) (fun k => [(3, .va (.int .i64 (mn (l.take k.1)))), (4, .va (.int .i64 k.1))]) [12, 13, 14, 15, 16, 17, 18, 19, 20, 21, 22, 23] (fz fun _ => F) 1 (fun k => l.length - k.1) ⟨1, by omega⟩
      (fun hH hT => le0 hH hT rfl (Fz.le_refl F) rfl ⟨ei h1, rfl, trivial⟩) ?_
    rintro ⟨k, hk1, hk⟩ hH hT
    conv => whnf
    refine br (fun g => ?_) (fun g => ?_)
    · have g : k < l.length := by simpa using g
      conv => whnf
      refine ⟨Sl.lt ha1 g, ⟨by simp, by simpa using g⟩, ?_⟩
      conv => whnf
      refine ⟨_, ha2 (Sl.lt ha1 g), ?_⟩
      conv => whnf
      refine ⟨_, Sl.at ha4 g, ?_⟩
      conv => whnf
      refine ⟨⟨k + 1, by omega, by omega⟩, by show l.length - (k + 1) < l.length - k; omega, lr0 hH hT rfl (Fz.le_refl F) rfl ⟨ei ?_, cnt (by omega), trivial⟩⟩
      show mn (l.take (k + 1)) = _
      rw [List.take_succ_eq_append_getElem g, mn_snoc, if_neg (take_ne hk1 hk)]
    · conv => whnf
      have g : ¬ k < l.length := by simpa using g
      refine endPu rfl (Fz.le_refl F) (oi ?_) rfl
      show mn l = mn (l.take k)
      rw [List.take_of_length_le (by omega)]

set_option maxHeartbeats 1000000 in
theorem equal_fn (F : Fz) (sa sb : SA) (a b : List Stp) (ha : StepsAt F sa a) (hb : StepsAt F sb b) (la : a.length < 1000000) :
    Fo Tryz.prog F 48 [.va sa, .va sb] (fun o F' => o = .ret (.va (.bool (decide (a = b)))) ∧ F' = F) := by
  obtain ⟨han, hab, hae, hac, haL, har, rfl, ha1, ha2, ha3, ha4⟩ := ha
  obtain ⟨hbn, hbb, hbe, hbc, hbL, hbr, rfl, hb1, hb2, hb3, hb4⟩ := hb
  have fin : ∀ (v : Bool) (h : Hp) (nx : Nat), v = decide (a = b) → lget h 0 = some (.frz F) →
      Cln 1 (FoK F fun o F' => o = .ret (.va (.bool (decide (a = b)))) ∧ F' = F) (.ret (.va (.bool v))) h nx := by
    intro v h nx hv h0
    exact endPu h0 (Fz.le_refl F) (by rw [hv]; rfl) rfl
  refine fo_of hΘ Tryz.func48 rfl (by decide) _ _ rfl rfl rfl ?_
  conv => whnf
  refine br (fun g => ?_) (fun g => ?_)
  · conv => whnf
    refine fin _ _ _ ?_ rfl
    have : ¬ a = b := by rintro rfl; simp at g
    simp [this]
  · have gl : a.length = b.length := neq_f g
    conv => whnf
    refine loop_at hΘ (X := { k : Nat // k ≤ a.length ∧ a.take k = b.take k }) (fun k => [(13, .va (.int .i64 k.1))]) [4, 5, 14, 15, 16, 17, 18, 19, 20, 21, 22, 23, 24, 25] (fz fun _ => F) 1 (fun k => a.length - k.1) ⟨0, by simp⟩
      (fun hH hT => le0 hH hT rfl (Fz.le_refl F) rfl ⟨rfl, trivial⟩) ?_
    rintro ⟨k, hk, hp⟩ hH hT
    conv => whnf
    refine br (fun g => ?_) (fun g => ?_)
    · have g : k < a.length := by simpa using g
      have gb : k < b.length := by omega
      conv => whnf
      refine draw hΘ mixed [(0, true), (1, true), (2, true), (3, true), (4, true), (5, true), (6, true), (7, true), (8, true)] [] (by kernel_rfl) ?_
      conv => whnf
      refine ⟨Sl.lt ha1 g, ⟨by simp, by simpa using g⟩, ?_⟩
      conv => whnf
      refine ⟨rfl, ?_⟩
      conv => whnf
      refine ⟨_, ha2 (Sl.lt ha1 g), ?_⟩
      conv => whnf
      refine ⟨_, Sl.at ha4 g, ?_⟩
      conv => whnf
      refine ⟨Sl.lt hb1 gb, ⟨by simp, by simpa using gb⟩, ?_⟩
      conv => whnf
      refine ⟨rfl, ?_⟩
      conv => whnf
      refine ⟨_, hb2 (Sl.lt hb1 gb), ?_⟩
      conv => whnf
      refine ⟨_, Sl.at hb4 gb, ?_⟩
      conv => whnf
      refine ⟨_, agg50 _ _ _ _, ?_⟩
      conv => whnf
      refine br (fun g2 => ?_) (fun g2 => ?_)
      · conv => whnf
        refine fin _ _ _ ?_ rfl
        have : ¬ a = b := by rintro rfl; simp at g2
        simp [this]
      · conv => whnf
        refine ⟨⟨k + 1, by omega, ?_⟩, by show a.length - (k + 1) < a.length - k; omega, lr0 hH hT rfl (Fz.le_refl F) rfl ⟨cnt (by omega), trivial⟩⟩
        have h3 : a[k] = b[k] := by
          simp at g2; exact Prod.ext g2.1 g2.2
        rw [List.take_succ_eq_append_getElem g, List.take_succ_eq_append_getElem gb, hp, h3]
    · conv => whnf
      refine fin _ _ _ ?_ rfl
      have g : ¬ k < a.length := by simpa using g
      have h1 : a = b := by
        rw [List.take_of_length_le (by omega), List.take_of_length_le (by omega)] at hp; exact hp
      simp [h1]

/-- One step, that everything is lost. -/
def lostS (l : List Stp) : Bool := match l with
  | [x] => decide (x.1 = 6)
  | _ => false
theorem lost_fn (F : Fz) (sa : SA) (l : List Stp) (ha : StepsAt F sa l) :
    Fo Tryz.prog F 47 [.va sa] (fun o F' => o = .ret (.va (.bool (lostS l))) ∧ F' = F) := by
  obtain ⟨han, hab, hae, hac, haL, har, rfl, ha1, ha2, ha3, ha4⟩ := ha
  refine fo_of hΘ Tryz.func47 rfl (by decide) _ _ rfl rfl rfl ?_
  conv => whnf
  refine ⟨fun g => ?_, fun g => ?_⟩
  · conv => whnf
    have g1 : l.length = 1 := by simp at g; omega
    have g0 : 0 < l.length := by omega
    refine ⟨Sl.lt ha1 g0, ⟨by simp, by simpa using g0⟩, ?_⟩
    conv => whnf
    refine ⟨_, ha2 (Sl.lt ha1 g0), ?_⟩
    conv => whnf
    refine ⟨_, Sl.at ha4 g0, ?_⟩
    conv => whnf
    refine endPu rfl (Fz.le_refl F) (ob ?_) rfl
    match l, g1 with
    | [x], _ => rfl
  · conv => whnf
    refine endPu rfl (Fz.le_refl F) (ob ?_) rfl
    have g1 : l.length ≠ 1 := by simp at g; omega
    match l, g1 with
    | [], _ => rfl
    | [x], h => simp at h
    | _ :: _ :: _, _ => rfl

/-- The numbers of the steps of a kind. -/
def sel (κ : Int) (l : List Stp) : List Int := (l.filter fun s => decide (s.1 = κ)).map (·.2)
theorem sel_yes (κ : Int) (l : List Stp) (k : Nat) (g : k < l.length) (h : l[k].1 = κ) : sel κ (l.take (k + 1)) = sel κ (l.take k) ++ [l[k].2] := by
  rw [List.take_succ_eq_append_getElem g, sel, List.filter_append, List.map_append]; simp [sel, h]
theorem sel_no (κ : Int) (l : List Stp) (k : Nat) (g : k < l.length) (h : ¬ l[k].1 = κ) : sel κ (l.take (k + 1)) = sel κ (l.take k) := by
  rw [List.take_succ_eq_append_getElem g, sel, List.filter_append, List.map_append]; simp [sel, h]
theorem sel_le (κ : Int) (l : List Stp) : (sel κ l).length ≤ l.length := by
  unfold sel; rw [List.length_map]; exact List.length_filter_le _ _

set_option maxHeartbeats 2000000 in
theorem count_fn (F : Fz) (sa : SA) (l : List Stp) (κ : Int) (ha : StepsAt F sa l) (hl : l.length < 1000000) :
    Fo Tryz.prog F 39 [.va sa, .va (.int .i64 κ)] (fun o F' => o = .ret (.tup [.va (.int .i64 (sel κ l).length), .va (.int .i64 (mn (sel κ l))), .va (.int .i64 (mx (sel κ l)))]) ∧ F' = F) := by
  obtain ⟨han, hab, hae, hac, haL, har, rfl, ha1, ha2, ha3, ha4⟩ := ha
  refine fo_of hΘ Tryz.func39 rfl (by decide) _ _ rfl rfl rfl ?_
  conv => whnf
  refine loop_at hΘ (X := { k : Nat // k ≤ l.length }) (fun k => [(7, .va (.int .i64 (sel κ (l.take k.1)).length)), (8, .va (.int .i64 (mn (sel κ (l.take k.1))))), (9, .va (.int .i64 (mx (sel κ (l.take k.1))))), (10, .va (.int .i64 k.1))]) [11, 12, 13, 14, 15, 16, 17, 18, 19, 20, 21, 22, 23, 24, 25, 26, 27, 28, 29, 30, 31, 32, 33, 34, 35, 36, 37, 38, 39, 40, 41, 42, 43, 44, 45, 46, 47, 48, 49, 50, 51, 52, 53, 54, 55, 56, 57] (fz fun _ => F) 1 (fun k => l.length - k.1) ⟨0, by simp⟩
    (fun hH hT => le0 hH hT rfl (Fz.le_refl F) rfl ⟨rfl, rfl, rfl, rfl, trivial⟩) ?_
  rintro ⟨k, hk⟩ hH hT
  conv => whnf
  refine br (fun g' => ?_) (fun g' => ?_)
  · have g : k < l.length := by simpa using g'
    clear g'
    have hle := sel_le κ (l.take k)
    have hlen : (l.take k).length = k := by simp; omega
    repeat' ((conv => whnf); first
      | with_reducible refine br (fun _ => ?_) (fun _ => ?_)
      | with_reducible refine ⟨fun _ => ?_, fun _ => ?_⟩
      | refine ⟨Sl.lt ha1 g, ⟨by simp, by simpa using g⟩, ?_⟩
      | refine ⟨_, ha2 (Sl.lt ha1 g), ?_⟩
      | refine ⟨_, Sl.at ha4 g, ?_⟩)
    all_goals (conv => whnf)
    all_goals refine ⟨⟨k + 1, by omega⟩, by show l.length - (k + 1) < l.length - k; omega, lr0 hH hT rfl (Fz.le_refl F) rfl ⟨ei ?_, ei ?_, ei ?_, cnt (by omega), trivial⟩⟩
    all_goals clear hH hT
    all_goals clear ha1 ha2 ha3 ha4
    all_goals by_cases hκ : l[k].1 = κ
    all_goals first
      | (have hS := sel_yes κ l k g hκ)
      | (have hS := sel_no κ l k g hκ)
    all_goals (dsimp only; rw [hS])
    all_goals (try (exfalso; simp_all; done))
    all_goals first
      | (rw [wrap64_id (by omega) (by omega)]; simp; done)
      | (rw [mn_snoc]; simp_all; done)
      | (rw [mx_snoc]; simp_all; done)
      | (rw [mn_snoc]; simp_all; omega)
      | (rw [mx_snoc]; simp_all; omega)
  · conv => whnf
    have g : ¬ k < l.length := by simpa using g'
    refine endPu rfl (Fz.le_refl F) ?_ rfl
    show outE (.ret (.tup [.va (.int .i64 (sel κ l).length), .va (.int .i64 (mn (sel κ l))), .va (.int .i64 (mx (sel κ l)))])) (.ret (.tup [.va (.int .i64 (sel κ (l.take k)).length), .va (.int .i64 (mn (sel κ (l.take k)))), .va (.int .i64 (mx (sel κ (l.take k))))]))
    rw [List.take_of_length_le (by omega)]; exact outE_refl _
end Go.Proofs.YtblllibdahkgfaaGreatDoor

namespace Go.Proofs.YtblllibdahkgfaaGreatDoor
open Go Sx
set_option maxRecDepth 100000

theorem wadd (a b : Nat) (h : a < 1000000) (h' : b < 1000000) : IntKind.i64.wrap ((a : Int) + (b : Int)) = ((a + b : Nat) : Int) := by rw [wrap64_id (by omega) (by omega)]; omega
theorem taken {α : Type} {f : α → List SA} {L : List (List SA)} {e : Nat} {l : List α} (h : (L.drop e).take l.length = l.map f) : ((L.drop e).take l.length).length = l.length := by rw [h]; simp

/-- A frozen slice of slices of steps. -/
abbrev StepsL (F : Fz) (sl : SA) (ls : List (List Stp)) : Prop := SlR F 22 1 (fun y x => ∃ a, y = [a] ∧ StepsAt F a x) sl ls

set_option maxHeartbeats 4000000 in
theorem concat_fn (F : Fz) (sl : SA) (ls : List (List Stp)) (hs : StepsL F sl ls) (hn : ls.length < 1000) (hl : ls.flatten.length < 1000000) :
    Fo Tryz.prog F 60 [.va sl] (fun o F' => ∃ sc, o = .ret (.va sc) ∧ StepsAt F' sc ls.flatten) := by
  obtain ⟨sn, sb, se, scp, sL, sr, rfl, s1, s2, s3, s4⟩ := hs
  refine fo_of hΘ Tryz.func60 rfl (by decide) _ _ rfl rfl rfl ?_
  conv => whnf
  refine loop_at hΘ (X := { k : Nat // k ≤ ls.length }) (fun k => [(3, .va (.int .i64 (ls.take k.1).flatten.length)), (11, .va (.int .i64 k.1))]) [5, 12, 13, 14, 15, 16, 17, 18, 19, 20, 21, 22] (fz fun _ => F) 1 (fun k => ls.length - k.1) ⟨0, by simp⟩
    (fun hH hT => le0 hH hT rfl (Fz.le_refl F) rfl ⟨rfl, rfl, trivial⟩) ?_
  rintro ⟨k, hk⟩ hH hT
  conv => whnf
  refine br (fun g => ?_) (fun g => ?_)
  · have g : k < ls.length := by simpa using g
    conv => whnf
    have hObt := SlR.at s4 g
    obtain ⟨y, hy, a, rfl, ha⟩ := hObt
    obtain ⟨han, hab, hae, hac, haL, har, rfl, ha1, ha2, ha3, ha4⟩ := ha
    have f1 := take_flatten_le ls k
    have f2 := take_flatten_le ls (k + 1)
    rw [take_flatten_succ g, List.length_append] at f2
    refine ⟨SlR.lt s1 g, ⟨by simp, by simpa using g⟩, ?_⟩
    conv => whnf
    refine ⟨_, s2 (SlR.lt s1 g), ?_⟩
    conv => whnf
    refine ⟨_, hy, ?_⟩
    conv => whnf
    have e1 := wadd (ls.take k).flatten.length ls[k].length (by omega) (by omega)
    refine br (fun g => absurd g ?_) (fun _ => ?_)
    · rw [e1]; simp; omega
    conv => whnf
    refine ⟨⟨k + 1, by omega⟩, by show ls.length - (k + 1) < ls.length - k; omega, lr0 hH hT rfl (Fz.le_refl F) rfl ⟨ei ?_, cnt (by omega), trivial⟩⟩
    rw [take_flatten_succ g, List.length_append]; exact e1.symm
  · have g : k = ls.length := by have : ¬ k < ls.length := by simpa using g
                                 omega
    have ht : (ls.take k).flatten = ls.flatten := by rw [List.take_of_length_le (by omega)]
    have hlen : (ls.take k).flatten.length = ls.flatten.length := by rw [ht]
    have e2 : IntKind.i64.wrap (((ls.take k).flatten.length : Int) - IntKind.i64.wrap (0 - 0)) = ls.flatten.length := by
      rw [wrap64_id (n := 0 - 0) (by omega) (by omega), hlen, wrap64_id (by omega) (by omega)]; omega
    conv => whnf
    refine call_of hΘ Tryz.func92 rfl (by decide) _ _ rfl rfl rfl (sx_sound hΘ _ _ _ ?_)
    conv => whnf
    refine br (fun g => absurd g (by simp)) (fun _ => ?_)
    conv => whnf
    refine br (fun g => ?_) (fun g => ?_)
    · have gp : 0 < ls.flatten.length := by rw [e2] at g; simpa using g
      conv => whnf
      refine ⟨⟨by decide, by decide⟩, ?_⟩
      conv => whnf
      refine ⟨rfl, rfl, by rw [e2]; omega, by rw [e2]; show (ls.flatten.length : Int) * (16 : Int) ≤ 140737488355328; omega, fun c hc => ?_⟩
      conv => whnf
      refine ⟨⟨by decide, by simp⟩, ?_⟩
      conv => whnf
      refine loop_at hΘ (X := { x : Nat × Nat // x.1 ≤ ls.length }) (fun x => [(6, .va (.slice false 2 0 0 2 (ls.take x.1.1).flatten.length x.1.2)), (27, .va (.int .i64 x.1.1))]) [8, 28, 29, 30, 31, 32, 33, 34]
        (fun x => [(0, .frz F), (1, .gone), (2, .one (.arr 50 2 ((ls.take x.1.1).flatten.map enc) x.1.2))]) 3 (fun x => ls.length - x.1.1) ⟨(0, c), by simp⟩
        (fun hH hT => leI [(2, 1)] hH hT rfl ⟨trivial, trivial, encB_below _ _ 0, trivial⟩ ⟨⟨rfl, rfl, rfl, .inr ⟨rfl, rfl, by split <;> rfl, rfl⟩⟩, rfl, trivial⟩ ⟨Fz.le_refl F, rfl, trivial⟩) ?_
      rintro ⟨⟨k, c⟩, hk⟩ hH hT
      replace hk : k ≤ ls.length := hk
      conv => whnf
      refine br (fun g => ?_) (fun g => ?_)
      · have g : k < ls.length := by simpa using g
        conv => whnf
        have hObt := SlR.at s4 g
        obtain ⟨y, hy, a, rfl, ha⟩ := hObt
        obtain ⟨han, hab, hae, hac, haL, har, rfl, ha1, ha2, ha3, ha4⟩ := ha
        refine ⟨SlR.lt s1 g, ⟨by simp, by simpa using g⟩, ?_⟩
        conv => whnf
        refine ⟨_, s2 (SlR.lt s1 g), ?_⟩
        conv => whnf
        refine ⟨_, hy, ?_⟩
        have f1 := take_flatten_le ls k
        have f2 := take_flatten_le ls (k + 1)
        have f3 := take_flatten_succ g
        rw [f3, List.length_append] at f2
        have step : ∀ (X : List (List SA)) (c' : Nat), X = ls[k].map enc → (SB.arr 50 2 ((ls.take k).flatten.map enc ++ X) c') = SB.ren (sig [(2, 3)]) (.arr 50 2 ((ls.take (k + 1)).flatten.map enc) c') := by
          intro X c' hX
          rw [encB_ren, f3, List.map_append, hX]
        rcases han with _ | _
        · conv => whnf
          refine ⟨_, _, _, ha2 rfl, ha3, _, ha4, ?_⟩
          conv => whnf
          refine ⟨rfl, (List.length_map _).symm, rfl, by simp only [List.length_map]; show _ * 16 ≤ _; omega, fun c' hc' => ?_⟩
          conv => whnf
          refine ⟨⟨(k + 1, c'), by show k + 1 ≤ ls.length; omega⟩, by show ls.length - (k + 1) < ls.length - k; omega, leR [(2, 3)] hH hT rfl ⟨trivial, trivial, encB_below _ _ 0, trivial⟩ ⟨⟨rfl, ?_, rfl, .inr ⟨rfl, rfl, rfl, rfl⟩⟩, cnt (by omega), trivial⟩ ⟨Fz.le_refl F, step _ _ rfl, trivial⟩⟩
          show (ls.take (k + 1)).flatten.length = (ls.take k).flatten.length + (ls[k].map enc).length
          rw [List.length_map, f3, List.length_append]
        · have hnil : ls[k] = [] := ha1 rfl
          conv => whnf
          refine ⟨by rw [hnil]; rfl, ?_⟩
          conv => whnf
          refine ⟨rfl, (List.length_map _).symm, rfl, by show _ * 16 ≤ _; simp only [List.length_nil, Nat.add_zero]; omega, fun c' hc' => ?_⟩
          conv => whnf
          refine ⟨⟨(k + 1, c'), by show k + 1 ≤ ls.length; omega⟩, by show ls.length - (k + 1) < ls.length - k; omega, leR [(2, 3)] hH hT rfl ⟨trivial, trivial, encB_below _ _ 0, trivial⟩ ⟨⟨rfl, ?_, rfl, .inr ⟨rfl, rfl, rfl, rfl⟩⟩, cnt (by omega), trivial⟩ ⟨Fz.le_refl F, step _ _ (by rw [hnil]; rfl), trivial⟩⟩
          show (ls.take (k + 1)).flatten.length = (ls.take k).flatten.length + 0
          rw [f3, List.length_append, hnil]; rfl
      · have hk' : k = ls.length := by have : ¬ k < ls.length := by simpa using g
                                       omega
        have ht : (ls.take k).flatten = ls.flatten := by rw [List.take_of_length_le (by omega)]
        conv => whnf
        refine freezeE 2 (fun _ => .arr 50 2 (ls.flatten.map enc) c) rfl rfl rfl (fun _ _ => ?_) (fun _ _ => encB_below _ _ _) ?_
        · refine (encB_ren _ (ls.take k).flatten c).trans ?_
          rw [ht]
        intro b F' hle hb
        refine endFo (.ret (.va (.slice false 0 (b 0) 0 2 ls.flatten.length c))) F' rfl hle (Fz.le_refl F') ⟨_, rfl, Sl.new (hb 0 rfl)⟩ ?_ rfl
        exact ⟨rfl, by show ls.flatten.length = (ls.take k).flatten.length; rw [ht], rfl, .inr ⟨rfl, rfl, rfl, rfl⟩⟩
    · have gp : ls.flatten = [] := List.length_eq_zero_iff.1 (by rw [e2] at g; simp only [decide_eq_false_iff_not] at g; omega)
      conv => whnf
      refine loop_at hΘ (X := { k : Nat // k ≤ ls.length }) (fun k => [(6, .va .nilsl), (27, .va (.int .i64 k.1))]) [8, 28, 29, 30, 31, 32, 33, 34] (fz fun _ => F) 1 (fun k => ls.length - k.1) ⟨0, by simp⟩
        (fun hH hT => le0 hH hT rfl (Fz.le_refl F) rfl ⟨rfl, rfl, trivial⟩) ?_
      rintro ⟨k, hk⟩ hH hT
      conv => whnf
      refine br (fun g => ?_) (fun g => ?_)
      · have g : k < ls.length := by simpa using g
        have hnil : ls[k] = [] := by
          have := List.flatten_eq_nil_iff.1 gp ls[k] (List.getElem_mem g); exact this
        conv => whnf
        have hObt := SlR.at s4 g
        obtain ⟨y, hy, a, rfl, ha⟩ := hObt
        obtain ⟨han, hab, hae, hac, haL, har, rfl, ha1, ha2, ha3, ha4⟩ := ha
        refine ⟨SlR.lt s1 g, ⟨by simp, by simpa using g⟩, ?_⟩
        conv => whnf
        refine ⟨_, s2 (SlR.lt s1 g), ?_⟩
        conv => whnf
        refine ⟨_, hy, ?_⟩
        rcases han with _ | _
        · conv => whnf
          refine ⟨_, _, _, ha2 rfl, ha3, [], by rw [hnil]; rfl, ?_⟩
          conv => whnf
          refine ⟨rfl, rfl, ?_⟩
          conv => whnf
          exact ⟨⟨k + 1, by omega⟩, by show ls.length - (k + 1) < ls.length - k; omega, lr0 hH hT rfl (Fz.le_refl F) rfl ⟨rfl, cnt (by omega), trivial⟩⟩
        · conv => whnf
          refine ⟨by rw [hnil]; rfl, ?_⟩
          conv => whnf
          refine ⟨rfl, rfl, ?_⟩
          conv => whnf
          exact ⟨⟨k + 1, by omega⟩, by show ls.length - (k + 1) < ls.length - k; omega, lr0 hH hT rfl (Fz.le_refl F) rfl ⟨rfl, cnt (by omega), trivial⟩⟩
      · conv => whnf
        exact endFo (.ret (.va (.slice true 0 0 0 2 0 0))) F rfl (Fz.le_refl F) (Fz.le_refl F) ⟨_, rfl, by rw [gp]; exact Sl.nil⟩ ⟨rfl, rfl, rfl⟩ rfl
end Go.Proofs.YtblllibdahkgfaaGreatDoor
