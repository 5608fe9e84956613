import Derived.Test.YtblllibdahkgfaaGreatDoorK30
import Derived.Lib.Builder
import Derived.Laws.Externs
import Derived.Test.YtblllibdahkgfaaGreatDoorK19
import Derived.Test.YtblllibdahkgfaaGreatDoorK22

namespace Go.Proofs.YtblllibdahkgfaaGreatDoor
open Go Go.RowKit
set_option maxHeartbeats 1000000 in
set_option maxRecDepth 100000 in
/-- copyCheck at a writer that has been used: nothing turns. -/
theorem cc_used (b : Nat) (w : World) (h0 : w.cell? ⟨b, 0, none⟩ = some (.pointer (some ⟨b, 0, none⟩))) :
    Calls Tryz.prog 157 #[.pointer (some ⟨b, 0, none⟩)] w fun e w' => e = .returned (.tuple #[]) ∧ w' = w := by
  obtain ⟨j, hj, _⟩ := Option.map_eq_some_iff.1 (show (Tryz.prog.info? 140).map (·.size) = some 2 by kernel_rfl)
  go_enter Tryz.func157, Tryz.ntmps157
  go_wp2
  rw [Lib.run_neq_ptr_same w _ Tryz.underlying138 hj]
  go_wp2
  go_end0
  exact ⟨rfl, rfl⟩
set_option maxHeartbeats 1000000 in
set_option maxRecDepth 100000 in
/-- copyCheck at a fresh writer: it stores its own address. -/
theorem cc_fresh (b : Nat) (w : World) (h0 : w.cell? ⟨b, 0, none⟩ = some (.pointer none)) (hsh : w.shape? b = some (142, 2)) (hfz : w.frozen? ⟨b, 0, none⟩ = false) :
    Calls Tryz.prog 157 #[.pointer (some ⟨b, 0, none⟩)] w fun e w' => e = .returned (.tuple #[]) ∧ w' = w.setCell ⟨b, 0, none⟩ (.pointer (some ⟨b, 0, none⟩)) := by
  obtain ⟨j, hj, hjs⟩ := Option.map_eq_some_iff.1 (show (Tryz.prog.info? 140).map (·.size) = some 2 by kernel_rfl)
  go_enter Tryz.func157, Tryz.ntmps157
  go_wp2
  rw [Lib.run_to_unsafe w ⟨b, 0, none⟩ Tryz.underlying138 Tryz.underlying210 hj (by rw [hjs]; decide) hsh (Nat.zero_lt_succ 1)]
  simp only [Result.andThen]
  rw [Oper.upon_value]
  go_wp2
  rw [run_callFunc_extern Tryz.func175 (by kernel_rfl) (by kernel_rfl) (by kernel_rfl) (e := Extern.AbiNoEscape.same) (by kernel_rfl)]
  rw [Lib.run_noEscape]
  simp only [Result.andThen]
  rw [Oper.upon_value]
  go_wp2
  rw [Lib.run_from_unsafe w ⟨b, 0, none⟩ Tryz.underlying210 Tryz.underlying138 hj hsh (by kernel_rfl)]
  simp only [Result.andThen]
  rw [Oper.upon_value]
  go_wp2
  go_end0
  exact ⟨rfl, rfl⟩
end Go.Proofs.YtblllibdahkgfaaGreatDoor

namespace Go.Proofs.YtblllibdahkgfaaGreatDoor
open Go Go.RowKit Sx
/-- copyCheck at a fresh writer. -/
theorem cc_callF {h : Hp} {nx : Nat} {K : Out → Hp → Nat → Prop} {i : Nat} {bf : SA} (he : lget h i = some (.one (.cells 142 [.nilptr, bf])))
    (hk : K (.ret (.tup [])) (lput h i (.one (.cells 142 [.ptr ⟨i, 0, 0, 0, 0⟩, bf]))) nx) : CallWP Tryz.prog 157 [.va (.ptr ⟨i, 0, 0, 0, 0⟩)] h nx K := by
  unfold CallWP
  intro C ρ w vs S hr hb
  refine ⟨Sx.enters_of Tryz.func157 rfl (by decide), ?_⟩
  match vs, hr with
  | [v], hr =>
    have hv : v = .pointer (some ⟨ρ i 0, 0, none⟩) := by
      have h1 := hr.1
      simpa [SV.rel, SA.den, Pl.addr] using h1
    subst hv
    have has : (Ent.one (.cells 142 [.nilptr, bf])).has 0 := rfl
    obtain ⟨o, ho, hok⟩ := S.blk i _ he 0 has
    have hwf := S.wf i _ he 0 has
    have hlt := S.lt i _ he
    have hrow : RowAt w (ρ i 0) 142 ([SA.nilptr, bf].map (SA.den ρ)) := ⟨o, ho, hok⟩
    have c0 : w.cell? ⟨ρ i 0, 0, none⟩ = some (.pointer none) := by rw [hrow.cell]; rfl
    have hfz := hrow.free 0 (by simp)
    obtain ⟨fr, hfr, rfl⟩ := hok
    have hsh : w.shape? (ρ i 0) = some (142, 2) := by simp [World.shape?, ho]
    refine (cc_fresh (ρ i 0) w c0 hsh hfz).mono ?_
    rintro e w' ⟨rfl, rfl⟩
    rw [setCell_eq_setRow w (ρ i 0) 0 _ 142 fr _ ho]
    refine ⟨.ret (.tup []), _, nx, ρ, hk, ⟨_, rfl, rfl⟩, ?_, fun _ _ => rfl, Nat.le_refl _, ?_⟩
    · exact S.upd 0 he rfl rfl has (fun _ => Iff.rfl) _ (fun k' hk' h2 => absurd (show k' = 0 from h2) hk') ⟨fr, hfr, rfl⟩ (fun a ha => by
        simp only [List.mem_cons, List.not_mem_nil, or_false] at ha
        rcases ha with rfl | rfl
        · exact hlt
        · exact hwf a (by simp)) rfl rfl rfl (by simp) (setRow_heap w _ _ _ 142 _ ho) (fun b hb' => setRow_other' w _ b _ hb')
    · intro c hc
      cases hc
/-- copyCheck at a writer that has been used. -/
theorem cc_callU {h : Hp} {nx : Nat} {K : Out → Hp → Nat → Prop} {i : Nat} {bf : SA} (he : lget h i = some (.one (.cells 142 [.ptr ⟨i, 0, 0, 0, 0⟩, bf])))
    (hk : K (.ret (.tup [])) h nx) : CallWP Tryz.prog 157 [.va (.ptr ⟨i, 0, 0, 0, 0⟩)] h nx K := by
  unfold CallWP
  intro C ρ w vs S hr hb
  refine ⟨Sx.enters_of Tryz.func157 rfl (by decide), ?_⟩
  match vs, hr with
  | [v], hr =>
    have hv : v = .pointer (some ⟨ρ i 0, 0, none⟩) := by
      have h1 := hr.1
      simpa [SV.rel, SA.den, Pl.addr] using h1
    subst hv
    have has : (Ent.one (.cells 142 [.ptr ⟨i, 0, 0, 0, 0⟩, bf])).has 0 := rfl
    obtain ⟨o, ho, hok⟩ := S.blk i _ he 0 has
    have hrow : RowAt w (ρ i 0) 142 ([SA.ptr ⟨i, 0, 0, 0, 0⟩, bf].map (SA.den ρ)) := ⟨o, ho, hok⟩
    have c0 : w.cell? ⟨ρ i 0, 0, none⟩ = some (.pointer (some ⟨ρ i 0, 0, none⟩)) := by rw [hrow.cell]; simp [SA.den, Pl.addr]
    refine (cc_used (ρ i 0) w c0).mono ?_
    rintro e w' ⟨rfl, rfl⟩
    exact ⟨.ret (.tup []), h, nx, ρ, hk, ⟨_, rfl, rfl⟩, S, fun _ _ => rfl, Nat.le_refl _, fun c hc => by cases hc⟩
end Go.Proofs.YtblllibdahkgfaaGreatDoor

namespace Go.Proofs.YtblllibdahkgfaaGreatDoor
open Go Sx
set_option maxRecDepth 100000
def wrA (u : Bool) (i : Nat) : SA := match u with
  | false => .nilptr
  | true => .ptr ⟨i, 0, 0, 0, 0⟩
def wrC (u : Bool) (i j c : Nat) (l : List UInt8) : Ent := .one (.cells 142 [wrA u i, gA 1 j c l])
theorem wrC_below {n i j : Nat} (u : Bool) (hi : i < n) (hj : j < n) (c : Nat) (l : List UInt8) : (wrC u i j c l).below n := by
  cases u <;> intro a ha <;> simp only [List.mem_cons, List.not_mem_nil, or_false] at ha <;> rcases ha with rfl | rfl
  · trivial
  · cases l with
    | nil => trivial
    | cons x r => exact .inr hj
  · exact hi
  · cases l with
    | nil => trivial
    | cons x r => exact .inr hj
theorem wrC_ren {μ : Mu} {u : Bool} {i i' j j' : Nat} (hi : μ i 0 = (i', 0)) (hj : μ j 0 = (j', 0)) (c : Nat) (l : List UInt8) : (wrC u i j c l).ren μ = wrC u i' j' c l := by
  cases u
  · show Ent.one (.cells _ [.nilptr, (gA 1 j c l).ren μ]) = _
    rw [gA_ren hj]; rfl
  · show Ent.one (.cells _ [.ptr ⟨(μ i 0).1, (μ i 0).2 + 0, 0, 0, 0⟩, (gA 1 j c l).ren μ]) = _
    rw [gA_ren hj, hi]; rfl
theorem wrC_sub {μ : Mu} {u : Bool} {i i' j j' c : Nat} {l : List UInt8} (hi : μ i 0 = (i', 0)) (hj : μ j 0 = (j', 0)) : subE (some (wrC u i' j' c l)) ((wrC u i j c l).ren μ) := by
  rw [wrC_ren hi hj]; cases u <;> exact rfl
theorem wrC_new {μ : Mu} {i i' j j' c n : Nat} {x : UInt8} {l : List UInt8} (hi : μ i 0 = (i', 0)) (hj : μ j 0 = (j', 0)) (hn : n = l.length + 1) : subE (some (.one (.cells 142 [.ptr ⟨i', 0, 0, 0, 0⟩, .slice false j' 0 0 1 n c]))) ((wrC true i j c (x :: l)).ren μ) := by
  subst hn; rw [wrC_ren hi hj]; exact rfl
abbrev wrN (c : Nat) (l : List UInt8) : List (Nat × Ent) := [(1, wrC true 1 3 c l), (2, .gone), (3, gE 5 1 encB c l)]
theorem wrN_below (c : Nat) (l : List UInt8) : bH 4 (wrN c l) := ⟨wrC_below _ (by omega) (by omega) _ _, trivial, gE_below encB_plain _ _ _ _ _, trivial⟩
abbrev wrH (u : Bool) (c : Nat) (l : List UInt8) : List (Nat × Ent) := [(1, wrC u 1 2 c l), (2, gE 5 1 encB c l)]
set_option maxHeartbeats 4000000 in
theorem wstr_fn (F : Fz) (u : Bool) (s out : List UInt8) (c : Nat) (hu : u = false → out = []) (hs : s.length ≤ 1000000000000) (ho : out.length ≤ 1000000000000) :
    Ct Tryz.prog 132 [.va (.ptr ⟨1, 0, 0, 0, 0⟩), .va (.str s)] F (wrH u c out) 3
      (fun o F0 h0 n0 => F = F0 ∧ n0 = 4 ∧ o = .ret (.tup [.va (.int .i64 s.length), .va .nilif]) ∧ ∃ c', h0 = wrN c' (out ++ s)) := by
  rcases u with _ | _
  · obtain rfl := hu rfl
    rcases s with _ | ⟨b, t⟩
    · refine ct_of hΘ Tryz.func132 rfl (by decide) _ _ rfl rfl rfl ?_
      conv => whnf
      refine cc_callF rfl ?_
      conv => whnf
      refine ⟨rfl, rfl, ?_⟩
      conv => whnf
      exact clean [(3, 2)] (.ret (.tup [.va (.int .i64 0), .va .nilif])) F (wrN c []) 4 ⟨Fz.le_refl F, rfl, rfl, rfl, c, rfl⟩ (outE_refl _) rfl rfl (Out.bB_ok (o := .ret (.tup [.va (.int .i64 0), .va .nilif])) rfl) (wrN_below _ _) ⟨Fz.le_refl F, rfl, sub_gE encB_plain (gE_self _ _ _ _), trivial⟩
    · refine ct_of hΘ Tryz.func132 rfl (by decide) _ _ rfl rfl rfl ?_
      conv => whnf
      refine cc_callF rfl ?_
      conv => whnf
      refine ⟨rfl, rfl, ?_⟩
      conv => whnf
      refine ⟨by show ((t.map fun b : UInt8 => [SA.int .u8 b.toNat]).length + 1) * 1 ≤ 140737488355328; rw [List.length_map]; simp at hs; omega, fun c' hc => ?_⟩
      clear hc
      conv => whnf
      exact clean [(3, 3)] (.ret (.tup [.va (.int .i64 (b :: t).length), .va .nilif])) F (wrN c' (b :: t)) 4 ⟨Fz.le_refl F, rfl, rfl, rfl, c', rfl⟩ (outE_refl _) rfl rfl (Out.bB_ok (o := .ret (.tup [.va (.int .i64 (b :: t).length), .va .nilif])) rfl) (wrN_below _ _) ⟨Fz.le_refl F, wrC_new (i := 1) (i' := 1) (j := 3) (j' := 3) (by rfl) (by rfl) (by simp), sub_gE encB_plain (gE_one _ (by rfl)), trivial⟩
  · rcases out with _ | ⟨x, r⟩
    · rcases s with _ | ⟨b, t⟩
      · refine ct_of hΘ Tryz.func132 rfl (by decide) _ _ rfl rfl rfl ?_
        conv => whnf
        refine cc_callU rfl ?_
        conv => whnf
        refine ⟨rfl, rfl, ?_⟩
        conv => whnf
        exact clean [(3, 2)] (.ret (.tup [.va (.int .i64 0), .va .nilif])) F (wrN c []) 4 ⟨Fz.le_refl F, rfl, rfl, rfl, c, rfl⟩ (outE_refl _) rfl rfl (Out.bB_ok (o := .ret (.tup [.va (.int .i64 0), .va .nilif])) rfl) (wrN_below _ _) ⟨Fz.le_refl F, rfl, sub_gE encB_plain (gE_self _ _ _ _), trivial⟩
      · refine ct_of hΘ Tryz.func132 rfl (by decide) _ _ rfl rfl rfl ?_
        conv => whnf
        refine cc_callU rfl ?_
        conv => whnf
        refine ⟨rfl, rfl, ?_⟩
        conv => whnf
        refine ⟨by show ((t.map fun b : UInt8 => [SA.int .u8 b.toNat]).length + 1) * 1 ≤ 140737488355328; rw [List.length_map]; simp at hs; omega, fun c' hc => ?_⟩
        clear hc
        conv => whnf
        exact clean [(3, 3)] (.ret (.tup [.va (.int .i64 (b :: t).length), .va .nilif])) F (wrN c' (b :: t)) 4 ⟨Fz.le_refl F, rfl, rfl, rfl, c', rfl⟩ (outE_refl _) rfl rfl (Out.bB_ok (o := .ret (.tup [.va (.int .i64 (b :: t).length), .va .nilif])) rfl) (wrN_below _ _) ⟨Fz.le_refl F, wrC_new (i := 1) (i' := 1) (j := 3) (j' := 3) (by rfl) (by rfl) (by simp), sub_gE encB_plain (gE_one _ (by rfl)), trivial⟩
    · refine ct_of hΘ Tryz.func132 rfl (by decide) _ _ rfl rfl rfl ?_
      conv => whnf
      refine cc_callU rfl ?_
      conv => whnf
      refine ⟨rfl, rfl, by simp, rfl, by rw [List.length_map]; show (r.length + 1 + s.length) * 1 ≤ 140737488355328; simp at ho; omega, fun c' hc => ?_⟩
      clear hc
      conv => whnf
      exact clean [(3, 3)] (.ret (.tup [.va (.int .i64 s.length), .va .nilif])) F (wrN c' (x :: (r ++ s))) 4 ⟨Fz.le_refl F, rfl, rfl, rfl, c', rfl⟩ (outE_refl _) rfl rfl (Out.bB_ok (o := .ret (.tup [.va (.int .i64 s.length), .va .nilif])) rfl) (wrN_below _ _) ⟨Fz.le_refl F, wrC_new (i := 1) (i' := 1) (j := 3) (j' := 3) (by rfl) (by rfl) (by rw [List.length_map, List.length_append]; omega), sub_gE encB_plain (gE_one _ (by show ((x :: r).map encB) ++ (s.map encB) = (x :: (r ++ s)).map encB; simp)), trivial⟩
end Go.Proofs.YtblllibdahkgfaaGreatDoor

namespace Go.Proofs.YtblllibdahkgfaaGreatDoor
open Go Sx
set_option maxRecDepth 100000
theorem wrC_sub2 {τ μ : Mu} {u : Bool} {a i b j k i' j' c : Nat} {l : List UInt8} (h1 : τ a 0 = (i', 0)) (h2 : μ i 0 = (i', 0)) (h3 : τ b 0 = (j', 0)) (h4 : μ j 0 = (j', 0)) (hk : k = i) : subE (some ((wrC u a b c l).ren τ)) ((wrC u k j c l).ren μ) := by
  subst hk
  rw [wrC_ren h1 h3, wrC_ren h2 h4]; cases u <;> exact rfl
abbrev wrM (u : Bool) (c : Nat) (l : List UInt8) : List (Nat × Ent) := [(1, wrC u 1 3 c l), (2, .gone), (3, gE 5 1 encB c l)]
theorem wrM_below (u : Bool) (c : Nat) (l : List UInt8) : bH 4 (wrM u c l) := ⟨wrC_below _ (by omega) (by omega) _ _, trivial, gE_below encB_plain _ _ _ _ _, trivial⟩
/-- The writer behind a call. -/
abbrev wrK (F : Fz) (out : List UInt8) : Out → Fz → List (Nat × Ent) → Nat → Prop := fun o F0 h0 n0 => F = F0 ∧ n0 = 4 ∧ o = .ret (.tup []) ∧ ∃ u' c', (u' = false → out = []) ∧ h0 = wrM u' c' out
set_option maxHeartbeats 4000000 in
theorem wtext_fn (hP : PFun) (F : Fz) (u : Bool) (s out : List UInt8) (c : Nat) (hu : u = false → out = []) (hs : s.length ≤ 1000000000) (ho : out.length ≤ 1000000000000) :
    Ct Tryz.prog 115 [.va (.ptr ⟨1, 0, 0, 0, 0⟩), .va (.str s)] F (wrH u c out) 3 (wrK F (out ++ (putSR s).1)) := by
  have hps := wputString_fn hP F s (by omega)
  have hl := putSR_len s
  have ht : ∃ t, (putSR s).1 = t := ⟨_, rfl⟩
  obtain ⟨t, ht⟩ := ht
  rw [ht] at hps hl ⊢
  refine ct_of hΘ Tryz.func115 rfl (by decide) _ _ rfl rfl rfl ?_
  conv => whnf
  refine usePu (hps) rfl (argsE_refl _) rfl ?_
  conv => whnf
  refine use (wstr_fn F u t out c hu (by omega) ho) [(1, 1), (2, 2)] rfl ⟨rfl, rfl, trivial⟩ rfl ⟨wrC_below _ (by omega) (by omega) _ _, gE_below encB_plain _ _ _ _ _, trivial⟩ (by simp [SV.below, SA.below]) ⟨wrC_sub (by rfl) (by rfl), sub_gE encB_plain (gE_self _ _ _ _), trivial⟩ ?_
  rintro _ F' _ _ hle ⟨rfl, rfl, rfl, c1, rfl⟩
  conv => whnf
  exact clean [(3, 3)] (.ret (.tup [])) F (wrM true c1 (out ++ t)) 4 ⟨Fz.le_refl F, rfl, rfl, rfl, true, c1, fun h => absurd h (by simp), rfl⟩ trivial rfl rfl (Out.bB_ok (o := .ret (.tup [])) rfl) (wrM_below _ _ _) ⟨Fz.le_refl F, wrC_sub2 (i' := 1) (j' := 3) (by rfl) (by rfl) (by rfl) (by rfl) rfl, sub_gE2 encB_plain, trivial⟩
set_option maxHeartbeats 8000000 in
theorem wnum_fn (hP : PFun) (F : Fz) (sa : SA) (l : List Int) (u : Bool) (out : List UInt8) (c : Nat) (hu : u = false → out = []) (ha : IntsAt F sa l) (hl : l.length < 1000000) (ho : out.length ≤ 900000000000) :
    Ct Tryz.prog 114 [.va (.ptr ⟨1, 0, 0, 0, 0⟩), .va sa] F (wrH u c out) 3 (wrK F (out ++ numbersS l)) := by
  obtain ⟨han, hab, hae, hac, haL, har, rfl, ha1, ha2, ha3, ha4⟩ := ha
  refine ct_of hΘ Tryz.func114 rfl (by decide) _ _ rfl rfl rfl ?_
  conv => whnf
  refine loop_at hΘ (X := { x : Nat × List UInt8 × Nat × Bool // x.1 ≤ l.length ∧ x.2.1 = out ++ ((l.take x.1).map fun n => (putIR n).1).flatten ∧ (x.2.2.2 = false → x.2.1 = []) }) (fun x => [(10, .va (.int .i64 x.1.1))]) [5, 6, 7, 11, 12, 13, 14, 15, 16, 17, 18, 19, 20, 21, 22, 23, 24]
    (fun x => [(0, .frz F), (1, wrC x.1.2.2.2 1 3 x.1.2.2.1 x.1.2.1), (2, .gone), (3, gE 5 1 encB x.1.2.2.1 x.1.2.1)]) 4 (fun x => l.length - x.1.1) ⟨(0, out, c, u), by simpa using hu⟩
    (fun hH hT => leI [(3, 2)] hH hT rfl ⟨trivial, wrC_below _ (by omega) (by omega) _ _, trivial, gE_below encB_plain _ _ _ _ _, trivial⟩ ⟨rfl, trivial⟩ ⟨Fz.le_refl F, wrC_sub (by rfl) (by rfl), sub_gE encB_plain (gE_self _ _ _ _), trivial⟩) ?_
  rintro ⟨⟨k, ob, cb, ub⟩, hk, hob, hub⟩ hH hT
  replace hk : k ≤ l.length := hk
  replace hob : ob = out ++ ((l.take k).map fun n => (putIR n).1).flatten := hob
  replace hub : ub = false → ob = [] := hub
  have hlen : ob.length ≤ 1000000000000 := by
    have h9 := flat_len putIR_len (l.take k)
    rw [List.length_take] at h9
    rw [hob, List.length_append]; omega
  conv => whnf
  refine br (fun gb => ?_) (fun gb => ?_)
  · have gk : k < l.length := by simpa using gb
    clear gb
    have hps := hP F l[k]
    have ht : ∃ t, (putIR l[k]).1 = t := ⟨_, rfl⟩
    obtain ⟨t, ht⟩ := ht
    have htl := putIR_len l[k]
    have hob2 : ob ++ t = out ++ ((l.take (k + 1)).map fun n => (putIR n).1).flatten := by rw [map_take_succ gk, ht, hob, List.append_assoc]
    rw [ht] at hps htl
    conv => whnf
    refine ⟨Sl.lt ha1 gk, ⟨by simp, by simpa using gk⟩, ?_⟩
    conv => whnf
    refine ⟨_, ha2 (Sl.lt ha1 gk), ?_⟩
    conv => whnf
    refine ⟨_, Sl.at ha4 gk, ?_⟩
    conv => whnf
    refine usePu (hps) rfl (argsE_refl _) rfl ?_
    conv => whnf
    refine use (wstr_fn F ub t ob cb hub (by omega) hlen) [(1, 1), (2, 3)] rfl ⟨rfl, rfl, trivial⟩ rfl ⟨wrC_below _ (by omega) (by omega) _ _, gE_below encB_plain _ _ _ _ _, trivial⟩ (by simp [SV.below, SA.below]) ⟨wrC_sub (by rfl) (by rfl), sub_gE encB_plain (gE_self _ _ _ _), trivial⟩ ?_
    rintro _ F' _ _ hle ⟨rfl, rfl, rfl, c1, rfl⟩
    conv => whnf
    exact ⟨⟨(k + 1, ob ++ t, c1, true), by show k + 1 ≤ l.length; omega, hob2, fun h => absurd h (by simp)⟩, by show l.length - (k + 1) < l.length - k; omega, leR [(3, 4)] hH hT rfl ⟨trivial, wrC_below _ (by omega) (by omega) _ _, trivial, gE_below encB_plain _ _ _ _ _, trivial⟩ ⟨cnt (by omega), trivial⟩ ⟨Fz.le_refl F, wrC_sub2 (i' := 1) (j' := 4) (by rfl) (by rfl) (by rfl) (by rfl) rfl, sub_gE2 encB_plain, trivial⟩⟩
  · have gk : ¬ k < l.length := by simpa using gb
    have hfin : ob = out ++ numbersS l := by rw [hob, numbersS, List.take_of_length_le (by omega)]
    conv => whnf
    exact clean [(3, 3)] (.ret (.tup [])) F (wrM ub cb ob) 4 ⟨Fz.le_refl F, rfl, rfl, rfl, ub, cb, by rw [← hfin]; exact hub, by rw [hfin]⟩ trivial rfl rfl (Out.bB_ok (o := .ret (.tup [])) rfl) (wrM_below _ _ _) ⟨Fz.le_refl F, wrC_sub (by rfl) (by rfl), sub_gE encB_plain (gE_self _ _ _ _), trivial⟩
end Go.Proofs.YtblllibdahkgfaaGreatDoor

namespace Go.Proofs.YtblllibdahkgfaaGreatDoor
open Go Sx
set_option maxRecDepth 100000
abbrev wrL (out : List UInt8) : Out → Fz → List (Nat × Ent) → Nat → Prop := fun o F0 h0 n0 => n0 = 4 ∧ o = .ret (.tup []) ∧ ∃ u' c', (u' = false → out = []) ∧ h0 = wrM u' c' out
def ptext (L : List DLn) : List UInt8 := numbersS [(L.length : Int)] ++ (L.map fun x => (putSR x.1).1).flatten
def pmot (L : List DLn) : List UInt8 := numbersS [(L.length : Int)] ++ (L.map fun x => numbersS [x.2]).flatten
theorem ptext_len : ∀ (L : List DLn), (∀ x ∈ L, x.1.length ≤ 1000000) → ((L.map fun x => (putSR x.1).1).flatten).length ≤ L.length * 2000000
  | [], _ => by simp
  | x :: r, h => by
    have h1 := putSR_len x.1
    have h2 := h x (by simp)
    have h3 := ptext_len r fun y hy => h y (by simp [hy])
    rw [List.map_cons, List.flatten_cons, List.length_append, List.length_cons]
    omega
theorem pmot_len : ∀ (L : List DLn), ((L.map fun x => numbersS [x.2]).flatten).length ≤ L.length * 1000
  | [] => by simp
  | x :: r => by
    have h1 := numbersS_len [x.2]
    have h3 := pmot_len r
    rw [List.length_singleton] at h1
    rw [List.map_cons, List.flatten_cons, List.length_append, List.length_cons]
    omega
set_option maxHeartbeats 16000000 in
theorem cl1_fn (hP : PFun) (F : Fz) (an : Bool) (ab ae ac : Nat) (bn : Bool) (bb be bl bc : Nat) (L : List DLn) (w : Int) (s : List UInt8) (ha : Sl F 168 2 encN (.slice an 0 ab ae 2 L.length ac) L) (hl : L.length ≤ 1000) (hx : ∀ x ∈ L, x.1.length ≤ 1000000) :
    Ct Tryz.prog 113 [.agg (docS (.slice an 0 ab ae 2 L.length ac) (.slice bn 0 bb be 6 bl bc) w s), .va (.ptr ⟨1, 0, 0, 0, 0⟩)] F (wrH false 0 []) 3 (wrL (ptext L)) := by
  obtain ⟨han, hab, hae, hac, haL, har, heq, ha1, ha2, ha3, ha4⟩ := ha
  cases heq
  refine ct_of hΘ Tryz.func113 rfl (by decide) _ _ rfl rfl rfl ?_
  conv => whnf
  refine freezeC 4 (fun _ => .arr 3 1 ([((L.length : Nat) : Int)].map encI) 1) rfl rfl rfl (fun _ _ => rfl) (fun _ _ => SB.bB_ok rfl) ?_
  intro b1 F1 l1 hb1
  refine use (wnum_fn hP F1 _ [((L.length : Nat) : Int)] false [] 0 (fun _ => rfl) (Sl.new (l := [((L.length : Nat) : Int)]) (cap := 1) (hb1 0 rfl)) (by simp) (by simp)) [(1, 1), (2, 2)] rfl ⟨rfl, ⟨rfl, rfl, rfl, .inr ⟨rfl, rfl, rfl, rfl⟩⟩, trivial⟩ rfl ⟨wrC_below _ (by omega) (by omega) _ _, gE_below encB_plain _ _ _ _ _, trivial⟩ (by simp [SV.below, SA.below]) ⟨wrC_sub (by rfl) (by rfl), sub_gE encB_plain (gE_self _ _ _ _), trivial⟩ ?_
  rintro out0 F' h0 n0 hle ⟨rfl, rfl, rfl, u1, c1, hu1, rfl⟩
  conv => whnf
  refine loop_at hΘ (X := { x : Nat × List UInt8 × Nat × Bool // x.1 ≤ L.length ∧ x.2.1 = numbersS [((L.length : Nat) : Int)] ++ ((L.take x.1).map fun x => (putSR x.1).1).flatten ∧ (x.2.2.2 = false → x.2.1 = []) }) (fun x => [(17, .va (.int .i64 x.1.1))]) [5, 18, 19, 20, 21, 22, 23, 24, 25]
    (fun x => [(0, .frz F1), (1, wrC x.1.2.2.2 1 6 x.1.2.2.1 x.1.2.1), (3, docE4 (.slice an 0 ab ae 2 L.length ac) (.slice bn 0 bb be 6 bl bc) w s), (5, .gone), (6, gE 5 1 encB x.1.2.2.1 x.1.2.1)]) 7 (fun x => L.length - x.1.1) ⟨(0, [] ++ numbersS [((L.length : Nat) : Int)], c1, u1), by simpa using hu1⟩
    (fun hH hT => leI [(6, 5)] hH hT rfl ⟨trivial, wrC_below _ (by omega) (by omega) _ _, docE4_below (.inr (by omega)) (.inr (by omega)), trivial, gE_below encB_plain _ _ _ _ _, trivial⟩ ⟨rfl, trivial⟩ ⟨Fz.le_refl F1, wrC_sub2 (i' := 1) (j' := 5) (by rfl) (by rfl) (by rfl) (by rfl) rfl, rfl, sub_gE2 encB_plain, trivial⟩) ?_
  rintro ⟨⟨k, ob, cb, ub⟩, hk, hob, hub⟩ hH hT
  replace hk : k ≤ L.length := hk
  replace hob : ob = numbersS [((L.length : Nat) : Int)] ++ ((L.take k).map fun x => (putSR x.1).1).flatten := hob
  replace hub : ub = false → ob = [] := hub
  have hlen : ob.length ≤ 100000000000 := by
    have h9 := ptext_len (L.take k) (fun x hx0 => hx x (List.mem_of_mem_take hx0))
    have h8 := numbersS_len [((L.length : Nat) : Int)]
    rw [List.length_take] at h9
    rw [List.length_singleton] at h8
    rw [hob, List.length_append]; omega
  by_cases g : k < L.length
  · have hlt : (k : Int) < (L.length : Nat) := by omega
    have hidx : 0 ≤ (k : Int) ∧ (k : Int) < (L.length : Nat) := by omega
    have hex : ∃ t m, L[k] = (t, m) := ⟨_, _, rfl⟩
    obtain ⟨t, m, hLk⟩ := hex
    have hat : haL[ae + (k : Int).toNat]? = some (encN (t, m)) := by rw [← hLk]; exact Sl.at ha4 g
    have htl : t.length ≤ 1000000 := by have := hx _ (List.getElem_mem g); rw [hLk] at this; exact this
    have hob2 : ob ++ (putSR t).1 = numbersS [((L.length : Nat) : Int)] ++ ((L.take (k + 1)).map fun x => (putSR x.1).1).flatten := by rw [map_take_succ g, hLk, hob, List.append_assoc]
    have hk1 : k + 1 ≤ L.length := g
    have hdec : L.length - (k + 1) < L.length - k := by omega
    have hk62 : k < 4611686018427387904 := by omega
    have hblk := l1 _ _ (ha2 (Sl.lt ha1 g))
    conv => whnf
    refine br (fun _ => ?_) (fun g2 => absurd hlt (of_decide_eq_false g2))
    conv => whnf
    refine ⟨Sl.lt ha1 g, hidx, ?_⟩
    conv => whnf
    refine ⟨_, hblk, ?_⟩
    conv => whnf
    refine ⟨_, hat, ?_⟩
    conv => whnf
    refine use (wtext_fn hP F1 ub t ob cb hub (by omega) (by omega)) [(1, 1), (2, 6)] rfl ⟨rfl, rfl, trivial⟩ rfl ⟨wrC_below _ (by omega) (by omega) _ _, gE_below encB_plain _ _ _ _ _, trivial⟩ (by simp [SV.below, SA.below]) ⟨wrC_sub (by rfl) (by rfl), sub_gE encB_plain (gE_self _ _ _ _), trivial⟩ ?_
    rintro out0 F' h0 n0 hle ⟨rfl, rfl, rfl, u2, c2, hu2, rfl⟩
    conv => whnf
    exact ⟨⟨(k + 1, ob ++ (putSR t).1, c2, u2), hk1, hob2, hu2⟩, hdec, leR [(6, 8)] hH hT rfl ⟨trivial, wrC_below _ (by omega) (by omega) _ _, docE4_below (.inr (by omega)) (.inr (by omega)), trivial, gE_below encB_plain _ _ _ _ _, trivial⟩ ⟨cnt hk62, trivial⟩ ⟨Fz.le_refl F1, wrC_sub2 (i' := 1) (j' := 8) (by rfl) (by rfl) (by rfl) (by rfl) rfl, rfl, sub_gE2 encB_plain, trivial⟩⟩
  · have hlt : ¬ (k : Int) < (L.length : Nat) := by omega
    have hfin : ob = ptext L := by rw [hob, ptext, List.take_of_length_le (by omega)]
    conv => whnf
    refine br (fun g2 => absurd (of_decide_eq_true g2) hlt) (fun _ => ?_)
    conv => whnf
    exact clean [(3, 6)] (.ret (.tup [])) F1 (wrM ub cb ob) 4 ⟨l1, rfl, rfl, ub, cb, by rw [← hfin]; exact hub, by rw [hfin]⟩ trivial rfl rfl (Out.bB_ok (o := .ret (.tup [])) rfl) (wrM_below _ _ _) ⟨Fz.le_refl F1, wrC_sub (by rfl) (by rfl), sub_gE encB_plain (gE_self _ _ _ _), trivial⟩
end Go.Proofs.YtblllibdahkgfaaGreatDoor

namespace Go.Proofs.YtblllibdahkgfaaGreatDoor
open Go Sx
set_option maxRecDepth 100000
set_option maxHeartbeats 16000000 in
theorem cl2_fn (hP : PFun) (F : Fz) (an : Bool) (ab ae ac : Nat) (bn : Bool) (bb be bl bc : Nat) (L : List DLn) (w : Int) (s : List UInt8) (ha : Sl F 168 2 encN (.slice an 0 ab ae 2 L.length ac) L) (hl : L.length ≤ 1000) :
    Ct Tryz.prog 116 [.agg (docS (.slice an 0 ab ae 2 L.length ac) (.slice bn 0 bb be 6 bl bc) w s), .va (.ptr ⟨1, 0, 0, 0, 0⟩)] F (wrH false 0 []) 3 (wrL (pmot L)) := by
  obtain ⟨han, hab, hae, hac, haL, har, heq, ha1, ha2, ha3, ha4⟩ := ha
  cases heq
  refine ct_of hΘ Tryz.func116 rfl (by decide) _ _ rfl rfl rfl ?_
  conv => whnf
  refine freezeC 4 (fun _ => .arr 3 1 ([((L.length : Nat) : Int)].map encI) 1) rfl rfl rfl (fun _ _ => rfl) (fun _ _ => SB.bB_ok rfl) ?_
  intro b1 F1 l1 hb1
  refine use (wnum_fn hP F1 _ [((L.length : Nat) : Int)] false [] 0 (fun _ => rfl) (Sl.new (l := [((L.length : Nat) : Int)]) (cap := 1) (hb1 0 rfl)) (by simp) (by simp)) [(1, 1), (2, 2)] rfl ⟨rfl, ⟨rfl, rfl, rfl, .inr ⟨rfl, rfl, rfl, rfl⟩⟩, trivial⟩ rfl ⟨wrC_below _ (by omega) (by omega) _ _, gE_below encB_plain _ _ _ _ _, trivial⟩ (by simp [SV.below, SA.below]) ⟨wrC_sub (by rfl) (by rfl), sub_gE encB_plain (gE_self _ _ _ _), trivial⟩ ?_
  rintro out0 F' h0 n0 hle ⟨rfl, rfl, rfl, u1, c1, hu1, rfl⟩
  conv => whnf
  refine loop_at hΘ (X := { x : Nat × List UInt8 × Nat × Bool × Fz // Fz.le F x.2.2.2.2 ∧ x.1 ≤ L.length ∧ x.2.1 = numbersS [((L.length : Nat) : Int)] ++ ((L.take x.1).map fun x => numbersS [x.2]).flatten ∧ (x.2.2.2.1 = false → x.2.1 = []) }) (fun x => [(17, .va (.int .i64 x.1.1))]) [5, 18, 19, 20, 21, 22, 23, 24, 25, 26]
    (fun x => [(0, .frz x.1.2.2.2.2), (1, wrC x.1.2.2.2.1 1 6 x.1.2.2.1 x.1.2.1), (3, docE4 (.slice an 0 ab ae 2 L.length ac) (.slice bn 0 bb be 6 bl bc) w s), (5, .gone), (6, gE 5 1 encB x.1.2.2.1 x.1.2.1)]) 7 (fun x => L.length - x.1.1) ⟨(0, [] ++ numbersS [((L.length : Nat) : Int)], c1, u1, F1), l1, by simpa using hu1⟩
    (fun hH hT => leI [(6, 5)] hH hT rfl ⟨trivial, wrC_below _ (by omega) (by omega) _ _, docE4_below (.inr (by omega)) (.inr (by omega)), trivial, gE_below encB_plain _ _ _ _ _, trivial⟩ ⟨rfl, trivial⟩ ⟨Fz.le_refl F1, wrC_sub2 (i' := 1) (j' := 5) (by rfl) (by rfl) (by rfl) (by rfl) rfl, rfl, sub_gE2 encB_plain, trivial⟩) ?_
  rintro ⟨⟨k, ob, cb, ub, G⟩, hG, hk, hob, hub⟩ hH hT
  replace hG : Fz.le F G := hG
  replace hk : k ≤ L.length := hk
  replace hob : ob = numbersS [((L.length : Nat) : Int)] ++ ((L.take k).map fun x => numbersS [x.2]).flatten := hob
  replace hub : ub = false → ob = [] := hub
  have hlen : ob.length ≤ 100000000000 := by
    have h9 := pmot_len (L.take k)
    have h8 := numbersS_len [((L.length : Nat) : Int)]
    rw [List.length_take] at h9
    rw [List.length_singleton] at h8
    rw [hob, List.length_append]; omega
  by_cases g : k < L.length
  · have hlt : (k : Int) < (L.length : Nat) := by omega
    have hidx : 0 ≤ (k : Int) ∧ (k : Int) < (L.length : Nat) := by omega
    have hex : ∃ t m, L[k] = (t, m) := ⟨_, _, rfl⟩
    obtain ⟨t, m, hLk⟩ := hex
    have hat : haL[ae + (k : Int).toNat]? = some (encN (t, m)) := by rw [← hLk]; exact Sl.at ha4 g
    have hob2 : ob ++ numbersS [m] = numbersS [((L.length : Nat) : Int)] ++ ((L.take (k + 1)).map fun x => numbersS [x.2]).flatten := by rw [map_take_succ g, hLk, hob, List.append_assoc]
    have hk1 : k + 1 ≤ L.length := g
    have hdec : L.length - (k + 1) < L.length - k := by omega
    have hk62 : k < 4611686018427387904 := by omega
    have hblk := hG _ _ (ha2 (Sl.lt ha1 g))
    conv => whnf
    refine br (fun _ => ?_) (fun g2 => absurd hlt (of_decide_eq_false g2))
    conv => whnf
    refine ⟨Sl.lt ha1 g, hidx, ?_⟩
    conv => whnf
    refine ⟨_, hblk, ?_⟩
    conv => whnf
    refine ⟨_, hat, ?_⟩
    conv => whnf
    refine freezeC 8 (fun _ => .arr 3 1 ([m].map encI) 1) rfl rfl rfl (fun _ _ => rfl) (fun _ _ => SB.bB_ok rfl) ?_
    intro b2 F2 l2 hb2
    refine use (wnum_fn hP F2 _ [m] ub ob cb hub (Sl.new (l := [m]) (cap := 1) (hb2 0 rfl)) (by simp) (by omega)) [(1, 1), (2, 6)] rfl ⟨rfl, ⟨rfl, rfl, rfl, .inr ⟨rfl, rfl, rfl, rfl⟩⟩, trivial⟩ rfl ⟨wrC_below _ (by omega) (by omega) _ _, gE_below encB_plain _ _ _ _ _, trivial⟩ (by simp [SV.below, SA.below]) ⟨wrC_sub (by rfl) (by rfl), sub_gE encB_plain (gE_self _ _ _ _), trivial⟩ ?_
    rintro out0 F' h0 n0 hle ⟨rfl, rfl, rfl, u2, c2, hu2, rfl⟩
    conv => whnf
    exact ⟨⟨(k + 1, ob ++ numbersS [m], c2, u2, F2), Fz.le_trans hG l2, hk1, hob2, hu2⟩, hdec, leR [(6, 9)] hH hT rfl ⟨trivial, wrC_below _ (by omega) (by omega) _ _, docE4_below (.inr (by omega)) (.inr (by omega)), trivial, gE_below encB_plain _ _ _ _ _, trivial⟩ ⟨cnt hk62, trivial⟩ ⟨Fz.le_refl F2, wrC_sub2 (i' := 1) (j' := 9) (by rfl) (by rfl) (by rfl) (by rfl) rfl, rfl, sub_gE2 encB_plain, trivial⟩⟩
  · have hlt : ¬ (k : Int) < (L.length : Nat) := by omega
    have hfin : ob = pmot L := by rw [hob, pmot, List.take_of_length_le (by omega)]
    conv => whnf
    refine br (fun g2 => absurd (of_decide_eq_true g2) hlt) (fun _ => ?_)
    conv => whnf
    exact clean [(3, 6)] (.ret (.tup [])) G (wrM ub cb ob) 4 ⟨hG, rfl, rfl, ub, cb, by rw [← hfin]; exact hub, by rw [hfin]⟩ trivial rfl rfl (Out.bB_ok (o := .ret (.tup [])) rfl) (wrM_below _ _ _) ⟨Fz.le_refl G, wrC_sub (by rfl) (by rfl), sub_gE encB_plain (gE_self _ _ _ _), trivial⟩
end Go.Proofs.YtblllibdahkgfaaGreatDoor

namespace Go.Proofs.YtblllibdahkgfaaGreatDoor
open Go Sx
set_option maxRecDepth 100000
set_option maxHeartbeats 16000000 in
theorem cl8_fn (hP : PFun) (F : Fz) (an : Bool) (ab ae al ac : Nat) (bn : Bool) (bb be bl bc : Nat) (w : Int) (s : List UInt8) :
    Ct Tryz.prog 125 [.agg (docS (.slice an 0 ab ae 2 al ac) (.slice bn 0 bb be 6 bl bc) w s), .va (.ptr ⟨1, 0, 0, 0, 0⟩)] F (wrH false 0 []) 3 (wrL (numbersS [((al : Nat) : Int), ((bl : Nat) : Int)])) := by
  refine ct_of hΘ Tryz.func125 rfl (by decide) _ _ rfl rfl rfl ?_
  conv => whnf
  refine freezeC 4 (fun _ => .arr 3 1 ([((al : Nat) : Int), ((bl : Nat) : Int)].map encI) 2) rfl rfl rfl (fun _ _ => rfl) (fun _ _ => SB.bB_ok rfl) ?_
  intro b1 F1 l1 hb1
  refine use (wnum_fn hP F1 _ [((al : Nat) : Int), ((bl : Nat) : Int)] false [] 0 (fun _ => rfl) (Sl.new (l := [((al : Nat) : Int), ((bl : Nat) : Int)]) (cap := 2) (hb1 0 rfl)) (by simp) (by simp)) [(1, 1), (2, 2)] rfl ⟨rfl, ⟨rfl, rfl, rfl, .inr ⟨rfl, rfl, rfl, rfl⟩⟩, trivial⟩ rfl ⟨wrC_below _ (by omega) (by omega) _ _, gE_below encB_plain _ _ _ _ _, trivial⟩ (by simp [SV.below, SA.below]) ⟨wrC_sub (by rfl) (by rfl), sub_gE encB_plain (gE_self _ _ _ _), trivial⟩ ?_
  rintro out0 F' h0 n0 hle ⟨rfl, rfl, rfl, u1, c1, hu1, rfl⟩
  conv => whnf
  exact clean [(3, 5)] (.ret (.tup [])) F1 (wrM u1 c1 _) 4 ⟨l1, rfl, rfl, u1, c1, hu1, rfl⟩ trivial rfl rfl (Out.bB_ok (o := .ret (.tup [])) rfl) (wrM_below _ _ _) ⟨Fz.le_refl F1, wrC_sub2 (i' := 1) (j' := 5) (by rfl) (by rfl) (by rfl) (by rfl) rfl, sub_gE2 encB_plain, trivial⟩
set_option maxHeartbeats 16000000 in
theorem cl6_fn (hP : PFun) (F : Fz) (an : Bool) (ab ae al ac : Nat) (bn : Bool) (bb be bl bc : Nat) (w : Int) (s : List UInt8) (hs : s.length ≤ 1000000) :
    Ct Tryz.prog 122 [.agg (docS (.slice an 0 ab ae 2 al ac) (.slice bn 0 bb be 6 bl bc) w s), .va (.ptr ⟨1, 0, 0, 0, 0⟩)] F (wrH false 0 []) 3 (wrL (numbersS [w, hgt w s])) := by
  have hh := height_fn F (.slice an 0 ab ae 2 al ac) (.slice bn 0 bb be 6 bl bc) w s (by omega)
  have hex : ∃ z, hgt w s = z := ⟨_, rfl⟩
  obtain ⟨z, hz⟩ := hex
  rw [hz] at hh ⊢
  refine ct_of hΘ Tryz.func122 rfl (by decide) _ _ rfl rfl rfl ?_
  conv => whnf
  refine drawP hΘ mixed (.look 0 (.look 1 (.look 2 (.look 3 (.look 4 (.alt 5 (.alt 6 (.alt 7 .done .nil) .nil) .nil)))))) [3] (by kernel_rfl) ?_
  conv => whnf
  repeat' ((conv => whnf); first
    | refine ⟨rfl, ?_⟩
    | refine ⟨Fz.le_refl _, rfl, ?_⟩
    | refine ⟨Fz.le_refl _, rfl, rfl, ?_⟩
    | refine ⟨⟨by simp, by simp⟩, ?_⟩
    | fail)
  conv => whnf
  refine usePu hh rfl (argsE_refl _) rfl ?_
  repeat' ((conv => whnf); first
    | refine ⟨rfl, ?_⟩
    | refine ⟨Fz.le_refl _, rfl, ?_⟩
    | refine ⟨Fz.le_refl _, rfl, rfl, ?_⟩
    | refine ⟨⟨by simp, by simp⟩, ?_⟩
    | fail)
  conv => whnf
  refine freezeC 4 (fun _ => .arr 3 1 ([w, z].map encI) 2) rfl rfl rfl (fun _ _ => rfl) (fun _ _ => SB.bB_ok rfl) ?_
  intro b1 F1 l1 hb1
  refine use (wnum_fn hP F1 _ [w, z] false [] 0 (fun _ => rfl) (Sl.new (l := [w, z]) (cap := 2) (hb1 0 rfl)) (by simp) (by simp)) [(1, 1), (2, 2)] rfl ⟨rfl, ⟨rfl, rfl, rfl, .inr ⟨rfl, rfl, rfl, rfl⟩⟩, trivial⟩ rfl ⟨wrC_below _ (by omega) (by omega) _ _, gE_below encB_plain _ _ _ _ _, trivial⟩ (by simp [SV.below, SA.below]) ⟨wrC_sub (by rfl) (by rfl), sub_gE encB_plain (gE_self _ _ _ _), trivial⟩ ?_
  rintro out0 F' h0 n0 hle ⟨rfl, rfl, rfl, u1, c1, hu1, rfl⟩
  conv => whnf
  refine ⟨l1, rfl, ?_⟩
  conv => whnf
  exact clean [(3, 5)] (.ret (.tup [])) F1 (wrM u1 c1 _) 4 ⟨l1, rfl, rfl, u1, c1, hu1, rfl⟩ trivial rfl rfl (Out.bB_ok (o := .ret (.tup [])) rfl) (wrM_below _ _ _) ⟨Fz.le_refl F1, wrC_sub2 (i' := 1) (j' := 5) (by rfl) (by rfl) (by rfl) (by rfl) rfl, sub_gE2 encB_plain, trivial⟩
set_option maxHeartbeats 16000000 in
theorem cl7_fn (hP : PFun) (F : Fz) (an : Bool) (ab ae al ac : Nat) (bn : Bool) (bb be bl bc : Nat) (w : Int) (s : List UInt8) (hs : s.length ≤ 1000000) :
    Ct Tryz.prog 124 [.agg (docS (.slice an 0 ab ae 2 al ac) (.slice bn 0 bb be 6 bl bc) w s), .va (.ptr ⟨1, 0, 0, 0, 0⟩)] F (wrH false 0 []) 3 (wrL (numbersS [w, hgt w s] ++ (putSR s).1)) := by
  have hh := height_fn F (.slice an 0 ab ae 2 al ac) (.slice bn 0 bb be 6 bl bc) w s (by omega)
  have hex : ∃ z, hgt w s = z := ⟨_, rfl⟩
  obtain ⟨z, hz⟩ := hex
  rw [hz] at hh ⊢
  refine ct_of hΘ Tryz.func124 rfl (by decide) _ _ rfl rfl rfl ?_
  conv => whnf
  refine drawP hΘ mixed (.look 0 (.look 1 (.look 2 (.look 3 (.look 4 (.alt 5 (.alt 6 (.alt 7 .done .nil) .nil) .nil)))))) [3] (by kernel_rfl) ?_
  conv => whnf
  repeat' ((conv => whnf); first
    | refine ⟨rfl, ?_⟩
    | refine ⟨Fz.le_refl _, rfl, ?_⟩
    | refine ⟨Fz.le_refl _, rfl, rfl, ?_⟩
    | refine ⟨⟨by simp, by simp⟩, ?_⟩
    | fail)
  conv => whnf
  refine usePu hh rfl (argsE_refl _) rfl ?_
  repeat' ((conv => whnf); first
    | refine ⟨rfl, ?_⟩
    | refine ⟨Fz.le_refl _, rfl, ?_⟩
    | refine ⟨Fz.le_refl _, rfl, rfl, ?_⟩
    | refine ⟨⟨by simp, by simp⟩, ?_⟩
    | fail)
  conv => whnf
  refine freezeC 4 (fun _ => .arr 3 1 ([w, z].map encI) 2) rfl rfl rfl (fun _ _ => rfl) (fun _ _ => SB.bB_ok rfl) ?_
  intro b1 F1 l1 hb1
  refine use (wnum_fn hP F1 _ [w, z] false [] 0 (fun _ => rfl) (Sl.new (l := [w, z]) (cap := 2) (hb1 0 rfl)) (by simp) (by simp)) [(1, 1), (2, 2)] rfl ⟨rfl, ⟨rfl, rfl, rfl, .inr ⟨rfl, rfl, rfl, rfl⟩⟩, trivial⟩ rfl ⟨wrC_below _ (by omega) (by omega) _ _, gE_below encB_plain _ _ _ _ _, trivial⟩ (by simp [SV.below, SA.below]) ⟨wrC_sub (by rfl) (by rfl), sub_gE encB_plain (gE_self _ _ _ _), trivial⟩ ?_
  rintro out0 F' h0 n0 hle ⟨rfl, rfl, rfl, u1, c1, hu1, rfl⟩
  conv => whnf
  refine ⟨l1, rfl, ?_⟩
  conv => whnf
  have hnl := numbersS_len [w, z]
  rw [show [w, z].length = 2 from rfl] at hnl
  refine use (wtext_fn hP F1 u1 s ([] ++ numbersS [w, z]) c1 hu1 (by omega) (by rw [List.nil_append]; omega)) [(1, 1), (2, 5)] rfl ⟨rfl, rfl, trivial⟩ rfl ⟨wrC_below _ (by omega) (by omega) _ _, gE_below encB_plain _ _ _ _ _, trivial⟩ (by simp [SV.below, SA.below]) ⟨wrC_sub2 (i' := 1) (j' := 5) (by rfl) (by rfl) (by rfl) (by rfl) rfl, sub_gE2 encB_plain, trivial⟩ ?_
  rintro out0 F' h0 n0 hle ⟨rfl, rfl, rfl, u2, c2, hu2, rfl⟩
  conv => whnf
  exact clean [(3, 6)] (.ret (.tup [])) F1 (wrM u2 c2 _) 4 ⟨l1, rfl, rfl, u2, c2, hu2, rfl⟩ trivial rfl rfl (Out.bB_ok (o := .ret (.tup [])) rfl) (wrM_below _ _ _) ⟨Fz.le_refl F1, wrC_sub2 (i' := 1) (j' := 6) (by rfl) (by rfl) (by rfl) (by rfl) rfl, sub_gE2 encB_plain, trivial⟩
end Go.Proofs.YtblllibdahkgfaaGreatDoor

namespace Go.Proofs.YtblllibdahkgfaaGreatDoor
open Go Sx
set_option maxRecDepth 100000
def pvals (K : List Cel) : List UInt8 := numbersS [(K.length : Int)] ++ ((K.zip (valsF K)).map fun x => numbersS [x.1.row, x.1.col, x.2]).flatten
theorem valsA_len : ∀ (l d : List Cel) (o : List Int), (valsA l d o).length = l.length + o.length
  | [], d, o => by simp [valsA]
  | c :: r, d, o => by rw [valsA, valsA_len, List.length_append]; simp only [List.length_cons, List.length_nil]; omega
theorem valsF_len (l : List Cel) : (valsF l).length = l.length := by rw [valsF, valsA_len, List.length_nil]; rfl
theorem pvals_len : ∀ (l : List (Cel × Int)), ((l.map fun x => numbersS [x.1.row, x.1.col, x.2]).flatten).length ≤ l.length * 1000
  | [] => by simp
  | x :: r => by
    have h1 := numbersS_len [x.1.row, x.1.col, x.2]
    have h3 := pvals_len r
    rw [show [x.1.row, x.1.col, x.2].length = 3 from rfl] at h1
    rw [List.map_cons, List.flatten_cons, List.length_append, List.length_cons]
    omega
theorem values2_fn (F : Fz) (an : Bool) (ab ae al ac : Nat) (bn : Bool) (bb be bc : Nat) (K : List Cel) (w : Int) (s : List UInt8) (hb : Sl F 172 6 encK (.slice bn 0 bb be 6 K.length bc) K) (hl : K.length ≤ 1000) (hcap : K.length ≤ bc) :
    Fo Tryz.prog F 121 [.agg (docS (.slice an 0 ab ae 2 al ac) (.slice bn 0 bb be 6 K.length bc) w s)] (fun o F' => (o = .ret (.va .nilsl) ∧ K = []) ∨ (∃ b c L room, o = .ret (.va (.slice false 0 b 0 1 K.length c)) ∧ F' b = some (.arr 3 1 L room) ∧ ∀ (k : Nat) (v : Int), (valsF K)[k]? = some v → L[0 + (k : Int).toNat]? = some (encI v))) := by
  refine Fo_mono (values_fn F an ab ae al ac bn bb be bc K w s hb hl hcap) ?_
  rintro o F' ⟨r, rfl, ⟨hK, rfl⟩ | ⟨hv, vb, vc, rfl⟩⟩
  · exact .inl ⟨rfl, hK⟩
  · obtain ⟨hvn, hvb, hve, hvc, hvL, hvr, heq, hv1, hv2, hv3, hv4⟩ := hv
    cases heq
    rw [valsF_len]
    refine .inr ⟨_, _, _, _, rfl, hv2 rfl, fun k v hk => ?_⟩
    obtain ⟨h1, h2⟩ := List.getElem?_eq_some_iff.1 hk
    rw [← h2]
    exact Sl.at hv4 h1
set_option maxHeartbeats 16000000 in
theorem cl5_fn (hP : PFun) (F : Fz) (an : Bool) (ab ae al ac : Nat) (bn : Bool) (bb be bc : Nat) (K : List Cel) (w : Int) (s : List UInt8) (hb : Sl F 172 6 encK (.slice bn 0 bb be 6 K.length bc) K) (hl : K.length ≤ 1000) (hcap : K.length ≤ bc) :
    Ct Tryz.prog 120 [.agg (docS (.slice an 0 ab ae 2 al ac) (.slice bn 0 bb be 6 K.length bc) w s), .va (.ptr ⟨1, 0, 0, 0, 0⟩)] F (wrH false 0 []) 3 (wrL (pvals K)) := by
  have hvals := fun F1 (l1 : Fz.le F F1) => values2_fn F1 an ab ae al ac bn bb be bc K w s (hb.mono l1) hl hcap
  have hp0 : K = [] → pvals K = [] ++ numbersS [((K.length : Nat) : Int)] := fun h => by subst h; simp [pvals]
  have hvl := valsF_len K
  obtain ⟨hbn, hbb, hbe, hbc, hbL, hbr, heq, hb1, hb2, hb3, hb4⟩ := hb
  cases heq
  refine ct_of hΘ Tryz.func120 rfl (by decide) _ _ rfl rfl rfl ?_
  conv => whnf
  refine freezeC 4 (fun _ => .arr 3 1 ([((K.length : Nat) : Int)].map encI) 1) rfl rfl rfl (fun _ _ => rfl) (fun _ _ => SB.bB_ok rfl) ?_
  intro b1 F1 l1 hb1'
  refine use (wnum_fn hP F1 _ [((K.length : Nat) : Int)] false [] 0 (fun _ => rfl) (Sl.new (l := [((K.length : Nat) : Int)]) (cap := 1) (hb1' 0 rfl)) (by simp) (by simp)) [(1, 1), (2, 2)] rfl ⟨rfl, ⟨rfl, rfl, rfl, .inr ⟨rfl, rfl, rfl, rfl⟩⟩, trivial⟩ rfl ⟨wrC_below _ (by omega) (by omega) _ _, gE_below encB_plain _ _ _ _ _, trivial⟩ (by simp [SV.below, SA.below]) ⟨wrC_sub (by rfl) (by rfl), sub_gE encB_plain (gE_self _ _ _ _), trivial⟩ ?_
  rintro out0 F' h0 n0 hle ⟨rfl, rfl, rfl, u1, c1, hu1, rfl⟩
  conv => whnf
  refine useFo (hvals F1 l1) rfl (argsE_refl _) rfl ?_
  rintro _ F2 l2 (⟨rfl, hK⟩ | ⟨vb, vc, vL, vr, rfl, hv2, hv4⟩)
  · conv => whnf
    refine loop_at hΘ (X := { x : Nat // x = 0 }) (fun x => [(16, .va (.int .i64 x.1))]) [4, 5, 17, 18, 19, 20, 21, 22, 23, 24, 25, 26, 27, 28, 29, 30, 31, 32, 33, 34, 35, 36, 37, 38, 39]
      (fun x => [(0, .frz F2), (1, wrC u1 1 6 c1 ([] ++ numbersS [((K.length : Nat) : Int)])), (5, .gone), (6, gE 5 1 encB c1 ([] ++ numbersS [((K.length : Nat) : Int)]))]) 7 (fun x => 0) ⟨0, rfl⟩
      (fun hH hT => leI [(6, 5)] hH hT rfl ⟨trivial, wrC_below _ (by omega) (by omega) _ _, trivial, gE_below encB_plain _ _ _ _ _, trivial⟩ ⟨rfl, trivial⟩ ⟨Fz.le_refl F2, wrC_sub2 (i' := 1) (j' := 5) (by rfl) (by rfl) (by rfl) (by rfl) rfl, sub_gE2 encB_plain, trivial⟩) ?_
    rintro ⟨k, rfl⟩ hH hT
    conv => whnf
    refine br (fun g2 => absurd g2 (by decide)) (fun _ => ?_)
    conv => whnf
    exact clean [(3, 6)] (.ret (.tup [])) F2 (wrM u1 c1 ([] ++ numbersS [((K.length : Nat) : Int)])) 4 ⟨Fz.le_trans l1 l2, rfl, rfl, u1, c1, by rw [hp0 hK]; exact hu1, by rw [hp0 hK]⟩ trivial rfl rfl (Out.bB_ok (o := .ret (.tup [])) rfl) (wrM_below _ _ _) ⟨Fz.le_refl F2, wrC_sub (by rfl) (by rfl), sub_gE encB_plain (gE_self _ _ _ _), trivial⟩
  · conv => whnf
    refine loop_at hΘ (X := { x : Nat × List UInt8 × Nat × Bool × Fz // Fz.le F2 x.2.2.2.2 ∧ x.1 ≤ K.length ∧ x.2.1 = numbersS [((K.length : Nat) : Int)] ++ (((K.zip (valsF K)).take x.1).map fun x => numbersS [x.1.row, x.1.col, x.2]).flatten ∧ (x.2.2.2.1 = false → x.2.1 = []) }) (fun x => [(16, .va (.int .i64 x.1.1))]) [4, 5, 17, 18, 19, 20, 21, 22, 23, 24, 25, 26, 27, 28, 29, 30, 31, 32, 33, 34, 35, 36, 37, 38, 39]
      (fun x => [(0, .frz x.1.2.2.2.2), (1, wrC x.1.2.2.2.1 1 6 x.1.2.2.1 x.1.2.1), (3, docE4 (.slice an 0 ab ae 2 al ac) (.slice bn 0 bb be 6 K.length bc) w s), (5, .gone), (6, gE 5 1 encB x.1.2.2.1 x.1.2.1)]) 7 (fun x => K.length - x.1.1) ⟨(0, [] ++ numbersS [((K.length : Nat) : Int)], c1, u1, F2), Fz.le_refl F2, by simpa using hu1⟩
      (fun hH hT => leI [(6, 5)] hH hT rfl ⟨trivial, wrC_below _ (by omega) (by omega) _ _, docE4_below (.inr (by omega)) (.inr (by omega)), trivial, gE_below encB_plain _ _ _ _ _, trivial⟩ ⟨rfl, trivial⟩ ⟨Fz.le_refl F2, wrC_sub2 (i' := 1) (j' := 5) (by rfl) (by rfl) (by rfl) (by rfl) rfl, rfl, sub_gE2 encB_plain, trivial⟩) ?_
    rintro ⟨⟨k, ob, cb, ub, G⟩, hG, hk, hob, hub⟩ hH hT
    replace hG : Fz.le F2 G := hG
    replace hk : k ≤ K.length := hk
    replace hob : ob = numbersS [((K.length : Nat) : Int)] ++ (((K.zip (valsF K)).take k).map fun x => numbersS [x.1.row, x.1.col, x.2]).flatten := hob
    replace hub : ub = false → ob = [] := hub
    have hzl : (K.zip (valsF K)).length = K.length := by rw [List.length_zip, hvl]; omega
    have hlen : ob.length ≤ 100000000000 := by
      have h9 := pvals_len ((K.zip (valsF K)).take k)
      have h8 := numbersS_len [((K.length : Nat) : Int)]
      rw [List.length_take] at h9
      rw [List.length_singleton] at h8
      rw [hob, List.length_append]; omega
    by_cases g : k < K.length
    · have hlt : (k : Int) < (K.length : Nat) := by omega
      have hidx : 0 ≤ (k : Int) ∧ (k : Int) < (K.length : Nat) := by omega
      have gv : k < (valsF K).length := by omega
      have hex : ∃ c v, K[k] = c ∧ (valsF K)[k] = v := ⟨_, _, rfl, rfl⟩
      obtain ⟨c, v, hKk, hVk⟩ := hex
      have hat : hbL[be + (k : Int).toNat]? = some (encK c) := by rw [← hKk]; exact Sl.at hb4 g
      have hatv : vL[0 + (k : Int).toNat]? = some (encI v) := by rw [← hVk]; exact hv4 k _ (List.getElem?_eq_getElem gv)
      have hob2 : ob ++ numbersS [c.row, c.col, v] = numbersS [((K.length : Nat) : Int)] ++ (((K.zip (valsF K)).take (k + 1)).map fun x => numbersS [x.1.row, x.1.col, x.2]).flatten := by
        have gz : k < (K.zip (valsF K)).length := by omega
        rw [map_take_succ gz, List.getElem_zip, hKk, hVk, hob, List.append_assoc]
      have hk1 : k + 1 ≤ K.length := g
      have hdec : K.length - (k + 1) < K.length - k := by omega
      have hk62 : k < 4611686018427387904 := by omega
      have hblk := (Fz.le_trans l1 (Fz.le_trans l2 hG)) _ _ (hb2 (Sl.lt hb1 g))
      have hblkv := hG _ _ hv2
      clear hKk hVk
      conv => whnf
      refine br (fun _ => ?_) (fun g2 => absurd hlt (of_decide_eq_false g2))
      conv => whnf
      refine ⟨rfl, hidx, ?_⟩
      conv => whnf
      refine ⟨_, hblkv, ?_⟩
      conv => whnf
      refine ⟨_, hatv, ?_⟩
      conv => whnf
      refine drawP hΘ mixed (.look 0 (.look 1 (.look 2 (.look 3 (.look 4 (.look 5 (.look 6 (.look 7 (.look 8 (.look 9 (.look 10 (.look 11 (.look 12 (.look 13 (.look 14 (.look 15 (.alt 16 (.alt 17 .done .nil) .nil))))))))))))))))) [3] (by kernel_rfl) ?_
      conv => whnf
      repeat' ((conv => whnf); first
        | refine ⟨Sl.lt hb1 g, hidx, ?_⟩
        | refine ⟨_, hblk, ?_⟩
        | refine ⟨_, hat, ?_⟩
        | refine ⟨rfl, ?_⟩
        | refine ⟨Fz.le_refl _, rfl, ?_⟩
        | refine ⟨Fz.le_refl _, rfl, rfl, ?_⟩
        | refine ⟨⟨by simp, by simp⟩, ?_⟩
        | fail)
      conv => whnf
      refine freezeC 7 (fun _ => .arr 3 1 ([c.row, c.col, v].map encI) 3) rfl rfl rfl (fun _ _ => rfl) (fun _ _ => SB.bB_ok rfl) ?_
      intro b2 G2 l3 hb2'
      refine use (wnum_fn hP G2 _ [c.row, c.col, v] ub ob cb hub (Sl.new (l := [c.row, c.col, v]) (cap := 3) (hb2' 0 rfl)) (by simp) (by omega)) [(1, 1), (2, 6)] rfl ⟨rfl, ⟨rfl, rfl, rfl, .inr ⟨rfl, rfl, rfl, rfl⟩⟩, trivial⟩ rfl ⟨wrC_below _ (by omega) (by omega) _ _, gE_below encB_plain _ _ _ _ _, trivial⟩ (by simp [SV.below, SA.below]) ⟨wrC_sub (by rfl) (by rfl), sub_gE encB_plain (gE_self _ _ _ _), trivial⟩ ?_
      rintro out0 F' h0 n0 hle ⟨rfl, rfl, rfl, u2, c2, hu2, rfl⟩
      conv => whnf
      refine ⟨l3, rfl, ?_⟩
      conv => whnf
      exact ⟨⟨(k + 1, ob ++ numbersS [c.row, c.col, v], c2, u2, G2), Fz.le_trans hG l3, hk1, hob2, hu2⟩, hdec, leR [(6, 8)] hH hT rfl ⟨trivial, wrC_below _ (by omega) (by omega) _ _, docE4_below (.inr (by omega)) (.inr (by omega)), trivial, gE_below encB_plain _ _ _ _ _, trivial⟩ ⟨cnt hk62, trivial⟩ ⟨Fz.le_refl G2, wrC_sub2 (i' := 1) (j' := 8) (by rfl) (by rfl) (by rfl) (by rfl) rfl, rfl, sub_gE2 encB_plain, trivial⟩⟩
    · have hlt : ¬ (k : Int) < (K.length : Nat) := by omega
      have hfin : ob = pvals K := by rw [hob, pvals, List.take_of_length_le (by omega)]
      conv => whnf
      refine br (fun g2 => absurd (of_decide_eq_true g2) hlt) (fun _ => ?_)
      conv => whnf
      exact clean [(3, 6)] (.ret (.tup [])) G (wrM ub cb ob) 4 ⟨Fz.le_trans l1 (Fz.le_trans l2 hG), rfl, rfl, ub, cb, by rw [← hfin]; exact hub, by rw [hfin]⟩ trivial rfl rfl (Out.bB_ok (o := .ret (.tup [])) rfl) (wrM_below _ _ _) ⟨Fz.le_refl G, wrC_sub (by rfl) (by rfl), sub_gE encB_plain (gE_self _ _ _ _), trivial⟩
end Go.Proofs.YtblllibdahkgfaaGreatDoor
