import Derived.Test.YtblllibdahkgfaaGreatDoorK18
import Derived.Test.YtblllibdahkgfaaGreatDoorK15

namespace Go.Proofs.YtblllibdahkgfaaGreatDoor
open Go Sx
set_option maxRecDepth 100000
/-- What wire.PutInt answers (its contract is proved elsewhere: a range over a function). -/
def PFun : Prop := ∀ (F : Fz) (n : Int), Fo Tryz.prog F 80 [.va (.int .i64 n)] (fun o F' => o = .ret (.tup [.va (.str (putIR n).1), .va (.int .i64 (putIR n).2)]) ∧ F' = F)
theorem wputString_fn (hP : PFun) (F : Fz) (s : List UInt8) (hs : s.length ≤ 9000000000000000000) : Fo Tryz.prog F 82 [.va (.str s)] (fun o F' => o = .ret (.tup [.va (.str (putSR s).1), .va (.int .i64 (putSR s).2)]) ∧ F' = F) := by
  refine fo_of hΘ Tryz.func82 rfl (by decide) _ _ rfl rfl rfl ?_
  conv => whnf
  refine br (fun g => ?_) (fun g => ?_)
  · have g1 : 65536 < s.length := by have h0 : (65536 : Int) < s.length := (by simpa using g); omega
    conv => whnf
    exact endFo (.ret (.tup [.va (.str []), .va (.int .i64 10)])) F rfl (Fz.le_refl F) (Fz.le_refl F) ⟨by rw [putSR, if_pos g1], rfl⟩ (outE_refl _) rfl
  · have g1 : ¬ 65536 < s.length := by have h0 : ¬ (65536 : Int) < s.length := (by simpa using g); omega
    have e1 : putIR s.length = (putI s.length, 0) := by rw [putIR, if_neg (by omega)]
    have e2 : putSR s = (putI s.length ++ s, 0) := by rw [putSR, if_neg g1]
    conv => whnf
    refine usePu (hP F s.length) rfl (argsE_refl _) rfl ?_
    conv => whnf
    have hl := putIR_len s.length
    refine ⟨by omega, ?_⟩
    conv => whnf
    exact endFo (.ret (.tup [.va (.str ((putIR s.length).1 ++ s)), .va (.int .i64 0)])) F rfl (Fz.le_refl F) (Fz.le_refl F) ⟨by rw [e2, e1], rfl⟩ (outE_refl _) rfl
/-- The bytes that are being written: a variable, and its row. -/
def outC (i j c : Nat) (l : List UInt8) : Ent := .one (.cells 40 [gA 1 j c l])
theorem outC_below {n j : Nat} (h : j < n) (i c : Nat) (l : List UInt8) : (outC i j c l).below n := by
  intro a ha
  simp only [List.mem_cons, List.not_mem_nil, or_false] at ha
  subst ha
  cases l with
  | nil => trivial
  | cons x r => exact .inr h
abbrev outN (c : Nat) (l : List UInt8) : List (Nat × Ent) := [(1, outC 1 3 c l), (2, .gone), (3, gE 5 1 encB c l)]
theorem outN_below (c : Nat) (l : List UInt8) : bH 4 (outN c l) := ⟨outC_below (by omega) _ _ _, trivial, gE_below encB_plain _ _ _ _ _, trivial⟩
theorem outC_ren {μ : Mu} {j j' : Nat} (h : μ j 0 = (j', 0)) (i c : Nat) (l : List UInt8) : (outC i j c l).ren μ = outC i j' c l := by
  show Ent.one (.cells _ [(gA 1 j c l).ren μ]) = _
  rw [gA_ren h]; rfl
theorem outC_sub {μ : Mu} {j j' : Nat} (h : μ j 0 = (j', 0)) {i i' c : Nat} {l : List UInt8} : subE (some (outC i' j' c l)) ((outC i j c l).ren μ) := by rw [outC_ren h]; exact rfl
theorem outC_new {μ : Mu} {j j' : Nat} (h : μ j 0 = (j', 0)) {i c n : Nat} {x : UInt8} {l : List UInt8} (hn : n = l.length + 1) : subE (some (.one (.cells 40 [.slice false j' 0 0 1 n c]))) ((outC i j c (x :: l)).ren μ) := by
  subst hn; rw [outC_ren h]; exact rfl
abbrev outH (c : Nat) (l : List UInt8) : List (Nat × Ent) := [(1, outC 1 2 c l), (2, gE 5 1 encB c l)]
set_option maxHeartbeats 4000000 in
theorem puts_fn (hP : PFun) (F : Fz) (s out : List UInt8) (c : Nat) (hs : s.length ≤ 9000000000000000000) (ho : out.length ≤ 1000000000000) :
    Ct Tryz.prog 81 [.va (.str s), .va (.ptr ⟨1, 0, 0, 0, 0⟩)] F (outH c out) 3
      (fun o F0 h0 n0 => F = F0 ∧ n0 = 4 ∧ o = .ret (.tup []) ∧ ∃ c', h0 = outN c' (out ++ (putSR s).1)) := by
  have hps := wputString_fn hP F s hs
  have hl := putSR_len s
  obtain ⟨t, ht⟩ : ∃ t, (putSR s).1 = t := ⟨_, rfl⟩
  rw [ht] at hps hl ⊢
  rcases out with _ | ⟨x, r⟩
  · rcases t with _ | ⟨b, t⟩
    · refine ct_of hΘ Tryz.func81 rfl (by decide) _ _ rfl rfl rfl ?_
      conv => whnf
      refine usePu (hps) rfl (argsE_refl _) rfl ?_
      conv => whnf
      refine ⟨rfl, rfl, ?_⟩
      conv => whnf
      exact clean [(3, 2)] (.ret (.tup [])) F (outN c []) 4 ⟨Fz.le_refl F, rfl, rfl, rfl, c, rfl⟩ trivial rfl rfl (Out.bB_ok (o := .ret (.tup [])) rfl) (outN_below _ _) ⟨Fz.le_refl F, rfl, sub_gE encB_plain (gE_self _ _ _ _), trivial⟩
    · refine ct_of hΘ Tryz.func81 rfl (by decide) _ _ rfl rfl rfl ?_
      conv => whnf
      refine usePu (hps) rfl (argsE_refl _) rfl ?_
      conv => whnf
      refine ⟨rfl, rfl, ?_⟩
      conv => whnf
      refine ⟨by show ((t.map fun b : UInt8 => [SA.int .u8 b.toNat]).length + 1) * 1 ≤ 140737488355328; rw [List.length_map]; simp at hl; omega, fun c' hc => ?_⟩
      clear hc
      conv => whnf
      exact clean [(3, 3)] (.ret (.tup [])) F (outN c' (b :: t)) 4 ⟨Fz.le_refl F, rfl, rfl, rfl, c', rfl⟩ trivial rfl rfl (Out.bB_ok (o := .ret (.tup [])) rfl) (outN_below _ _) ⟨Fz.le_refl F, outC_new (i := 1) (j := 3) (j' := 3) (by rfl) (by simp), sub_gE encB_plain (gE_one _ (by rfl)), trivial⟩
  · replace ho : r.length + 1 ≤ 1000000000000 := ho
    refine ct_of hΘ Tryz.func81 rfl (by decide) _ _ rfl rfl rfl ?_
    conv => whnf
    refine usePu (hps) rfl (argsE_refl _) rfl ?_
    conv => whnf
    refine ⟨rfl, rfl, by simp, rfl, by rw [List.length_map]; show (r.length + 1 + t.length) * 1 ≤ 140737488355328; omega, fun c' hc => ?_⟩
    clear hc
    conv => whnf
    exact clean [(3, 3)] (.ret (.tup [])) F (outN c' (x :: (r ++ t))) 4 ⟨Fz.le_refl F, rfl, rfl, rfl, c', rfl⟩ trivial rfl rfl (Out.bB_ok (o := .ret (.tup [])) rfl) (outN_below _ _) ⟨Fz.le_refl F, outC_new (i := 1) (j := 3) (j' := 3) (by rfl) (by rw [List.length_map, List.length_append]; omega), sub_gE encB_plain (gE_one _ (by show ((x :: r).map encB) ++ (t.map encB) = (x :: (r ++ t)).map encB; simp)), trivial⟩
set_option maxHeartbeats 8000000 in
theorem put_fn (hP : PFun) (F : Fz) (sa : SA) (l : List Int) (out : List UInt8) (c : Nat) (ha : IntsAt F sa l) (hl : l.length < 1000000) (ho : out.length ≤ 1000000000000) :
    Ct Tryz.prog 79 [.va sa, .va (.ptr ⟨1, 0, 0, 0, 0⟩)] F (outH c out) 3
      (fun o F0 h0 n0 => F = F0 ∧ n0 = 4 ∧ o = .ret (.tup []) ∧ ∃ c', h0 = outN c' (out ++ numbersS l)) := by
  obtain ⟨han, hab, hae, hac, haL, har, rfl, ha1, ha2, ha3, ha4⟩ := ha
  refine ct_of hΘ Tryz.func79 rfl (by decide) _ _ rfl rfl rfl ?_
  conv => whnf
  refine loop_at hΘ (X := { x : Nat × List UInt8 × Nat // x.1 ≤ l.length ∧ x.2.1 = out ++ ((l.take x.1).map fun n => (putIR n).1).flatten }) (fun x => [(9, .va (.int .i64 x.1.1))]) [4, 5, 6, 10, 11, 12, 13, 14, 15, 16, 17, 18, 19, 20, 21]
    (fun x => [(0, .frz F), (1, outC 1 3 x.1.2.2 x.1.2.1), (2, .gone), (3, gE 5 1 encB x.1.2.2 x.1.2.1)]) 4 (fun x => l.length - x.1.1) ⟨(0, out, c), by simp⟩
    (fun hH hT => leI [(3, 2)] hH hT rfl ⟨trivial, outC_below (by omega) _ _ _, trivial, gE_below encB_plain _ _ _ _ _, trivial⟩ ⟨rfl, trivial⟩ ⟨Fz.le_refl F, outC_sub (i := 1) (i' := 1) (j := 3) (j' := 2) (by rfl), sub_gE encB_plain (gE_self _ _ _ _), trivial⟩) ?_
  rintro ⟨⟨k, ob, cb⟩, hk, hob⟩ hH hT
  replace hk : k ≤ l.length := hk
  replace hob : ob = out ++ ((l.take k).map fun n => (putIR n).1).flatten := hob
  have hlen : ob.length ≤ 1000009000000 := by
    have h9 := flat_len putIR_len (l.take k)
    rw [List.length_take] at h9
    rw [hob, List.length_append]; omega
  conv => whnf
  refine br (fun gb => ?_) (fun gb => ?_)
  · have gk : k < l.length := by simpa using gb
    clear gb
    have hps := hP F l[k]
    have ht : ∃ t, (putIR l[k]).1 = t := ⟨_, rfl⟩
    obtain ⟨t, ht⟩ := ht
    have htl := putIR_len l[k]
    have hob2 : ob ++ t = out ++ ((l.take (k + 1)).map fun n => (putIR n).1).flatten := by rw [map_take_succ gk, ht, hob, List.append_assoc]
    rw [ht] at hps htl
    rcases ob with _ | ⟨x, r⟩
    · rcases t with _ | ⟨b, t⟩
      · conv => whnf
        refine ⟨Sl.lt ha1 gk, ⟨by simp, by simpa using gk⟩, ?_⟩
        conv => whnf
        refine ⟨_, ha2 (Sl.lt ha1 gk), ?_⟩
        conv => whnf
        refine ⟨_, Sl.at ha4 gk, ?_⟩
        conv => whnf
        refine usePu (hps) rfl (argsE_refl _) rfl ?_
        conv => whnf
        refine ⟨rfl, rfl, ?_⟩
        conv => whnf
        exact ⟨⟨(k + 1, [], cb), by show k + 1 ≤ l.length; omega, hob2⟩, by show l.length - (k + 1) < l.length - k; omega, leR [(3, 3)] hH hT rfl ⟨trivial, outC_below (by omega) _ _ _, trivial, gE_below encB_plain _ _ _ _ _, trivial⟩ ⟨cnt (by omega), trivial⟩ ⟨Fz.le_refl F, rfl, sub_gE encB_plain (gE_self _ _ _ _), trivial⟩⟩
      · conv => whnf
        refine ⟨Sl.lt ha1 gk, ⟨by simp, by simpa using gk⟩, ?_⟩
        conv => whnf
        refine ⟨_, ha2 (Sl.lt ha1 gk), ?_⟩
        conv => whnf
        refine ⟨_, Sl.at ha4 gk, ?_⟩
        conv => whnf
        refine usePu (hps) rfl (argsE_refl _) rfl ?_
        conv => whnf
        refine ⟨rfl, rfl, ?_⟩
        conv => whnf
        refine ⟨by show ((t.map fun b : UInt8 => [SA.int .u8 b.toNat]).length + 1) * 1 ≤ 140737488355328; rw [List.length_map]; simp at htl; omega, fun c' hc => ?_⟩
        clear hc
        conv => whnf
        exact ⟨⟨(k + 1, b :: t, c'), by show k + 1 ≤ l.length; omega, hob2⟩, by show l.length - (k + 1) < l.length - k; omega, leR [(3, 4)] hH hT rfl ⟨trivial, outC_below (by omega) _ _ _, trivial, gE_below encB_plain _ _ _ _ _, trivial⟩ ⟨cnt (by omega), trivial⟩ ⟨Fz.le_refl F, outC_new (i := 1) (j := 3) (j' := 4) (by rfl) (by simp), sub_gE encB_plain (gE_one _ (by rfl)), trivial⟩⟩
    · replace hlen : r.length + 1 ≤ 1000009000000 := hlen
      conv => whnf
      refine ⟨Sl.lt ha1 gk, ⟨by simp, by simpa using gk⟩, ?_⟩
      conv => whnf
      refine ⟨_, ha2 (Sl.lt ha1 gk), ?_⟩
      conv => whnf
      refine ⟨_, Sl.at ha4 gk, ?_⟩
      conv => whnf
      refine usePu (hps) rfl (argsE_refl _) rfl ?_
      conv => whnf
      refine ⟨rfl, rfl, by simp, rfl, by rw [List.length_map]; show (r.length + 1 + t.length) * 1 ≤ 140737488355328; omega, fun c' hc => ?_⟩
      clear hc
      conv => whnf
      exact ⟨⟨(k + 1, x :: (r ++ t), c'), by show k + 1 ≤ l.length; omega, hob2⟩, by show l.length - (k + 1) < l.length - k; omega, leR [(3, 4)] hH hT rfl ⟨trivial, outC_below (by omega) _ _ _, trivial, gE_below encB_plain _ _ _ _ _, trivial⟩ ⟨cnt (by omega), trivial⟩ ⟨Fz.le_refl F, outC_new (i := 1) (j := 3) (j' := 4) (by rfl) (by rw [List.length_map, List.length_append]; omega), sub_gE encB_plain (gE_one _ (by show ((x :: r).map encB) ++ (t.map encB) = (x :: (r ++ t)).map encB; simp)), trivial⟩⟩
  · have gk : ¬ k < l.length := by simpa using gb
    have hfin : ob = out ++ numbersS l := by rw [hob, numbersS, List.take_of_length_le (by omega)]
    conv => whnf
    exact clean [(3, 3)] (.ret (.tup [])) F (outN cb ob) 4 ⟨Fz.le_refl F, rfl, rfl, rfl, cb, by rw [hfin]⟩ trivial rfl rfl (Out.bB_ok (o := .ret (.tup [])) rfl) (outN_below _ _) ⟨Fz.le_refl F, outC_sub (i := 1) (i' := 1) (j := 3) (j' := 3) (by rfl), sub_gE encB_plain (gE_self _ _ _ _), trivial⟩
end Go.Proofs.YtblllibdahkgfaaGreatDoor

namespace Go.Proofs.YtblllibdahkgfaaGreatDoor
open Go Sx
set_option maxRecDepth 100000
def lineW (p : Int) (x : Ln) : List UInt8 := (if p = 1 then (putSR x.1).1 else []) ++ numbersS x.2
def writeS (p : Int) (v : Val) : List UInt8 :=
  if v.lost = true then [] else
  if 6 ≤ p then numbersS [v.w, v.h] ++ (if p = 7 then (putSR v.bits).1 else []) else
  numbersS [(v.lines.length : Int)] ++ (v.lines.map (lineW p)).flatten
theorem numbersS_len (l : List Int) : (numbersS l).length ≤ 9 * l.length := flat_len putIR_len l
abbrev valH (v : Val) (c : Nat) (caps : Nat → Nat) : List (Nat × Ent) := [(1, linesE 2 caps c v.lines), (2, famE caps v.lines)]
theorem linesE_subg {μ : Mu} {B B' : Nat} {caps : Nat → Nat} {c : Nat} {l : List Ln} (h : ∀ k, μ B k = (B', k)) : subE (some (linesE B' caps c l)) ((linesE B caps c l).ren μ) :=
  ⟨rfl, congrArg (fun L => SB.arr 120 2 L c) (lcells_ren (m := l.length) (fun k _ => ⟨h k, rfl⟩) 0 l (by omega)).symm⟩
theorem valH_bH (v : Val) (c : Nat) (caps : Nat → Nat) : bH 3 (valH v c caps) := ⟨linesE_below (by omega) _ _ _, famE_below _ _ _, trivial⟩
theorem convR (μ : Mu) (l : List UInt8) (n : Nat) (hn : n = l.length) : (((l.map encB).map (List.map (SA.ren μ))).drop 0).take n = l.map encB := by
  subst hn
  have h : (l.map encB).map (List.map (SA.ren μ)) = l.map encB := by rw [List.map_map]; exact List.map_congr_left fun x _ => rfl
  rw [h, List.drop_zero, List.take_of_length_le (by simp)]
theorem sub_gE2 {α : Type} {e : α → List SA} (he : Plain e) {t sz c : Nat} {τ μ : Mu} {l : List α} : subE (some ((gE t sz e c l).ren τ)) ((gE t sz e c l).ren μ) := by rw [gE_ren he, gE_ren he]; exact gE_self _ _ _ _
/-- The end of write. -/
theorem writeEnd {F F1 : Fz} {v : Val} {c : Nat} {caps : Nat → Nat} {p : Int} {t : List UInt8} {h : Hp} {nx : Nat} (ht : t = writeS p v) (hle : Fz.le F F1) (h0 : lget h 0 = some (.frz F1)) (h1 : lget h 1 = some (linesE 2 caps c v.lines)) (h2 : lget h 2 = some (famE caps v.lines)) :
    Cln 3 (fun o F0 h0 n0 => Fz.le F F0 ∧ (n0 = 3 ∧ o = .ret (.va (.str (writeS p v))) ∧ h0 = valH v c caps)) (.ret (.va (.str t))) h nx :=
  clean [] (.ret (.va (.str t))) F1 (valH v c caps) 3 ⟨hle, rfl, by rw [ht], rfl⟩ rfl rfl rfl trivial (valH_bH _ _ _)
    ⟨by show subE (lget h 0) (.frz F1); rw [h0]; exact Fz.le_refl F1, by show subE (lget h 1) ((linesE 2 caps c v.lines).ren (sig [])); rw [h1]; exact linesE_subg (fun k => rfl), by show subE (lget h 2) ((famE caps v.lines).ren (sig [])); rw [h2]; exact famE_sub, trivial⟩
set_option maxHeartbeats 8000000 in
theorem writeLost_fn (F : Fz) (v : Val) (c : Nat) (caps : Nat → Nat) (p : Int) (hv : v.lost = true) :
    Ct Tryz.prog 53 [valV v 1 c, .va (.int .i64 p)] F (valH v c caps) 3 (fun o F0 h0 n0 => n0 = 3 ∧ o = .ret (.va (.str (writeS p v))) ∧ h0 = valH v c caps) := by
  obtain ⟨lost, lines, w, h, bits⟩ := v
  replace hv : lost = true := hv
  subst hv
  refine ct_of hΘ Tryz.func53 rfl (by decide) _ _ rfl rfl rfl ?_
  conv => whnf
  exact writeEnd (by rw [writeS, if_pos rfl]) (Fz.le_refl F) rfl rfl rfl
set_option maxHeartbeats 8000000 in
theorem writeRaster_fn (hP : PFun) (F : Fz) (v : Val) (c : Nat) (caps : Nat → Nat) (p : Int) (hv : v.lost = false) (hp : p = 6 ∨ p = 7 ∨ p = 8) (hb : v.bits.length ≤ 70000) :
    Ct Tryz.prog 53 [valV v 1 c, .va (.int .i64 p)] F (valH v c caps) 3 (fun o F0 h0 n0 => n0 = 3 ∧ o = .ret (.va (.str (writeS p v))) ∧ h0 = valH v c caps) := by
  obtain ⟨lost, lines, w, h, bits⟩ := v
  replace hv : lost = false := hv
  subst hv
  replace hb : bits.length ≤ 70000 := hb
  have hW : writeS p ⟨false, lines, w, h, bits⟩ = numbersS [w, h] ++ (if p = 7 then (putSR bits).1 else []) := by rw [writeS, if_neg (by simp), if_pos (by omega)]
  obtain ⟨o1, ho1⟩ : ∃ o1, [] ++ numbersS [w, h] = o1 := ⟨_, rfl⟩
  have hol : o1.length ≤ 100 := by rw [← ho1]; have := numbersS_len [w, h]; simp at this ⊢; omega
  refine ct_of hΘ Tryz.func53 rfl (by decide) _ _ rfl rfl rfl ?_
  conv => whnf
  refine br (fun _ => ?_) (fun g => absurd (of_decide_eq_false g) (by omega))
  conv => whnf
  refine freezeC 5 (fun _ => .arr 3 1 ([w, h].map encI) 2) rfl rfl rfl (fun _ _ => rfl) (fun _ _ => SB.bB_ok rfl) ?_
  intro b1 F1 l1 hb1
  have hput := put_fn hP F1 _ [w, h] [] 0 (Sl.new (l := [w, h]) (cap := 2) (hb1 0 rfl)) (by simp) (by simp)
  rw [ho1] at hput
  have hex2 : ∃ o2, o1 ++ (putSR bits).1 = o2 := ⟨_, rfl⟩
  rcases o1 with _ | ⟨x, r⟩
  · skip
    refine use hput [(1, 4), (2, 5)] rfl ⟨⟨rfl, rfl, rfl, .inr ⟨rfl, rfl, rfl, rfl⟩⟩, rfl, trivial⟩ rfl ⟨outC_below (by omega) _ _ _, gE_below encB_plain _ _ _ _ _, trivial⟩ (by simp [SV.below, SA.below]) ⟨rfl, rfl, trivial⟩ ?_
    rintro out0 F0 h0 n0 hle ⟨rfl, rfl, rfl, c1, rfl⟩
    conv => whnf
    refine br (fun g7 => ?_) (fun g7 => ?_)
    · have g7' : p = 7 := of_decide_eq_true g7
      obtain ⟨o2, ho2⟩ := hex2
      have hW2 : o2 = writeS p ⟨false, lines, w, h, bits⟩ := by rw [hW, if_pos g7', ← List.nil_append (numbersS [w, h]), ho1]; exact ho2.symm
      have hputs : ∀ c1, Ct Tryz.prog 81 [.va (.str bits), .va (.ptr ⟨1, 0, 0, 0, 0⟩)] F1 (outH c1 []) 3 (fun o F0 h0 n0 => F1 = F0 ∧ n0 = 4 ∧ o = .ret (.tup []) ∧ ∃ c', h0 = outN c' o2) := fun c1 => by
        have := puts_fn hP F1 bits [] c1 (by omega) (Nat.le_trans hol (by omega))
        rw [ho2] at this; exact this
      conv => whnf
      rcases o2 with _ | ⟨y, q⟩
      · refine use (hputs c1) [(1, 4), (2, 6)] rfl ⟨rfl, rfl, trivial⟩ rfl ⟨outC_below (by omega) _ _ _, gE_below encB_plain _ _ _ _ _, trivial⟩ (by simp [SV.below, SA.below]) ⟨rfl, sub_gE2 encB_plain, trivial⟩ ?_
        rintro out0 F0 h0 n0 hle ⟨rfl, rfl, rfl, c2, rfl⟩
        conv => whnf
        exact writeEnd hW2 l1 rfl rfl rfl
      · refine use (hputs c1) [(1, 4), (2, 6)] rfl ⟨rfl, rfl, trivial⟩ rfl ⟨outC_below (by omega) _ _ _, gE_below encB_plain _ _ _ _ _, trivial⟩ (by simp [SV.below, SA.below]) ⟨rfl, sub_gE2 encB_plain, trivial⟩ ?_
        rintro out0 F0 h0 n0 hle ⟨rfl, rfl, rfl, c2, rfl⟩
        conv => whnf
        refine ⟨rfl, ?_⟩
        conv => whnf
        refine ⟨by simp, (y :: q).map encB, convR _ (y :: q) _ rfl, y :: q, rfl, ?_⟩
        conv => whnf
        exact writeEnd hW2 l1 rfl rfl rfl
    · have g7' : ¬ p = 7 := of_decide_eq_false g7
      rw [if_neg g7', List.append_nil] at hW
      conv => whnf
      exact writeEnd (by rw [hW]; exact ho1.symm) l1 rfl rfl rfl
  · skip
    refine use hput [(1, 4), (2, 5)] rfl ⟨⟨rfl, rfl, rfl, .inr ⟨rfl, rfl, rfl, rfl⟩⟩, rfl, trivial⟩ rfl ⟨outC_below (by omega) _ _ _, gE_below encB_plain _ _ _ _ _, trivial⟩ (by simp [SV.below, SA.below]) ⟨rfl, rfl, trivial⟩ ?_
    rintro out0 F0 h0 n0 hle ⟨rfl, rfl, rfl, c1, rfl⟩
    conv => whnf
    refine br (fun g7 => ?_) (fun g7 => ?_)
    · have g7' : p = 7 := of_decide_eq_true g7
      obtain ⟨o2, ho2⟩ := hex2
      have hW2 : o2 = writeS p ⟨false, lines, w, h, bits⟩ := by rw [hW, if_pos g7', ← List.nil_append (numbersS [w, h]), ho1]; exact ho2.symm
      have hputs : ∀ c1, Ct Tryz.prog 81 [.va (.str bits), .va (.ptr ⟨1, 0, 0, 0, 0⟩)] F1 (outH c1 (x :: r)) 3 (fun o F0 h0 n0 => F1 = F0 ∧ n0 = 4 ∧ o = .ret (.tup []) ∧ ∃ c', h0 = outN c' o2) := fun c1 => by
        have := puts_fn hP F1 bits (x :: r) c1 (by omega) (Nat.le_trans hol (by omega))
        rw [ho2] at this; exact this
      conv => whnf
      rcases o2 with _ | ⟨y, q⟩
      · refine use (hputs c1) [(1, 4), (2, 6)] rfl ⟨rfl, rfl, trivial⟩ rfl ⟨outC_below (by omega) _ _ _, gE_below encB_plain _ _ _ _ _, trivial⟩ (by simp [SV.below, SA.below]) ⟨rfl, sub_gE2 encB_plain, trivial⟩ ?_
        rintro out0 F0 h0 n0 hle ⟨rfl, rfl, rfl, c2, rfl⟩
        conv => whnf
        exact writeEnd hW2 l1 rfl rfl rfl
      · refine use (hputs c1) [(1, 4), (2, 6)] rfl ⟨rfl, rfl, trivial⟩ rfl ⟨outC_below (by omega) _ _ _, gE_below encB_plain _ _ _ _ _, trivial⟩ (by simp [SV.below, SA.below]) ⟨rfl, sub_gE2 encB_plain, trivial⟩ ?_
        rintro out0 F0 h0 n0 hle ⟨rfl, rfl, rfl, c2, rfl⟩
        conv => whnf
        refine ⟨rfl, ?_⟩
        conv => whnf
        refine ⟨by simp, (y :: q).map encB, convR _ (y :: q) _ rfl, y :: q, rfl, ?_⟩
        conv => whnf
        exact writeEnd hW2 l1 rfl rfl rfl
    · have g7' : ¬ p = 7 := of_decide_eq_false g7
      rw [if_neg g7', List.append_nil] at hW
      conv => whnf
      refine ⟨rfl, ?_⟩
      conv => whnf
      refine ⟨by simp, (x :: r).map encB, convR _ (x :: r) _ rfl, x :: r, rfl, ?_⟩
      conv => whnf
      exact writeEnd (by rw [hW]; exact ho1.symm) l1 rfl rfl rfl
end Go.Proofs.YtblllibdahkgfaaGreatDoor

namespace Go.Proofs.YtblllibdahkgfaaGreatDoor
open Go Sx
set_option maxRecDepth 100000
theorem outC_sub2 {τ μ : Mu} {a b j i i' c : Nat} {l : List UInt8} (h : τ a 0 = (j, 0)) (h' : μ b 0 = (j, 0)) : subE (some ((outC i' a c l).ren τ)) ((outC i b c l).ren μ) := by
  rw [outC_ren h, outC_ren h']; exact rfl
theorem lineW_len {p : Int} {x : Ln} (h : x.2.length ≤ 1000) : (lineW p x).length ≤ 74545 := by
  unfold lineW
  have h1 := putSR_len x.1
  have h2 := numbersS_len x.2
  rw [List.length_append]
  split
  · omega
  · simp; omega
theorem linesW_len {p : Int} : ∀ (l : List Ln), (∀ x ∈ l, x.2.length ≤ 1000) → (l.map (lineW p)).flatten.length ≤ 74545 * l.length
  | [], _ => by simp
  | x :: r, h => by
    have h1 := lineW_len (p := p) (h x (by simp))
    have h2 := linesW_len (p := p) r (fun y hy => h y (by simp [hy]))
    simp only [List.map_cons, List.flatten_cons, List.length_append, List.length_cons]; omega
set_option maxHeartbeats 8000000 in
theorem writeLines_fn (hP : PFun) (F : Fz) (L : List Ln) (w h : Int) (bits : List UInt8) (c : Nat) (caps : Nat → Nat) (p : Int) (hp : ¬ 6 ≤ p) (hne : L ≠ []) (hl : L.length ≤ 1000) (hx : ∀ x ∈ L, x.1.length ≤ 70000 ∧ x.2.length ≤ 1000) :
    Ct Tryz.prog 53 [valV ⟨false, L, w, h, bits⟩ 1 c, .va (.int .i64 p)] F (valH ⟨false, L, w, h, bits⟩ c caps) 3 (fun o F0 h0 n0 => n0 = 3 ∧ o = .ret (.va (.str (writeS p ⟨false, L, w, h, bits⟩))) ∧ h0 = valH ⟨false, L, w, h, bits⟩ c caps) := by
  have hW : writeS p ⟨false, L, w, h, bits⟩ = numbersS [(L.length : Int)] ++ (L.map (lineW p)).flatten := by rw [writeS, if_neg (by simp), if_neg hp]
  rcases L with _ | ⟨a0, ar⟩
  · exact absurd rfl hne
  refine ct_of hΘ Tryz.func53 rfl (by decide) _ _ rfl rfl rfl ?_
  conv => whnf
  refine br (fun g => absurd (of_decide_eq_true g) hp) (fun _ => ?_)
  conv => whnf
  refine freezeC 5 (fun _ => .arr 3 1 ([((ar.length + 1 : Nat) : Int)].map encI) 1) rfl rfl rfl (fun _ _ => rfl) (fun _ _ => SB.bB_ok rfl) ?_
  intro b1 F1 l1 hb1
  have hput := put_fn hP F1 _ [((ar.length + 1 : Nat) : Int)] [] 0 (Sl.new (l := [((ar.length + 1 : Nat) : Int)]) (cap := 1) (hb1 0 rfl)) (by simp) (by simp)
  refine use hput [(1, 4), (2, 5)] rfl ⟨⟨rfl, rfl, rfl, .inr ⟨rfl, rfl, rfl, rfl⟩⟩, rfl, trivial⟩ rfl ⟨outC_below (by omega) _ _ _, gE_below encB_plain _ _ _ _ _, trivial⟩ (by simp [SV.below, SA.below]) ⟨rfl, rfl, trivial⟩ ?_
  rintro out0 F0 h0 n0 hle ⟨rfl, rfl, rfl, c1, rfl⟩
  conv => whnf
  refine loop_at hΘ (X := { x : Nat × List UInt8 × Nat // x.1 ≤ ar.length + 1 ∧ x.2.1 = numbersS [((ar.length + 1 : Nat) : Int)] ++ (((a0 :: ar).take x.1).map (lineW p)).flatten }) (fun x => [(21, .va (.int .i64 x.1.1))]) [9, 22, 23, 24, 25, 26, 27, 28, 29, 30, 31, 32, 33, 34, 35]
    (fun x => [(0, .frz F1), (1, linesE 2 caps c (a0 :: ar)), (2, famE caps (a0 :: ar)), (4, outC 1 7 x.1.2.2 x.1.2.1), (6, .gone), (7, gE 5 1 encB x.1.2.2 x.1.2.1)]) 8 (fun x => ar.length + 1 - x.1.1) ⟨(0, [] ++ numbersS [((ar.length + 1 : Nat) : Int)], c1), by simp⟩
    (fun hH hT => leI [(7, 6)] hH hT rfl ⟨trivial, linesE_below (by omega) _ _ _, famE_below _ _ _, outC_below (by omega) _ _ _, trivial, gE_below encB_plain _ _ _ _ _, trivial⟩ ⟨rfl, trivial⟩ ⟨Fz.le_refl F1, linesE_subg (fun k => rfl), famE_sub (μ := sig [(7, 6)]) (caps := caps) (l := a0 :: ar), outC_sub2 (i := 1) (i' := 1) (a := 3) (b := 7) (j := 6) (by rfl) (by rfl), sub_gE2 encB_plain, trivial⟩) ?_
  rintro ⟨⟨k, ob, cb⟩, hk, hob⟩ hH hT
  replace hk : k ≤ ar.length + 1 := hk
  replace hob : ob = numbersS [((ar.length + 1 : Nat) : Int)] ++ (((a0 :: ar).take k).map (lineW p)).flatten := hob
  have hobl : ob.length ≤ 100000000000 := by
    have h1 := numbersS_len [((ar.length + 1 : Nat) : Int)]
    have h2 := linesW_len (p := p) ((a0 :: ar).take k) (fun x hxm => (hx x (List.mem_of_mem_take hxm)).2)
    have h3 : ((a0 :: ar).take k).length ≤ 1000 := by rw [List.length_take]; omega
    rw [hob, List.length_append]
    simp only [List.length_cons, List.length_nil] at h1
    omega
  conv => whnf
  refine br (fun gb => ?_) (fun gb => ?_)
  · have gk : k < ar.length + 1 := by
      have h0 : (k : Int) < ((ar.length + 1 : Nat) : Int) := of_decide_eq_true gb
      omega
    clear gb
    have gl : k < (a0 :: ar).length := gk
    have hxk := hx _ (List.getElem_mem gl)
    have hex : ∃ t n, (a0 :: ar)[k] = (t, n) := ⟨_, _, rfl⟩
    obtain ⟨t, n, hkx⟩ := hex
    rw [hkx] at hxk
    replace hxk : t.length ≤ 70000 ∧ n.length ≤ 1000 := hxk
    have hcell := lcells_get 2 caps 0 (a0 :: ar) k (t, n) (by rw [List.getElem?_eq_getElem gl, hkx])
    have hnext : (ob ++ (if p = 1 then (putSR t).1 else [])) ++ numbersS n = numbersS [((ar.length + 1 : Nat) : Int)] ++ (((a0 :: ar).take (k + 1)).map (lineW p)).flatten := by
      rw [map_take_succ gl, hkx, lineW, hob]; simp only [List.append_assoc]
    conv => whnf
    refine ⟨rfl, ⟨by simp, by show (k : Int) < ((ar.length + 1 : Nat) : Int); omega⟩, ?_⟩
    conv => whnf
    refine ⟨rfl, ?_⟩
    conv => whnf
    refine ⟨_, by show (lcells 2 caps 0 (a0 :: ar))[0 + (k : Int).toNat]? = _; rw [Nat.zero_add, Int.toNat_natCast]; exact hcell, ?_⟩
    conv => whnf
    refine br (fun g1 => ?_) (fun g1 => ?_)
    · have g1' : p = 1 := of_decide_eq_true g1
      rw [if_pos g1'] at hnext
      have htl := putSR_len t
      have hlen2 : (ob ++ (putSR t).1).length ≤ 1000000000000 := by rw [List.length_append]; omega
      conv => whnf
      refine use (puts_fn hP F1 t ob cb (by omega) (by omega)) [(1, 4), (2, 7)] rfl ⟨rfl, rfl, trivial⟩ rfl ⟨outC_below (by omega) _ _ _, gE_below encB_plain _ _ _ _ _, trivial⟩ (by simp [SV.below, SA.below]) ⟨outC_sub (i := 1) (i' := 1) (j := 2) (j' := 7) (by rfl), sub_gE encB_plain (gE_self _ _ _ _), trivial⟩ ?_
      rintro out0 F0 h0 n1 hle ⟨rfl, rfl, rfl, c2, rfl⟩
      rcases n with _ | ⟨n0, nr⟩
      · skip
        conv => whnf
        refine use (put_fn hP F1 _ [] (ob ++ (putSR t).1) c2 Sl.nil (by simp) hlen2) [(1, 4), (2, 9)] rfl ⟨⟨rfl, rfl, rfl⟩, rfl, trivial⟩ rfl ⟨outC_below (by omega) _ _ _, gE_below encB_plain _ _ _ _ _, trivial⟩ (by simp [SV.below, SA.below]) ⟨outC_sub2 (i := 1) (i' := 1) (a := 3) (b := 2) (j := 9) (by rfl) (by rfl), sub_gE2 encB_plain, trivial⟩ ?_
        rintro out0 F0 h0 n1 hle ⟨rfl, rfl, rfl, c3, rfl⟩
        conv => whnf
        exact ⟨⟨(k + 1, (ob ++ (putSR t).1) ++ numbersS [], c3), by show k + 1 ≤ ar.length + 1; omega, hnext⟩, by show ar.length + 1 - (k + 1) < ar.length + 1 - k; omega,
          leR [(7, 10)] hH hT rfl ⟨trivial, linesE_below (by omega) _ _ _, famE_below _ _ _, outC_below (by omega) _ _ _, trivial, gE_below encB_plain _ _ _ _ _, trivial⟩ ⟨cnt (by omega), trivial⟩
          ⟨Fz.le_refl F1, linesE_subg (fun k => rfl), famE_sub (μ := sig [(7, 10)]) (caps := caps) (l := a0 :: ar), outC_sub2 (i := 1) (i' := 1) (a := 3) (b := 7) (j := 10) (by rfl) (by rfl), sub_gE2 encB_plain, trivial⟩⟩
      · skip
        conv => whnf
        refine lend 2 (fun k => (famE caps (a0 :: ar)).at k) rfl rfl rfl (fun k _ => encIB_ren _ _ _) (fun k _ => encIB_below _ _ _) ?_
        intro bf G1 lg1 hbf
        have hat := famE_at caps (l := a0 :: ar) (k := k) (x := (t, n0 :: nr)) (by rw [List.getElem?_eq_getElem gl, hkx])
        have hhas : (famE caps (a0 :: ar)).has k := ⟨gl, by show (!((((a0 :: ar).map (·.2)).getD k []).isEmpty)) = true; rw [hat]; rfl⟩
        have hrow : G1 (bf k) = some ((famE caps (a0 :: ar)).at k) := hbf k hhas
        have erow : (famE caps (a0 :: ar)).at k = .arr 3 1 ((n0 :: nr).map encI) (caps k) := by show SB.arr 3 1 ((((a0 :: ar).map (·.2)).getD k []).map encI) (caps k) = _; rw [hat]
        rw [erow, ← Nat.zero_add k] at hrow
        refine use (put_fn hP G1 _ (n0 :: nr) (ob ++ (putSR t).1) c2 (Sl.new (l := n0 :: nr) (cap := caps (0 + k)) hrow) (by simp at hxk ⊢; omega) hlen2) [(1, 4), (2, 9)] rfl ⟨⟨rfl, rfl, rfl, .inr ⟨rfl, rfl, rfl, rfl⟩⟩, rfl, trivial⟩ rfl ⟨outC_below (by omega) _ _ _, gE_below encB_plain _ _ _ _ _, trivial⟩ (by simp [SV.below, SA.below]) ⟨outC_sub2 (i := 1) (i' := 1) (a := 3) (b := 2) (j := 9) (by rfl) (by rfl), sub_gE2 encB_plain, trivial⟩ ?_
        rintro out0 F0 h0 n1 hle ⟨rfl, rfl, rfl, c3, rfl⟩
        refine ⟨G1, rfl, Fz.le_refl _, rfl, ?_⟩
        conv => whnf
        exact ⟨⟨(k + 1, (ob ++ (putSR t).1) ++ numbersS (n0 :: nr), c3), by show k + 1 ≤ ar.length + 1; omega, hnext⟩, by show ar.length + 1 - (k + 1) < ar.length + 1 - k; omega,
          leR [(7, 10)] hH hT rfl ⟨trivial, linesE_below (by omega) _ _ _, famE_below _ _ _, outC_below (by omega) _ _ _, trivial, gE_below encB_plain _ _ _ _ _, trivial⟩ ⟨cnt (by omega), trivial⟩
          ⟨Fz.le_refl F1, linesE_subg (fun k => rfl), famE_sub (μ := sig [(7, 10)]) (caps := caps) (l := a0 :: ar), outC_sub2 (i := 1) (i' := 1) (a := 3) (b := 7) (j := 10) (by rfl) (by rfl), sub_gE2 encB_plain, trivial⟩⟩
    · have g1' : ¬ p = 1 := of_decide_eq_false g1
      rw [if_neg g1', List.append_nil] at hnext
      have hlen2 : ob.length ≤ 1000000000000 := by omega
      rcases n with _ | ⟨n0, nr⟩
      · skip
        conv => whnf
        refine use (put_fn hP F1 _ [] (ob) cb Sl.nil (by simp) hlen2) [(1, 4), (2, 7)] rfl ⟨⟨rfl, rfl, rfl⟩, rfl, trivial⟩ rfl ⟨outC_below (by omega) _ _ _, gE_below encB_plain _ _ _ _ _, trivial⟩ (by simp [SV.below, SA.below]) ⟨outC_sub (i := 1) (i' := 1) (j := 2) (j' := 7) (by rfl), sub_gE encB_plain (gE_self _ _ _ _), trivial⟩ ?_
        rintro out0 F0 h0 n1 hle ⟨rfl, rfl, rfl, c3, rfl⟩
        conv => whnf
        exact ⟨⟨(k + 1, (ob) ++ numbersS [], c3), by show k + 1 ≤ ar.length + 1; omega, hnext⟩, by show ar.length + 1 - (k + 1) < ar.length + 1 - k; omega,
          leR [(7, 9)] hH hT rfl ⟨trivial, linesE_below (by omega) _ _ _, famE_below _ _ _, outC_below (by omega) _ _ _, trivial, gE_below encB_plain _ _ _ _ _, trivial⟩ ⟨cnt (by omega), trivial⟩
          ⟨Fz.le_refl F1, linesE_subg (fun k => rfl), famE_sub (μ := sig [(7, 9)]) (caps := caps) (l := a0 :: ar), outC_sub2 (i := 1) (i' := 1) (a := 3) (b := 7) (j := 9) (by rfl) (by rfl), sub_gE2 encB_plain, trivial⟩⟩
      · skip
        conv => whnf
        refine lend 2 (fun k => (famE caps (a0 :: ar)).at k) rfl rfl rfl (fun k _ => encIB_ren _ _ _) (fun k _ => encIB_below _ _ _) ?_
        intro bf G1 lg1 hbf
        have hat := famE_at caps (l := a0 :: ar) (k := k) (x := (t, n0 :: nr)) (by rw [List.getElem?_eq_getElem gl, hkx])
        have hhas : (famE caps (a0 :: ar)).has k := ⟨gl, by show (!((((a0 :: ar).map (·.2)).getD k []).isEmpty)) = true; rw [hat]; rfl⟩
        have hrow : G1 (bf k) = some ((famE caps (a0 :: ar)).at k) := hbf k hhas
        have erow : (famE caps (a0 :: ar)).at k = .arr 3 1 ((n0 :: nr).map encI) (caps k) := by show SB.arr 3 1 ((((a0 :: ar).map (·.2)).getD k []).map encI) (caps k) = _; rw [hat]
        rw [erow, ← Nat.zero_add k] at hrow
        refine use (put_fn hP G1 _ (n0 :: nr) (ob) cb (Sl.new (l := n0 :: nr) (cap := caps (0 + k)) hrow) (by simp at hxk ⊢; omega) hlen2) [(1, 4), (2, 7)] rfl ⟨⟨rfl, rfl, rfl, .inr ⟨rfl, rfl, rfl, rfl⟩⟩, rfl, trivial⟩ rfl ⟨outC_below (by omega) _ _ _, gE_below encB_plain _ _ _ _ _, trivial⟩ (by simp [SV.below, SA.below]) ⟨outC_sub (i := 1) (i' := 1) (j := 2) (j' := 7) (by rfl), sub_gE encB_plain (gE_self _ _ _ _), trivial⟩ ?_
        rintro out0 F0 h0 n1 hle ⟨rfl, rfl, rfl, c3, rfl⟩
        refine ⟨G1, rfl, Fz.le_refl _, rfl, ?_⟩
        conv => whnf
        exact ⟨⟨(k + 1, (ob) ++ numbersS (n0 :: nr), c3), by show k + 1 ≤ ar.length + 1; omega, hnext⟩, by show ar.length + 1 - (k + 1) < ar.length + 1 - k; omega,
          leR [(7, 9)] hH hT rfl ⟨trivial, linesE_below (by omega) _ _ _, famE_below _ _ _, outC_below (by omega) _ _ _, trivial, gE_below encB_plain _ _ _ _ _, trivial⟩ ⟨cnt (by omega), trivial⟩
          ⟨Fz.le_refl F1, linesE_subg (fun k => rfl), famE_sub (μ := sig [(7, 9)]) (caps := caps) (l := a0 :: ar), outC_sub2 (i := 1) (i' := 1) (a := 3) (b := 7) (j := 9) (by rfl) (by rfl), sub_gE2 encB_plain, trivial⟩⟩
  · have gk : k = ar.length + 1 := by
      have h0 : ¬ (k : Int) < ((ar.length + 1 : Nat) : Int) := of_decide_eq_false gb
      omega
    clear gb
    have hfin : ob = writeS p ⟨false, a0 :: ar, w, h, bits⟩ := by
      rw [hW, hob, gk]
      have : (a0 :: ar).take (ar.length + 1) = a0 :: ar := List.take_of_length_le (by simp)
      rw [this]; rfl
    rcases ob with _ | ⟨y, q⟩
    · conv => whnf
      exact writeEnd hfin l1 rfl rfl rfl
    · conv => whnf
      refine ⟨rfl, ?_⟩
      conv => whnf
      refine ⟨by simp, (y :: q).map encB, by show (((y :: q).map encB).drop 0).take (q.length + 1) = _; rw [List.drop_zero, List.take_of_length_le (by simp)], y :: q, rfl, ?_⟩
      conv => whnf
      exact writeEnd hfin l1 rfl rfl rfl
set_option maxHeartbeats 4000000 in
theorem writeNone_fn (hP : PFun) (F : Fz) (w h : Int) (bits : List UInt8) (c : Nat) (caps : Nat → Nat) (p : Int) (hp : ¬ 6 ≤ p) :
    Ct Tryz.prog 53 [valV ⟨false, [], w, h, bits⟩ 1 c, .va (.int .i64 p)] F (valH ⟨false, [], w, h, bits⟩ c caps) 3 (fun o F0 h0 n0 => n0 = 3 ∧ o = .ret (.va (.str (writeS p ⟨false, [], w, h, bits⟩))) ∧ h0 = valH ⟨false, [], w, h, bits⟩ c caps) := by
  have hW : writeS p ⟨false, [], w, h, bits⟩ = [] ++ numbersS [0] := by rw [writeS, if_neg (by simp), if_neg hp]; exact List.append_nil (numbersS [0])
  obtain ⟨o1, ho1⟩ : ∃ o1, [] ++ numbersS [0] = o1 := ⟨_, rfl⟩
  refine ct_of hΘ Tryz.func53 rfl (by decide) _ _ rfl rfl rfl ?_
  conv => whnf
  refine br (fun g => absurd (of_decide_eq_true g) hp) (fun _ => ?_)
  conv => whnf
  refine freezeC 5 (fun _ => .arr 3 1 ([(0 : Int)].map encI) 1) rfl rfl rfl (fun _ _ => rfl) (fun _ _ => SB.bB_ok rfl) ?_
  intro b1 F1 l1 hb1
  have hput := put_fn hP F1 _ [0] [] 0 (Sl.new (l := [(0 : Int)]) (cap := 1) (hb1 0 rfl)) (by simp) (by simp)
  rw [ho1] at hput hW
  rcases o1 with _ | ⟨x, r⟩
  · refine use hput [(1, 4), (2, 5)] rfl ⟨⟨rfl, rfl, rfl, .inr ⟨rfl, rfl, rfl, rfl⟩⟩, rfl, trivial⟩ rfl ⟨outC_below (by omega) _ _ _, gE_below encB_plain _ _ _ _ _, trivial⟩ (by simp [SV.below, SA.below]) ⟨rfl, rfl, trivial⟩ ?_
    rintro out0 F0 h0 n0 hle ⟨rfl, rfl, rfl, c1, rfl⟩
    conv => whnf
    refine rounds hΘ 1 ?_
    conv => whnf
    refine br (fun g => absurd g (by decide)) (fun _ => ?_)
    conv => whnf
    exact writeEnd hW.symm l1 rfl rfl rfl
  · refine use hput [(1, 4), (2, 5)] rfl ⟨⟨rfl, rfl, rfl, .inr ⟨rfl, rfl, rfl, rfl⟩⟩, rfl, trivial⟩ rfl ⟨outC_below (by omega) _ _ _, gE_below encB_plain _ _ _ _ _, trivial⟩ (by simp [SV.below, SA.below]) ⟨rfl, rfl, trivial⟩ ?_
    rintro out0 F0 h0 n0 hle ⟨rfl, rfl, rfl, c1, rfl⟩
    conv => whnf
    refine rounds hΘ 1 ?_
    conv => whnf
    refine br (fun g => absurd g (by decide)) (fun _ => ?_)
    conv => whnf
    refine ⟨rfl, ?_⟩
    conv => whnf
    refine ⟨by simp, (x :: r).map encB, convR _ (x :: r) _ rfl, x :: r, rfl, ?_⟩
    conv => whnf
    exact writeEnd hW.symm l1 rfl rfl rfl
/-- A value that can be written. -/
structure Fits (v : Val) : Prop where
  h1 : v.lines.length ≤ 1000
  h2 : ∀ x ∈ v.lines, x.1.length ≤ 70000 ∧ x.2.length ≤ 1000
  h3 : v.bits.length ≤ 70000
/-- write, whatever it is given. -/
theorem write_fn (hP : PFun) (F : Fz) (v : Val) (c : Nat) (caps : Nat → Nat) (p : Int) (hv : Fits v) (hp : p ≤ 8) :
    Ct Tryz.prog 53 [valV v 1 c, .va (.int .i64 p)] F (valH v c caps) 3 (fun o F0 h0 n0 => n0 = 3 ∧ o = .ret (.va (.str (writeS p v))) ∧ h0 = valH v c caps) := by
  by_cases hl : v.lost = true
  · exact writeLost_fn F v c caps p hl
  · have hl : v.lost = false := by simpa using hl
    by_cases h6 : 6 ≤ p
    · exact writeRaster_fn hP F v c caps p hl (by omega) hv.h3
    · obtain ⟨lost, L, w, h, bits⟩ := v
      replace hl : lost = false := hl
      subst hl
      by_cases hne : L = []
      · subst hne; exact writeNone_fn hP F w h bits c caps p h6
      · exact writeLines_fn hP F L w h bits c caps p h6 hne hv.h1 hv.h2
end Go.Proofs.YtblllibdahkgfaaGreatDoor

namespace Go.Proofs.YtblllibdahkgfaaGreatDoor
open Go Sx
set_option maxRecDepth 100000
end Go.Proofs.YtblllibdahkgfaaGreatDoor

namespace Go.Proofs.YtblllibdahkgfaaGreatDoor
open Go Sx
set_option maxRecDepth 100000
theorem lcells_set {B : Nat} {caps : Nat → Nat} {t : List UInt8} {n n' : List Int} (hn : n.length = n'.length) : ∀ (j : Nat) (L : List Ln) (i : Nat), L[i]? = some (t, n) → lcells B caps j (L.set i (t, n')) = lcells B caps j L
  | j, y :: r, 0, h => by
    simp at h; subst h
    rw [List.set_cons_zero, lcells, lcells]
    congr 2
    show [nA B j (caps j) n'] = [nA B j (caps j) n]
    cases n <;> cases n' <;> simp_all [nA]
  | j, y :: r, i + 1, h => by
    rw [List.set_cons_succ, lcells, lcells, lcells_set hn (j + 1) r i (by simpa using h)]
theorem linesE_set {B : Nat} {caps : Nat → Nat} {c : Nat} {t : List UInt8} {n n' : List Int} (hn : n.length = n'.length) {L : List Ln} {i : Nat} (h : L[i]? = some (t, n)) : linesE B caps c (L.set i (t, n')) = linesE B caps c L := by
  unfold linesE
  rw [lcells_set hn 0 L i h]
  cases L with
  | nil => simp at h
  | cons x r => cases i <;> rfl
theorem famE_at' {L : List Ln} {k : Nat} : (L.map (·.2)).getD k [] = ((L[k]?).map (·.2)).getD [] := by
  rw [List.getD_eq_getElem?_getD, List.getElem?_map]
theorem famE_set {caps : Nat → Nat} {t : List UInt8} {n n' : List Int} (hn : n.length = n'.length) {L : List Ln} {i : Nat} (h : L[i]? = some (t, n)) (hne : n ≠ []) :
    famE caps (L.set i (t, n')) = .fam L.length (fun k => !((L.map (·.2)).getD k []).isEmpty) (fun k => if k = i then .arr 3 1 (n'.map encI) (caps i) else .arr 3 1 (((L.map (·.2)).getD k []).map encI) (caps k)) := by
  have hi : i < L.length := (List.getElem?_eq_some_iff.1 h).1
  have hx : ∀ k, ((L.set i (t, n')).map (·.2)).getD k [] = if k = i then n' else (L.map (·.2)).getD k [] := by
    intro k
    rw [famE_at', famE_at', List.getElem?_set]
    by_cases hk : i = k
    · subst hk; rw [if_pos rfl, if_pos hi, if_pos rfl]; rfl
    · rw [if_neg hk, if_neg (fun e => hk e.symm)]
  unfold famE
  have e1 : (fun k => !(((L.set i (t, n')).map (·.2)).getD k []).isEmpty) = (fun k => !((L.map (·.2)).getD k []).isEmpty) := by
    funext k
    rw [hx]
    by_cases hk : k = i
    · subst hk
      rw [if_pos rfl, famE_at caps h]
      cases n with
      | nil => exact absurd rfl hne
      | cons a r => cases n' with
        | nil => simp at hn
        | cons b r' => rfl
    · rw [if_neg hk]
  have e2 : (fun k => SB.arr 3 1 ((((L.set i (t, n')).map (·.2)).getD k []).map encI) (caps k)) = (fun k => if k = i then .arr 3 1 (n'.map encI) (caps i) else .arr 3 1 (((L.map (·.2)).getD k []).map encI) (caps k)) := by
    funext k
    rw [hx]
    by_cases hk : k = i
    · subst hk; rw [if_pos rfl, if_pos rfl]
    · rw [if_neg hk, if_neg hk]
  rw [List.length_set, e1, e2]
theorem famSub {caps : Nat → Nat} {t : List UInt8} {n n' : List Int} (hn : n.length = n'.length) {L : List Ln} {i : Nat} (h : L[i]? = some (t, n)) (hne : n ≠ []) {row : List (List SA)} (hr : row = n'.map encI) {μ : Mu} :
    subE (some (.fam L.length (fun k => !((L.map (·.2)).getD k []).isEmpty) (fun k => if k = i then .arr 3 1 row (caps i) else .arr 3 1 (((L.map (·.2)).getD k []).map encI) (caps k)))) ((famE caps (L.set i (t, n'))).ren μ) := by
  subst hr
  rw [famE_ren, famE_set hn h hne]
  cases L with
  | nil => simp at h
  | cons x r => exact ⟨rfl, rfl, rfl⟩
theorem set_same {α : Type} {L : List α} {i : Nat} {x : α} (h : L[i]? = some x) : L.set i x = L := by
  apply List.ext_getElem?
  intro k
  rw [List.getElem?_set]
  by_cases hk : i = k
  · subst hk; rw [if_pos rfl, if_pos (List.getElem?_eq_some_iff.1 h).1, h]
  · rw [if_neg hk]
/-- What a step on one line answers. -/
def stepK (F : Fz) (c : Nat) (caps : Nat → Nat) (L : List Ln) : Out → Fz → List (Nat × Ent) → Nat → Prop := fun o F0 h0 n0 => F0 = F ∧ n0 = 3 ∧ o = .ret (.tup []) ∧ h0 = [(1, linesE 2 caps c L), (2, famE caps L)]
def limN (a : Int) : List Int → List Int
  | [] => []
  | x :: r => (if x > a then 0 else x) :: r
set_option maxHeartbeats 4000000 in
theorem limit_fn (F : Fz) (L : List Ln) (i c : Nat) (caps : Nat → Nat) (t : List UInt8) (x a : Int) (r : List Int) (h : L[i]? = some (t, x :: r)) :
    Ct Tryz.prog 70 [.va (.ptr ⟨1, 0, i, 2, 0⟩), .va (.int .i64 a)] F [(1, linesE 2 caps c L), (2, famE caps L)] 3
      (stepK F c caps (L.set i (t, limN a (x :: r)))) := by
  have hcell := lcells_get 2 caps 0 L i _ h
  rw [Nat.zero_add] at hcell
  have hi : i < L.length := (List.getElem?_eq_some_iff.1 h).1
  have hrow := famE_at caps h
  rcases L with _ | ⟨a0, ar⟩
  · exact absurd hi (by simp)
  have hn : ((x :: r).length = (limN a (x :: r)).length) := rfl
  have hE1 := linesE_set (B := 2) (caps := caps) (c := c) hn h
  have hs1 : ∀ μ : Mu, (∀ k, μ 2 k = (2, k)) → subE (some (linesE 2 caps c (a0 :: ar))) ((linesE 2 caps c ((a0 :: ar).set i (t, limN a (x :: r)))).ren μ) := fun μ hμ => by rw [hE1]; exact linesE_subg hμ
  have hs2 : decide (a < x) = false → ∀ μ : Mu, subE (some (famE caps (a0 :: ar))) ((famE caps ((a0 :: ar).set i (t, limN a (x :: r)))).ren μ) := fun g μ => by
    have hs : (a0 :: ar).set i (t, limN a (x :: r)) = a0 :: ar := by rw [limN, if_neg (of_decide_eq_false g)]; exact set_same h
    rw [hs]; exact famE_sub
  have hr : decide (a < x) = true → (List.map encI ((List.map (fun x : Ln => x.snd) (a0 :: ar)).getD i [])).set 0 [.int .i64 0] = (limN a (x :: r)).map encI := fun g => by
    rw [hrow, limN, if_pos (of_decide_eq_true g)]; rfl
  refine ct_of hΘ Tryz.func70 rfl (by decide) _ _ rfl rfl rfl ?_
  conv => whnf
  refine ⟨rfl, ?_⟩
  conv => whnf
  refine ⟨_, hcell, ?_⟩
  conv => whnf
  refine ⟨rfl, ⟨by simp, by show (0 : Int) < ((r.length + 1 : Nat) : Int); omega⟩, ?_⟩
  conv => whnf
  have hhas : (!((List.map (fun x : Ln => x.snd) (a0 :: ar)).getD i []).isEmpty) = true := by rw [hrow]; rfl
  have hel : (List.map encI ((List.map (fun x : Ln => x.snd) (a0 :: ar)).getD i []))[0]? = some [.int .i64 x] := by rw [hrow]; rfl
  have hel' : (List.map encI ((List.map (fun x : Ln => x.snd) (a0 :: ar)).getD i [])) = encI x :: r.map encI := by rw [hrow]; rfl
  refine ⟨⟨hi, hhas⟩, ?_⟩
  conv => whnf
  refine ⟨_, hel, ?_⟩
  conv => whnf
  refine br (fun g => ?_) (fun g => ?_)
  · conv => whnf
    refine ⟨rfl, ?_⟩
    conv => whnf
    refine ⟨_, hcell, ?_⟩
    conv => whnf
    refine ⟨rfl, ⟨by simp, by show (0 : Int) < ((r.length + 1 : Nat) : Int); omega⟩, ?_⟩
    conv => whnf
    refine ⟨⟨hi, hhas⟩, ?_⟩
    conv => whnf
    refine ⟨_, hel, ?_⟩
    conv => whnf
    refine clean [] (.ret (.tup [])) F [(1, linesE 2 caps c ((a0 :: ar).set i (t, limN a (x :: r)))), (2, famE caps ((a0 :: ar).set i (t, limN a (x :: r))))] 3 ⟨Fz.le_refl F, rfl, rfl, rfl, rfl⟩ (outE_refl _) rfl rfl (by simp [Out.below, SV.below]) ⟨linesE_below (by omega) _ _ _, famE_below _ _ _, trivial⟩ ⟨Fz.le_refl F, ?_, ?_, trivial⟩
    · exact hs1 _ (fun k => rfl)
    · refine famSub hn h (by simp) ?_
      exact hr g
  · conv => whnf
    refine clean [] (.ret (.tup [])) F [(1, linesE 2 caps c ((a0 :: ar).set i (t, limN a (x :: r)))), (2, famE caps ((a0 :: ar).set i (t, limN a (x :: r))))] 3 ⟨Fz.le_refl F, rfl, rfl, rfl, rfl⟩ (outE_refl _) rfl rfl (by simp [Out.below, SV.below]) ⟨linesE_below (by omega) _ _ _, famE_below _ _ _, trivial⟩ ⟨Fz.le_refl F, ?_, ?_, trivial⟩
    · exact hs1 _ (fun k => rfl)
    · exact hs2 g _
end Go.Proofs.YtblllibdahkgfaaGreatDoor

namespace Go.Proofs.YtblllibdahkgfaaGreatDoor
open Go Sx
set_option maxRecDepth 100000
def rndN (a : Int) : List Int → List Int
  | x :: y :: z :: r => x :: y :: (z - z.tmod a) :: r
  | l => l
set_option maxHeartbeats 4000000 in
theorem round_fn (F : Fz) (L : List Ln) (i c : Nat) (caps : Nat → Nat) (t : List UInt8) (x y z a : Int) (r : List Int) (h : L[i]? = some (t, x :: y :: z :: r)) (ha : 0 < a) (hz : -1000000000000000000 ≤ z) (hz' : z ≤ 1000000000000000000) (ha' : a ≤ 1000000000000000000) :
    Ct Tryz.prog 68 [.va (.ptr ⟨1, 0, i, 2, 0⟩), .va (.int .i64 a)] F [(1, linesE 2 caps c L), (2, famE caps L)] 3
      (stepK F c caps (L.set i (t, rndN a (x :: y :: z :: r)))) := by
  have hcell := lcells_get 2 caps 0 L i _ h
  rw [Nat.zero_add] at hcell
  have hi : i < L.length := (List.getElem?_eq_some_iff.1 h).1
  have hrow := famE_at caps h
  rcases L with _ | ⟨a0, ar⟩
  · exact absurd hi (by simp)
  have hn : ((x :: y :: z :: r).length = (rndN a (x :: y :: z :: r)).length) := rfl
  have hE1 := linesE_set (B := 2) (caps := caps) (c := c) hn h
  have hs1 : ∀ μ : Mu, (∀ k, μ 2 k = (2, k)) → subE (some (linesE 2 caps c (a0 :: ar))) ((linesE 2 caps c ((a0 :: ar).set i (t, rndN a (x :: y :: z :: r)))).ren μ) := fun μ hμ => by rw [hE1]; exact linesE_subg hμ
  have hm2 : z.tmod a < a := Int.tmod_lt_of_pos _ ha
  have hm1 : -a < z.tmod a := by
    have h1 : (-z).tmod a < a := Int.tmod_lt_of_pos _ ha
    rw [Int.neg_tmod] at h1
    omega
  have hw1 : IntKind.i64.wrap (z - z.tmod a) = z - z.tmod a := wrap64_id (by omega) (by omega)
  have hw2 : IntKind.i64.wrap (z - IntKind.i64.wrap (z.tmod a)) = z - z.tmod a := by rw [wrap64_id (n := z.tmod a) (by omega) (by omega), hw1]
  have hr : ∀ v, v = z - z.tmod a → (List.map encI ((List.map (fun x : Ln => x.snd) (a0 :: ar)).getD i [])).set 2 [.int .i64 v] = (rndN a (x :: y :: z :: r)).map encI := by
    intro v hv; subst hv
    rw [hrow, rndN]; rfl
  have hhas : (!((List.map (fun x : Ln => x.snd) (a0 :: ar)).getD i []).isEmpty) = true := by rw [hrow]; rfl
  have hel : (List.map encI ((List.map (fun x : Ln => x.snd) (a0 :: ar)).getD i []))[2]? = some [.int .i64 z] := by rw [hrow]; rfl
  refine ct_of hΘ Tryz.func68 rfl (by decide) _ _ rfl rfl rfl ?_
  conv => whnf
  refine drawP hΘ mixed (.look 0 (.look 1 (.look 2 (.look 3 (.look 4 (.look 5 (.look 6 (.look 7 (.look 8 (.look 9 (.look 10 (.look 11 (.look 12 (.look 13 (.look 14 (.look 15 (.last 16 .done))))))))))))))))) [1, 2] (by kernel_rfl) ?_
  conv => whnf
  refine ⟨rfl, ?_⟩
  conv => whnf
  refine ⟨rfl, ?_⟩
  conv => whnf
  refine ⟨_, hcell, ?_⟩
  conv => whnf
  refine ⟨rfl, ⟨by simp, by show (2 : Int) < ((r.length + 1 + 1 + 1 : Nat) : Int); omega⟩, ?_⟩
  conv => whnf
  refine ⟨rfl, ?_⟩
  conv => whnf
  refine ⟨⟨hi, hhas⟩, ?_⟩
  conv => whnf
  refine ⟨_, hel, ?_⟩
  conv => whnf
  refine ⟨rfl, ?_⟩
  conv => whnf
  refine ⟨rfl, ?_⟩
  conv => whnf
  refine ⟨_, hcell, ?_⟩
  conv => whnf
  refine ⟨rfl, ⟨by simp, by show (2 : Int) < ((r.length + 1 + 1 + 1 : Nat) : Int); omega⟩, ?_⟩
  conv => whnf
  refine ⟨rfl, ?_⟩
  conv => whnf
  refine ⟨⟨hi, hhas⟩, ?_⟩
  conv => whnf
  refine ⟨_, hel, ?_⟩
  conv => whnf
  refine ⟨(by omega), ?_⟩
  conv => whnf
  refine ⟨rfl, ⟨by simp, by show (2 : Int) < ((r.length + 1 + 1 + 1 : Nat) : Int); omega⟩, ?_⟩
  conv => whnf
  refine ⟨⟨hi, hhas⟩, ?_⟩
  conv => whnf
  refine ⟨_, hel, ?_⟩
  conv => whnf
  refine clean [] (.ret (.tup [])) F [(1, linesE 2 caps c ((a0 :: ar).set i (t, rndN a (x :: y :: z :: r)))), (2, famE caps ((a0 :: ar).set i (t, rndN a (x :: y :: z :: r))))] 3 ⟨Fz.le_refl F, rfl, rfl, rfl, rfl⟩ (outE_refl _) rfl rfl (by simp [Out.below, SV.below]) ⟨linesE_below (by omega) _ _ _, famE_below _ _ _, trivial⟩ ⟨Fz.le_refl F, ?_, ?_, trivial⟩
  · exact hs1 _ (fun k => rfl)
  · refine famSub hn h (by simp) ?_
    first
    | exact hr _ hw1
    | exact hr _ hw2
end Go.Proofs.YtblllibdahkgfaaGreatDoor
