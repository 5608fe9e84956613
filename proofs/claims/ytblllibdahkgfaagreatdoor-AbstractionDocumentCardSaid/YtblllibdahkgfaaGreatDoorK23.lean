import Derived.Test.YtblllibdahkgfaaGreatDoorK22

namespace Sx
open Go
def dB (n : Nat) (d : List (FuncId × List SA)) : Bool := d.all fun x => x.2.all fun a => a.bB n
theorem dB_ok {n : Nat} {d : List (FuncId × List SA)} (h : dB n d = true) : ∀ x ∈ d, ∀ a ∈ x.2, a.below n := fun x hx a ha =>
  SA.bB_ok (List.all_eq_true.1 (List.all_eq_true.1 h x hx) a ha)
theorem leId {T : List (List (Nat × SV))} {upd jl : List (Nat × SV)} {H : Hp} {hup : List (Nat × Ent)} {n0 nt N0 N : Nat} {d : List (FuncId × List SA)} (s : List (Nat × Mv)) (hH : WfH H N0) (hT : WfT T N0)
    (hc : (ckI s upd jl hup n0 nt N0 N && dB N0 d) = true) (wh : bH N hup) (ht : leT s T upd) (hh : leH s H hup) : Le ⟨T, H, N0, n0, nt, d⟩ ⟨upd :: jl :: T, hup :: H, N, n0, nt, d⟩ := by
  simp only [ckI, Bool.and_eq_true] at hc
  obtain ⟨⟨⟨⟨⟨⟨c1, c2⟩, c3⟩, c4⟩, c5⟩, c6⟩, c7⟩ := hc
  exact le_init N s hH hT c4 c3 (dB_ok c7) c1 c2 c6 (bT_of c5) wh ht hh
theorem leRd {T : List (List (Nat × SV))} {top upd jl : List (Nat × SV)} {H : Hp} {htop hup : List (Nat × Ent)} {nx1 n0 nt N0 N : Nat} {d : List (FuncId × List SA)} (s : List (Nat × Mv)) (hH : WfH H N0) (hT : WfT T N0)
    (hc : (ckI s upd jl hup n0 nt N0 N && (top.all fun p => (aget upd p.1).isSome || (aget jl p.1).isSome) && (htop.all fun p => (aget hup p.1).isSome || Nat.ble N0 p.1) && dB N0 d) = true)
    (wh : bH N hup) (ht : leT s (top :: jl :: T) upd) (hh : leH s (htop :: H) hup) : Le ⟨top :: jl :: T, htop :: H, nx1, n0, nt, d⟩ ⟨upd :: jl :: T, hup :: H, N, n0, nt, d⟩ := by
  simp only [ckI, Bool.and_eq_true] at hc
  obtain ⟨⟨⟨⟨⟨⟨⟨⟨c1, c2⟩, c3⟩, c4⟩, c5⟩, c6⟩, c7⟩, c8⟩, c9⟩ := hc
  exact le_round N0 N s hH hT c4 c3 (dB_ok c9) c1 c2 c7 c8 c6 (bT_of c5) wh ht hh
end Sx
namespace Go.Proofs.YtblllibdahkgfaaGreatDoor
open Go Sx
set_option maxRecDepth 100000
def valN (v : Val) (c : Nat) (caps : Nat → Nat) : List (Nat × Ent) := [(1, valE v 2 c), (2, linesE 3 caps c v.lines), (3, famE caps v.lines)]
theorem valN_bH (v : Val) (c : Nat) (caps : Nat → Nat) : bH 4 (valN v c caps) := ⟨valE_below (by omega) _, linesE_below (by omega) _ _ _, famE_below _ _ _, trivial⟩
theorem ren_nil (e : Ent) : e.ren (sig []) = e := by
  have h : ∀ a : SA, a.ren (sig []) = a := fun a => SA.ren_id (.inr fun _ _ => rfl) (fun _ => rfl)
  have hb : ∀ b : SB, b.ren (sig []) = b := fun b => by
    cases b with
    | cells t l => simp [SB.ren, map_id_of fun a _ => h a]
    | arr t sz L room =>
      simp only [SB.ren]; congr 1
      exact map_id_of fun x _ => map_id_of fun a _ => h a
    | obj o => rfl
  cases e <;> simp [Ent.ren, hb]
theorem valE_self (v : Val) (c : Nat) : subE (some (valE v 2 c)) ((valE v 2 c).ren (sig [])) := by
  rw [ren_nil]; exact rfl
theorem sat_MN {C : Ctx} {ρ : Rho} {F : Fz} {v : Val} {c : Nat} {caps : Nat → Nat} {w : World} (S : Sat C ρ [(0, .frz F) :: valM v c caps] 4 w) : Sat C ρ [(0, .frz F) :: valN v c caps] 4 w := by
  obtain ⟨lost, L, w1, h, bits⟩ := v
  cases L with
  | cons x r => exact S
  | nil => exact sat_ren (s := []) S (N0 := 4) (N := 4) rfl S.n0 (Nat.le_refl _) ⟨trivial, valN_bH _ _ _⟩ ⟨Fz.le_refl F, valE_self _ _, rfl, trivial, trivial⟩ (fun i hi => match i, hi with | 0, _ => rfl | 1, _ => rfl | 2, _ => rfl | 3, _ => rfl)
theorem sat_NM {C : Ctx} {ρ : Rho} {F : Fz} {v : Val} {c : Nat} {caps : Nat → Nat} {w : World} (S : Sat C ρ [(0, .frz F) :: valN v c caps] 4 w) : Sat C ρ [(0, .frz F) :: valM v c caps] 4 w := by
  obtain ⟨lost, L, w1, h, bits⟩ := v
  cases L with
  | cons x r => exact S
  | nil => exact sat_ren (s := []) S (N0 := 4) (N := 4) rfl S.n0 (Nat.le_refl _) ⟨trivial, valM_bH _ _ _⟩ ⟨Fz.le_refl F, valE_self _ _, trivial⟩ (fun i hi => match i, hi with | 0, _ => rfl | 1, _ => rfl | 2, _ => rfl | 3, _ => rfl)
def stepN (F : Fz) (v : Val) : Out → Fz → List (Nat × Ent) → Nat → Prop := fun o F0 h0 n0 => F0 = F ∧ n0 = 4 ∧ o = .ret (.tup []) ∧ ∃ c caps, h0 = valN v c caps
theorem ct_norm {f : FuncId} {args : List SV} {F : Fz} {v v' : Val} {c : Nat} {caps : Nat → Nat} (h : Ct Tryz.prog f args F (valM v c caps) 4 (stepV F v')) : Ct Tryz.prog f args F (valN v c caps) 4 (stepN F v') := by
  unfold Ct CallWP at *
  intro C ρ w vs S hr hb
  obtain ⟨he, hc⟩ := h C ρ w vs (sat_NM S) hr hb
  refine ⟨he, hc.mono ?_⟩
  rintro e w' ⟨out, h', nx', ρ', hk, rest⟩
  refine ⟨out, h', nx', ρ', ?_, rest⟩
  unfold Cln at *
  intro C' ρ'' w'' e' hn S' hr' hb'
  obtain ⟨out0, F0, h0, n0, ρ0, ⟨k1, k2, rfl, k4, c', caps', rfl⟩, q1, q2, q3, q4⟩ := hk C' ρ'' w'' e' hn S' hr' hb'
  exact ⟨out0, F0, _, 4, ρ0, ⟨k1, k2, rfl, k4, c', caps', rfl⟩, q1, q2, sat_MN q3, rfl⟩
end Go.Proofs.YtblllibdahkgfaaGreatDoor

namespace Go.Proofs.YtblllibdahkgfaaGreatDoor
open Go Sx
set_option maxRecDepth 100000
theorem gA_ren2 {α : Type} {τ μ : Mu} {i j m : Nat} (h1 : τ i 0 = (m, 0)) (h2 : μ j 0 = (m, 0)) (sz c : Nat) (l : List α) : (gA sz i c l).ren τ = (gA sz j c l).ren μ := by
  cases l with
  | nil => rfl
  | cons x r => simp only [gA, SA.ren, h1, h2]
theorem valE_sub {τ μ : Mu} {i j m : Nat} (h1 : τ i 0 = (m, 0)) (h2 : μ j 0 = (m, 0)) (v : Val) (c : Nat) : subE (some ((valE v i c).ren τ)) ((valE v j c).ren μ) := by
  show SB.ren τ _ = SB.ren μ _
  simp only [SB.ren, List.map_cons, List.map_nil, gA_ren2 h1 h2]
  rfl
theorem valE_sub1 {μ : Mu} {j m : Nat} (h2 : μ j 0 = (m, 0)) (v : Val) (c : Nat) : subE (some (valE v m c)) ((valE v j c).ren μ) := by
  have := valE_sub (τ := sig []) (μ := μ) (i := m) (j := j) (m := m) rfl h2 v c
  rw [ren_nil] at this; exact this
theorem valA_ren {τ μ : Mu} {i j m : Nat} (h1 : τ i 0 = (m, 0)) (h2 : μ j 0 = (m, 0)) (v : Val) (c : Nat) :
    [SA.lit v.lost, gA 2 i c v.lines, .int .i64 v.w, .int .i64 v.h, .str v.bits].map (SA.ren τ) = [SA.lit v.lost, gA 2 j c v.lines, .int .i64 v.w, .int .i64 v.h, .str v.bits].map (SA.ren μ) := by
  simp only [List.map_cons, List.map_nil, gA_ren2 h1 h2]; rfl
theorem valArgs_below (v : Val) (c : Nat) (p : Int) : ∀ s ∈ [valV v 1 c, .va (.int .i64 p)], SV.below 3 s := by
  intro s hs
  simp only [List.mem_cons, List.not_mem_nil, or_false] at hs
  rcases hs with rfl | rfl
  · intro a ha
    simp only [List.mem_cons, List.not_mem_nil, or_false] at ha
    rcases ha with rfl | rfl | rfl | rfl | rfl
    · trivial
    · exact gA2_below (by omega) _ _ _
    · trivial
    · trivial
    · trivial
  · trivial
theorem runS_take {l : List Stp} {k : Nat} (v : Val) (hk : k < l.length) : runS (l.take (k + 1)) v = if (runS (l.take k) v).lost = true then runS (l.take k) v else stepS l[k] (runS (l.take k) v) := by
  rw [List.take_succ_eq_append_getElem hk]
  unfold runS
  rw [List.foldl_append]
  rfl
theorem readK_none' {p : Int} {s : List UInt8} {o : Out} {h0 : List (Nat × Ent)} {n0 : Nat} (h : readS p s = none) (hc : match readS p s with
  | some v => ∃ c caps, n0 = 3 ∧ o = .ret (valV v 1 c) ∧ h0 = [(1, linesE 2 caps c v.lines), (2, famE caps v.lines)]
  | none => n0 = 1 ∧ o = .panic perr ∧ h0 = []) : n0 = 1 ∧ o = .panic perr ∧ h0 = [] := by rw [h] at hc; exact hc
theorem readK_some' {p : Int} {s : List UInt8} {o : Out} {h0 : List (Nat × Ent)} {n0 : Nat} {v : Val} (h : readS p s = some v) (hc : match readS p s with
  | some v => ∃ c caps, n0 = 3 ∧ o = .ret (valV v 1 c) ∧ h0 = [(1, linesE 2 caps c v.lines), (2, famE caps v.lines)]
  | none => n0 = 1 ∧ o = .panic perr ∧ h0 = []) : ∃ c caps, n0 = 3 ∧ o = .ret (valV v 1 c) ∧ h0 = [(1, linesE 2 caps c v.lines), (2, famE caps v.lines)] := by rw [h] at hc; exact hc
theorem valid_parts {p : Int} {l : List Stp} (h : validS p l = true) : (1 ≤ p ∧ p ≤ 8) ∧ l.length ≤ 64 ∧ ∀ s ∈ l, stepOk p s = true := by
  unfold validS at h
  simp only [Bool.and_eq_true, decide_eq_true_eq, List.all_eq_true] at h
  exact ⟨h.1, h.2.1, h.2.2⟩
set_option maxHeartbeats 8000000 in
theorem apply_fn (F : Fz) (hM : MLF F) (sa : SA) (l : List Stp) (p : Int) (s : List UInt8) (ha : StepsAt F sa l) (hl : l.length < 1000000) (hs : s.length ≤ 1000000000000000000) :
    Fo Tryz.prog F 26 [.va (.int .i64 p), .va sa, .va (.str s)] (fun o F' => o = .ret (.tup [.va (.str (applyS p l s).1), .va (.int .i64 (applyS p l s).2)])) := by
  have hvalid := valid_fn F sa l p ha hl
  have ha' := ha
  have fin : ∀ (x : List UInt8) (e : Int) (F1 : Fz) (h : Hp) (nx : Nat), applyS p l s = (x, e) → lget h 0 = some (.frz F1) → Fz.le F F1 →
      Cln 1 (FoK F fun o F' => o = .ret (.tup [.va (.str (applyS p l s).1), .va (.int .i64 (applyS p l s).2)])) (.ret (.tup [.va (.str x), .va (.int .i64 e)])) h nx := by
    intro x e F1 h nx hx h0 hle
    exact endFo (.ret (.tup [.va (.str x), .va (.int .i64 e)])) F1 h0 hle (Fz.le_refl F1) (by rw [hx]) (outE_refl _) rfl
  have hrdc : readS p s = none ∨ ∃ v, readS p s = some v := by
    cases readS p s with
    | none => exact .inl rfl
    | some v => exact .inr ⟨v, rfl⟩
  obtain ⟨han, hab, hae, hac, haL, har, rfl, ha1, ha2, ha3, ha4⟩ := ha
  unfold Fo
  refine call_ofD hΘ Tryz.func26 rfl (by decide) 41 _ rfl rfl rfl (sx_sound hΘ _ _ _ ?_)
  conv => whnf
  refine WP_defer rfl rfl rfl rfl ?_
  conv => whnf
  refine usePu (hvalid) rfl (argsE_refl _) rfl ?_
  conv => whnf
  refine useFo (must_fn F (validS p l)) rfl ⟨rfl, trivial⟩ rfl ?_
  rintro _ _ l1 ⟨rfl, ⟨hv, rfl⟩ | ⟨hv, rfl⟩⟩
  · have hpl := valid_parts hv
    conv => whnf
    refine use (read_fn cfun tfun F s p hs) [] rfl ⟨rfl, rfl, trivial⟩ rfl trivial (by simp [SV.below, SA.below]) trivial ?_
    rintro out0 F0 h0 n0 hle ⟨rfl, hcase⟩
    rcases hrdc with hrd | ⟨v, hrd⟩
    · replace hcase := readK_none' hrd hcase
      obtain ⟨rfl, rfl, rfl⟩ := hcase
      conv => whnf
      refine ⟨rfl, caught_def1 1 2 [] 0 rfl rfl (by decide) ?_⟩
      conv => whnf
      exact fin [] 70 F _ _ (by rw [applyS, if_pos hv, hrd]) rfl (Fz.le_refl F)
    · replace hcase := readK_some' hrd hcase
      obtain ⟨c, caps, rfl, rfl, rfl⟩ := hcase
      conv => whnf
      refine useFo (kinds_fn F) rfl (argsE_refl _) rfl ?_
      rintro _ F1 l2 ⟨bk, rfl, hK⟩
      conv => whnf
      refine loop_at hΘ (X := { x : Nat × Val × Nat × (Nat → Nat) // x.1 ≤ l.length ∧ x.2.1 = runS (l.take x.1) v }) (fun x => [(22, .va (.int .i64 x.1.1))]) [11, 23, 24, 25, 26, 27, 28, 29, 30, 31, 32, 33, 34, 35, 36, 37]
        (fun x => [(0, .frz F1), (3, linesE 4 x.1.2.2.2 x.1.2.2.1 x.1.2.1.lines), (4, famE x.1.2.2.2 x.1.2.1.lines), (5, valE x.1.2.1 3 x.1.2.2.1)]) 7 (fun x => l.length - x.1.1) ⟨(0, v, c, caps), by simp, rfl⟩
        (fun hH hT => leId [] hH hT rfl ⟨trivial, linesE_below (by omega) _ _ _, famE_below _ _ _, valE_below (by omega) _, trivial⟩ ⟨rfl, trivial⟩ ⟨Fz.le_refl F1, linesE_sub2 (fun k => rfl) (fun k => rfl) rfl, famE_sub2 rfl, valE_sub (τ := tau [] 1 3) (μ := sig []) (i := 1) (j := 3) (m := 3) rfl rfl v c, trivial⟩) ?_
      rintro ⟨⟨k, u, c1, cp1⟩, hk, hu⟩ hH hT
      replace hk : k ≤ l.length := hk
      replace hu : u = runS (l.take k) v := hu
      conv => whnf
      refine br (fun gb => ?_) (fun gb => ?_)
      · have gk : k < l.length := by
          have h0 : (k : Int) < (l.length : Int) := of_decide_eq_true gb
          omega
        clear gb
        have hst := runS_take v gk
        rw [← hu] at hst
        have hex : ∃ κ ν, l[k] = (κ, ν) := ⟨_, _, rfl⟩
        obtain ⟨κ, ν, hkx⟩ := hex
        have hel : haL[hae + (k : Int).toNat]? = some (enc (κ, ν)) := by rw [← hkx]; exact Sl.at ha4 gk
        have hok : stepOk p (κ, ν) = true := by rw [← hkx]; exact hpl.2.2 _ (List.getElem_mem gk)
        have hvk : VOK p u := by
          rw [hu]; exact VOK_run hpl.1 _ _ (fun s hs => hpl.2.2 s (List.mem_of_mem_take hs)) (readS_ok hrd).2
        rw [hkx] at hst
        obtain ⟨lost, L, w, h, bits⟩ := u
        rcases lost with _ | _
        · replace hst : runS (l.take (k + 1)) v = stepS (κ, ν) ⟨false, L, w, h, bits⟩ := hst
          have hdo := fun c caps => ct_norm (do_fn F1 bk hK (hM.mono l2) p κ ν ⟨false, L, w, h, bits⟩ hpl.1 hok hvk rfl c caps)
          have hκ : κ = 1 ∨ κ = 2 ∨ κ = 3 ∨ κ = 4 ∨ κ = 5 ∨ κ = 6 := by
            have := stepOk_cases hpl.1 hok; omega
          clear hok hkx hvk
          rcases hκ with rfl | rfl | rfl | rfl | rfl | rfl
          · conv => whnf
            refine ⟨Sl.lt ha1 gk, ⟨by simp, by simpa using gk⟩, ?_⟩
            conv => whnf
            refine ⟨_, l2 _ _ (ha2 (Sl.lt ha1 gk)), ?_⟩
            conv => whnf
            refine ⟨_, hel, ?_⟩
            conv => whnf
            refine drawP hΘ mixed (.look 0 (.look 1 (.look 2 (.look 3 (.look 4 (.look 5 (.look 6 (.alt 7 .done .nil)))))))) [6, 7] (by kernel_rfl) ?_
            conv => whnf
            repeat' ((conv => whnf); first
              | refine ⟨rfl, ?_⟩
              | refine ⟨Fz.le_refl _, rfl, ?_⟩
              | refine ⟨Fz.le_refl _, rfl, rfl, ?_⟩
              | refine ⟨⟨by simp, by simp⟩, ?_⟩
              | fail)
            conv => whnf
            refine use (hdo c1 cp1) [(1, 5), (2, 3), (3, 4)] rfl ⟨rfl, rfl, rfl, trivial⟩ rfl (valN_bH _ _ _) (by simp [SV.below, SA.below, fp, doC]) ⟨valE_sub1 (μ := sig [(1, 5), (2, 3), (3, 4)]) (j := 2) (m := 3) rfl _ _, linesE_subg (fun k => rfl), famE_sub, trivial⟩ ?_
            rintro out0 F0 h0 n1 hle ⟨rfl, rfl, rfl, c2, cp2, rfl⟩
            conv => whnf
            refine ⟨Fz.le_refl _, rfl, rfl, ?_⟩
            conv => whnf
            exact ⟨⟨(k + 1, stepS (1, ν) ⟨false, L, w, h, bits⟩, c2, cp2), by show k + 1 ≤ l.length; omega, hst.symm⟩, by show l.length - (k + 1) < l.length - k; omega,
              leRd [] hH hT rfl ⟨trivial, linesE_below (by omega) _ _ _, famE_below _ _ _, valE_below (by omega) _, trivial⟩ ⟨cnt (by omega), trivial⟩
              ⟨Fz.le_refl _, linesE_sub2 (fun k => rfl) (fun k => rfl) rfl, famE_sub2 rfl, valE_sub (τ := tau [(1, 5), (2, 3), (3, 4)] 4 8) (μ := sig []) (i := 2) (j := 3) (m := 3) rfl rfl _ _, trivial⟩⟩
          · conv => whnf
            refine ⟨Sl.lt ha1 gk, ⟨by simp, by simpa using gk⟩, ?_⟩
            conv => whnf
            refine ⟨_, l2 _ _ (ha2 (Sl.lt ha1 gk)), ?_⟩
            conv => whnf
            refine ⟨_, hel, ?_⟩
            conv => whnf
            refine drawP hΘ mixed (.look 0 (.look 1 (.look 2 (.look 3 (.look 4 (.look 5 (.look 6 (.alt 7 .done .nil)))))))) [6, 7] (by kernel_rfl) ?_
            conv => whnf
            repeat' ((conv => whnf); first
              | refine ⟨rfl, ?_⟩
              | refine ⟨Fz.le_refl _, rfl, ?_⟩
              | refine ⟨Fz.le_refl _, rfl, rfl, ?_⟩
              | refine ⟨⟨by simp, by simp⟩, ?_⟩
              | fail)
            conv => whnf
            refine use (hdo c1 cp1) [(1, 5), (2, 3), (3, 4)] rfl ⟨rfl, rfl, rfl, trivial⟩ rfl (valN_bH _ _ _) (by simp [SV.below, SA.below, fp, doC]) ⟨valE_sub1 (μ := sig [(1, 5), (2, 3), (3, 4)]) (j := 2) (m := 3) rfl _ _, linesE_subg (fun k => rfl), famE_sub, trivial⟩ ?_
            rintro out0 F0 h0 n1 hle ⟨rfl, rfl, rfl, c2, cp2, rfl⟩
            conv => whnf
            refine ⟨Fz.le_refl _, rfl, rfl, ?_⟩
            conv => whnf
            exact ⟨⟨(k + 1, stepS (2, ν) ⟨false, L, w, h, bits⟩, c2, cp2), by show k + 1 ≤ l.length; omega, hst.symm⟩, by show l.length - (k + 1) < l.length - k; omega,
              leRd [] hH hT rfl ⟨trivial, linesE_below (by omega) _ _ _, famE_below _ _ _, valE_below (by omega) _, trivial⟩ ⟨cnt (by omega), trivial⟩
              ⟨Fz.le_refl _, linesE_sub2 (fun k => rfl) (fun k => rfl) rfl, famE_sub2 rfl, valE_sub (τ := tau [(1, 5), (2, 3), (3, 4)] 4 8) (μ := sig []) (i := 2) (j := 3) (m := 3) rfl rfl _ _, trivial⟩⟩
          · conv => whnf
            refine ⟨Sl.lt ha1 gk, ⟨by simp, by simpa using gk⟩, ?_⟩
            conv => whnf
            refine ⟨_, l2 _ _ (ha2 (Sl.lt ha1 gk)), ?_⟩
            conv => whnf
            refine ⟨_, hel, ?_⟩
            conv => whnf
            refine drawP hΘ mixed (.look 0 (.look 1 (.look 2 (.look 3 (.look 4 (.look 5 (.look 6 (.alt 7 .done .nil)))))))) [6, 7] (by kernel_rfl) ?_
            conv => whnf
            repeat' ((conv => whnf); first
              | refine ⟨rfl, ?_⟩
              | refine ⟨Fz.le_refl _, rfl, ?_⟩
              | refine ⟨Fz.le_refl _, rfl, rfl, ?_⟩
              | refine ⟨⟨by simp, by simp⟩, ?_⟩
              | fail)
            conv => whnf
            refine use (hdo c1 cp1) [(1, 5), (2, 3), (3, 4)] rfl ⟨rfl, rfl, rfl, trivial⟩ rfl (valN_bH _ _ _) (by simp [SV.below, SA.below, fp, doC]) ⟨valE_sub1 (μ := sig [(1, 5), (2, 3), (3, 4)]) (j := 2) (m := 3) rfl _ _, linesE_subg (fun k => rfl), famE_sub, trivial⟩ ?_
            rintro out0 F0 h0 n1 hle ⟨rfl, rfl, rfl, c2, cp2, rfl⟩
            conv => whnf
            refine ⟨Fz.le_refl _, rfl, rfl, ?_⟩
            conv => whnf
            exact ⟨⟨(k + 1, stepS (3, ν) ⟨false, L, w, h, bits⟩, c2, cp2), by show k + 1 ≤ l.length; omega, hst.symm⟩, by show l.length - (k + 1) < l.length - k; omega,
              leRd [] hH hT rfl ⟨trivial, linesE_below (by omega) _ _ _, famE_below _ _ _, valE_below (by omega) _, trivial⟩ ⟨cnt (by omega), trivial⟩
              ⟨Fz.le_refl _, linesE_sub2 (fun k => rfl) (fun k => rfl) rfl, famE_sub2 rfl, valE_sub (τ := tau [(1, 5), (2, 3), (3, 4)] 4 8) (μ := sig []) (i := 2) (j := 3) (m := 3) rfl rfl _ _, trivial⟩⟩
          · conv => whnf
            refine ⟨Sl.lt ha1 gk, ⟨by simp, by simpa using gk⟩, ?_⟩
            conv => whnf
            refine ⟨_, l2 _ _ (ha2 (Sl.lt ha1 gk)), ?_⟩
            conv => whnf
            refine ⟨_, hel, ?_⟩
            conv => whnf
            refine drawP hΘ mixed (.look 0 (.look 1 (.look 2 (.look 3 (.look 4 (.look 5 (.look 6 (.alt 7 .done .nil)))))))) [6, 7] (by kernel_rfl) ?_
            conv => whnf
            repeat' ((conv => whnf); first
              | refine ⟨rfl, ?_⟩
              | refine ⟨Fz.le_refl _, rfl, ?_⟩
              | refine ⟨Fz.le_refl _, rfl, rfl, ?_⟩
              | refine ⟨⟨by simp, by simp⟩, ?_⟩
              | fail)
            conv => whnf
            refine use (hdo c1 cp1) [(1, 5), (2, 3), (3, 4)] rfl ⟨rfl, rfl, rfl, trivial⟩ rfl (valN_bH _ _ _) (by simp [SV.below, SA.below, fp, doC]) ⟨valE_sub1 (μ := sig [(1, 5), (2, 3), (3, 4)]) (j := 2) (m := 3) rfl _ _, linesE_subg (fun k => rfl), famE_sub, trivial⟩ ?_
            rintro out0 F0 h0 n1 hle ⟨rfl, rfl, rfl, c2, cp2, rfl⟩
            conv => whnf
            refine ⟨Fz.le_refl _, rfl, rfl, ?_⟩
            conv => whnf
            exact ⟨⟨(k + 1, stepS (4, ν) ⟨false, L, w, h, bits⟩, c2, cp2), by show k + 1 ≤ l.length; omega, hst.symm⟩, by show l.length - (k + 1) < l.length - k; omega,
              leRd [] hH hT rfl ⟨trivial, linesE_below (by omega) _ _ _, famE_below _ _ _, valE_below (by omega) _, trivial⟩ ⟨cnt (by omega), trivial⟩
              ⟨Fz.le_refl _, linesE_sub2 (fun k => rfl) (fun k => rfl) rfl, famE_sub2 rfl, valE_sub (τ := tau [(1, 5), (2, 3), (3, 4)] 4 8) (μ := sig []) (i := 2) (j := 3) (m := 3) rfl rfl _ _, trivial⟩⟩
          · conv => whnf
            refine ⟨Sl.lt ha1 gk, ⟨by simp, by simpa using gk⟩, ?_⟩
            conv => whnf
            refine ⟨_, l2 _ _ (ha2 (Sl.lt ha1 gk)), ?_⟩
            conv => whnf
            refine ⟨_, hel, ?_⟩
            conv => whnf
            refine drawP hΘ mixed (.look 0 (.look 1 (.look 2 (.look 3 (.look 4 (.look 5 (.look 6 (.alt 7 .done .nil)))))))) [6, 7] (by kernel_rfl) ?_
            conv => whnf
            repeat' ((conv => whnf); first
              | refine ⟨rfl, ?_⟩
              | refine ⟨Fz.le_refl _, rfl, ?_⟩
              | refine ⟨Fz.le_refl _, rfl, rfl, ?_⟩
              | refine ⟨⟨by simp, by simp⟩, ?_⟩
              | fail)
            conv => whnf
            refine use (hdo c1 cp1) [(1, 5), (2, 3), (3, 4)] rfl ⟨rfl, rfl, trivial⟩ rfl (valN_bH _ _ _) (by simp [SV.below, SA.below, fp, doC]) ⟨valE_sub1 (μ := sig [(1, 5), (2, 3), (3, 4)]) (j := 2) (m := 3) rfl _ _, linesE_subg (fun k => rfl), famE_sub, trivial⟩ ?_
            rintro out0 F0 h0 n1 hle ⟨rfl, rfl, rfl, c2, cp2, rfl⟩
            conv => whnf
            refine ⟨Fz.le_refl _, rfl, rfl, ?_⟩
            conv => whnf
            exact ⟨⟨(k + 1, stepS (5, ν) ⟨false, L, w, h, bits⟩, c2, cp2), by show k + 1 ≤ l.length; omega, hst.symm⟩, by show l.length - (k + 1) < l.length - k; omega,
              leRd [] hH hT rfl ⟨trivial, linesE_below (by omega) _ _ _, famE_below _ _ _, valE_below (by omega) _, trivial⟩ ⟨cnt (by omega), trivial⟩
              ⟨Fz.le_refl _, linesE_sub2 (fun k => rfl) (fun k => rfl) rfl, trivial, valE_sub (τ := tau [(1, 5), (2, 3), (3, 4)] 4 8) (μ := sig []) (i := 2) (j := 3) (m := 3) rfl rfl _ _, trivial⟩⟩
          · conv => whnf
            refine ⟨Sl.lt ha1 gk, ⟨by simp, by simpa using gk⟩, ?_⟩
            conv => whnf
            refine ⟨_, l2 _ _ (ha2 (Sl.lt ha1 gk)), ?_⟩
            conv => whnf
            refine ⟨_, hel, ?_⟩
            conv => whnf
            refine drawP hΘ mixed (.look 0 (.look 1 (.look 2 (.look 3 (.look 4 (.look 5 (.look 6 (.alt 7 .done .nil)))))))) [6, 7] (by kernel_rfl) ?_
            conv => whnf
            repeat' ((conv => whnf); first
              | refine ⟨rfl, ?_⟩
              | refine ⟨Fz.le_refl _, rfl, ?_⟩
              | refine ⟨Fz.le_refl _, rfl, rfl, ?_⟩
              | refine ⟨⟨by simp, by simp⟩, ?_⟩
              | fail)
            conv => whnf
            refine use (hdo c1 cp1) [(1, 5), (2, 3), (3, 4)] rfl ⟨rfl, rfl, trivial⟩ rfl (valN_bH _ _ _) (by simp [SV.below, SA.below, fp, doC]) ⟨valE_sub1 (μ := sig [(1, 5), (2, 3), (3, 4)]) (j := 2) (m := 3) rfl _ _, linesE_subg (fun k => rfl), famE_sub, trivial⟩ ?_
            rintro out0 F0 h0 n1 hle ⟨rfl, rfl, rfl, c2, cp2, rfl⟩
            conv => whnf
            refine ⟨Fz.le_refl _, rfl, rfl, ?_⟩
            conv => whnf
            exact ⟨⟨(k + 1, stepS (6, ν) ⟨false, L, w, h, bits⟩, c2, cp2), by show k + 1 ≤ l.length; omega, hst.symm⟩, by show l.length - (k + 1) < l.length - k; omega,
              leRd [] hH hT rfl ⟨trivial, linesE_below (by omega) _ _ _, famE_below _ _ _, valE_below (by omega) _, trivial⟩ ⟨cnt (by omega), trivial⟩
              ⟨Fz.le_refl _, linesE_sub2 (fun k => rfl) (fun k => rfl) rfl, trivial, valE_sub (τ := tau [(1, 5), (2, 3), (3, 4)] 4 8) (μ := sig []) (i := 2) (j := 3) (m := 3) rfl rfl _ _, trivial⟩⟩
        · replace hst : runS (l.take (k + 1)) v = ⟨true, L, w, h, bits⟩ := hst
          conv => whnf
          refine ⟨Sl.lt ha1 gk, ⟨by simp, by simpa using gk⟩, ?_⟩
          conv => whnf
          refine ⟨_, l2 _ _ (ha2 (Sl.lt ha1 gk)), ?_⟩
          conv => whnf
          refine ⟨_, hel, ?_⟩
          conv => whnf
          exact ⟨⟨(k + 1, ⟨true, L, w, h, bits⟩, c1, cp1), by show k + 1 ≤ l.length; omega, hst.symm⟩, by show l.length - (k + 1) < l.length - k; omega,
            leRd [] hH hT rfl ⟨trivial, linesE_below (by omega) _ _ _, famE_below _ _ _, valE_below (by omega) _, trivial⟩ ⟨cnt (by omega), trivial⟩
            ⟨Fz.le_refl _, linesE_subg (fun k => rfl), famE_sub, valE_sub1 (μ := sig []) (j := 3) (m := 3) rfl _ _, trivial⟩⟩
      · have gk : k = l.length := by
          have h0 : ¬ (k : Int) < (l.length : Int) := of_decide_eq_false gb
          omega
        clear gb
        have hvk : VOK p u := by
          rw [hu]; exact VOK_run hpl.1 _ _ (fun s hs => hpl.2.2 s (List.mem_of_mem_take hs)) (readS_ok hrd).2
        have hap : applyS p l s = (writeS p u, 0) := by
          rw [applyS, if_pos hv, hrd, hu, gk, List.take_length]
        have hwr := write_fn pfun F1 u c1 cp1 p (fits_of hpl.1 hvk) hpl.1.2
        conv => whnf
        refine use hwr [(1, 3), (2, 4)] rfl ⟨congrArg SV.agg (valA_ren (i := 1) (j := 3) (m := 3) ?_ ?_ u c1), rfl, trivial⟩ rfl (valH_bH _ _ _) (valArgs_below _ _ _) ⟨linesE_subg (fun k => rfl), famE_sub, trivial⟩ ?_
        · rfl
        · rfl
        rintro out0 F0 h0 n1 hle ⟨rfl, rfl, rfl⟩
        conv => whnf
        refine ⟨rfl, caught_def0 1 2 ?_⟩
        conv => whnf
        exact fin _ 0 F0 _ _ hap rfl (Fz.le_trans l2 hle)
  · conv => whnf
    refine ⟨rfl, caught_def1 1 2 [] 0 rfl rfl (by decide) ?_⟩
    conv => whnf
    exact fin [] 70 F _ _ (by rw [applyS, if_neg (by rw [hv]; simp)]) rfl (Fz.le_refl F)
end Go.Proofs.YtblllibdahkgfaaGreatDoor

namespace Sx
open Go
/-- A piece of code is run, and what it leaves is told anew. -/
theorem WP_cut {P : Program} {c : Code} {st : St} {Q : SE → St → Prop} {X : Type} (I0 : St) (I : X → St) (h0 : WfH st.h st.nx → WfT st.t st.nx → Le st I0 ∧ WP P c I0 (fun e st' => e = .normal ∧ ∃ x, Le st' (I x))) (h2 : ∀ x, Q .normal (I x)) : WP P c st Q := by
  unfold WP
  intro C ρ a w D
  obtain ⟨h0, h1⟩ := h0 D.wfH D.wfT
  unfold Le at h0
  obtain ⟨ρ1, D1⟩ := h0 C ρ a w D
  unfold WP at h1
  refine wp_mono (h1 C ρ1 a w D1) ?_
  rintro e a' w' ⟨se, st', ρ', ⟨rfl, x, hle⟩, rfl, D'⟩
  unfold Le at hle
  obtain ⟨ρ2, D2⟩ := hle C ρ' a' w' D'
  exact ⟨.normal, I x, ρ2, h2 x, rfl, D2⟩
end Sx
namespace Go.Proofs.YtblllibdahkgfaaGreatDoor
open Go Sx
set_option maxRecDepth 100000
theorem Fo_lit {P : Program} {F : Fz} {f : FuncId} {args : List SV} {b : Bool} {R : Fz → Prop} (h : Fo P F f args (fun o F' => o = .ret (.va (.bool b)) ∧ R F')) : Fo P F f args (fun o F' => o = .ret (.va (.lit b)) ∧ R F') := by
  unfold Fo at *
  refine CallWP_mono h fun o h n hc => ?_
  unfold Cln at *
  intro C ρ w e hn S hr hb
  obtain ⟨out0, F0, h0, n0, ρ0, ⟨k1, k2, k3, k4, rfl, k5⟩, q1, q2, r⟩ := hc C ρ w e hn S hr hb
  exact ⟨.ret (.va (.lit b)), F0, h0, n0, ρ0, ⟨k1, k2, k3, rfl, rfl, k5⟩, q1, trivial, r⟩
def isS (p : Int) (l : List Stp) (s want : List UInt8) : Bool := decide ((applyS p l s).2 = 0) && ((applyS p l s).1 == want)
set_option maxHeartbeats 4000000 in
theorem is_fn (F : Fz) (hM : MLF F) (sa : SA) (l : List Stp) (p : Int) (s want : List UInt8) (ha : StepsAt F sa l) (hl : l.length < 1000000) (hs : s.length ≤ 1000000000000000000) :
    Fo Tryz.prog F 28 [.va (.int .i64 p), .va sa, .va (.str s), .va (.str want)] (fun o F' => o = .ret (.va (.bool (isS p l s want))) ∧ True) := by
  have hap := apply_fn F hM sa l p s ha hl hs
  obtain ⟨x, e, hx⟩ : ∃ x e, applyS p l s = (x, e) := ⟨_, _, rfl⟩
  have fin : ∀ (b : Bool) (F1 : Fz) (h : Hp) (nx : Nat), isS p l s want = b → lget h 0 = some (.frz F1) → Fz.le F F1 →
      Cln 1 (FoK F fun o F' => o = .ret (.va (.bool (isS p l s want))) ∧ True) (.ret (.va (.bool b))) h nx := by
    intro b F1 h nx hb h0 hle
    exact endFo (.ret (.va (.bool b))) F1 h0 hle (Fz.le_refl F1) ⟨by rw [hb], trivial⟩ (outE_refl _) rfl
  have hS : isS p l s want = (decide (e = 0) && (x == want)) := by rw [isS, hx]
  rw [hx] at hap
  obtain ⟨han, hab, hae, hac, haL, har, rfl, ha1, ha2, ha3, ha4⟩ := ha
  by_cases he : e = 0
  · subst he
    refine fo_of hΘ Tryz.func28 rfl (by decide) _ _ rfl rfl rfl ?_
    conv => whnf
    refine useFo hap rfl (argsE_refl _) rfl ?_
    rintro _ F1 l1 rfl
    conv => whnf
    refine ⟨fun _ => ?_, fun g => absurd g (by simp)⟩
    conv => whnf
    exact fin _ F1 _ _ (by rw [hS]; rfl) rfl l1
  · have hd : decide (e = 0) = false := decide_eq_false he
    refine fo_of hΘ Tryz.func28 rfl (by decide) _ _ rfl rfl rfl ?_
    conv => whnf
    refine useFo hap rfl (argsE_refl _) rfl ?_
    rintro _ F1 l1 rfl
    conv => whnf
    refine ⟨fun g => absurd (of_decide_eq_true g) he, fun _ => ?_⟩
    conv => whnf
    exact fin _ F1 _ _ (by rw [hS, hd]; rfl) rfl l1
end Go.Proofs.YtblllibdahkgfaaGreatDoor

namespace Go.Proofs.YtblllibdahkgfaaGreatDoor
open Go Sx
theorem sane_a : isS 1 [(1, 0), (2, 0)] (textS [[84, 111, 32, 32, 66, 101]]) (textS [[116, 111, 32, 98, 101]]) = true := by decide +kernel
theorem sane_b : isS 2 [(4, 3)] (numbersS [3, 0, 3, 4]) (numbersS [3, 0, 3, 0]) = true := by decide +kernel
theorem sane_c : isS 3 [(3, 10)] (numbersS [2, 0, 0, 19, 0, 1, -19]) (numbersS [2, 0, 0, 10, 0, 1, -10]) = true := by decide +kernel
theorem sane_d : isS 7 [(5, 0)] (numbersS [3, 3] ++ (putSR [49, 48, 48, 48, 48, 48, 48, 48, 49]).1) (numbersS [2, 2] ++ (putSR [49, 48, 48, 49]).1) = true := by decide +kernel
theorem sane_n : normR 1 [(2, 0), (1, 0), (2, 0)] = ([(1, 0), (2, 0)], 0) := by decide +kernel
theorem sane_m : compR 5 [(3, 100)] [(3, 10)] = ([(3, 100)], 0) := by decide +kernel
theorem sane_g : applyS 1 [] [120] = ([], 70) := by decide +kernel
theorem sane_v1 : validS 1 [(3, 10)] = false := by decide +kernel
theorem sane_v2 : validS 5 [(3, 20)] = false := by decide +kernel
theorem sane_v3 : validS 4 [(6, 0)] = true := by decide +kernel
theorem sane_c1 : coarS 2 [(4, 2)] [(4, 5)] = true := by decide +kernel
theorem sane_c2 : coarS 2 [(4, 5)] [(4, 2)] = false := by decide +kernel
end Go.Proofs.YtblllibdahkgfaaGreatDoor
