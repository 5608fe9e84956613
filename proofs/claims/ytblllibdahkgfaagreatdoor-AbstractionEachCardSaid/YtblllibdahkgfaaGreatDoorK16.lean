import Derived.Test.YtblllibdahkgfaaGreatDoorK15
import Derived.Test.YtblllibdahkgfaaGreatDoorK13

namespace Go.Proofs.YtblllibdahkgfaaGreatDoor
open Go Sx
set_option maxRecDepth 100000
def lineW (p : Int) (x : Ln) : List UInt8 := (if p = 1 then (putSR x.1).1 else []) ++ za2 x.2
def zay (p : Int) (v : Val) : List UInt8 :=
 if v.lost = true then [] else
 if 6 ≤ p then za2 [v.w, v.h] ++ (if p = 7 then (putSR v.bits).1 else []) else
 za2 [(v.lines.length : Int)] ++ (v.lines.map (lineW p)).flatten
theorem zdj (l : List Int) : (za2 l).length ≤ 9 * l.length := zes zaq l
abbrev valH (v : Val) (c : Nat) (caps : Nat → Nat) : List (Nat × Ent) := [(1, zbm 2 caps c v.lines), (2, famE caps v.lines)]
theorem za9 {μ : Mu} {B B' : Nat} {caps : Nat → Nat} {c : Nat} {l : List Ln} (h : ∀ k, μ B k = (B', k)) : subE (some (zbm B' caps c l)) ((zbm B caps c l).ren μ) :=
 ⟨rfl, congrArg (fun L => SB.arr 120 2 L c) (zdo (m := l.length) (fun k _ => ⟨h k, rfl⟩) 0 l (by omega)).symm⟩
theorem zqk (v : Val) (c : Nat) (caps : Nat → Nat) : bH 3 (valH v c caps) := ⟨zav (by omega) _ _ _, za1 _ _ _, trivial⟩
theorem convR (μ : Mu) (l : List UInt8) (n : Nat) (hn : n = l.length) : (((l.map encB).map (List.map (SA.ren μ))).drop 0).take n = l.map encB := by
 subst hn
 have h : (l.map encB).map (List.map (SA.ren μ)) = l.map encB := by rw [List.map_map]; exact List.map_congr_left fun x _ => rfl
 rw [h, List.drop_zero, List.take_of_length_le (by simp)]
theorem zcs {α : Type} {e : α → List SA} (he : Plain e) {t sz c : Nat} {τ μ : Mu} {l : List α} : subE (some ((gE t sz e c l).ren τ)) ((gE t sz e c l).ren μ) := by rw [znz he, znz he]; exact zao _ _ _ _
theorem zc8 {F F1 : Fz} {v : Val} {c : Nat} {caps : Nat → Nat} {p : Int} {t : List UInt8} {h : Hp} {nx : Nat} (ht : t = zay p v) (hle : Fz.le F F1) (h0 : lget h 0 = some (.frz F1)) (h1 : lget h 1 = some (zbm 2 caps c v.lines)) (h2 : lget h 2 = some (famE caps v.lines)) :
  Cln 3 (fun o F0 h0 n0 => Fz.le F F0 ∧ (n0 = 3 ∧ o = .ret (.va (.str (zay p v))) ∧ h0 = valH v c caps)) (.ret (.va (.str t))) h nx :=
 clean [] (.ret (.va (.str t))) F1 (valH v c caps) 3 ⟨hle, rfl, by rw [ht], rfl⟩ rfl rfl rfl trivial (zqk _ _ _)
  ⟨by show subE (lget h 0) (.frz F1); rw [h0]; exact Fz.le_refl F1, by show subE (lget h 1) ((zbm 2 caps c v.lines).ren (sig [])); rw [h1]; exact za9 (fun k => rfl), by show subE (lget h 2) ((famE caps v.lines).ren (sig [])); rw [h2]; exact zbw, trivial⟩
set_option maxHeartbeats 8000000 in
theorem zlw (F : Fz) (v : Val) (c : Nat) (caps : Nat → Nat) (p : Int) (hv : v.lost = true) :
  Ct Tryz.prog 53 [valV v 1 c, .va (.int .i64 p)] F (valH v c caps) 3 (fun o F0 h0 n0 => n0 = 3 ∧ o = .ret (.va (.str (zay p v))) ∧ h0 = valH v c caps) := by
 obtain ⟨lost, lines, w, h, bits⟩ := v
 replace hv : lost = true := hv
 subst hv
 refine ct_of hΘ Tryz.func53 rfl (by decide) _ _ rfl rfl rfl ?_;conv=>whnf
 exact zc8 (by rw [zay, if_pos rfl]) (Fz.le_refl F) rfl rfl rfl
set_option maxHeartbeats 8000000 in
theorem zh8 (hP : PFun) (F : Fz) (v : Val) (c : Nat) (caps : Nat → Nat) (p : Int) (hv : v.lost = false) (hp : p = 6 ∨ p = 7 ∨ p = 8) (hb : v.bits.length ≤ 70000) :
  Ct Tryz.prog 53 [valV v 1 c, .va (.int .i64 p)] F (valH v c caps) 3 (fun o F0 h0 n0 => n0 = 3 ∧ o = .ret (.va (.str (zay p v))) ∧ h0 = valH v c caps) := by
 obtain ⟨lost, lines, w, h, bits⟩ := v
 replace hv : lost = false := hv
 subst hv
 replace hb : bits.length ≤ 70000 := hb
 have hW : zay p ⟨false, lines, w, h, bits⟩ = za2 [w, h] ++ (if p = 7 then (putSR bits).1 else []) := by rw [zay, if_neg (by simp), if_pos (by omega)]
 obtain ⟨o1, ho1⟩ : ∃ o1, [] ++ za2 [w, h] = o1 := ⟨_, rfl⟩
 have hol : o1.length ≤ 100 := by rw [← ho1]; have := zdj [w, h]; simp at this ⊢; omega
 refine ct_of hΘ Tryz.func53 rfl (by decide) _ _ rfl rfl rfl ?_;conv=>whnf
 refine br (fun _ => ?_) (fun g => absurd (of_decide_eq_false g) (by omega));conv=>whnf
 refine zau 5 (fun _ => .arr 3 1 ([w, h].map encI) 2) rfl rfl rfl (fun _ _ => rfl) (fun _ _ => SB.bB_ok rfl) ?_
 intro b1 F1 l1 hb1
 have hput := zha hP F1 _ [w, h] [] 0 (Sl.new (l := [w, h]) (cap := 2) (hb1 0 rfl)) (by simp) (by simp)
 rw [ho1] at hput
 have hex2 : ∃ o2, o1 ++ (putSR bits).1 = o2 := ⟨_, rfl⟩
 rcases o1 with _ | ⟨x, r⟩
 ·skip
  refine use hput [(1, 4), (2, 5)] rfl ⟨⟨rfl, rfl, rfl, .inr ⟨rfl, rfl, rfl, rfl⟩⟩, rfl, trivial⟩ rfl ⟨zba (by omega) _ _ _, zac zam _ _ _ _ _, trivial⟩ (by simp [SV.below, SA.below]) ⟨rfl, rfl, trivial⟩ ?_
  rintro out0 F0 h0 n0 hle ⟨rfl, rfl, rfl, c1, rfl⟩;conv=>whnf
  refine br (fun g7 => ?_) (fun g7 => ?_)
  ·have g7' : p = 7 := of_decide_eq_true g7
   obtain ⟨o2, ho2⟩ := hex2
   have hW2 : o2 = zay p ⟨false, lines, w, h, bits⟩ := by rw [hW, if_pos g7', ← List.nil_append (za2 [w, h]), ho1]; exact ho2.symm
   have hputs : ∀ c1, Ct Tryz.prog 81 [.va (.str bits), .va (.ptr ⟨1, 0, 0, 0, 0⟩)] F1 (outH c1 []) 3 (fun o F0 h0 n0 => F1 = F0 ∧ n0 = 4 ∧ o = .ret (.tup []) ∧ ∃ c', h0 = outN c' o2) := fun c1 => by
    have := zmi hP F1 bits [] c1 (by omega) (Nat.le_trans hol (by omega))
    rw [ho2] at this; exact this
   conv=>whnf
   rcases o2 with _ | ⟨y, q⟩
   ·refine use (hputs c1) [(1, 4), (2, 6)] rfl ⟨rfl, rfl, trivial⟩ rfl ⟨zba (by omega) _ _ _, zac zam _ _ _ _ _, trivial⟩ (by simp [SV.below, SA.below]) ⟨rfl, zcs zam, trivial⟩ ?_
    rintro out0 F0 h0 n0 hle ⟨rfl, rfl, rfl, c2, rfl⟩;conv=>whnf
    exact zc8 hW2 l1 rfl rfl rfl
   ·refine use (hputs c1) [(1, 4), (2, 6)] rfl ⟨rfl, rfl, trivial⟩ rfl ⟨zba (by omega) _ _ _, zac zam _ _ _ _ _, trivial⟩ (by simp [SV.below, SA.below]) ⟨rfl, zcs zam, trivial⟩ ?_
    rintro out0 F0 h0 n0 hle ⟨rfl, rfl, rfl, c2, rfl⟩;conv=>whnf
    refine ⟨rfl, ?_⟩;conv=>whnf
    refine ⟨by simp, (y :: q).map encB, convR _ (y :: q) _ rfl, y :: q, rfl, ?_⟩;conv=>whnf
    exact zc8 hW2 l1 rfl rfl rfl
  ·have g7' : ¬ p = 7 := of_decide_eq_false g7
   rw [if_neg g7', List.append_nil] at hW
   conv=>whnf
   exact zc8 (by rw [hW]; exact ho1.symm) l1 rfl rfl rfl
 ·skip
  refine use hput [(1, 4), (2, 5)] rfl ⟨⟨rfl, rfl, rfl, .inr ⟨rfl, rfl, rfl, rfl⟩⟩, rfl, trivial⟩ rfl ⟨zba (by omega) _ _ _, zac zam _ _ _ _ _, trivial⟩ (by simp [SV.below, SA.below]) ⟨rfl, rfl, trivial⟩ ?_
  rintro out0 F0 h0 n0 hle ⟨rfl, rfl, rfl, c1, rfl⟩;conv=>whnf
  refine br (fun g7 => ?_) (fun g7 => ?_)
  ·have g7' : p = 7 := of_decide_eq_true g7
   obtain ⟨o2, ho2⟩ := hex2
   have hW2 : o2 = zay p ⟨false, lines, w, h, bits⟩ := by rw [hW, if_pos g7', ← List.nil_append (za2 [w, h]), ho1]; exact ho2.symm
   have hputs : ∀ c1, Ct Tryz.prog 81 [.va (.str bits), .va (.ptr ⟨1, 0, 0, 0, 0⟩)] F1 (outH c1 (x :: r)) 3 (fun o F0 h0 n0 => F1 = F0 ∧ n0 = 4 ∧ o = .ret (.tup []) ∧ ∃ c', h0 = outN c' o2) := fun c1 => by
    have := zmi hP F1 bits (x :: r) c1 (by omega) (Nat.le_trans hol (by omega))
    rw [ho2] at this; exact this
   conv=>whnf
   rcases o2 with _ | ⟨y, q⟩
   ·refine use (hputs c1) [(1, 4), (2, 6)] rfl ⟨rfl, rfl, trivial⟩ rfl ⟨zba (by omega) _ _ _, zac zam _ _ _ _ _, trivial⟩ (by simp [SV.below, SA.below]) ⟨rfl, zcs zam, trivial⟩ ?_
    rintro out0 F0 h0 n0 hle ⟨rfl, rfl, rfl, c2, rfl⟩;conv=>whnf
    exact zc8 hW2 l1 rfl rfl rfl
   ·refine use (hputs c1) [(1, 4), (2, 6)] rfl ⟨rfl, rfl, trivial⟩ rfl ⟨zba (by omega) _ _ _, zac zam _ _ _ _ _, trivial⟩ (by simp [SV.below, SA.below]) ⟨rfl, zcs zam, trivial⟩ ?_
    rintro out0 F0 h0 n0 hle ⟨rfl, rfl, rfl, c2, rfl⟩;conv=>whnf
    refine ⟨rfl, ?_⟩;conv=>whnf
    refine ⟨by simp, (y :: q).map encB, convR _ (y :: q) _ rfl, y :: q, rfl, ?_⟩;conv=>whnf
    exact zc8 hW2 l1 rfl rfl rfl
  ·have g7' : ¬ p = 7 := of_decide_eq_false g7
   rw [if_neg g7', List.append_nil] at hW
   conv=>whnf
   refine ⟨rfl, ?_⟩;conv=>whnf
   refine ⟨by simp, (x :: r).map encB, convR _ (x :: r) _ rfl, x :: r, rfl, ?_⟩;conv=>whnf
   exact zc8 (by rw [hW]; exact ho1.symm) l1 rfl rfl rfl
end Go.Proofs.YtblllibdahkgfaaGreatDoor

namespace Go.Proofs.YtblllibdahkgfaaGreatDoor
open Go Sx
set_option maxRecDepth 100000
theorem zdx {τ μ : Mu} {a b j i i' c : Nat} {l : List UInt8} (h : τ a 0 = (j, 0)) (h' : μ b 0 = (j, 0)) : subE (some ((outC i' a c l).ren τ)) ((outC i b c l).ren μ) := by
 rw [zgs h, zgs h']; exact rfl
theorem zqh {p : Int} {x : Ln} (h : x.2.length ≤ 1000) : (lineW p x).length ≤ 74545 := by
 unfold lineW
 have h1 := zbv x.1
 have h2 := zdj x.2
 rw [List.length_append]
 split
 ·omega
 ·simp; omega
theorem zgc {p : Int} : ∀ (l : List Ln), (∀ x ∈ l, x.2.length ≤ 1000) → (l.map (lineW p)).flatten.length ≤ 74545 * l.length
 | [], _ => by simp
 | x :: r, h => by
  have h1 := zqh (p := p) (h x (by simp))
  have h2 := zgc (p := p) r (fun y hy => h y (by simp [hy]))
  simp only [List.map_cons, List.flatten_cons, List.length_append, List.length_cons]; omega
set_option maxHeartbeats 8000000 in
theorem zj2 (hP : PFun) (F : Fz) (L : List Ln) (w h : Int) (bits : List UInt8) (c : Nat) (caps : Nat → Nat) (p : Int) (hp : ¬ 6 ≤ p) (hne : L ≠ []) (hl : L.length ≤ 1000) (hx : ∀ x ∈ L, x.1.length ≤ 70000 ∧ x.2.length ≤ 1000) :
  Ct Tryz.prog 53 [valV ⟨false, L, w, h, bits⟩ 1 c, .va (.int .i64 p)] F (valH ⟨false, L, w, h, bits⟩ c caps) 3 (fun o F0 h0 n0 => n0 = 3 ∧ o = .ret (.va (.str (zay p ⟨false, L, w, h, bits⟩))) ∧ h0 = valH ⟨false, L, w, h, bits⟩ c caps) := by
 have hW : zay p ⟨false, L, w, h, bits⟩ = za2 [(L.length : Int)] ++ (L.map (lineW p)).flatten := by rw [zay, if_neg (by simp), if_neg hp]
 rcases L with _ | ⟨a0, ar⟩
 ·exact absurd rfl hne
 refine ct_of hΘ Tryz.func53 rfl (by decide) _ _ rfl rfl rfl ?_;conv=>whnf
 refine br (fun g => absurd (of_decide_eq_true g) hp) (fun _ => ?_);conv=>whnf
 refine zau 5 (fun _ => .arr 3 1 ([((ar.length + 1 : Nat) : Int)].map encI) 1) rfl rfl rfl (fun _ _ => rfl) (fun _ _ => SB.bB_ok rfl) ?_
 intro b1 F1 l1 hb1
 have hput := zha hP F1 _ [((ar.length + 1 : Nat) : Int)] [] 0 (Sl.new (l := [((ar.length + 1 : Nat) : Int)]) (cap := 1) (hb1 0 rfl)) (by simp) (by simp)
 refine use hput [(1, 4), (2, 5)] rfl ⟨⟨rfl, rfl, rfl, .inr ⟨rfl, rfl, rfl, rfl⟩⟩, rfl, trivial⟩ rfl ⟨zba (by omega) _ _ _, zac zam _ _ _ _ _, trivial⟩ (by simp [SV.below, SA.below]) ⟨rfl, rfl, trivial⟩ ?_
 rintro out0 F0 h0 n0 hle ⟨rfl, rfl, rfl, c1, rfl⟩;conv=>whnf
 refine za0 hΘ (X := { x : Nat × List UInt8 × Nat // x.1 ≤ ar.length + 1 ∧ x.2.1 = za2 [((ar.length + 1 : Nat) : Int)] ++ (((a0 :: ar).take x.1).map (lineW p)).flatten }) (fun x => [(21, .va (.int .i64 x.1.1))]) [9, 22, 23, 24, 25, 26, 27, 28, 29, 30, 31, 32, 33, 34, 35]
  (fun x => [(0, .frz F1), (1, zbm 2 caps c (a0 :: ar)), (2, famE caps (a0 :: ar)), (4, outC 1 7 x.1.2.2 x.1.2.1), (6, .gone), (7, gE 5 1 encB x.1.2.2 x.1.2.1)]) 8 (fun x => ar.length + 1 - x.1.1) ⟨(0, [] ++ za2 [((ar.length + 1 : Nat) : Int)], c1), by simp⟩
  (fun hH hT => leI [(7, 6)] hH hT rfl ⟨trivial, zav (by omega) _ _ _, za1 _ _ _, zba (by omega) _ _ _, trivial, zac zam _ _ _ _ _, trivial⟩ ⟨rfl, trivial⟩ ⟨Fz.le_refl F1, za9 (fun k => rfl), zbw (μ := sig [(7, 6)]) (caps := caps) (l := a0 :: ar), zdx (i := 1) (i' := 1) (a := 3) (b := 7) (j := 6) (by rfl) (by rfl), zcs zam, trivial⟩) ?_
 rintro ⟨⟨k, ob, cb⟩, hk, hob⟩ hH hT
 replace hk : k ≤ ar.length + 1 := hk
 replace hob : ob = za2 [((ar.length + 1 : Nat) : Int)] ++ (((a0 :: ar).take k).map (lineW p)).flatten := hob
 have hobl : ob.length ≤ 100000000000 := by
  have h1 := zdj [((ar.length + 1 : Nat) : Int)]
  have h2 := zgc (p := p) ((a0 :: ar).take k) (fun x hxm => (hx x (List.mem_of_mem_take hxm)).2)
  have h3 : ((a0 :: ar).take k).length ≤ 1000 := by rw [List.length_take]; omega
  rw [hob, List.length_append]
  simp only [List.length_cons, List.length_nil] at h1
  omega
 conv=>whnf
 refine br (fun gb => ?_) (fun gb => ?_)
 ·have gk : k < ar.length + 1 := by
   have h0 : (k : Int) < ((ar.length + 1 : Nat) : Int) := of_decide_eq_true gb
   omega
  clear gb
  have gl : k < (a0 :: ar).length := gk
  have hxk := hx _ (List.getElem_mem gl)
  have hex : ∃ t n, (a0 :: ar)[k] = (t, n) := ⟨_, _, rfl⟩
  obtain ⟨t, n, hkx⟩ := hex
  rw [hkx] at hxk
  replace hxk : t.length ≤ 70000 ∧ n.length ≤ 1000 := hxk
  have hcell := zdb 2 caps 0 (a0 :: ar) k (t, n) (by rw [List.getElem?_eq_getElem gl, hkx])
  have hnext : (ob ++ (if p = 1 then (putSR t).1 else [])) ++ za2 n = za2 [((ar.length + 1 : Nat) : Int)] ++ (((a0 :: ar).take (k + 1)).map (lineW p)).flatten := by
   rw [zc9 gl, hkx, lineW, hob]; simp only [List.append_assoc]
  conv=>whnf
  refine ⟨rfl, ⟨by simp, by show (k : Int) < ((ar.length + 1 : Nat) : Int); omega⟩, ?_⟩;conv=>whnf
  refine ⟨rfl, ?_⟩;conv=>whnf
  refine ⟨_, by show (zbq 2 caps 0 (a0 :: ar))[0 + (k : Int).toNat]? = _; rw [Nat.zero_add, Int.toNat_natCast]; exact hcell, ?_⟩;conv=>whnf
  refine br (fun g1 => ?_) (fun g1 => ?_)
  ·have g1' : p = 1 := of_decide_eq_true g1
   rw [if_pos g1'] at hnext
   have htl := zbv t
   have hlen2 : (ob ++ (putSR t).1).length ≤ 1000000000000 := by rw [List.length_append]; omega
   conv=>whnf
   refine use (zmi hP F1 t ob cb (by omega) (by omega)) [(1, 4), (2, 7)] rfl ⟨rfl, rfl, trivial⟩ rfl ⟨zba (by omega) _ _ _, zac zam _ _ _ _ _, trivial⟩ (by simp [SV.below, SA.below]) ⟨zfs (i := 1) (i' := 1) (j := 2) (j' := 7) (by rfl), zas zam (zao _ _ _ _), trivial⟩ ?_
   rintro out0 F0 h0 n1 hle ⟨rfl, rfl, rfl, c2, rfl⟩
   rcases n with _ | ⟨n0, nr⟩
   ·conv=>whnf
    refine use (zha hP F1 _ [] (ob ++ (putSR t).1) c2 Sl.nil (by simp) hlen2) [(1, 4), (2, 9)] rfl ⟨⟨rfl, rfl, rfl⟩, rfl, trivial⟩ rfl ⟨zba (by omega) _ _ _, zac zam _ _ _ _ _, trivial⟩ (by simp [SV.below, SA.below]) ⟨zdx (i := 1) (i' := 1) (a := 3) (b := 2) (j := 9) (by rfl) (by rfl), zcs zam, trivial⟩ ?_
    rintro out0 F0 h0 n1 hle ⟨rfl, rfl, rfl, c3, rfl⟩;conv=>whnf
    exact ⟨⟨(k + 1, (ob ++ (putSR t).1) ++ za2 [], c3), by show k + 1 ≤ ar.length + 1; omega, hnext⟩, by show ar.length + 1 - (k + 1) < ar.length + 1 - k; omega,
     leR [(7, 10)] hH hT rfl ⟨trivial, zav (by omega) _ _ _, za1 _ _ _, zba (by omega) _ _ _, trivial, zac zam _ _ _ _ _, trivial⟩ ⟨cnt (by omega), trivial⟩
     ⟨Fz.le_refl F1, za9 (fun k => rfl), zbw (μ := sig [(7, 10)]) (caps := caps) (l := a0 :: ar), zdx (i := 1) (i' := 1) (a := 3) (b := 7) (j := 10) (by rfl) (by rfl), zcs zam, trivial⟩⟩
   ·conv=>whnf
    refine lend 2 (fun k => (famE caps (a0 :: ar)).at k) rfl rfl rfl (fun k _ => zb5 _ _ _) (fun k _ => zbt _ _ _) ?_
    intro bf G1 lg1 hbf
    have hat := zgi caps (l := a0 :: ar) (k := k) (x := (t, n0 :: nr)) (by rw [List.getElem?_eq_getElem gl, hkx])
    have hhas : (famE caps (a0 :: ar)).has k := ⟨gl, by show (!((((a0 :: ar).map (·.2)).getD k []).isEmpty)) = true; rw [hat]; rfl⟩
    have hrow : G1 (bf k) = some ((famE caps (a0 :: ar)).at k) := hbf k hhas
    have erow : (famE caps (a0 :: ar)).at k = .arr 3 1 ((n0 :: nr).map encI) (caps k) := by show SB.arr 3 1 ((((a0 :: ar).map (·.2)).getD k []).map encI) (caps k) = _; rw [hat]
    rw [erow, ← Nat.zero_add k] at hrow
    refine use (zha hP G1 _ (n0 :: nr) (ob ++ (putSR t).1) c2 (Sl.new (l := n0 :: nr) (cap := caps (0 + k)) hrow) (by simp at hxk ⊢; omega) hlen2) [(1, 4), (2, 9)] rfl ⟨⟨rfl, rfl, rfl, .inr ⟨rfl, rfl, rfl, rfl⟩⟩, rfl, trivial⟩ rfl ⟨zba (by omega) _ _ _, zac zam _ _ _ _ _, trivial⟩ (by simp [SV.below, SA.below]) ⟨zdx (i := 1) (i' := 1) (a := 3) (b := 2) (j := 9) (by rfl) (by rfl), zcs zam, trivial⟩ ?_
    rintro out0 F0 h0 n1 hle ⟨rfl, rfl, rfl, c3, rfl⟩
    refine ⟨G1, rfl, Fz.le_refl _, rfl, ?_⟩;conv=>whnf
    exact ⟨⟨(k + 1, (ob ++ (putSR t).1) ++ za2 (n0 :: nr), c3), by show k + 1 ≤ ar.length + 1; omega, hnext⟩, by show ar.length + 1 - (k + 1) < ar.length + 1 - k; omega,
     leR [(7, 10)] hH hT rfl ⟨trivial, zav (by omega) _ _ _, za1 _ _ _, zba (by omega) _ _ _, trivial, zac zam _ _ _ _ _, trivial⟩ ⟨cnt (by omega), trivial⟩
     ⟨Fz.le_refl F1, za9 (fun k => rfl), zbw (μ := sig [(7, 10)]) (caps := caps) (l := a0 :: ar), zdx (i := 1) (i' := 1) (a := 3) (b := 7) (j := 10) (by rfl) (by rfl), zcs zam, trivial⟩⟩
  ·have g1' : ¬ p = 1 := of_decide_eq_false g1
   rw [if_neg g1', List.append_nil] at hnext
   have hlen2 : ob.length ≤ 1000000000000 := by omega
   rcases n with _ | ⟨n0, nr⟩
   ·conv=>whnf
    refine use (zha hP F1 _ [] (ob) cb Sl.nil (by simp) hlen2) [(1, 4), (2, 7)] rfl ⟨⟨rfl, rfl, rfl⟩, rfl, trivial⟩ rfl ⟨zba (by omega) _ _ _, zac zam _ _ _ _ _, trivial⟩ (by simp [SV.below, SA.below]) ⟨zfs (i := 1) (i' := 1) (j := 2) (j' := 7) (by rfl), zas zam (zao _ _ _ _), trivial⟩ ?_
    rintro out0 F0 h0 n1 hle ⟨rfl, rfl, rfl, c3, rfl⟩;conv=>whnf
    exact ⟨⟨(k + 1, (ob) ++ za2 [], c3), by show k + 1 ≤ ar.length + 1; omega, hnext⟩, by show ar.length + 1 - (k + 1) < ar.length + 1 - k; omega,
     leR [(7, 9)] hH hT rfl ⟨trivial, zav (by omega) _ _ _, za1 _ _ _, zba (by omega) _ _ _, trivial, zac zam _ _ _ _ _, trivial⟩ ⟨cnt (by omega), trivial⟩
     ⟨Fz.le_refl F1, za9 (fun k => rfl), zbw (μ := sig [(7, 9)]) (caps := caps) (l := a0 :: ar), zdx (i := 1) (i' := 1) (a := 3) (b := 7) (j := 9) (by rfl) (by rfl), zcs zam, trivial⟩⟩
   ·conv=>whnf
    refine lend 2 (fun k => (famE caps (a0 :: ar)).at k) rfl rfl rfl (fun k _ => zb5 _ _ _) (fun k _ => zbt _ _ _) ?_
    intro bf G1 lg1 hbf
    have hat := zgi caps (l := a0 :: ar) (k := k) (x := (t, n0 :: nr)) (by rw [List.getElem?_eq_getElem gl, hkx])
    have hhas : (famE caps (a0 :: ar)).has k := ⟨gl, by show (!((((a0 :: ar).map (·.2)).getD k []).isEmpty)) = true; rw [hat]; rfl⟩
    have hrow : G1 (bf k) = some ((famE caps (a0 :: ar)).at k) := hbf k hhas
    have erow : (famE caps (a0 :: ar)).at k = .arr 3 1 ((n0 :: nr).map encI) (caps k) := by show SB.arr 3 1 ((((a0 :: ar).map (·.2)).getD k []).map encI) (caps k) = _; rw [hat]
    rw [erow, ← Nat.zero_add k] at hrow
    refine use (zha hP G1 _ (n0 :: nr) (ob) cb (Sl.new (l := n0 :: nr) (cap := caps (0 + k)) hrow) (by simp at hxk ⊢; omega) hlen2) [(1, 4), (2, 7)] rfl ⟨⟨rfl, rfl, rfl, .inr ⟨rfl, rfl, rfl, rfl⟩⟩, rfl, trivial⟩ rfl ⟨zba (by omega) _ _ _, zac zam _ _ _ _ _, trivial⟩ (by simp [SV.below, SA.below]) ⟨zfs (i := 1) (i' := 1) (j := 2) (j' := 7) (by rfl), zas zam (zao _ _ _ _), trivial⟩ ?_
    rintro out0 F0 h0 n1 hle ⟨rfl, rfl, rfl, c3, rfl⟩
    refine ⟨G1, rfl, Fz.le_refl _, rfl, ?_⟩;conv=>whnf
    exact ⟨⟨(k + 1, (ob) ++ za2 (n0 :: nr), c3), by show k + 1 ≤ ar.length + 1; omega, hnext⟩, by show ar.length + 1 - (k + 1) < ar.length + 1 - k; omega,
     leR [(7, 9)] hH hT rfl ⟨trivial, zav (by omega) _ _ _, za1 _ _ _, zba (by omega) _ _ _, trivial, zac zam _ _ _ _ _, trivial⟩ ⟨cnt (by omega), trivial⟩
     ⟨Fz.le_refl F1, za9 (fun k => rfl), zbw (μ := sig [(7, 9)]) (caps := caps) (l := a0 :: ar), zdx (i := 1) (i' := 1) (a := 3) (b := 7) (j := 9) (by rfl) (by rfl), zcs zam, trivial⟩⟩
 ·have gk : k = ar.length + 1 := by
   have h0 : ¬ (k : Int) < ((ar.length + 1 : Nat) : Int) := of_decide_eq_false gb
   omega
  clear gb
  have hfin : ob = zay p ⟨false, a0 :: ar, w, h, bits⟩ := by
   rw [hW, hob, gk]
   have : (a0 :: ar).take (ar.length + 1) = a0 :: ar := List.take_of_length_le (by simp)
   rw [this]; rfl
  rcases ob with _ | ⟨y, q⟩
  ·conv=>whnf
   exact zc8 hfin l1 rfl rfl rfl
  ·conv=>whnf
   refine ⟨rfl, ?_⟩;conv=>whnf
   refine ⟨by simp, (y :: q).map encB, by show (((y :: q).map encB).drop 0).take (q.length + 1) = _; rw [List.drop_zero, List.take_of_length_le (by simp)], y :: q, rfl, ?_⟩;conv=>whnf
   exact zc8 hfin l1 rfl rfl rfl
set_option maxHeartbeats 4000000 in
theorem zk5 (hP : PFun) (F : Fz) (w h : Int) (bits : List UInt8) (c : Nat) (caps : Nat → Nat) (p : Int) (hp : ¬ 6 ≤ p) :
  Ct Tryz.prog 53 [valV ⟨false, [], w, h, bits⟩ 1 c, .va (.int .i64 p)] F (valH ⟨false, [], w, h, bits⟩ c caps) 3 (fun o F0 h0 n0 => n0 = 3 ∧ o = .ret (.va (.str (zay p ⟨false, [], w, h, bits⟩))) ∧ h0 = valH ⟨false, [], w, h, bits⟩ c caps) := by
 have hW : zay p ⟨false, [], w, h, bits⟩ = [] ++ za2 [0] := by rw [zay, if_neg (by simp), if_neg hp]; exact List.append_nil (za2 [0])
 obtain ⟨o1, ho1⟩ : ∃ o1, [] ++ za2 [0] = o1 := ⟨_, rfl⟩
 refine ct_of hΘ Tryz.func53 rfl (by decide) _ _ rfl rfl rfl ?_;conv=>whnf
 refine br (fun g => absurd (of_decide_eq_true g) hp) (fun _ => ?_);conv=>whnf
 refine zau 5 (fun _ => .arr 3 1 ([(0 : Int)].map encI) 1) rfl rfl rfl (fun _ _ => rfl) (fun _ _ => SB.bB_ok rfl) ?_
 intro b1 F1 l1 hb1
 have hput := zha hP F1 _ [0] [] 0 (Sl.new (l := [(0 : Int)]) (cap := 1) (hb1 0 rfl)) (by simp) (by simp)
 rw [ho1] at hput hW
 rcases o1 with _ | ⟨x, r⟩
 ·refine use hput [(1, 4), (2, 5)] rfl ⟨⟨rfl, rfl, rfl, .inr ⟨rfl, rfl, rfl, rfl⟩⟩, rfl, trivial⟩ rfl ⟨zba (by omega) _ _ _, zac zam _ _ _ _ _, trivial⟩ (by simp [SV.below, SA.below]) ⟨rfl, rfl, trivial⟩ ?_
  rintro out0 F0 h0 n0 hle ⟨rfl, rfl, rfl, c1, rfl⟩;conv=>whnf
  refine rounds hΘ 1 ?_;conv=>whnf
  refine br (fun g => absurd g (by decide)) (fun _ => ?_);conv=>whnf
  exact zc8 hW.symm l1 rfl rfl rfl
 ·refine use hput [(1, 4), (2, 5)] rfl ⟨⟨rfl, rfl, rfl, .inr ⟨rfl, rfl, rfl, rfl⟩⟩, rfl, trivial⟩ rfl ⟨zba (by omega) _ _ _, zac zam _ _ _ _ _, trivial⟩ (by simp [SV.below, SA.below]) ⟨rfl, rfl, trivial⟩ ?_
  rintro out0 F0 h0 n0 hle ⟨rfl, rfl, rfl, c1, rfl⟩;conv=>whnf
  refine rounds hΘ 1 ?_;conv=>whnf
  refine br (fun g => absurd g (by decide)) (fun _ => ?_);conv=>whnf
  refine ⟨rfl, ?_⟩;conv=>whnf
  refine ⟨by simp, (x :: r).map encB, convR _ (x :: r) _ rfl, x :: r, rfl, ?_⟩;conv=>whnf
  exact zc8 hW.symm l1 rfl rfl rfl
structure Fits (v : Val) : Prop where
 h1 : v.lines.length ≤ 1000
 h2 : ∀ x ∈ v.lines, x.1.length ≤ 70000 ∧ x.2.length ≤ 1000
 h3 : v.bits.length ≤ 70000
theorem zsl (hP : PFun) (F : Fz) (v : Val) (c : Nat) (caps : Nat → Nat) (p : Int) (hv : Fits v) (hp : p ≤ 8) :
  Ct Tryz.prog 53 [valV v 1 c, .va (.int .i64 p)] F (valH v c caps) 3 (fun o F0 h0 n0 => n0 = 3 ∧ o = .ret (.va (.str (zay p v))) ∧ h0 = valH v c caps) := by
 by_cases hl : v.lost = true
 ·exact zlw F v c caps p hl
 ·have hl : v.lost = false := by simpa using hl
  by_cases h6 : 6 ≤ p
  ·exact zh8 hP F v c caps p hl (by omega) hv.h3
  ·obtain ⟨lost, L, w, h, bits⟩ := v
   replace hl : lost = false := hl
   subst hl
   by_cases hne : L = []
   ·subst hne; exact zk5 hP F w h bits c caps p h6
   ·exact zj2 hP F L w h bits c caps p h6 hne hv.h1 hv.h2
end Go.Proofs.YtblllibdahkgfaaGreatDoor

namespace Go.Proofs.YtblllibdahkgfaaGreatDoor
open Go Sx
set_option maxRecDepth 100000
end Go.Proofs.YtblllibdahkgfaaGreatDoor

namespace Go.Proofs.YtblllibdahkgfaaGreatDoor
open Go Sx
set_option maxRecDepth 100000
theorem zid {B : Nat} {caps : Nat → Nat} {t : List UInt8} {n n' : List Int} (hn : n.length = n'.length) : ∀ (j : Nat) (L : List Ln) (i : Nat), L[i]? = some (t, n) → zbq B caps j (L.set i (t, n')) = zbq B caps j L
 | j, y :: r, 0, h => by
  simp at h; subst h
  rw [List.set_cons_zero, zbq, zbq]
  congr 2
  show [nA B j (caps j) n'] = [nA B j (caps j) n]
  cases n <;> cases n' <;> simp_all [nA]
 | j, y :: r, i + 1, h => by
  rw [List.set_cons_succ, zbq, zbq, zid hn (j + 1) r i (by simpa using h)]
theorem zil {B : Nat} {caps : Nat → Nat} {c : Nat} {t : List UInt8} {n n' : List Int} (hn : n.length = n'.length) {L : List Ln} {i : Nat} (h : L[i]? = some (t, n)) : zbm B caps c (L.set i (t, n')) = zbm B caps c L := by
 unfold zbm
 rw [zid hn 0 L i h]
 cases L with
 | nil => simp at h
 | cons x r => cases i <;> rfl
theorem zn8 {L : List Ln} {k : Nat} : (L.map (·.2)).getD k [] = ((L[k]?).map (·.2)).getD [] := by
 rw [List.getD_eq_getElem?_getD, List.getElem?_map]
theorem zsn {caps : Nat → Nat} {t : List UInt8} {n n' : List Int} (hn : n.length = n'.length) {L : List Ln} {i : Nat} (h : L[i]? = some (t, n)) (hne : n ≠ []) :
  famE caps (L.set i (t, n')) = .fam L.length (fun k => !((L.map (·.2)).getD k []).isEmpty) (fun k => if k = i then .arr 3 1 (n'.map encI) (caps i) else .arr 3 1 (((L.map (·.2)).getD k []).map encI) (caps k)) := by
 have hi : i < L.length := (List.getElem?_eq_some_iff.1 h).1
 have hx : ∀ k, ((L.set i (t, n')).map (·.2)).getD k [] = if k = i then n' else (L.map (·.2)).getD k [] := by
  intro k
  rw [zn8, zn8, List.getElem?_set]
  by_cases hk : i = k
  ·subst hk; rw [if_pos rfl, if_pos hi, if_pos rfl]; rfl
  ·rw [if_neg hk, if_neg (fun e => hk e.symm)]
 unfold famE
 have e1 : (fun k => !(((L.set i (t, n')).map (·.2)).getD k []).isEmpty) = (fun k => !((L.map (·.2)).getD k []).isEmpty) := by
  funext k
  rw [hx]
  by_cases hk : k = i
  ·subst hk
   rw [if_pos rfl, zgi caps h]
   cases n with
   | nil => exact absurd rfl hne
   | cons a r => cases n' with
    | nil => simp at hn
    | cons b r' => rfl
  ·rw [if_neg hk]
 have e2 : (fun k => SB.arr 3 1 ((((L.set i (t, n')).map (·.2)).getD k []).map encI) (caps k)) = (fun k => if k = i then .arr 3 1 (n'.map encI) (caps i) else .arr 3 1 (((L.map (·.2)).getD k []).map encI) (caps k)) := by
  funext k
  rw [hx]
  by_cases hk : k = i
  ·subst hk; rw [if_pos rfl, if_pos rfl]
  ·rw [if_neg hk, if_neg hk]
 rw [List.length_set, e1, e2]
theorem zuq {caps : Nat → Nat} {t : List UInt8} {n n' : List Int} (hn : n.length = n'.length) {L : List Ln} {i : Nat} (h : L[i]? = some (t, n)) (hne : n ≠ []) {row : List (List SA)} (hr : row = n'.map encI) {μ : Mu} :
  subE (some (.fam L.length (fun k => !((L.map (·.2)).getD k []).isEmpty) (fun k => if k = i then .arr 3 1 row (caps i) else .arr 3 1 (((L.map (·.2)).getD k []).map encI) (caps k)))) ((famE caps (L.set i (t, n'))).ren μ) := by
 subst hr
 rw [zgw, zsn hn h hne]
 cases L with
 | nil => simp at h
 | cons x r => exact ⟨rfl, rfl, rfl⟩
theorem zjy {α : Type} {L : List α} {i : Nat} {x : α} (h : L[i]? = some x) : L.set i x = L := by
 apply List.ext_getElem?
 intro k
 rw [List.getElem?_set]
 by_cases hk : i = k
 ·subst hk; rw [if_pos rfl, if_pos (List.getElem?_eq_some_iff.1 h).1, h]
 ·rw [if_neg hk]
def stepK (F : Fz) (c : Nat) (caps : Nat → Nat) (L : List Ln) : Out → Fz → List (Nat × Ent) → Nat → Prop := fun o F0 h0 n0 => F0 = F ∧ n0 = 3 ∧ o = .ret (.tup []) ∧ h0 = [(1, zbm 2 caps c L), (2, famE caps L)]
def limN (a : Int) : List Int → List Int
 | [] => []
 | x :: r => (if x > a then 0 else x) :: r
set_option maxHeartbeats 4000000 in
theorem zr8 (F : Fz) (L : List Ln) (i c : Nat) (caps : Nat → Nat) (t : List UInt8) (x a : Int) (r : List Int) (h : L[i]? = some (t, x :: r)) :
  Ct Tryz.prog 70 [.va (.ptr ⟨1, 0, i, 2, 0⟩), .va (.int .i64 a)] F [(1, zbm 2 caps c L), (2, famE caps L)] 3
   (stepK F c caps (L.set i (t, limN a (x :: r)))) := by
 have hcell := zdb 2 caps 0 L i _ h
 rw [Nat.zero_add] at hcell
 have hi : i < L.length := (List.getElem?_eq_some_iff.1 h).1
 have hrow := zgi caps h
 rcases L with _ | ⟨a0, ar⟩
 ·exact absurd hi (by simp)
 have hn : ((x :: r).length = (limN a (x :: r)).length) := rfl
 have hE1 := zil (B := 2) (caps := caps) (c := c) hn h
 have hs1 : ∀ μ : Mu, (∀ k, μ 2 k = (2, k)) → subE (some (zbm 2 caps c (a0 :: ar))) ((zbm 2 caps c ((a0 :: ar).set i (t, limN a (x :: r)))).ren μ) := fun μ hμ => by rw [hE1]; exact za9 hμ
 have hs2 : decide (a < x) = false → ∀ μ : Mu, subE (some (famE caps (a0 :: ar))) ((famE caps ((a0 :: ar).set i (t, limN a (x :: r)))).ren μ) := fun g μ => by
  have hs : (a0 :: ar).set i (t, limN a (x :: r)) = a0 :: ar := by rw [limN, if_neg (of_decide_eq_false g)]; exact zjy h
  rw [hs]; exact zbw
 have hr : decide (a < x) = true → (List.map encI ((List.map (fun x : Ln => x.snd) (a0 :: ar)).getD i [])).set 0 [.int .i64 0] = (limN a (x :: r)).map encI := fun g => by
  rw [hrow, limN, if_pos (of_decide_eq_true g)]; rfl
 refine ct_of hΘ Tryz.func70 rfl (by decide) _ _ rfl rfl rfl ?_;conv=>whnf
 refine ⟨rfl, ?_⟩;conv=>whnf
 refine ⟨_, hcell, ?_⟩;conv=>whnf
 refine ⟨rfl, ⟨by simp, by show (0 : Int) < ((r.length + 1 : Nat) : Int); omega⟩, ?_⟩;conv=>whnf
 have hhas : (!((List.map (fun x : Ln => x.snd) (a0 :: ar)).getD i []).isEmpty) = true := by rw [hrow]; rfl
 have hel : (List.map encI ((List.map (fun x : Ln => x.snd) (a0 :: ar)).getD i []))[0]? = some [.int .i64 x] := by rw [hrow]; rfl
 have hel' : (List.map encI ((List.map (fun x : Ln => x.snd) (a0 :: ar)).getD i [])) = encI x :: r.map encI := by rw [hrow]; rfl
 refine ⟨⟨hi, hhas⟩, ?_⟩;conv=>whnf
 refine ⟨_, hel, ?_⟩;conv=>whnf
 refine br (fun g => ?_) (fun g => ?_)
 ·conv=>whnf
  refine ⟨rfl, ?_⟩;conv=>whnf
  refine ⟨_, hcell, ?_⟩;conv=>whnf
  refine ⟨rfl, ⟨by simp, by show (0 : Int) < ((r.length + 1 : Nat) : Int); omega⟩, ?_⟩;conv=>whnf
  refine ⟨⟨hi, hhas⟩, ?_⟩;conv=>whnf
  refine ⟨_, hel, ?_⟩;conv=>whnf
  refine clean [] (.ret (.tup [])) F [(1, zbm 2 caps c ((a0 :: ar).set i (t, limN a (x :: r)))), (2, famE caps ((a0 :: ar).set i (t, limN a (x :: r))))] 3 ⟨Fz.le_refl F, rfl, rfl, rfl, rfl⟩ (zat _) rfl rfl (by simp [Out.below, SV.below]) ⟨zav (by omega) _ _ _, za1 _ _ _, trivial⟩ ⟨Fz.le_refl F, ?_, ?_, trivial⟩
  ·exact hs1 _ (fun k => rfl)
  ·refine zuq hn h (by simp) ?_
   exact hr g
 ·conv=>whnf
  refine clean [] (.ret (.tup [])) F [(1, zbm 2 caps c ((a0 :: ar).set i (t, limN a (x :: r)))), (2, famE caps ((a0 :: ar).set i (t, limN a (x :: r))))] 3 ⟨Fz.le_refl F, rfl, rfl, rfl, rfl⟩ (zat _) rfl rfl (by simp [Out.below, SV.below]) ⟨zav (by omega) _ _ _, za1 _ _ _, trivial⟩ ⟨Fz.le_refl F, ?_, ?_, trivial⟩
  ·exact hs1 _ (fun k => rfl)
  ·exact hs2 g _
end Go.Proofs.YtblllibdahkgfaaGreatDoor

namespace Go.Proofs.YtblllibdahkgfaaGreatDoor
open Go Sx
set_option maxRecDepth 100000
def rndN (a : Int) : List Int → List Int
 | x :: y :: z :: r => x :: y :: (z - z.tmod a) :: r
 | l => l
set_option maxHeartbeats 4000000 in
theorem zry (F : Fz) (L : List Ln) (i c : Nat) (caps : Nat → Nat) (t : List UInt8) (x y z a : Int) (r : List Int) (h : L[i]? = some (t, x :: y :: z :: r)) (ha : 0 < a) (hz : -1000000000000000000 ≤ z) (hz' : z ≤ 1000000000000000000) (ha' : a ≤ 1000000000000000000) :
  Ct Tryz.prog 68 [.va (.ptr ⟨1, 0, i, 2, 0⟩), .va (.int .i64 a)] F [(1, zbm 2 caps c L), (2, famE caps L)] 3
   (stepK F c caps (L.set i (t, rndN a (x :: y :: z :: r)))) := by
 have hcell := zdb 2 caps 0 L i _ h
 rw [Nat.zero_add] at hcell
 have hi : i < L.length := (List.getElem?_eq_some_iff.1 h).1
 have hrow := zgi caps h
 rcases L with _ | ⟨a0, ar⟩
 ·exact absurd hi (by simp)
 have hn : ((x :: y :: z :: r).length = (rndN a (x :: y :: z :: r)).length) := rfl
 have hE1 := zil (B := 2) (caps := caps) (c := c) hn h
 have hs1 : ∀ μ : Mu, (∀ k, μ 2 k = (2, k)) → subE (some (zbm 2 caps c (a0 :: ar))) ((zbm 2 caps c ((a0 :: ar).set i (t, rndN a (x :: y :: z :: r)))).ren μ) := fun μ hμ => by rw [hE1]; exact za9 hμ
 have hm2 : z.tmod a < a := Int.tmod_lt_of_pos _ ha
 have hm1 : -a < z.tmod a := by
  have h1 : (-z).tmod a < a := Int.tmod_lt_of_pos _ ha
  rw [Int.neg_tmod] at h1
  omega
 have hw1 : IntKind.i64.wrap (z - z.tmod a) = z - z.tmod a := zaj (by omega) (by omega)
 have hw2 : IntKind.i64.wrap (z - IntKind.i64.wrap (z.tmod a)) = z - z.tmod a := by rw [zaj (n := z.tmod a) (by omega) (by omega), hw1]
 have hr : ∀ v, v = z - z.tmod a → (List.map encI ((List.map (fun x : Ln => x.snd) (a0 :: ar)).getD i [])).set 2 [.int .i64 v] = (rndN a (x :: y :: z :: r)).map encI := by
  intro v hv; subst hv
  rw [hrow, rndN]; rfl
 have hhas : (!((List.map (fun x : Ln => x.snd) (a0 :: ar)).getD i []).isEmpty) = true := by rw [hrow]; rfl
 have hel : (List.map encI ((List.map (fun x : Ln => x.snd) (a0 :: ar)).getD i []))[2]? = some [.int .i64 z] := by rw [hrow]; rfl
 refine ct_of hΘ Tryz.func68 rfl (by decide) _ _ rfl rfl rfl ?_;conv=>whnf
 refine drawP hΘ mixed (.look 0 (.look 1 (.look 2 (.look 3 (.look 4 (.look 5 (.look 6 (.look 7 (.look 8 (.look 9 (.look 10 (.look 11 (.look 12 (.look 13 (.look 14 (.look 15 (.last 16 .done))))))))))))))))) [1, 2] (by kernel_rfl) ?_;conv=>whnf
 refine ⟨rfl, ?_⟩;conv=>whnf
 refine ⟨rfl, ?_⟩;conv=>whnf
 refine ⟨_, hcell, ?_⟩;conv=>whnf
 refine ⟨rfl, ⟨by simp, by show (2 : Int) < ((r.length + 1 + 1 + 1 : Nat) : Int); omega⟩, ?_⟩;conv=>whnf
 refine ⟨rfl, ?_⟩;conv=>whnf
 refine ⟨⟨hi, hhas⟩, ?_⟩;conv=>whnf
 refine ⟨_, hel, ?_⟩;conv=>whnf
 refine ⟨rfl, ?_⟩;conv=>whnf
 refine ⟨rfl, ?_⟩;conv=>whnf
 refine ⟨_, hcell, ?_⟩;conv=>whnf
 refine ⟨rfl, ⟨by simp, by show (2 : Int) < ((r.length + 1 + 1 + 1 : Nat) : Int); omega⟩, ?_⟩;conv=>whnf
 refine ⟨rfl, ?_⟩;conv=>whnf
 refine ⟨⟨hi, hhas⟩, ?_⟩;conv=>whnf
 refine ⟨_, hel, ?_⟩;conv=>whnf
 refine ⟨(by omega), ?_⟩;conv=>whnf
 refine ⟨rfl, ⟨by simp, by show (2 : Int) < ((r.length + 1 + 1 + 1 : Nat) : Int); omega⟩, ?_⟩;conv=>whnf
 refine ⟨⟨hi, hhas⟩, ?_⟩;conv=>whnf
 refine ⟨_, hel, ?_⟩;conv=>whnf
 refine clean [] (.ret (.tup [])) F [(1, zbm 2 caps c ((a0 :: ar).set i (t, rndN a (x :: y :: z :: r)))), (2, famE caps ((a0 :: ar).set i (t, rndN a (x :: y :: z :: r))))] 3 ⟨Fz.le_refl F, rfl, rfl, rfl, rfl⟩ (zat _) rfl rfl (by simp [Out.below, SV.below]) ⟨zav (by omega) _ _ _, za1 _ _ _, trivial⟩ ⟨Fz.le_refl F, ?_, ?_, trivial⟩
 ·exact hs1 _ (fun k => rfl)
 ·refine zuq hn h (by simp) ?_
  first
  | exact hr _ hw1
  | exact hr _ hw2
end Go.Proofs.YtblllibdahkgfaaGreatDoor

namespace Go.Proofs.YtblllibdahkgfaaGreatDoor
open Go Sx
set_option maxRecDepth 100000
def valE (v : Val) (i c : Nat) : Ent := .one (.cells 96 [.lit v.lost, gA 2 i c v.lines, .int .i64 v.w, .int .i64 v.h, .str v.bits])
def lnE (B : Nat) (caps : Nat → Nat) (c : Nat) : List Ln → Ent
 | [] => .gone
 | x :: r => zbm B caps c (x :: r)
def fmE (caps : Nat → Nat) : List Ln → Ent
 | [] => .gone
 | x :: r => famE caps (x :: r)
theorem zp3 {n B : Nat} (h : B < n) (caps : Nat → Nat) (c : Nat) (l : List Ln) : (lnE B caps c l).below n := by
 cases l with
 | nil => trivial
 | cons x r => exact zav h _ _ _
theorem zp4 (n : Nat) (caps : Nat → Nat) (l : List Ln) : (fmE caps l).below n := by
 cases l with
 | nil => trivial
 | cons x r => exact za1 _ _ _
def valM (v : Val) (c : Nat) (caps : Nat → Nat) : List (Nat × Ent) := [(1, valE v 2 c), (2, lnE 3 caps c v.lines), (3, fmE caps v.lines)]
def stepV (F : Fz) (v : Val) : Out → Fz → List (Nat × Ent) → Nat → Prop := fun o F0 h0 n0 => F0 = F ∧ n0 = 4 ∧ o = .ret (.tup []) ∧ ∃ c caps, h0 = valM v c caps
theorem zg6 {α : Type} {n i : Nat} (h : i < n) (sz c : Nat) (l : List α) : (gA sz i c l).below n := by
 cases l with
 | nil => trivial
 | cons x r => exact .inr h
theorem zb9 {v : Val} {n i : Nat} (h : i < n) (c : Nat) : (valE v i c).below n := by
 show ∀ a ∈ _, SA.below n a
 intro a ha
 simp only [List.mem_cons, List.not_mem_nil, or_false] at ha
 rcases ha with rfl | rfl | rfl | rfl | rfl
 ·trivial
 ·exact zg6 h _ _ _
 ·trivial
 ·trivial
 ·trivial
theorem zf9 (v : Val) (c : Nat) (caps : Nat → Nat) : bH 4 (valM v c caps) := ⟨zb9 (by omega) _, zp3 (by omega) _ _ _, zp4 _ _ _, trivial⟩
def loseV : Val := ⟨true, [], 0, 0, []⟩
set_option maxHeartbeats 4000000 in
theorem zv4 (F : Fz) (v : Val) (a : Int) (c : Nat) (caps : Nat → Nat) :
  Ct Tryz.prog 72 [.va (.ptr ⟨1, 0, 0, 0, 0⟩), .va (.int .i64 a)] F (valM v c caps) 4 (stepV F loseV) := by
 refine ct_of hΘ Tryz.func72 rfl (by decide) _ _ rfl rfl rfl ?_;conv=>whnf
 refine clean [] (.ret (.tup [])) F (valM loseV 0 (fun _ => 0)) 4 ⟨Fz.le_refl F, rfl, rfl, rfl, 0, fun _ => 0, rfl⟩ (zat _) rfl rfl (by simp [Out.below, SV.below]) (zf9 _ _ _) ⟨Fz.le_refl F, rfl, trivial⟩
end Go.Proofs.YtblllibdahkgfaaGreatDoor

namespace Go.Proofs.YtblllibdahkgfaaGreatDoor
open Go Sx
set_option maxRecDepth 100000
def upTo (f : Ln → Ln) (L : List Ln) (k : Nat) : List Ln := (L.take k).map f ++ L.drop k
theorem zt7 (f : Ln → Ln) (L : List Ln) (k : Nat) : (upTo f L k).length = L.length := by
 unfold upTo; simp only [List.length_append, List.length_map, List.length_take, List.length_drop]; omega
theorem zt3 (f : Ln → Ln) {L : List Ln} {k : Nat} {x : Ln} (h : L[k]? = some x) : (upTo f L k)[k]? = some x := by
 have hk := (List.getElem?_eq_some_iff.1 h).1
 unfold upTo
 rw [List.getElem?_append_right (by simp only [List.length_map, List.length_take]; omega), List.getElem?_drop]
 have : k + (k - ((L.take k).map f).length) = k := by simp only [List.length_map, List.length_take]; omega
 rw [this, h]
theorem ztk (f : Ln → Ln) {L : List Ln} {k : Nat} {x : Ln} (h : L[k]? = some x) : (upTo f L k).set k (f x) = upTo f L (k + 1) := by
 obtain ⟨hk, hx⟩ := List.getElem?_eq_some_iff.1 h
 unfold upTo
 rw [List.set_append_right _ _ (by simp only [List.length_map, List.length_take]; omega)]
 have e : k - ((L.take k).map f).length = 0 := by simp only [List.length_map, List.length_take]; omega
 rw [e, List.drop_eq_getElem_cons hk, List.set_cons_zero, List.take_succ_eq_append_getElem hk, List.map_append, hx]
 simp
theorem zs1 (f : Ln → Ln) (L : List Ln) : upTo f L L.length = L.map f := by
 unfold upTo; simp
theorem zcl {τ μ : Mu} {B B1 B' c : Nat} {caps : Nat → Nat} {l l' : List Ln} (hτ : ∀ k, τ B k = (B', k)) (hμ : ∀ k, μ B1 k = (B', k)) (e : l = l') : subE (some ((zbm B caps c l).ren τ)) ((zbm B1 caps c l').ren μ) := by
 subst e
 exact ⟨rfl, congrArg (fun L => SB.arr 120 2 L c) ((zdo (m := l.length) (fun k _ => ⟨hτ k, rfl⟩) 0 l (by omega)).trans (zdo (m := l.length) (fun k _ => ⟨hμ k, rfl⟩) 0 l (by omega)).symm)⟩
theorem zef {τ μ : Mu} {caps : Nat → Nat} {l l' : List Ln} (e : l = l') : subE (some ((famE caps l).ren τ)) ((famE caps l').ren μ) := by
 subst e; rw [zgw]; exact zbw
theorem zhp {μ : Mu} {B1 B' c : Nat} {caps : Nat → Nat} {l l' : List Ln} (hμ : ∀ k, μ B1 k = (B', k)) (e : l = l') : subE (some (zbm B' caps c l)) ((zbm B1 caps c l').ren μ) := by
 subst e; exact za9 hμ
theorem zls {μ : Mu} {caps : Nat → Nat} {l l' : List Ln} (e : l = l') : subE (some (famE caps l)) ((famE caps l').ren μ) := by
 subst e; exact zbw
def zuo (g : Nat) (F : Fz) (c : Nat) (caps : Nat → Nat) (a : Int) (f : Ln → Ln) (x : Ln) : Prop :=
 ∀ (L : List Ln) (i : Nat), L[i]? = some x → Ct Tryz.prog g [.va (.ptr ⟨1, 0, i, 2, 0⟩), .va (.int .i64 a)] F [(1, zbm 2 caps c L), (2, famE caps L)] 3 (stepK F c caps (L.set i (f x)))
set_option maxHeartbeats 4000000 in
theorem zsp (F : Fz) (g b : Nat) (f : Ln → Ln) (w h : Int) (bits : List UInt8) (lost : Bool) (L : List Ln) (a : Int) (c : Nat) (caps : Nat → Nat) (hb : F b = some (eF g)) (hne : L ≠ []) (hl : L.length ≤ 1000000) (hG : ∀ x ∈ L, zuo g F c caps a f x) :
  Ct Tryz.prog 93 [.va (.ptr ⟨1, 0, 0, 0, 0⟩), .va (.int .i64 a), .va (.ptr (fp b))] F (valM ⟨lost, L, w, h, bits⟩ c caps) 4 (stepV F ⟨lost, L.map f, w, h, bits⟩) := by
 rcases L with _ | ⟨a0, ar⟩
 ·exact absurd rfl hne
 have hl' : ar.length + 1 ≤ 1000000 := hl
 refine ct_of hΘ Tryz.func93 rfl (by decide) _ _ rfl rfl rfl ?_;conv=>whnf
 refine za0 hΘ (X := { x : Nat × Ln × List Ln // x.1 ≤ ar.length + 1 ∧ x.2.1 :: x.2.2 = upTo f (a0 :: ar) x.1 }) (fun x => [(11, .va (.int .i64 x.1.1))]) [5, 12, 13, 14, 15, 16, 17, 18, 19, 20, 21, 22, 23]
  (fun x => [(0, .frz F), (1, valE ⟨lost, a0 :: ar, w, h, bits⟩ 2 c), (2, zbm 3 caps c (x.1.2.1 :: x.1.2.2)), (3, famE caps (x.1.2.1 :: x.1.2.2))]) 4 (fun x => ar.length + 1 - x.1.1) ⟨(0, a0, ar), by simp, by simp [upTo]⟩
  (fun hH hT => leI [] hH hT rfl ⟨trivial, zb9 (by omega) _, zav (by omega) _ _ _, za1 _ _ _, trivial⟩ ⟨rfl, trivial⟩ ⟨Fz.le_refl F, rfl, za9 (fun k => rfl), zbw (μ := sig []) (caps := caps) (l := a0 :: ar), trivial⟩) ?_
 rintro ⟨⟨k, a1, r1⟩, hk, hob⟩ hH hT
 replace hk : k ≤ ar.length + 1 := hk
 replace hob : a1 :: r1 = upTo f (a0 :: ar) k := hob
 conv=>whnf
 refine br (fun gb => ?_) (fun gb => ?_)
 ·have gk : k < ar.length + 1 := by
   have h0 : (k : Int) < ((ar.length + 1 : Nat) : Int) := of_decide_eq_true gb
   omega
  clear gb
  have hx0 : ∃ x, (a0 :: ar)[k]? = some x := ⟨_, List.getElem?_eq_getElem gk⟩
  obtain ⟨x, hx0⟩ := hx0
  have hxm := List.mem_of_getElem? hx0
  have hx1 : (a1 :: r1)[k]? = some x := by rw [hob]; exact zt3 f hx0
  have hset : (a1 :: r1).set k (f x) = upTo f (a0 :: ar) (k + 1) := by rw [hob]; exact ztk f hx0
  have hx2 : (a1 :: r1)[0 + k]? = some x := by rw [Nat.zero_add]; exact hx1
  have hcall := hG x hxm (a1 :: r1) (0 + k) hx2
  have hnx : ∃ a2 r2, a2 :: r2 = upTo f (a0 :: ar) (k + 1) := by
   have hlen := zt7 f (a0 :: ar) (k + 1)
   cases hu : upTo f (a0 :: ar) (k + 1) with
   | nil => rw [hu] at hlen; simp at hlen
   | cons a2 r2 => exact ⟨a2, r2, rfl⟩
  obtain ⟨a2, r2, hnx⟩ := hnx
  have heq : (a1 :: r1).set (0 + k) (f x) = a2 :: r2 := by rw [Nat.zero_add, hset, hnx]
  conv=>whnf
  refine drawP hΘ mixed (.look 0 (.look 1 (.look 2 (.look 3 (.look 4 (.look 5 (.look 6 (.look 7 (.alt 8 .done .nil))))))))) [0, 1] (by kernel_rfl) ?_;conv=>whnf
  repeat' ((conv=>whnf); first
   | refine ⟨rfl, ?_⟩
   | refine ⟨Fz.le_refl _, rfl, ?_⟩
   | refine ⟨Fz.le_refl _, rfl, rfl, ?_⟩
   | refine ⟨⟨by simp, by simp⟩, ?_⟩
   | fail)
  refine ⟨_, hb, ?_⟩;conv=>whnf
  refine ⟨rfl, ?_⟩;conv=>whnf
  refine ⟨rfl, ⟨by simp, by show (k : Int) < ((ar.length + 1 : Nat) : Int); omega⟩, ?_⟩;conv=>whnf
  refine use hcall [(1, 2), (2, 3)] rfl ⟨rfl, rfl, trivial⟩ rfl ⟨zav (by omega) _ _ _, za1 _ _ _, trivial⟩ (by simp [SV.below, SA.below]) ⟨za9 (fun k => rfl), zbw (caps := caps) (l := a1 :: r1), trivial⟩ ?_
  rintro out0 F0 h0 n1 hle ⟨rfl, rfl, rfl, rfl⟩;conv=>whnf
  refine ⟨Fz.le_refl _, rfl, rfl, ?_⟩;conv=>whnf
  exact ⟨⟨(k + 1, a2, r2), by show k + 1 ≤ ar.length + 1; omega, hnx⟩, by show ar.length + 1 - (k + 1) < ar.length + 1 - k; omega,
   leR [] hH hT rfl ⟨trivial, zb9 (by omega) _, zav (by omega) _ _ _, za1 _ _ _, trivial⟩ ⟨cnt (by omega), trivial⟩
   ⟨Fz.le_refl _, rfl, zcl (fun k => rfl) (fun k => rfl) heq, zef heq, trivial⟩⟩
 ·have gk : k = ar.length + 1 := by
   have h0 : ¬ (k : Int) < ((ar.length + 1 : Nat) : Int) := of_decide_eq_false gb
   omega
  clear gb
  have hall : a1 :: r1 = (a0 :: ar).map f := by rw [hob, gk]; exact zs1 f (a0 :: ar)
  have e1 : valE ⟨lost, a0 :: ar, w, h, bits⟩ 2 c = valE ⟨lost, f a0 :: ar.map f, w, h, bits⟩ 2 c := by
   simp [valE, gA]
  have hv1 : ∀ μ : Mu, μ 2 0 = (2, 0) → subE (some (valE ⟨lost, a0 :: ar, w, h, bits⟩ 2 c)) ((valE ⟨lost, f a0 :: ar.map f, w, h, bits⟩ 2 c).ren μ) := by
   intro μ hμ
   rw [← e1]
   show _ = _
   simp [SB.ren, gA, SA.ren, hμ]
  conv=>whnf
  refine clean [] (.ret (.tup [])) F (valM ⟨lost, f a0 :: ar.map f, w, h, bits⟩ c caps) 4 ⟨Fz.le_refl F, rfl, rfl, rfl, c, caps, rfl⟩ (zat _) rfl rfl (by simp [Out.below, SV.below]) (zf9 _ _ _) ⟨Fz.le_refl F, ?_, ?_, ?_, trivial⟩
  ·exact hv1 _ rfl
  ·exact zhp (fun k => rfl) hall
  ·exact zls hall
end Go.Proofs.YtblllibdahkgfaaGreatDoor

namespace Go.Proofs.YtblllibdahkgfaaGreatDoor
open Go Sx
set_option maxRecDepth 100000
theorem zhl {B : Nat} {caps : Nat → Nat} {t' : List UInt8} {n : List Int} : ∀ (j : Nat) (L : List Ln) (i : Nat), zbq B caps j (L.set i (t', n)) = (zbq B caps j L).set i [.str t', nA B (j + i) (caps (j + i)) n]
 | j, [], i => by simp [zbq]
 | j, y :: r, 0 => by
  rw [List.set_cons_zero, zbq, zbq, List.set_cons_zero]; rfl
 | j, y :: r, i + 1 => by
  rw [List.set_cons_succ, zbq, zbq, zhl (j + 1) r i, List.set_cons_succ]
  have : j + 1 + i = j + (i + 1) := by omega
  rw [this]
theorem zg8 {caps : Nat → Nat} {t t' : List UInt8} {n : List Int} {L : List Ln} {i : Nat} (h : L[i]? = some (t, n)) : famE caps (L.set i (t', n)) = famE caps L := by
 have hm : (L.set i (t', n)).map (·.2) = L.map (·.2) := by
  rw [List.map_set]
  exact zjy (by rw [List.getElem?_map, h]; rfl)
 unfold famE
 rw [List.length_set, hm]
theorem zk8 {caps : Nat → Nat} {c : Nat} {t' : List UInt8} {n : List Int} {L : List Ln} {i : Nat} {row : List (List SA)} (hne : L ≠ []) (hr : row = (zbq 2 caps 0 L).set i [.str t', nA 2 i (caps i) n]) {μ : Mu} (hμ : ∀ k, μ 2 k = (2, k)) :
  subE (some (.opt true (.arr 120 2 row c))) ((zbm 2 caps c (L.set i (t', n))).ren μ) := by
 have e := zhl (B := 2) (caps := caps) (t' := t') (n := n) 0 L i
 rw [Nat.zero_add] at e
 rw [hr, ← e]
 have h2 := za9 (B := 2) (B' := 2) (caps := caps) (c := c) (l := L.set i (t', n)) hμ
 have h3 : (!(L.set i (t', n)).isEmpty) = true := by
  cases L with
  | nil => exact absurd rfl hne
  | cons x r => cases i <;> rfl
 rw [zbm, h3] at h2
 rw [zbm, h3]
 exact h2
def LFun (low : List UInt8 → List UInt8) : Prop := ∀ (F : Fz) (s : List UInt8), s.length ≤ 70000 → (∀ b ∈ s, b.toNat < 128) → Fo Tryz.prog F 94 [.va (.str s)] (fun o F' => F = F' ∧ o = .ret (.va (.str (low s))))
set_option maxHeartbeats 4000000 in
theorem zv6 {low : List UInt8 → List UInt8} (hL : LFun low) (F : Fz) (L : List Ln) (i c : Nat) (caps : Nat → Nat) (t : List UInt8) (n : List Int) (a : Int) (h : L[i]? = some (t, n)) (ht : t.length ≤ 70000) (h128 : ∀ b ∈ t, b.toNat < 128) :
  Ct Tryz.prog 65 [.va (.ptr ⟨1, 0, i, 2, 0⟩), .va (.int .i64 a)] F [(1, zbm 2 caps c L), (2, famE caps L)] 3
   (stepK F c caps (L.set i (low t, n))) := by
 have hcell := zdb 2 caps 0 L i _ h
 rw [Nat.zero_add] at hcell
 have hi : i < L.length := (List.getElem?_eq_some_iff.1 h).1
 rcases L with _ | ⟨a0, ar⟩
 ·exact absurd hi (by simp)
 have hs2 : ∀ μ : Mu, subE (some (famE caps (a0 :: ar))) ((famE caps ((a0 :: ar).set i (low t, n))).ren μ) := fun μ => by
  rw [zg8 h]; exact zbw
 refine ct_of hΘ Tryz.func65 rfl (by decide) _ _ rfl rfl rfl ?_;conv=>whnf
 refine ⟨rfl, ?_⟩;conv=>whnf
 refine ⟨_, hcell, ?_⟩;conv=>whnf
 refine useFo (hL F t ht h128) rfl ⟨rfl, trivial⟩ rfl ?_
 rintro _ _ l1 ⟨rfl, rfl⟩;conv=>whnf
 refine ⟨rfl, ?_⟩;conv=>whnf
 refine ⟨_, hcell, ?_⟩;conv=>whnf
 refine clean [] (.ret (.tup [])) F [(1, zbm 2 caps c ((a0 :: ar).set i (low t, n))), (2, famE caps ((a0 :: ar).set i (low t, n)))] 3 ⟨Fz.le_refl F, rfl, rfl, rfl, rfl⟩ (zat _) rfl rfl (by simp [Out.below, SV.below]) ⟨zav (by omega) _ _ _, za1 _ _ _, trivial⟩ ⟨Fz.le_refl F, ?_, ?_, trivial⟩
 ·exact zk8 (t' := low t) (n := n) (by simp) rfl (fun k => rfl)
 ·exact hs2 _
end Go.Proofs.YtblllibdahkgfaaGreatDoor
