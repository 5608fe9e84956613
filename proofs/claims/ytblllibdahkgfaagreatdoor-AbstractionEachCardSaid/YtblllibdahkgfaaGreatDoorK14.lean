import Derived.Test.YtblllibdahkgfaaGreatDoorK13

namespace Go.Proofs.YtblllibdahkgfaaGreatDoor
open Go Sx
set_option maxRecDepth 100000
theorem zl2 : ∀ (l : List UInt8) (f i z : Nat) {z' i' : Nat} {b : UInt8}, decZ l f i z = some (z', i', b) → i ≤ i' ∧ i' - i < l.length ∧ i' < i + f ∧ l[i' - i]? = some b
 | _, 0, _, _, _, _, _, h => by simp [decZ] at h
 | [], _ + 1, _, _, _, _, _, h => by simp [decZ] at h
 | b :: r, f + 1, i, z, z', i', b', h => by
  rw [decZ] at h
  split at h
  ·obtain ⟨h1, h2, h3, h4⟩ := zl2 r f (i + 1) _ h
   refine ⟨by omega, by simp; omega, by omega, ?_⟩
   have : i' - i = (i' - (i + 1)) + 1 := by omega
   rw [this, List.getElem?_cons_succ]; exact h4
  ·simp only [Option.some.injEq, Prod.mk.injEq] at h
   obtain ⟨_, h2, h3⟩ := h
   subst h2; subst h3
   exact ⟨Nat.le_refl _, by simp, by omega, by simp⟩
theorem zqj : ∀ (l : List UInt8) (f i z : Nat) {z' i' : Nat} {b : UInt8}, decZ l f i z = some (z', i', b) → z < 128 ^ i → z' < 128 ^ (i' + 1)
 | _, 0, _, _, _, _, _, h, _ => by simp [decZ] at h
 | [], _ + 1, _, _, _, _, _, h, _ => by simp [decZ] at h
 | b :: r, f + 1, i, z, z', i', b', h, hz => by
  rw [decZ] at h
  split at h
  ·exact zqj r f (i + 1) _ h (znn hz (Nat.mod_lt _ (by omega)))
  ·rename_i hb
   simp only [Option.some.injEq, Prod.mk.injEq] at h
   obtain ⟨h1, h2, _⟩ := h
   subst h1; subst h2
   exact znn hz (by omega)
theorem zdy {s : List UInt8} {p : Int} (h : (getI s p).2.2 = 0) : 0 ≤ p ∧ p < (getI s p).2.1 ∧ (getI s p).2.1 ≤ s.length ∧ -4611686018427387903 ≤ (getI s p).1 ∧ (getI s p).1 ≤ 4611686018427387903 := by
 rw [getI] at h ⊢
 split at h
 ·simp at h
 ·rename_i hb
  rw [if_neg hb]
  split at h
  ·simp at h
  ·rename_i z i b hd
   split at h
   ·simp at h
   ·rename_i hn
    simp only [if_neg hn]
    obtain ⟨h1, h2, h3, h4⟩ := zl2 _ _ _ _ hd
    have h5 := zqj _ _ _ _ hd (by simp)
    have h6 : 128 ^ (i + 1) ≤ 128 ^ 9 := Nat.pow_le_pow_right (by omega) (by omega)
    have h7 : (128 : Nat) ^ 9 = 9223372036854775808 := by decide
    rw [List.length_drop] at h2
    refine ⟨by omega, by omega, by omega, by omega, ?_⟩
    unfold unz; split <;> omega
def getS (s : List UInt8) (p : Int) : List UInt8 × Int × Int :=
 if (getI s p).2.2 ≠ 0 then ([], 0, (getI s p).2.2) else
 if (getI s p).1 < 0 ∨ 65536 < (getI s p).1 ∨ (s.length : Int) - (getI s p).2.1 < (getI s p).1 then ([], 0, 10) else
 ((s.take ((getI s p).2.1 + (getI s p).1).toNat).drop (getI s p).2.1.toNat, (getI s p).2.1 + (getI s p).1, 0)
set_option maxHeartbeats 4000000 in
theorem zql (F : Fz) (s : List UInt8) (p : Int) (hs : s.length ≤ 1000000000000000000) (hp : i64 p) :
  Fo Tryz.prog F 99 [.va (.str s), .va (.int .i64 p)] (fun o F' => o = .ret (.tup [.va (.str (getS s p).1), .va (.int .i64 (getS s p).2.1), .va (.int .i64 (getS s p).2.2)]) ∧ F' = F) := by
 have fin : ∀ (n : List UInt8) (x e : Int) (h : Hp) (nx : Nat), getS s p = (n, x, e) → lget h 0 = some (.frz F) →
   Cln 1 (FoK F fun o F' => o = .ret (.tup [.va (.str (getS s p).1), .va (.int .i64 (getS s p).2.1), .va (.int .i64 (getS s p).2.2)]) ∧ F' = F) (.ret (.tup [.va (.str n), .va (.int .i64 x), .va (.int .i64 e)])) h nx := by
  intro n x e h nx hv h0
  exact endFo (.ret (.tup [.va (.str n), .va (.int .i64 x), .va (.int .i64 e)])) F h0 (Fz.le_refl F) (Fz.le_refl F) ⟨by rw [hv], rfl⟩ (zat _) rfl
 have hi := zuk F s p hs hp
 have hok := @zdy s p
 have hge : ∀ n x e, getI s p = (n, x, e) → getS s p = if e ≠ 0 then ([], 0, e) else if n < 0 ∨ 65536 < n ∨ (s.length : Int) - x < n then ([], 0, 10) else ((s.take (x + n).toNat).drop x.toNat, x + n, 0) := fun n x e h => by rw [getS, h]
 obtain ⟨n, x, e, hg⟩ : ∃ n x e, getI s p = (n, x, e) := ⟨_, _, _, rfl⟩
 have hge := hge n x e hg
 rw [hg] at hi hok
 replace hok : e = 0 → 0 ≤ p ∧ p < x ∧ x ≤ s.length ∧ -4611686018427387903 ≤ n ∧ n ≤ 4611686018427387903 := hok
 refine fo_of hΘ Tryz.func99 rfl (by decide) _ _ rfl rfl rfl ?_;conv=>whnf
 refine usePu (hi) rfl (zaf _) rfl ?_;conv=>whnf
 refine br (fun g => ?_) (fun g => ?_)
 ·have g1 : e ≠ 0 := by simpa using g
  conv=>whnf
  exact fin [] 0 e _ _ (by rw [hge, if_pos g1]) rfl
 ·have g1 : e = 0 := by simpa using g
  have hb := hok g1
  have hge2 : getS s p = if n < 0 ∨ 65536 < n ∨ (s.length : Int) - x < n then ([], 0, 10) else ((s.take (x + n).toNat).drop x.toNat, x + n, 0) := by rw [hge, if_neg (by simp [g1])]
  have ew : IntKind.i64.wrap ((s.length : Int) - x) = s.length - x := zaj (by omega) (by omega)
  conv=>whnf
  refine ⟨fun ga => ?_, fun ga => ?_⟩
  ·have ga' : ¬ n < 0 := of_decide_eq_false ga
   conv=>whnf
   refine ⟨fun gb => ?_, fun gb => ?_⟩
   ·have gb' : ¬ 65536 < n := of_decide_eq_false gb
    conv=>whnf
    refine br (fun gc => ?_) (fun gc => ?_)
    ·have gc' : (s.length : Int) - x < n := by have h0 := of_decide_eq_true gc; rw [← ew]; exact h0
     conv=>whnf
     exact fin [] 0 10 _ _ (by rw [hge2, if_pos (.inr (.inr gc'))]) rfl
    ·have gc' : ¬ (s.length : Int) - x < n := by have h0 := of_decide_eq_false gc; rw [← ew]; exact h0
     have e2 : IntKind.i64.wrap (x + n) = x + n := zaj (by omega) (by omega)
     conv=>whnf
     refine ⟨⟨by dsimp only; rw [e2]; omega, by dsimp only; rw [e2]; omega⟩, ⟨by dsimp only; omega, by dsimp only; rw [e2]; omega⟩, ?_⟩;conv=>whnf
     refine fin _ _ 0 _ _ ?_ rfl
     rw [hge2, if_neg (by omega), e2]
   ·have gb' : 65536 < n := of_decide_eq_true gb
    conv=>whnf
    exact fin [] 0 10 _ _ (by rw [hge2, if_pos (.inr (.inl gb'))]) rfl
  ·have ga' : n < 0 := of_decide_eq_true ga
   conv=>whnf
   exact fin [] 0 10 _ _ (by rw [hge2, if_pos (.inl ga')]) rfl
end Go.Proofs.YtblllibdahkgfaaGreatDoor

namespace Go.Proofs.YtblllibdahkgfaaGreatDoor
open Go Sx
set_option maxRecDepth 100000
def perr : Value := .iface 29 (.int .i64 70)
theorem zcg (F : Fz) (b : Bool) : Fo Tryz.prog F 51 [.va (.bool b)] (fun o F' => F = F' ∧ ((b = true ∧ o = .ret (.tup [])) ∨ (b = false ∧ o = .panic perr))) := by
 refine fo_of hΘ Tryz.func51 rfl (by decide) _ _ rfl rfl rfl ?_;conv=>whnf
 refine br (fun g => ?_) (fun g => ?_)
 ·conv=>whnf
  exact endFo (.panic perr) F rfl (Fz.le_refl F) (Fz.le_refl F) ⟨rfl, .inr ⟨not_t g, rfl⟩⟩ rfl rfl
 ·conv=>whnf
  exact endFo (.ret (.tup [])) F rfl (Fz.le_refl F) (Fz.le_refl F) ⟨rfl, .inl ⟨by simpa using g, rfl⟩⟩ (zat _) rfl
def rdr (s : List UInt8) (p : Int) : Ent := .one (.cells 117 [.str s, .int .i64 p])
theorem za8 {n : Nat} (s : List UInt8) (p : Int) : (rdr s p).below n := (SB.bB_ok rfl : SB.below n (.cells 117 [.str s, .int .i64 p]))
def zbb (s : List UInt8) (p lo hi : Int) : Bool := decide ((getI s p).2.2 = 0) && (decide (lo ≤ (getI s p).1) && decide ((getI s p).1 ≤ hi))
set_option maxHeartbeats 4000000 in
theorem zdv (F : Fz) (s : List UInt8) (p lo hi : Int) (hs : s.length ≤ 1000000000000000000) (hp : i64 p) :
  Ct Tryz.prog 75 [.va (.ptr ⟨1, 0, 0, 0, 0⟩), .va (.int .i64 lo), .va (.int .i64 hi)] F [(1, rdr s p)] 2
   (fun o F0 h0 n0 => F = F0 ∧ n0 = 2 ∧ (if zbb s p lo hi = true then o = .ret (.va (.int .i64 (getI s p).1)) ∧ h0 = [(1, rdr s (getI s p).2.1)] else o = .panic perr ∧ h0 = [(1, rdr s p)])) := by
 have hi1 := zuk F s p hs hp
 obtain ⟨n, x, e, hg⟩ : ∃ n x e, getI s p = (n, x, e) := ⟨_, _, _, rfl⟩
 have hok : zbb s p lo hi = (decide (e = 0) && (decide (lo ≤ n) && decide (n ≤ hi))) := by rw [zbb, hg]
 rw [hg] at hi1
 have hgx : (getI s p).2.1 = x := by rw [hg]
 have hgn : (getI s p).1 = n := by rw [hg]
 refine ct_of hΘ Tryz.func75 rfl (by decide) _ _ rfl rfl rfl ?_;conv=>whnf
 refine drawP hΘ mixed (.look 0 (.look 1 (.look 2 (.look 3 (.look 4 (.look 5 (.look 6 (.look 7 (.alt 8 (.look 9 (.look 10 (.look 11 (.look 12 (.look 13 (.look 14 (.look 15 .done))))))) .nil))))))))) [1] (by kernel_rfl) ?_;conv=>whnf
 repeat' ((conv=>whnf); first
  | refine ⟨rfl, ?_⟩
  | refine ⟨Fz.le_refl _, rfl, ?_⟩
  | refine ⟨Fz.le_refl _, rfl, rfl, ?_⟩
  | refine ⟨⟨by simp, by simp⟩, ?_⟩
  | fail)
 conv=>whnf
 refine usePu (hi1) rfl (zaf _) rfl ?_;conv=>whnf
 refine ⟨Fz.le_refl F, rfl, ?_⟩;conv=>whnf
 refine ⟨fun ge => ?_, fun ge => ?_⟩
 ·have ge' : e = 0 := of_decide_eq_true ge
  conv=>whnf
  refine usePu (zc6 n lo hi F) rfl (zaf _) rfl ?_;conv=>whnf
  refine useFo (zcg F (decide (lo ≤ n) && decide (n ≤ hi))) rfl ⟨rfl, trivial⟩ rfl ?_
  rintro _ _ l1 ⟨rfl, ⟨hb, rfl⟩ | ⟨hb, rfl⟩⟩
  ·conv=>whnf
   refine clean [] (.ret (.va (.int .i64 n))) F [(1, rdr s x)] 2 ⟨Fz.le_refl F, rfl, rfl, ?_⟩ (zat _) rfl rfl trivial ⟨za8 s _, trivial⟩ ⟨Fz.le_refl F, rfl, trivial⟩
   rw [hok, if_pos (by rw [ge, hb]; rfl), hgn, hgx]; exact ⟨rfl, rfl⟩
  ·conv=>whnf
   refine clean [] (.panic perr) F [(1, rdr s p)] 2 ⟨Fz.le_refl F, rfl, rfl, ?_⟩ rfl rfl rfl trivial ⟨za8 s _, trivial⟩ ⟨Fz.le_refl F, rfl, trivial⟩
   rw [hok, if_neg (by rw [hb]; simp)]; exact ⟨rfl, rfl⟩
 ·conv=>whnf
  refine useFo (zcg F false) rfl ⟨rfl, trivial⟩ rfl ?_
  rintro _ _ l1 ⟨rfl, ⟨hb, rfl⟩ | ⟨hb, rfl⟩⟩
  ·cases hb
  ·conv=>whnf
   refine clean [] (.panic perr) F [(1, rdr s p)] 2 ⟨Fz.le_refl F, rfl, rfl, ?_⟩ rfl rfl rfl trivial ⟨za8 s _, trivial⟩ ⟨Fz.le_refl F, rfl, trivial⟩
   rw [hok, if_neg (by rw [ge]; simp)]; exact ⟨rfl, rfl⟩
set_option maxHeartbeats 4000000 in
theorem znr (F : Fz) (s : List UInt8) (p : Int) (hs : s.length ≤ 1000000000000000000) (hp : i64 p) :
  Ct Tryz.prog 76 [.va (.ptr ⟨1, 0, 0, 0, 0⟩)] F [(1, rdr s p)] 2
   (fun o F0 h0 n0 => F = F0 ∧ n0 = 2 ∧ (if (getS s p).2.2 = 0 then o = .ret (.va (.str (getS s p).1)) ∧ h0 = [(1, rdr s (getS s p).2.1)] else o = .panic perr ∧ h0 = [(1, rdr s p)])) := by
 have hi1 := zql F s p hs hp
 obtain ⟨n, x, e, hg⟩ : ∃ n x e, getS s p = (n, x, e) := ⟨_, _, _, rfl⟩
 rw [hg] at hi1
 have hge : (getS s p).2.2 = e := by rw [hg]
 have hgx : (getS s p).2.1 = x := by rw [hg]
 have hgn : (getS s p).1 = n := by rw [hg]
 refine ct_of hΘ Tryz.func76 rfl (by decide) _ _ rfl rfl rfl ?_;conv=>whnf
 refine drawP hΘ mixed (.look 0 (.look 1 (.look 2 (.look 3 (.look 4 (.look 5 (.look 6 (.look 7 (.alt 8 (.look 9 (.look 10 (.look 11 (.look 12 (.look 13 (.look 14 (.look 15 .done))))))) .nil))))))))) [1] (by kernel_rfl) ?_;conv=>whnf
 repeat' ((conv=>whnf); first
  | refine ⟨rfl, ?_⟩
  | refine ⟨Fz.le_refl _, rfl, ?_⟩
  | refine ⟨Fz.le_refl _, rfl, rfl, ?_⟩
  | refine ⟨⟨by simp, by simp⟩, ?_⟩
  | fail)
 conv=>whnf
 refine usePu (hi1) rfl (zaf _) rfl ?_;conv=>whnf
 refine ⟨Fz.le_refl F, rfl, ?_⟩;conv=>whnf
 refine useFo (zcg F (decide (e = 0))) rfl ⟨rfl, trivial⟩ rfl ?_
 rintro _ _ l1 ⟨rfl, ⟨hb, rfl⟩ | ⟨hb, rfl⟩⟩
 ·conv=>whnf
  refine clean [] (.ret (.va (.str n))) F [(1, rdr s x)] 2 ⟨Fz.le_refl F, rfl, rfl, ?_⟩ (zat _) rfl rfl trivial ⟨za8 s _, trivial⟩ ⟨Fz.le_refl F, rfl, trivial⟩
  rw [hge, if_pos (of_decide_eq_true hb), hgn, hgx]; exact ⟨rfl, rfl⟩
 ·conv=>whnf
  refine clean [] (.panic perr) F [(1, rdr s p)] 2 ⟨Fz.le_refl F, rfl, rfl, ?_⟩ rfl rfl rfl trivial ⟨za8 s _, trivial⟩ ⟨Fz.le_refl F, rfl, trivial⟩
  rw [hge, if_neg (of_decide_eq_false hb)]; exact ⟨rfl, rfl⟩
end Go.Proofs.YtblllibdahkgfaaGreatDoor

namespace Go.Proofs.YtblllibdahkgfaaGreatDoor
open Go Sx
set_option maxRecDepth 100000
theorem zm8 (n : Int) : Pu Tryz.prog 172 [.va (.int .i64 n)] (.va (.bool false)) := by
 intro F
 refine fo_of hΘ Tryz.func172 rfl (by decide) _ _ rfl rfl rfl ?_;conv=>whnf
 refine endPu rfl (Fz.le_refl F) (ob ?_) rfl
 simp
def cmpI (a b : Int) : Int := if a < b then -1 else if b < a then 1 else 0
theorem zxy (a b : Int) : Pu Tryz.prog 146 [.va (.int .i64 a), .va (.int .i64 b)] (.va (.int .i64 (cmpI a b))) := by
 intro F
 refine fo_of hΘ Tryz.func146 rfl (by decide) _ _ rfl rfl rfl ?_;conv=>whnf
 refine usePu (zm8 a F) rfl (zaf _) rfl ?_;conv=>whnf
 refine usePu (zm8 b F) rfl (zaf _) rfl ?_;conv=>whnf
 refine br (fun g => absurd g (by decide)) (fun _ => ?_);conv=>whnf
 refine br (fun g => absurd g (by decide)) (fun _ => ?_);conv=>whnf
 refine br (fun g => ?_) (fun g => ?_)
 ·conv=>whnf
  refine endPu rfl (Fz.le_refl F) (oi ?_) rfl
  rw [cmpI, if_pos (of_decide_eq_true g)]
 ·have g1 : ¬ a < b := of_decide_eq_false g
  conv=>whnf
  refine br (fun g => ?_) (fun g => ?_)
  ·conv=>whnf
   refine endPu rfl (Fz.le_refl F) (oi ?_) rfl
   rw [cmpI, if_neg g1, if_pos (of_decide_eq_true g)]
  ·conv=>whnf
   refine endPu rfl (Fz.le_refl F) (oi ?_) rfl
   rw [cmpI, if_neg g1, if_neg (of_decide_eq_false g)]
def cmpL : List Int → List Int → Int
 | [], [] => 0
 | [], _ :: _ => -1
 | _ :: _, [] => 1
 | x :: r, y :: t => if cmpI x y = 0 then cmpL r t else cmpI x y
theorem zqy {a b : List Int} {k : Nat} (ha : k < a.length) (hb : k < b.length) : cmpL (a.drop k) (b.drop k) = if cmpI a[k] b[k] = 0 then cmpL (a.drop (k + 1)) (b.drop (k + 1)) else cmpI a[k] b[k] := by
 rw [List.drop_eq_getElem_cons ha, List.drop_eq_getElem_cons hb, cmpL]
set_option maxHeartbeats 1000000 in
theorem zos (F : Fz) (sa sb : SA) (a b : List Int) (ha : zeh F sa a) (hb : zeh F sb b) (la : a.length < 1000000) :
  Fo Tryz.prog F 111 [.va sa, .va sb] (fun o F' => o = .ret (.va (.int .i64 (cmpL a b))) ∧ F' = F) := by
 have fin : ∀ (v : Int) (h : Hp) (nx : Nat), cmpL a b = v → lget h 0 = some (.frz F) →
   Cln 1 (FoK F fun o F' => o = .ret (.va (.int .i64 (cmpL a b))) ∧ F' = F) (.ret (.va (.int .i64 v))) h nx := by
  intro v h nx hv h0
  exact endPu h0 (Fz.le_refl F) (oi hv) rfl
 obtain ⟨han, hab, hae, hac, haL, har, rfl, ha1, ha2, ha3, ha4⟩ := ha
 obtain ⟨hbn, hbb, hbe, hbc, hbL, hbr, rfl, hb1, hb2, hb3, hb4⟩ := hb
 refine fo_of hΘ Tryz.func111 rfl (by decide) _ _ rfl rfl rfl ?_;conv=>whnf
 refine za0 hΘ (X := { k : Nat // k ≤ a.length ∧ k ≤ b.length ∧ cmpL a b = cmpL (a.drop k) (b.drop k) }) (fun k => [(11, .va (.int .i64 k.1))]) [4, 5, 6, 7, 8, 12, 13, 14, 15, 16, 17, 18, 19, 20, 21, 22, 23, 24, 25, 26, 27, 28, 29, 30] (fz fun _ => F) 1 (fun k => a.length - k.1) ⟨0, by simp⟩
  (fun hH hT => le0 hH hT rfl (Fz.le_refl F) rfl ⟨rfl, trivial⟩) ?_
 rintro ⟨k, hk, hk2, hp⟩ hH hT;conv=>whnf
 refine br (fun g => ?_) (fun g => ?_)
 ·have g : k < a.length := by simpa using g
  conv=>whnf
  refine ⟨Sl.lt ha1 g, ⟨by simp, by simpa using g⟩, ?_⟩;conv=>whnf
  refine ⟨_, ha2 (Sl.lt ha1 g), ?_⟩;conv=>whnf
  refine ⟨_, Sl.at ha4 g, ?_⟩;conv=>whnf
  refine br (fun gb => ?_) (fun gb => ?_)
  ·have gb' : b.length = k := by have h0 : (b.length : Int) ≤ k := (by simpa using gb); omega
   conv=>whnf
   have hbk : b.drop k = [] := List.drop_of_length_le (by omega)
   exact fin 1 _ _ (by rw [hp, List.drop_eq_getElem_cons g, hbk, cmpL]) rfl
  ·have gb' : k < b.length := by have h0 : ¬ (b.length : Int) ≤ k := (by simpa using gb); omega
   rw [zqy g gb'] at hp
   conv=>whnf
   refine ⟨Sl.lt hb1 gb', ⟨by simp, by simpa using gb'⟩, ?_⟩;conv=>whnf
   refine ⟨_, hb2 (Sl.lt hb1 gb'), ?_⟩;conv=>whnf
   refine ⟨_, Sl.at hb4 gb', ?_⟩;conv=>whnf
   refine usePu (zxy a[k] b[k] F) rfl (zaf _) rfl ?_;conv=>whnf
   refine br (fun gc => ?_) (fun gc => ?_)
   ·have gc' : ¬ cmpI a[k] b[k] = 0 := by simpa using gc
    conv=>whnf
    exact fin _ _ _ (by rw [hp, if_neg gc']) rfl
   ·have gc' : cmpI a[k] b[k] = 0 := by simpa using gc
    rw [if_pos gc'] at hp
    conv=>whnf
    exact ⟨⟨k + 1, by omega, by omega, hp⟩, by show a.length - (k + 1) < a.length - k; omega, lr0 hH hT rfl (Fz.le_refl F) rfl ⟨cnt (by omega), trivial⟩⟩
 ·have g : ¬ k < a.length := by simpa using g
  have hak : a.drop k = [] := List.drop_of_length_le (by omega)
  rw [hak] at hp
  conv=>whnf
  refine br (fun gb => ?_) (fun gb => ?_)
  ·have gb' : k < b.length := by have h0 : (a.length : Int) < b.length := (by simpa using gb); omega
   conv=>whnf
   exact fin (-1) _ _ (by rw [hp, List.drop_eq_getElem_cons gb', cmpL]) rfl
  ·have gb' : b.length ≤ k := by have h0 : ¬ (a.length : Int) < b.length := (by simpa using gb); omega
   conv=>whnf
   have hbk : b.drop k = [] := List.drop_of_length_le gb'
   exact fin 0 _ _ (by rw [hp, hbk, cmpL]) rfl
def cols (p : Int) : Nat := if p = 2 then 1 else if p = 3 then 3 else if p = 4 then 4 else if p = 5 then 3 else 0
theorem zh9 (p : Int) (hp : 1 ≤ p ∧ p ≤ 5) : Pu Tryz.prog 109 [.va (.int .i64 p)] (.va (.int .i64 (cols p))) := by
 intro F
 have hcs : p = 1 ∨ p = 2 ∨ p = 3 ∨ p = 4 ∨ p = 5 := by omega
 rcases hcs with rfl | rfl | rfl | rfl | rfl
 all_goals refine fo_of hΘ Tryz.func109 rfl (by decide) _ _ rfl rfl rfl ?_
 all_goals conv=>whnf
 all_goals refine ⟨⟨by decide, by decide⟩, ?_⟩
 all_goals conv=>whnf
 all_goals exact endPu rfl (Fz.le_refl F) rfl rfl
def bnd (p : Int) (n : List Int) : Int × Int :=
 if p = 2 then (0, 7) else if n.length < 2 then (0, 31) else if p = 4 then (0, n.getD (n.length - 2) 0) else if p = 3 then (-1000000, 1000000) else (-1000000000000, 1000000000000)
set_option maxHeartbeats 1000000 in
theorem zk0 (F : Fz) (sa : SA) (n : List Int) (p : Int) (ha : zeh F sa n) (hl : n.length < 1000000) :
  Fo Tryz.prog F 110 [.va (.int .i64 p), .va sa] (fun o F' => o = .ret (.tup [.va (.int .i64 (bnd p n).1), .va (.int .i64 (bnd p n).2)]) ∧ F' = F) := by
 have fin : ∀ (x y : Int) (h : Hp) (nx : Nat), bnd p n = (x, y) → lget h 0 = some (.frz F) →
   Cln 1 (FoK F fun o F' => o = .ret (.tup [.va (.int .i64 (bnd p n).1), .va (.int .i64 (bnd p n).2)]) ∧ F' = F) (.ret (.tup [.va (.int .i64 x), .va (.int .i64 y)])) h nx := by
  intro x y h nx hv h0
  exact endFo (.ret (.tup [.va (.int .i64 x), .va (.int .i64 y)])) F h0 (Fz.le_refl F) (Fz.le_refl F) ⟨by rw [hv], rfl⟩ (zat _) rfl
 obtain ⟨han, hab, hae, hac, haL, har, rfl, ha1, ha2, ha3, ha4⟩ := ha
 refine fo_of hΘ Tryz.func110 rfl (by decide) _ _ rfl rfl rfl ?_;conv=>whnf
 refine br (fun g => ?_) (fun g => ?_)
 ·have g1 : p = 2 := of_decide_eq_true g
  conv=>whnf
  exact fin 0 7 _ _ (by rw [bnd, if_pos g1]) rfl
 ·have g1 : ¬ p = 2 := of_decide_eq_false g
  conv=>whnf
  refine br (fun g => ?_) (fun g => ?_)
  ·have g2 : n.length < 2 := by have h0 : (n.length : Int) < 2 := of_decide_eq_true g; omega
   conv=>whnf
   exact fin 0 31 _ _ (by rw [bnd, if_neg g1, if_pos g2]) rfl
  ·have g2 : ¬ n.length < 2 := by have h0 : ¬ (n.length : Int) < 2 := of_decide_eq_false g; omega
   conv=>whnf
   refine br (fun g => ?_) (fun g => ?_)
   ·have g3 : p = 4 := of_decide_eq_true g
    have gk : n.length - 2 < n.length := by omega
    have ew : IntKind.i64.wrap ((n.length : Int) - 2) = ((n.length - 2 : Nat) : Int) := by rw [zaj (by omega) (by omega)]; omega
    conv=>whnf
    refine drawP hΘ mixed (.look 0 (.look 1 (.look 2 (.look 3 (.look 4 (.look 5 (.look 6 .done))))))) [] (by kernel_rfl) ?_;conv=>whnf
    refine ⟨Sl.lt ha1 gk, ⟨by rw [ew]; omega, by rw [ew]; omega⟩, ?_⟩;conv=>whnf
    refine ⟨rfl, ?_⟩;conv=>whnf
    refine ⟨_, ha2 (Sl.lt ha1 gk), ?_⟩;conv=>whnf
    refine ⟨encI n[n.length - 2], by dsimp only; rw [ew]; exact Sl.at ha4 gk, ?_⟩;conv=>whnf
    refine fin 0 n[n.length - 2] _ _ ?_ rfl
    rw [bnd, if_neg g1, if_neg g2, if_pos g3, List.getD_eq_getElem?_getD, List.getElem?_eq_getElem gk]; rfl
   ·have g3 : ¬ p = 4 := of_decide_eq_false g
    conv=>whnf
    refine br (fun g => ?_) (fun g => ?_)
    ·have g4 : p = 3 := of_decide_eq_true g
     conv=>whnf
     exact fin (-1000000) 1000000 _ _ (by rw [bnd, if_neg g1, if_neg g2, if_neg g3, if_pos g4]) rfl
    ·have g4 : ¬ p = 3 := of_decide_eq_false g
     conv=>whnf
     exact fin (-1000000000000) 1000000000000 _ _ (by rw [bnd, if_neg g1, if_neg g2, if_neg g3, if_neg g4]) rfl
end Go.Proofs.YtblllibdahkgfaaGreatDoor

namespace Go.Proofs.YtblllibdahkgfaaGreatDoor
open Go Sx
set_option maxRecDepth 100000
theorem zcq : Plain encI := fun x => ⟨fun _ => rfl, fun a ha => by simp only [encI, List.mem_singleton] at ha; subst ha; trivial⟩
def badC (b : UInt8) : Bool := !(decide (32 ≤ b.toNat) && decide (b.toNat ≤ 126))
def CFun : Prop := ∀ (F : Fz) (s : List UInt8), s.length ≤ 70000 → Fo Tryz.prog F 107 [.va (.str s), .va (.fn (.func 108) [])] (fun o F' => o = .ret (.va (.bool (s.any badC))) ∧ F' = F)
def numsS (s : List UInt8) (p : Int) : Nat → List Int → Int → Option (List Int × Int)
 | 0, acc, q => some (acc, q)
 | f + 1, acc, q => if zbb s q (bnd p acc).1 (bnd p acc).2 = true then numsS s p f (acc ++ [(getI s q).1]) (getI s q).2.1 else none
abbrev Ln := List UInt8 × List Int
def lineS (s : List UInt8) (p : Int) (before : List Ln) (q : Int) : Option (Ln × Int) :=
 if p = 1 then
  if (getS s q).2.2 = 0 ∧ (getS s q).1.length ≤ 80 ∧ (getS s q).1.any badC = false then some (((getS s q).1, []), (getS s q).2.1) else none
 else match numsS s p (cols p) [] q with
  | none => none
  | some (n, q') => if p = 2 then some (([], n), q') else match before.getLast? with
   | none => some (([], n), q')
   | some x => if cmpL (x.2.take 2) (n.take 2) < 0 then some (([], n), q') else none
def capN : SA → Nat
 | .slice _ _ _ _ _ _ cap => cap
 | _ => 0
abbrev zqm (F : Fz) (sl : SA) (ls : List Ln) : Prop := SlR F 120 2 (fun y x => ∃ a, y = [.str x.1, a] ∧ (x.2 = [] ∨ zeh F a x.2 ∧ x.2.length ≤ capN a)) sl ls
theorem take2 {F : Fz} {b e e' cap r : Nat} {L : List (List SA)} {l : List Int} (hF : F b = some (.arr 3 1 L r)) (h1 : e + l.length ≤ L.length) (h2 : (L.drop e).take l.length = l.map encI) (hl : 2 ≤ l.length) (he : e' = e) :
  zeh F (.slice false 0 b e' 1 2 cap) (l.take 2) := by
 subst he
 have h3 : (l.take 2).length = 2 := by rw [List.length_take]; omega
 refine ⟨false, b, e', cap, L, r, by rw [h3], fun h => (nomatch h), fun _ => hF, by rw [h3]; omega, ?_⟩
 rw [h3, List.map_take, ← h2, List.take_take, Nat.min_eq_left hl]
def lineE (c : Nat) (t : List UInt8) (n : List Int) : Ent := .one (.cells 120 [.str t, gA 1 4 c n])
theorem zfo {m : Nat} (h : 4 < m) (c : Nat) (t : List UInt8) (n : List Int) : (lineE c t n).below m := by
 intro a ha
 simp only [List.mem_cons, List.not_mem_nil, or_false] at ha
 rcases ha with rfl | rfl
 ·trivial
 ·cases n with
  | nil => trivial
  | cons x r => exact .inr h
theorem zkm {μ : Mu} {j : Nat} (h : μ 4 0 = (j, 0)) (c n : Nat) (t : List UInt8) (l : List Int) (x : Int) (hn : n = l.length + 1) : SB.cells 120 [.str t, .slice false j 0 0 1 n c] = SB.ren μ (.cells 120 [.str t, gA 1 4 c (l ++ [x])]) := by
 subst hn
 cases l with
 | nil => simp only [gA, List.nil_append, SB.ren, List.map_cons, List.map_nil, SA.ren, h, List.length_nil]
 | cons y r => simp only [gA, List.cons_append, SB.ren, List.map_cons, List.map_nil, SA.ren, h]; simp
theorem zd1 {s : List UInt8} {q lo hi : Int} (h : zbb s q lo hi = true) : (getI s q).2.2 = 0 := by
 simp only [zbb, Bool.and_eq_true, decide_eq_true_eq] at h; exact h.1
set_option maxHeartbeats 8000000 in
theorem zl8 (hCF : CFun) (F : Fz) (s : List UInt8) (p q : Int) (sl : SA) (before : List Ln) (hl : zqm F sl before) (hs : s.length ≤ 1000000000000000000) (hp : 1 ≤ p ∧ p ≤ 5) (hq : i64 q) (hbl : before.length < 1000000)
  (hbn : p ≠ 1 ∧ p ≠ 2 → ∀ x ∈ before, 2 ≤ x.2.length) :
  Ct Tryz.prog 78 [.va (.ptr ⟨1, 0, 0, 0, 0⟩), .va (.int .i64 p), .va sl] F [(1, rdr s q)] 2
   (fun o F0 h0 n0 => F = F0 ∧ match lineS s p before q with
    | some (x, q') => ∃ c, x.2.length ≤ c ∧ n0 = 3 ∧ o = .ret (.agg [.str x.1, gA 1 2 c x.2]) ∧ h0 = [(1, rdr s q'), (2, gE 3 1 encI c x.2)]
    | none => ∃ q', n0 = 2 ∧ o = .panic perr ∧ h0 = [(1, rdr s q')]) := by
 obtain ⟨bn, bb, be, bc, bL, brr, rfl, b1, b2, b3, b4⟩ := hl
 have htx := znr F s q hs hq
 obtain ⟨t, x, e, hg⟩ : ∃ t x e, getS s q = (t, x, e) := ⟨_, _, _, rfl⟩
 rw [hg] at htx
 refine ct_of hΘ Tryz.func78 rfl (by decide) _ _ rfl rfl rfl ?_;conv=>whnf
 refine br (fun g => ?_) (fun g => ?_)
 ·have g1 : p = 1 := of_decide_eq_true g
  have hL : lineS s p before q = if (getS s q).2.2 = 0 ∧ (getS s q).1.length ≤ 80 ∧ (getS s q).1.any badC = false then some (((getS s q).1, []), (getS s q).2.1) else none := by rw [lineS, if_pos g1]
  rw [hg] at hL
  replace hL : lineS s p before q = if e = 0 ∧ t.length ≤ 80 ∧ t.any badC = false then some ((t, []), x) else none := hL
  conv=>whnf
  refine use htx [(1, 1)] rfl ⟨rfl, trivial⟩ rfl ⟨za8 _ _, trivial⟩ (by simp [SV.below, SA.below]) ⟨rfl, trivial⟩ ?_
  rintro out0 F0 h0 n0 hle ⟨rfl, rfl, hcase⟩
  by_cases he : e = 0
  ·rw [if_pos he] at hcase
   obtain ⟨ho, hh⟩ := hcase
   subst ho; subst hh
   conv=>whnf
   refine ⟨fun g80 => ?_, fun g80 => ?_⟩
   ·have l80 : t.length ≤ 80 := by have h0 : (t.length : Int) ≤ 80 := of_decide_eq_true g80; omega
    conv=>whnf
    refine usePu (hCF F t (by omega)) rfl (zaf _) rfl ?_;conv=>whnf
    refine useFo (zcg F (!t.any badC)) rfl ⟨rfl, trivial⟩ rfl ?_
    rintro _ _ l1 ⟨rfl, ⟨hb, rfl⟩ | ⟨hb, rfl⟩⟩
    ·conv=>whnf
     refine clean [(2, 99)] (.ret (.agg [.str t, .nilsl])) F [(1, rdr s x), (2, gE 3 1 encI 0 [])] 3 ⟨Fz.le_refl F, rfl, ?_⟩ rfl rfl rfl (Out.bB_ok (o := .ret (.agg [.str t, .nilsl])) rfl) ⟨za8 s _, zac zcq _ _ _ _ _, trivial⟩ ⟨Fz.le_refl F, rfl, rfl, trivial⟩
     rw [hL, if_pos ⟨he, l80, by simpa using hb⟩]; exact ⟨0, Nat.le_refl 0, rfl, rfl, rfl⟩
    ·conv=>whnf
     refine clean [] (.panic perr) F [(1, rdr s x)] 2 ⟨Fz.le_refl F, rfl, ?_⟩ rfl rfl rfl trivial ⟨za8 s _, trivial⟩ ⟨Fz.le_refl F, rfl, trivial⟩
     rw [hL, if_neg (by simp at hb; simp [hb])]; exact ⟨x, rfl, rfl, rfl⟩
   ·have l80 : ¬ t.length ≤ 80 := by have h0 : ¬ (t.length : Int) ≤ 80 := of_decide_eq_false g80; omega
    conv=>whnf
    refine useFo (zcg F false) rfl ⟨rfl, trivial⟩ rfl ?_
    rintro _ _ l1 ⟨rfl, ⟨hb, rfl⟩ | ⟨hb, rfl⟩⟩
    ·cases hb
    ·conv=>whnf
     refine clean [] (.panic perr) F [(1, rdr s x)] 2 ⟨Fz.le_refl F, rfl, ?_⟩ rfl rfl rfl trivial ⟨za8 s _, trivial⟩ ⟨Fz.le_refl F, rfl, trivial⟩
     rw [hL, if_neg (by simp [l80])]; exact ⟨x, rfl, rfl, rfl⟩
  ·rw [if_neg he] at hcase
   obtain ⟨ho, hh⟩ := hcase
   subst ho; subst hh
   conv=>whnf
   refine clean [] (.panic perr) F [(1, rdr s q)] 2 ⟨Fz.le_refl F, rfl, ?_⟩ rfl rfl rfl trivial ⟨za8 s _, trivial⟩ ⟨Fz.le_refl F, rfl, trivial⟩
   rw [hL, if_neg (by simp [he])]; exact ⟨q, rfl, rfl, rfl⟩
 ·have g1 : ¬ p = 1 := of_decide_eq_false g
  have hlin : lineS s p before q = match numsS s p (cols p) [] q with
   | none => none
   | some (n, q') => if p = 2 then some (([], n), q') else match before.getLast? with
    | none => some (([], n), q')
    | some x => if cmpL (x.2.take 2) (n.take 2) < 0 then some (([], n), q') else none := by rw [lineS, if_neg g1]
  have hc4 : cols p ≤ 4 := by
   have hcs : p = 1 ∨ p = 2 ∨ p = 3 ∨ p = 4 ∨ p = 5 := by omega
   rcases hcs with rfl | rfl | rfl | rfl | rfl <;> decide
  conv=>whnf
  refine za0 hΘ (X := { x : List Int × Nat × Int // x.1.length ≤ cols p ∧ x.1.length ≤ x.2.1 ∧ i64 x.2.2 ∧ numsS s p (cols p) [] q = numsS s p (cols p - x.1.length) x.1 x.2.2 }) (fun _ => []) [25, 26, 27, 28, 29, 30, 31, 32, 33, 34, 35, 36, 37, 38, 39, 40, 41, 42, 43]
   (fun x => [(0, .frz F), (1, rdr s x.1.2.2), (3, lineE x.1.2.1 [] x.1.1), (4, gE 3 1 encI x.1.2.1 x.1.1)]) 5 (fun x => cols p - x.1.1.length) ⟨([], 0, q), by simp, by simp, hq, rfl⟩
   (fun hH hT => leI [(4, 4)] hH hT rfl ⟨trivial, za8 s _, zfo (by omega) _ _ _, zac zcq _ _ _ _ _, trivial⟩ trivial ⟨Fz.le_refl F, rfl, rfl, rfl, trivial⟩) ?_
  rintro ⟨⟨acc, c, q'⟩, ha1, hac, ha2, ha3⟩ hH hT
  replace hac : acc.length ≤ c := hac
  replace ha1 : acc.length ≤ cols p := ha1
  replace ha2 : i64 q' := ha2
  replace ha3 : numsS s p (cols p) [] q = numsS s p (cols p - acc.length) acc q' := ha3
  rcases acc with _ | ⟨a0, ar⟩
  ·conv=>whnf
   refine drawP hΘ mixed (.look 0 (.look 1 (.look 2 (.look 3 (.alt 4 (.look 5 .done) .nil))))) [3] (by kernel_rfl) ?_;conv=>whnf
   repeat' ((conv=>whnf); first
    | refine ⟨rfl, ?_⟩
    | refine ⟨Fz.le_refl _, rfl, ?_⟩
    | refine ⟨Fz.le_refl _, rfl, rfl, ?_⟩
    | refine ⟨⟨by simp, by simp⟩, ?_⟩
    | fail)
   conv=>whnf
   refine usePu (zh9 p hp F) rfl (zaf _) rfl ?_;conv=>whnf
   refine ⟨Fz.le_refl F, rfl, ?_⟩;conv=>whnf
   refine br (fun gb => ?_) (fun gb => ?_)
   ·have gl : 0 < cols p := by have h0 : ((0 : Nat) : Int) < cols p := of_decide_eq_true gb; omega
    clear gb
    have hf : cols p - 0 = (cols p - (0 + 1)) + 1 := by omega
    have ha4 : numsS s p (cols p) [] q = if zbb s q' (bnd p []).1 (bnd p []).2 = true then numsS s p (cols p - (0 + 1)) ([] ++ [(getI s q').1]) (getI s q').2.1 else none := by
     rw [ha3]; show numsS s p (cols p - 0) [] q' = _; rw [hf, numsS]
    conv=>whnf
    refine drawP hΘ mixed (.look 0 (.look 1 (.look 2 (.look 3 (.look 4 (.look 5 (.alt 6 (.look 7 (.look 8 (.alt 9 (.alt 10 (.alt 11 (.look 12 (.last 13 .done)) .nil) .nil) .nil))) .nil))))))) [3] (by kernel_rfl) ?_;conv=>whnf
    repeat' ((conv=>whnf); first
     | refine ⟨rfl, ?_⟩
     | refine ⟨Fz.le_refl _, rfl, ?_⟩
     | refine ⟨Fz.le_refl _, rfl, rfl, ?_⟩
     | refine ⟨⟨by simp, by simp⟩, ?_⟩
     | fail)
    conv=>whnf
    refine usePu (zk0 F _ [] p Sl.nil (by simp)) rfl ⟨rfl, ⟨rfl, rfl, rfl⟩, trivial⟩ rfl ?_;conv=>whnf
    refine ⟨Fz.le_refl F, rfl, ?_⟩;conv=>whnf
    refine use (zdv F s q' (bnd p []).1 (bnd p []).2 hs ha2) [(1, 1)] rfl ⟨rfl, rfl, rfl, trivial⟩ rfl ⟨za8 _ _, trivial⟩ (by simp [SV.below, SA.below]) ⟨rfl, trivial⟩ ?_
    rintro out0 F0 h0 n0 hle ⟨rfl, rfl, hcase⟩
    by_cases hn : zbb s q' (bnd p []).1 (bnd p []).2 = true
    ·rw [if_pos hn] at hcase ha4
     obtain ⟨ho, hh⟩ := hcase
     subst ho; subst hh
     have hok := zdy (zd1 hn)
     have hi6 : i64 (getI s q').2.1 := ⟨by omega, by omega⟩
     conv=>whnf
     refine ⟨Fz.le_refl F, rfl, ?_⟩;conv=>whnf
     refine ⟨Fz.le_refl F, rfl, ?_⟩;conv=>whnf
     refine ⟨Nat.le_of_ble_eq_true rfl, [encI (getI s q').1], rfl, ?_⟩;conv=>whnf
     refine ⟨rfl, rfl, ?_⟩;conv=>whnf
     refine ⟨Nat.le_of_ble_eq_true rfl, fun c' hc => ?_⟩
     have hc' : ([] ++ [(getI s q').1]).length ≤ c' := hc
     clear hc;conv=>whnf
     refine ⟨Fz.le_refl F, rfl, ?_⟩;conv=>whnf
     exact ⟨⟨([] ++ [(getI s q').1], c', (getI s q').2.1), by simp; omega, hc', hi6, by rw [ha4]; rfl⟩, by show cols p - 1 < cols p - 0; omega,
      leR [(4, 6)] hH hT rfl ⟨trivial, za8 s _, zfo (by omega) _ _ _, zac zcq _ _ _ _ _, trivial⟩ trivial ⟨Fz.le_refl F, rfl, zkm (μ := sig [(4, 6)]) (j := 6) rfl c' _ [] [] (getI s q').1 rfl, zas zcq (zc3 [encI (getI s q').1] rfl), trivial⟩⟩
    ·rw [if_neg hn] at hcase ha4
     obtain ⟨ho, hh⟩ := hcase
     subst ho; subst hh
     conv=>whnf
     refine clean [] (.panic perr) F [(1, rdr s q')] 2 ⟨Fz.le_refl F, rfl, ?_⟩ rfl rfl rfl trivial ⟨za8 s _, trivial⟩ ⟨Fz.le_refl F, rfl, trivial⟩
     rw [hlin, ha4]; exact ⟨q', rfl, rfl, rfl⟩
   ·have gl : ¬ 0 < cols p := by have h0 : ¬ ((0 : Nat) : Int) < cols p := of_decide_eq_false gb; omega
    clear gb
    have hcs : p = 2 ∨ p = 3 ∨ p = 4 ∨ p = 5 := by omega
    exfalso; rcases hcs with rfl | rfl | rfl | rfl <;> exact gl (by decide)
  ·replace ha1 : ar.length + 1 ≤ cols p := ha1
   conv=>whnf
   refine drawP hΘ mixed (.look 0 (.look 1 (.look 2 (.look 3 (.alt 4 (.look 5 .done) .nil))))) [3] (by kernel_rfl) ?_;conv=>whnf
   repeat' ((conv=>whnf); first
    | refine ⟨rfl, ?_⟩
    | refine ⟨Fz.le_refl _, rfl, ?_⟩
    | refine ⟨Fz.le_refl _, rfl, rfl, ?_⟩
    | refine ⟨⟨by simp, by simp⟩, ?_⟩
    | fail)
   conv=>whnf
   refine usePu (zh9 p hp F) rfl (zaf _) rfl ?_;conv=>whnf
   refine ⟨Fz.le_refl F, rfl, ?_⟩;conv=>whnf
   refine br (fun gb => ?_) (fun gb => ?_)
   ·have gl : (ar.length + 1) < cols p := by have h0 : (((ar.length + 1) : Nat) : Int) < cols p := of_decide_eq_true gb; omega
    clear gb
    have hf : cols p - (ar.length + 1) = (cols p - ((ar.length + 1) + 1)) + 1 := by omega
    have ha4 : numsS s p (cols p) [] q = if zbb s q' (bnd p (a0 :: ar)).1 (bnd p (a0 :: ar)).2 = true then numsS s p (cols p - ((ar.length + 1) + 1)) ((a0 :: ar) ++ [(getI s q').1]) (getI s q').2.1 else none := by
     rw [ha3]; show numsS s p (cols p - (ar.length + 1)) (a0 :: ar) q' = _; rw [hf, numsS]
    conv=>whnf
    refine drawP hΘ mixed (.look 0 (.look 1 (.look 2 (.look 3 (.look 4 (.look 5 (.alt 6 (.look 7 (.look 8 (.alt 9 (.alt 10 (.alt 11 (.look 12 (.last 13 .done)) .nil) .nil) .nil))) .nil))))))) [3] (by kernel_rfl) ?_;conv=>whnf
    repeat' ((conv=>whnf); first
     | refine ⟨rfl, ?_⟩
     | refine ⟨Fz.le_refl _, rfl, ?_⟩
     | refine ⟨Fz.le_refl _, rfl, rfl, ?_⟩
     | refine ⟨⟨by simp, by simp⟩, ?_⟩
     | fail)
    conv=>whnf
    refine borrow 4 (fun _ => .arr 3 1 ((a0 :: ar).map encI) c) rfl rfl rfl (fun _ _ => zb5 _ (a0 :: ar) _) (fun _ _ => zbt _ _ _) ?_
    intro b F' hle' hb
    refine usePu (zk0 F' _ (a0 :: ar) p (Sl.new (hb 0 ⟨rfl, rfl⟩)) (by simp; omega)) rfl ⟨rfl, ⟨rfl, rfl, rfl, .inr ⟨rfl, rfl, rfl, rfl⟩⟩, trivial⟩ rfl ?_
    refine ⟨F', rfl, Fz.le_refl _, rfl, fun _ _ _ _ _ _ h => h, ?_⟩;conv=>whnf
    refine ⟨Fz.le_refl F, rfl, ?_⟩;conv=>whnf
    refine use (zdv F s q' (bnd p (a0 :: ar)).1 (bnd p (a0 :: ar)).2 hs ha2) [(1, 1)] rfl ⟨rfl, rfl, rfl, trivial⟩ rfl ⟨za8 _ _, trivial⟩ (by simp [SV.below, SA.below]) ⟨rfl, trivial⟩ ?_
    rintro out0 F0 h0 n0 hle ⟨rfl, rfl, hcase⟩
    by_cases hn : zbb s q' (bnd p (a0 :: ar)).1 (bnd p (a0 :: ar)).2 = true
    ·rw [if_pos hn] at hcase ha4
     obtain ⟨ho, hh⟩ := hcase
     subst ho; subst hh
     have hok := zdy (zd1 hn)
     have hi6 : i64 (getI s q').2.1 := ⟨by omega, by omega⟩
     conv=>whnf
     refine ⟨Fz.le_refl F, rfl, ?_⟩;conv=>whnf
     refine ⟨Fz.le_refl F, rfl, ?_⟩;conv=>whnf
     refine ⟨Nat.le_of_ble_eq_true rfl, [encI (getI s q').1], rfl, ?_⟩;conv=>whnf
     refine ⟨rfl, rfl, by simp, rfl, by show (ar.length + 1 + 1) * 8 ≤ 140737488355328; omega, fun c' hc => ?_⟩
     have hc' : ((a0 :: ar) ++ [(getI s q').1]).length ≤ c' := by rw [List.length_append]; exact hc
     clear hc;conv=>whnf
     refine ⟨Fz.le_refl F, rfl, ?_⟩;conv=>whnf
     exact ⟨⟨((a0 :: ar) ++ [(getI s q').1], c', (getI s q').2.1), by simp; omega, hc', hi6, by rw [ha4]; simp⟩, by show cols p - (a0 :: ar ++ [(getI s q').1]).length < cols p - (ar.length + 1); simp; omega,
      leR [(4, 6)] hH hT rfl ⟨trivial, za8 s _, zfo (by omega) _ _ _, zac zcq _ _ _ _ _, trivial⟩ trivial ⟨Fz.le_refl F, rfl, zkm (μ := sig [(4, 6)]) (j := 6) rfl c' _ [] (a0 :: ar) (getI s q').1 rfl, zas zcq (zc3 _ (by simp)), trivial⟩⟩
    ·rw [if_neg hn] at hcase ha4
     obtain ⟨ho, hh⟩ := hcase
     subst ho; subst hh
     conv=>whnf
     refine clean [] (.panic perr) F [(1, rdr s q')] 2 ⟨Fz.le_refl F, rfl, ?_⟩ rfl rfl rfl trivial ⟨za8 s _, trivial⟩ ⟨Fz.le_refl F, rfl, trivial⟩
     rw [hlin, ha4]; exact ⟨q', rfl, rfl, rfl⟩
   ·have gl : ¬ (ar.length + 1) < cols p := by have h0 : ¬ (((ar.length + 1) : Nat) : Int) < cols p := of_decide_eq_false gb; omega
    clear gb
    have hnum : numsS s p (cols p) [] q = some (a0 :: ar, q') := by
     rw [ha3]; show numsS s p (cols p - (ar.length + 1)) (a0 :: ar) q' = _
     rw [show cols p - (ar.length + 1) = 0 by omega, numsS]
    rw [hnum] at hlin
    replace hlin : lineS s p before q = if p = 2 then some (([], a0 :: ar), q') else match before.getLast? with
     | none => some (([], a0 :: ar), q')
     | some x => if cmpL (x.2.take 2) ((a0 :: ar).take 2) < 0 then some (([], a0 :: ar), q') else none := hlin
    have fin : ∀ (h : Hp) (nx : Nat), lineS s p before q = some (([], a0 :: ar), q') → lget h 0 = some (.frz F) → lget h 1 = some (rdr s q') → lget h 4 = some (gE 3 1 encI c (a0 :: ar)) →
      (∀ k, resP h 4 k = (4, k)) → Cln 2 (fun o F0 h0 n0 => Fz.le F F0 ∧ F = F0 ∧ match lineS s p before q with
       | some (x, q') => ∃ c, x.2.length ≤ c ∧ n0 = 3 ∧ o = .ret (.agg [.str x.1, gA 1 2 c x.2]) ∧ h0 = [(1, rdr s q'), (2, gE 3 1 encI c x.2)]
       | none => ∃ q', n0 = 2 ∧ o = .panic perr ∧ h0 = [(1, rdr s q')]) (.ret (.agg [.str [], .slice false 4 0 0 1 (ar.length + 1) c])) h nx := by
     intro h nx hL h0 h1 h4 hr
     refine clean [(2, 4)] (.ret (.agg [.str [], .slice false 2 0 0 1 (ar.length + 1) c])) F [(1, rdr s q'), (2, gE 3 1 encI c (a0 :: ar))] 3 ⟨Fz.le_refl F, rfl, ?_⟩ ?_ rfl rfl (Out.bB_ok (o := .ret (.agg [.str [], .slice false 2 0 0 1 (ar.length + 1) c])) rfl) ⟨za8 s _, zac zcq _ _ _ _ _, trivial⟩ ?_
     ·rw [hL]; exact ⟨c, hac, rfl, rfl, rfl⟩
     ·show SV.agg [.str [], .slice false 4 0 0 1 (ar.length + 1) c] = SV.agg [.str [], .slice false (resP h 4 0).1 (resP h 4 0).2 0 1 (ar.length + 1) c]
      rw [hr 0]
     ·refine ⟨?_, ?_, ?_, trivial⟩
      ·show subE (lget h 0) (.frz F); rw [h0]; exact Fz.le_refl F
      ·show subE (lget h 1) ((rdr s q').ren (sig [(2, 4)])); rw [h1]; rfl
      ·show subE (lget h 4) ((gE 3 1 encI c (a0 :: ar)).ren (sig [(2, 4)])); rw [h4]; exact zas zcq (zao _ _ _ _)
    conv=>whnf
    refine ⟨fun g2 => ?_, fun g2 => ?_⟩
    ·have g2' : ¬ p = 2 := by simpa using g2
     rw [if_neg g2'] at hlin
     conv=>whnf
     refine br (fun gb => ?_) (fun gb => ?_)
     ·have gbl : 0 < before.length := by have h0 : (0 : Int) < before.length := of_decide_eq_true gb; omega
      clear gb
      have gk : before.length - 1 < before.length := by omega
      have hlast : before.getLast? = some before[before.length - 1] := by rw [List.getLast?_eq_getElem?, List.getElem?_eq_getElem gk]
      rw [hlast] at hlin
      replace hlin : lineS s p before q = if cmpL (before[before.length - 1].2.take 2) ((a0 :: ar).take 2) < 0 then some (([], a0 :: ar), q') else none := hlin
      have h22 := hbn ⟨g1, g2'⟩ _ (List.getElem_mem gk)
      have hc3 : 2 ≤ ar.length + 1 := by
       have hcs : p = 3 ∨ p = 4 ∨ p = 5 := by omega
       have : 3 ≤ cols p := by rcases hcs with rfl | rfl | rfl <;> decide
       omega
      replace hac : ar.length + 1 ≤ c := hac
      have ew : IntKind.i64.wrap ((before.length : Int) - 1) = ((before.length - 1 : Nat) : Int) := by rw [zaj (by omega) (by omega)]; omega
      conv=>whnf
      refine drawP hΘ mixed (.look 0 (.look 1 (.look 2 (.look 3 (.look 4 (.look 5 (.look 6 (.look 7 (.look 8 (.look 9 (.look 10 (.alt 11 (.look 12 (.alt 13 .done .nil)) .nil)))))))))))) [3] (by kernel_rfl) ?_;conv=>whnf
      have hObt := SlR.at b4 gk
      obtain ⟨y, hy, ya, rfl, hy2⟩ := hObt
      have hy3 := hy2.resolve_left (by intro h; rw [h] at h22; simp at h22)
      obtain ⟨hya, hycap⟩ := hy3
      obtain ⟨zn, zb, ze, zc, zL, zr, rfl, z1, z2, z3, z4⟩ := hya
      replace hycap : before[before.length - 1].2.length ≤ zc := hycap
      rcases zn with _ | _
      ·refine ⟨SlR.lt b1 gk, ⟨by rw [ew]; omega, by rw [ew]; omega⟩, ?_⟩;conv=>whnf
       refine ⟨rfl, ?_⟩;conv=>whnf
       refine ⟨_, b2 (SlR.lt b1 gk), ?_⟩;conv=>whnf
       refine ⟨_, by dsimp only; rw [ew]; exact hy, ?_⟩;conv=>whnf
       refine ⟨⟨by decide, by show (2 : Int) ≤ (zc : Int); omega⟩, ?_⟩;conv=>whnf
       refine ⟨rfl, ?_⟩;conv=>whnf
       refine ⟨⟨by decide, by show (2 : Int) ≤ (c : Int); omega⟩, ?_⟩;conv=>whnf
       refine borrow 4 (fun _ => .arr 3 1 ((a0 :: ar).map encI) c) rfl rfl rfl (fun _ _ => zb5 _ (a0 :: ar) _) (fun _ _ => zbt _ _ _) ?_
       intro b F' hle' hb
       have hL1 : (((a0 :: ar).map encI).drop 0).take (a0 :: ar).length = (a0 :: ar).map encI := by rw [List.drop_zero, List.take_of_length_le (by simp)]
       refine usePu (zos F' _ _ (before[before.length - 1].2.take 2) ((a0 :: ar).take 2) (take2 (cap := zc - 0) (e' := if zc = 0 then ze else ze + 0) (hle' _ _ (z2 rfl)) z3 z4 h22 (by split <;> rfl)) (take2 (cap := c - 0) (e' := if c = 0 then 0 else 0 + 0) (hb 0 ⟨rfl, rfl⟩) (by simp) hL1 (by simpa using hc3) (by split <;> rfl)) (by rw [List.length_take]; omega)) rfl ⟨⟨rfl, rfl, rfl, .inr ⟨rfl, rfl, rfl, rfl⟩⟩, ⟨rfl, rfl, rfl, .inr ⟨rfl, rfl, rfl, rfl⟩⟩, trivial⟩ rfl ?_
       refine ⟨F', rfl, Fz.le_refl _, rfl, fun _ _ _ _ _ _ h => h, ?_⟩;conv=>whnf
       refine ⟨Fz.le_refl F, rfl, ?_⟩;conv=>whnf
       refine useFo (zcg F (decide (cmpL (before[before.length - 1].2.take 2) ((a0 :: ar).take 2) < 0))) rfl ⟨rfl, trivial⟩ rfl ?_
       rintro _ _ l1 ⟨rfl, ⟨hb, rfl⟩ | ⟨hb, rfl⟩⟩
       ·conv=>whnf
        refine ⟨Fz.le_refl F, rfl, ?_⟩;conv=>whnf
        exact fin _ _ (by rw [hlin, if_pos (of_decide_eq_true hb)]) rfl rfl rfl (fun _ => rfl)
       ·conv=>whnf
        refine clean [] (.panic perr) F [(1, rdr s q')] 2 ⟨Fz.le_refl F, rfl, ?_⟩ rfl rfl rfl trivial ⟨za8 s _, trivial⟩ ⟨Fz.le_refl F, rfl, trivial⟩
        rw [hlin, if_neg (of_decide_eq_false hb)]; exact ⟨q', rfl, rfl, rfl⟩
      ·have := z1 rfl
       rw [this] at h22; simp at h22
     ·have gbl : before = [] := by
       have h0 : ¬ (0 : Int) < before.length := of_decide_eq_false gb
       exact List.length_eq_zero_iff.1 (by omega)
      conv=>whnf
      exact fin _ _ (by rw [hlin, gbl]; rfl) rfl rfl rfl (fun _ => rfl)
    ·have g2' : p = 2 := by simpa using g2
     rw [if_pos g2'] at hlin
     conv=>whnf
     exact fin _ _ hlin rfl rfl rfl (fun _ => rfl)
end Go.Proofs.YtblllibdahkgfaaGreatDoor

namespace Go.Proofs.YtblllibdahkgfaaGreatDoor
open Go Sx
set_option maxRecDepth 100000
def nA (B k c : Nat) : List Int → SA
 | [] => .nilsl
 | _ :: r => .slice false B k 0 1 (r.length + 1) c
def zbq (B : Nat) (caps : Nat → Nat) : Nat → List Ln → List (List SA)
 | _, [] => []
 | j, x :: r => [.str x.1, nA B j (caps j) x.2] :: zbq B caps (j + 1) r
theorem zgh (B : Nat) (caps : Nat → Nat) : ∀ (j : Nat) (l : List Ln), (zbq B caps j l).length = l.length
 | _, [] => rfl
 | j, x :: r => by rw [zbq, List.length_cons, List.length_cons, zgh]
theorem ziv (B : Nat) (caps : Nat → Nat) : ∀ (j : Nat) (l : List Ln) (x : Ln), zbq B caps j (l ++ [x]) = zbq B caps j l ++ [[.str x.1, nA B (j + l.length) (caps (j + l.length)) x.2]]
 | j, [], x => by simp [zbq]
 | j, y :: r, x => by
  rw [List.cons_append, zbq, zbq, ziv B caps (j + 1) r x, List.cons_append, List.length_cons]
  have : j + 1 + r.length = j + (r.length + 1) := by omega
  rw [this]
theorem zdb (B : Nat) (caps : Nat → Nat) : ∀ (j : Nat) (l : List Ln) (k : Nat) (x : Ln), l[k]? = some x → (zbq B caps j l)[k]? = some [.str x.1, nA B (j + k) (caps (j + k)) x.2]
 | j, y :: r, 0, x, h => by simp at h; subst h; simp [zbq]
 | j, y :: r, k + 1, x, h => by
  rw [zbq, List.getElem?_cons_succ, zdb B caps (j + 1) r k x (by simpa using h)]
  have : j + 1 + k = j + (k + 1) := by omega
  rw [this]
theorem zks (μ : Mu) (B k c : Nat) (n : List Int) : (nA B k c n).ren μ = match n with
  | [] => .nilsl
  | _ :: r => .slice false (μ B k).1 (μ B k).2 0 1 (r.length + 1) c := by cases n <;> rfl
theorem zdo {μ : Mu} {B B' : Nat} {caps caps' : Nat → Nat} {m : Nat} (h : ∀ k, k < m → μ B k = (B', k) ∧ caps k = caps' k) : ∀ (j : Nat) (l : List Ln), j + l.length ≤ m → (zbq B caps j l).map (List.map (SA.ren μ)) = zbq B' caps' j l
 | _, [], _ => rfl
 | j, x :: r, hl => by
  rw [List.length_cons] at hl
  obtain ⟨h1, h2⟩ := h j (by omega)
  rw [zbq, zbq, List.map_cons, zdo h (j + 1) r (by omega)]
  congr 1
  simp only [List.map_cons, List.map_nil, zks, h1, h2]
  cases x.2 <;> rfl
def famE (caps : Nat → Nat) (l : List Ln) : Ent := .fam l.length (fun k => !((l.map (·.2)).getD k []).isEmpty) (fun k => .arr 3 1 (((l.map (·.2)).getD k []).map encI) (caps k))
def zbm (B : Nat) (caps : Nat → Nat) (c : Nat) (l : List Ln) : Ent := .opt (!l.isEmpty) (.arr 120 2 (zbq B caps 0 l) c)
theorem zgi (caps : Nat → Nat) {l : List Ln} {k : Nat} {x : Ln} (h : l[k]? = some x) : (l.map (·.2)).getD k [] = x.2 := by
 rw [List.getD_eq_getElem?_getD, List.getElem?_map, h]; rfl
theorem zgw (μ : Mu) (caps : Nat → Nat) (l : List Ln) : (famE caps l).ren μ = famE caps l := by
 show Ent.fam _ _ _ = Ent.fam _ _ _
 congr 1
 funext k; exact zb5 μ _ _
theorem za1 (n : Nat) (caps : Nat → Nat) (l : List Ln) : (famE caps l).below n := fun k _ _ => zbt n _ _
theorem zsr {n B : Nat} (h : B < n) (k c : Nat) (l : List Int) : (nA B k c l).below n := by
 cases l with
 | nil => trivial
 | cons x r => exact .inr h
theorem zgn {n B : Nat} (h : B < n) (caps : Nat → Nat) : ∀ (j : Nat) (l : List Ln), ∀ y ∈ zbq B caps j l, ∀ a ∈ y, a.below n
 | _, [], y, hy, _, _ => by simp [zbq] at hy
 | j, x :: r, y, hy, a, ha => by
  rcases List.mem_cons.1 hy with rfl | hy
  ·simp only [List.mem_cons, List.not_mem_nil, or_false] at ha
   rcases ha with rfl | rfl
   ·trivial
   ·exact zsr h _ _ _
  ·exact zgn h caps (j + 1) r y hy a ha
theorem zav {n B : Nat} (h : B < n) (caps : Nat → Nat) (c : Nat) (l : List Ln) : (zbm B caps c l).below n := zgn h caps 0 l
theorem zvf {F : Fz} {b c : Nat} {bf caps : Nat → Nat} {l : List Ln} (hne : l ≠ []) (hb : F b = some (.arr 120 2 ((zbq 5 caps 0 l).map (List.map (SA.ren (fun i k => if i = 5 then (0, bf k) else (i, k))))) c))
  (hf : ∀ k, (famE caps l).has k → F (bf k) = some ((famE caps l).at k)) (hcap : ∀ k x, l[k]? = some x → x.2.length ≤ caps k) : zqm F (.slice false 0 b 0 2 l.length c) l := by
 refine ⟨false, b, 0, c, _, c, rfl, fun h => (nomatch h), fun _ => hb, by rw [List.length_map, zgh]; omega, fun k x hx => ?_⟩
 have h1 := zdb 5 caps 0 l k x hx
 rw [Nat.zero_add] at h1
 refine ⟨_, by rw [Nat.zero_add, List.getElem?_map, h1]; rfl, ?_⟩
 refine ⟨_, rfl, ?_⟩
 rw [zks]
 have hk := (List.getElem?_eq_some_iff.1 hx).1
 have hat := zgi caps hx
 have hc := hcap k x hx
 cases hn : x.2 with
 | nil => exact .inl rfl
 | cons y r =>
  rw [hn] at hat hc
  have hhas : (famE caps l).has k := ⟨hk, by show (!((l.map (·.2)).getD k []).isEmpty) = true; rw [hat]; rfl⟩
  have := hf k hhas
  have e : (famE caps l).at k = .arr 3 1 ((y :: r).map encI) (caps k) := by show SB.arr 3 1 (((l.map (·.2)).getD k []).map encI) (caps k) = _; rw [hat]
  rw [e] at this
  exact .inr ⟨Sl.new (l := y :: r) this, hc⟩
end Go.Proofs.YtblllibdahkgfaaGreatDoor
