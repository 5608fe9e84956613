import Derived.Test.YtblllibdahkgfaaGreatDoorK04

namespace Sx
open Go
inductive Mv where
 | to (j : Nat)
 | fn (g : Nat → Nat × Nat) (tg : List Nat)
instance (n : Nat) : OfNat Mv n := ⟨.to n⟩
def Mv.at (m : Mv) (k : Nat) : Nat × Nat :=
 match m with
 | .to j => (j, k)
 | .fn g _ => g k
abbrev Mu := Nat → Nat → Nat × Nat
def Mu.pull (μ : Mu) (ρ : Rho) : Rho := fun i k => ρ (μ i k).1 (μ i k).2
def Pl.ren (μ : Mu) (p : Pl) : Pl := ⟨(μ p.i p.k).1, (μ p.i p.k).2, p.e, p.sz, p.o⟩
def SA.ren (μ : Mu) : SA → SA
 | .ptr p => .ptr (p.ren μ)
 | .slice nil i k e sz len cap => .slice nil (μ i k).1 (μ i k).2 e sz len cap
 | .fn f cap => .fn f (cap.map (Pl.ren μ))
 | .iter i k => .iter (μ i k).1 (μ i k).2
 | .int k n => .int k n
 | .lit b => .lit b
 | .bool b => .bool b
 | .str s => .str s
 | .nilptr => .nilptr
 | .nilfn => .nilfn
 | .nilif => .nilif
 | .ifc t v => .ifc t v
 | .glob g => .glob g
 | .nilsl => .nilsl
def SC.ren (μ : Mu) : SC → SC
 | .va a => .va (a.ren μ)
 | .agg l => .agg (l.map (SA.ren μ))
def SV.ren (μ : Mu) : SV → SV
 | .va a => .va (a.ren μ)
 | .agg l => .agg (l.map (SA.ren μ))
 | .tup l => .tup (l.map (SC.ren μ))
 | .junk => .junk
def SB.ren (μ : Mu) : SB → SB
 | .cells t l => .cells t (l.map (SA.ren μ))
 | .arr t sz L room => .arr t sz (L.map (List.map (SA.ren μ))) room
 | .obj o => .obj o
def Ent.ren (μ : Mu) : Ent → Ent
 | .one b => .one (b.ren μ)
 | .opt c b => .opt c (b.ren μ)
 | .fam n c f => .fam n c fun k => (f k).ren μ
 | .gone => .gone
 | .frz F => .frz F
 | .lnk b => .lnk b
theorem SA.den_ren (μ : Mu) (ρ : Rho) (a : SA) : (a.ren μ).den ρ = a.den (μ.pull ρ) := by
 cases a <;> simp [SA.ren, SA.den, Pl.ren, Pl.addr, Mu.pull]
theorem zeo (μ : Mu) (ρ : Rho) (l : List SA) : (l.map (SA.ren μ)).map (SA.den ρ) = l.map (SA.den (μ.pull ρ)) := by
 rw [List.map_map]; exact List.map_congr_left fun a _ => SA.den_ren μ ρ a
theorem SV.rel_ren (μ : Mu) (ρ : Rho) (s : SV) (v : Value) : (s.ren μ).rel ρ v ↔ s.rel (μ.pull ρ) v := by
 cases s with
 | va a => simp [SV.ren, SV.rel, SA.den_ren]
 | agg l => simp only [SV.ren, SV.rel, zeo]
 | tup l =>
  simp only [SV.ren, SV.rel]
  have : (l.map (SC.ren μ)).map (SC.den ρ) = l.map (SC.den (μ.pull ρ)) := by
   rw [List.map_map]
   refine List.map_congr_left fun c _ => ?_
   cases c with
   | va a => exact SA.den_ren μ ρ a
   | agg l => simp only [Function.comp, SC.ren, SC.den, zeo]
  rw [this]
 | junk => exact Iff.rfl
theorem SB.ok_ren (μ : Mu) (ρ : Rho) (b : SB) (o : Obj) : (b.ren μ).ok ρ o ↔ b.ok (μ.pull ρ) o := by
 cases b with
 | cells t l => simp only [SB.ren, SB.ok, zeo]
 | arr t sz L room =>
  simp only [SB.ren, SB.ok, List.length_map]
  have e1 : (L.map (List.map (SA.ren μ))).flatten = L.flatten.map (SA.ren μ) := by rw [List.map_flatten]
  rw [e1, zeo]
  constructor
  ·rintro ⟨h1, h2⟩
   refine ⟨fun x hx => ?_, h2⟩
   have := h1 (x.map (SA.ren μ)) (List.mem_map.2 ⟨x, hx, rfl⟩); simpa using this
  ·rintro ⟨h1, h2⟩
   refine ⟨fun x hx => ?_, h2⟩
   obtain ⟨y, hy, rfl⟩ := List.mem_map.1 hx
   simpa using h1 y hy
 | obj o => exact Iff.rfl
theorem Ent.has_ren (μ : Mu) (e : Ent) (k : Nat) : (e.ren μ).has k ↔ e.has k := by cases e <;> exact Iff.rfl
theorem Ent.isFz_ren (μ : Mu) (e : Ent) : (e.ren μ).isFz = e.isFz := by cases e <;> rfl
theorem Ent.has_cases {e : Ent} {k : Nat} (h : e.has k) : e.plain = true ∨ ∃ F, e = .frz F := by
 cases e <;> first | exact .inl rfl | exact h.elim | exact .inr ⟨_, rfl⟩
theorem Ent.at_ren (μ : Mu) (e : Ent) (k : Nat) (h : e.plain = true) : (e.ren μ).at k = (e.at k).ren μ := by
 cases e <;> first | rfl | cases h
def sig (s : List (Nat × Mv)) : Mu := fun i k =>
 match aget s i with
 | some m => m.at k
 | none => (i, k)
def atomE (w a : SA) : Prop :=
 match w, a with
 | .slice nil0 i0 k0 e0 sz0 len0 cap0, .slice nil i k e sz len cap => nil0 = nil ∧ len0 = len ∧ cap0 = cap ∧ (nil = true ∨ (i0 = i ∧ k0 = k ∧ e0 = e ∧ sz0 = sz))
 | .slice nil0 _ _ _ _ len0 cap0, .nilsl => nil0 = true ∧ len0 = 0 ∧ cap0 = 0
 | .nilsl, .slice nil _ _ _ _ len cap => nil = true ∧ len = 0 ∧ cap = 0
 | .lit b0, .bool b => b0 = b
 | .bool b0, .lit b => b0 = b
 | w, a => w = a
def scE : SC → SC → Prop
 | .va w, .va a => atomE w a
 | w, a => w = a
def tupE : List SC → List SC → Prop
 | [], [] => True
 | w :: r, a :: r' => scE w a ∧ tupE r r'
 | _, _ => False
def svE : SV → SV → Prop
 | .va w, .va a => atomE w a
 | .tup w, .tup a => tupE w a
 | w, a => w = a
theorem zk3 {ρ : Rho} {w a : SA} (h : atomE w a) : w.den ρ = a.den ρ := by
 unfold atomE at h
 split at h
 ·obtain ⟨h1, h2, h3, h4⟩ := h
  subst h1; subst h2; subst h3
  rcases h4 with h4 | ⟨rfl, rfl, rfl, rfl⟩
  ·subst h4; rfl
  ·rfl
 ·obtain ⟨rfl, rfl, rfl⟩ := h; rfl
 ·obtain ⟨rfl, rfl, rfl⟩ := h; rfl
 ·subst h; rfl
 ·subst h; rfl
 ·subst h; rfl
theorem zu5 {ρ : Rho} {w a : SC} (h : scE w a) : w.den ρ = a.den ρ := by
 unfold scE at h
 split at h
 ·exact zk3 h
 ·rw [h]
theorem znh {ρ : Rho} : ∀ {w a : List SC}, tupE w a → w.map (SC.den ρ) = a.map (SC.den ρ)
 | [], [], _ => rfl
 | w :: r, a :: r', h => by simp only [List.map_cons]; rw [zu5 h.1, znh h.2]
 | [], _ :: _, h => h.elim
 | _ :: _, [], h => h.elim
theorem zmc {ρ : Rho} {w a : SV} {v : Value} (h : svE w a) (hr : a.rel ρ v) : w.rel ρ v := by
 unfold svE at h
 split at h
 ·simp only [SV.rel] at *; rw [hr, zk3 h]
 ·simp only [SV.rel] at *; rw [hr, znh h]
 ·subst h; exact hr
def svO (w : SV) : Option SV → Prop
 | some a => svE w a
 | none => False
theorem zth {w : SV} {o : Option SV} (h : svO w o) : ∃ a, o = some a ∧ svE w a := by
 cases o with
 | none => exact h.elim
 | some a => exact ⟨a, rfl, h⟩
def leT (s : List (Nat × Mv)) (t1 : List (List (Nat × SV))) : List (Nat × SV) → Prop
 | [] => True
 | (n, v) :: r => (match v with
  | .junk => leT s t1 r
  | v => svO (v.ren (sig s)) (lget t1 n) ∧ leT s t1 r)
def subE (x : Option Ent) (e : Ent) : Prop :=
 match e with
 | .gone => True
 | .one b => (match x with
  | some (.one b') => b' = b
  | some (.opt c b') => c = true ∧ b' = b
  | _ => False)
 | .opt c b => (match x with
  | some (.one b') => b' = b
  | some (.opt c' b') => c' = c ∧ b' = b
  | some (.fam _ _ _) => False
  | some (.frz _) => False
  | some (.lnk _) => c = false
  | some .gone => c = false
  | none => c = false)
 | .fam n c f => (match n with
  | 0 => True
  | n + 1 => (match x with
   | some (.fam m c' f') => m = n + 1 ∧ c' = c ∧ f' = f
   | _ => False))
 | .frz F => (match x with
  | some (.frz F') => Fz.le F F'
  | _ => False)
 | .lnk b => (match x with
  | some (.lnk b') => b' = b
  | _ => False)
theorem Fz.le_some {F F' : Fz} (h : Fz.le F F') {k : Nat} (hk : (F k).isSome = true) : F' k = F k := by
 obtain ⟨B, hB⟩ := Option.isSome_iff_exists.1 hk
 rw [hB]; exact h k B hB
theorem znl {x : Option Ent} {e : Ent} (h : subE x e) (k : Nat) (hk : e.has k) : ∃ e1, x = some e1 ∧ e1.has k ∧ e1.at k = e.at k ∧ e1.isFz = e.isFz := by
 unfold subE at h
 cases e with
 | gone => exact hk.elim
 | lnk b => exact hk.elim
 | one b =>
  simp only at h
  split at h
  ·subst h; exact ⟨_, rfl, hk, rfl, rfl⟩
  ·exact ⟨_, rfl, ⟨h.1, hk⟩, h.2, rfl⟩
  ·exact h.elim
 | opt c b =>
  simp only at h
  split at h
  ·subst h; exact ⟨_, rfl, hk.2, rfl, rfl⟩
  ·exact ⟨_, rfl, ⟨h.1.trans hk.1, hk.2⟩, h.2, rfl⟩
  ·exact h.elim
  ·exact h.elim
  ·have := hk.1; rw [h] at this; cases this
  ·have := hk.1; rw [h] at this; cases this
  ·have := hk.1; rw [h] at this; cases this
 | fam n c f =>
  cases n with
  | zero => exact absurd hk.1 (Nat.not_lt_zero _)
  | succ n =>
   simp only at h
   split at h
   ·obtain ⟨rfl, rfl, rfl⟩ := h; exact ⟨_, rfl, hk, rfl, rfl⟩
   ·exact h.elim
 | frz F =>
  simp only at h
  split at h
  ·rename_i F'
   have e := Fz.le_some h hk
   exact ⟨_, rfl, by show (F' k).isSome = true; rw [e]; exact hk, by show (F' k).getD _ = (F k).getD _; rw [e], rfl⟩
  ·exact h.elim
def genE (g : Nat → Nat × Nat) (tg : List Nat) (h1 : Hp) (e : Ent) : Prop :=
 match e with
 | .fam n c f => (∀ k, k < n → c k = true → (g k).1 ∈ tg ∧ ∃ e1, lget h1 (g k).1 = some e1 ∧ e1.plain = true ∧ e1.has (g k).2 ∧ e1.at (g k).2 = f k) ∧
   (∀ k k', k < n → k' < n → c k = true → c k' = true → g k = g k' → k = k')
 | _ => False
def entE (m : Option Mv) (i : Nat) (h1 : Hp) (e : Ent) : Prop :=
 match m with
 | none => subE (lget h1 i) e
 | some (.to j) => subE (lget h1 j) e
 | some (.fn g tg) => genE g tg h1 e
theorem zj0 {s : List (Nat × Mv)} {i : Nat} {h1 : Hp} {e : Ent} (h : entE (aget s i) i h1 e) (k : Nat) (hk : e.has k) : ∃ e1, lget h1 (sig s i k).1 = some e1 ∧ e1.has (sig s i k).2 ∧ e1.at (sig s i k).2 = e.at k ∧ e1.isFz = e.isFz := by
 unfold sig
 cases hs : aget s i with
 | none => rw [hs] at h; exact znl h k hk
 | some m =>
  rw [hs] at h
  cases m with
  | to j => exact znl h k hk
  | fn g tg =>
   simp only [entE, genE] at h
   split at h
   ·obtain ⟨h1, _⟩ := h
    obtain ⟨_, e1, h3, h4, h5, h6⟩ := h1 k hk.1 hk.2
    refine ⟨e1, h3, h5, h6, ?_⟩
    cases e1 <;> first | rfl | cases h4
   ·exact h.elim
theorem zsm {s : List (Nat × Mv)} {i : Nat} {h1 : Hp} {b : Nat → Nat} (h : entE (aget s i) i h1 (.lnk b)) : ∃ j, lget h1 j = some (.lnk b) ∧ ∀ k, sig s i k = (j, k) := by
 unfold sig
 cases hs : aget s i with
 | none =>
  rw [hs] at h
  simp only [entE, subE] at h
  split at h
  ·rename_i b' hl; subst h; exact ⟨i, hl, fun _ => rfl⟩
  ·exact h.elim
 | some m =>
  rw [hs] at h
  cases m with
  | to j =>
   simp only [entE, subE] at h
   split at h
   ·rename_i b' hl; subst h; exact ⟨j, hl, fun _ => rfl⟩
   ·exact h.elim
  | fn g tg => exact h.elim
def leH (s : List (Nat × Mv)) (h1 : Hp) : List (Nat × Ent) → Prop
 | [] => True
 | (i, e) :: r => (match e with
  | .gone => leH s h1 r
  | e => entE (aget s i) i h1 (e.ren (sig s)) ∧ leH s h1 r)
def Ent.below (n : Nat) : Ent → Prop
 | .one b => b.below n
 | .opt c b => b.below n
 | .fam m c f => ∀ k, k < m → c k = true → (f k).below n
 | .gone => True
 | .frz _ => True
 | .lnk _ => True
theorem Ent.below_at {n : Nat} {e : Ent} (h : e.below n) (k : Nat) (hk : e.has k) (hp : e.plain = true) : (e.at k).below n := by
 cases e with
 | one b => exact h
 | opt c b => exact h
 | fam m c f => exact h k hk.1 hk.2
 | gone => exact hk.elim
 | frz F => cases hp
 | lnk b => exact hk.elim
def bT (n : Nat) : List (Nat × SV) → Prop
 | [] => True
 | (_, v) :: r => v.below n ∧ bT n r
def bH (n : Nat) : List (Nat × Ent) → Prop
 | [] => True
 | (_, e) :: r => e.below n ∧ bH n r
def zle : Option Ent → Bool
 | some .gone => true
 | _ => false
def Mv.tg : Mv → List Nat
 | .to j => [j]
 | .fn _ tg => tg
def at0 (hup : List (Nat × Ent)) : Bool :=
 match aget hup 0 with
 | none => true
 | some (.frz _) => true
 | _ => false
def apart (a b : List Nat) : Bool := a.all fun x => b.all fun y => !(Nat.beq x y)
def chkS (s : List (Nat × Mv)) (hup : List (Nat × Ent)) (N0 N : Nat) : Bool :=
 (s.all fun p => Nat.ble N0 p.1 && Nat.ble (p.1 + 1) N && (p.2.tg.all fun j => Nat.ble N0 j || zle (aget hup j))) &&
 (s.all fun p => s.all fun q => Nat.beq p.1 q.1 || apart p.2.tg q.2.tg) &&
 (hup.all fun q => (zle (some q.2) || Nat.ble (q.1 + 1) N0 || (aget s q.1).isSome) && Nat.ble (q.1 + 1) N) &&
 ((hup.all fun q => !q.2.isFz || Nat.beq q.1 0) && at0 hup)
def zff : SV → Bool
 | .junk => true
 | _ => false
theorem zbp {β : Type} : ∀ {l : List (Nat × β)} {n : Nat} {v : β}, aget l n = some v → (n, v) ∈ l
 | [], n, v, h => by simp [aget] at h
 | (m, u) :: r, n, v, h => by
  simp only [aget] at h
  split at h
  ·rename_i hb
   have := Nat.eq_of_beq_eq_true hb
   cases h; subst this; simp
  ·exact List.mem_cons_of_mem _ (zbp h)
theorem zht {s : List (Nat × Mv)} {t1 : List (List (Nat × SV))} : ∀ {l : List (Nat × SV)}, leT s t1 l → ∀ p ∈ l, p.2 = .junk ∨ svO (p.2.ren (sig s)) (lget t1 p.1)
 | [], _, p, hp => by simp at hp
 | (n, v) :: r, h, p, hp => by
  simp only [leT] at h
  rcases List.mem_cons.1 hp with rfl | hq
  ·cases v with
   | junk => exact .inl rfl
   | va a => exact .inr h.1
   | agg l => exact .inr h.1
   | tup l => exact .inr h.1
  ·cases v with
   | junk => exact zht h p hq
   | va a => exact zht h.2 p hq
   | agg l => exact zht h.2 p hq
   | tup l => exact zht h.2 p hq
theorem zd3 {s : List (Nat × Mv)} {h1 : Hp} : ∀ {l : List (Nat × Ent)}, leH s h1 l → ∀ p ∈ l, p.2 = .gone ∨ entE (aget s p.1) p.1 h1 (p.2.ren (sig s))
 | [], _, p, hp => by simp at hp
 | (i, e) :: r, h, p, hp => by
  simp only [leH] at h
  rcases List.mem_cons.1 hp with rfl | hq
  ·cases e with
   | gone => exact .inl rfl
   | one b => exact .inr h.1
   | opt c b => exact .inr h.1
   | fam n c f => exact .inr h.1
   | frz F => exact .inr h.1
   | lnk b => exact .inr h.1
  ·cases e with
   | gone => exact zd3 h p hq
   | one b => exact zd3 h.2 p hq
   | opt c b => exact zd3 h.2 p hq
   | fam n c f => exact zd3 h.2 p hq
   | frz F => exact zd3 h.2 p hq
   | lnk b => exact zd3 h.2 p hq
theorem zuj {n : Nat} : ∀ {l : List (Nat × SV)}, bT n l → ∀ p ∈ l, p.2.below n
 | [], _, p, hp => by simp at hp
 | (m, v) :: r, h, p, hp => by
  rcases List.mem_cons.1 hp with rfl | hp
  ·exact h.1
  ·exact zuj h.2 p hp
theorem zqv {n : Nat} : ∀ {l : List (Nat × Ent)}, bH n l → ∀ p ∈ l, p.2.below n
 | [], _, p, hp => by simp at hp
 | (m, v) :: r, h, p, hp => by
  rcases List.mem_cons.1 hp with rfl | hp
  ·exact h.1
  ·exact zqv h.2 p hp
theorem tg_at {m : Mv} {i : Nat} {h1 : Hp} {e : Ent} (h : entE (some m) i h1 e) (k : Nat) (hk : e.has k) : (m.at k).1 ∈ m.tg := by
 cases m with
 | to j => simp [Mv.at, Mv.tg]
 | fn g tg =>
  simp only [entE, genE] at h
  split at h
  ·exact (h.1 k hk.1 hk.2).1
  ·exact h.elim
theorem zx1 {m : Mv} {i : Nat} {h1 : Hp} {e : Ent} (h : entE (some m) i h1 e) {k k' : Nat} (hk : e.has k) (hk' : e.has k') (he : m.at k = m.at k') : k = k' := by
 cases m with
 | to j => simpa [Mv.at] using he
 | fn g tg =>
  simp only [entE, genE] at h
  split at h
  ·exact h.2 k k' hk.1 hk'.1 hk.2 hk'.2 he
  ·exact h.elim
theorem ztg {a b : List Nat} (h : apart a b = true) {x y : Nat} (hx : x ∈ a) (hy : y ∈ b) : x ≠ y := by
 intro he; subst he
 have := List.all_eq_true.1 (List.all_eq_true.1 h x hx) x hy
 simp at this
theorem zqi {t1 T : List (List (Nat × SV))} {upd jl : List (Nat × SV)} {h1 H : Hp} {hup : List (Nat × Ent)} {nx1 n0 nt : Nat} {d : List (FuncId × List SA)} (N0 N : Nat) (s : List (Nat × Mv))
  (hH : WfH H N0) (hT : WfT T N0) (hN : N0 ≤ N) (hn0 : n0 ≤ N0) (hd : ∀ x ∈ d, ∀ a ∈ x.2, a.below N0)
  (ht : leT s t1 upd) (hrest : ∀ n, aget upd n = none → aget jl n = none → lget t1 n = lget T n) (hj : (jl.all fun p => zff p.2 && Nat.ble (p.1 + 1) nt) = true) (hu0 : (upd.all fun p => Nat.ble (p.1 + 1) nt) = true)
  (hh : leH s h1 hup) (hrestH : ∀ i, i < N0 → aget hup i = none → lget h1 i = lget H i)
  (hs : chkS s hup N0 N = true) (wt : bT N upd) (wh : bH N hup) :
  ∀ C ρ a w, Den C ρ ⟨t1, h1, nx1, n0, nt, d⟩ a w → Den C ((sig s).pull ρ) ⟨upd :: jl :: T, hup :: H, N, n0, nt, d⟩ a w := by
 simp only [chkS, Bool.and_eq_true, List.all_eq_true, Bool.or_eq_true] at hs
 obtain ⟨⟨⟨hs1, hs2⟩, hs3⟩, hs4, hs5⟩ := hs
 have snone : ∀ i, i < N0 → aget s i = none := by
  intro i hi
  cases hj' : aget s i with
  | none => rfl
  | some j =>
   have := (hs1 _ (zbp hj')).1.1
   have := Nat.le_of_ble_eq_true this
   simp only at this; omega
 have sfix : ∀ i k, i < N0 → sig s i k = (i, k) := by
  intro i k hi
  unfold sig
  rw [snone i hi]
 intro C ρ a w D
 have S := D.sat
 have hpos : 0 < N0 := by have h1 := S.n1; have h2 : C.n0 = n0 := D.n0; omega
 have hagree : ∀ i, i < N0 → ((sig s).pull ρ) i = ρ i := fun i hi => by
  funext k; simp only [Mu.pull, sfix i k hi]
 -- what stands at the name 0
 have zero : ∃ F, lget (hup :: H) 0 = some (.frz F) ∧ ∀ b B, F b = some B → B.below 1 := by
  obtain ⟨F1, hF1, hb1⟩ := S.fz
  cases hz : aget hup 0 with
  | none =>
   refine ⟨F1, ?_, hb1⟩
   simp only [lget, hz]
   rw [← hrestH 0 hpos hz]; exact hF1
  | some e =>
   unfold at0 at hs5; rw [hz] at hs5
   cases e with
   | frz F =>
    refine ⟨F, by simp [lget, hz], fun b B hB => ?_⟩
    rcases zd3 hh _ (zbp hz) with hg | hg
    ·cases hg
    ·rw [snone 0 hpos] at hg
     simp only [entE, Ent.ren, subE] at hg
     have hF1' : lget h1 0 = some (.frz F1) := hF1
     rw [hF1'] at hg
     exact hb1 b B (hg b B hB)
   | _ => cases hs5
 have onlyT : ∀ i F, lget (hup :: H) i = some (.frz F) → i = 0 := by
  intro i F hF
  simp only [lget] at hF
  split at hF
  ·rename_i v hv
   cases hF
   rcases hs4 _ (zbp hv) with h | h
   ·cases h
   ·exact Nat.eq_of_beq_eq_true h
  ·rename_i hv
   have hi := (hH i _ hF).1
   rw [← hrestH i hi hv] at hF
   exact S.only i F hF
 -- what the target's heap holds at a family
 have look : ∀ i e, lget (hup :: H) i = some e → (∀ k, ¬ e.has k) ∨ ((∀ k, e.has k → ∃ e1, lget h1 (sig s i k).1 = some e1 ∧ e1.has (sig s i k).2 ∧ e1.isFz = e.isFz ∧ (∀ o, (e1.at (sig s i k).2).ok ρ o → (e.at k).ok ((sig s).pull ρ) o)) ∧
   (∀ k, e.has k → (e.at k).below N) ∧ ((aget s i = none ∧ i < N0 ∧ zle (aget hup i) = false) ∨ ∃ m, aget s i = some m ∧ entE (some m) i h1 (e.ren (sig s)))) := by
  intro i e he
  have he0 := he
  simp only [lget] at he
  split at he
  ·rename_i v hv
   cases he
   have hm := zbp hv
   rcases zd3 hh _ hm with hg | hg
   ·simp only at hg; subst hg; exact .inl fun k hk => hk
   ·have h3 := hs3 _ hm
    by_cases hgone : e = .gone
    ·subst hgone; exact .inl fun k hk => hk
    ·refine .inr ⟨fun k hk => ?_, fun k hk => ?_, ?_⟩
     ·obtain ⟨e1, h5, h6, h7, h8⟩ := zj0 hg k ((Ent.has_ren _ e k).2 hk)
      refine ⟨e1, h5, h6, h8.trans (Ent.isFz_ren _ e), fun o ho => ?_⟩
      simp only at h7 ho
      rcases Ent.has_cases hk with hp | ⟨F, rfl⟩
      ·rw [h7, Ent.at_ren _ e k hp] at ho
       exact (SB.ok_ren _ ρ _ o).1 ho
      ·rw [h7] at ho
       obtain ⟨F', hF', hb'⟩ := zero
       have hi0 := onlyT i F he0
       subst hi0
       rw [hF'] at he0; cases he0
       obtain ⟨B, hB⟩ := Option.isSome_iff_exists.1 hk
       simp only [Ent.ren, Ent.at, hB, Option.getD_some] at ho ⊢
       exact SB.ok_congr (n := 1) (fun i hi => hagree i (by omega)) (hb' k B hB) ho
     ·rcases Ent.has_cases hk with hp | ⟨F, rfl⟩
      ·exact Ent.below_at (zqv wh _ hm) k hk hp
      ·obtain ⟨F', hF', hb'⟩ := zero
       have hi0 := onlyT i F he0
       subst hi0
       rw [hF'] at he0; cases he0
       obtain ⟨B, hB⟩ := Option.isSome_iff_exists.1 hk
       simp only [Ent.at, hB, Option.getD_some]
       exact SB.below_mono (by omega) (hb' k B hB)
     ·cases hsi : aget s i with
      | some m => exact .inr ⟨m, rfl, by rw [← hsi]; exact hg⟩
      | none =>
       left
       have hng : zle (some e) = false := by cases e <;> first | rfl | exact absurd rfl hgone
       refine ⟨rfl, ?_, by rw [hv]; exact hng⟩
       rcases h3.1 with (h3 | h3) | h3
       ·simp only at h3; rw [hng] at h3; cases h3
       ·exact Nat.le_of_ble_eq_true h3
       ·simp only at h3; rw [hsi] at h3; cases h3
  ·rename_i hv
   have hw := hH i e he
   have hi := hw.1
   right
   refine ⟨fun k hk => ⟨e, by rw [sfix i k hi, hrestH i hi hv, he], by rw [sfix i k hi]; exact hk, rfl, fun o ho => ?_⟩, fun k hk => SB.below_mono hN (hw.2 k hk), .inl ⟨snone i hi, hi, by rw [hv]; rfl⟩⟩
   rw [sfix i k hi] at ho
   exact SB.ok_congr (n := N0) hagree (hw.2 k hk) ho
 have owns1 : ∀ i k, St.owns (hup :: H) i k → St.owns h1 (sig s i k).1 (sig s i k).2 := by
  rintro i k ⟨e, he, hk⟩
  rcases look i e he with hno | ⟨hl, _⟩
  ·exact absurd hk (hno k)
  ·obtain ⟨e1, h2, h3, _⟩ := hl k hk
   exact ⟨e1, h2, h3⟩
 have own0 : ∀ i k, St.owns (hup :: H) i k → (sig s i k).1 = 0 → i = 0 ∧ (sig s i k).2 = k := by
  rintro i k ⟨e, he, hk⟩ h0
  rcases look i e he with hno | ⟨hl, _⟩
  ·exact absurd hk (hno k)
  ·obtain ⟨e1, h2, h3, h4, _⟩ := hl k hk
   obtain ⟨F1, hF1, _⟩ := S.fz
   have hF1' : lget h1 0 = some (.frz F1) := hF1
   rw [h0, hF1'] at h2; cases h2
   have hf : e.isFz = true := h4.symm
   cases e with
   | frz F =>
    have hi0 := onlyT i F he
    subst hi0
    exact ⟨rfl, by rw [sfix 0 k hpos]⟩
   | _ => cases hf
 refine { sat := ?_, nt := D.nt, tm := ?_, tw := ?_, n0 := D.n0, df := ?_, dw := fun x hx b hb => SA.below_mono hN (hd x hx b hb) }
 ·refine { lt := ?_, blk := ?_, wf := ?_, inj := ?_, anch := ?_, n0 := by rw [D.n0]; show n0 ≤ N; omega, n1 := S.n1, os := S.os, tape := S.tape, output := S.output, size := S.size, fr := S.fr, own := ?_, fz := zero, id0 := fun k => by rw [hagree 0 hpos]; exact S.id0 k, only := onlyT, lnk := ?_ }
  ·intro i e he
   simp only [lget] at he
   split at he
   ·rename_i v hv
    exact Nat.le_of_ble_eq_true (hs3 _ (zbp hv)).2
   ·have := (hH i _ he).1; show i < N; omega
  ·intro i e he k hk
   rcases look i e he with hno | ⟨hl, _⟩
   ·exact absurd hk (hno k)
   ·obtain ⟨e1, h2, h3, _, h4⟩ := hl k hk
    obtain ⟨o, ho, hok⟩ := S.blk _ e1 h2 _ h3
    exact ⟨o, ho, h4 o hok⟩
  ·intro i e he k hk
   rcases look i e he with hno | ⟨_, h4, _⟩
   ·exact absurd hk (hno k)
   ·exact h4 k hk
  ·intro i k i' k' ho ho' heq
   have hinj := S.inj _ _ _ _ (owns1 i k ho) (owns1 i' k' ho') heq
   obtain ⟨e, he, hk⟩ := ho
   obtain ⟨e', he', hk'⟩ := ho'
   have hsig := hinj.1
   have hsig2 := hinj.2
   rcases look i e he with hno | ⟨_, _, c1⟩
   ·exact absurd hk (hno k)
   rcases look i' e' he' with hno | ⟨_, _, c2⟩
   ·exact absurd hk' (hno k')
   rcases c1 with ⟨n1, l1, g1⟩ | ⟨m1, j1h, en1⟩ <;> rcases c2 with ⟨n2, l2, g2⟩ | ⟨m2, j2h, en2⟩
   ·exact ⟨by simpa [sig, n1, n2] using hsig, by simpa [sig, n1, n2] using hsig2⟩
   ·exfalso
    have h6 := hs1 _ (zbp j2h)
    have hin := tg_at en2 k' ((Ent.has_ren _ e' k').2 hk')
    have : i = (m2.at k').1 := by simpa [sig, n1, j2h] using hsig
    rw [← this] at hin
    rcases h6.2 i hin with h5 | h5
    ·have := Nat.le_of_ble_eq_true h5; omega
    ·rw [g1] at h5; cases h5
   ·exfalso
    have h6 := hs1 _ (zbp j1h)
    have hin := tg_at en1 k ((Ent.has_ren _ e k).2 hk)
    have : (m1.at k).1 = i' := by simpa [sig, n2, j1h] using hsig
    rw [this] at hin
    rcases h6.2 i' hin with h5 | h5
    ·have := Nat.le_of_ble_eq_true h5; omega
    ·rw [g2] at h5; cases h5
   ·have hjj : (m1.at k).1 = (m2.at k').1 := by simpa [sig, j1h, j2h] using hsig
    have hkk : (m1.at k).2 = (m2.at k').2 := by simpa [sig, j1h, j2h] using hsig2
    have hii : i = i' := by
     rcases hs2 _ (zbp j1h) _ (zbp j2h) with h5 | h5
     ·exact Nat.eq_of_beq_eq_true h5
     ·exact absurd hjj (ztg h5 (tg_at en1 k ((Ent.has_ren _ e k).2 hk)) (tg_at en2 k' ((Ent.has_ren _ e' k').2 hk')))
    subst hii
    rw [j1h] at j2h; cases j2h
    refine ⟨rfl, ?_⟩
    rw [he] at he'; cases he'
    exact zx1 en1 ((Ent.has_ren _ e k).2 hk) ((Ent.has_ren _ e k').2 hk') (Prod.ext hjj hkk)
  ·intro i hi k
   rw [D.n0] at hi
   have hi' : i < n0 := hi
   show ρ (sig s i k).1 (sig s i k).2 = _
   rw [sfix i k (by omega)]; exact S.anch i (by rw [D.n0]; exact hi) k
  ·intro i k ho
   rcases S.own _ _ (owns1 i k ho) with h | h
   ·have := own0 i k ho h.1
    exact .inl ⟨this.1, by rw [← this.2]; exact h.2⟩
   ·exact .inr h
  ·intro i b hl k
   show ρ (sig s i k).1 (sig s i k).2 = _
   simp only [lget] at hl
   split at hl
   ·rename_i v hv
    cases hl
    rcases zd3 hh _ (zbp hv) with hg | hg
    ·cases hg
    ·obtain ⟨j, hj1, hj2⟩ := zsm hg
     simp only at hj2
     rw [hj2 k]; exact S.lnk j b hj1 k
   ·rename_i hv
    have hi := (hH i _ hl).1
    rw [sfix i k hi]
    rw [← hrestH i hi hv] at hl
    exact S.lnk i b hl k
 ·intro n v hv
  simp only [lget] at hv
  split at hv
  ·rename_i u hu
   cases hv
   rcases zht ht _ (zbp hu) with hg | hg
   ·simp only at hg; subst hg
    have hlt := List.all_eq_true.1 hu0 _ (zbp hu)
    have hlt := Nat.le_of_ble_eq_true hlt
    exact ⟨_, Array.getElem?_eq_getElem (by rw [D.nt]; exact hlt), trivial⟩
   ·obtain ⟨y, hy, hye⟩ := zth hg
    obtain ⟨x, hx, hr⟩ := D.tm n _ hy
    exact ⟨x, hx, (SV.rel_ren _ ρ v x).1 (zmc hye hr)⟩
  ·rename_i hu
   split at hv
   ·rename_i u hu2
    cases hv
    have hjj : zff v = true ∧ n + 1 ≤ nt := by simpa using (List.all_eq_true.1 hj _ (zbp hu2))
    have : zff v = true := hjj.1
    have : v = .junk := by cases v <;> first | rfl | cases this
    subst this
    exact ⟨_, Array.getElem?_eq_getElem (by rw [D.nt]; exact hjj.2), trivial⟩
   ·rename_i hu2
    have he := hrest n hu hu2
    obtain ⟨x, hx, hr⟩ := D.tm n v (by show lget t1 n = some v; rw [he]; exact hv)
    exact ⟨x, hx, SV.rel_congr hagree (hT n v hv) hr⟩
 ·intro n v hv
  simp only [lget] at hv
  split at hv
  ·rename_i u hu
   cases hv
   exact zuj wt _ (zbp hu)
  ·rename_i hu
   split at hv
   ·rename_i u hu2
    cases hv
    have hjj : zff v = true ∧ n + 1 ≤ nt := by simpa using (List.all_eq_true.1 hj _ (zbp hu2))
    have : zff v = true := hjj.1
    have : v = .junk := by cases v <;> first | rfl | cases this
    subst this
    trivial
   ·exact SV.below_mono hN (hT n v hv)
 ·rw [D.df]
  refine List.map_congr_left fun x hx => ?_
  simp only [defOf]
  rw [zco hagree (hd x hx)]
theorem zqs {t1 T : List (List (Nat × SV))} {upd jl : List (Nat × SV)} {h1 H : Hp} {hup : List (Nat × Ent)} {nx1 n0 nt : Nat} {d : List (FuncId × List SA)} (N0 N : Nat) (s : List (Nat × Mv))
  (hH : WfH H N0) (hT : WfT T N0) (hN : N0 ≤ N) (hn0 : n0 ≤ N0) (hd : ∀ x ∈ d, ∀ a ∈ x.2, a.below N0)
  (ht : leT s t1 upd) (hrest : ∀ n, aget upd n = none → aget jl n = none → lget t1 n = lget T n) (hj : (jl.all fun p => zff p.2 && Nat.ble (p.1 + 1) nt) = true) (hu0 : (upd.all fun p => Nat.ble (p.1 + 1) nt) = true)
  (hh : leH s h1 hup) (hrestH : ∀ i, i < N0 → aget hup i = none → lget h1 i = lget H i)
  (hs : chkS s hup N0 N = true) (wt : bT N upd) (wh : bH N hup) :
  Le ⟨t1, h1, nx1, n0, nt, d⟩ ⟨upd :: jl :: T, hup :: H, N, n0, nt, d⟩ := by
 unfold Le
 intro C ρ a w D
 exact ⟨_, zqi N0 N s hH hT hN hn0 hd ht hrest hj hu0 hh hrestH hs wt wh C ρ a w D⟩
theorem zmf {C : Ctx} {ρ : Rho} {h : Hp} {nx : Nat} {w : World} (S : Sat C ρ h nx w) {N0 N : Nat} {s : List (Nat × Mv)} {h0 : List (Nat × Ent)} (hs : chkS s h0 N0 N = true) (hn : C.n0 ≤ N0) (hN : N0 ≤ N) (wh : bH N h0) (hh : leH s h h0)
  (hcov : ∀ i, i < N0 → (aget h0 i).isSome = true) : Sat C ((sig s).pull ρ) [h0] N w := by
 have D : Den C ρ ⟨[], h, nx, C.n0, 0, []⟩ ⟨#[], []⟩ w := { sat := S, nt := rfl, tm := fun n s h => by simp [lget] at h, tw := fun n s h => by simp [lget] at h, n0 := rfl, df := rfl, dw := by simp }
 have := zqi (t1 := []) (T := []) (upd := []) (jl := []) (h1 := h) (H := []) (hup := h0) (nx1 := nx) (n0 := C.n0) (nt := 0) (d := []) N0 N s (fun i e h => by simp [lget] at h) (fun n s h => by simp [lget] at h) hN hn (by simp) trivial (fun _ _ _ => rfl) rfl rfl hh
  (fun i hi h => by have := hcov i hi; rw [h] at this; cases this) hs trivial wh C ρ _ w D
 exact this.sat
theorem zl3 {T : List (List (Nat × SV))} {upd jl : List (Nat × SV)} {H : Hp} {hup : List (Nat × Ent)} {n0 nt N0 : Nat} {d : List (FuncId × List SA)} (N : Nat) (s : List (Nat × Mv))
  (hH : WfH H N0) (hT : WfT T N0) (hN : Nat.ble N0 N = true) (hn0 : Nat.ble n0 N0 = true) (hd : ∀ x ∈ d, ∀ a ∈ x.2, a.below N0)
  (hj : (jl.all fun p => zff p.2 && Nat.ble (p.1 + 1) nt) = true) (hu0 : (upd.all fun p => Nat.ble (p.1 + 1) nt) = true)
  (hs : chkS s hup N0 N = true) (wt : bT N upd) (wh : bH N hup) (ht : leT s T upd) (hh : leH s H hup) :
  Le ⟨T, H, N0, n0, nt, d⟩ ⟨upd :: jl :: T, hup :: H, N, n0, nt, d⟩ :=
 zqs N0 N s hH hT (Nat.le_of_ble_eq_true hN) (Nat.le_of_ble_eq_true hn0) hd ht (fun _ _ _ => rfl) hj hu0 hh (fun _ _ _ => rfl) hs wt wh
theorem zd9 {β γ : Type} {top : List (Nat × β)} {f : Nat → Bool} (h : (top.all fun p => f p.1) = true) {n : Nat} (hn : f n = false) : aget top n = none := by
 cases hh : aget top n with
 | none => rfl
 | some v => have := List.all_eq_true.1 h _ (zbp hh); simp only at this; rw [hn] at this; cases this
theorem zjo {T : List (List (Nat × SV))} {top upd jl : List (Nat × SV)} {H : Hp} {htop hup : List (Nat × Ent)} {nx1 n0 nt : Nat} {d : List (FuncId × List SA)} (N0 N : Nat) (s : List (Nat × Mv))
  (hH : WfH H N0) (hT : WfT T N0) (hN : Nat.ble N0 N = true) (hn0 : Nat.ble n0 N0 = true) (hd : ∀ x ∈ d, ∀ a ∈ x.2, a.below N0)
  (hj : (jl.all fun p => zff p.2 && Nat.ble (p.1 + 1) nt) = true) (hu0 : (upd.all fun p => Nat.ble (p.1 + 1) nt) = true)
  (hk : (top.all fun p => (aget upd p.1).isSome || (aget jl p.1).isSome) = true) (hkh : (htop.all fun p => (aget hup p.1).isSome || Nat.ble N0 p.1) = true)
  (hs : chkS s hup N0 N = true) (wt : bT N upd) (wh : bH N hup) (ht : leT s (top :: jl :: T) upd) (hh : leH s (htop :: H) hup) :
  Le ⟨top :: jl :: T, htop :: H, nx1, n0, nt, d⟩ ⟨upd :: jl :: T, hup :: H, N, n0, nt, d⟩ := by
 refine zqs N0 N s hH hT (Nat.le_of_ble_eq_true hN) (Nat.le_of_ble_eq_true hn0) hd ht ?_ hj hu0 hh ?_ hs wt wh
 ·intro n h1 h2
  have : aget top n = none := zd9 (γ := Nat) (f := fun m => (aget upd m).isSome || (aget jl m).isSome) hk (by simp [h1, h2])
  simp [lget, this, h2]
 ·intro i hi h1
  have : aget htop i = none := zd9 (γ := Nat) (f := fun m => (aget hup m).isSome || Nat.ble N0 m) hkh (by
   simp only [h1, Option.isSome_none, Bool.false_or]
   cases hb : Nat.ble N0 i with
   | false => rfl
   | true => have := Nat.le_of_ble_eq_true hb; omega)
  simp [lget, this]
end Sx

namespace Sx
open Go
def zfe : Nat → List SV → List (Nat × SV)
 | _, [] => []
 | n, s :: r => (n, s) :: zfe (n + 1) r
def zjj (Θ : Tys) (st : St) (r : ResultVar) (K : SC → Prop) : Prop :=
 match r with
 | .tmp t => (match lget st.t t with
  | some (.va (.lit b)) => K (.va (.bool b))
  | some (.va a) => K (.va a)
  | some (.agg l) => K (.agg l)
  | _ => False)
 | .cell p t => (match lget st.t p with
  | some x => zek Θ t x st.h st.nx fun v _ _ => (match v with
   | .va a => K (.va a)
   | .agg l => K (.agg l)
   | _ => False)
  | none => False)
def sresL (Θ : Tys) (st : St) : List ResultVar → (List SC → Prop) → Prop
 | [], K => K []
 | r :: rs, K => zjj Θ st r fun c => sresL Θ st rs fun l => K (c :: l)
def sres (Θ : Tys) (st : St) (rs : List ResultVar) (K : SV → Prop) : Prop :=
 sresL Θ st rs fun l => (match l with
  | [c] => K c.v
  | l => K (.tup l))
section
variable {P : Program} {Θ : Tys} {C : Ctx} {ρ : Rho} {st : St} {a : Act} {w : World}
def zft (tmps : Array Value) (r : ResultVar) : Sem Value :=
 match r with
 | .tmp t => pure (tmps.getD t undef)
 | .cell p t => do loadVar t (← asAddr (tmps.getD p undef))
theorem zii (P : Program) (w : World) (ad : Addr) : (asAddr (.pointer (some ad))).run P w = .ok ad w := rfl
theorem zjv (hΘ : Θ.Ok P) {r : ResultVar} {K : SC → Prop} (hs : zjj Θ st r K) (D : Den C ρ st a w) :
  ∃ c, K c ∧ c.below st.nx ∧ (zft a.tmps r).run P w = .ok (c.den ρ) w := by
 cases r with
 | tmp t =>
  simp only [zjj] at hs
  split at hs
  ·rename_i x hl
   obtain ⟨v, hv, hr⟩ := D.tm _ _ hl
   simp only [SV.rel] at hr; subst hr
   exact ⟨_, hs, trivial, by simp [hv, SC.den, SA.den, zft]⟩
  ·rename_i x _ hl
   obtain ⟨v, hv, hr⟩ := D.tm _ _ hl
   simp only [SV.rel] at hr; subst hr
   exact ⟨_, hs, D.tw _ _ hl, by simp [hv, SC.den, zft]⟩
  ·rename_i x hl
   obtain ⟨v, hv, hr⟩ := D.tm _ _ hl
   simp only [SV.rel] at hr; subst hr
   exact ⟨_, hs, D.tw _ _ hl, by simp [hv, SC.den, zft]⟩
  ·exact hs.elim
 | cell p t =>
  simp only [zjj] at hs
  split at hs
  ·rename_i x hl
   obtain ⟨v, hv, hr⟩ := D.tm _ _ hl
   have hp : ∃ ad, v = .pointer (some ad) := by
    unfold zek at hs
    split at hs
    ·simp only [SV.rel, SA.den] at hr; exact ⟨_, hr⟩
    ·exact hs.elim
   obtain ⟨ad, rfl⟩ := hp
   obtain ⟨v', sv, k1, hr3, k3, k4⟩ := zfi (P := P) hΘ hs D.sat hr
   have hld : (loadVar t ad).run P w = .ok v' w := by simpa [Instr.loadAt, Instr.sureAddr] using k1
   cases sv with
   | va x => simp only [SV.rel] at hr3; exact ⟨.va x, k4, k3, by simp [zft, hv, zii, hld, hr3, SC.den]⟩
   | agg l => simp only [SV.rel] at hr3; exact ⟨.agg l, k4, k3, by simp [zft, hv, zii, hld, hr3, SC.den]⟩
   | tup l => exact k4.elim
   | junk => exact k4.elim
  ·exact hs.elim
theorem zhh (hΘ : Θ.Ok P) (D : Den C ρ st a w) : ∀ {rs : List ResultVar} {K : List SC → Prop}, sresL Θ st rs K →
  ∃ l, K l ∧ (∀ c ∈ l, c.below st.nx) ∧ (rs.mapM (fun r => (zft a.tmps r))).run P w = .ok (l.map (SC.den ρ)) w
 | [], K, hs => ⟨[], hs, by simp, rfl⟩
 | r :: rs, K, hs => by
  obtain ⟨c, hc, hb, hrun⟩ := zjv hΘ hs D
  obtain ⟨l, hl, hbl, hrl⟩ := zhh hΘ D hc
  refine ⟨c :: l, hl, ?_, ?_⟩
  ·intro x hx
   rcases List.mem_cons.1 hx with rfl | hx
   ·exact hb
   ·exact hbl x hx
  ·simp only [List.mapM_cons, Sem.run_bind, hrun, hrl, Result.andThen_ok, Sem.run_pure, List.map_cons]
theorem zik (hΘ : Θ.Ok P) {fn : Func} (D : Den C ρ st a w) {K : SV → Prop} (hs : sres Θ st fn.results.toList K) :
  ∃ v sv, (results fn a.tmps).run P w = .ok v w ∧ sv.rel ρ v ∧ sv.below st.nx ∧ K sv := by
 obtain ⟨l, hk, hb, hrun⟩ := zhh hΘ D hs
 have hm : (fn.results.mapM (fun r => (zft a.tmps r))).run P w = .ok (l.map (SC.den ρ)).toArray w := by
  rw [Array.mapM_eq_mapM_toList, Sem.run_map, hrun]; rfl
 have hres : (results fn a.tmps).run P w = .ok (if h : (l.map (SC.den ρ)).toArray.size = 1 then (l.map (SC.den ρ)).toArray[0] else .tuple (l.map (SC.den ρ)).toArray) w := by
  have e : results fn a.tmps = (do
   let vs ← fn.results.mapM (fun r => (zft a.tmps r))
   pure (if h : vs.size = 1 then vs[0] else .tuple vs)) := by
   unfold results
   rfl
  rw [e, Sem.run_bind, hm, Result.andThen_ok, Sem.run_pure]
 match l, hk, hb, hres with
 | [], hk, hb, hres => exact ⟨_, .tup [], hres, rfl, by simp [SV.below], hk⟩
 | [c], hk, hb, hres =>
  refine ⟨_, c.v, hres, ?_, ?_, hk⟩
  ·cases c <;> rfl
  ·have := hb c (by simp); cases c <;> exact this
 | c :: c' :: r, hk, hb, hres =>
  refine ⟨_, .tup (c :: c' :: r), hres, ?_, hb, hk⟩
  simp [SV.rel]
def endQ (Θ : Tys) (rs : List ResultVar) (K : Out → Hp → Nat → Prop) : SE → St → Prop := fun e st =>
 match e with
 | .normal => (match st.d with
  | [] => sres Θ st rs fun v => K (.ret v) st.h st.nx
  | _ :: _ => False)
 | .ret => (match st.d with
  | [] => sres Θ st rs fun v => K (.ret v) st.h st.nx
  | _ :: _ => False)
 | .panic v => (match st.d with
  | [] => K (.panic v) st.h st.nx
  | _ :: _ => False)
 | .exit _ => False
theorem zeg {ρ : Rho} {nx : Nat} : ∀ (args : List SV) (vs : List Value) (n m : Nat) (s : SV), relL ρ args vs → aget (zfe n args) m = some s → ∃ v, n ≤ m ∧ vs[m - n]? = some v ∧ s.rel ρ v ∧ s ∈ args
 | [], vs, n, m, s, _, h => by simp [zfe, aget] at h
 | x :: r, [], n, m, s, h, _ => h.elim
 | x :: r, v :: vr, n, m, s, h, hg => by
  simp only [zfe, aget] at hg
  split at hg
  ·rename_i hb
   have := Nat.eq_of_beq_eq_true hb
   cases hg; subst this
   exact ⟨v, Nat.le_refl _, by simp, h.1, by simp⟩
  ·obtain ⟨u, h1, h2, h3, h4⟩ := zeg (nx := nx) r vr (n + 1) m s h.2 hg
   refine ⟨u, by omega, ?_, h3, by simp [h4]⟩
   have : m - n = (m - (n + 1)) + 1 := by omega
   rw [this]; simpa using h2
theorem zke {ρ : Rho} : ∀ {a : List SV} {b : List Value}, relL ρ a b → a.length = b.length
 | [], [], _ => rfl
 | [], v :: r, h => h.elim
 | s :: r, [], h => h.elim
 | s :: r, v :: vr, h => by simp [zke h.2]
theorem zmu (hΘ : Θ.Ok P) {f : FuncId} {fn : Func} {c : Code} {args : List SV} {h : Hp} {nx : Nat} {K : Out → Hp → Nat → Prop} (hf : P.funcs[f]? = some fn) (hb : fn.body = some c) (hn : (fn.name == "runtime.NumGoroutine") = false)
  (nt : Nat) (rs : List ResultVar) (hnt : fn.ntmps = nt) (hrs : fn.results.toList = rs) (hl : Nat.ble args.length nt = true)
  (hx : WP P c ⟨[zfe 0 args], h, nx, nx, nt, []⟩ (endQ Θ rs K)) : zcb P f args h nx K := by
 unfold zcb
 intro C ρ w vs S hrel hbl
 refine ⟨enters_of hf hb hn, ?_⟩
 unfold WP at hx
 let C1 : Ctx := { C with ρ0 := ρ, n0 := nx }
 have S1 : Sat C1 ρ h nx w := { S with anch := fun _ _ _ => rfl, n0 := Nat.le_refl _, n1 := S.pos }
 have hlen := zke hrel
 have hle := Nat.le_of_ble_eq_true hl
 have D : Den C1 ρ ⟨[zfe 0 args], h, nx, nx, nt, []⟩ { tmps := vs.toArray ++ Array.replicate (fn.ntmps - vs.toArray.size) undef, defers := [] } w := by
  refine { sat := S1, nt := ?_, tm := ?_, tw := ?_, n0 := rfl, df := rfl, dw := by simp }
  ·simp; omega
  ·intro n s hs
   simp only [lget] at hs
   split at hs
   ·rename_i v hv
    cases hs
    obtain ⟨u, _, h2, h3, _⟩ := zeg (nx := nx) args vs 0 n s hrel hv
    simp only [Nat.sub_zero] at h2
    refine ⟨u, ?_, h3⟩
    rw [Array.getElem?_append_left (by simpa using (List.getElem?_eq_some_iff.1 h2).1)]
    simpa using h2
   ·simp at hs
  ·intro n s hs
   simp only [lget] at hs
   split at hs
   ·rename_i v hv
    cases hs
    obtain ⟨u, _, _, _, h4⟩ := zeg (nx := nx) args vs 0 n s hrel hv
    exact hbl s h4
   ·simp at hs
 refine calls_of_wp hf hb (wp_mono (hx C1 ρ _ w D) ?_)
 rintro e a' w' ⟨se, st', ρ', hq, rfl, D'⟩
 have back : Sat C ρ' st'.h st'.nx w' := { D'.sat with
  anch := fun i hi k => by rw [D'.sat.anch i (Nat.lt_of_lt_of_le hi S.n0) k]; exact S.anch i hi k
  n0 := Nat.le_trans S.n0 D'.sat.n0
  n1 := S.n1 }
 have hag : ∀ i, i < nx → ρ' i = ρ i := fun i hi => funext fun k => D'.sat.anch i hi k
 have hle' : nx ≤ st'.nx := D'.sat.n0
 have ret : ∀ (hd : st'.d = []) (hr : sres Θ st' rs fun v => K (.ret v) st'.h st'.nx), a'.defers = [] ∧ ∃ v, (results fn a'.tmps).run P w' = .ok v w' ∧ ∃ out h' nx' ρ', K out h' nx' ∧ out.rel ρ' (.returned v) ∧ Sat C ρ' h' nx' w' ∧ (∀ i, i < nx → ρ' i = ρ i) ∧ nx ≤ nx' ∧ (match out with | .ret s => s.below nx' | .panic _ => True) := by
  intro hd hr
  refine ⟨by rw [D'.df, hd]; rfl, ?_⟩
  rw [← hrs] at hr
  obtain ⟨v, sv, r1, r2, r3, r4⟩ := zik hΘ D' hr
  exact ⟨v, r1, .ret sv, st'.h, st'.nx, ρ', r4, ⟨v, rfl, r2⟩, back, hag, hle', r3⟩
 cases se with
 | normal =>
  simp only [endQ] at hq
  split at hq
  ·rename_i hd; exact ret hd hq
  ·exact hq.elim
 | ret =>
  simp only [endQ] at hq
  split at hq
  ·rename_i hd; exact ret hd hq
  ·exact hq.elim
 | exit id => exact hq.elim
 | panic v =>
  simp only [endQ] at hq
  split at hq
  ·rename_i hd
   exact ⟨by rw [D'.df, hd]; rfl, .panic v, st'.h, st'.nx, ρ', hq, rfl, back, hag, hle', trivial⟩
  ·exact hq.elim
theorem zhy {f : FuncId} {args : List SV} {h : Hp} {nx : Nat} {K K' : Out → Hp → Nat → Prop} (hc : zcb P f args h nx K) (hk : ∀ o h n, K o h n → K' o h n) : zcb P f args h nx K' := by
 unfold zcb at *
 intro C ρ w vs S hr hb
 obtain ⟨hen, hc⟩ := hc C ρ w vs S hr hb
 refine ⟨hen, hc.mono ?_⟩
 rintro e w' ⟨out, h', nx', ρ', k1, k2⟩
 exact ⟨out, h', nx', ρ', hk _ _ _ k1, k2⟩
end
end Sx

namespace Sx
open Go
inductive Tr where
 | leaf (l : List (Nat × TI))
 | node (n : Nat) (l r : Tr)
def Tr.get : Tr → Tys
 | .leaf l, t => aget l t
 | .node n l r, t => match Nat.ble t n with
  | true => l.get t
  | false => r.get t
def okL (P : Program) : List (Nat × TI) → Prop
 | [] => True
 | (t, i) :: r => TI.ok P t i ∧ okL P r
def Tr.Okay (P : Program) : Tr → Prop
 | .leaf l => okL P l
 | .node _ l r => l.Okay P ∧ r.Okay P
theorem zp2 {P : Program} : ∀ {l : List (Nat × TI)}, okL P l → ∀ t i, aget l t = some i → TI.ok P t i
 | [], _, t, i, h => by simp [aget] at h
 | (m, j) :: r, ho, t, i, h => by
  simp only [aget] at h
  split at h
  ·rename_i hb
   have := Nat.eq_of_beq_eq_true hb
   cases h; subst this; exact ho.1
  ·exact zp2 ho.2 t i h
theorem Tr.ok {P : Program} : ∀ (T : Tr), T.Okay P → Tys.Ok P T.get
 | .leaf l, h => fun t i hi => zp2 h t i hi
 | .node n l r, h => fun t i hi => by
  simp only [Tr.get] at hi
  split at hi
  ·exact Tr.ok l h.1 t i hi
  ·exact Tr.ok r h.2 t i hi
def zp8 : SA → Bool
 | .ptr _ => false
 | .slice nil .. => nil
 | .fn _ cap => cap.isEmpty
 | .iter _ _ => false
 | _ => true
theorem za6 {l : List SA} (h : l.all zp8 = true) : ∀ a ∈ l, a.below 0 := by
 intro a ha
 have := List.all_eq_true.1 h a ha
 cases a <;> simp_all [zp8, SA.below]
theorem za7 {i : TI} (h : (aggD i.d || Nat.beq i.size 1) = true) : aggD i.d = false → i.size = 1 := by
 intro hd
 rw [hd] at h
 exact Nat.eq_of_beq_eq_true (by simpa using h)
end Sx
