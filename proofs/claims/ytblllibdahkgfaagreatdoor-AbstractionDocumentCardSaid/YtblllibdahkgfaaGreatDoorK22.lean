import Derived.Test.YtblllibdahkgfaaGreatDoorK21
import Derived.Test.YtblllibdahkgfaaGreatDoorK20
import Derived.Shelf.GgClosure.StringsRunes
import Derived.Shelf.Strings.SlTrimAscii
import Derived.Laws.RangeAny
import Derived.Laws.RangeString
import Derived.Defers
import Derived.Recover

/- The library's contracts, as the walks ask for them. -/
namespace Go.Proofs.YtblllibdahkgfaaGreatDoor
open Go Go.RowKit Sx
theorem maxLen_cell {C : Ctx} {ρ : Rho} {F : Fz} {w : World} {m : Int} (S : Sat C ρ [[(0, .frz F)]] 1 w) (h : F 1 = some (.cells 3 [.int .i64 m])) : w.cell? ⟨1, 0, none⟩ = some (.int .i64 m) := by
  obtain ⟨o, ho, hok⟩ := S.blk 0 (.frz F) rfl 1 (by simp [Ent.has, h])
  rw [S.id0] at ho
  simp only [Ent.at, h, Option.getD_some, SB.ok] at hok
  obtain ⟨fr, _, rfl⟩ := hok
  simp [World.cell?, ho, SA.den]
theorem Fo_mono {P : Program} {F : Fz} {f : FuncId} {args : List SV} {Q Q' : Out → Fz → Prop} (h : Fo P F f args Q) (hq : ∀ o F', Q o F' → Q' o F') : Fo P F f args Q' := by
  unfold Fo at *
  refine CallWP_mono h fun o h n hc => ?_
  unfold Cln at *
  intro C ρ w e hn S hr hb
  obtain ⟨out0, F0, h0, n0, ρ0, ⟨k1, k2, k3, k4, k5⟩, r⟩ := hc C ρ w e hn S hr hb
  exact ⟨out0, F0, h0, n0, ρ0, ⟨k1, k2, k3, k4, hq _ _ k5⟩, r⟩
/-- strings.ToLower. -/
theorem lfun : LFun Lib.toLowerA := by
  intro F s hs h128
  refine Fo_mono (foreign (F := F) (args := [.va (.str s)]) (out := .ret (.va (.str (Lib.toLowerA s)))) (vs := [.string ⟨s.toArray⟩]) (Sx.enters_of Tryz.func94 rfl (by decide)) rfl (by
      rintro ρ vs' h
      match vs', h with
      | [v], h => rw [h.1]; rfl) (.returned (.string ⟨(Lib.toLowerA s).toArray⟩)) (fun ρ => ⟨_, rfl, rfl⟩) (fun C ρ w _ => by
      have h := Tryz.strings_ToLower_ascii ⟨s.toArray⟩ w (by show s.toArray.size ≤ _; simp; omega) (fun j b hb => h128 b (by
        have hb : s[j]? = some b := by simpa using hb
        exact List.mem_of_getElem? hb))
      simpa using h)) fun o F' h => ⟨h.2.symm, h.1⟩
theorem pre2 (a b : UInt8) (r : List UInt8) : List.isPrefixOf [32, 32] (a :: b :: r) = (a == 32 && b == 32) := by
  simp [List.isPrefixOf, Bool.beq_comm (a := (32 : UInt8))]
theorem index_hasD : ∀ s : List UInt8, decide (0 ≤ Lib.index s [32, 32]) = hasD s
  | [] => by simp [Lib.index, hasD]
  | [a] => by
    simp [Lib.index, hasD, List.isPrefixOf]
  | a :: b :: r => by
    have ih := index_hasD (b :: r)
    have hge := Lib.index_ge (b :: r) [32, 32]
    rw [Lib.index, pre2, hasD]
    by_cases hc : (a == 32 && b == 32) = true
    · rw [hc]; simp
    · rw [Bool.eq_false_iff.2 hc, Bool.false_or, ← ih]
      by_cases hm : Lib.index (b :: r) [32, 32] = -1
      · rw [hm]; simp
      · have : ¬ (Lib.index (b :: r) [32, 32] == -1) = true := by simpa using hm
        simp only [Bool.false_eq_true, if_false, if_neg this]
        exact decide_eq_decide.2 (by omega)
theorem contains_hasD (s : List UInt8) : Lib.contains s [32, 32] = hasD s := index_hasD s
theorem dfun : DFun := by
  intro F s ⟨m, hm⟩ hs
  refine Fo_mono (foreign (F := F) (args := [.va (.str s), .va (.str [32, 32])]) (out := .ret (.va (.bool (hasD s)))) (vs := [.string ⟨s.toArray⟩, .string ⟨#[32, 32]⟩]) (Sx.enters_of Tryz.func95 rfl (by decide)) rfl (by
      rintro ρ vs' h
      match vs', h with
      | [v, u], h => rw [h.1, h.2.1]; rfl) (.returned (.bool (hasD s))) (fun ρ => ⟨_, rfl, rfl⟩) (fun C ρ w S => by
      have h := Tryz.strings_Contains ⟨s.toArray⟩ ⟨#[32, 32]⟩ m w (by show s.toArray.size < _; simp; omega) (maxLen_cell S hm)
      refine h.mono fun e w' ⟨h1, h2⟩ => ⟨?_, h2 ▸ Below.refl _ _⟩
      rw [h1, ← contains_hasD])) fun o F' h => ⟨h.2.symm, h.1⟩
theorem repD_id : ∀ {s : List UInt8}, Lib.index s [32, 32] = -1 → repD s = s
  | [], _ => rfl
  | [a], _ => rfl
  | a :: b :: r, h => by
    have hd := index_hasD (a :: b :: r)
    rw [h, hasD] at hd
    have hd' := hd.symm
    rw [show decide ((0 : Int) ≤ -1) = false from rfl, Bool.or_eq_false_iff] at hd'
    have hge := Lib.index_ge (b :: r) [32, 32]
    have h2 : Lib.index (b :: r) [32, 32] = -1 := by
      have := index_hasD (b :: r)
      rw [hd'.2] at this
      have := of_decide_eq_false this
      omega
    rw [repD, if_neg (by rw [hd'.1]; simp), repD_id h2]
theorem repD_at : ∀ {s : List UInt8} {i : Nat}, Lib.index s [32, 32] = i → repD s = s.take i ++ [32] ++ repD (s.drop (i + 2))
  | [], i, h => by simp [Lib.index] at h
  | [a], i, h => by simp [Lib.index, List.isPrefixOf] at h
  | a :: b :: r, i, h => by
    rw [Lib.index, pre2] at h
    rw [repD]
    by_cases hc : (a == 32 && b == 32) = true
    · rw [hc] at h
      simp only [if_true] at h
      have : i = 0 := by omega
      subst this
      rw [if_pos hc]; rfl
    · rw [Bool.eq_false_iff.2 hc] at h
      simp only [Bool.false_eq_true, if_false] at h
      have hge := Lib.index_ge (b :: r) [32, 32]
      by_cases hm : Lib.index (b :: r) [32, 32] = -1
      · rw [hm] at h; simp at h
      · have hm' : ¬ (Lib.index (b :: r) [32, 32] == -1) = true := by simpa using hm
        rw [if_neg hm'] at h
        obtain ⟨j, rfl⟩ : ∃ j, i = j + 1 := ⟨i - 1, by omega⟩
        rw [if_neg hc, repD_at (s := b :: r) (i := j) (by omega)]
        rfl
theorem countFrom_mono : ∀ (f : Nat) (s : List UInt8), s.length ≤ f → Lib.countFrom [32, 32] f s = Lib.countFrom [32, 32] s.length s
  | 0, s, h => by rw [List.eq_nil_of_length_eq_zero (by omega : s.length = 0)]; rfl
  | f + 1, s, h => by
    have hge := Lib.index_ge s [32, 32]
    rw [Lib.countFrom]
    by_cases hm : (Lib.index s [32, 32] == -1) = true
    · rw [if_pos hm]
      cases hl : s.length with
      | zero => rfl
      | succ n => rw [Lib.countFrom, if_pos hm]
    · rw [if_neg hm]
      have hroom := Lib.index_room s [32, 32] (by have : ¬ Lib.index s [32, 32] = -1 := by simpa using hm
                                                  omega)
      simp only [List.length_cons, List.length_nil] at hroom
      obtain ⟨n, hn⟩ : ∃ n, s.length = n + 1 := ⟨s.length - 1, by omega⟩
      rw [hn, Lib.countFrom, if_neg hm, countFrom_mono f _ (by rw [List.length_drop]; simp only [List.length_cons, List.length_nil]; omega),
        countFrom_mono n _ (by rw [List.length_drop]; simp only [List.length_cons, List.length_nil]; omega)]
theorem replace_repD : ∀ (n : Nat) (s : List UInt8) (k : Nat), s.length ≤ n → Lib.countFrom [32, 32] s.length s ≤ k → Lib.replaceK [32, 32] [32] k s = repD s
  | n, s, k, hn, hk => by
    have hge := Lib.index_ge s [32, 32]
    by_cases hm : Lib.index s [32, 32] = -1
    · rw [repD_id hm]
      cases k with
      | zero => rfl
      | succ k => rw [Lib.replaceK, if_pos (by simpa using hm)]
    · have hroom := Lib.index_room s [32, 32] (by omega)
      simp only [List.length_cons, List.length_nil] at hroom
      obtain ⟨l, hl⟩ : ∃ l, s.length = l + 1 := ⟨s.length - 1, by omega⟩
      have hm' : ¬ (Lib.index s [32, 32] == -1) = true := by simpa using hm
      obtain ⟨i, hi⟩ : ∃ i : Nat, Lib.index s [32, 32] = i := ⟨(Lib.index s [32, 32]).toNat, by omega⟩
      rw [hl, Lib.countFrom, if_neg hm'] at hk
      cases k with
      | zero => omega
      | succ k =>
        cases n with
        | zero => omega
        | succ n =>
          rw [Lib.replaceK, if_neg hm', repD_at hi, hi]
          simp only [List.length_cons, List.length_nil, Nat.reduceAdd, Int.toNat_natCast]
          rw [hi] at hk
          simp only [List.length_cons, List.length_nil, Nat.reduceAdd, Int.toNat_natCast] at hk
          rw [replace_repD n (s.drop (i + 2)) k (by rw [List.length_drop]; omega) (by
            rw [countFrom_mono l _ (by rw [List.length_drop]; omega)] at hk; omega)]
theorem replaceAll_repD (s : List UInt8) : Lib.replaceAll s [32, 32] [32] = repD s := by
  unfold Lib.replaceAll Lib.replace
  rw [if_neg (by decide)]
  refine replace_repD s.length s _ (Nat.le_refl _) ?_
  rw [Lib.replaceNum, if_pos (.inl (by decide)), Lib.count, countFrom_mono (s.length + 1) s (by omega)]
  exact Nat.le_refl _
theorem afun : AFun := by
  intro F s ⟨m, hm⟩ hs
  refine Fo_mono (foreign (F := F) (args := [.va (.str s), .va (.str [32, 32]), .va (.str [32])]) (out := .ret (.va (.str (repD s)))) (vs := [.string ⟨s.toArray⟩, .string ⟨#[32, 32]⟩, .string ⟨#[32]⟩]) (Sx.enters_of Tryz.func96 rfl (by decide)) rfl (by
      rintro ρ vs' h
      match vs', h with
      | [v, u, t], h => rw [h.1, h.2.1, h.2.2.1]; rfl) (.returned (.string ⟨(repD s).toArray⟩)) (fun ρ => ⟨_, rfl, rfl⟩) (fun C ρ w S => by
      have h := Tryz.strings_ReplaceAll ⟨s.toArray⟩ ⟨#[32, 32]⟩ ⟨#[32]⟩ m w (by show s.toArray.size < _; simp; omega) (maxLen_cell S hm) (by decide) (by
        have hcb := Lib.countB_mul_le ⟨#[32, 32]⟩ (by decide) _ ⟨s.toArray⟩ (Nat.le_refl _)
        have e1 : (⟨#[32, 32]⟩ : ByteArray).size = 2 := rfl
        have e2 : (⟨#[32]⟩ : ByteArray).size = 1 := rfl
        have e3 : (⟨s.toArray⟩ : ByteArray).size = s.length := by show s.toArray.size = _; simp
        rw [e1, e3] at hcb
        rw [e2, e3]
        omega)
      refine h.mono fun e w' ⟨h1, h2⟩ => ⟨?_, h2⟩
      rw [h1, ← replaceAll_repD])) fun o F' h => ⟨h.2.symm, h.1⟩
/-- strings.Repeat of a nought. -/
theorem repeat_rep : ∀ n : Nat, Lib.repeatL [48] n = List.replicate n 48
  | 0 => rfl
  | n + 1 => by rw [Lib.repeatL, repeat_rep n, List.replicate_succ]; rfl
theorem nfun : NFun := by
  intro F n hn
  refine Fo_mono (foreign (F := F) (args := [.va (.str [48]), .va (.int .i64 n)]) (out := .ret (.va (.str (List.replicate n 48)))) (vs := [.string ⟨#[48]⟩, .int .i64 n]) (Sx.enters_of Tryz.func97 rfl (by decide)) rfl (by
      rintro ρ vs' h
      match vs', h with
      | [v, u], h => rw [h.1, h.2.1]; rfl) (.returned (.string ⟨(List.replicate n 48).toArray⟩)) (fun ρ => ⟨_, rfl, rfl⟩) (fun C ρ w S => by
      have h := Tryz.strings_Repeat ⟨#[48]⟩ n w (by omega) (by show 1 * n ≤ _; omega)
      refine h.mono fun e w' ⟨h1, h2⟩ => ⟨?_, h2⟩
      rw [h1, ← repeat_rep])) fun o F' h => ⟨h.2.symm, h.1⟩
/-- strings.Trim. -/
theorem trim_nil (s : List UInt8) : Lib.trimS s [48, 49] = [] ↔ s.all (fun b => b == 48 || b == 49) = true := by
  have hc : ∀ b : UInt8, [48, 49].contains b = (b == 48 || b == 49) := fun b => by
    simp [List.contains, List.elem]
    cases h1 : (b == 48) <;> cases h2 : (b == 49) <;> rfl
  have dw : ∀ l : List UInt8, l.dropWhile ([48, 49].contains ·) = [] ↔ l.all (fun b => b == 48 || b == 49) = true := by
    intro l
    induction l with
    | nil => simp
    | cons a r ih =>
      rw [List.dropWhile_cons, List.all_cons, hc]
      cases h : (a == 48 || a == 49) with
      | true => simpa using ih
      | false => simp
  unfold Lib.trimS Lib.trimLeftS Lib.trimRightS
  rw [dw, List.all_reverse]
  constructor
  · intro h
    have h1 : s.reverse.all (fun b => b == 48 || b == 49) = true := by
      rw [← List.takeWhile_append_dropWhile (p := ([48, 49].contains ·)) (l := s.reverse), List.all_append, h, Bool.and_true]
      refine List.all_eq_true.2 fun b hb => ?_
      have h2 := List.all_eq_true.1 (List.all_takeWhile (p := ([48, 49].contains ·)) (l := s.reverse)) b hb
      rw [← hc]; exact h2
    rwa [List.all_reverse] at h1
  · intro h
    rw [(dw s.reverse).2 (by rw [List.all_reverse]; exact h)]; rfl
theorem tfun : TFun := by
  intro F s hs
  refine Fo_mono (foreign (F := F) (args := [.va (.str s), .va (.str [48, 49])]) (out := .ret (.va (.str (Lib.trimS s [48, 49])))) (vs := [.string ⟨s.toArray⟩, .string ⟨#[48, 49]⟩]) (Sx.enters_of Tryz.func77 rfl (by decide)) rfl (by
      rintro ρ vs' h
      match vs', h with
      | [v, u], h => rw [h.1, h.2.1]; rfl) (.returned (.string ⟨(Lib.trimS s [48, 49]).toArray⟩)) (fun ρ => ⟨_, rfl, rfl⟩) (fun C ρ w S => by
      have h := Any.strings_Trim_laid Tryz.lays160 (by kernel_rfl) ⟨s.toArray⟩ ⟨#[48, 49]⟩ w (by show s.toArray.size ≤ _; simp; omega) (by decide) (ascii_of_all (by decide))
      refine h.mono fun e w' ⟨h1, h2⟩ => ⟨?_, h2⟩
      rw [h1])) fun o F' h => ⟨h.2.symm, _, h.1, trim_nil s⟩
/-- strings.ContainsFunc. -/
def badR (r : Nat) : Bool := !(decide (32 ≤ r) && decide (r ≤ 126))
theorem pred108 (w : World) : PredAtRunes Tryz.prog 108 #[] badR w := by
  intro W x hx hb
  unfold FnGives
  have e : IntKind.i64.wrap (x : Int) = x := by rw [IntKind.wrap_i64]; omega
  go_enter Tryz.func108, Tryz.ntmps108
  by_cases h1 : 32 ≤ x
  · by_cases h2 : x ≤ 126
    · go_wp2
      all_goals go_ret
      all_goals refine ⟨?_, 0, rfl⟩
      all_goals (simp [badR, h1, h2]; try omega)
    · go_wp2
      all_goals go_ret
      all_goals refine ⟨?_, 0, rfl⟩
      all_goals (simp [badR, h1, h2]; try omega)
  · go_wp2
    all_goals go_ret
    all_goals refine ⟨?_, 0, rfl⟩
    all_goals (simp [badR, h1]; try omega)
theorem idx_bad (s : List UInt8) : ∀ (f pos : Nat), s.length ≤ pos + f → decide (0 ≤ Lib.idxFuncFrom badR true ⟨s.toArray⟩ f pos) = (s.drop pos).any badC
  | 0, pos, h => by rw [List.drop_eq_nil_of_le (by omega)]; rfl
  | f + 1, pos, h => by
    have hsz : (⟨s.toArray⟩ : ByteArray).size = s.length := by show s.toArray.size = _; simp
    rw [Lib.idxFuncFrom, hsz]
    by_cases hp : pos < s.length
    · rw [if_pos hp, List.drop_eq_getElem_cons hp, List.any_cons]
      have hge : ((⟨s.toArray⟩ : ByteArray)[pos]'(by rw [hsz]; exact hp)) = s[pos] := by simp [ByteArray.getElem_eq_getElem_data]
      by_cases ha : (s[pos]).toNat < 128
      · rw [decode_ascii ⟨s.toArray⟩ pos (by rw [hsz]; exact hp) (by rw [hge]; exact ha), hge]
        have e : badR (s[pos]).toNat = badC s[pos] := rfl
        cases hbc : badC s[pos] with
        | true => rw [if_pos (by rw [e, hbc])]; simp
        | false => rw [if_neg (by rw [e, hbc]; simp), Bool.false_or]; exact idx_bad s f (pos + 1) (by omega)
      · have hd := decode_high ⟨s.toArray⟩ pos (by rw [hsz]; exact hp) (by rw [hge]; omega)
        have hb1 : badR (Utf8.decode ⟨s.toArray⟩ pos).1 = true := by
          unfold badR; have : ¬ (Utf8.decode ⟨s.toArray⟩ pos).1 ≤ 126 := by omega
          simp [this]
        have hb2 : badC s[pos] = true := by
          unfold badC; have : ¬ (s[pos]).toNat ≤ 126 := by omega
          simp [this]
        rw [if_pos hb1, hb2]; simp
    · rw [if_neg hp, List.drop_eq_nil_of_le (by omega)]; rfl
theorem cfun : CFun := by
  intro F s hs
  refine Fo_mono (foreign (F := F) (args := [.va (.str s), .va (.fn (.func 108) [])]) (out := .ret (.va (.bool (s.any badC)))) (vs := [.string ⟨s.toArray⟩, .func (.func 108) #[] #[]]) (Sx.enters_of Tryz.func107 rfl (by decide)) rfl (by
      rintro ρ vs' h
      match vs', h with
      | [v, u], h => rw [h.1, h.2.1]; rfl) (.returned (.bool (s.any badC))) (fun ρ => ⟨_, rfl, rfl⟩) (fun C ρ w S => by
      have h := Any.strings_ContainsFunc_runes Tryz.laysGw17 108 #[] (enters_of Tryz.func108 (by kernel_rfl) rfl) badR ⟨s.toArray⟩ w (pred108 w)
      refine h.mono fun e w' ⟨h1, h2⟩ => ⟨?_, h2⟩
      rw [h1, Lib.idxFunc, idx_bad s _ 0 (by show s.length ≤ 0 + s.toArray.size; simp), List.drop_zero])) fun o F' h => ⟨h.1, h.2⟩
end Go.Proofs.YtblllibdahkgfaaGreatDoor

/- The deferred call of caught, of Apply. -/
namespace Go.Proofs.YtblllibdahkgfaaGreatDoor
open Go Go.RowKit Sx
theorem caught_idle (p q : Addr) (w : World) :
    CallsD Tryz.prog 50 #[.pointer (some p), .pointer (some q)] .returning w fun e u' w' => e = .returned (.tuple #[]) ∧ u' = .returning ∧ w' = w := by
  refine callsD_of_wpS Tryz.func50 rfl fun c₀ cs hu => ?_
  simp only [Tryz.ntmps50, List.size_toArray, List.length_cons, List.length_nil, Nat.reduceAdd, Nat.reduceSub, Array.replicate_succ, Array.replicate_zero, List.push_toArray, List.append_toArray, List.nil_append, List.cons_append]
  apply wpS_seq
  apply wpS_region
  simp [wpOpsS, go_sem, recoverD, hu, Exit.thenS]
  refine wpS_of_wp ?_
  go_wp2
  refine ⟨rfl, .returning, by cases c₀; simp_all, _, results_none rfl _ _ _, rfl, rfl, rfl⟩
theorem as29 (v : Value) (w : World) : (Instr.typeAssert (.iface 29 v) 20 29 true).run Tryz.prog w = .ok (.tuple #[v, .bool true]) w := by kernel_rfl
set_option maxRecDepth 100000 in
theorem caught_err (p q : Addr) (n : Int) (w : World) (u v : Value) (hp : w.cell? p = some u) (fp : w.frozen? p = false) (hq : (w.setCell p (.string ⟨#[]⟩)).cell? q = some v) (fq : (w.setCell p (.string ⟨#[]⟩)).frozen? q = false) :
    CallsD Tryz.prog 50 #[.pointer (some p), .pointer (some q)] (.panicking [{ v := .iface 29 (.int .i64 n), recovered := false }]) w fun e u' w' => e = .returned (.tuple #[]) ∧ settle u' = .returning ∧ w' = (w.setCell p (.string ⟨#[]⟩)).setCell q (.int .i64 n) := by
  refine callsD_of_wpS Tryz.func50 rfl fun c₀ cs hu => ?_
  simp only [Tryz.ntmps50, List.size_toArray, List.length_cons, List.length_nil, Nat.reduceAdd, Nat.reduceSub, Array.replicate_succ, Array.replicate_zero, List.push_toArray, List.append_toArray, List.nil_append, List.cons_append]
  apply wpS_seq
  apply wpS_region
  simp [wpOpsS, go_sem, recoverD, hu, Exit.thenS]
  refine wpS_of_wp ?_
  have has := as29 (.int .i64 n) w
  rw [World.frozen?_setCell] at fq
  go_wp2
  exact ⟨rfl, _, rfl, _, results_none rfl _ _ _, rfl, by simp [settle], rfl⟩
theorem one_cell {C : Ctx} {ρ : Rho} {h : Hp} {nx : Nat} {w : World} {i t : Nat} {a : SA} (S : Sat C ρ h nx w) (hi : lget h i = some (.one (.cells t [a]))) : w.cell? ⟨ρ i 0, 0, none⟩ = some (a.den ρ) ∧ w.frozen? ⟨ρ i 0, 0, none⟩ = false := by
  obtain ⟨o, ho, hok⟩ := S.blk i _ hi 0 rfl
  have hr : RowAt w (ρ i 0) t [a.den ρ] := ⟨o, ho, hok⟩
  exact ⟨by rw [hr.cell 0]; rfl, hr.free 0 (by simp)⟩
theorem caught_def0 {h : Hp} {nx : Nat} {K : Hp → Nat → Prop} (i j : Nat) (hk : K h nx) : DefWP Tryz.prog 50 [.ptr ⟨i, 0, 0, 0, 0⟩, .ptr ⟨j, 0, 0, 0, 0⟩] h nx none K := by
  unfold DefWP
  intro C ρ w S hb
  refine ⟨Sx.enters_of Tryz.func50 rfl (by decide), ?_⟩
  refine (caught_idle ⟨ρ i 0, 0 * 0 + 0, none⟩ ⟨ρ j 0, 0 * 0 + 0, none⟩ w).mono ?_
  rintro e u' w' ⟨rfl, rfl, rfl⟩
  exact ⟨_, h, nx, ρ, rfl, rfl, hk, S, fun _ _ => rfl, Nat.le_refl _⟩
theorem caught_def1 {h : Hp} {nx : Nat} {K : Hp → Nat → Prop} (i j : Nat) (s0 : List UInt8) (e0 : Int) (hi : lget h i = some (.one (.cells 9 [.str s0]))) (hj : lget h j = some (.one (.cells 29 [.int .i64 e0]))) (hij : ¬ i = j)
    (hs : s_store Θ 9 (.va (.ptr ⟨i, 0, 0, 0, 0⟩)) (.va (.str [])) h nx fun _ h1 _ => s_store Θ 29 (.va (.ptr ⟨j, 0, 0, 0, 0⟩)) (.va (.int .i64 70)) h1 nx fun _ h2 _ => K h2 nx) :
    DefWP Tryz.prog 50 [.ptr ⟨i, 0, 0, 0, 0⟩, .ptr ⟨j, 0, 0, 0, 0⟩] h nx (some perr) K := by
  unfold DefWP
  intro C ρ w S hb
  refine ⟨Sx.enters_of Tryz.func50 rfl (by decide), ?_⟩
  obtain ⟨p1, p2⟩ := one_cell S hi
  obtain ⟨q1, q2⟩ := one_cell S hj
  have hne : ρ i 0 ≠ ρ j 0 := fun e => hij (S.inj i 0 j 0 ⟨_, hi, rfl⟩ ⟨_, hj, rfl⟩ e).1
  have q3 : (w.setCell ⟨ρ i 0, 0, none⟩ (.string ⟨#[]⟩)).cell? ⟨ρ j 0, 0, none⟩ = some (.int .i64 e0) := by
    rw [World.cell?_setCell_other _ _ _ _ (by simp [hne])]; exact q1
  have q4 : (w.setCell ⟨ρ i 0, 0, none⟩ (.string ⟨#[]⟩)).frozen? ⟨ρ j 0, 0, none⟩ = false := by
    rw [World.frozen?_setCell]; exact q2
  obtain ⟨w1, h1, r1, k1, S1⟩ := s_store_ok hΘ hs S (v := .pointer (some ⟨ρ i 0, 0 * 0 + 0, none⟩)) (u := .string ⟨#[]⟩) rfl rfl trivial
  obtain ⟨w2, h2, r2, k2, S2⟩ := s_store_ok hΘ k1 S1 (v := .pointer (some ⟨ρ j 0, 0 * 0 + 0, none⟩)) (u := .int .i64 70) rfl rfl trivial
  have e1 : (Instr.storeAt 9 (.pointer (some ⟨ρ i 0, 0, none⟩)) (.string ⟨#[]⟩)).run Tryz.prog w = .ok () (w.setCell ⟨ρ i 0, 0, none⟩ (.string ⟨#[]⟩)) := by
    simp [go_sem, p1, p2]
  have e2 : (Instr.storeAt 29 (.pointer (some ⟨ρ j 0, 0, none⟩)) (.int .i64 70)).run Tryz.prog (w.setCell ⟨ρ i 0, 0, none⟩ (.string ⟨#[]⟩)) = .ok () ((w.setCell ⟨ρ i 0, 0, none⟩ (.string ⟨#[]⟩)).setCell ⟨ρ j 0, 0, none⟩ (.int .i64 70)) := by
    simp [go_sem, q2, q3]
  have w1e : w.setCell ⟨ρ i 0, 0, none⟩ (.string ⟨#[]⟩) = w1 := by have := e1.symm.trans r1; cases this; rfl
  rw [w1e] at e2
  have w2e : w1.setCell ⟨ρ j 0, 0, none⟩ (.int .i64 70) = w2 := by have := e2.symm.trans r2; cases this; rfl
  refine (caught_err ⟨ρ i 0, 0 * 0 + 0, none⟩ ⟨ρ j 0, 0 * 0 + 0, none⟩ 70 w _ _ p1 p2 q3 q4).mono ?_
  rintro e u' w' ⟨rfl, hu, rfl⟩
  refine ⟨_, h2, nx, ρ, rfl, hu, k2, ?_, fun _ _ => rfl, Nat.le_refl _⟩
  show Sat C ρ h2 nx ((w.setCell ⟨ρ i 0, 0, none⟩ (.string ⟨#[]⟩)).setCell ⟨ρ j 0, 0, none⟩ (.int .i64 70))
  rw [w1e, w2e]; exact S2
end Go.Proofs.YtblllibdahkgfaaGreatDoor

namespace Go.Proofs.YtblllibdahkgfaaGreatDoor
open Go Sx
def numsOk (p : Int) : List Int → List Int → Prop
  | _, [] => True
  | acc, x :: r => ((bnd p acc).1 ≤ x ∧ x ≤ (bnd p acc).2) ∧ numsOk p (acc ++ [x]) r
def lnOk (p : Int) (before : List Ln) (x : Ln) : Prop :=
  if p = 1 then x.2 = [] ∧ x.1.length ≤ 80 ∧ x.1.any badC = false
  else x.1 = [] ∧ x.2.length = cols p ∧ numsOk p [] x.2 ∧ (p ≠ 2 → ∀ y, before.getLast? = some y → cmpL (y.2.take 2) (x.2.take 2) < 0)
def lnsOk (p : Int) : List Ln → List Ln → Prop
  | _, [] => True
  | acc, x :: r => lnOk p acc x ∧ lnsOk p (acc ++ [x]) r
/-- The values of a property. -/
def VOK (p : Int) (v : Val) : Prop :=
  v = loseV ∨ (v.lost = false ∧
    if p = 8 then v.lines = [] ∧ v.bits = [] ∧ (0 ≤ v.w ∧ v.w ≤ 64) ∧ (0 ≤ v.h ∧ v.h ≤ 64)
    else if 6 ≤ p then v.lines = [] ∧ (0 ≤ v.w ∧ v.w ≤ 32) ∧ (min v.w 1 ≤ v.h ∧ v.h ≤ min v.w 1 * 32) ∧ (if p = 7 then (v.bits.length : Int) = v.w * v.h ∧ v.bits.all (fun b => b == 48 || b == 49) = true else v.bits = [])
    else v.w = 0 ∧ v.h = 0 ∧ v.bits = [] ∧ v.lines.length ≤ 64 ∧ lnsOk p [] v.lines)
theorem numOkR_iff {s : List UInt8} {q lo hi : Int} : numOkR s q lo hi = true ↔ (getI s q).2.2 = 0 ∧ lo ≤ (getI s q).1 ∧ (getI s q).1 ≤ hi := by
  unfold numOkR; simp
theorem numsS_okV {s : List UInt8} {p : Int} : ∀ (f : Nat) (acc : List Int) (q : Int) (n : List Int) (q' : Int), numsS s p f acc q = some (n, q') → ∃ m, n = acc ++ m ∧ m.length = f ∧ numsOk p acc m
  | 0, acc, q, n, q', h => by
    simp only [numsS, Option.some.injEq, Prod.mk.injEq] at h
    exact ⟨[], by simp [h.1], rfl, trivial⟩
  | f + 1, acc, q, n, q', h => by
    rw [numsS] at h
    split at h
    · rename_i hn
      obtain ⟨m, h1, h2, h3⟩ := numsS_okV f _ _ _ _ h
      exact ⟨(getI s q).1 :: m, by rw [h1]; simp, by rw [List.length_cons, h2], (numOkR_iff.1 hn).2, h3⟩
    · cases h
theorem lineS_okV {s : List UInt8} {p : Int} {acc : List Ln} {q q' : Int} {x : Ln} (h : lineS s p acc q = some (x, q')) : lnOk p acc x := by
  unfold lineS at h
  unfold lnOk
  split at h
  · rename_i hp
    rw [if_pos hp]
    split at h
    · rename_i hc
      simp only [Option.some.injEq, Prod.mk.injEq] at h
      obtain ⟨rfl, _⟩ := h
      exact ⟨rfl, hc.2.1, hc.2.2⟩
    · cases h
  · rename_i hp
    rw [if_neg hp]
    split at h
    · cases h
    · rename_i n q2 hn
      obtain ⟨m, h1, h2, h3⟩ := numsS_okV _ _ _ _ _ hn
      rw [List.nil_append] at h1
      subst h1
      split at h
      · rename_i hp2
        simp only [Option.some.injEq, Prod.mk.injEq] at h
        obtain ⟨rfl, _⟩ := h
        exact ⟨rfl, h2, h3, fun hc => absurd hp2 hc⟩
      · split at h
        · rename_i hl
          simp only [Option.some.injEq, Prod.mk.injEq] at h
          obtain ⟨rfl, _⟩ := h
          exact ⟨rfl, h2, h3, fun _ y hy => by rw [hl] at hy; cases hy⟩
        · rename_i x hl
          split at h
          · rename_i hc
            simp only [Option.some.injEq, Prod.mk.injEq] at h
            obtain ⟨rfl, _⟩ := h
            exact ⟨rfl, h2, h3, fun _ y hy => by rw [hl] at hy; cases hy; exact hc⟩
          · cases h
theorem linesS_okV {s : List UInt8} {p : Int} : ∀ (f : Nat) (acc : List Ln) (q : Int) (l : List Ln) (q' : Int), linesS s p f acc q = some (l, q') → ∃ m, l = acc ++ m ∧ m.length = f ∧ lnsOk p acc m
  | 0, acc, q, n, q', h => by
    simp only [linesS, Option.some.injEq, Prod.mk.injEq] at h
    exact ⟨[], by simp [h.1], rfl, trivial⟩
  | f + 1, acc, q, n, q', h => by
    rw [linesS] at h
    split at h
    · cases h
    · rename_i x q2 hx
      obtain ⟨m, h1, h2, h3⟩ := linesS_okV f _ _ _ _ h
      exact ⟨x :: m, by rw [h1]; simp, by rw [List.length_cons, h2], lineS_okV hx, h3⟩
/-- What is read is a value. -/
theorem readS_ok {p : Int} {s : List UInt8} {v : Val} (h : readS p s = some v) : (1 ≤ p ∧ p ≤ 8) ∧ VOK p v := by
  unfold readS at h
  split at h
  · cases h
  rename_i hp
  have hp : 1 ≤ p ∧ p ≤ 8 := by simpa using hp
  refine ⟨hp, ?_⟩
  split at h
  · cases h; exact .inl rfl
  right
  split at h
  · rename_i h8
    split at h
    · rename_i hc
      cases h
      refine ⟨rfl, ?_⟩
      rw [if_pos h8]
      exact ⟨rfl, rfl, (numOkR_iff.1 hc.1).2, (numOkR_iff.1 hc.2.1).2⟩
    · cases h
  rename_i h8
  split at h
  · rename_i h6
    dsimp only at h
    split at h
    · rename_i hc
      split at h
      · rename_i h7
        split at h
        · rename_i hb
          cases h
          refine ⟨rfl, ?_⟩
          rw [if_neg h8, if_pos h6]
          refine ⟨rfl, (numOkR_iff.1 hc.1).2, (numOkR_iff.1 hc.2).2, ?_⟩
          rw [if_pos h7]
          exact ⟨hb.2.1, hb.2.2.1⟩
        · cases h
      · rename_i h7
        split at h
        · cases h
          refine ⟨rfl, ?_⟩
          rw [if_neg h8, if_pos h6]
          refine ⟨rfl, (numOkR_iff.1 hc.1).2, (numOkR_iff.1 hc.2).2, ?_⟩
          rw [if_neg h7]
        · cases h
    · cases h
  · rename_i h6
    split at h
    · rename_i hc
      split at h
      · cases h
      · rename_i l q hl
        split at h
        · cases h
          refine ⟨rfl, ?_⟩
          rw [if_neg h8, if_neg h6]
          obtain ⟨m, h1, h2, h3⟩ := linesS_okV _ _ _ _ _ hl
          rw [List.nil_append] at h1
          subst h1
          have hr := (numOkR_iff.1 hc).2
          exact ⟨rfl, rfl, rfl, by rw [h2]; omega, h3⟩
        · cases h
    · cases h
end Go.Proofs.YtblllibdahkgfaaGreatDoor

namespace Go.Proofs.YtblllibdahkgfaaGreatDoor
open Go Sx
set_option maxRecDepth 100000
theorem stepOk_cases {p k n : Int} (hp : 1 ≤ p ∧ p ≤ 8) (h : stepOk p (k, n) = true) :
    (k = 1 ∧ p = 1 ∧ n = 0) ∨ (k = 2 ∧ p = 1 ∧ n = 0) ∨ (k = 3 ∧ (p = 3 ∨ p = 5) ∧ (n = 10 ∨ n = 100 ∨ n = 1000)) ∨ (k = 4 ∧ p = 2 ∧ (0 ≤ n ∧ n ≤ 6)) ∨ (k = 5 ∧ (p = 6 ∨ p = 7) ∧ n = 0) ∨ (k = 6 ∧ n = 0) := by
  have hk : 1 ≤ k ∧ k ≤ 6 := by
    unfold stepOk at h
    simp only [Bool.and_eq_true, decide_eq_true_eq] at h
    exact h.1
  have hkc : k = 1 ∨ k = 2 ∨ k = 3 ∨ k = 4 ∨ k = 5 ∨ k = 6 := by omega
  have hpc : p = 1 ∨ p = 2 ∨ p = 3 ∨ p = 4 ∨ p = 5 ∨ p = 6 ∨ p = 7 ∨ p = 8 := by omega
  rcases hkc with rfl | rfl | rfl | rfl | rfl | rfl <;> rcases hpc with rfl | rfl | rfl | rfl | rfl | rfl | rfl | rfl <;> simp [stepOk, props, numOk, idx] at h ⊢ <;> omega
def foldL (x : Ln) : Ln := (Lib.toLowerA x.1, x.2)
def spaceL (x : Ln) : Ln := (spS x.1.length x.1, x.2)
def roundL (n : Int) (x : Ln) : Ln := (x.1, rndN n x.2)
def limL (n : Int) (x : Ln) : Ln := (x.1, limN n x.2)
def halV (v : Val) : Val := ⟨false, [], (v.w + 1) / 2, (v.h + 1) / 2, if v.bits = [] then [] else halB v.w.toNat 0 v.bits (List.replicate ((v.w.toNat + 1) / 2 * ((v.h.toNat + 1) / 2)) 48)⟩
/-- What a step makes of a value. -/
def stepS (s : Stp) (v : Val) : Val :=
  if s.1 = 1 then { v with lines := v.lines.map foldL } else if s.1 = 2 then { v with lines := v.lines.map spaceL } else if s.1 = 3 then { v with lines := v.lines.map (roundL s.2) }
  else if s.1 = 4 then { v with lines := v.lines.map (limL s.2) } else if s.1 = 5 then halV v else loseV
theorem lnsOk_mem {p : Int} : ∀ {acc l : List Ln}, lnsOk p acc l → ∀ x ∈ l, ∃ b, lnOk p b x
  | _, [], _, x, hx => absurd hx (by simp)
  | acc, y :: r, h, x, hx => by
    rcases List.mem_cons.1 hx with rfl | hx
    · exact ⟨acc, h.1⟩
    · exact lnsOk_mem h.2 x hx
theorem VOK_lines {p : Int} {v : Val} (h : VOK p v) (hl : v.lost = false) (hp : p ≤ 5) : v.w = 0 ∧ v.h = 0 ∧ v.bits = [] ∧ v.lines.length ≤ 64 ∧ lnsOk p [] v.lines := by
  rcases h with rfl | ⟨_, h⟩
  · cases hl
  · rw [if_neg (by omega), if_neg (by omega)] at h; exact h
theorem VOK_raster {p : Int} {v : Val} (h : VOK p v) (hl : v.lost = false) (hp : p = 6 ∨ p = 7) : v.lines = [] ∧ (0 ≤ v.w ∧ v.w ≤ 32) ∧ (min v.w 1 ≤ v.h ∧ v.h ≤ min v.w 1 * 32) ∧ (if p = 7 then (v.bits.length : Int) = v.w * v.h ∧ v.bits.all (fun b => b == 48 || b == 49) = true else v.bits = []) := by
  rcases h with rfl | ⟨_, h⟩
  · cases hl
  · rw [if_neg (by omega), if_pos (by omega)] at h; exact h
theorem badC_ok {s : List UInt8} (h : s.any badC = false) : ∀ b ∈ s, 32 ≤ b.toNat ∧ b.toNat ≤ 126 := by
  intro b hb
  have h1 := List.any_eq_false.1 h b hb
  simpa [badC] using h1
set_option maxHeartbeats 4000000 in
theorem each0_fn (F : Fz) (g b : Nat) (w h : Int) (bits : List UInt8) (lost : Bool) (a : Int) (c : Nat) (caps : Nat → Nat) (hb : F b = some (eF g)) :
    Ct Tryz.prog 93 [.va (.ptr ⟨1, 0, 0, 0, 0⟩), .va (.int .i64 a), .va (.ptr (fp b))] F (valM ⟨lost, [], w, h, bits⟩ c caps) 4 (stepV F ⟨lost, [], w, h, bits⟩) := by
  refine ct_of hΘ Tryz.func93 rfl (by decide) _ _ rfl rfl rfl ?_
  conv => whnf
  refine rounds hΘ 1 ?_
  conv => whnf
  refine br (fun g => absurd g (by decide)) (fun _ => ?_)
  conv => whnf
  refine clean [] (.ret (.tup [])) F (valM ⟨lost, [], w, h, bits⟩ c caps) 4 ⟨Fz.le_refl F, rfl, rfl, rfl, c, caps, rfl⟩ (outE_refl _) rfl rfl (by simp [Out.below, SV.below]) (valM_bH _ _ _) ⟨Fz.le_refl F, rfl, trivial⟩
theorem each_all (F : Fz) (g b : Nat) (f : Ln → Ln) (w h : Int) (bits : List UInt8) (lost : Bool) (L : List Ln) (a : Int) (c : Nat) (caps : Nat → Nat) (hb : F b = some (eF g)) (hl : L.length ≤ 1000000) (hG : ∀ x ∈ L, StepOn g F c caps a f x) :
    Ct Tryz.prog 93 [.va (.ptr ⟨1, 0, 0, 0, 0⟩), .va (.int .i64 a), .va (.ptr (fp b))] F (valM ⟨lost, L, w, h, bits⟩ c caps) 4 (stepV F ⟨lost, L.map f, w, h, bits⟩) := by
  by_cases hne : L = []
  · subst hne; exact each0_fn F g b w h bits lost a c caps hb
  · exact each1_fn F g b f w h bits lost L a c caps hb hne hl hG
/-- The function of a kind of steps, and what it has captured. -/
def doG (k : Int) : Nat := if k = 5 then 71 else if k = 6 then 72 else 93
def doC (b : Nat → Nat) (k : Int) : List Pl := if k = 1 then [fp (b 6)] else if k = 2 then [fp (b 7)] else if k = 3 then [fp (b 8)] else if k = 4 then [fp (b 9)] else []
theorem do_fn (F : Fz) (b : Nat → Nat) (hK : KindsAt F b) (hM : MLF F) (p k n : Int) (v : Val) (hp : 1 ≤ p ∧ p ≤ 8) (hok : stepOk p (k, n) = true) (hv : VOK p v) (hnl : v.lost = false) (c : Nat) (caps : Nat → Nat) :
    Ct Tryz.prog (doG k) ([.va (.ptr ⟨1, 0, 0, 0, 0⟩), .va (.int .i64 n)] ++ (doC b k).map fun p => SV.va (.ptr p)) F (valM v c caps) 4 (stepV F (stepS (k, n) v)) := by
  have hpc := stepOk_cases hp hok
  obtain ⟨lost, L, w, h, bits⟩ := v
  replace hnl : lost = false := hnl
  subst hnl
  rcases hpc with ⟨rfl, rfl, rfl⟩ | ⟨rfl, rfl, rfl⟩ | ⟨rfl, hp, hn⟩ | ⟨rfl, rfl, hn⟩ | ⟨rfl, hp, rfl⟩ | ⟨rfl, rfl⟩
  · obtain ⟨_, _, _, hl, ho⟩ := VOK_lines hv rfl (by omega)
    replace hl : L.length ≤ 64 := hl
    refine each_all F 65 (b 6) foldL w h bits false L 0 c caps hK.h6 (by omega) fun x hx L' i hi => ?_
    obtain ⟨bf, hx'⟩ := lnsOk_mem ho x hx
    rw [lnOk, if_pos rfl] at hx'
    obtain ⟨t, m⟩ := x
    exact fold_fn lfun F L' i c caps t m 0 hi (by have h9 : t.length ≤ 80 := hx'.2.1; omega) (fun b hb => by have := badC_ok hx'.2.2 b hb; omega)
  · obtain ⟨_, _, _, hl, ho⟩ := VOK_lines hv rfl (by omega)
    replace hl : L.length ≤ 64 := hl
    refine each_all F 66 (b 7) spaceL w h bits false L 0 c caps hK.h7 (by omega) fun x hx L' i hi => ?_
    obtain ⟨bf, hx'⟩ := lnsOk_mem ho x hx
    rw [lnOk, if_pos rfl] at hx'
    obtain ⟨t, m⟩ := x
    exact spaces_fn dfun afun F hM L' i c caps t m 0 hi (by have h9 : t.length ≤ 80 := hx'.2.1; omega)
  · obtain ⟨_, _, _, hl, ho⟩ := VOK_lines hv rfl (by omega)
    replace hl : L.length ≤ 64 := hl
    refine each_all F 68 (b 8) (roundL n) w h bits false L n c caps hK.h8 (by omega) fun x hx L' i hi => ?_
    obtain ⟨bf, hx'⟩ := lnsOk_mem ho x hx
    rw [lnOk, if_neg (by omega)] at hx'
    obtain ⟨t, m⟩ := x
    obtain ⟨_, h2, h3, _⟩ := hx'
    have h2' : m.length = 3 := by
      rw [show cols p = 3 by rcases hp with rfl | rfl <;> rfl] at h2; exact h2
    match m, h2', h3, hi with
    | [x, y, z], _, h3, hi =>
      have hz : -1000000000000 ≤ z ∧ z ≤ 1000000000000 := by
        have h4 := h3.2.2.1
        rcases hp with rfl | rfl
        · have e : bnd 3 (([] ++ [x]) ++ [y]) = (-1000000, 1000000) := rfl
          rw [e] at h4; dsimp only at h4; omega
        · have e : bnd 5 (([] ++ [x]) ++ [y]) = (-1000000000000, 1000000000000) := rfl
          rw [e] at h4; exact h4
      exact round_fn F L' i c caps t x y z n [] hi (by omega) (by omega) (by omega) (by omega)
  · obtain ⟨_, _, _, hl, ho⟩ := VOK_lines hv rfl (by omega)
    replace hl : L.length ≤ 64 := hl
    refine each_all F 70 (b 9) (limL n) w h bits false L n c caps hK.h9 (by omega) fun x hx L' i hi => ?_
    obtain ⟨bf, hx'⟩ := lnsOk_mem ho x hx
    rw [lnOk, if_neg (by omega)] at hx'
    obtain ⟨t, m⟩ := x
    obtain ⟨_, h2, h3, _⟩ := hx'
    match m, (h2 : m.length = 1), hi with
    | [x], _, hi => exact limit_fn F L' i c caps t x n [] hi
  · obtain ⟨hL, hw, hh, hb⟩ := VOK_raster hv rfl hp
    replace hL : L = [] := hL
    subst hL
    replace hw : 0 ≤ w ∧ w ≤ 32 := hw
    replace hh : min w 1 ≤ h ∧ h ≤ min w 1 * 32 := hh
    by_cases hbn : bits = []
    · subst hbn
      exact halveNone_fn F w h 0 c caps (by omega) (by omega)
    · have h7 : p = 7 := by
        rcases hp with rfl | rfl
        · exact absurd hb hbn
        · rfl
      rw [if_pos h7] at hb
      replace hb : (bits.length : Int) = w * h ∧ _ := hb
      rcases bits with _ | ⟨b0, br⟩
      · exact absurd rfl hbn
      have hpos : 0 < w ∧ 0 < h := by
        have hl0 : (0 : Int) < w * h := by rw [← hb.1]; simp only [List.length_cons]; omega
        have h0 : 0 ≤ h := by omega
        by_cases hw0 : w = 0
        · rw [hw0, Int.zero_mul] at hl0; omega
        · by_cases hh0 : h = 0
          · rw [hh0, Int.mul_zero] at hl0; omega
          · omega
      obtain ⟨W, rfl⟩ : ∃ W : Nat, w = W := ⟨w.toNat, by omega⟩
      obtain ⟨H, rfl⟩ : ∃ H : Nat, h = H := ⟨h.toNat, by omega⟩
      have := halveBits_fn nfun F W H b0 br 0 c caps (by omega) (by omega) (by have := hb.1; rw [← Int.natCast_mul] at this; omega)
      exact this
  · exact lose_fn F ⟨false, L, w, h, bits⟩ 0 c caps
end Go.Proofs.YtblllibdahkgfaaGreatDoor

namespace Go.Proofs.YtblllibdahkgfaaGreatDoor
open Go Sx
theorem getLast?_map' {α β : Type} (f : α → β) (l : List α) : (l.map f).getLast? = l.getLast?.map f := by
  simp
theorem lnsOk_map {p : Int} {f : Ln → Ln} (hf : ∀ acc x, lnOk p acc x → lnOk p (acc.map f) (f x)) : ∀ (l acc : List Ln), lnsOk p acc l → lnsOk p (acc.map f) (l.map f)
  | [], _, _ => trivial
  | x :: r, acc, h => by
    refine ⟨hf _ _ h.1, ?_⟩
    have := lnsOk_map hf r (acc ++ [x]) h.2
    rw [List.map_append] at this
    exact this
theorem low_ok : ∀ b : UInt8, badC b = false → badC (Lib.lowerB b) = false := by
  intro b
  have : ∀ n : Fin 256, badC (UInt8.ofNat n.1) = false → badC (Lib.lowerB (UInt8.ofNat n.1)) = false := by decide +kernel
  have h := this ⟨b.toNat, b.toNat_lt⟩
  simpa using h
theorem any_map_low {s : List UInt8} (h : s.any badC = false) : (Lib.toLowerA s).any badC = false := by
  refine List.any_eq_false.2 fun b hb => ?_
  obtain ⟨a, ha, rfl⟩ := List.mem_map.1 hb
  rw [low_ok a (by simpa using List.any_eq_false.1 h a ha)]
  simp
theorem repD_mem : ∀ {s : List UInt8} {b : UInt8}, b ∈ repD s → b ∈ s
  | [], _, h => h
  | [a], _, h => h
  | a :: c :: r, b, h => by
    rw [repD] at h
    split at h
    · rename_i hc
      simp only [Bool.and_eq_true, beq_iff_eq] at hc
      rcases List.mem_cons.1 h with rfl | h
      · rw [hc.1]; simp
      · exact List.mem_cons_of_mem _ (List.mem_cons_of_mem _ (repD_mem h))
    · rcases List.mem_cons.1 h with rfl | h
      · simp
      · exact List.mem_cons_of_mem _ (repD_mem h)
theorem spS_mem : ∀ {f : Nat} {s : List UInt8} {b : UInt8}, b ∈ spS f s → b ∈ s
  | 0, _, _, h => h
  | f + 1, s, b, h => by
    rw [spS] at h
    split at h
    · exact repD_mem (spS_mem h)
    · exact h
theorem spS_le : ∀ (f : Nat) (s : List UInt8), (spS f s).length ≤ s.length
  | 0, _ => Nat.le_refl _
  | f + 1, s => by
    rw [spS]; split
    · exact Nat.le_trans (spS_le f _) (repD_le s)
    · exact Nat.le_refl _
theorem fold_ok {p : Int} (hp : p = 1) (acc : List Ln) (x : Ln) (h : lnOk p acc x) : lnOk p (acc.map foldL) (foldL x) := by
  unfold lnOk at *
  rw [if_pos hp] at *
  exact ⟨h.1, by show (Lib.toLowerA x.1).length ≤ 80; unfold Lib.toLowerA; rw [List.length_map]; exact h.2.1, any_map_low h.2.2⟩
theorem space_ok {p : Int} (hp : p = 1) (acc : List Ln) (x : Ln) (h : lnOk p acc x) : lnOk p (acc.map spaceL) (spaceL x) := by
  unfold lnOk at *
  rw [if_pos hp] at *
  refine ⟨h.1, Nat.le_trans (spS_le _ _) h.2.1, List.any_eq_false.2 fun b hb => ?_⟩
  exact List.any_eq_false.1 h.2.2 b (spS_mem hb)
theorem rnd_take (n : Int) : ∀ l : List Int, (rndN n l).take 2 = l.take 2
  | [] => rfl
  | [_] => rfl
  | [_, _] => rfl
  | _ :: _ :: _ :: _ => rfl
theorem emod_le' {z n : Int} (hn : 0 < n) (hz : 0 ≤ z) : z % n ≤ z := by
  have h1 := Int.emod_add_mul_ediv z n
  have h2 : 0 ≤ n * (z / n) := Int.mul_nonneg (by omega) (Int.ediv_nonneg hz (by omega))
  omega
theorem rnd_bnd {z n : Int} (hn : 0 < n) {b : Int} (h : -b ≤ z ∧ z ≤ b) : -b ≤ z - z.tmod n ∧ z - z.tmod n ≤ b := by
  by_cases hz : 0 ≤ z
  · have h1 : 0 ≤ z.tmod n := Int.tmod_nonneg _ hz
    have h2 : z.tmod n ≤ z := by rw [Int.tmod_eq_emod_of_nonneg hz]; exact emod_le' hn hz
    omega
  · have e : z.tmod n = -((-z).tmod n) := by rw [Int.neg_tmod]; omega
    have h1 : 0 ≤ (-z).tmod n := Int.tmod_nonneg _ (by omega)
    have h2 : (-z).tmod n ≤ -z := by rw [Int.tmod_eq_emod_of_nonneg (by omega)]; exact emod_le' hn (by omega)
    omega
theorem three {α : Type} {l : List α} (h : l.length = 3) : ∃ a b c, l = [a, b, c] := by
  match l, h with
  | [a, b, c], _ => exact ⟨a, b, c, rfl⟩
theorem round_ok {p n : Int} (hp : p = 3 ∨ p = 5) (hn : 0 < n) (acc : List Ln) (x : Ln) (h : lnOk p acc x) : lnOk p (acc.map (roundL n)) (roundL n x) := by
  unfold lnOk at *
  rw [if_neg (by omega)] at *
  obtain ⟨h1, h2, h3, h4⟩ := h
  have h2' : x.2.length = 3 := by rw [h2]; rcases hp with rfl | rfl <;> rfl
  obtain ⟨t, m⟩ := x
  obtain ⟨a, b, z, rfl⟩ := three h2'
  refine ⟨h1, h2, ⟨h3.1, h3.2.1, ?_, trivial⟩, fun h y hy => ?_⟩
  · have h5 := h3.2.2.1
    rcases hp with rfl | rfl
    · exact rnd_bnd hn h5
    · exact rnd_bnd hn h5
  · rw [getLast?_map'] at hy
    cases hl : acc.getLast? with
    | none => rw [hl] at hy; cases hy
    | some y0 =>
      rw [hl] at hy
      cases hy
      have := h4 h y0 hl
      show cmpL ((rndN n y0.2).take 2) ((rndN n [a, b, z]).take 2) < 0
      rw [rnd_take, rnd_take]; exact this
theorem limit_ok {p n : Int} (hp : p = 2) (acc : List Ln) (x : Ln) (h : lnOk p acc x) : lnOk p (acc.map (limL n)) (limL n x) := by
  subst hp
  unfold lnOk at *
  rw [if_neg (by omega)] at *
  obtain ⟨h1, h2, h3, h4⟩ := h
  obtain ⟨t, m⟩ := x
  match m, (h2 : m.length = 1), h3 with
  | [a], _, h3 =>
    refine ⟨h1, rfl, ⟨?_, trivial⟩, fun h => absurd rfl h⟩
    have h5 := h3.1
    have e : bnd 2 [] = (0, 7) := rfl
    rw [e] at h5 ⊢
    dsimp only at h5 ⊢
    split <;> omega
theorem halB_all (w : Nat) : ∀ (l : List UInt8) (k : Nat) (o : List UInt8), o.all (fun b => b == 48 || b == 49) = true → (halB w k l o).all (fun b => b == 48 || b == 49) = true
  | [], _, _, h => h
  | b :: r, k, o, h => by
    rw [halB]
    refine halB_all w r (k + 1) _ ?_
    split
    · refine List.all_eq_true.2 fun x hx => ?_
      rcases List.mem_or_eq_of_mem_set hx with hx | rfl
      · exact List.all_eq_true.1 h x hx
      · rfl
    · exact h
theorem half_ok {p : Int} {v : Val} (hp : p = 6 ∨ p = 7) (hv : VOK p v) (hl : v.lost = false) : VOK p (halV v) := by
  obtain ⟨hL, hw, hh, hb⟩ := VOK_raster hv hl hp
  right
  refine ⟨rfl, ?_⟩
  rw [if_neg (by omega), if_pos (by omega)]
  refine ⟨rfl, ⟨by show 0 ≤ (v.w + 1) / 2; omega, by show (v.w + 1) / 2 ≤ 32; omega⟩, ⟨by show min ((v.w + 1) / 2) 1 ≤ (v.h + 1) / 2; omega, by show (v.h + 1) / 2 ≤ min ((v.w + 1) / 2) 1 * 32; omega⟩, ?_⟩
  rcases hp with h6 | h7
  · rw [if_neg (by omega)] at hb ⊢
    show (if v.bits = [] then [] else _) = []
    rw [if_pos hb]
  · rw [if_pos h7] at hb ⊢
    show (((if v.bits = [] then ([] : List UInt8) else halB v.w.toNat 0 v.bits (List.replicate ((v.w.toNat + 1) / 2 * ((v.h.toNat + 1) / 2)) 48)).length : Nat) : Int) = (v.w + 1) / 2 * ((v.h + 1) / 2) ∧ (if v.bits = [] then ([] : List UInt8) else halB v.w.toNat 0 v.bits (List.replicate ((v.w.toNat + 1) / 2 * ((v.h.toNat + 1) / 2)) 48)).all (fun b => b == 48 || b == 49) = true
    split
    · rename_i hn
      have hz := hb.1
      rw [hn] at hz
      have hz' : v.w * v.h = 0 := hz.symm
      have hw0 : v.w = 0 := by
        rcases Int.mul_eq_zero.1 hz' with h | h
        · exact h
        · omega
      have e1 : (v.w + 1) / 2 = 0 := by omega
      rw [e1]; simp
    · refine ⟨?_, halB_all _ _ _ _ (by simp)⟩
      rw [halB_len, List.length_replicate]
      have e1 : (((v.w.toNat + 1) / 2 : Nat) : Int) = (v.w + 1) / 2 := by omega
      have e2 : (((v.h.toNat + 1) / 2 : Nat) : Int) = (v.h + 1) / 2 := by omega
      rw [Int.natCast_mul, e1, e2]
theorem VOK_step {p : Int} {s : Stp} {v : Val} (hp : 1 ≤ p ∧ p ≤ 8) (hok : stepOk p s = true) (hv : VOK p v) (hl : v.lost = false) : VOK p (stepS s v) := by
  obtain ⟨k, n⟩ := s
  have lines : ∀ f : Ln → Ln, p ≤ 5 → (∀ acc x, lnOk p acc x → lnOk p (acc.map f) (f x)) → VOK p { v with lines := v.lines.map f } := fun f h5 hf => by
    obtain ⟨h1, h2, h3, h4, h6⟩ := VOK_lines hv hl h5
    right
    refine ⟨hl, ?_⟩
    rw [if_neg (by omega), if_neg (by omega)]
    exact ⟨h1, h2, h3, by show (v.lines.map f).length ≤ 64; rw [List.length_map]; exact h4, lnsOk_map hf v.lines [] h6⟩
  rcases stepOk_cases hp hok with ⟨rfl, h, rfl⟩ | ⟨rfl, h, rfl⟩ | ⟨rfl, h, hn⟩ | ⟨rfl, h, hn⟩ | ⟨rfl, h, rfl⟩ | ⟨rfl, rfl⟩
  · exact lines _ (by omega) (fold_ok h)
  · exact lines _ (by omega) (space_ok h)
  · exact lines _ (by omega) (round_ok h (by omega))
  · exact lines _ (by omega) (limit_ok h)
  · exact half_ok h hv hl
  · exact .inl rfl
/-- What steps make of a value. -/
def runS (l : List Stp) (v : Val) : Val := l.foldl (fun v s => if v.lost = true then v else stepS s v) v
theorem VOK_run {p : Int} (hp : 1 ≤ p ∧ p ≤ 8) : ∀ (l : List Stp) (v : Val), (∀ s ∈ l, stepOk p s = true) → VOK p v → VOK p (runS l v)
  | [], _, _, h => h
  | s :: r, v, hok, h => by
    refine VOK_run hp r _ (fun x hx => hok x (by simp [hx])) ?_
    show VOK p (if v.lost = true then v else stepS s v)
    split
    · exact h
    · rename_i hl; exact VOK_step hp (hok s (by simp)) h (by simpa using hl)
theorem fits_of {p : Int} {v : Val} (hp : 1 ≤ p ∧ p ≤ 8) (hv : VOK p v) : Fits v := by
  rcases hv with rfl | ⟨hl, hv⟩
  · exact ⟨by show 0 ≤ 1000; omega, fun x hx => absurd hx (by simp [loseV]), by show 0 ≤ 70000; omega⟩
  · split at hv
    · exact ⟨by rw [hv.1]; simp, fun x hx => by rw [hv.1] at hx; simp at hx, by rw [hv.2.1]; simp⟩
    · split at hv
      · refine ⟨by rw [hv.1]; simp, fun x hx => by rw [hv.1] at hx; simp at hx, ?_⟩
        have h4 := hv.2.2.2
        split at h4
        · have h5 : v.w * v.h ≤ 32 * 32 := by
            have : v.w * v.h ≤ 32 * v.h := Int.mul_le_mul_of_nonneg_right hv.2.1.2 (by omega)
            omega
          omega
        · rw [h4]; simp
      · refine ⟨by omega, fun x hx => ?_, by rw [hv.2.2.1]; simp⟩
        obtain ⟨b, hb⟩ := lnsOk_mem hv.2.2.2.2 x hx
        unfold lnOk at hb
        split at hb
        · exact ⟨by omega, by rw [hb.1]; simp⟩
        · refine ⟨by rw [hb.1]; simp, ?_⟩
          rw [hb.2.1]; unfold cols; split <;> (try split) <;> (try split) <;> (try split) <;> omega
/-- What Apply computes. -/
def applyS (p : Int) (l : List Stp) (s : List UInt8) : List UInt8 × Int :=
  if validS p l = true then match readS p s with
    | none => ([], 70)
    | some v => (writeS p (runS l v), 0)
  else ([], 70)
end Go.Proofs.YtblllibdahkgfaaGreatDoor
