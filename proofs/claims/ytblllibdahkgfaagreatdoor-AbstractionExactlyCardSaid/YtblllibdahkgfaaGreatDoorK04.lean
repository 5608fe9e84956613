import Derived.Test.YtblllibdahkgfaaGreatDoorK03

/- A symbolic executor, part j: the remaining operations that call nothing. No program is named here. -/
namespace Sx
open Go
section
variable {P : Program} {Θ : Tys} {C : Ctx} {ρ : Rho} {h : Hp} {nx : Nat} {w : World} {K : Kt}
theorem s_bin_ok (hΘ : Θ.Ok P) {op : BinOp} {t : TypeId} {xo yo : Operand} {x y : SV} {v u : Value} (hs : s_bin P Θ op t x y h nx K) (sat : Sat C ρ h nx w) (hr : x.rel ρ v) (hr' : y.rel ρ u) :
    YldS P (do eqGuard op t xo yo v u; binOp op t v u) ρ h nx w K := by
  unfold s_bin at hs
  split at hs
  · rename_i k a k' b
    simp only [SV.rel, SA.den] at hr hr'; subst hr; subst hr'
    split at hs
    · obtain ⟨hb, hs⟩ := hs
      exact yld_bin guard_int (r := .int k (shlI k a b)) (by simp [binOp, Op.shift, Int.not_lt.2 hb, shlI]) sat (sv := .va (.int k (shlI k a b))) rfl trivial hs
    · obtain ⟨hb, hs⟩ := hs
      exact yld_bin guard_int (r := .int k (shrI k a b)) (by simp [binOp, Op.shift, Int.not_lt.2 hb, shrI]) sat (sv := .va (.int k (shrI k a b))) rfl trivial hs
    · split at hs
      · exact hs.elim
      · rename_i hk
        have hk := of_decide_eq_true hk
        subst hk
        split at hs
        · exact yld_bin guard_int (r := .int k (k.wrap (a + b))) (by simp [binOp, Op.intArith]) sat (sv := .va (.int k (k.wrap (a + b)))) rfl trivial hs
        · exact yld_bin guard_int (r := .int k (k.wrap (a - b))) (by simp [binOp, Op.intArith]) sat (sv := .va (.int k (k.wrap (a - b)))) rfl trivial hs
        · exact yld_bin guard_int (r := .int k (k.wrap (a * b))) (by simp [binOp, Op.intArith]) sat (sv := .va (.int k (k.wrap (a * b)))) rfl trivial hs
        · exact yld_bin guard_int (r := .int k (k.wrap (a.tdiv b))) (by simp [binOp, Op.intDiv, hs.1]) sat (sv := .va (.int k (k.wrap (a.tdiv b)))) rfl trivial hs.2
        · exact yld_bin guard_int (r := .int k (a.tmod b)) (by simp [binOp, Op.intDiv, hs.1]) sat (sv := .va (.int k (a.tmod b))) rfl trivial hs.2
        · exact yld_bin guard_int (r := .int k (bAnd k a b)) (by simp [binOp, Op.intBits, bAnd]) sat (sv := .va (.int k (bAnd k a b))) rfl trivial hs
        · exact yld_bin guard_int (r := .int k (bOr k a b)) (by simp [binOp, Op.intBits, bOr]) sat (sv := .va (.int k (bOr k a b))) rfl trivial hs
        · exact yld_bin guard_int (r := .int k (bXor k a b)) (by simp [binOp, Op.intBits, bXor]) sat (sv := .va (.int k (bXor k a b))) rfl trivial hs
        · exact yld_bin guard_int (r := .int k (bAndNot k a b)) (by simp [binOp, Op.intBits, bAndNot]) sat (sv := .va (.int k (bAndNot k a b))) rfl trivial hs
        · exact yld_bin guard_int (r := .bool (decide (a = b))) (by simp [binOp, Op.intCmp]; rfl) sat (sv := .va (.bool (decide (a = b)))) rfl trivial hs
        · exact yld_bin guard_int (r := .bool (!decide (a = b))) (by simp [binOp, Op.intCmp]; rfl) sat (sv := .va (.bool (!decide (a = b)))) rfl trivial hs
        · exact yld_bin guard_int (r := .bool (decide (a < b))) (by simp [binOp, Op.intCmp]) sat (sv := .va (.bool (decide (a < b)))) rfl trivial hs
        · exact yld_bin guard_int (r := .bool (decide (a ≤ b))) (by simp [binOp, Op.intCmp]) sat (sv := .va (.bool (decide (a ≤ b)))) rfl trivial hs
        · exact yld_bin guard_int (r := .bool (decide (b < a))) (by simp [binOp, Op.intCmp]) sat (sv := .va (.bool (decide (b < a)))) rfl trivial hs
        · exact yld_bin guard_int (r := .bool (decide (b ≤ a))) (by simp [binOp, Op.intCmp]) sat (sv := .va (.bool (decide (b ≤ a)))) rfl trivial hs
        · exact hs.elim
  · rename_i a b
    simp only [SV.rel, SA.den] at hr hr'; subst hr; subst hr'
    split at hs
    · obtain ⟨hl, hs⟩ := hs
      refine yld_bin guard_str (r := .string ⟨(a ++ b).toArray⟩) ?_ sat (sv := .va (.str (a ++ b))) rfl trivial hs
      have h1 : ¬ (9223372036854775807 < ((a.length : Int) + (b.length : Int))) := by omega
      have h2 : (⟨a.toArray⟩ : ByteArray) ++ ⟨b.toArray⟩ = ⟨(a ++ b).toArray⟩ := by apply ByteArray.ext; simp
      have h3 : IntKind.i64.max = 9223372036854775807 := by decide
      simp [binOp, Op.stringOp, ByteArray.size, h3, h1, h2]
    · exact yld_bin guard_str (r := .bool (a == b)) (by simp [binOp, Op.stringOp]) sat (sv := .va (.bool (a == b))) rfl trivial hs
    · exact yld_bin guard_str (r := .bool (!(a == b))) (by simp [binOp, Op.stringOp]) sat (sv := .va (.bool (!(a == b)))) rfl trivial hs
    · exact yld_bin guard_str (r := .bool (Op.bytesLess a b)) (by simp [binOp, Op.stringOp]) sat (sv := .va (.bool (Op.bytesLess a b))) rfl trivial hs
    · exact hs.elim
  · simp only [SV.rel, SA.den] at hr hr'; subst hr; subst hr'
    exact boolOp_ok hΘ hs sat
  · simp only [SV.rel, SA.den] at hr hr'; subst hr; subst hr'
    exact boolOp_ok hΘ hs sat
  · simp only [SV.rel, SA.den] at hr hr'; subst hr; subst hr'
    exact boolOp_ok hΘ hs sat
  · simp only [SV.rel, SA.den] at hr hr'; subst hr; subst hr'
    exact boolOp_ok hΘ hs sat
  · rename_i l m
    simp only [SV.rel] at hr hr'; subst hr; subst hr'
    split at hs
    · obtain ⟨b, hb, hs⟩ := hs
      unfold AggEq at hb
      obtain ⟨h1, h2⟩ := hb ρ w .eql xo yo
      exact yld_bin h1 (r := .bool b) (by show (do pure (Value.bool (← Op.equal t _ _)) : Sem Value).run P w = _; simp only [Sem.run_bind, h2, Result.andThen_ok, Sem.run_pure]) sat (sv := .va (.bool b)) rfl trivial hs
    · obtain ⟨b, hb, hs⟩ := hs
      unfold AggEq at hb
      obtain ⟨h1, h2⟩ := hb ρ w .neq xo yo
      exact yld_bin h1 (r := .bool (!b)) (by show (do pure (Value.bool (!(← Op.equal t _ _))) : Sem Value).run P w = _; simp only [Sem.run_bind, h2, Result.andThen_ok, Sem.run_pure]) sat (sv := .va (.bool (!b))) rfl trivial hs
    · exact hs.elim
  · exact hs.elim
def s_un (op : UnOp) (x : SV) (h : Hp) (nx : Nat) (K : Kt) : Prop :=
  match op, x with
  | .not, .va (.lit b) => K (.va (.lit (!b))) h nx
  | .not, .va (.bool b) => K (.va (.bool (!b))) h nx
  | .neg, .va (.int k n) => K (.va (.int k (k.wrap (0 - n)))) h nx
  | .xor, .va (.int k n) => K (.va (.int k (bXor k (if k.signed then -1 else k.max) n))) h nx
  | _, _ => False
theorem s_un_ok {op : UnOp} {x : SV} {v : Value} (hs : s_un op x h nx K) (sat : Sat C ρ h nx w) (hr : x.rel ρ v) : YldS P (Op.unary op v) ρ h nx w K := by
  unfold s_un at hs
  split at hs
  · rename_i b; simp only [SV.rel, SA.den] at hr; subst hr
    exact YldS.mk sat (.bool (!b)) (.va (.lit (!b))) (by simp [Op.unary]) rfl trivial hs
  · rename_i b; simp only [SV.rel, SA.den] at hr; subst hr
    exact YldS.mk sat (.bool (!b)) (.va (.bool (!b))) (by simp [Op.unary]) rfl trivial hs
  · rename_i k n; simp only [SV.rel, SA.den] at hr; subst hr
    exact YldS.mk sat (.int k (k.wrap (0 - n))) (.va (.int k (k.wrap (0 - n)))) (by simp only [Op.unary, Op.intArith]; rfl) rfl trivial hs
  · rename_i k n; simp only [SV.rel, SA.den] at hr; subst hr
    exact YldS.mk sat (.int k (bXor k (if k.signed then -1 else k.max) n)) (.va (.int k (bXor k (if k.signed then -1 else k.max) n))) (by simp only [Op.unary, Op.intBits]; rfl) rfl trivial hs
  · exact hs.elim
def s_pick (c a b : SV) (h : Hp) (nx : Nat) (K : Kt) : Prop :=
  match c with
  | .va (.lit true) => K a h nx
  | .va (.lit false) => K b h nx
  | .va (.bool c) => match a, b with
    | .va (.bool x), .va (.bool y) => K (.va (.bool (bif c then x else y))) h nx
    | .va (.bool x), .va (.lit y) => K (.va (.bool (bif c then x else y))) h nx
    | .va (.lit x), .va (.bool y) => K (.va (.bool (bif c then x else y))) h nx
    | .va (.lit x), .va (.lit y) => K (.va (.bool (bif c then x else y))) h nx
    | a, b => (c = true → K a h nx) ∧ (c = false → K b h nx)
  | _ => False
theorem s_pick_ok {c a b : SV} {vc va vb : Value} (hs : s_pick c a b h nx K) (sat : Sat C ρ h nx w) (hc : c.rel ρ vc) (ha : a.rel ρ va) (hb : b.rel ρ vb) (hab : a.below nx) (hbb : b.below nx) :
    YldS P (do pure (if ← asBool vc then va else vb)) ρ h nx w K := by
  unfold s_pick at hs
  split at hs
  · simp only [SV.rel, SA.den] at hc; subst hc
    exact YldS.mk sat va a (by simp [asBool]) ha hab hs
  · simp only [SV.rel, SA.den] at hc; subst hc
    exact YldS.mk sat vb b (by simp [asBool]) hb hbb hs
  · rename_i c
    simp only [SV.rel, SA.den] at hc; subst hc
    split at hs
    · rename_i x y; simp only [SV.rel, SA.den] at ha hb; subst ha; subst hb
      exact YldS.mk sat (.bool (bif c then x else y)) (.va (.bool (bif c then x else y))) (by cases c <;> simp [asBool]) rfl trivial hs
    · rename_i x y; simp only [SV.rel, SA.den] at ha hb; subst ha; subst hb
      exact YldS.mk sat (.bool (bif c then x else y)) (.va (.bool (bif c then x else y))) (by cases c <;> simp [asBool]) rfl trivial hs
    · rename_i x y; simp only [SV.rel, SA.den] at ha hb; subst ha; subst hb
      exact YldS.mk sat (.bool (bif c then x else y)) (.va (.bool (bif c then x else y))) (by cases c <;> simp [asBool]) rfl trivial hs
    · rename_i x y; simp only [SV.rel, SA.den] at ha hb; subst ha; subst hb
      exact YldS.mk sat (.bool (bif c then x else y)) (.va (.bool (bif c then x else y))) (by cases c <;> simp [asBool]) rfl trivial hs
    · cases c with
      | true => exact YldS.mk sat va a (by simp [asBool]) ha hab (hs.1 rfl)
      | false => exact YldS.mk sat vb b (by simp [asBool]) hb hbb (hs.2 rfl)
  · exact hs.elim
def s_conv (Θ : Tys) (s d : TypeId) (x : SV) (h : Hp) (nx : Nat) (K : Kt) : Prop :=
  match Θ s, Θ d, x with
  | some _, some ⟨.int k, _, _, _⟩, .va (.int _ n) => K (.va (.int k (k.wrap n))) h nx
  | some _, some ⟨.string, _, _, _⟩, .va (.str s) => K (.va (.str s)) h nx
  | some ⟨.slice e, _, _, _⟩, some ⟨.string, _, _, _⟩, .va (.slice nil i k o sz len _) => match Θ e with
    | some ⟨.int .u8, _, _, _⟩ => (match nil with
      | true => K (.va (.str [])) h nx
      | false => match Nat.beq sz 1 with
        | true => rdEls h i k o sz len fun X => ∃ s : List UInt8, X = (s.map fun b => [SA.int .u8 b.toNat]) ∧ K (.va (.str s)) h nx
        | false => False)
    | _ => False
  | some ⟨.slice e, _, _, _⟩, some ⟨.string, _, _, _⟩, .va .nilsl => (match Θ e with
    | some ⟨.int .u8, _, _, _⟩ => K (.va (.str [])) h nx
    | _ => False)
  | some _, some ⟨.slice e, _, _, _⟩, .va (.str s) => match Θ e with
    | some ⟨.int .u8, _, _, _⟩ => ∀ c, s.length ≤ c → K (.va (.slice false nx 0 0 1 s.length c)) (lput h nx (.one (.arr e 1 (s.map fun b => [SA.int .u8 b.toNat]) c))) (nx + 1)
    | _ => False
  | _, _, _ => False
theorem bytes_loop (P : Program) (w : World) : ∀ (s : List UInt8) (acc : ByteArray),
    (forIn (s.map fun b => Value.int .u8 (b.toNat : Int)) acc (fun (c : Value) (r : ByteArray) => (do
      let .int .u8 n := c | stuck "bytesToString: byte expected"
      pure (ForInStep.yield (r.push (UInt8.ofNat n.toNat))) : Sem (ForInStep ByteArray)))).run P w = .ok (acc ++ ⟨s.toArray⟩) w
  | [], acc => by
    have : acc ++ (⟨#[]⟩ : ByteArray) = acc := by apply ByteArray.ext; simp
    simp [this]
  | b :: r, acc => by
    simp only [List.map_cons, List.forIn_cons, Sem.run_bind]
    have h1 : UInt8.ofNat ((b.toNat : Int).toNat) = b := by simp
    simp only [h1, Sem.run_pure, Result.andThen_ok]
    rw [bytes_loop P w r (acc.push b)]
    congr 1
    apply ByteArray.ext
    simp
end
end Sx

/- A symbolic executor, part k: conversions between strings and bytes; function values, interface values, parts of tuples. No program is named here. -/
namespace Sx
open Go
section
variable {P : Program} {Θ : Tys} {C : Ctx} {ρ : Rho} {h : Hp} {nx : Nat} {w : World} {K : Kt}
theorem freeze_new (w : World) (c : Array Value) (e : TypeId) : ((w.alloc (.cells c e (0, 0))).freeze ⟨w.heap.size, c.size, none⟩ 1) = w.alloc (.cells c e (c.size, c.size + 1)) := by
  simp only [World.freeze, World.alloc, Nat.succ_ne_zero, if_false]
  congr 1
  apply Array.ext
  · simp
  · intro i h1 h2
    simp only [Array.getElem_modify, Array.getElem_push]
    by_cases hi : i = w.heap.size
    · subst hi; simp
    · have : i < w.heap.size := by simp at h2; omega
      simp [this, Ne.symm hi]
theorem s_conv_ok (hΘ : Θ.Ok P) {s d : TypeId} {x : SV} {v : Value} (hs : s_conv Θ s d x h nx K) (sat : Sat C ρ h nx w) (hr : x.rel ρ v) : Yld P (convert s d v) C ρ nx w K := by
  unfold s_conv at hs
  split at hs
  · rename_i i0 k a b c k' n h1 h2
    simp only [SV.rel, SA.den] at hr; subst hr
    refine Yld.same sat (.int k (k.wrap n)) (.va (.int k (k.wrap n))) ?_ rfl trivial hs
    simp only [convert, Sem.run_bind, run_und hΘ h1, run_und hΘ h2, Result.andThen_ok, Conv.intToInt]
    cases i0.d <;> rfl
  · rename_i i0 a b c s' h1 h2
    simp only [SV.rel, SA.den] at hr; subst hr
    refine Yld.same sat (.string ⟨s'.toArray⟩) (.va (.str s')) ?_ rfl trivial hs
    simp only [convert, Sem.run_bind, run_und hΘ h1, run_und hΘ h2, Result.andThen_ok]
    cases i0.d <;> rfl
  · rename_i e a b c a' b' c' nil i k o sz len cap h1 h2
    split at hs
    · rename_i a2 b2 c2 he
      have conv : ∀ z, (convert s d (.slice z len cap)).run P w = (Conv.bytesToString (.slice z len cap)).run P w := by
        intro z
        cases z <;> simp [convert, run_und hΘ h1, run_und hΘ h2, run_und hΘ he]
      split at hs
      · simp only [SV.rel, SA.den, if_true] at hr; subst hr
        refine Yld.same sat (.string .empty) (.va (.str [])) ?_ rfl trivial hs
        rw [conv]; rfl
      · split at hs
        · rename_i hsz
          have hsz := Nat.eq_of_beq_eq_true hsz
          subst hsz
          simp only [SV.rel, SA.den, Bool.false_eq_true, if_false] at hr; subst hr
          obtain ⟨X, ⟨s', rfl, hs⟩, hl, h3, h4, t', pre, post, hrow, hpre⟩ := rdEls_sound hs sat
          refine Yld.same sat (.string ⟨s'.toArray⟩) (.va (.str s')) ?_ rfl trivial hs
          rw [conv]
          have hload : (loadCells ⟨ρ i k, o * 1, none⟩ (s'.map fun b => Value.int .u8 (b.toNat : Int)).length).run P w = .ok (s'.map fun b => Value.int .u8 (b.toNat : Int)).toArray w :=
            run_loadCells_list (P := P) w _ _ (fun j u hu => by
              rw [addr_add, hrow.cell, ← hpre, bytes_flatten, List.map_map]
              have hj : j < (s'.map fun b => Value.int .u8 (b.toNat : Int)).length := (List.getElem?_eq_some_iff.1 hu).1
              rw [List.append_assoc, List.getElem?_append_right (by omega), Nat.add_sub_cancel_left, List.getElem?_append_left (by simpa using hj)]
              exact hu)
          have hlen : (s'.map fun b => Value.int .u8 (b.toNat : Int)).length = len := by simpa using hl
          rw [hlen] at hload
          have hloop := bytes_loop P w s' ByteArray.empty
          have he : (ByteArray.empty ++ (⟨s'.toArray⟩ : ByteArray)) = ⟨s'.toArray⟩ := by apply ByteArray.ext; simp
          rw [he] at hloop
          simp only [Conv.bytesToString, Sem.run_bind, hload, Result.andThen_ok]
          rw [← Array.forIn_toList]
          erw [hloop]
          rfl
        · exact hs.elim
    · exact hs.elim
  · rename_i e a b c a' b' c' h1 h2
    split at hs
    · rename_i a2 b2 c2 he
      simp only [SV.rel, SA.den] at hr; subst hr
      refine Yld.same sat (.string .empty) (.va (.str [])) ?_ rfl trivial hs
      have conv : (convert s d (.slice none 0 0)).run P w = (Conv.bytesToString (.slice none 0 0)).run P w := by
        simp [convert, run_und hΘ h1, run_und hΘ h2, run_und hΘ he]
      rw [conv]; rfl
    · exact hs.elim
  · rename_i i0 e a b c s' h1 h2
    split at hs
    · rename_i a2 b2 c2 he
      simp only [SV.rel, SA.den] at hr; subst hr
      have hsz : (⟨s'.toArray⟩ : ByteArray).size = s'.length := by simp [ByteArray.size]
      let cap := (Question.appendCap s'.length 0 e).cut (w.tape w.drawn (.appendCap s'.length 0 e))
      have hcap : s'.length ≤ cap := by simp only [cap, Question.cut]; omega
      let cells : Array Value := (s'.map fun b => Value.int .u8 (b.toNat : Int)).toArray ++ Array.replicate (cap - s'.length) (.int .u8 0)
      have hrun : (convert s d (.string ⟨s'.toArray⟩)).run P w = .ok (.slice (some ⟨w.heap.size, 0, none⟩) s'.length cap) (w.drew.alloc (.cells cells e (cells.size, cells.size + 1))) := by
        have hfz := freeze_new w.drew cells e
        have hsh : (w.drew.alloc (.cells cells e (0, 0))).shape? w.heap.size = some (e, cells.size) := by
          have hg : (w.drew.alloc (.cells cells e (0, 0))).heap[w.heap.size]? = some (.cells cells e (0, 0)) := by
            show (w.heap.push _)[w.heap.size]? = _; simp
          simp only [World.shape?, hg]
        have conv : (convert s d (.string ⟨s'.toArray⟩)).run P w = (Conv.stringToBytes e ⟨s'.toArray⟩).run P w := by
          simp only [convert, Sem.run_bind, run_und hΘ h1, run_und hΘ h2, Result.andThen_ok]
          cases i0.d <;> simp [run_und hΘ he]
        rw [conv]
        have e1 : ((⟨s'.toArray⟩ : ByteArray).data.map fun b => Value.int .u8 (b.toNat : Int)) = (s'.map fun b => Value.int .u8 (b.toNat : Int)).toArray := by simp
        simp only [Conv.stringToBytes, hsz, Sem.run_bind, run_choose, Question.forced, Bool.false_eq_true, if_false, Result.andThen_ok, e1, newRow, run_newObj, Sem.run_pure, markStringish, run_shape]
        simp only [World.shape?, Array.getElem?_push, if_true]
        have hfz' : (World.freeze { heap := w.heap.push (.cells cells e (0, 0)), tape := w.tape, drawn := w.drawn + 1, os := w.os, output := w.output } ⟨w.heap.size, cells.size, none⟩ 1) = w.drew.alloc (.cells cells e (cells.size, cells.size + 1)) := hfz
        simp only [run_freeze, Result.andThen_ok]
        rw [← hfz']
      refine ⟨_, _, _, _, _, rext ρ nx w.heap.size, hrun, ?_, ?_, hs cap hcap, ?_, fun i hi => rext_lt hi, Nat.le_succ _⟩
      · simp [SV.rel, SA.den, rext_same]
      · simp [SV.below, SA.below]
      · refine sat.drew.new (.arr e 1 (s'.map fun b => [SA.int .u8 b.toNat]) cap) _ (by intro x hx a ha; simp at hx; obtain ⟨b, _, rfl⟩ := hx; simp at ha; subst ha; trivial) ⟨by simp, by simpa using hcap, List.replicate (cap - s'.length) (.int .u8 0), by simp, (cells.size, cells.size + 1), ?_, ?_⟩
        · intro j hj hh
          rw [bytes_flatten] at hj
          simp [cells] at hj hh
          omega
        · congr 1
          rw [bytes_flatten]
          apply Array.ext'
          simp [cells, SA.den]
    · exact hs.elim
  · exact hs.elim
end
end Sx

/- A symbolic executor, part l: one operation, whichever it is. No program is named here. -/
namespace Sx
open Go
def s_mkif (Θ : Tys) (t : TypeId) (x : SV) (h : Hp) (nx : Nat) (K : Kt) : Prop :=
  match Θ t with
  | some ⟨.interface _, _, _, _⟩ => False
  | some _ => match x with
    | .va (.int k n) => K (.va (.ifc t (.int k n))) h nx
    | .va (.str s) => K (.va (.ifc t (.string ⟨s.toArray⟩))) h nx
    | _ => False
  | none => False
def plsOf : List SV → Option (List Pl)
  | [] => some []
  | .va (.ptr p) :: r => match plsOf r with
    | some l => some (p :: l)
    | none => none
  | _ :: _ => none
def evL (t : List (List (Nat × SV))) : List Operand → List SV
  | [] => []
  | x :: r => ev t x :: evL t r
def evP (t : List (List (Nat × SV))) : List (Nat × Operand) → List (Nat × SV)
  | [] => []
  | p :: r => (p.1, ev t p.2) :: evP t r
def s_mkfn (f : Fn) (first : List Operand) (caps : List SV) (h : Hp) (nx : Nat) (K : Kt) : Prop :=
  match first, plsOf caps with
  | [], some l => K (.va (.fn f l)) h nx
  | _, _ => False
def evO (t : List (List (Nat × SV))) : Option Operand → Option SV
  | none => none
  | some x => some (ev t x)
abbrev Kp := Value → Hp → Nat → Prop
def s_call (P : Program) (Θ : Tys) (t : List (List (Nat × SV))) (c : Call) (h : Hp) (nx : Nat) (K : Kt) (KP : Kp) : Prop :=
  match c.callee with
  | .builtin b => (match b, evL t c.args.toList with
    | .len, [x] => s_len Θ c.argTypes.toList x h nx K
    | .cap, [x] => s_cap Θ c.argTypes.toList x h nx K
    | .append, [x, y] => s_append Θ c.argTypes.toList x y h nx K
    | .min, [x, y] => s_min x y h nx K
    | .max, [x, y] => s_max x y h nx K
    | _, _ => False)
  | .value f => (match ev t f with
    | .va (.fn (.func g) cap) => CallWP P g (evL t c.args.toList ++ cap.map fun p => SV.va (.ptr p)) h nx fun out h' nx' => (match out with
      | .ret v => K v h' nx'
      | .panic v => KP v h' nx')
    | _ => False)
  | .invoke _ _ => False
def sop (P : Program) (Θ : Tys) (t : List (List (Nat × SV))) (o : Op) (h : Hp) (nx : Nat) (K : Kt) (KP : Kp) : Prop :=
  match o with
  | .move x => K (ev t x) h nx
  | .assign x => K (ev t x) h nx
  | .pick c a b => s_pick (ev t c) (ev t a) (ev t b) h nx K
  | .alloc e => s_alloc Θ e h nx K
  | .box e x => s_box e (ev t x) h nx K
  | .build ty ps => s_build Θ ty (evP t ps.toList) h nx K
  | .buildSlice ty n ps => s_buildSlice Θ ty n (evP t ps.toList) h nx K
  | .load ty a => s_load Θ ty (ev t a) h nx K
  | .store ty a v => s_store Θ ty (ev t a) (ev t v) h nx K
  | .nilCheck x => (match ev t x with
    | .va (.ptr p) => K (.va (.ptr p)) h nx
    | .va (.fn (.func f) c) => K (.va (.fn (.func f) c)) h nx
    | _ => False)
  | .binOp op ty x y _ => s_bin P Θ op ty (ev t x) (ev t y) h nx K
  | .unOp op _ x => s_un op (ev t x) h nx K
  | .convert s d x => s_conv Θ s d (ev t x) h nx K
  | .makeInterface ty x => s_mkif Θ ty (ev t x) h nx K
  | .makeFunc f a c => s_mkfn f a.toList (evL t c.toList) h nx K
  | .slice ty x lo hi mx => s_slice Θ ty (ev t x) (evO t lo) (evO t hi) (evO t mx) h nx K
  | .fieldAddr ty x f => s_fieldAddr Θ ty (ev t x) f h nx K
  | .field ty x f => s_field Θ ty (ev t x) f h nx K
  | .indexAddr ty x i => s_indexAddr Θ ty (ev t x) (ev t i) h nx K
  | .index ty x i => s_index Θ ty (ev t x) (ev t i) h nx K
  | .extract x i => (match ev t x with
    | .tup l => (match nth l i with
      | some c => K c.v h nx
      | none => False)
    | _ => False)
  | .call c => s_call P Θ t c h nx K KP
  | .panic x => (match ev t x with
    | .va (.ifc ty v) => KP (.iface ty v) h nx
    | _ => False)
  | _ => False
section
variable {P : Program} {Θ : Tys} {C : Ctx} {ρ : Rho} {st : St} {a : Act} {w : World} {K : Kt} {KP : Kp}
/-- What one operation's soundness says. -/
def Upon (P : Program) (o : Oper) (C : Ctx) (ρ : Rho) (st : St) (a : Act) (K : Kt) (KP : Kp) (r : Result Next) : Prop :=
  o.upon P a (fun a' w' => ∃ v sv h' nx' ρ', a' = a.put o.dst v ∧ K sv h' nx' ∧ sv.rel ρ' v ∧ sv.below nx' ∧ Den C ρ' { st with h := h', nx := nx' } a w' ∧ (∀ i, i < st.nx → ρ' i = ρ i) ∧ st.nx ≤ nx')
    (fun e a' w' => ∃ v h' nx' ρ', e = .panic [{ v, recovered := false }] ∧ KP v h' nx' ∧ Den C ρ' { st with h := h', nx := nx' } a' w') r
theorem upon_yld {o : Oper} {s : Sem Value} (d : Den C ρ st a w) (hy : Yld P s C ρ st.nx w K) : Upon P o C ρ st a K KP ((do pure (Next.value (← s)) : Sem Next).run P w) := by
  obtain ⟨v, w', sv, h', nx', ρ', h1, h2, h3, h4, h5, h6, h7⟩ := hy
  simp only [Sem.run_bind, h1, Result.andThen_ok, Sem.run_pure]
  exact ⟨v, sv, h', nx', ρ', rfl, h4, h2, h3, d.heap h5 h6 h7, h6, h7⟩
theorem evL_rel (d : Den C ρ st a w) : ∀ l : List Operand, relL ρ (evL st.t l) (l.map a.eval) ∧ ∀ s ∈ evL st.t l, s.below st.nx
  | [] => ⟨trivial, by simp [evL]⟩
  | x :: r => by
    obtain ⟨h1, h2⟩ := evL_rel d r
    obtain ⟨h3, h4⟩ := ev_rel d x
    refine ⟨⟨h3, h1⟩, ?_⟩
    intro s hs
    simp only [evL, List.mem_cons] at hs
    rcases hs with rfl | hs
    · exact h4
    · exact h2 s hs
theorem evP_rel (d : Den C ρ st a w) : ∀ l : List (Nat × Operand), (∀ (j : Nat) (p : Nat × SV) (q : Nat × Value), (evP st.t l)[j]? = some p → (l.map fun x => (x.1, a.eval x.2))[j]? = some q → p.1 = q.1 ∧ p.2.rel ρ q.2) ∧
    (evP st.t l).length = l.length ∧ ∀ p ∈ evP st.t l, p.2.below st.nx
  | [] => ⟨by simp [evP], rfl, by simp [evP]⟩
  | x :: r => by
    obtain ⟨h1, h2, h3⟩ := evP_rel d r
    obtain ⟨h4, h5⟩ := ev_rel d x.2
    refine ⟨?_, by simp [evP, h2], ?_⟩
    · intro j p q hp hq
      cases j with
      | zero => simp [evP] at hp hq; subst hp; subst hq; exact ⟨rfl, h4⟩
      | succ j => exact h1 j p q (by simpa [evP] using hp) (by simpa using hq)
    · intro p hp
      simp only [evP, List.mem_cons] at hp
      rcases hp with rfl | hp
      · exact h5
      · exact h3 p hp
theorem evO_rel (d : Den C ρ st a w) (x : Option Operand) : relO ρ (evO st.t x) (x.map a.eval) := by
  cases x with
  | none => trivial
  | some x => exact (ev_rel d x).1
theorem plsOf_rel {ρ : Rho} {n : Nat} : ∀ {l : List SV} {ps : List Pl} {vs : List Value}, plsOf l = some ps → relL ρ l vs → (∀ s ∈ l, s.below n) → vs = ps.map (fun p => Value.pointer (some (p.addr ρ))) ∧ ∀ p ∈ ps, p.i < n
  | [], ps, vs, h, hr, _ => by
    simp [plsOf] at h; subst h
    cases vs with
    | nil => exact ⟨rfl, by simp⟩
    | cons v r => exact hr.elim
  | s :: r, ps, vs, h, hr, hb => by
    cases vs with
    | nil => exact hr.elim
    | cons v vr =>
      unfold plsOf at h
      split at h
      · rename_i heq; cases heq
      · rename_i p r' heq
        cases heq
        split at h
        · rename_i l' hl
          cases h
          obtain ⟨h1, h2⟩ := plsOf_rel (ρ := ρ) (n := n) hl hr.2 (fun s hs => hb s (by simp [hs]))
          refine ⟨?_, ?_⟩
          · have := hr.1; simp only [SV.rel, SA.den] at this; rw [this, h1]; rfl
          · intro q hq
            rcases List.mem_cons.1 hq with rfl | hq
            · exact hb (.va (.ptr q)) (by simp)
            · exact h2 q hq
        · cases h
      · cases h
theorem relL_append {ρ : Rho} : ∀ {a b : List SV} {x y : List Value}, relL ρ a x → relL ρ b y → relL ρ (a ++ b) (x ++ y)
  | [], b, [], y, _, h => h
  | [], b, v :: x, y, h, _ => h.elim
  | s :: a, b, [], y, h, _ => h.elim
  | s :: a, b, v :: x, y, h1, h2 => ⟨h1.1, relL_append h1.2 h2⟩
theorem relL_ptrs {ρ : Rho} : ∀ l : List Pl, relL ρ (l.map fun p => SV.va (.ptr p)) (l.map fun p => Value.pointer (some (p.addr ρ)))
  | [] => trivial
  | p :: r => ⟨rfl, relL_ptrs r⟩
theorem sop_sound (hΘ : Θ.Ok P) {o : Oper} (hs : sop P Θ st.t o.op st.h st.nx K KP) (d : Den C ρ st a w) : Upon P o C ρ st a K KP ((execOp a.eval o).run P w) := by
  obtain ⟨dst, op, type, pos, after, guard⟩ := o
  cases op
  case move x => exact upon_yld (s := pure (a.eval x)) d (Yld.same d.sat _ _ rfl (ev_rel d x).1 (ev_rel d x).2 hs)
  case assign x => exact upon_yld (s := pure (a.eval x)) d (Yld.same d.sat _ _ rfl (ev_rel d x).1 (ev_rel d x).2 hs)
  case pick c x y =>
    have := upon_yld (KP := KP) (o := ⟨dst, .pick c x y, type, pos, after, guard⟩) d (YldS.yld (s_pick_ok (P := P) hs d.sat (ev_rel d c).1 (ev_rel d x).1 (ev_rel d y).1 (ev_rel d x).2 (ev_rel d y).2) d.sat)
    simpa [execOp] using this
  case alloc e => exact upon_yld d (s_alloc_ok hΘ hs d.sat)
  case box e x => exact upon_yld d (s_box_ok hs d.sat (ev_rel d x).1 (ev_rel d x).2)
  case build ty ps =>
    obtain ⟨h1, h2, h3⟩ := evP_rel d ps.toList
    refine upon_yld d (YldS.yld (s_build_ok hΘ hs d.sat (by simp [h2]) (fun j p q hp hq => h1 j p q hp ?_) h3) d.sat)
    simpa using hq
  case buildSlice ty n ps =>
    obtain ⟨h1, h2, h3⟩ := evP_rel d ps.toList
    refine upon_yld d (s_buildSlice_ok hΘ hs d.sat (by simp [h2]) (fun j p q hp hq => h1 j p q hp ?_) h3)
    simpa using hq
  case load ty x => exact upon_yld d (s_load_ok hΘ hs d.sat (ev_rel d x).1)
  case store ty x y =>
    obtain ⟨w', h', h1, h2, h3⟩ := s_store_ok hΘ hs d.sat (ev_rel d x).1 (ev_rel d y).1 (ev_rel d y).2
    have : (execOp a.eval ⟨dst, .store ty x y, type, pos, after, guard⟩).run P w = .ok .skip w' := by
      simp [execOp, h1]
    rw [this]
    exact ⟨undef, .tup [], h', st.nx, ρ, rfl, h2, rfl, by simp [SV.below], d.heap h3 (fun _ _ => rfl) (Nat.le_refl _), fun _ _ => rfl, Nat.le_refl _⟩
  case nilCheck x =>
    simp only [sop] at hs
    have hx := ev_rel d x
    split at hs
    · rename_i p he
      rw [he] at hx
      have hv : a.eval x = .pointer (some (p.addr ρ)) := hx.1
      have : (execOp a.eval ⟨dst, .nilCheck x, type, pos, after, guard⟩).run P w = .ok (.value (.pointer (some (p.addr ρ)))) w := by simp [execOp, hv]
      rw [this]
      exact ⟨_, _, st.h, st.nx, ρ, rfl, hs, rfl, hx.2, d, fun _ _ => rfl, Nat.le_refl _⟩
    · rename_i f c he
      rw [he] at hx
      have hv : a.eval x = _ := hx.1
      simp only [SA.den] at hv
      have : (execOp a.eval ⟨dst, .nilCheck x, type, pos, after, guard⟩).run P w = .ok (.value (a.eval x)) w := by simp [execOp, hv]
      rw [this]
      exact ⟨_, _, st.h, st.nx, ρ, rfl, hs, hx.1, hx.2, d, fun _ _ => rfl, Nat.le_refl _⟩
    · exact hs.elim
  case binOp op ty x y ty' => exact upon_yld d (YldS.yld (s_bin_ok hΘ hs d.sat (ev_rel d x).1 (ev_rel d y).1) d.sat)
  case unOp op ty x => exact upon_yld d (YldS.yld (s_un_ok hs d.sat (ev_rel d x).1) d.sat)
  case convert s dd x => exact upon_yld d (s_conv_ok hΘ hs d.sat (ev_rel d x).1)
  case makeInterface ty x =>
    simp only [sop] at hs
    have hx := ev_rel d x
    unfold s_mkif at hs
    split at hs
    · exact hs.elim
    · rename_i i hn hi
      have hu : ∀ v, (Instr.makeInterface ty v).run P w = .ok (.iface ty v) w := by
        intro v
        simp only [Instr.makeInterface, Sem.run_bind, run_und hΘ hi, Result.andThen_ok]
        cases hd : i.d <;> first | rfl | skip
        rename_i ms
        obtain ⟨i1, i2, i3, i4⟩ := i
        simp only at hd; subst hd
        exact (hn ms i2 i3 i4 rfl).elim
      split at hs
      · rename_i k n he
        rw [he] at hx
        exact upon_yld d (Yld.same d.sat _ (.va (.ifc ty (.int k n))) (hu _) (by rw [hx.1]; rfl) trivial hs)
      · rename_i s he
        rw [he] at hx
        exact upon_yld d (Yld.same d.sat _ (.va (.ifc ty (.string ⟨s.toArray⟩))) (hu _) (by rw [hx.1]; rfl) trivial hs)
      · exact hs.elim
    · exact hs.elim
  case makeFunc f first caps =>
    simp only [sop] at hs
    unfold s_mkfn at hs
    split at hs
    · rename_i l hf hl
      have hf' : first = #[] := by simpa using hf
      subst hf'
      obtain ⟨h1, h2⟩ := evL_rel d caps.toList
      obtain ⟨h3, h4⟩ := plsOf_rel hl h1 h2
      refine upon_yld d (Yld.same d.sat (.func f #[] (caps.map a.eval)) (.va (.fn f l)) (by simp [Instr.makeFunc]) ?_ h4 hs)
      simp only [SV.rel, SA.den]
      congr 1
      rw [← h3]; apply Array.ext'; simp
    · exact hs.elim
  case slice ty x lo hi mx => exact upon_yld d (YldS.yld (s_slice_ok hΘ hs d.sat (ev_rel d x).1 (evO_rel d lo) (evO_rel d hi) (evO_rel d mx) (ev_rel d x).2) d.sat)
  case fieldAddr ty x f => exact upon_yld d (YldS.yld (s_fieldAddr_ok hΘ hs d.sat (ev_rel d x).1 (ev_rel d x).2) d.sat)
  case field ty x f => exact upon_yld d (YldS.yld (s_field_ok hΘ hs d.sat (ev_rel d x).1 (ev_rel d x).2) d.sat)
  case indexAddr ty x i => exact upon_yld d (YldS.yld (s_indexAddr_ok hΘ hs d.sat (ev_rel d x).1 (ev_rel d i).1 (ev_rel d x).2) d.sat)
  case index ty x i => exact upon_yld d (YldS.yld (s_index_ok hΘ hs d.sat (ev_rel d x).1 (ev_rel d i).1 (ev_rel d x).2) d.sat)
  case extract x i =>
    simp only [sop] at hs
    have hx := ev_rel d x
    split at hs
    · rename_i l he
      rw [he] at hx
      split at hs
      · rename_i c hc
        have hv : a.eval x = .tuple (l.map (SC.den ρ)).toArray := hx.1
        rw [nth_eq] at hc
        have hmem : c ∈ l := List.mem_of_getElem? hc
        refine upon_yld d (Yld.same d.sat (c.den ρ) c.v ?_ ?_ ?_ hs)
        · simp [hv, Instr.extract, hc]
        · cases c <;> rfl
        · have := hx.2 c hmem; cases c <;> exact this
      · exact hs.elim
    · exact hs.elim
  case call c =>
    simp only [sop] at hs
    unfold s_call at hs
    obtain ⟨callee, args, argTypes⟩ := c
    obtain ⟨h1, h2⟩ := evL_rel d args.toList
    split at hs
    · rename_i b hcal
      simp only at hcal; subst hcal
      have two : ∀ x y, evL st.t args.toList = [x, y] → ∃ v u, args.map a.eval = #[v, u] ∧ x.rel ρ v ∧ y.rel ρ u := by
        intro x y hxy
        rw [hxy] at h1
        match hm : args.toList.map a.eval, h1 with
        | [v, u], h1 => exact ⟨v, u, by apply Array.ext'; simpa using hm, h1.1, h1.2.1⟩
      split at hs
      · rename_i x hxy
        rw [hxy] at h1
        match hm : args.toList.map a.eval, h1 with
        | [v], h1 =>
          have hma : args.map a.eval = #[v] := by apply Array.ext'; simpa using hm
          have := upon_yld (KP := KP) (o := ⟨dst, .call ⟨.builtin .len, args, argTypes⟩, type, pos, after, guard⟩) d (YldS.yld (s_len_ok (ty := type) hΘ hs d.sat h1.1) d.sat)
          simpa [execOp, resolve, invoke, builtin, hma] using this
      · rename_i x hxy
        rw [hxy] at h1
        match hm : args.toList.map a.eval, h1 with
        | [v], h1 =>
          have hma : args.map a.eval = #[v] := by apply Array.ext'; simpa using hm
          have := upon_yld (KP := KP) (o := ⟨dst, .call ⟨.builtin .cap, args, argTypes⟩, type, pos, after, guard⟩) d (YldS.yld (s_cap_ok (ty := type) hΘ hs d.sat h1.1) d.sat)
          simpa [execOp, resolve, invoke, builtin, hma] using this
      · rename_i x y hxy
        obtain ⟨v, u, hma, hx, hy⟩ := two x y hxy
        have := upon_yld (KP := KP) (o := ⟨dst, .call ⟨.builtin .append, args, argTypes⟩, type, pos, after, guard⟩) d (s_append_ok (ty' := type) hΘ hs d.sat hx hy)
        simpa [execOp, resolve, invoke, builtin, hma] using this
      · rename_i x y hxy
        obtain ⟨v, u, hma, hx, hy⟩ := two x y hxy
        have := upon_yld (KP := KP) (o := ⟨dst, .call ⟨.builtin .min, args, argTypes⟩, type, pos, after, guard⟩) d (YldS.yld (s_min_ok (P := P) (ts := argTypes) (ty := type) hs d.sat hx hy) d.sat)
        simpa [execOp, resolve, invoke, builtin, hma] using this
      · rename_i x y hxy
        obtain ⟨v, u, hma, hx, hy⟩ := two x y hxy
        have := upon_yld (KP := KP) (o := ⟨dst, .call ⟨.builtin .max, args, argTypes⟩, type, pos, after, guard⟩) d (YldS.yld (s_max_ok (P := P) (ts := argTypes) (ty := type) hs d.sat hx hy) d.sat)
        simpa [execOp, resolve, invoke, builtin, hma] using this
      · exact hs.elim
    · rename_i f hcal
      simp only at hcal; subst hcal
      split at hs
      · rename_i g cap he
        have hf := ev_rel d f
        rw [he] at hf
        have hv : a.eval f = .func (.func g) #[] (cap.map fun p => Value.pointer (some (p.addr ρ))).toArray := hf.1
        unfold CallWP at hs
        obtain ⟨hent, hc⟩ := hs C ρ w (args.toList.map a.eval ++ cap.map fun p => Value.pointer (some (p.addr ρ))) d.sat (relL_append h1 (relL_ptrs cap)) (by
          intro s hs
          rcases List.mem_append.1 hs with hs | hs
          · exact h2 s hs
          · obtain ⟨p, hp, rfl⟩ := List.mem_map.1 hs; exact hf.2 p hp)
        unfold Enters at hent
        have hrun : (execOp a.eval ⟨dst, .call ⟨.value f, args, argTypes⟩, type, pos, after, guard⟩).run P w = .ok (.enter g (args.toList.map a.eval ++ cap.map fun p => Value.pointer (some (p.addr ρ))).toArray) w := by
          have e1 : (#[] ++ args.map a.eval) ++ (cap.map fun p => Value.pointer (some (p.addr ρ))).toArray = (args.toList.map a.eval ++ cap.map fun p => Value.pointer (some (p.addr ρ))).toArray := by
            apply Array.ext'; simp
          simp only [execOp, resolve, hv, Deferred.ofValue, Sem.run_bind, Sem.run_pure, Result.andThen_ok, invoke, e1, hent]
        rw [hrun]
        refine hc.mono ?_
        rintro e w' ⟨out, h', nx', ρ', k1, k2, k3, k4, k5, k6⟩
        cases out with
        | ret s =>
          obtain ⟨v, rfl, hr⟩ := k2
          exact ⟨v, s, h', nx', ρ', rfl, k1, hr, k6, d.heap k3 k4 k5, k4, k5⟩
        | panic v =>
          simp only [Out.rel] at k2
          subst k2
          exact ⟨v, h', nx', ρ', rfl, k1, d.heap k3 k4 k5⟩
      · exact hs.elim
    · exact hs.elim
  case panic x =>
    simp only [sop] at hs
    have hx := ev_rel d x
    split at hs
    · rename_i ty v he
      rw [he] at hx
      have hv : a.eval x = .iface ty v := hx.1
      have : (execOp a.eval ⟨dst, .panic x, type, pos, after, guard⟩).run P w = .halt (.panic (.iface ty v)) w := by simp [execOp, hv, Instr.panic]
      rw [this]
      exact ⟨_, st.h, st.nx, ρ, rfl, hs, d⟩
    · exact hs.elim
  all_goals exact hs.elim
end
end Sx
