import Derived.Test.YtblllibdahkgfaaGreatDoorK03

namespace Sx
open Go
section
variable {P : Program} {Θ : Tys} {C : Ctx} {ρ : Rho} {h : Hp} {nx : Nat} {w : World} {K : Kt}
theorem zna (hΘ : Θ.Ok P) {op : BinOp} {t : TypeId} {xo yo : Operand} {x y : SV} {v u : Value} (hs : s_bin P Θ op t x y h nx K) (sat : Sat C ρ h nx w) (hr : x.rel ρ v) (hr' : y.rel ρ u) :
  YldS P (do eqGuard op t xo yo v u; binOp op t v u) ρ h nx w K := by
 unfold s_bin at hs
 split at hs
 ·rename_i k a k' b
  simp only [SV.rel, SA.den] at hr hr'; subst hr; subst hr'
  split at hs
  ·obtain ⟨hb, hs⟩ := hs
   exact zb3 zb1 (r := .int k (shlI k a b)) (by simp [binOp, Op.shift, Int.not_lt.2 hb, shlI]) sat (sv := .va (.int k (shlI k a b))) rfl trivial hs
  ·obtain ⟨hb, hs⟩ := hs
   exact zb3 zb1 (r := .int k (shrI k a b)) (by simp [binOp, Op.shift, Int.not_lt.2 hb, shrI]) sat (sv := .va (.int k (shrI k a b))) rfl trivial hs
  ·split at hs
   ·exact hs.elim
   ·rename_i hk
    have hk := of_decide_eq_true hk
    subst hk
    split at hs
    ·exact zb3 zb1 (r := .int k (k.wrap (a + b))) (by simp [binOp, Op.intArith]) sat (sv := .va (.int k (k.wrap (a + b)))) rfl trivial hs
    ·exact zb3 zb1 (r := .int k (k.wrap (a - b))) (by simp [binOp, Op.intArith]) sat (sv := .va (.int k (k.wrap (a - b)))) rfl trivial hs
    ·exact zb3 zb1 (r := .int k (k.wrap (a * b))) (by simp [binOp, Op.intArith]) sat (sv := .va (.int k (k.wrap (a * b)))) rfl trivial hs
    ·exact zb3 zb1 (r := .int k (k.wrap (a.tdiv b))) (by simp [binOp, Op.intDiv, hs.1]) sat (sv := .va (.int k (k.wrap (a.tdiv b)))) rfl trivial hs.2
    ·exact zb3 zb1 (r := .int k (a.tmod b)) (by simp [binOp, Op.intDiv, hs.1]) sat (sv := .va (.int k (a.tmod b))) rfl trivial hs.2
    ·exact zb3 zb1 (r := .int k (bAnd k a b)) (by simp [binOp, Op.intBits, bAnd]) sat (sv := .va (.int k (bAnd k a b))) rfl trivial hs
    ·exact zb3 zb1 (r := .int k (bOr k a b)) (by simp [binOp, Op.intBits, bOr]) sat (sv := .va (.int k (bOr k a b))) rfl trivial hs
    ·exact zb3 zb1 (r := .int k (bXor k a b)) (by simp [binOp, Op.intBits, bXor]) sat (sv := .va (.int k (bXor k a b))) rfl trivial hs
    ·exact zb3 zb1 (r := .int k (zjq k a b)) (by simp [binOp, Op.intBits, zjq]) sat (sv := .va (.int k (zjq k a b))) rfl trivial hs
    ·exact zb3 zb1 (r := .bool (decide (a = b))) (by simp [binOp, Op.intCmp]; rfl) sat (sv := .va (.bool (decide (a = b)))) rfl trivial hs
    ·exact zb3 zb1 (r := .bool (!decide (a = b))) (by simp [binOp, Op.intCmp]; rfl) sat (sv := .va (.bool (!decide (a = b)))) rfl trivial hs
    ·exact zb3 zb1 (r := .bool (decide (a < b))) (by simp [binOp, Op.intCmp]) sat (sv := .va (.bool (decide (a < b)))) rfl trivial hs
    ·exact zb3 zb1 (r := .bool (decide (a ≤ b))) (by simp [binOp, Op.intCmp]) sat (sv := .va (.bool (decide (a ≤ b)))) rfl trivial hs
    ·exact zb3 zb1 (r := .bool (decide (b < a))) (by simp [binOp, Op.intCmp]) sat (sv := .va (.bool (decide (b < a)))) rfl trivial hs
    ·exact zb3 zb1 (r := .bool (decide (b ≤ a))) (by simp [binOp, Op.intCmp]) sat (sv := .va (.bool (decide (b ≤ a)))) rfl trivial hs
    ·exact hs.elim
 ·rename_i a b
  simp only [SV.rel, SA.den] at hr hr'; subst hr; subst hr'
  split at hs
  ·obtain ⟨hl, hs⟩ := hs
   refine zb3 zfw (r := .string ⟨(a ++ b).toArray⟩) ?_ sat (sv := .va (.str (a ++ b))) rfl trivial hs
   have h1 : ¬ (9223372036854775807 < ((a.length : Int) + (b.length : Int))) := by omega
   have h2 : (⟨a.toArray⟩ : ByteArray) ++ ⟨b.toArray⟩ = ⟨(a ++ b).toArray⟩ := by apply ByteArray.ext; simp
   have h3 : IntKind.i64.max = 9223372036854775807 := by decide
   simp [binOp, Op.stringOp, ByteArray.size, h3, h1, h2]
  ·exact zb3 zfw (r := .bool (a == b)) (by simp [binOp, Op.stringOp]) sat (sv := .va (.bool (a == b))) rfl trivial hs
  ·exact zb3 zfw (r := .bool (!(a == b))) (by simp [binOp, Op.stringOp]) sat (sv := .va (.bool (!(a == b)))) rfl trivial hs
  ·exact zb3 zfw (r := .bool (Op.bytesLess a b)) (by simp [binOp, Op.stringOp]) sat (sv := .va (.bool (Op.bytesLess a b))) rfl trivial hs
  ·exact hs.elim
 ·simp only [SV.rel, SA.den] at hr hr'; subst hr; subst hr'
  exact zfu hΘ hs sat
 ·simp only [SV.rel, SA.den] at hr hr'; subst hr; subst hr'
  exact zfu hΘ hs sat
 ·simp only [SV.rel, SA.den] at hr hr'; subst hr; subst hr'
  exact zfu hΘ hs sat
 ·simp only [SV.rel, SA.den] at hr hr'; subst hr; subst hr'
  exact zfu hΘ hs sat
 ·rename_i l m
  simp only [SV.rel] at hr hr'; subst hr; subst hr'
  split at hs
  ·obtain ⟨b, hb, hs⟩ := hs
   unfold AggEq at hb
   obtain ⟨h1, h2⟩ := hb ρ w .eql xo yo
   exact zb3 h1 (r := .bool b) (by show (do pure (Value.bool (← Op.equal t _ _)) : Sem Value).run P w = _; simp only [Sem.run_bind, h2, Result.andThen_ok, Sem.run_pure]) sat (sv := .va (.bool b)) rfl trivial hs
  ·obtain ⟨b, hb, hs⟩ := hs
   unfold AggEq at hb
   obtain ⟨h1, h2⟩ := hb ρ w .neq xo yo
   exact zb3 h1 (r := .bool (!b)) (by show (do pure (Value.bool (!(← Op.equal t _ _))) : Sem Value).run P w = _; simp only [Sem.run_bind, h2, Result.andThen_ok, Sem.run_pure]) sat (sv := .va (.bool (!b))) rfl trivial hs
  ·exact hs.elim
 ·exact hs.elim
def s_un (op : UnOp) (x : SV) (h : Hp) (nx : Nat) (K : Kt) : Prop :=
 match op, x with
 | .not, .va (.lit b) => K (.va (.lit (!b))) h nx
 | .not, .va (.bool b) => K (.va (.bool (!b))) h nx
 | .neg, .va (.int k n) => K (.va (.int k (k.wrap (0 - n)))) h nx
 | .xor, .va (.int k n) => K (.va (.int k (bXor k (if k.signed then -1 else k.max) n))) h nx
 | _, _ => False
theorem zrc {op : UnOp} {x : SV} {v : Value} (hs : s_un op x h nx K) (sat : Sat C ρ h nx w) (hr : x.rel ρ v) : YldS P (Op.unary op v) ρ h nx w K := by
 unfold s_un at hs
 split at hs
 ·rename_i b; simp only [SV.rel, SA.den] at hr; subst hr
  exact YldS.mk sat (.bool (!b)) (.va (.lit (!b))) (by simp [Op.unary]) rfl trivial hs
 ·rename_i b; simp only [SV.rel, SA.den] at hr; subst hr
  exact YldS.mk sat (.bool (!b)) (.va (.bool (!b))) (by simp [Op.unary]) rfl trivial hs
 ·rename_i k n; simp only [SV.rel, SA.den] at hr; subst hr
  exact YldS.mk sat (.int k (k.wrap (0 - n))) (.va (.int k (k.wrap (0 - n)))) (by simp only [Op.unary, Op.intArith]; rfl) rfl trivial hs
 ·rename_i k n; simp only [SV.rel, SA.den] at hr; subst hr
  exact YldS.mk sat (.int k (bXor k (if k.signed then -1 else k.max) n)) (.va (.int k (bXor k (if k.signed then -1 else k.max) n))) (by simp only [Op.unary, Op.intBits]; rfl) rfl trivial hs
 ·exact hs.elim
def zhu (c a b : SV) (h : Hp) (nx : Nat) (K : Kt) : Prop :=
 match c with
 | .va (.lit true) => K a h nx
 | .va (.lit false) => K b h nx
 | .va (.bool c) => match a, b with
  | .va (.bool x), .va (.bool y) => K (.va (.bool (bif c then x else y))) h nx
  | .va (.bool x), .va (.lit y) => K (.va (.bool (bif c then x else y))) h nx
  | .va (.lit x), .va (.bool y) => K (.va (.bool (bif c then x else y))) h nx
  | .va (.lit x), .va (.lit y) => K (.va (.bool (bif c then x else y))) h nx
  | a, b => (c = true → K a h nx) ∧ (c = false → K b h nx)
 | _ => False
theorem zll {c a b : SV} {vc va vb : Value} (hs : zhu c a b h nx K) (sat : Sat C ρ h nx w) (hc : c.rel ρ vc) (ha : a.rel ρ va) (hb : b.rel ρ vb) (hab : a.below nx) (hbb : b.below nx) :
  YldS P (do pure (if ← asBool vc then va else vb)) ρ h nx w K := by
 unfold zhu at hs
 split at hs
 ·simp only [SV.rel, SA.den] at hc; subst hc
  exact YldS.mk sat va a (by simp [asBool]) ha hab hs
 ·simp only [SV.rel, SA.den] at hc; subst hc
  exact YldS.mk sat vb b (by simp [asBool]) hb hbb hs
 ·rename_i c
  simp only [SV.rel, SA.den] at hc; subst hc
  split at hs
  ·rename_i x y; simp only [SV.rel, SA.den] at ha hb; subst ha; subst hb
   exact YldS.mk sat (.bool (bif c then x else y)) (.va (.bool (bif c then x else y))) (by cases c <;> simp [asBool]) rfl trivial hs
  ·rename_i x y; simp only [SV.rel, SA.den] at ha hb; subst ha; subst hb
   exact YldS.mk sat (.bool (bif c then x else y)) (.va (.bool (bif c then x else y))) (by cases c <;> simp [asBool]) rfl trivial hs
  ·rename_i x y; simp only [SV.rel, SA.den] at ha hb; subst ha; subst hb
   exact YldS.mk sat (.bool (bif c then x else y)) (.va (.bool (bif c then x else y))) (by cases c <;> simp [asBool]) rfl trivial hs
  ·rename_i x y; simp only [SV.rel, SA.den] at ha hb; subst ha; subst hb
   exact YldS.mk sat (.bool (bif c then x else y)) (.va (.bool (bif c then x else y))) (by cases c <;> simp [asBool]) rfl trivial hs
  ·cases c with
   | true => exact YldS.mk sat va a (by simp [asBool]) ha hab (hs.1 rfl)
   | false => exact YldS.mk sat vb b (by simp [asBool]) hb hbb (hs.2 rfl)
 ·exact hs.elim
def zkp (Θ : Tys) (s d : TypeId) (x : SV) (h : Hp) (nx : Nat) (K : Kt) : Prop :=
 match Θ s, Θ d, x with
 | some _, some ⟨.int k, _, _, _⟩, .va (.int _ n) => K (.va (.int k (k.wrap n))) h nx
 | some _, some ⟨.string, _, _, _⟩, .va (.str s) => K (.va (.str s)) h nx
 | some ⟨.slice e, _, _, _⟩, some ⟨.string, _, _, _⟩, .va (.slice nil i k o sz len _) => match Θ e with
  | some ⟨.int .u8, _, _, _⟩ => (match nil with
   | true => K (.va (.str [])) h nx
   | false => match Nat.beq sz 1 with
    | true => rdEls h i k o sz len fun X => ∃ s : List UInt8, X = (s.map fun b => [SA.int .u8 b.toNat]) ∧ K (.va (.str s)) h nx
    | false => False)
  | _ => False
 | some ⟨.slice e, _, _, _⟩, some ⟨.string, _, _, _⟩, .va .nilsl => (match Θ e with
  | some ⟨.int .u8, _, _, _⟩ => K (.va (.str [])) h nx
  | _ => False)
 | some _, some ⟨.slice e, _, _, _⟩, .va (.str s) => match Θ e with
  | some ⟨.int .u8, _, _, _⟩ => ∀ c, s.length ≤ c → K (.va (.slice false nx 0 0 1 s.length c)) (lput h nx (.one (.arr e 1 (s.map fun b => [SA.int .u8 b.toNat]) c))) (nx + 1)
  | _ => False
 | _, _, _ => False
theorem zim (P : Program) (w : World) : ∀ (s : List UInt8) (acc : ByteArray),
  (forIn (s.map fun b => Value.int .u8 (b.toNat : Int)) acc (fun (c : Value) (r : ByteArray) => (do
   let .int .u8 n := c | stuck "bytesToString: byte expected"
   pure (ForInStep.yield (r.push (UInt8.ofNat n.toNat))) : Sem (ForInStep ByteArray)))).run P w = .ok (acc ++ ⟨s.toArray⟩) w
 | [], acc => by
  have : acc ++ (⟨#[]⟩ : ByteArray) = acc := by apply ByteArray.ext; simp
  simp [this]
 | b :: r, acc => by
  simp only [List.map_cons, List.forIn_cons, Sem.run_bind]
  have h1 : UInt8.ofNat ((b.toNat : Int).toNat) = b := by simp
  simp only [h1, Sem.run_pure, Result.andThen_ok]
  rw [zim P w r (acc.push b)]
  congr 1
  apply ByteArray.ext
  simp
end
end Sx

namespace Sx
open Go
section
variable {P : Program} {Θ : Tys} {C : Ctx} {ρ : Rho} {h : Hp} {nx : Nat} {w : World} {K : Kt}
theorem zo3 (w : World) (c : Array Value) (e : TypeId) : ((w.alloc (.cells c e (0, 0))).freeze ⟨w.heap.size, c.size, none⟩ 1) = w.alloc (.cells c e (c.size, c.size + 1)) := by
 simp only [World.freeze, World.alloc, Nat.succ_ne_zero, if_false]
 congr 1
 apply Array.ext
 ·simp
 ·intro i h1 h2
  simp only [Array.getElem_modify, Array.getElem_push]
  by_cases hi : i = w.heap.size
  ·subst hi; simp
  ·have : i < w.heap.size := by simp at h2; omega
   simp [this, Ne.symm hi]
theorem zpi (hΘ : Θ.Ok P) {s d : TypeId} {x : SV} {v : Value} (hs : zkp Θ s d x h nx K) (sat : Sat C ρ h nx w) (hr : x.rel ρ v) : Yld P (convert s d v) C ρ nx w K := by
 unfold zkp at hs
 split at hs
 ·rename_i i0 k a b c k' n h1 h2
  simp only [SV.rel, SA.den] at hr; subst hr
  refine Yld.same sat (.int k (k.wrap n)) (.va (.int k (k.wrap n))) ?_ rfl trivial hs
  simp only [convert, Sem.run_bind, zbd hΘ h1, zbd hΘ h2, Result.andThen_ok, Conv.intToInt]
  cases i0.d <;> rfl
 ·rename_i i0 a b c s' h1 h2
  simp only [SV.rel, SA.den] at hr; subst hr
  refine Yld.same sat (.string ⟨s'.toArray⟩) (.va (.str s')) ?_ rfl trivial hs
  simp only [convert, Sem.run_bind, zbd hΘ h1, zbd hΘ h2, Result.andThen_ok]
  cases i0.d <;> rfl
 ·rename_i e a b c a' b' c' nil i k o sz len cap h1 h2
  split at hs
  ·rename_i a2 b2 c2 he
   have conv : ∀ z, (convert s d (.slice z len cap)).run P w = (Conv.bytesToString (.slice z len cap)).run P w := by
    intro z
    cases z <;> simp [convert, zbd hΘ h1, zbd hΘ h2, zbd hΘ he]
   split at hs
   ·simp only [SV.rel, SA.den, if_true] at hr; subst hr
    refine Yld.same sat (.string .empty) (.va (.str [])) ?_ rfl trivial hs
    rw [conv]; rfl
   ·split at hs
    ·rename_i hsz
     have hsz := Nat.eq_of_beq_eq_true hsz
     subst hsz
     simp only [SV.rel, SA.den, Bool.false_eq_true, if_false] at hr; subst hr
     obtain ⟨X, ⟨s', rfl, hs⟩, hl, h3, h4, t', pre, post, hrow, hpre⟩ := zhf hs sat
     refine Yld.same sat (.string ⟨s'.toArray⟩) (.va (.str s')) ?_ rfl trivial hs
     rw [conv]
     have hload : (loadCells ⟨ρ i k, o * 1, none⟩ (s'.map fun b => Value.int .u8 (b.toNat : Int)).length).run P w = .ok (s'.map fun b => Value.int .u8 (b.toNat : Int)).toArray w :=
      run_loadCells_list (P := P) w _ _ (fun j u hu => by
       rw [addr_add, hrow.cell, ← hpre, zdn, List.map_map]
       have hj : j < (s'.map fun b => Value.int .u8 (b.toNat : Int)).length := (List.getElem?_eq_some_iff.1 hu).1
       rw [List.append_assoc, List.getElem?_append_right (by omega), Nat.add_sub_cancel_left, List.getElem?_append_left (by simpa using hj)]
       exact hu)
     have hlen : (s'.map fun b => Value.int .u8 (b.toNat : Int)).length = len := by simpa using hl
     rw [hlen] at hload
     have hloop := zim P w s' ByteArray.empty
     have he : (ByteArray.empty ++ (⟨s'.toArray⟩ : ByteArray)) = ⟨s'.toArray⟩ := by apply ByteArray.ext; simp
     rw [he] at hloop
     simp only [Conv.bytesToString, Sem.run_bind, hload, Result.andThen_ok]
     rw [← Array.forIn_toList]
     erw [hloop]
     rfl
    ·exact hs.elim
  ·exact hs.elim
 ·rename_i e a b c a' b' c' h1 h2
  split at hs
  ·rename_i a2 b2 c2 he
   simp only [SV.rel, SA.den] at hr; subst hr
   refine Yld.same sat (.string .empty) (.va (.str [])) ?_ rfl trivial hs
   have conv : (convert s d (.slice none 0 0)).run P w = (Conv.bytesToString (.slice none 0 0)).run P w := by
    simp [convert, zbd hΘ h1, zbd hΘ h2, zbd hΘ he]
   rw [conv]; rfl
  ·exact hs.elim
 ·rename_i i0 e a b c s' h1 h2
  split at hs
  ·rename_i a2 b2 c2 he
   simp only [SV.rel, SA.den] at hr; subst hr
   have hsz : (⟨s'.toArray⟩ : ByteArray).size = s'.length := by simp [ByteArray.size]
   let cap := (Question.appendCap s'.length 0 e).cut (w.tape w.drawn (.appendCap s'.length 0 e))
   have hcap : s'.length ≤ cap := by simp only [cap, Question.cut]; omega
   let cells : Array Value := (s'.map fun b => Value.int .u8 (b.toNat : Int)).toArray ++ Array.replicate (cap - s'.length) (.int .u8 0)
   have hrun : (convert s d (.string ⟨s'.toArray⟩)).run P w = .ok (.slice (some ⟨w.heap.size, 0, none⟩) s'.length cap) (w.drew.alloc (.cells cells e (cells.size, cells.size + 1))) := by
    have hfz := zo3 w.drew cells e
    have hsh : (w.drew.alloc (.cells cells e (0, 0))).shape? w.heap.size = some (e, cells.size) := by
     have hg : (w.drew.alloc (.cells cells e (0, 0))).heap[w.heap.size]? = some (.cells cells e (0, 0)) := by
      show (w.heap.push _)[w.heap.size]? = _; simp
     simp only [World.shape?, hg]
    have conv : (convert s d (.string ⟨s'.toArray⟩)).run P w = (Conv.stringToBytes e ⟨s'.toArray⟩).run P w := by
     simp only [convert, Sem.run_bind, zbd hΘ h1, zbd hΘ h2, Result.andThen_ok]
     cases i0.d <;> simp [zbd hΘ he]
    rw [conv]
    have e1 : ((⟨s'.toArray⟩ : ByteArray).data.map fun b => Value.int .u8 (b.toNat : Int)) = (s'.map fun b => Value.int .u8 (b.toNat : Int)).toArray := by simp
    simp only [Conv.stringToBytes, hsz, Sem.run_bind, run_choose, Question.forced, Bool.false_eq_true, if_false, Result.andThen_ok, e1, newRow, run_newObj, Sem.run_pure, markStringish, run_shape]
    simp only [World.shape?, Array.getElem?_push, if_true]
    have hfz' : (World.freeze { heap := w.heap.push (.cells cells e (0, 0)), tape := w.tape, drawn := w.drawn + 1, os := w.os, output := w.output } ⟨w.heap.size, cells.size, none⟩ 1) = w.drew.alloc (.cells cells e (cells.size, cells.size + 1)) := hfz
    simp only [run_freeze, Result.andThen_ok]
    rw [← hfz']
   refine ⟨_, _, _, _, _, rext ρ nx w.heap.size, hrun, ?_, ?_, hs cap hcap, ?_, fun i hi => zet hi, Nat.le_succ _⟩
   ·simp [SV.rel, SA.den, zb7]
   ·simp [SV.below, SA.below]
   ·refine sat.drew.new (.arr e 1 (s'.map fun b => [SA.int .u8 b.toNat]) cap) _ (by intro x hx a ha; simp at hx; obtain ⟨b, _, rfl⟩ := hx; simp at ha; subst ha; trivial) ⟨by simp, by simpa using hcap, List.replicate (cap - s'.length) (.int .u8 0), by simp, (cells.size, cells.size + 1), ?_, ?_⟩
    ·intro j hj hh
     rw [zdn] at hj
     simp [cells] at hj hh
     omega
    ·congr 1
     rw [zdn]
     apply Array.ext'
     simp [cells, SA.den]
  ·exact hs.elim
 ·exact hs.elim
end
end Sx

namespace Sx
open Go
def zut (Θ : Tys) (t : TypeId) (x : SV) (h : Hp) (nx : Nat) (K : Kt) : Prop :=
 match Θ t with
 | some ⟨.interface _, _, _, _⟩ => False
 | some _ => match x with
  | .va (.int k n) => K (.va (.ifc t (.int k n))) h nx
  | .va (.str s) => K (.va (.ifc t (.string ⟨s.toArray⟩))) h nx
  | _ => False
 | none => False
def plsOf : List SV → Option (List Pl)
 | [] => some []
 | .va (.ptr p) :: r => match plsOf r with
  | some l => some (p :: l)
  | none => none
 | _ :: _ => none
def evL (t : List (List (Nat × SV))) : List Operand → List SV
 | [] => []
 | x :: r => ev t x :: evL t r
def evP (t : List (List (Nat × SV))) : List (Nat × Operand) → List (Nat × SV)
 | [] => []
 | p :: r => (p.1, ev t p.2) :: evP t r
def zum (f : Fn) (first : List Operand) (caps : List SV) (h : Hp) (nx : Nat) (K : Kt) : Prop :=
 match first, plsOf caps with
 | [], some l => K (.va (.fn f l)) h nx
 | _, _ => False
def evO (t : List (List (Nat × SV))) : Option Operand → Option SV
 | none => none
 | some x => some (ev t x)
abbrev Kp := Value → Hp → Nat → Prop
def s_call (P : Program) (Θ : Tys) (t : List (List (Nat × SV))) (c : Call) (h : Hp) (nx : Nat) (K : Kt) (KP : Kp) : Prop :=
 match c.callee with
 | .builtin b => (match b, evL t c.args.toList with
  | .len, [x] => s_len Θ c.argTypes.toList x h nx K
  | .cap, [x] => s_cap Θ c.argTypes.toList x h nx K
  | .append, [x, y] => zjr Θ c.argTypes.toList x y h nx K
  | .min, [x, y] => s_min x y h nx K
  | .max, [x, y] => s_max x y h nx K
  | _, _ => False)
 | .value f => (match ev t f with
  | .va (.fn (.func g) cap) => zcb P g (evL t c.args.toList ++ cap.map fun p => SV.va (.ptr p)) h nx fun out h' nx' => (match out with
   | .ret v => K v h' nx'
   | .panic v => KP v h' nx')
  | _ => False)
 | .invoke _ _ => False
def sop (P : Program) (Θ : Tys) (t : List (List (Nat × SV))) (o : Op) (h : Hp) (nx : Nat) (K : Kt) (KP : Kp) : Prop :=
 match o with
 | .move x => K (ev t x) h nx
 | .assign x => K (ev t x) h nx
 | .pick c a b => zhu (ev t c) (ev t a) (ev t b) h nx K
 | .alloc e => zl7 Θ e h nx K
 | .box e x => s_box e (ev t x) h nx K
 | .build ty ps => zme Θ ty (evP t ps.toList) h nx K
 | .buildSlice ty n ps => ze5 Θ ty n (evP t ps.toList) h nx K
 | .load ty a => zek Θ ty (ev t a) h nx K
 | .store ty a v => zg9 Θ ty (ev t a) (ev t v) h nx K
 | .nilCheck x => (match ev t x with
  | .va (.ptr p) => K (.va (.ptr p)) h nx
  | .va (.fn (.func f) c) => K (.va (.fn (.func f) c)) h nx
  | _ => False)
 | .binOp op ty x y _ => s_bin P Θ op ty (ev t x) (ev t y) h nx K
 | .unOp op _ x => s_un op (ev t x) h nx K
 | .convert s d x => zkp Θ s d (ev t x) h nx K
 | .makeInterface ty x => zut Θ ty (ev t x) h nx K
 | .makeFunc f a c => zum f a.toList (evL t c.toList) h nx K
 | .slice ty x lo hi mx => zfk Θ ty (ev t x) (evO t lo) (evO t hi) (evO t mx) h nx K
 | .fieldAddr ty x f => zcz Θ ty (ev t x) f h nx K
 | .field ty x f => zfh Θ ty (ev t x) f h nx K
 | .indexAddr ty x i => zc0 Θ ty (ev t x) (ev t i) h nx K
 | .index ty x i => zfj Θ ty (ev t x) (ev t i) h nx K
 | .extract x i => (match ev t x with
  | .tup l => (match nth l i with
   | some c => K c.v h nx
   | none => False)
  | _ => False)
 | .call c => s_call P Θ t c h nx K KP
 | .panic x => (match ev t x with
  | .va (.ifc ty v) => KP (.iface ty v) h nx
  | _ => False)
 | _ => False
section
variable {P : Program} {Θ : Tys} {C : Ctx} {ρ : Rho} {st : St} {a : Act} {w : World} {K : Kt} {KP : Kp}
def Upon (P : Program) (o : Oper) (C : Ctx) (ρ : Rho) (st : St) (a : Act) (K : Kt) (KP : Kp) (r : Result Next) : Prop :=
 o.upon P a (fun a' w' => ∃ v sv h' nx' ρ', a' = a.put o.dst v ∧ K sv h' nx' ∧ sv.rel ρ' v ∧ sv.below nx' ∧ Den C ρ' { st with h := h', nx := nx' } a w' ∧ (∀ i, i < st.nx → ρ' i = ρ i) ∧ st.nx ≤ nx')
  (fun e a' w' => ∃ v h' nx' ρ', e = .panic [{ v, recovered := false }] ∧ KP v h' nx' ∧ Den C ρ' { st with h := h', nx := nx' } a' w') r
theorem zbs {o : Oper} {s : Sem Value} (d : Den C ρ st a w) (hy : Yld P s C ρ st.nx w K) : Upon P o C ρ st a K KP ((do pure (Next.value (← s)) : Sem Next).run P w) := by
 obtain ⟨v, w', sv, h', nx', ρ', h1, h2, h3, h4, h5, h6, h7⟩ := hy
 simp only [Sem.run_bind, h1, Result.andThen_ok, Sem.run_pure]
 exact ⟨v, sv, h', nx', ρ', rfl, h4, h2, h3, d.heap h5 h6 h7, h6, h7⟩
theorem zg4 (d : Den C ρ st a w) : ∀ l : List Operand, relL ρ (evL st.t l) (l.map a.eval) ∧ ∀ s ∈ evL st.t l, s.below st.nx
 | [] => ⟨trivial, by simp [evL]⟩
 | x :: r => by
  obtain ⟨h1, h2⟩ := zg4 d r
  obtain ⟨h3, h4⟩ := zbk d x
  refine ⟨⟨h3, h1⟩, ?_⟩
  intro s hs
  simp only [evL, List.mem_cons] at hs
  rcases hs with rfl | hs
  ·exact h4
  ·exact h2 s hs
theorem zl9 (d : Den C ρ st a w) : ∀ l : List (Nat × Operand), (∀ (j : Nat) (p : Nat × SV) (q : Nat × Value), (evP st.t l)[j]? = some p → (l.map fun x => (x.1, a.eval x.2))[j]? = some q → p.1 = q.1 ∧ p.2.rel ρ q.2) ∧
  (evP st.t l).length = l.length ∧ ∀ p ∈ evP st.t l, p.2.below st.nx
 | [] => ⟨by simp [evP], rfl, by simp [evP]⟩
 | x :: r => by
  obtain ⟨h1, h2, h3⟩ := zl9 d r
  obtain ⟨h4, h5⟩ := zbk d x.2
  refine ⟨?_, by simp [evP, h2], ?_⟩
  ·intro j p q hp hq
   cases j with
   | zero => simp [evP] at hp hq; subst hp; subst hq; exact ⟨rfl, h4⟩
   | succ j => exact h1 j p q (by simpa [evP] using hp) (by simpa using hq)
  ·intro p hp
   simp only [evP, List.mem_cons] at hp
   rcases hp with rfl | hp
   ·exact h5
   ·exact h3 p hp
theorem zmg (d : Den C ρ st a w) (x : Option Operand) : relO ρ (evO st.t x) (x.map a.eval) := by
 cases x with
 | none => trivial
 | some x => exact (zbk d x).1
theorem zk4 {ρ : Rho} {n : Nat} : ∀ {l : List SV} {ps : List Pl} {vs : List Value}, plsOf l = some ps → relL ρ l vs → (∀ s ∈ l, s.below n) → vs = ps.map (fun p => Value.pointer (some (p.addr ρ))) ∧ ∀ p ∈ ps, p.i < n
 | [], ps, vs, h, hr, _ => by
  simp [plsOf] at h; subst h
  cases vs with
  | nil => exact ⟨rfl, by simp⟩
  | cons v r => exact hr.elim
 | s :: r, ps, vs, h, hr, hb => by
  cases vs with
  | nil => exact hr.elim
  | cons v vr =>
   unfold plsOf at h
   split at h
   ·rename_i heq; cases heq
   ·rename_i p r' heq
    cases heq
    split at h
    ·rename_i l' hl
     cases h
     obtain ⟨h1, h2⟩ := zk4 (ρ := ρ) (n := n) hl hr.2 (fun s hs => hb s (by simp [hs]))
     refine ⟨?_, ?_⟩
     ·have := hr.1; simp only [SV.rel, SA.den] at this; rw [this, h1]; rfl
     ·intro q hq
      rcases List.mem_cons.1 hq with rfl | hq
      ·exact hb (.va (.ptr q)) (by simp)
      ·exact h2 q hq
    ·cases h
   ·cases h
theorem zhv {ρ : Rho} : ∀ {a b : List SV} {x y : List Value}, relL ρ a x → relL ρ b y → relL ρ (a ++ b) (x ++ y)
 | [], b, [], y, _, h => h
 | [], b, v :: x, y, h, _ => h.elim
 | s :: a, b, [], y, h, _ => h.elim
 | s :: a, b, v :: x, y, h1, h2 => ⟨h1.1, zhv h1.2 h2⟩
theorem zku {ρ : Rho} : ∀ l : List Pl, relL ρ (l.map fun p => SV.va (.ptr p)) (l.map fun p => Value.pointer (some (p.addr ρ)))
 | [] => trivial
 | p :: r => ⟨rfl, zku r⟩
theorem zg5 (hΘ : Θ.Ok P) {o : Oper} (hs : sop P Θ st.t o.op st.h st.nx K KP) (d : Den C ρ st a w) : Upon P o C ρ st a K KP ((execOp a.eval o).run P w) := by
 obtain ⟨dst, op, type, pos, after, guard⟩ := o
 cases op
 case move x => exact zbs (s := pure (a.eval x)) d (Yld.same d.sat _ _ rfl (zbk d x).1 (zbk d x).2 hs)
 case assign x => exact zbs (s := pure (a.eval x)) d (Yld.same d.sat _ _ rfl (zbk d x).1 (zbk d x).2 hs)
 case pick c x y =>
  have := zbs (KP := KP) (o := ⟨dst, .pick c x y, type, pos, after, guard⟩) d (YldS.yld (zll (P := P) hs d.sat (zbk d c).1 (zbk d x).1 (zbk d y).1 (zbk d x).2 (zbk d y).2) d.sat)
  simpa [execOp] using this
 case alloc e => exact zbs d (zo0 hΘ hs d.sat)
 case box e x => exact zbs d (zr4 hs d.sat (zbk d x).1 (zbk d x).2)
 case build ty ps =>
  obtain ⟨h1, h2, h3⟩ := zl9 d ps.toList
  refine zbs d (YldS.yld (zod hΘ hs d.sat (by simp [h2]) (fun j p q hp hq => h1 j p q hp ?_) h3) d.sat)
  simpa using hq
 case buildSlice ty n ps =>
  obtain ⟨h1, h2, h3⟩ := zl9 d ps.toList
  refine zbs d (zh4 hΘ hs d.sat (by simp [h2]) (fun j p q hp hq => h1 j p q hp ?_) h3)
  simpa using hq
 case load ty x => exact zbs d (zrt hΘ hs d.sat (zbk d x).1)
 case store ty x y =>
  obtain ⟨w', h', h1, h2, h3⟩ := zf6 hΘ hs d.sat (zbk d x).1 (zbk d y).1 (zbk d y).2
  have : (execOp a.eval ⟨dst, .store ty x y, type, pos, after, guard⟩).run P w = .ok .skip w' := by
   simp [execOp, h1]
  rw [this]
  exact ⟨undef, .tup [], h', st.nx, ρ, rfl, h2, rfl, by simp [SV.below], d.heap h3 (fun _ _ => rfl) (Nat.le_refl _), fun _ _ => rfl, Nat.le_refl _⟩
 case nilCheck x =>
  simp only [sop] at hs
  have hx := zbk d x
  split at hs
  ·rename_i p he
   rw [he] at hx
   have hv : a.eval x = .pointer (some (p.addr ρ)) := hx.1
   have : (execOp a.eval ⟨dst, .nilCheck x, type, pos, after, guard⟩).run P w = .ok (.value (.pointer (some (p.addr ρ)))) w := by simp [execOp, hv]
   rw [this]
   exact ⟨_, _, st.h, st.nx, ρ, rfl, hs, rfl, hx.2, d, fun _ _ => rfl, Nat.le_refl _⟩
  ·rename_i f c he
   rw [he] at hx
   have hv : a.eval x = _ := hx.1
   simp only [SA.den] at hv
   have : (execOp a.eval ⟨dst, .nilCheck x, type, pos, after, guard⟩).run P w = .ok (.value (a.eval x)) w := by simp [execOp, hv]
   rw [this]
   exact ⟨_, _, st.h, st.nx, ρ, rfl, hs, hx.1, hx.2, d, fun _ _ => rfl, Nat.le_refl _⟩
  ·exact hs.elim
 case binOp op ty x y ty' => exact zbs d (YldS.yld (zna hΘ hs d.sat (zbk d x).1 (zbk d y).1) d.sat)
 case unOp op ty x => exact zbs d (YldS.yld (zrc hs d.sat (zbk d x).1) d.sat)
 case convert s dd x => exact zbs d (zpi hΘ hs d.sat (zbk d x).1)
 case makeInterface ty x =>
  simp only [sop] at hs
  have hx := zbk d x
  unfold zut at hs
  split at hs
  ·exact hs.elim
  ·rename_i i hn hi
   have hu : ∀ v, (Instr.makeInterface ty v).run P w = .ok (.iface ty v) w := by
    intro v
    simp only [Instr.makeInterface, Sem.run_bind, zbd hΘ hi, Result.andThen_ok]
    cases hd : i.d <;> first | rfl | skip
    rename_i ms
    obtain ⟨i1, i2, i3, i4⟩ := i
    simp only at hd; subst hd
    exact (hn ms i2 i3 i4 rfl).elim
   split at hs
   ·rename_i k n he
    rw [he] at hx
    exact zbs d (Yld.same d.sat _ (.va (.ifc ty (.int k n))) (hu _) (by rw [hx.1]; rfl) trivial hs)
   ·rename_i s he
    rw [he] at hx
    exact zbs d (Yld.same d.sat _ (.va (.ifc ty (.string ⟨s.toArray⟩))) (hu _) (by rw [hx.1]; rfl) trivial hs)
   ·exact hs.elim
  ·exact hs.elim
 case makeFunc f first caps =>
  simp only [sop] at hs
  unfold zum at hs
  split at hs
  ·rename_i l hf hl
   have hf' : first = #[] := by simpa using hf
   subst hf'
   obtain ⟨h1, h2⟩ := zg4 d caps.toList
   obtain ⟨h3, h4⟩ := zk4 hl h1 h2
   refine zbs d (Yld.same d.sat (.func f #[] (caps.map a.eval)) (.va (.fn f l)) (by simp [Instr.makeFunc]) ?_ h4 hs)
   simp only [SV.rel, SA.den]
   congr 1
   rw [← h3]; apply Array.ext'; simp
  ·exact hs.elim
 case slice ty x lo hi mx => exact zbs d (YldS.yld (zir hΘ hs d.sat (zbk d x).1 (zmg d lo) (zmg d hi) (zmg d mx) (zbk d x).2) d.sat)
 case fieldAddr ty x f => exact zbs d (YldS.yld (zfd hΘ hs d.sat (zbk d x).1 (zbk d x).2) d.sat)
 case field ty x f => exact zbs d (YldS.yld (zi8 hΘ hs d.sat (zbk d x).1 (zbk d x).2) d.sat)
 case indexAddr ty x i => exact zbs d (YldS.yld (zfc hΘ hs d.sat (zbk d x).1 (zbk d i).1 (zbk d x).2) d.sat)
 case index ty x i => exact zbs d (YldS.yld (zi7 hΘ hs d.sat (zbk d x).1 (zbk d i).1 (zbk d x).2) d.sat)
 case extract x i =>
  simp only [sop] at hs
  have hx := zbk d x
  split at hs
  ·rename_i l he
   rw [he] at hx
   split at hs
   ·rename_i c hc
    have hv : a.eval x = .tuple (l.map (SC.den ρ)).toArray := hx.1
    rw [zfv] at hc
    have hmem : c ∈ l := List.mem_of_getElem? hc
    refine zbs d (Yld.same d.sat (c.den ρ) c.v ?_ ?_ ?_ hs)
    ·simp [hv, Instr.extract, hc]
    ·cases c <;> rfl
    ·have := hx.2 c hmem; cases c <;> exact this
   ·exact hs.elim
  ·exact hs.elim
 case call c =>
  simp only [sop] at hs
  unfold s_call at hs
  obtain ⟨callee, args, argTypes⟩ := c
  obtain ⟨h1, h2⟩ := zg4 d args.toList
  split at hs
  ·rename_i b hcal
   simp only at hcal; subst hcal
   have two : ∀ x y, evL st.t args.toList = [x, y] → ∃ v u, args.map a.eval = #[v, u] ∧ x.rel ρ v ∧ y.rel ρ u := by
    intro x y hxy
    rw [hxy] at h1
    match hm : args.toList.map a.eval, h1 with
    | [v, u], h1 => exact ⟨v, u, by apply Array.ext'; simpa using hm, h1.1, h1.2.1⟩
   split at hs
   ·rename_i x hxy
    rw [hxy] at h1
    match hm : args.toList.map a.eval, h1 with
    | [v], h1 =>
     have hma : args.map a.eval = #[v] := by apply Array.ext'; simpa using hm
     have := zbs (KP := KP) (o := ⟨dst, .call ⟨.builtin .len, args, argTypes⟩, type, pos, after, guard⟩) d (YldS.yld (znt (ty := type) hΘ hs d.sat h1.1) d.sat)
     simpa [execOp, resolve, invoke, builtin, hma] using this
   ·rename_i x hxy
    rw [hxy] at h1
    match hm : args.toList.map a.eval, h1 with
    | [v], h1 =>
     have hma : args.map a.eval = #[v] := by apply Array.ext'; simpa using hm
     have := zbs (KP := KP) (o := ⟨dst, .call ⟨.builtin .cap, args, argTypes⟩, type, pos, after, guard⟩) d (YldS.yld (zr0 (ty := type) hΘ hs d.sat h1.1) d.sat)
     simpa [execOp, resolve, invoke, builtin, hma] using this
   ·rename_i x y hxy
    obtain ⟨v, u, hma, hx, hy⟩ := two x y hxy
    have := zbs (KP := KP) (o := ⟨dst, .call ⟨.builtin .append, args, argTypes⟩, type, pos, after, guard⟩) d (zmt (ty' := type) hΘ hs d.sat hx hy)
    simpa [execOp, resolve, invoke, builtin, hma] using this
   ·rename_i x y hxy
    obtain ⟨v, u, hma, hx, hy⟩ := two x y hxy
    have := zbs (KP := KP) (o := ⟨dst, .call ⟨.builtin .min, args, argTypes⟩, type, pos, after, guard⟩) d (YldS.yld (zn4 (P := P) (ts := argTypes) (ty := type) hs d.sat hx hy) d.sat)
    simpa [execOp, resolve, invoke, builtin, hma] using this
   ·rename_i x y hxy
    obtain ⟨v, u, hma, hx, hy⟩ := two x y hxy
    have := zbs (KP := KP) (o := ⟨dst, .call ⟨.builtin .max, args, argTypes⟩, type, pos, after, guard⟩) d (YldS.yld (zns (P := P) (ts := argTypes) (ty := type) hs d.sat hx hy) d.sat)
    simpa [execOp, resolve, invoke, builtin, hma] using this
   ·exact hs.elim
  ·rename_i f hcal
   simp only at hcal; subst hcal
   split at hs
   ·rename_i g cap he
    have hf := zbk d f
    rw [he] at hf
    have hv : a.eval f = .func (.func g) #[] (cap.map fun p => Value.pointer (some (p.addr ρ))).toArray := hf.1
    unfold zcb at hs
    obtain ⟨hent, hc⟩ := hs C ρ w (args.toList.map a.eval ++ cap.map fun p => Value.pointer (some (p.addr ρ))) d.sat (zhv h1 (zku cap)) (by
     intro s hs
     rcases List.mem_append.1 hs with hs | hs
     ·exact h2 s hs
     ·obtain ⟨p, hp, rfl⟩ := List.mem_map.1 hs; exact hf.2 p hp)
    unfold Enters at hent
    have hrun : (execOp a.eval ⟨dst, .call ⟨.value f, args, argTypes⟩, type, pos, after, guard⟩).run P w = .ok (.enter g (args.toList.map a.eval ++ cap.map fun p => Value.pointer (some (p.addr ρ))).toArray) w := by
     have e1 : (#[] ++ args.map a.eval) ++ (cap.map fun p => Value.pointer (some (p.addr ρ))).toArray = (args.toList.map a.eval ++ cap.map fun p => Value.pointer (some (p.addr ρ))).toArray := by
      apply Array.ext'; simp
     simp only [execOp, resolve, hv, Deferred.ofValue, Sem.run_bind, Sem.run_pure, Result.andThen_ok, invoke, e1, hent]
    rw [hrun]
    refine hc.mono ?_
    rintro e w' ⟨out, h', nx', ρ', k1, k2, k3, k4, k5, k6⟩
    cases out with
    | ret s =>
     obtain ⟨v, rfl, hr⟩ := k2
     exact ⟨v, s, h', nx', ρ', rfl, k1, hr, k6, d.heap k3 k4 k5, k4, k5⟩
    | panic v =>
     simp only [Out.rel] at k2
     subst k2
     exact ⟨v, h', nx', ρ', rfl, k1, d.heap k3 k4 k5⟩
   ·exact hs.elim
  ·exact hs.elim
 case panic x =>
  simp only [sop] at hs
  have hx := zbk d x
  split at hs
  ·rename_i ty v he
   rw [he] at hx
   have hv : a.eval x = .iface ty v := hx.1
   have : (execOp a.eval ⟨dst, .panic x, type, pos, after, guard⟩).run P w = .halt (.panic (.iface ty v)) w := by simp [execOp, hv, Instr.panic]
   rw [this]
   exact ⟨_, st.h, st.nx, ρ, rfl, hs, d⟩
  ·exact hs.elim
 all_goals exact hs.elim
end
end Sx

namespace Sx
open Go
def setd (dst : Option Tmp) (v : SV) (st : St) (K : St → Prop) : Prop :=
 match dst with
 | none => K st
 | some d => match Nat.ble (d + 1) st.nt with
  | true => K { st with t := lput st.t d v }
  | false => False
def gslot : List Oper → Nat → Option Tmp
 | [], _ => none
 | o :: _, 0 => o.dst
 | _ :: r, n + 1 => gslot r n
theorem zjc : ∀ (l : List Oper) (j : Nat), gslot l j = (l[j]?).bind (·.dst)
 | [], j => by simp [gslot]
 | o :: r, 0 => by simp [gslot]
 | o :: r, n + 1 => by simp [gslot, zjc r n]
def beqB : Bool → Bool → Bool
 | true, true => true
 | false, false => true
 | _, _ => false
def sops (P : Program) (Θ : Tys) (all : List Oper) (Q : SE → St → Prop) : List Oper → St → Prop
 | [], st => Q .normal st
 | o :: r, st =>
  let run (st : St) : Prop := sop P Θ st.t o.op st.h st.nx (fun v h nx => setd o.dst v { st with h := h, nx := nx } fun st' => sops P Θ all Q r st') (fun v h nx => Q (.panic v) { st with h := h, nx := nx })
  let skip (st : St) : Prop := setd o.dst (.tup []) st fun st' => sops P Θ all Q r st'
  match o.guard with
  | none => run st
  | some (j, want) => match gslot all j with
   | none => False
   | some d => match lget st.t d with
    | some (.va (.lit b)) => (match beqB b want with
     | true => run st
     | false => skip st)
    | some (.va (.bool b)) => (match Nat.ble (d + 1) st.nt with
     | true => (match want with
      | true => (b = true → run { st with t := lput st.t d (.va (.lit true)) }) ∧ (b = false → skip { st with t := lput st.t d (.va (.lit false)) })
      | false => (b = false → run { st with t := lput st.t d (.va (.lit false)) }) ∧ (b = true → skip { st with t := lput st.t d (.va (.lit true)) }))
     | false => False)
    | some (.tup []) => skip st
    | _ => False
section
variable {P : Program} {Θ : Tys} {C : Ctx} {ρ : Rho} {st : St} {a : Act} {w : World} {Q : SE → St → Prop}
theorem Den.relit {d : Nat} {b : Bool} (D : Den C ρ st a w) (hl : lget st.t d = some (.va (.bool b))) : Den C ρ { st with t := lput st.t d (.va (.lit b)) } a w where
 sat := D.sat
 nt := D.nt
 tm := fun n s hs => by
  by_cases hn : n = d
  ·subst hn; rw [zal] at hs; cases hs
   obtain ⟨v, hv, hr⟩ := D.tm n _ hl
   exact ⟨v, hv, hr⟩
  ·rw [zai _ _ _ _ hn] at hs; exact D.tm n s hs
 tw := fun n s hs => by
  by_cases hn : n = d
  ·subst hn; rw [zal] at hs; cases hs; trivial
  ·rw [zai _ _ _ _ hn] at hs; exact D.tw n s hs
 n0 := D.n0
 df := D.df
 dw := D.dw
theorem zij {dst : Option Tmp} {sv : SV} {v : Value} {K : St → Prop} (hs : setd dst sv st K) (D : Den C ρ st a w) (hr : sv.rel ρ v) (hb : sv.below st.nx) : ∃ st', K st' ∧ Den C ρ st' (a.put dst v) w := by
 unfold setd at hs
 split at hs
 ·exact ⟨st, hs, D⟩
 ·rename_i d
  split at hs
  ·rename_i hd
   exact ⟨_, hs, D.put d (Nat.le_of_ble_eq_true hd) sv v hr hb⟩
  ·exact hs.elim
theorem zhc {o : Oper} {K K' : Act → World → Prop} {R R' : Exit → Act → World → Prop} {r : Result Next} (h : o.upon P a K R r) (hk : ∀ a w, K a w → K' a w) (hr : ∀ e a w, R e a w → R' e a w) : o.upon P a K' R' r := by
 cases r with
 | ok n w' =>
  cases n <;> simp only [Oper.upon] at h ⊢ <;>
   first
    | exact hk _ _ h
    | exact Calls.mono h (fun e w'' he => by
      cases e with
      | returned v => exact hk _ _ he
      | panicked c => exact hr _ _ _ he
      | outgrown => obtain ⟨a, w, h⟩ := he; exact ⟨a, w, hr _ _ _ h⟩)
    | exact Rows.mono h (fun _ _ he => hk _ _ he)
    | exact h
 | halt x w' => cases x <;> simp only [Oper.upon] at h ⊢ <;> first | exact hr _ _ _ h | exact h
theorem zgg (hΘ : Θ.Ok P) (all : List Oper) : ∀ (l : List Oper) (st : St) (ρ : Rho) (a : Act) (w : World), sops P Θ all Q l st → Den C ρ st a w → wpList P all.toArray (Up C Q) l a w
 | [], st, ρ, a, w, hs, D => ⟨.normal, st, ρ, hs, rfl, D⟩
 | o :: r, st, ρ, a, w, hs, D => by
  have run : ∀ st ρ, sop P Θ st.t o.op st.h st.nx (fun v h nx => setd o.dst v { st with h := h, nx := nx } fun st' => sops P Θ all Q r st') (fun v h nx => Q (.panic v) { st with h := h, nx := nx }) → Den C ρ st a w →
    o.wp P a w (wpList P all.toArray (Up C Q) r) (Up C Q) := by
   intro st ρ hs D
   have := zg5 hΘ hs D
   refine zhc this ?_ ?_
   ·rintro a' w' ⟨v, sv, h', nx', ρ', rfl, hk, hr, hb, D', _, _⟩
    obtain ⟨st', hk', D''⟩ := zij hk D' hr hb
    exact zgg hΘ all r st' ρ' _ w' hk' D''
   ·rintro e a' w' ⟨v, h', nx', ρ', rfl, hq, D'⟩
    exact ⟨.panic v, _, ρ', hq, rfl, D'⟩
  have skip : ∀ st ρ, (setd o.dst (.tup []) st fun st' => sops P Θ all Q r st') → Den C ρ st a w → wpList P all.toArray (Up C Q) r (a.put o.dst undef) w := by
   intro st ρ hs D
   obtain ⟨st', hk', D'⟩ := zij (v := undef) hs D rfl (by simp [SV.below])
   exact zgg hΘ all r st' ρ _ w hk' D'
  simp only [sops] at hs
  unfold wpList
  split at hs
  ·rename_i hg
   rw [if_pos (by simp [Region.wanted, hg])]
   exact .inl (run st ρ hs D)
  ·rename_i j want hg
   split at hs
   ·exact hs.elim
   ·rename_i d hd
    have hy : ∀ v, a.tmps[d]? = some v → yielded all.toArray a.tmps j = (match v with | .bool b => some b | _ => none) := by
     intro v hv
     rw [zjc] at hd
     simp only [yielded, List.getElem?_toArray, hd, Option.bind_some, hv]
     cases v <;> rfl
    have yes : ∀ b, a.tmps[d]? = some (.bool b) → b = want → Region.wanted o (yielded all.toArray a.tmps) = true := by
     intro b hb hw; simp [Region.wanted, hg, hy _ hb, hw]
    have no : ∀ b, a.tmps[d]? = some (.bool b) → b ≠ want → Region.wanted o (yielded all.toArray a.tmps) = false := by
     intro b hb hw; simp [Region.wanted, hg, hy _ hb, hw]
    split at hs
    ·rename_i b hl
     obtain ⟨v, hv, hr⟩ := D.tm d _ hl
     simp only [SV.rel, SA.den] at hr; subst hr
     split at hs
     ·rename_i hbw
      rw [if_pos (yes b hv (by cases b <;> cases want <;> simp_all [beqB]))]
      exact .inl (run st ρ hs D)
     ·rename_i hbw
      rw [if_neg (by rw [no b hv (by cases b <;> cases want <;> simp_all [beqB])]; simp)]
      exact skip st ρ hs D
    ·rename_i b hl
     obtain ⟨v, hv, hr⟩ := D.tm d _ hl
     simp only [SV.rel, SA.den] at hr; subst hr
     have D' := D.relit hl
     split at hs
     ·split at hs
      ·cases b with
       | true => rw [if_pos (yes _ hv rfl)]; exact .inl (run _ ρ (hs.1 rfl) D')
       | false => rw [if_neg (by rw [no _ hv (by simp)]; simp)]; exact skip _ ρ (hs.2 rfl) D'
      ·cases b with
       | false => rw [if_pos (yes _ hv rfl)]; exact .inl (run _ ρ (hs.1 rfl) D')
       | true => rw [if_neg (by rw [no _ hv (by simp)]; simp)]; exact skip _ ρ (hs.2 rfl) D'
     ·exact hs.elim
    ·rename_i hl
     obtain ⟨v, hv, hr⟩ := D.tm d _ hl
     simp only [SV.rel, List.map_nil] at hr; subst hr
     rw [if_neg (by simp [Region.wanted, hg, hy _ hv])]
     exact skip st ρ hs D
    ·exact hs.elim
@[irreducible] def Br (b : Bool) (x y : Prop) : Prop := (b = true → x) ∧ (b = false → y)
theorem br {b : Bool} {x y : Prop} (h1 : b = true → x) (h2 : b = false → y) : Br b x y := by unfold Br; exact ⟨h1, h2⟩
def zx5 : List Oper → Bool
 | [o] => (match o.op with
  | .defer _ => true
  | _ => false)
 | _ => false
def sx (P : Program) (Θ : Tys) : Code → St → (SE → St → Prop) → Prop
 | .skip, st, Q => Q .normal st
 | .region id ops false, st, Q => (match zx5 ops.toList with
  | true => WP P (.region id ops false) st Q
  | false => sops P Θ ops.toList Q ops.toList st)
 | .seq x y, st, Q => sx P Θ x st fun e st' => (match e with
  | .normal => sx P Θ y st' Q
  | .ret => Q .ret st'
  | .exit id => Q (.exit id) st'
  | .panic v => Q (.panic v) st')
 | .cond c x y, st, Q => (match ev st.t c with
  | .va (.lit true) => sx P Θ x st Q
  | .va (.lit false) => sx P Θ y st Q
  | .va (.bool b) => Br b (sx P Θ x st Q) (sx P Θ y st Q)
  | _ => False)
 | .block id x, st, Q => sx P Θ x st fun e st' => (match e with
  | .normal => Q .normal st'
  | .ret => Q .ret st'
  | .exit i => (match Nat.beq i id with
   | true => Q .normal st'
   | false => Q (.exit i) st')
  | .panic v => Q (.panic v) st')
 | .exit id, st, Q => Q (.exit id) st
 | .ret, st, Q => Q .ret st
 | c, st, Q => WP P c st Q
theorem zeq (hΘ : Θ.Ok P) : ∀ (c : Code) (st : St) (Q : SE → St → Prop), sx P Θ c st Q → WP P c st Q := by
 intro c
 induction c with
 | skip => intro st Q hs; unfold WP; intro C ρ a w D; exact wp_skip ⟨.normal, st, ρ, hs, rfl, D⟩
 | region id ops draw =>
  intro st Q hs
  cases draw with
  | true => exact hs
  | false =>
   simp only [sx] at hs
   split at hs
   ·exact hs
   unfold WP
   intro C ρ a w D
   have := zgg (C := C) hΘ ops.toList ops.toList st ρ a w hs D
   exact wp_region_list (by simpa using this)
 | seq x y ihx ihy =>
  intro st Q hs
  have h1 := ihx st _ hs
  unfold WP at h1 ⊢
  intro C ρ a w D
  refine wp_seq (wp_mono (h1 C ρ a w D) ?_)
  rintro e a' w' ⟨se, st', ρ', hq, rfl, D'⟩
  cases se with
  | normal =>
   have h2 := ihy st' Q hq
   unfold WP at h2
   exact h2 C ρ' a' w' D'
  | ret => exact ⟨.ret, st', ρ', hq, rfl, D'⟩
  | exit id => exact ⟨.exit id, st', ρ', hq, rfl, D'⟩
  | panic v => exact ⟨.panic v, st', ρ', hq, rfl, D'⟩
 | cond c x y ihx ihy =>
  intro st Q hs
  simp only [sx] at hs
  unfold WP
  intro C ρ a w D
  have hc := zbk D c
  split at hs
  ·rename_i he; rw [he] at hc
   have h2 := ihx st Q hs; unfold WP at h2
   exact wp_cond_true hc.1 (h2 C ρ a w D)
  ·rename_i he; rw [he] at hc
   have h2 := ihy st Q hs; unfold WP at h2
   exact wp_cond_false hc.1 (h2 C ρ a w D)
  ·rename_i b he; rw [he] at hc
   unfold Br at hs
   cases b with
   | true => have h2 := ihx st Q (hs.1 rfl); unfold WP at h2; exact wp_cond_true hc.1 (h2 C ρ a w D)
   | false => have h2 := ihy st Q (hs.2 rfl); unfold WP at h2; exact wp_cond_false hc.1 (h2 C ρ a w D)
  ·exact hs.elim
 | block id x ih =>
  intro st Q hs
  have h1 := ih st _ hs
  unfold WP at h1 ⊢
  intro C ρ a w D
  refine wp_block (wp_mono (h1 C ρ a w D) ?_)
  rintro e a' w' ⟨se, st', ρ', hq, rfl, D'⟩
  cases se with
  | normal => exact ⟨.normal, st', ρ', hq, rfl, D'⟩
  | ret => exact ⟨.ret, st', ρ', hq, rfl, D'⟩
  | exit i =>
   simp only at hq
   split at hq
   ·rename_i hb
    have hb := Nat.eq_of_beq_eq_true hb
    subst hb
    simp only [SE.to, Exit.inBlock, if_true]
    exact ⟨.normal, st', ρ', hq, rfl, D'⟩
   ·rename_i hb
    have hne : ¬ i = id := by intro he; subst he; simp at hb
    simp only [SE.to, Exit.inBlock, hne, if_false]
    exact ⟨.exit i, st', ρ', hq, rfl, D'⟩
  | panic v => exact ⟨.panic v, st', ρ', hq, rfl, D'⟩
 | exit id => intro st Q hs; unfold WP; intro C ρ a w D; exact wp_exit ⟨.exit id, st, ρ, hs, rfl, D⟩
 | ret => intro st Q hs; unfold WP; intro C ρ a w D; exact wp_ret ⟨.ret, st, ρ, hs, rfl, D⟩
 | loop _ _ => intro st Q hs; exact hs
 | rangeFunc _ _ _ _ _ _ => intro st Q hs; exact hs
 | scope _ _ => intro st Q hs; exact hs
 | label _ => intro st Q hs; exact hs
 | goto _ => intro st Q hs; exact hs
 | refuse _ => intro st Q hs; exact hs
end
end Sx

namespace Sx
open Go
@[irreducible] def Le (st st' : St) : Prop := ∀ C ρ a w, Den C ρ st a w → ∃ ρ', Den C ρ' st' a w
def WfH (h : Hp) (nx : Nat) : Prop := ∀ i e, lget h i = some e → i < nx ∧ ∀ k, e.has k → (e.at k).below nx
def WfT (t : List (List (Nat × SV))) (nx : Nat) : Prop := ∀ n s, lget t n = some s → s.below nx
section
variable {P : Program} {Θ : Tys} {C : Ctx} {ρ : Rho} {st : St} {a : Act} {w : World} {Q : SE → St → Prop}
theorem Den.wfH (d : Den C ρ st a w) : WfH st.h st.nx := fun i e he => ⟨d.sat.lt i e he, d.sat.wf i e he⟩
theorem Den.wfT (d : Den C ρ st a w) : WfT st.t st.nx := d.tw
theorem exists_least {p : Nat → Prop} (h : ∃ n, p n) : ∃ n, p n ∧ ∀ m, p m → n ≤ m := by
 obtain ⟨n, hn⟩ := h
 induction n using Nat.strongRecOn with
 | _ n ih =>
  by_cases hex : ∃ m, m < n ∧ p m
  ·obtain ⟨m, hm, hp⟩ := hex; exact ih m hm hp
  ·exact ⟨n, hn, fun m hp => Nat.le_of_not_lt fun hlt => hex ⟨m, hlt, hp⟩⟩
def LQ {X : Type} (I : X → St) (μ : X → Nat) (x : X) (Q : SE → St → Prop) : SE → St → Prop := fun e st' =>
 match e with
 | .normal => ∃ x', μ x' < μ x ∧ Le st' (I x')
 | .ret => Q .ret st'
 | .exit id => Q (.exit id) st'
 | .panic v => Q (.panic v) st'
theorem zwf {X : Type} {body : Code} (I : X → St) (μ : X → Nat) (x0 : X)
  (h : WfH st.h st.nx → WfT st.t st.nx → Le st (I x0) ∧ ∀ x, WP P body (I x) (LQ I μ x Q)) : WP P (.loop body) st Q := by
 unfold WP
 intro C ρ a w D
 obtain ⟨h0, hb⟩ := h D.wfH D.wfT
 unfold Le at h0
 obtain ⟨ρ0, D0⟩ := h0 C ρ a w D
 have hex : ∀ a w, (∃ x ρ, Den C ρ (I x) a w) → ∃ n, ∃ x ρ, μ x = n ∧ Den C ρ (I x) a w := fun a w ⟨x, ρ, h⟩ => ⟨μ x, x, ρ, rfl, h⟩
 let m : Act → World → Nat := fun a w => by
  classical exact if h : ∃ n, ∃ x ρ, μ x = n ∧ Den C ρ (I x) a w then Classical.choose (exists_least h) else 0
 refine wp_loop (fun a w => ∃ x ρ, Den C ρ (I x) a w) m ⟨x0, ρ0, D0⟩ ?_
 intro a w hI
 have hn := hex a w hI
 have hm : m a w = Classical.choose (exists_least hn) := by simp only [m]; rw [dif_pos hn]
 obtain ⟨x, ρx, hxm, Dx⟩ := (Classical.choose_spec (exists_least hn)).1
 have hbx := hb x
 unfold WP at hbx
 refine wp_mono (hbx C ρx a w Dx) ?_
 rintro e a' w' ⟨se, st', ρ', hq, rfl, D'⟩
 cases se with
 | normal =>
  obtain ⟨x', hlt, hle⟩ := hq
  unfold Le at hle
  obtain ⟨ρ'', D''⟩ := hle C ρ' a' w' D'
  refine ⟨⟨x', ρ'', D''⟩, ?_⟩
  have hn' := hex a' w' ⟨x', ρ'', D''⟩
  have hm' : m a' w' = Classical.choose (exists_least hn') := by simp only [m]; rw [dif_pos hn']
  rw [hm, hm', ← hxm]
  exact Nat.lt_of_le_of_lt ((Classical.choose_spec (exists_least hn')).2 _ ⟨x', ρ'', rfl, D''⟩) hlt
 | ret => exact ⟨.ret, st', ρ', hq, rfl, D'⟩
 | exit id => exact ⟨.exit id, st', ρ', hq, rfl, D'⟩
 | panic v => exact ⟨.panic v, st', ρ', hq, rfl, D'⟩
end
end Sx
