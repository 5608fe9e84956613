import Derived.Test.YtfnkamphhpldcaaGreatDoorK03
set_option maxHeartbeats 64000000
namespace Sx
open Go
section
variable {P:Program} {Θ:Tys} {C:Ctx} {ρ:Rho} {h:Hp} {nx:Nat} {w:World} {K:Kt}
theorem zrk (hΘ:Θ.Ok P) {op:BinOp} {t:TypeId} {xo yo:Operand} {x y:SV} {v u:Value} (hs:s_bin P Θ op t x y h nx K) (sat:Sat C ρ h nx w) (hr:x.rel ρ v) (hr':y.rel ρ u) :
  YldS P (do eqGuard op t xo yo v u; binOp op t v u) ρ h nx w K:=by
 unfold s_bin at hs
 split at hs
 ·rename_i k a k' b
  simp only [SV.rel,SA.den] at hr hr'; subst hr; subst hr'
  split at hs
  ·obtain ⟨hb,hs⟩:=hs
   exact za9 zbx (r:=.int k (shlI k a b)) (by simp [binOp,Op.shift,Int.not_lt.2 hb,shlI]) sat (sv:=.va (.int k (shlI k a b))) rfl trivial hs
  ·obtain ⟨hb,hs⟩:=hs
   exact za9 zbx (r:=.int k (shrI k a b)) (by simp [binOp,Op.shift,Int.not_lt.2 hb,shrI]) sat (sv:=.va (.int k (shrI k a b))) rfl trivial hs
  ·split at hs
   ·exact hs.elim
   ·rename_i hk
    have hk:=od hk
    subst hk
    split at hs
    ·exact za9 zbx (r:=.int k (k.wrap (a + b))) (by simp [binOp,Op.intArith]) sat (sv:=.va (.int k (k.wrap (a + b)))) rfl trivial hs
    ·exact za9 zbx (r:=.int k (k.wrap (a - b))) (by simp [binOp,Op.intArith]) sat (sv:=.va (.int k (k.wrap (a - b)))) rfl trivial hs
    ·exact za9 zbx (r:=.int k (k.wrap (a * b))) (by simp [binOp,Op.intArith]) sat (sv:=.va (.int k (k.wrap (a * b)))) rfl trivial hs
    ·exact za9 zbx (r:=.int k (k.wrap (a.tdiv b))) (by simp [binOp,Op.intDiv,hs.1]) sat (sv:=.va (.int k (k.wrap (a.tdiv b)))) rfl trivial hs.2
    ·exact za9 zbx (r:=.int k (a.tmod b)) (by simp [binOp,Op.intDiv,hs.1]) sat (sv:=.va (.int k (a.tmod b))) rfl trivial hs.2
    ·exact za9 zbx (r:=.int k (bAnd k a b)) (by simp [binOp,Op.intBits,bAnd]) sat (sv:=.va (.int k (bAnd k a b))) rfl trivial hs
    ·exact za9 zbx (r:=.int k (bOr k a b)) (by simp [binOp,Op.intBits,bOr]) sat (sv:=.va (.int k (bOr k a b))) rfl trivial hs
    ·exact za9 zbx (r:=.int k (bXor k a b)) (by simp [binOp,Op.intBits,bXor]) sat (sv:=.va (.int k (bXor k a b))) rfl trivial hs
    ·exact za9 zbx (r:=.int k (zmo k a b)) (by simp [binOp,Op.intBits,zmo]) sat (sv:=.va (.int k (zmo k a b))) rfl trivial hs
    ·exact za9 zbx (r:=.bool (decide (a = b))) (by simp [binOp,Op.intCmp]; rfl) sat (sv:=.va (.bool (decide (a = b)))) rfl trivial hs
    ·exact za9 zbx (r:=.bool (!decide (a = b))) (by simp [binOp,Op.intCmp]; rfl) sat (sv:=.va (.bool (!decide (a = b)))) rfl trivial hs
    ·exact za9 zbx (r:=.bool (decide (a < b))) (by simp [binOp,Op.intCmp]) sat (sv:=.va (.bool (decide (a < b)))) rfl trivial hs
    ·exact za9 zbx (r:=.bool (decide (a ≤ b))) (by simp [binOp,Op.intCmp]) sat (sv:=.va (.bool (decide (a ≤ b)))) rfl trivial hs
    ·exact za9 zbx (r:=.bool (decide (b < a))) (by simp [binOp,Op.intCmp]) sat (sv:=.va (.bool (decide (b < a)))) rfl trivial hs
    ·exact za9 zbx (r:=.bool (decide (b ≤ a))) (by simp [binOp,Op.intCmp]) sat (sv:=.va (.bool (decide (b ≤ a)))) rfl trivial hs
    ·exact hs.elim
 ·rename_i a b
  simp only [SV.rel,SA.den] at hr hr'; subst hr; subst hr'
  split at hs
  ·obtain ⟨hl,hs⟩:=hs
   refine za9 zhw (r:=.string ⟨(a ++ b).toArray⟩) ?_ sat (sv:=.va (.str (a ++ b))) rfl trivial hs
   have h1:¬ (9223372036854775807 < ((a.length:Int) + (b.length:Int))):=by omega
   have h2:(⟨a.toArray⟩:ByteArray) ++ ⟨b.toArray⟩ = ⟨(a ++ b).toArray⟩:=by apply ByteArray.ext; simp
   have h3:IntKind.i64.max = 9223372036854775807:=by decide
   simp [binOp,Op.stringOp,ByteArray.size,h3,h1,h2]
  ·exact za9 zhw (r:=.bool (a == b)) (by simp [binOp,Op.stringOp]) sat (sv:=.va (.bool (a == b))) rfl trivial hs
  ·exact za9 zhw (r:=.bool (!(a == b))) (by simp [binOp,Op.stringOp]) sat (sv:=.va (.bool (!(a == b)))) rfl trivial hs
  ·exact za9 zhw (r:=.bool (Op.bytesLess a b)) (by simp [binOp,Op.stringOp]) sat (sv:=.va (.bool (Op.bytesLess a b))) rfl trivial hs
  ·exact hs.elim
 ·simp only [SV.rel,SA.den] at hr hr'; subst hr; subst hr'
  exact zhb hΘ hs sat
 ·simp only [SV.rel,SA.den] at hr hr'; subst hr; subst hr'
  exact zhb hΘ hs sat
 ·simp only [SV.rel,SA.den] at hr hr'; subst hr; subst hr'
  exact zhb hΘ hs sat
 ·simp only [SV.rel,SA.den] at hr hr'; subst hr; subst hr'
  exact zhb hΘ hs sat
 ·rename_i n _ _ _ _ _ _
  simp only [SV.rel,SA.den] at hr hr'; subst hr; subst hr'
  cases n<;>exact zsu hΘ rfl hs sat
 ·simp only [SV.rel,SA.den] at hr hr'; subst hr; subst hr'
  exact zsu hΘ rfl hs sat
 ·rename_i l m
  simp only [SV.rel] at hr hr'; subst hr; subst hr'
  split at hs
  ·obtain ⟨b,hb,hs⟩:=hs
   unfold AggEq at hb
   obtain ⟨h1,h2⟩:=hb ρ w .eql xo yo
   exact za9 h1 (r:=.bool b) (by show (do pure (Value.bool (← Op.equal t _ _)):Sem Value).run P w = _; simp only [Sem.run_bind,h2,Result.andThen_ok,Sem.run_pure]) sat (sv:=.va (.bool b)) rfl trivial hs
  ·obtain ⟨b,hb,hs⟩:=hs
   unfold AggEq at hb
   obtain ⟨h1,h2⟩:=hb ρ w .neq xo yo
   exact za9 h1 (r:=.bool (!b)) (by show (do pure (Value.bool (!(← Op.equal t _ _))):Sem Value).run P w = _; simp only [Sem.run_bind,h2,Result.andThen_ok,Sem.run_pure]) sat (sv:=.va (.bool (!b))) rfl trivial hs
  ·exact hs.elim
 ·exact hs.elim
def s_un (op:UnOp) (x:SV) (h:Hp) (nx:Nat) (K:Kt):Prop:=
 match op,x with
 |.not,.va (.lit b)=>K (.va (.lit (!b))) h nx
 |.not,.va (.bool b)=>K (.va (.bool (!b))) h nx
 |.neg,.va (.int k n)=>K (.va (.int k (k.wrap (0 - n)))) h nx
 |.xor,.va (.int k n)=>K (.va (.int k (bXor k (if k.signed then -1 else k.max) n))) h nx
 |_,_=>False
theorem zwj {op:UnOp} {x:SV} {v:Value} (hs:s_un op x h nx K) (sat:Sat C ρ h nx w) (hr:x.rel ρ v):YldS P (Op.unary op v) ρ h nx w K:=by
 unfold s_un at hs
 split at hs
 ·rename_i b; simp only [SV.rel,SA.den] at hr; subst hr
  exact YldS.mk sat (.bool (!b)) (.va (.lit (!b))) (by simp [Op.unary]) rfl trivial hs
 ·rename_i b; simp only [SV.rel,SA.den] at hr; subst hr
  exact YldS.mk sat (.bool (!b)) (.va (.bool (!b))) (by simp [Op.unary]) rfl trivial hs
 ·rename_i k n; simp only [SV.rel,SA.den] at hr; subst hr
  exact YldS.mk sat (.int k (k.wrap (0 - n))) (.va (.int k (k.wrap (0 - n)))) (by simp only [Op.unary,Op.intArith]; rfl) rfl trivial hs
 ·rename_i k n; simp only [SV.rel,SA.den] at hr; subst hr
  exact YldS.mk sat (.int k (bXor k (if k.signed then -1 else k.max) n)) (.va (.int k (bXor k (if k.signed then -1 else k.max) n))) (by simp only [Op.unary,Op.intBits]; rfl) rfl trivial hs
 ·exact hs.elim
def zj2 (c a b:SV) (h:Hp) (nx:Nat) (K:Kt):Prop:=
 match c with
 |.va (.lit true)=>K a h nx
 |.va (.lit false)=>K b h nx
 |.va (.bool c)=>match a,b with
  |.va (.bool x),.va (.bool y)=>K (.va (.bool (bif c then x else y))) h nx
  |.va (.bool x),.va (.lit y)=>K (.va (.bool (bif c then x else y))) h nx
  |.va (.lit x),.va (.bool y)=>K (.va (.bool (bif c then x else y))) h nx
  |.va (.lit x),.va (.lit y)=>K (.va (.bool (bif c then x else y))) h nx
  |a,b=>(c = true → K a h nx) ∧ (c = false → K b h nx)
 |_=>False
theorem znt {c a b:SV} {vc va vb:Value} (hs:zj2 c a b h nx K) (sat:Sat C ρ h nx w) (hc:c.rel ρ vc) (ha:a.rel ρ va) (hb:b.rel ρ vb) (hab:a.below nx) (hbb:b.below nx) :
  YldS P (do pure (if ← asBool vc then va else vb)) ρ h nx w K:=by
 unfold zj2 at hs
 split at hs
 ·simp only [SV.rel,SA.den] at hc; subst hc
  exact YldS.mk sat va a (by simp [asBool]) ha hab hs
 ·simp only [SV.rel,SA.den] at hc; subst hc
  exact YldS.mk sat vb b (by simp [asBool]) hb hbb hs
 ·rename_i c
  simp only [SV.rel,SA.den] at hc; subst hc
  split at hs
  ·rename_i x y; simp only [SV.rel,SA.den] at ha hb; subst ha; subst hb
   exact YldS.mk sat (.bool (bif c then x else y)) (.va (.bool (bif c then x else y))) (by cases c<;>simp [asBool]) rfl trivial hs
  ·rename_i x y; simp only [SV.rel,SA.den] at ha hb; subst ha; subst hb
   exact YldS.mk sat (.bool (bif c then x else y)) (.va (.bool (bif c then x else y))) (by cases c<;>simp [asBool]) rfl trivial hs
  ·rename_i x y; simp only [SV.rel,SA.den] at ha hb; subst ha; subst hb
   exact YldS.mk sat (.bool (bif c then x else y)) (.va (.bool (bif c then x else y))) (by cases c<;>simp [asBool]) rfl trivial hs
  ·rename_i x y; simp only [SV.rel,SA.den] at ha hb; subst ha; subst hb
   exact YldS.mk sat (.bool (bif c then x else y)) (.va (.bool (bif c then x else y))) (by cases c<;>simp [asBool]) rfl trivial hs
  ·cases c with
   |true=>exact YldS.mk sat va a (by simp [asBool]) ha hab (hs.1 rfl)
   |false=>exact YldS.mk sat vb b (by simp [asBool]) hb hbb (hs.2 rfl)
 ·exact hs.elim
def zoy (Θ:Tys) (s d:TypeId) (x:SV) (h:Hp) (nx:Nat) (K:Kt):Prop:=
 match Θ s,Θ d,x with
 |some _,some ⟨.int k,_,_,_⟩,.va (.int _ n)=>K (.va (.int k (k.wrap n))) h nx
 |some _,some ⟨.string,_,_,_⟩,.va (.str s)=>K (.va (.str s)) h nx
 |some ⟨.slice e,_,_,_⟩,some ⟨.string,_,_,_⟩,.va (.slice nil i k o sz len _)=>match Θ e with
  |some ⟨.int .u8,_,_,_⟩=>(match nil with
   |true=>K (.va (.str [])) h nx
   |false=>match Nat.beq sz 1 with
    |true=>rdEls h i k o sz len fun X=>∃ s:List UInt8,X = (s.map fun b=>[SA.int .u8 b.toNat]) ∧ K (.va (.str s)) h nx
    |false=>False)
  |_=>False
 |some ⟨.slice e,_,_,_⟩,some ⟨.string,_,_,_⟩,.va .nilsl=>(match Θ e with
  |some ⟨.int .u8,_,_,_⟩=>K (.va (.str [])) h nx
  |_=>False)
 |some _,some ⟨.slice e,_,_,_⟩,.va (.str s)=>match Θ e with
  |some ⟨.int .u8,_,_,_⟩=>∀ c,s.length ≤ c → K (.va (.slice false nx 0 0 1 s.length c)) (lput h nx (.one (.arr e 1 (s.map fun b=>[SA.int .u8 b.toNat]) c))) (nx + 1)
  |_=>False
 |_,_,_=>False
theorem zk0 (P:Program) (w:World):∀ (s:List UInt8) (acc:ByteArray),
  (forIn (s.map fun b=>Value.int .u8 (b.toNat:Int)) acc (fun (c:Value) (r:ByteArray)=>(do
   let .int .u8 n:=c | stuck "bytesToString: byte expected"
   pure (ForInStep.yield (r.push (UInt8.ofNat n.toNat))):Sem (ForInStep ByteArray)))).run P w = .ok (acc ++ ⟨s.toArray⟩) w
 |[],acc=>by
  have:acc ++ (⟨#[]⟩:ByteArray) = acc:=by apply ByteArray.ext; simp
  simp [this]
 |b :: r,acc=>by
  simp only [qx,List.forIn_cons,Sem.run_bind]
  have h1:UInt8.ofNat ((b.toNat:Int).toNat) = b:=by simp
  simp only [h1,Sem.run_pure,Result.andThen_ok]
  rw [zk0 P w r (acc.push b)]
  congr 1
  apply ByteArray.ext
  simp
end
section
variable {P:Program} {Θ:Tys} {C:Ctx} {ρ:Rho} {h:Hp} {nx:Nat} {w:World} {K:Kt}
theorem ztt (w:World) (c:Array Value) (e:TypeId):((w.alloc (.cells c e (0,0))).freeze ⟨w.heap.size,c.size,none⟩ 1) = w.alloc (.cells c e (c.size,c.size + 1)):=by
 simp only [World.freeze,World.alloc,Nat.succ_ne_zero,if_false]
 congr 1
 apply Array.ext
 ·simp
 ·intro i h1 h2
  simp only [Array.getElem_modify,Array.getElem_push]
  by_cases hi:i = w.heap.size
  ·subst hi; simp
  ·have:i < w.heap.size:=by simp at h2; omega
   simp [this,Ne.symm hi]
theorem zuo (hΘ:Θ.Ok P) {s d:TypeId} {x:SV} {v:Value} (hs:zoy Θ s d x h nx K) (sat:Sat C ρ h nx w) (hr:x.rel ρ v):Yld P (convert s d v) C ρ nx w K:=by
 unfold zoy at hs
 split at hs
 ·rename_i i0 k a b c k' n h1 h2
  simp only [SV.rel,SA.den] at hr; subst hr
  refine Yld.same sat (.int k (k.wrap n)) (.va (.int k (k.wrap n))) ?_ rfl trivial hs
  simp only [convert,Sem.run_bind,zas hΘ h1,zas hΘ h2,Result.andThen_ok,Conv.intToInt]
  cases i0.d<;>rfl
 ·rename_i i0 a b c s' h1 h2
  simp only [SV.rel,SA.den] at hr; subst hr
  refine Yld.same sat (.string ⟨s'.toArray⟩) (.va (.str s')) ?_ rfl trivial hs
  simp only [convert,Sem.run_bind,zas hΘ h1,zas hΘ h2,Result.andThen_ok]
  cases i0.d<;>rfl
 ·rename_i e a b c a' b' c' nil i k o sz len cap h1 h2
  split at hs
  ·rename_i a2 b2 c2 he
   have conv:∀ z,(convert s d (.slice z len cap)).run P w = (Conv.bytesToString (.slice z len cap)).run P w:=by
    intro z
    cases z<;>simp [convert,zas hΘ h1,zas hΘ h2,zas hΘ he]
   split at hs
   ·simp only [SV.rel,SA.den,if_true] at hr; subst hr
    refine Yld.same sat (.string .empty) (.va (.str [])) ?_ rfl trivial hs
    rw [conv]; rfl
   ·split at hs
    ·rename_i hsz
     have hsz:=qg hsz
     subst hsz
     simp only [SV.rel,SA.den,jm,if_false] at hr; subst hr
     obtain ⟨X,⟨s',rfl,hs⟩,hl,h3,h4,t',pre,post,hrow,hpre⟩:=zke hs sat
     refine Yld.same sat (.string ⟨s'.toArray⟩) (.va (.str s')) ?_ rfl trivial hs
     rw [conv]
     have hload:(loadCells ⟨ρ i k,o * 1,none⟩ (s'.map fun b=>Value.int .u8 (b.toNat:Int)).length).run P w = .ok (s'.map fun b=>Value.int .u8 (b.toNat:Int)).toArray w:=
      run_loadCells_list (P:=P) w _ _ (fun j u hu=>by
       rw [addr_add,hrow.cell,← hpre,zdn,yd]
       have hj:j < (s'.map fun b=>Value.int .u8 (b.toNat:Int)).length:=(qh.1 hu).1
       rw [qk,jz (by omega),qac,js (by simpa using hj)]
       exact hu)
     have hlen:(s'.map fun b=>Value.int .u8 (b.toNat:Int)).length = len:=by simpa using hl
     rw [hlen] at hload
     have hloop:=zk0 P w s' ByteArray.empty
     have he:(ByteArray.empty ++ (⟨s'.toArray⟩:ByteArray)) = ⟨s'.toArray⟩:=by apply ByteArray.ext; simp
     rw [he] at hloop
     simp only [Conv.bytesToString,Sem.run_bind,hload,Result.andThen_ok]
     rw [← Array.forIn_toList]
     erw [hloop]
     rfl
    ·exact hs.elim
  ·exact hs.elim
 ·rename_i e a b c a' b' c' h1 h2
  split at hs
  ·rename_i a2 b2 c2 he
   simp only [SV.rel,SA.den] at hr; subst hr
   refine Yld.same sat (.string .empty) (.va (.str [])) ?_ rfl trivial hs
   have conv:(convert s d (.slice none 0 0)).run P w = (Conv.bytesToString (.slice none 0 0)).run P w:=by
    simp [convert,zas hΘ h1,zas hΘ h2,zas hΘ he]
   rw [conv]; rfl
  ·exact hs.elim
 ·rename_i i0 e a b c s' h1 h2
  split at hs
  ·rename_i a2 b2 c2 he
   simp only [SV.rel,SA.den] at hr; subst hr
   have hsz:(⟨s'.toArray⟩:ByteArray).size = s'.length:=by simp [ByteArray.size]
   let cap:=(Question.appendCap s'.length 0 e).cut (w.tape w.drawn (.appendCap s'.length 0 e))
   have hcap:s'.length ≤ cap:=by simp only [cap,Question.cut]; omega
   let cells:Array Value:=(s'.map fun b=>Value.int .u8 (b.toNat:Int)).toArray ++ Array.replicate (cap - s'.length) (.int .u8 0)
   have hrun:(convert s d (.string ⟨s'.toArray⟩)).run P w = .ok (.slice (some ⟨w.heap.size,0,none⟩) s'.length cap) (w.drew.alloc (.cells cells e (cells.size,cells.size + 1))):=by
    have hfz:=ztt w.drew cells e
    have hsh:(w.drew.alloc (.cells cells e (0,0))).shape? w.heap.size = some (e,cells.size):=by
     have hg:(w.drew.alloc (.cells cells e (0,0))).heap[w.heap.size]? = some (.cells cells e (0,0)):=by
      show (w.heap.push _)[w.heap.size]? = _; simp
     simp only [World.shape?,hg]
    have conv:(convert s d (.string ⟨s'.toArray⟩)).run P w = (Conv.stringToBytes e ⟨s'.toArray⟩).run P w:=by
     simp only [convert,Sem.run_bind,zas hΘ h1,zas hΘ h2,Result.andThen_ok]
     cases i0.d<;>simp [zas hΘ he]
    rw [conv]
    have e1:((⟨s'.toArray⟩:ByteArray).data.map fun b=>Value.int .u8 (b.toNat:Int)) = (s'.map fun b=>Value.int .u8 (b.toNat:Int)).toArray:=by simp
    simp only [Conv.stringToBytes,hsz,Sem.run_bind,run_choose,Question.forced,jm,if_false,Result.andThen_ok,e1,newRow,run_newObj,Sem.run_pure,markStringish,run_shape]
    simp only [World.shape?,qc3,if_true]
    have hfz':(World.freeze { heap:=w.heap.push (.cells cells e (0,0)),tape:=w.tape,drawn:=w.drawn + 1,os:=w.os,output:=w.output } ⟨w.heap.size,cells.size,none⟩ 1) = w.drew.alloc (.cells cells e (cells.size,cells.size + 1)):=hfz
    simp only [run_freeze,Result.andThen_ok]
    rw [← hfz']
   refine ⟨_,_,_,_,_,rext ρ nx w.heap.size,hrun,?_,?_,hs cap hcap,?_,fun i hi=>zdp hi,yz _⟩
   ·simp [SV.rel,SA.den,zbc]
   ·simp [SV.below,SA.below]
   ·refine sat.drew.new (.arr e 1 (s'.map fun b=>[SA.int .u8 b.toNat]) cap) _ (by intro x hx a ha; simp at hx; obtain ⟨b,_,rfl⟩:=hx; simp at ha; subst ha; trivial) ⟨by simp,by simpa using hcap,List.replicate (cap - s'.length) (.int .u8 0),by simp,(cells.size,cells.size + 1),?_,?_⟩
    ·intro j hj hh
     rw [zdn] at hj
     simp [cells] at hj hh
     omega
    ·congr 1
     rw [zdn]
     apply Array.ext'
     simp [cells,SA.den]
  ·exact hs.elim
 ·exact hs.elim
end
end Sx
