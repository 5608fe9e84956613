import Derived.Test.YtfnkamphhpldcaaGreatDoorK06
import Derived.OrdersHeld
set_option maxHeartbeats 64000000
namespace Sx
open Go
def memN (i:Nat):List Nat → Bool
 |[]=>false
 |j :: r=>Nat.beq i j || memN i r
def nj (K:SV → Prop):SV → Prop
 |.va a=>K (.va a)
 |.agg l=>K (.agg l)
 |.tup l=>K (.tup l)
 |.junk=>False
theorem zzo {K:SV → Prop} {v:SV} (h:nj K v):K v ∧ v ≠ .junk:=by
 cases v<;>first | exact ⟨h,by simp⟩ | exact h.elim
def sval (P:Program) (Θ:Tys) (ids:List Nat) (t:List (List (Nat × SV))) (o:Op) (h:Hp) (nx:Nat) (K:SV → Prop):Prop:=
 match o with
 |.move x=>K (ev t x)
 |.assign x=>K (ev t x)
 |.pick c a b=>zka (ev t c) (ev t a) (ev t b) h nx fun v _ _=>nj K v
 |.load ty a=>(match ev t a with
  |.va (.ptr p)=>memN p.i (0 :: ids) = true ∧ zfr Θ ty (.va (.ptr p)) h nx fun v _ _=>nj K v
  |_=>False)
 |.nilCheck x=>(match ev t x with
  |.va (.ptr p)=>K (.va (.ptr p))
  |.va (.fn (.func f) c)=>K (.va (.fn (.func f) c))
  |_=>False)
 |.binOp op ty x y _=>s_bin P Θ op ty (ev t x) (ev t y) h nx fun v _ _=>nj K v
 |.unOp op _ x=>s_un op (ev t x) h nx fun v _ _=>nj K v
 |.convert s d x=>(match ev t x with
  |.va (.int k n)=>zp3 Θ s d (.va (.int k n)) h nx fun v _ _=>nj K v
  |_=>False)
 |.slice ty x lo hi mx=>zhe Θ ty (ev t x) (evO t lo) (evO t hi) (evO t mx) h nx fun v _ _=>nj K v
 |.fieldAddr ty x f=>zdn Θ ty (ev t x) f h nx fun v _ _=>nj K v
 |.field ty x f=>zhq Θ ty (ev t x) f h nx fun v _ _=>nj K v
 |.indexAddr ty x i=>zdm Θ ty (ev t x) (ev t i) h nx fun v _ _=>nj K v
 |.index ty x i=>zhi Θ ty (ev t x) (ev t i) h nx fun v _ _=>nj K v
 |.extract x i=>(match ev t x with
  |.tup l=>(match nth l i with
   |some c=>K c.v
   |none=>False)
  |_=>False)
 |.call c=>(match c.callee with
  |.builtin b=>(match b,evL t c.args.toList with
   |.len,[x]=>s_len Θ c.argTypes.toList x h nx fun v _ _=>nj K v
   |.min,[x,y]=>s_min x y h nx fun v _ _=>nj K v
   |.max,[x,y]=>s_max x y h nx fun v _ _=>nj K v
   |_,_=>False)
  |_=>False)
 |_=>False
section
variable {P:Program} {Θ:Tys} {h h1:Hp} {nx nx1:Nat} {K:SV → Prop}
theorem z2w {c a b:SV} (d:zka c a b h nx fun v _ _=>K v):∃ sv,K sv ∧ zka c a b h1 nx1 fun v _ _=>v = sv:=by
 unfold zka at *;split at d
 ·exact ⟨_,d,rfl⟩
 ·exact ⟨_,d,rfl⟩
 ·rename_i c;split at d
  ·exact ⟨_,d,rfl⟩
  ·exact ⟨_,d,rfl⟩
  ·exact ⟨_,d,rfl⟩
  ·exact ⟨_,d,rfl⟩
  ·cases c with
   |true=>exact ⟨_,d.1 rfl,fun _=>rfl,(fun h=>by cases h)⟩
   |false=>exact ⟨_,d.2 rfl,(fun h=>by cases h),fun _=>rfl⟩
 ·exact d.elim
theorem ybs {f:BinOp} {t:TypeId} {x y:SV} (c:s_bin P Θ f t x y h nx fun v _ _=>K v):∃ sv,K sv ∧ s_bin P Θ f t x y h1 nx1 fun v _ _=>v = sv:=by
 have d:∀ a b,s_bin.boolOp Θ t h nx (fun v _ _=>K v) f a b → ∃ sv,K sv ∧ s_bin.boolOp Θ t h1 nx1 (fun v _ _=>v = sv) f a b:=by
  intro a b c;unfold s_bin.boolOp at *;split at c
  ·split at c
   ·exact ⟨_,c,rfl⟩
   ·exact ⟨_,c,rfl⟩
   ·exact c.elim
  ·exact c.elim
 have e:∀ a,s_bin.nilOp Θ t h nx (fun v _ _=>K v) f a → ∃ sv,K sv ∧ s_bin.nilOp Θ t h1 nx1 (fun v _ _=>v = sv) f a:=by
  intro a c;unfold s_bin.nilOp at *;split at c
  ·split at c
   ·exact ⟨_,c,rfl⟩
   ·exact ⟨_,c,rfl⟩
   ·exact c.elim
  ·exact c.elim
 unfold s_bin at *;split at c
 ·split at c
  ·exact ⟨_,c.2,c.1,rfl⟩
  ·exact ⟨_,c.2,c.1,rfl⟩
  ·split at c
   ·exact c.elim
   ·rename_i i l j k;split at c
    all_goals first
     |exact c.elim
     |exact ⟨_,c,rfl⟩
     |exact ⟨_,c.2,c.1,rfl⟩
 ·split at c
  ·exact ⟨_,c.2,c.1,rfl⟩
  ·exact ⟨_,c,rfl⟩
  ·exact ⟨_,c,rfl⟩
  ·exact ⟨_,c,rfl⟩
  ·exact c.elim
 ·exact d _ _ c
 ·exact d _ _ c
 ·exact d _ _ c
 ·exact d _ _ c
 ·exact e _ c
 ·exact e _ c
 ·split at c
  ·obtain ⟨b,h1,g⟩:=c; exact ⟨_,g,b,h1,rfl⟩
  ·obtain ⟨b,h1,g⟩:=c; exact ⟨_,g,b,h1,rfl⟩
  ·exact c.elim
 ·exact c.elim
theorem ycn {b:UnOp} {x:SV} (a:s_un b x h nx fun v _ _=>K v):∃ sv,K sv ∧ s_un b x h1 nx1 fun v _ _=>v = sv:=by
 unfold s_un at *;split at a<;>first | exact a.elim | exact ⟨_,a,rfl⟩
theorem zgb {b cap:Nat} {d c:Option Int} {F:Nat → Nat → SV} (a:bnds b cap d c fun l m=>K (F l m)):∃ sv,K sv ∧ bnds b cap d c fun l m=>F l m = sv:=by
 unfold bnds at *;split at a
 ·split at a
  ·exact ⟨_,a,rfl⟩
  ·exact ⟨_,a.2,a.1,rfl⟩
 ·obtain ⟨g,a⟩:=a;split at a
  ·exact ⟨_,a,g,rfl⟩
  ·exact ⟨_,a.2,g,a.1,rfl⟩
theorem zz4 {t:TypeId} {x:SV} {u w mx:Option SV} (d:zhe Θ t x u w mx h nx fun v _ _=>K v):∃ sv,K sv ∧ zhe Θ t x u w mx h1 nx1 fun v _ _=>v = sv:=by
 unfold zhe at *;split at d
 ·exact d.elim
 ·split at d
  ·rename_i A B o n;split at d
   ·rename_i l;obtain ⟨sv,g,f⟩:=zgb d;exact ⟨sv,g,by simp only [o,n,l]; exact f⟩
   ·rename_i s a b c nil i k e sz y cap l;split at d
    ·rename_i j m;split at d
     ·rename_i p;obtain ⟨sv,g,f⟩:=zgb d;exact ⟨sv,g,by simp only [o,n,l,m,p]; exact f⟩
     ·rename_i p;split at d
      ·rename_i q;obtain ⟨sv,g,f⟩:=zgb d;exact ⟨sv,g,by simp only [o,n,l,m,p,q]; exact f⟩
      ·rename_i q;split at d
       ·obtain ⟨sv,g,f⟩:=zgb d;exact ⟨sv,g,by simp only [o,n,l,m,p,q]; exact f⟩
       ·exact d.elim
    ·exact d.elim
   ·rename_i l;split at d
    ·rename_i m;obtain ⟨sv,g,f⟩:=zgb (F:=fun _ _=>SV.va .nilsl) d;exact ⟨sv,g,by simp only [o,n,l,m]; exact f⟩
    ·exact d.elim
   ·rename_i l;split at d
    ·rename_i m;split at d
     ·rename_i p;obtain ⟨sv,g,f⟩:=zgb d;exact ⟨sv,g,by simp only [o,n,l,m,p]; exact f⟩
     ·exact d.elim
    ·exact d.elim
   ·rename_i l;split at d
    ·rename_i m;obtain ⟨sv,g,f⟩:=zgb d;exact ⟨sv,g,by simp only [o,n,l,m]; exact f⟩
    ·exact d.elim
   ·exact d.elim
  ·exact d.elim
theorem zne {t:TypeId} {x:SV} {f:Nat} (a:zdn Θ t x f h nx fun v _ _=>K v):∃ sv,K sv ∧ zdn Θ t x f h1 nx1 fun v _ _=>v = sv:=by
 unfold zdn at *;split at a
 ·rename_i e;split at a
  ·rename_i c;split at a
   ·rename_i d;split at a
    ·exact a.elim
    ·rename_i b;exact ⟨_,a,by simp only [e,c,d,b]⟩
   ·exact a.elim
  ·exact a.elim
 ·exact a.elim
theorem zx9 {t:TypeId} {x:SV} {f:Nat} (a:zhq Θ t x f h nx fun v _ _=>K v):∃ sv,K sv ∧ zhq Θ t x f h1 nx1 fun v _ _=>v = sv:=by
 unfold zhq at *;split at a
 ·rename_i g;split at a
  ·rename_i d;split at a
   ·rename_i e;split at a
    ·rename_i c;split at a
     ·rename_i b;exact ⟨_,a,by simp only [g,d,e,c,b]⟩
     ·rename_i b;split at a
      ·exact ⟨_,a,by simp only [g,d,e,c,b]⟩
      ·exact a.elim
    ·exact a.elim
   ·exact a.elim
  ·exact a.elim
 ·exact a.elim
theorem znx {t:TypeId} {x y:SV} (a:zdm Θ t x y h nx fun v _ _=>K v):∃ sv,K sv ∧ zdm Θ t x y h1 nx1 fun v _ _=>v = sv:=by
 unfold zdm at *;split at a
 ·rename_i d;split at a
  ·rename_i c;obtain ⟨g,a⟩:=a;split at a
   ·rename_i b;exact ⟨_,a,by simp only [d,c,b]; exact ⟨g,tv⟩⟩
   ·rename_i b;exact ⟨_,a,by simp only [d,c,b]; exact ⟨g,tv⟩⟩
  ·exact a.elim
 ·rename_i d;split at a
  ·rename_i c;split at a
   ·rename_i b;obtain ⟨e,f,a⟩:=a;exact ⟨_,a,by simp only [d,c,b]; exact ⟨e,f,tv⟩⟩
   ·rename_i b;split at a
    ·rename_i i;obtain ⟨e,f,a⟩:=a;exact ⟨_,a,by simp only [d,c,b,i]; exact ⟨e,f,tv⟩⟩
    ·exact a.elim
  ·exact a.elim
 ·exact a.elim
theorem zzp {t:TypeId} {x y:SV} (a:zhi Θ t x y h nx fun v _ _=>K v):∃ sv,K sv ∧ zhi Θ t x y h1 nx1 fun v _ _=>v = sv:=by
 unfold zhi at *;split at a
 ·rename_i c;obtain ⟨g,b,j,a⟩:=a;exact ⟨_,a,by simp only [c]; exact ⟨g,b,j,rfl⟩⟩
 ·rename_i c;split at a
  ·rename_i e;obtain ⟨g,i,f,a⟩:=a;split at a
   ·rename_i d;exact ⟨_,a,by simp only [c,e,d]; exact ⟨g,i,f,rfl⟩⟩
   ·rename_i d;split at a
    ·exact ⟨_,a,by simp only [c,e,d]; exact ⟨g,_,f,rfl⟩⟩
    ·exact a.elim
  ·exact a.elim
 ·exact a.elim
theorem z9y {ts:List TypeId} {x:SV} (a:s_len Θ ts x h nx fun v _ _=>K v):∃ sv,K sv ∧ s_len Θ ts x h1 nx1 fun v _ _=>v = sv:=by
 unfold s_len at *;split at a
 ·split at a
  ·rename_i b; exact ⟨_,a,by simp only [b]⟩
  ·rename_i b; exact ⟨_,a,by simp only [b]⟩
  ·rename_i b; exact ⟨_,a,by simp only [b]⟩
  ·rename_i b; exact ⟨_,a,by simp only [b]⟩
  ·exact a.elim
 ·exact a.elim
theorem z8g {x y:SV} (a:s_min x y h nx fun v _ _=>K v):∃ sv,K sv ∧ s_min x y h1 nx1 fun v _ _=>v = sv:=by
 unfold s_min at *;split at a
 ·exact ⟨_,a,rfl⟩
 ·exact a.elim
theorem yau {x y:SV} (a:s_max x y h nx fun v _ _=>K v):∃ sv,K sv ∧ s_max x y h1 nx1 fun v _ _=>v = sv:=by
 unfold s_max at *;split at a
 ·exact ⟨_,a,rfl⟩
 ·exact a.elim
theorem zlt {b:SB} {p:Pl} {n:Nat} {F:List SA → Prop} (a:rdB b p n F):∃ c,F c ∧ rdB b p n fun e=>e = c:=by
 unfold rdB at *;split at a
 ·split at a
  ·exact ⟨_,a,rfl⟩
  ·exact a.elim
 ·split at a
  ·obtain ⟨x,f,a⟩:=a;split at a
   ·rename_i g; exact ⟨_,a,x,f,by simp only [g]⟩
   ·exact a.elim
  ·obtain ⟨c,h1,d⟩:=a;exact ⟨c,d,c,h1,rfl⟩
 ·obtain ⟨c,h1,d⟩:=a;exact ⟨c,d,c,h1,rfl⟩
theorem yct {p:Pl} {n:Nat} {F:List SA → Prop} (a:rd h p n F):∃ b,F b ∧ rd h p n fun j=>j = b:=by
 unfold rd at *;split at a
 ·rename_i e;split at a
  ·rename_i i;obtain ⟨b,c,d⟩:=zlt a;exact ⟨b,c,d⟩
  ·exact a.elim
 ·rename_i e;obtain ⟨g,a⟩:=a;split at a
  ·rename_i i;obtain ⟨b,c,d⟩:=zlt a;exact ⟨b,c,g,d⟩
  ·exact a.elim
 ·rename_i e;obtain ⟨g,a⟩:=a;obtain ⟨b,c,d⟩:=zlt a;exact ⟨b,c,g,d⟩
 ·rename_i e;obtain ⟨B,f,a⟩:=a;obtain ⟨b,c,d⟩:=zlt a;exact ⟨b,c,B,f,d⟩
 ·rename_i e;split at a
  ·rename_i i;obtain ⟨B,f,a⟩:=a;obtain ⟨b,c,d⟩:=zlt a;exact ⟨b,c,B,f,d⟩
  ·exact a.elim
 ·exact a.elim
 ·exact a.elim
def geE (x y:Option Ent):Prop:=
 match x,y with
 |some (.frz F'),some (.frz F)=>Fz.le F F'
 |_,_=>False
def Keep (h h1:Hp) (i:Nat):Prop:=geE (lget h1 0) (lget h 0) ∧ (i = 0 ∨ lget h1 i = lget h i)
theorem zh1 {b:SB} {p:Pl} {n:Nat} {F G:List SA → Prop} (a:rdB b p n F) (c:∀ d,F d → G d):rdB b p n G:=by
 unfold rdB at *;split at a
 ·split at a
  ·exact c _ a
  ·exact a.elim
 ·split at a
  ·obtain ⟨x,f,a⟩:=a;refine ⟨x,f,?_⟩;split at a
   ·exact c _ a
   ·exact a.elim
  ·obtain ⟨d,h1,e⟩:=a;exact ⟨d,h1,c _ e⟩
 ·obtain ⟨d,h1,e⟩:=a;exact ⟨d,h1,c _ e⟩
theorem zxc {p:Pl} {n:Nat} {F G:List SA → Prop} (a:rd h p n F) (b:∀ d,F d → G d):rd h p n G:=by
 unfold rd at *;split at a
 ·split at a
  ·exact zh1 a b
  ·exact a.elim
 ·obtain ⟨e,a⟩:=a;split at a
  ·exact ⟨e,zh1 a b⟩
  ·exact a.elim
 ·exact ⟨a.1,zh1 a.2 b⟩
 ·obtain ⟨B,c,a⟩:=a; exact ⟨B,c,zh1 a b⟩
 ·split at a
  ·obtain ⟨B,c,a⟩:=a; exact ⟨B,c,zh1 a b⟩
  ·exact a.elim
 ·exact a.elim
 ·exact a.elim
theorem yag {p:Pl} {n:Nat} {F:List SA → Prop} (a:rd h p n F) (j:Keep h h1 p.i):rd h1 p n F:=by
 obtain ⟨b,d⟩:=j;unfold geE at b;split at b
 ·rename_i F1 k g e;by_cases f:p.i = 0
  ·unfold rd at *;rw [f] at a ⊢;rw [e] at a;rw [g];obtain ⟨B,c,a⟩:=a;exact ⟨B,b _ B c,a⟩
  ·have d:=d.resolve_left f;unfold rd at *;rw [d,g];rw [e] at a;split at a<;>rename_i l
   all_goals first
    |exact a
    |exact a.elim
    |(obtain ⟨B,c,a⟩:=a; first | exact ⟨B,c,a⟩ | exact ⟨B,b _ B c,a⟩)
 ·exact b.elim
theorem z5f {t:TypeId} {p:Pl} (b:zfr Θ t (.va (.ptr p)) h nx fun v _ _=>K v):∃ sv,K sv ∧ zfr Θ t (.va (.ptr p)) h nx fun v _ _=>v = sv:=by
 unfold zfr at *;split at b
 ·rename_i i q k g;cases g
  obtain ⟨j,a,e⟩:=yct b;split at a
  ·rename_i d;refine ⟨_,a,?_⟩;exact zxc e (fun f c=>by subst c; simp only [d])
  ·rename_i d;split at a
   ·refine ⟨_,a,?_⟩;exact zxc e (fun f c=>by subst c; simp only [d])
   ·exact a.elim
 ·exact b.elim
theorem zyw {t:TypeId} {p:Pl} {G:SV → Prop} (a:zfr Θ t (.va (.ptr p)) h nx fun v _ _=>G v) (b:Keep h h1 p.i):zfr Θ t (.va (.ptr p)) h1 nx1 fun v _ _=>G v:=by
 unfold zfr at *;split at a
 ·rename_i i q d c;cases c
  exact yag a b
 ·exact a.elim
end
def zdu (b:Region.Mode) (a:Array Oper) (j:Nat):Bool:=
 (List.range a.size).all fun i=>Nat.beq i j || (match a[j]? with
  |some o=>o.after.any fun e=>Region.binds b e && Nat.beq e.on i
  |none=>false)
theorem zn5 {f:Region.Mode} {a:Array Oper} {i j:Nat} {g:Oper} (k:i < a.size) (m:a[j]? = some g) (c:j ≠ i) (d:∀ e ∈ g.after,Region.binds f e = true → e.on ≠ i):zdu f a j = false:=by
 cases h:zdu f a j with
 |false=>rfl
 |true=>
  have h1:=qo.1 h i (qcr.2 k);simp only [m,yy,Array.any_eq_true'] at h1;rcases h1 with h1 | ⟨e,l,b⟩
  ·exact absurd (qk h1).symm c
  ·rw [qf] at b;exact absurd (qk b.2) (d e l b.1)
def wpAnyL (P:Program) (d:Region.Mode) (c:Array Oper) (Q:Exit → Act → World → Prop) (S:World → Prop):Nat → Array Bool → Act → World → Prop
 |0,b,a,w=>Region.ready d c b = [] ∧ Q .normal a w
 |fuel + 1,b,a,w=>
  (Region.ready d c b = [] → Q .normal a w) ∧
  ∀ i ∈ Region.ready d c b,wpOp P c Q i (fun f e=>(zdu d c i = false → S e) ∧ wpAnyL P d c Q S fuel (b.setIfInBounds i true) f e) a w
section
variable {P:Program} {ops:Array Oper} {Q:Exit → Act → World → Prop} {md:Region.Mode} {S:World → Prop}
theorem zl0:∀ (fuel:Nat) (b:Array Bool) (a:Act) (w:World),wpAnyL P md ops Q S fuel b a w → wpAny P md ops Q fuel b a w
 |0,_,_,_,h=>h
 |fuel + 1,_,_,_,h=>⟨h.1,fun i d=>wpOp_mono (fun e f c=>zl0 fuel _ e f c.2) (h.2 i d)⟩
theorem wpAnyL_first {i:Nat} {oi:Oper} {v:Value} (J:ops[i]? = some oi) (p:∀ (j:Nat) (o:Oper) E b,ops[j]? = some o → o.op ≠ .select E b)
  (U:∀ c a w,Q (.panic c) (a.put oi.dst v) w → Q (.panic c) a w) :
  ∀ (g:Nat) (d:Array Bool) (a:Act) (w:World),
   (∀ j u,ops[j]? = some u → j ≠ i → d.getD j true = false → (∀ e ∈ u.after,Region.binds md e = true → e.on ≠ i) → oi.apart ops u = true) →
   i ∈ Region.ready md ops d → YieldsIf P ops S oi v a → S w →
   wpAnyL P md ops Q S g (d.setIfInBounds i true) (a.put oi.dst v) w → wpAnyL P md ops Q S (g + 1) d a w:=by
 intro g
 induction g with
 |zero=>
  intro d a w _ x I G H;refine ⟨fun h=>(by rw [h] at x; cases x),fun j L=>?_⟩;by_cases f:j = i
  ·subst f; exact I.wpOp J G ⟨fun _=>G,H⟩
  ·have:=ready_mono L f;rw [H.1] at this;cases this
 |succ g ih=>
  intro d a w l x I G H;refine ⟨fun h=>(by rw [h] at x; cases x),fun j L=>?_⟩;by_cases f:j = i
  ·subst f; exact I.wpOp J G ⟨fun _=>G,H⟩
  ·have h1:=H.2 j (ready_mono L f);obtain ⟨q,u,m,A⟩:=mem_ready.1 L
   have s:∀ e ∈ u.after,Region.binds md e = true → e.on ≠ i:=fun e W hb R=>by
    have h1:=A e W hb;have T:=(mem_ready.1 x).1;rw [R] at h1;rcases qb7 i d.size with h' | h'
    ·simp [h'] at T h1; rw [T] at h1; cases h1
    ·simp [Array.getElem?_eq_none h'] at h1
   have y:=zn5 (jo.1 J).1 m f s;have X:=wpOp_putIf m (l j u m f q s) (fun E b=>p i oi E b J) (fun E b=>p j u E b m) U I h1
   have n:∀ k ok,ops[k]? = some ok → k ≠ i → (d.setIfInBounds j true).getD k true = false →
     (∀ e ∈ ok.after,Region.binds md e = true → e.on ≠ i) → oi.apart ops ok = true:=fun k ok V M B O=>by
    refine l k ok V M ?_ O;by_cases D:j = k
    ·subst D; exact q
    ·rw [getD_set_ne true D] at B; exact B
   refine wpOp_mono (fun Y Z K=>⟨fun _=>K.2.1 y,ih (d.setIfInBounds j true) Y Z n (ready_mono x (Ne.symm f)) K.1 (K.2.1 y) ?_⟩) X;rw [Array.setIfInBounds_comm _ _ f];exact K.2.2
theorem zlk {i:Nat} {oi:Oper} {v:Value} {d:Nat} {b:Array Bool} {a:Act} {w:World} (e:ops[i]? = some oi)
  (k:Region.noSelect ops = true) (m:Region.free md ops b i = true) (g:(Region.ready md ops b).contains i = true)
  (f:∀ c a w,Q (.panic c) (a.put oi.dst v) w → Q (.panic c) a w) (l:YieldsIf P ops S oi v a) (j:S w)
  (h:wpAnyL P md ops Q S d (b.setIfInBounds i true) (a.put oi.dst v) w):wpAnyL P md ops Q S (d + 1) b a w:=
 wpAnyL_first e (Region.noSelect_spec k) f d b a w (Region.free_spec e m) (by simpa using g) l j h
theorem zmz {e:List Nat} {c:Nat} {b:Array Bool} {a:Act} {w:World} (f:Region.ready md ops b = e) (d:e ≠ [])
  (h:∀ i ∈ e,wpOp P ops Q i (fun j g=>(zdu md ops i = false → S g) ∧ wpAnyL P md ops Q S c (b.setIfInBounds i true) j g) a w):wpAnyL P md ops Q S (c + 1) b a w:=
 ⟨fun k=>absurd (f ▸ k) d,f ▸ h⟩
theorem zkf {b:Array Bool} {a:Act} {w:World} (d:Region.ready md ops b = []) (h:Q .normal a w) :
  ∀ c,wpAnyL P md ops Q S c b a w
 |0=>⟨d,h⟩
 |_ + 1=>⟨fun _=>h,by rw [d]; simp⟩
theorem zsw {id:Nat} {a:Act} {w:World} (b:P.follows .mixedOrders = true)
  (h:wpAnyL P .any ops Q S ops.size (Array.replicate ops.size false) a { w with drawn:=w.drawn + 1 }):(Code.region id ops true).wp P Q a w:=
 wp_region_any b (zl0 _ _ _ _ h)
end
def zdd (C:Ctx) (ids:List Nat) (a:St) (ρ:Rho) (w:World):Prop:=
 ∃ b h1 nx1,Sat C b h1 nx1 w ∧ (∀ i,i < a.nx → b i = ρ i) ∧ a.nx ≤ nx1 ∧ ∀ i,memN i (0 :: ids) = true → Keep a.h h1 i
section
variable {P:Program} {Θ:Tys} {C:Ctx} {ρ:Rho} {st:St} {a:Act} {w:World} {ids:List Nat} {K:SV → Prop}
theorem zpo {C:Ctx} {ρ:Rho} {h:Hp} {nx:Nat} {w:World} (S:Sat C ρ h nx w) (i:Nat):Keep h h i:=by
 obtain ⟨F,b,_⟩:=S.fz;exact ⟨by rw [b]; exact Fz.r F,.inr rfl⟩
theorem zf0 (D:Den C ρ st a w):zdd C ids st ρ w:=⟨ρ,st.h,st.nx,D.sat,fun _ _=>rfl,qm _,fun i _=>zpo D.sat i⟩
def Looks (P:Program) (C:Ctx) (ids:List Nat) (st:St) (ρ:Rho) (K:SV → Prop) (s:Sem Next):Prop:=
 ∃ v sv,K sv ∧ sv.rel ρ v ∧ sv.below st.nx ∧ ∀ b,zdd C ids st ρ b → s.run P b = .ok (.value v) b
theorem zdj {s:Sem Value} (sv:SV) (m:nj K sv) (D:Den C ρ st a w)
  (d:∀ g h1 nx1 y,Sat C g h1 nx1 y → (∀ i,i < st.nx → g i = ρ i) → st.nx ≤ nx1 → (∀ i,memN i (0 :: ids) = true → Keep st.h h1 i) → YldS P s g h1 nx1 y fun v _ _=>v = sv) :
  Looks P C ids st ρ K (do pure (Next.value (← s))):=by
 obtain ⟨m,u⟩:=zzo m;obtain ⟨A,o,R,e,k,J⟩:=d ρ st.h st.nx w D.sat (fun _ _=>rfl) (qm _) (fun i _=>zpo D.sat i);subst J;refine ⟨A,o,m,e,k,?_⟩;rintro I ⟨g,h1,nx1,E,j,p,f⟩;obtain ⟨M,q,B,c,L,O⟩:=d g h1 nx1 I E j p f;subst O
 have G:M = A:=by
  have b:=SV.rel_congr (n:=st.nx) j k e;cases q with
  |va x=>simp only [SV.rel] at *; rw [c,b]
  |agg l=>simp only [SV.rel] at *; rw [c,b]
  |tup l=>simp only [SV.rel] at *; rw [c,b]
  |junk=>exact absurd rfl u
 subst G;simp [B]
theorem zfs {v:Value} {sv:SV} (e:K sv) (c:sv.rel ρ v) (f:sv.below st.nx) (s:Sem Next) (d:∀ b,s.run P b = .ok (.value v) b):Looks P C ids st ρ K s:=
 ⟨v,sv,e,c,f,fun b _=>d b⟩
theorem zvs (hΘ:Θ.Ok P) {o:Oper} (m:sval P Θ ids st.t o.op st.h st.nx K) (D:Den C ρ st a w):Looks P C ids st ρ K (execOp a.eval o):=by
 obtain ⟨af,op,type,pos,ad,guard⟩:=o;have L:∀ {G:Rho} (e:∀ i,i < st.nx → G i = ρ i) (x:Operand),(ev st.t x).rel G (a.eval x):=fun e x=>SV.rel_congr (n:=st.nx) e (za4 D x).2 (za4 D x).1
 have bl:∀ {n:Nat} (q:st.nx ≤ n) (x:Operand),(ev st.t x).below n:=fun q x=>SV.below_mono q (za4 D x).2
 have Z:∀ {G:Rho} (e:∀ i,i < st.nx → G i = ρ i) (x:Option Operand),relO G (evO st.t x) (x.map a.eval):=fun e x=>by
  cases x with
  |none=>trivial
  |some x=>exact L e x
 cases op
 case move x=>exact zfs m (za4 D x).1 (za4 D x).2 _ (fun _=>rfl)
 case assign x=>exact zfs m (za4 D x).1 (za4 D x).2 _ (fun _=>rfl)
 case pick c x y=>
  obtain ⟨sv,A,j⟩:=z2w (h:=st.h) (nx:=st.nx) (h1:=st.h) (nx1:=st.nx) m;have:=zdj (P:=P) (ids:=ids) (s:=(do pure (if ← asBool (a.eval c) then a.eval x else a.eval y):Sem Value)) sv A D (fun G h1 nx1 T B e q g=>zqi (K:=fun v _ _=>v = sv) (h:=h1) (nx:=nx1) j B (L e c) (L e x) (L e y) (bl q x) (bl q y));simpa [execOp] using this
 case load ty x=>
  simp only [sval] at m;have J:=za4 D x;split at m
  ·rename_i p V;obtain ⟨hm,m⟩:=m;rw [V] at J;obtain ⟨sv,A,j⟩:=z5f m;refine zdj sv A D (fun G h1 nx1 T B e q g=>?_);have ac:=SV.rel_congr (n:=st.nx) e J.2 J.1;obtain ⟨u,ae,k1,k2,k3,k4⟩:=zhg (P:=P) hΘ (zyw (nx1:=nx1) j (g p.i hm)) B ac;exact ⟨u,ae,k1,k2,k3,k4⟩
  ·exact m.elim
 case nilCheck x=>
  simp only [sval] at m;have J:=za4 D x;split at m
  ·rename_i p V;rw [V] at J;have W:a.eval x = .pointer (some (p.addr ρ)):=J.1;exact zfs m J.1 J.2 _ (fun w'=>by simp [execOp,W])
  ·rename_i f c V;rw [V] at J;have W:a.eval x = _:=J.1;simp only [SA.den] at W;exact zfs m J.1 J.2 _ (fun w'=>by simp [execOp,W])
  ·exact m.elim
 case binOp op ty x y ty'=>
  obtain ⟨sv,A,j⟩:=ybs (h:=st.h) (nx:=st.nx) (h1:=st.h) (nx1:=st.nx) m;exact zdj sv A D (fun G h1 nx1 T B e q g=>ztn (K:=fun v _ _=>v = sv) hΘ (h:=h1) (nx:=nx1) j B (L e x) (L e y))
 case unOp op ty x=>
  obtain ⟨sv,A,j⟩:=ycn (h:=st.h) (nx:=st.nx) (h1:=st.h) (nx1:=st.nx) m;exact zdj sv A D (fun G h1 nx1 T B e q g=>zwp (K:=fun v _ _=>v = sv) (h:=h1) (nx:=nx1) j B (L e x))
 case convert s d x=>
  simp only [sval] at m;have J:=za4 D x;split at m
  ·rename_i k n V;rw [V] at J;have W:a.eval x = .int k n:=J.1;unfold zp3 at m;split at m
   ·rename_i i0 k' c1 c2 c3 kk nn e1 e2 U;cases U
    refine zfs (sv:=.va (.int k' (k'.wrap n))) (v:=.int k' (k'.wrap n)) (zzo m).1 rfl trivial _ (fun w'=>?_)
    have:(convert s d (.int k n)).run P w' = .ok (.int k' (k'.wrap n)) w':=by
     simp only [convert,Sem.run_bind,zau hΘ e1,zau hΘ e2,Result.andThen_ok,Conv.intToInt];cases i0.d<;>rfl
    simp [execOp,W,this]
   ·rename_i U; cases U
   ·rename_i U; cases U
   ·rename_i U; cases U
   ·rename_i U; cases U
   ·exact m.elim
  ·exact m.elim
 case slice ty x lo hi mx=>
  obtain ⟨sv,A,j⟩:=zz4 (h:=st.h) (nx:=st.nx) (h1:=st.h) (nx1:=st.nx) m;exact zdj sv A D (fun G h1 nx1 T B e q g=>zmk (K:=fun v _ _=>v = sv) hΘ (h:=h1) (nx:=nx1) j B (L e x) (Z e lo) (Z e hi) (Z e mx) (bl q x))
 case fieldAddr ty x f=>
  obtain ⟨sv,A,j⟩:=zne (h:=st.h) (nx:=st.nx) (h1:=st.h) (nx1:=st.nx) m;exact zdj sv A D (fun G h1 nx1 T B e q g=>zg9 (K:=fun v _ _=>v = sv) hΘ (h:=h1) (nx:=nx1) j B (L e x) (bl q x))
 case field ty x f=>
  obtain ⟨sv,A,j⟩:=zx9 (h:=st.h) (nx:=st.nx) (h1:=st.h) (nx1:=st.nx) m;exact zdj sv A D (fun G h1 nx1 T B e q g=>zl3 (K:=fun v _ _=>v = sv) hΘ (h:=h1) (nx:=nx1) j B (L e x) (bl q x))
 case indexAddr ty x i=>
  obtain ⟨sv,A,j⟩:=znx (h:=st.h) (nx:=st.nx) (h1:=st.h) (nx1:=st.nx) m;exact zdj sv A D (fun G h1 nx1 T B e q g=>zha (K:=fun v _ _=>v = sv) hΘ (h:=h1) (nx:=nx1) j B (L e x) (L e i) (bl q x))
 case index ty x i=>
  obtain ⟨sv,A,j⟩:=zzp (h:=st.h) (nx:=st.nx) (h1:=st.h) (nx1:=st.nx) m;exact zdj sv A D (fun G h1 nx1 T B e q g=>zl1 (K:=fun v _ _=>v = sv) hΘ (h:=h1) (nx:=nx1) j B (L e x) (L e i) (bl q x))
 case extract x i=>
  simp only [sval] at m;have J:=za4 D x;split at m
  ·rename_i l V;rw [V] at J;split at m
   ·rename_i c hc;have W:a.eval x = .tuple (l.map (SC.den ρ)).toArray:=J.1;rw [zic] at hc;have aa:c ∈ l:=yw hc;refine zfs (v:=c.den ρ) m ?_ ?_ _ (fun w'=>?_)
    ·cases c<;>rfl
    ·have:=J.2 c aa; cases c<;>exact this
    ·simp [execOp,W,Instr.extract,hc]
   ·exact m.elim
  ·exact m.elim
 case call c=>
  simp only [sval] at m;obtain ⟨ab,args,I⟩:=c;obtain ⟨h1,X⟩:=zku D args.toList;split at m
  ·rename_i b Y;simp only at Y; subst Y
   have E:∀ {G:Rho} {l:List SV} {vs:List Value},(∀ i,i < st.nx → G i = ρ i) → (∀ s ∈ l,s.below st.nx) → relL ρ l vs → relL G l vs:=by
    intro G l
    induction l with
    |nil=>intro vs _ _ h; cases vs<;>exact h
    |cons s r ih=>
     intro vs e hb h;cases vs with
     |nil=>exact h
     |cons v vr=>exact ⟨SV.rel_congr (n:=st.nx) e (hb s (by simp)) h.1,ih e (fun s m=>hb s (by simp [m])) h.2⟩
   split at m
   ·rename_i x O;rw [O] at h1 X
    match hm:args.toList.map a.eval,h1 with
    |[v],h1=>
     have R:args.map a.eval = #[v]:=by apply Array.ext'; simpa using hm
     obtain ⟨sv,A,j⟩:=z9y (h:=st.h) (nx:=st.nx) (h1:=st.h) (nx1:=st.nx) m;have:=zdj (ids:=ids) sv A D (fun G M nx1 T B e q g=>zty (K:=fun v _ _=>v = sv) (ty:=type) hΘ (h:=M) (nx:=nx1) j B (E e X h1).1);simpa [execOp,resolve,invoke,builtin,R] using this
   ·rename_i x y O;rw [O] at h1 X
    match hm:args.toList.map a.eval,h1 with
    |[v,u],h1=>
     have R:args.map a.eval = #[v,u]:=by apply Array.ext'; simpa using hm
     obtain ⟨sv,A,j⟩:=z8g (h:=st.h) (nx:=st.nx) (h1:=st.h) (nx1:=st.nx) m;have:=zdj (P:=P) (ids:=ids) sv A D (fun G M nx1 T B e q g=>zvf (K:=fun v _ _=>v = sv) (ts:=I) (ty:=type) (h:=M) (nx:=nx1) j B (E e X h1).1 (E e X h1).2.1);simpa [execOp,resolve,invoke,builtin,R] using this
   ·rename_i x y O;rw [O] at h1 X
    match hm:args.toList.map a.eval,h1 with
    |[v,u],h1=>
     have R:args.map a.eval = #[v,u]:=by apply Array.ext'; simpa using hm
     obtain ⟨sv,A,j⟩:=yau (h:=st.h) (nx:=st.nx) (h1:=st.h) (nx1:=st.nx) m;have:=zdj (P:=P) (ids:=ids) sv A D (fun G M nx1 T B e q g=>ztq (K:=fun v _ _=>v = sv) (ts:=I) (ty:=type) (h:=M) (nx:=nx1) j B (E e X h1).1 (E e X h1).2.1);simpa [execOp,resolve,invoke,builtin,R] using this
   ·exact m.elim
  ·exact m.elim
 all_goals exact m.elim
end
def keepL (ids:List Nat) (h a:Hp) (X:Prop):Prop:=
 match ids with
 |[]=>X
 |i :: r=>lget a i = lget h i ∧ keepL r h a X
def keepK (ids:List Nat) (h a:Hp) (X:Prop):Prop:=geE (lget a 0) (lget h 0) ∧ keepL ids h a X
theorem zl7 {h a:Hp} {X:Prop}:∀ {ids:List Nat},keepL ids h a X → X ∧ ∀ i,memN i ids = true → lget a i = lget h i
 |[],hk=>⟨hk,fun i hi=>by cases hi⟩
 |j :: r,hk=>by
  obtain ⟨h1,c⟩:=hk;obtain ⟨b,d⟩:=zl7 c;refine ⟨b,fun i hi=>?_⟩;simp only [memN,yy] at hi;rcases hi with hi | hi
  ·rw [qk hi]; exact h1
  ·exact d i hi
theorem zwa {h b:Hp} {X:Prop} {ids:List Nat} (a:keepK ids h b X):X ∧ ∀ i,memN i (0 :: ids) = true → Keep h b i:=by
 obtain ⟨e,a⟩:=a;obtain ⟨c,d⟩:=zl7 a;refine ⟨c,fun i hm=>⟨e,?_⟩⟩;simp only [memN,yy] at hm;rcases hm with hm | hm
 ·exact .inl (qk hm)
 ·exact .inr (d i hm)
theorem zx5 {x y z:Option Ent} (h:geE x y) (a:geE y z):geE x z:=by
 unfold geE at h;split at h
 ·unfold geE at a;split at a
  ·rename_i b; cases b; exact Fz.t a h
  ·exact a.elim
 ·exact h.elim
theorem Keep.trans {h h1 c:Hp} {i:Nat} (a:Keep h h1 i) (b:Keep h1 c i):Keep h c i:=
 ⟨zx5 b.1 a.1,by
  rcases a.2 with h' | h'
  ·exact .inl h'
  ·rcases b.2 with h'' | h''
   ·exact .inl h''
   ·exact .inr (h''.trans h')⟩
def zje (e:List Oper) (g:Option (Nat × Bool)) (a:St) (c skip:St → Prop):Prop:=
 match g with
 |none=>c a
 |some (j,want)=>match gslot e j with
  |none=>False
  |some d=>match lget a.t d with
   |some (.va (.lit b))=>(match beqB b want with
    |true=>c a
    |false=>skip a)
   |some (.va (.bool b))=>(match want with
    |true=>(b = true → c { a with t:=lput a.t d (.va (.lit true)) }) ∧ (b = false → skip { a with t:=lput a.t d (.va (.lit false)) })
    |false=>(b = false → c { a with t:=lput a.t d (.va (.lit false)) }) ∧ (b = true → skip { a with t:=lput a.t d (.va (.lit true)) }))
   |some (.tup [])=>skip a
   |_=>False
inductive Pn where
 |done
 |look (i:Nat) (p:Pn)
 |alt (i:Nat) (p q:Pn)
 |last (i:Nat) (p:Pn)
 |nil
def Pn.isNil:Pn → Bool
 |.nil=>true
 |_=>false
def Pn.isDone:Pn → Bool
 |.done=>true
 |_=>false
def Pn.heads:Pn → List Nat
 |.alt i _ q=>i :: q.heads
 |_=>[]
def lk:List Nat → Pn → Pn
 | [],p=>p
 | i :: r,p=>.look i (lk r p)
def splan (P:Program) (Θ:Tys) (ids:List Nat) (b:List Oper) (Q:SE → St → Prop):Pn → St → Prop
 |.done,a=>Q .normal a
 |.nil,_=>True
 |.look i p,a=>(match nth b i with
  |none=>False
  |some o=>zje b o.guard a (fun a=>sval P Θ ids a.t o.op a.h a.nx fun v=>setd o.dst v a fun c=>splan P Θ ids b Q p c) (fun a=>setd o.dst (.tup []) a fun c=>splan P Θ ids b Q p c))
 |.alt i p q,a=>(match nth b i with
  |none=>False
  |some o=>match q.isNil with
   |true=>zje b o.guard a (fun a=>sop P Θ a.t o.op a.h a.nx (fun v h nx=>keepK ids a.h h (setd o.dst v { a with h:=h,nx:=nx } fun c=>splan P Θ ids b Q p c)) (fun v h nx=>Q (.panic v) { a with t:=[],h:=h,nx:=nx }))
    (fun a=>setd o.dst (.tup []) a fun c=>splan P Θ ids b Q p c)
   |false=>zje b o.guard a (fun a=>sop P Θ a.t o.op a.h a.nx (fun v h nx=>keepK ids a.h h (setd o.dst v { a with h:=h,nx:=nx } fun c=>splan P Θ ids b Q p c)) (fun v h nx=>Q (.panic v) { a with t:=[],h:=h,nx:=nx }))
    (fun a=>setd o.dst (.tup []) a fun c=>splan P Θ ids b Q p c) ∧ splan P Θ ids b Q q a)
 |.last i p,a=>(match nth b i with
  |none=>False
  |some o=>zje b o.guard a (fun a=>sop P Θ a.t o.op a.h a.nx (fun v h nx=>setd o.dst v { a with h:=h,nx:=nx } fun c=>splan P Θ ids b Q p c) (fun v h nx=>Q (.panic v) { a with t:=[],h:=h,nx:=nx }))
    (fun a=>setd o.dst (.tup []) a fun c=>splan P Θ ids b Q p c))
def zdc (a:Array Oper) (b:Bool):Pn → Nat → Array Bool → Bool
 |.done,n,listed=>Nat.beq n 0 && !b && (Region.ready .any a listed).isEmpty
 |.nil,_,_=>b
 |.look i p,n,listed=>!b && (match n with
  |0=>false
  |n + 1=>Region.free .any a listed i && (Region.ready .any a listed).contains i && zdc a false p n (listed.setIfInBounds i true))
 |.alt i p q,n,listed=>(match n with
  |0=>false
  |m + 1=>(b || (Region.ready .any a listed == i :: q.heads)) && zdc a false p m (listed.setIfInBounds i true) && zdc a true q n listed)
 |.last i p,n,listed=>!b && (match n with
  |0=>false
  |m + 1=>zdu .any a i && (Region.ready .any a listed == [i]) && (p.isDone && zdc a false p m (listed.setIfInBounds i true)))
def zqc:List (Nat × Bool) → Pn
 |[]=>.done
 |(i,true) :: r=>.look i (zqc r)
 |(i,false) :: r=>.alt i (zqc r) .nil
def Qr (Q:SE → St → Prop):SE → St → Prop:=fun e a=>
 match e with
 |.panic v=>a.t = [] ∧ Q (.panic v) a
 |.normal=>Q .normal a
 |.ret=>Q .ret a
 |.exit i=>Q (.exit i) a
section
variable {P:Program} {Θ:Tys} {C:Ctx} {ids:List Nat} {Q:SE → St → Prop}
theorem zu8 {c:List PanicEntry} {a:Act} {w:World} {b:Option Tmp} {v:Value} (h:Up C (Qr Q) (.panic c) (a.put b v) w):Up C (Qr Q) (.panic c) a w:=by
 obtain ⟨l,k,ρ,f,d,D⟩:=h;cases l with
 |normal=>cases d
 |ret=>cases d
 |exit i=>cases d
 |panic u=>
  refine ⟨.panic u,k,ρ,f,d,?_⟩;have j:=f.1;have h1:(a.put b v).tmps.size = a.tmps.size:=by cases b<;>simp [Act.put]
  have g:(a.put b v).defers = a.defers:=by cases b<;>rfl
  exact { sat:=D.sat,nt:=by rw [← h1]; exact D.nt,tm:=fun n s e=>by rw [j] at e; simp [lget] at e,tw:=D.tw,n0:=D.n0,df:=by rw [← g]; exact D.df,dw:=D.dw }
theorem zii {c:Array Oper} {R:Exit → Act → World → Prop} {S e:World → Prop} (h:∀ w,e w → S w):∀ (fuel:Nat) (b:Array Bool) (a:Act) (w:World),wpAnyL P .any c R e fuel b a w → wpAnyL P .any c R S fuel b a w
 |0,_,_,_,hh=>hh
 |fuel + 1,b,a,w,hh=>⟨hh.1,fun i j=>wpOp_mono (fun k f d=>⟨fun g=>h f (d.1 g),zii h fuel _ k f d.2⟩) (hh.2 i j)⟩
theorem zgp {f:List Oper} {o:Oper} {l:St} {ρ:Rho} {a:Act} {w:World} {p skip:St → Prop} (c:zje f o.guard l p skip) (D:Den C ρ l a w) :
  ∃ i,Den C ρ i a w ∧ i.h = l.h ∧ i.nx = l.nx ∧ ((Region.wanted o (yielded f.toArray a.tmps) = true ∧ p i) ∨ (Region.wanted o (yielded f.toArray a.tmps) = false ∧ skip i)):=by
 unfold zje at c;split at c
 ·rename_i q; exact ⟨l,D,rfl,rfl,.inl ⟨by simp [Region.wanted,q],c⟩⟩
 ·rename_i j e q;split at c
  ·exact c.elim
  ·rename_i d E
   have x:∀ v,a.tmps[d]? = some v → yielded f.toArray a.tmps j = (match v with | .bool b=>some b | _=>none):=by
    intro v g;rw [zni] at E;simp only [yielded,qcb,E,qc5,g];cases v<;>rfl
   have m:∀ b,a.tmps[d]? = some (.bool b) → b = e → Region.wanted o (yielded f.toArray a.tmps) = true:=by
    intro b B u; simp [Region.wanted,q,x _ B,u]
   have A:∀ b,a.tmps[d]? = some (.bool b) → b ≠ e → Region.wanted o (yielded f.toArray a.tmps) = false:=by
    intro b B u; simp [Region.wanted,q,x _ B,u]
   split at c
   ·rename_i b n;obtain ⟨v,g,k⟩:=D.tm d _ n;simp only [SV.rel,SA.den] at k; subst k;split at c
    ·rename_i y; exact ⟨l,D,rfl,rfl,.inl ⟨m b g (by cases b<;>cases e<;>simp_all [beqB]),c⟩⟩
    ·rename_i y; exact ⟨l,D,rfl,rfl,.inr ⟨A b g (by cases b<;>cases e<;>simp_all [beqB]),c⟩⟩
   ·rename_i b n;obtain ⟨v,g,k⟩:=D.tm d _ n;simp only [SV.rel,SA.den] at k; subst k;have s:=D.relit n;split at c
    ·cases b with
     |true=>exact ⟨_,s,rfl,rfl,.inl ⟨m _ g rfl,c.1 rfl⟩⟩
     |false=>exact ⟨_,s,rfl,rfl,.inr ⟨A _ g (by simp),c.2 rfl⟩⟩
    ·cases b with
     |false=>exact ⟨_,s,rfl,rfl,.inl ⟨m _ g rfl,c.1 rfl⟩⟩
     |true=>exact ⟨_,s,rfl,rfl,.inr ⟨A _ g (by simp),c.2 rfl⟩⟩
   ·rename_i n;obtain ⟨v,g,k⟩:=D.tm d _ n;simp only [SV.rel,yv] at k; subst k;exact ⟨l,D,rfl,rfl,.inr ⟨by simp [Region.wanted,q,x _ g],c⟩⟩
   ·exact c.elim
theorem zgn {b a:St} {ρ:Rho} (h1:a.h = b.h) (c:a.nx = b.nx):zdd C ids a ρ = zdd C ids b ρ:=by
 unfold zdd; rw [h1,c]
theorem zd8 {e:St} {ρ:Rho} {a:Act} {w:World} {f:Option Tmp} {sv:SV} {v:Value} {K:St → Prop} (c:setd f sv e K) (D:Den C ρ e a w) (g:sv.rel ρ v) (i:sv.below e.nx) :
  ∃ b,K b ∧ Den C ρ b (a.put f v) w ∧ b.h = e.h ∧ b.nx = e.nx:=by
 unfold setd at c;split at c
 ·exact ⟨e,c,D,rfl,rfl⟩
 ·rename_i d;split at c
  ·rename_i j;exact ⟨_,c,D.put d (nb j) sv v g i,rfl,rfl⟩
  ·exact c.elim
theorem zq2 (hΘ:Θ.Ok P) (b:List Oper) {i:Nat} {o:Oper} {d:Array Bool} {n:Nat} {p:Pn} {c:St} {ρ:Rho} {a:Act} {w:World} (ho:b[i]? = some o)
  (ih:∀ (c:St) (ρ:Rho) (a:Act) (w:World),splan P Θ ids b Q p c → Den C ρ c a w → wpAnyL P .any b.toArray (Up C (Qr Q)) (zdd C ids c ρ) n (d.setIfInBounds i true) a w)
  (A:zje b o.guard c (fun c=>sop P Θ c.t o.op c.h c.nx (fun v h nx=>keepK ids c.h h (setd o.dst v { c with h:=h,nx:=nx } fun k=>splan P Θ ids b Q p k)) (fun v h nx=>Q (.panic v) { c with t:=[],h:=h,nx:=nx }))
    (fun c=>setd o.dst (.tup []) c fun k=>splan P Θ ids b Q p k)) (D:Den C ρ c a w) :
  wpOp P b.toArray (Up C (Qr Q)) i (fun U y=>(zdu .any b.toArray i = false → zdd C ids c ρ y) ∧ wpAnyL P .any b.toArray (Up C (Qr Q)) (zdd C ids c ρ) n (d.setIfInBounds i true) U y) a w:=by
 have W:b.toArray[i]? = some o:=by simpa using ho
 obtain ⟨T,D1,e1,J,u⟩:=zgp A D;have m:zdd C ids T ρ = zdd C ids c ρ:=zgn e1 J;unfold wpOp;simp only [W];rcases u with ⟨O,E⟩ | ⟨O,l⟩
 ·rw [if_pos O];left;have:=zh0 hΘ E D1;refine zij this ?_ ?_
  ·rintro U y ⟨v,sv,h',B,M,rfl,R,I,V,j,Y,G⟩;obtain ⟨R,q⟩:=zwa R;obtain ⟨f,g,L,X,K⟩:=zd8 R j I V
   have Z:∀ S,zdd C ids f M S → zdd C ids c ρ S:=by
    rintro S ⟨ρ1,h1,nx1,S1,a1,a2,a3⟩;refine ⟨ρ1,h1,nx1,S1,fun i x=>?_,?_,fun i x=>?_⟩
    ·rw [a1 i (by rw [K]; show i < B; rw [← J] at x; exact yz x G),Y i (by rw [J]; exact x)]
    ·rw [K] at a2; rw [← J]; exact js G a2
    ·have q1:=a3 i x;rw [X] at q1;have q2:=q i x;rw [e1] at q2;exact q2.trans q1
   exact ⟨fun _=>Z y (zf0 L),zii Z _ _ _ _ (ih f M _ y g L)⟩
  ·rintro e U y ⟨v,h',B,M,rfl,hq,j⟩;refine ⟨.panic v,_,M,⟨rfl,hq⟩,rfl,?_⟩;exact { sat:=j.sat,nt:=j.nt,tm:=fun n s A=>by simp [lget] at A,tw:=fun n s A=>by simp [lget] at A,n0:=j.n0,df:=j.df,dw:=j.dw }
 ·rw [if_neg (by rw [O]; simp)];obtain ⟨f,g,L,X,K⟩:=zd8 (v:=undef) l D1 rfl (by simp [SV.below]);refine ⟨fun _=>zf0 D,?_⟩;have:=ih f ρ _ w g L;rw [zgn X K,m] at this;exact this
theorem zwe (hΘ:Θ.Ok P) (b:List Oper) {i:Nat} {o:Oper} {c:Array Bool} {n:Nat} {p:Pn} {d:St} {ρ:Rho} {a:Act} {w:World} (U:b[i]? = some o) (T:zdu .any b.toArray i = true)
  (ih:∀ (d:St) (ρ:Rho) (a:Act) (w:World),splan P Θ ids b Q p d → Den C ρ d a w → ∀ S,wpAnyL P .any b.toArray (Up C (Qr Q)) S n (c.setIfInBounds i true) a w)
  (u:zje b o.guard d (fun d=>sop P Θ d.t o.op d.h d.nx (fun v h nx=>setd o.dst v { d with h:=h,nx:=nx } fun k=>splan P Θ ids b Q p k) (fun v h nx=>Q (.panic v) { d with t:=[],h:=h,nx:=nx }))
    (fun d=>setd o.dst (.tup []) d fun k=>splan P Θ ids b Q p k)) (D:Den C ρ d a w) (S:World → Prop) :
  wpOp P b.toArray (Up C (Qr Q)) i (fun I m=>(zdu .any b.toArray i = false → S m) ∧ wpAnyL P .any b.toArray (Up C (Qr Q)) S n (c.setIfInBounds i true) I m) a w:=by
 have K:b.toArray[i]? = some o:=by simpa using U
 obtain ⟨X,M,e1,e2,q⟩:=zgp u D;have x:zdu .any b.toArray i = false → ∀ m,S m:=fun h=>absurd (T.symm.trans h) (by simp)
 unfold wpOp;simp only [K];rcases q with ⟨B,y⟩ | ⟨B,l⟩
 ·rw [if_pos B];left;have:=zh0 hΘ y M;refine zij this ?_ ?_
  ·rintro I m ⟨v,sv,Z,E,L,rfl,O,A,J,j,aa,W⟩;obtain ⟨f,g,G,Y,V⟩:=zd8 O j A J;exact ⟨fun h=>x h _,ih f L _ m g G S⟩
  ·rintro e I m ⟨v,Z,E,L,rfl,R,j⟩;refine ⟨.panic v,_,L,⟨rfl,R⟩,rfl,?_⟩;exact { sat:=j.sat,nt:=j.nt,tm:=fun n s u=>by simp [lget] at u,tw:=fun n s u=>by simp [lget] at u,n0:=j.n0,df:=j.df,dw:=j.dw }
 ·rw [if_neg (by rw [B]; simp)];obtain ⟨f,g,G,Y,V⟩:=zd8 (v:=undef) l M rfl (by simp [SV.below]);exact ⟨fun h=>x h _,ih f ρ _ w g G S⟩
theorem ze3 (hΘ:Θ.Ok P) (e:List Oper) (h:Region.noSelect e.toArray = true):∀ (m:Pn) (b:Bool) (n:Nat) (d:Array Bool) (g:St) (ρ:Rho) (a:Act) (w:World),zdc e.toArray b m n d = true →
  splan P Θ ids e Q m g → Den C ρ g a w →
   (b = false → wpAnyL P .any e.toArray (Up C (Qr Q)) (zdd C ids g ρ) n d a w) ∧
   (b = true → ∀ i ∈ m.heads,wpOp P e.toArray (Up C (Qr Q)) i (fun Y A=>(zdu .any e.toArray i = false → zdd C ids g ρ A) ∧ wpAnyL P .any e.toArray (Up C (Qr Q)) (zdd C ids g ρ) (n - 1) (d.setIfInBounds i true) Y A) a w)
 |.done,b,n,d,g,ρ,a,w,f,hs,D=>by
  simp only [zdc,qf,List.isEmpty_iff,qan] at f;exact ⟨fun _=>zkf f.2 ⟨.normal,g,ρ,hs,rfl,D⟩ _,fun _ i Z=>by simp [Pn.heads] at Z⟩
 |.nil,b,n,d,g,ρ,a,w,f,hs,D=>by
  simp only [zdc] at f;exact ⟨(fun E=>absurd (E.symm.trans f) (by simp)),(fun _ i Z=>by simp [Pn.heads] at Z)⟩
 |.look i p,b,n,d,g,ρ,a,w,f,hs,D=>by
  cases n with
  |zero=>simp [zdc] at f
  |succ n=>
  simp only [zdc,qf,qan] at f;obtain ⟨E,⟨hf,I⟩,f⟩:=f;refine ⟨fun _=>?_,(fun B=>absurd (B.symm.trans E) (by simp))⟩;simp only [splan] at hs;split at hs
  ·exact hs.elim
  ·rename_i o s;rw [zic] at s;have M:e.toArray[i]? = some o:=by simpa using s
   obtain ⟨X,J,e1,e2,G⟩:=zgp hs D;have k:zdd C ids X ρ = zdd C ids g ρ:=zgn e1 e2;rcases G with ⟨O,K⟩ | ⟨O,y⟩
   ·obtain ⟨v,sv,hk,L,aa,l⟩:=zvs hΘ K J;obtain ⟨u,x,V,g1,U⟩:=zd8 hk J L aa;refine zlk M h hf I (fun c a w=>zu8) (v:=v) (.inl ⟨O,fun A hS=>l A (by rw [k]; exact hS)⟩) (zf0 D) ?_;have:=(ze3 hΘ e h p false n _ u ρ _ w f x V).1 rfl;rw [zgn g1 U,k] at this;exact this
   ·obtain ⟨u,x,V,g1,U⟩:=zd8 (v:=undef) y J rfl (by simp [SV.below]);refine zlk M h hf I (fun c a w=>zu8) (v:=undef) (.inr ⟨O,rfl⟩) (zf0 D) ?_;have:=(ze3 hΘ e h p false n _ u ρ _ w f x V).1 rfl;rw [zgn g1 U,k] at this;exact this
 |.alt i p q,b,n,d,g,ρ,a,w,f,hs,D=>by
  cases n with
  |zero=>simp [zdc] at f
  |succ n=>
  simp only [zdc,qf,yy,beq_iff_eq] at f;obtain ⟨⟨I,R⟩,ab⟩:=f
  have l:∀ j ∈ (Pn.alt i p q).heads,wpOp P e.toArray (Up C (Qr Q)) j (fun Y A=>(zdu .any e.toArray j = false → zdd C ids g ρ A) ∧ wpAnyL P .any e.toArray (Up C (Qr Q)) (zdd C ids g ρ) n (d.setIfInBounds j true) Y A) a w:=by
   simp only [splan] at hs;split at hs
   ·exact hs.elim
   ·rename_i o s;rw [zic] at s
    have ih:∀ (g:St) (ρ:Rho) (a:Act) (w:World),splan P Θ ids e Q p g → Den C ρ g a w → wpAnyL P .any e.toArray (Up C (Qr Q)) (zdd C ids g ρ) n (d.setIfInBounds i true) a w:=
     fun g ρ a w h1 h2=>(ze3 hΘ e h p false n _ g ρ a w R h1 h2).1 rfl
    split at hs
    ·rename_i hq;have W:q = .nil:=by cases q<;>simp_all [Pn.isNil]
     subst W;intro j hj;simp only [Pn.heads,qu] at hj;subst hj;exact zq2 hΘ e s ih hs D
    ·intro j hj;simp only [Pn.heads,qj] at hj;rcases hj with rfl | hj
     ·exact zq2 hΘ e s ih hs.1 D
     ·exact (ze3 hΘ e h q true (n + 1) d g ρ a w ab hs.2 D).2 rfl j hj
  refine ⟨fun E=>?_,fun _=>l⟩;have T:=I.resolve_left (by simp [E]);exact zmz T (by simp) l
 |.last i p,b,n,d,g,ρ,a,w,f,hs,D=>by
  cases n with
  |zero=>simp [zdc] at f
  |succ n=>
  simp only [zdc,qf,qan,beq_iff_eq] at f;obtain ⟨E,⟨hl,I⟩,f⟩:=f;refine ⟨fun _=>?_,(fun B=>absurd (B.symm.trans E) (by simp))⟩;simp only [splan] at hs;split at hs
  ·exact hs.elim
  ·rename_i o s;rw [zic] at s
   have hp:p = .done:=by
    cases p with
    |done=>rfl
    |_=>exact absurd f.1 (by simp [Pn.isDone])
   subst hp;refine zmz I (by simp) fun j hj=>?_
   simp only [qu] at hj;subst hj;refine zwe hΘ e s hl ?_ hs D _;intro g ρ a w h1 J S;simp only [zdc,qf,List.isEmpty_iff,qan] at f;exact zkf f.2.2 ⟨.normal,g,ρ,h1,rfl,J⟩ _
theorem drawP (hΘ:Θ.Ok P) (o:P.follows .mixedOrders = true) {id:Nat} {b:List Oper} {d:St} (c:Pn) (ids:List Nat)
  (h:(Region.noSelect b.toArray && zdc b.toArray false c b.length (Array.replicate b.length false)) = true)
  (k:splan P Θ ids b Q c d):WP P (.region id b.toArray true) d Q:=by
 simp only [qf] at h;obtain ⟨h1,n⟩:=h;unfold WP;intro C ρ a w D;have l:Den C ρ d a { w with drawn:=w.drawn + 1 }:={ sat:=D.sat.drew,nt:=D.nt,tm:=D.tm,tw:=D.tw,n0:=D.n0,df:=D.df,dw:=D.dw }
 have:=(ze3 (C:=C) hΘ b h1 c false _ _ d ρ a _ n k l).1 rfl;refine wp_mono (zsw (S:=zdd C ids d ρ) o (by simpa using this)) ?_;rintro e q s ⟨j,g,p,f,rfl,m⟩;refine ⟨j,g,p,?_,rfl,m⟩;cases j with
 |panic v=>exact f.2
 |normal=>exact f
 |ret=>exact f
 |exit i=>exact f
theorem draw (hΘ:Θ.Ok P) (d:P.follows .mixedOrders = true) {id:Nat} {a:List Oper} {c:St} (b:List (Nat × Bool)) (ids:List Nat)
  (e:(Region.noSelect a.toArray && zdc a.toArray false (zqc b) a.length (Array.replicate a.length false)) = true)
  (f:splan P Θ ids a Q (zqc b) c):WP P (.region id a.toArray true) c Q:=drawP hΘ d (zqc b) ids e f
end
def junks:List Nat → List (Nat × SV)
 |[]=>[]
 |n :: r=>(n,.junk) :: junks r
def LI {X:Type} (a:St) (upd:X → List (Nat × SV)) (jl:List Nat) (hup:X → List (Nat × Ent)) (N:Nat) (x:X):St:=
 ⟨upd x :: junks jl :: a.t,hup x :: a.h,N,a.n0,a.nt,a.d⟩
theorem zam {P:Program} {Θ:Tys} (hΘ:Θ.Ok P) {a:St} {b:Code} {Q:SE → St → Prop} {X:Type} (upd:X → List (Nat × SV)) (jl:List Nat) (hup:X → List (Nat × Ent)) (N:Nat) (μ:X → Nat) (e:X)
  (g:WfH a.h a.nx → WfT a.t a.nx → Le a (LI a upd jl hup N e))
  (f:∀ x,WfH a.h a.nx → WfT a.t a.nx → sx P Θ b (LI a upd jl hup N x) (LQ (LI a upd jl hup N) μ x Q)):WP P (.loop b) a Q:=
 z97 (LI a upd jl hup N) μ e fun c d=>⟨g c d,fun x=>zcu hΘ _ _ _ (f x c d)⟩
theorem bT_of {n:Nat}:∀ {l:List (Nat × SV)},(l.all fun p=>p.2.bB n) = true → bT n l
 |[],_=>trivial
 |(i,v) :: r,h=>by
  simp only [qbw,qf] at h;exact ⟨SV.bB_ok h.1,bT_of h.2⟩
def ck0 (upd jl:List (Nat × SV)) (n0 nt N:Nat):Bool:=
 (jl.all fun p=>zhb p.2 && Nat.ble (p.1 + 1) nt) && (upd.all fun p=>Nat.ble (p.1 + 1) nt) && Nat.ble n0 N && (upd.all fun p=>p.2.bB N) && Nat.ble 1 N
theorem chk0 (F:Fz) (N:Nat) (h:1 ≤ N):chkS [] [(0,.frz F)] N N = true:=by
 have h1:Nat.ble (0 + 1) N = true:=qay h;simp [chkS,zp7,h1,Ent.isFz,at0,aget]
theorem le0 {T:List (List (Nat × SV))} {upd jl:List (Nat × SV)} {H:Hp} {n0 nt N:Nat} {F F1:Fz} (e:WfH H N) (k:WfT T N) (f:lget H 0 = some (.frz F1)) (a:Fz.le F F1)
  (b:ck0 upd jl n0 nt N = true) (d:leT [] T upd):Le ⟨T,H,N,n0,nt,[]⟩ ⟨upd :: jl :: T,[(0,.frz F)] :: H,N,n0,nt,[]⟩:=by
 simp only [ck0,qf] at b;obtain ⟨⟨⟨⟨g,c⟩,i⟩,j⟩,l⟩:=b;exact zr8 N [] e k (qay (qm _)) i (fun _ h=>nomatch h) g c (chk0 F N (nb l)) (bT_of j) ⟨tv,tv⟩ d ⟨by simp only [entE,aget,Ent.ren]; rw [f]; exact a,tv⟩
def ckR (b upd jl:List (Nat × SV)) (a:List (Nat × Ent)) (n0 nt N:Nat):Bool:=
 ck0 upd jl n0 nt N && (b.all fun p=>(aget upd p.1).isSome || (aget jl p.1).isSome) && (a.all fun p=>Nat.beq p.1 0 || Nat.ble N p.1)
theorem lr0 {T:List (List (Nat × SV))} {b upd jl:List (Nat × SV)} {H:Hp} {a:List (Nat × Ent)} {nx1 n0 nt N:Nat} {F F1:Fz} (g:WfH H N) (n:WfT T N) (i:lget (a :: H) 0 = some (.frz F1)) (c:Fz.le F F1)
  (d:ckR b upd jl a n0 nt N = true) (f:leT [] (b :: jl :: T) upd):Le ⟨b :: jl :: T,a :: H,nx1,n0,nt,[]⟩ ⟨upd :: jl :: T,[(0,.frz F)] :: H,N,n0,nt,[]⟩:=by
 simp only [ckR,ck0,qf] at d;obtain ⟨⟨⟨⟨⟨⟨k,e⟩,l⟩,m⟩,o⟩,j⟩,s⟩:=d;refine zm8 N N [] g n (qay (qm _)) l (fun _ h=>nomatch h) k e j ?_ (chk0 F N (nb o)) (bT_of m) ⟨tv,tv⟩ f ⟨by simp only [entE,aget,Ent.ren]; rw [i]; exact c,tv⟩;refine qo.2 fun p q=>?_
 have:=qo.1 s p q;simp only [yy] at this ⊢;rcases this with h | h
 ·left; rw [qk h]; rfl
 ·exact .inr h
def fz {X:Type} (a:X → Fz):X → List (Nat × Ent):=fun x=>[(0,.frz (a x))]
end Sx
