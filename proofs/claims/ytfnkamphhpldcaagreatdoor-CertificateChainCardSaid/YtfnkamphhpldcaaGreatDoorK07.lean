import Derived.Test.YtfnkamphhpldcaaGreatDoorK06
import Derived.OrdersHeld
set_option maxHeartbeats 64000000
namespace Sx
open Go
def memN(i:Nat):List Nat->Bool
 |[]=>false
 |j::r=>Nat.beq i j||memN i r
def nj(K:SV->Prop):SV->Prop
 |.va a=>K (.va a)
 |.agg l=>K (.agg l)
 |.tup l=>K (.tup l)
 |.junk=>False
theorem rS{K:SV->Prop}{v:SV}(h:nj K v):K v/\v≠.junk:=by
 cases v<;>first | exact⟨h,by simp⟩ | exact h.elim
def sval(P:Program)(Θ:Tys)(ids:List Nat)(t:List (List (Nat×SV)))(o:Op)(h:Hp)(nx:Nat)(K:SV->Prop):Prop:=
 match o with
 |.move x=>K (ev t x)
 |.assign x=>K (ev t x)
 |.pick c a b=>im (ev t c) (ev t a) (ev t b) h nx fun v _ _=>nj K v
 |.load ty a=>(match ev t a with
  |.va (.ptr p)=>memN p.i (0::ids)=true/\eL Θ ty (.va (.ptr p)) h nx fun v _ _=>nj K v
  |_=>False)
 |.nilCheck x=>(match ev t x with
  |.va (.ptr p)=>K (.va (.ptr p))
  |.va (.fn (.func f) c)=>K (.va (.fn (.func f) c))
  |_=>False)
 |.binOp op ty x y _=>s_bin P Θ op ty (ev t x) (ev t y) h nx fun v _ _=>nj K v
 |.unOp op _ x=>s_un op (ev t x) h nx fun v _ _=>nj K v
 |.convert s d x=>(match ev t x with
  |.va (.int k n)=>kU Θ s d (.va (.int k n)) h nx fun v _ _=>nj K v
  |_=>False)
 |.slice ty x lo hi mx=>ie Θ ty (ev t x) (evO t lo) (evO t hi) (evO t mx) h nx fun v _ _=>nj K v
 |.fieldAddr ty x f=>gH Θ ty (ev t x) f h nx fun v _ _=>nj K v
 |.field ty x f=>hU Θ ty (ev t x) f h nx fun v _ _=>nj K v
 |.indexAddr ty x i=>gI Θ ty (ev t x) (ev t i) h nx fun v _ _=>nj K v
 |.index ty x i=>ic Θ ty (ev t x) (ev t i) h nx fun v _ _=>nj K v
 |.extract x i=>(match ev t x with
  |.tup l=>(match nth l i with
   |some c=>K c.v
   |none=>False)
  |_=>False)
 |.call c=>(match c.callee with
  |.builtin b=>(match b,evL t c.args.toList with
   |.len,[x]=>s_len Θ c.argTypes.toList x h nx fun v _ _=>nj K v
   |.min,[x,y]=>s_min x y h nx fun v _ _=>nj K v
   |.max,[x,y]=>s_max x y h nx fun v _ _=>nj K v
   |_,_=>False)
  |_=>False)
 |_=>False
section
variable {P:Program} {Θ:Tys} {h h1:Hp} {nx nx1:Nat} {K:SV->Prop}
theorem BR{c a b:SV}(d:im c a b h nx fun v _ _=>K v):∃sv,K sv/\im c a b h1 nx1 fun v _ _=>v=sv:=by
 unfold im at*;split at d
 ·exact⟨_,d,rfl⟩
 ·exact⟨_,d,rfl⟩
 ·rename_i c;split at d
  ·exact⟨_,d,rfl⟩
  ·exact⟨_,d,rfl⟩
  ·exact⟨_,d,rfl⟩
  ·exact⟨_,d,rfl⟩
  ·cases c with
   |true=>exact⟨_,d.1 rfl,fun _=>rfl,(fun h=>by cases h)⟩
   |false=>exact⟨_,d.2 rfl,(fun h=>by cases h),fun _=>rfl⟩
 ·exact d.elim
theorem yc1{f:BinOp}{t:TypeId}{x y:SV}(c:s_bin P Θ f t x y h nx fun v _ _=>K v):∃sv,K sv/\s_bin P Θ f t x y h1 nx1 fun v _ _=>v=sv:=by
 have d:∀a b,s_bin.boolOp Θ t h nx (fun v _ _=>K v) f a b->∃sv,K sv/\s_bin.boolOp Θ t h1 nx1 (fun v _ _=>v=sv) f a b:=by
  intro a b c;unfold s_bin.boolOp at*;split at c
  ·split at c
   ·exact⟨_,c,rfl⟩
   ·exact⟨_,c,rfl⟩
   ·exact c.elim
  ·exact c.elim
 have e:∀a,s_bin.nilOp Θ t h nx (fun v _ _=>K v) f a->∃sv,K sv/\s_bin.nilOp Θ t h1 nx1 (fun v _ _=>v=sv) f a:=by
  intro a c;unfold s_bin.nilOp at*;split at c
  ·split at c
   ·exact⟨_,c,rfl⟩
   ·exact⟨_,c,rfl⟩
   ·exact c.elim
  ·exact c.elim
 unfold s_bin at*;split at c
 ·split at c
  ·exact⟨_,c.2,c.1,rfl⟩
  ·exact⟨_,c.2,c.1,rfl⟩
  ·split at c
   ·exact c.elim
   ·rename_i i j k l;split at c
    all_goals first
     |exact c.elim
     |exact⟨_,c,rfl⟩
     |exact⟨_,c.2,c.1,rfl⟩
 ·split at c
  ·exact⟨_,c.2,c.1,rfl⟩
  ·exact⟨_,c,rfl⟩
  ·exact⟨_,c,rfl⟩
  ·exact⟨_,c,rfl⟩
  ·exact c.elim
 ·exact d _ _ c
 ·exact d _ _ c
 ·exact d _ _ c
 ·exact d _ _ c
 ·exact e _ c
 ·exact e _ c
 ·split at c
  ·obtain⟨b,h1,g⟩:=c;exact⟨_,g,b,h1,rfl⟩
  ·obtain⟨b,h1,g⟩:=c;exact⟨_,g,b,h1,rfl⟩
  ·exact c.elim
 ·exact c.elim
theorem yfy{b:UnOp}{x:SV}(a:s_un b x h nx fun v _ _=>K v):∃sv,K sv/\s_un b x h1 nx1 fun v _ _=>v=sv:=by
 unfold s_un at*;split at a<;>first | exact a.elim | exact⟨_,a,rfl⟩
theorem gZ{b cap:Nat}{d c:Option Int}{F:Nat->Nat->SV}(a:bnds b cap d c fun l m=>K (F l m)):∃sv,K sv/\bnds b cap d c fun l m=>F l m=sv:=by
 unfold bnds at*;split at a
 ·split at a
  ·exact⟨_,a,rfl⟩
  ·exact⟨_,a.2,a.1,rfl⟩
 ·obtain⟨g,a⟩:=a;split at a
  ·exact⟨_,a,g,rfl⟩
  ·exact⟨_,a.2,g,a.1,rfl⟩
theorem yZ{t:TypeId}{x:SV}{w u mx:Option SV}(d:ie Θ t x w u mx h nx fun v _ _=>K v):∃sv,K sv/\ie Θ t x w u mx h1 nx1 fun v _ _=>v=sv:=by
 unfold ie at*;split at d
 ·exact d.elim
 ·split at d
  ·rename_i B A n o;split at d
   ·rename_i l;obtain⟨sv,f,g⟩:=gZ d;exact⟨sv,f,by simp only;exact g⟩
   ·rename_i s a b c nil i k e sz y cap l;split at d
    ·rename_i j m;split at d
     ·rename_i p;obtain⟨sv,f,g⟩:=gZ d;exact⟨sv,f,by simp only;exact g⟩
     ·rename_i p;split at d
      ·rename_i q;obtain⟨sv,f,g⟩:=gZ d;exact⟨sv,f,by simp only;exact g⟩
      ·rename_i q;split at d
       ·obtain⟨sv,f,g⟩:=gZ d;exact⟨sv,f,by simp only;exact g⟩
       ·exact d.elim
    ·exact d.elim
   ·rename_i l;split at d
    ·rename_i m;obtain⟨sv,f,g⟩:=gZ (F:=fun _ _=>SV.va .nilsl) d;exact⟨sv,f,by simp only;exact g⟩
    ·exact d.elim
   ·rename_i l;split at d
    ·rename_i m;split at d
     ·rename_i p;obtain⟨sv,f,g⟩:=gZ d;exact⟨sv,f,by simp only;exact g⟩
     ·exact d.elim
    ·exact d.elim
   ·rename_i l;split at d
    ·rename_i m;obtain⟨sv,f,g⟩:=gZ d;exact⟨sv,f,by simp only;exact g⟩
    ·exact d.elim
   ·exact d.elim
  ·exact d.elim
theorem CV{t:TypeId}{x:SV}{f:Nat}(a:gH Θ t x f h nx fun v _ _=>K v):∃sv,K sv/\gH Θ t x f h1 nx1 fun v _ _=>v=sv:=by
 unfold gH at*;split at a
 ·rename_i b;split at a
  ·rename_i c;split at a
   ·rename_i d;split at a
    ·exact a.elim
    ·rename_i e;exact⟨_,a,by simp only⟩
   ·exact a.elim
  ·exact a.elim
 ·exact a.elim
theorem yX{t:TypeId}{x:SV}{f:Nat}(a:hU Θ t x f h nx fun v _ _=>K v):∃sv,K sv/\hU Θ t x f h1 nx1 fun v _ _=>v=sv:=by
 unfold hU at*;split at a
 ·rename_i c;split at a
  ·rename_i d;split at a
   ·rename_i e;split at a
    ·rename_i g;split at a
     ·rename_i b;exact⟨_,a,by simp only⟩
     ·rename_i b;split at a
      ·exact⟨_,a,by simp only⟩
      ·exact a.elim
    ·exact a.elim
   ·exact a.elim
  ·exact a.elim
 ·exact a.elim
theorem CW{t:TypeId}{x y:SV}(a:gI Θ t x y h nx fun v _ _=>K v):∃sv,K sv/\gI Θ t x y h1 nx1 fun v _ _=>v=sv:=by
 unfold gI at*;split at a
 ·rename_i c;split at a
  ·rename_i d;obtain⟨g,a⟩:=a;split at a
   ·rename_i b;exact⟨_,a,by simp only;exact⟨g,tv⟩⟩
   ·rename_i b;exact⟨_,a,by simp only[b];exact⟨g,tv⟩⟩
  ·exact a.elim
 ·rename_i c;split at a
  ·rename_i d;split at a
   ·rename_i b;obtain⟨e,f,a⟩:=a;exact⟨_,a,by simp only;exact⟨e,f,tv⟩⟩
   ·rename_i b;split at a
    ·rename_i i;obtain⟨e,f,a⟩:=a;exact⟨_,a,by simp only;exact⟨e,f,tv⟩⟩
    ·exact a.elim
  ·exact a.elim
 ·exact a.elim
theorem yY{t:TypeId}{x y:SV}(a:ic Θ t x y h nx fun v _ _=>K v):∃sv,K sv/\ic Θ t x y h1 nx1 fun v _ _=>v=sv:=by
 unfold ic at*;split at a
 ·rename_i c;obtain⟨g,b,hb,a⟩:=a;exact⟨_,a,by simp only;exact⟨g,b,hb,rfl⟩⟩
 ·rename_i c;split at a
  ·rename_i e;obtain⟨g,i,f,a⟩:=a;split at a
   ·rename_i d;exact⟨_,a,by simp only;exact⟨g,i,f,rfl⟩⟩
   ·rename_i d;split at a
    ·exact⟨_,a,by simp only;exact⟨g,_,f,rfl⟩⟩
    ·exact a.elim
  ·exact a.elim
 ·exact a.elim
theorem yc2{ts:List TypeId}{x:SV}(a:s_len Θ ts x h nx fun v _ _=>K v):∃sv,K sv/\s_len Θ ts x h1 nx1 fun v _ _=>v=sv:=by
 unfold s_len at*;split at a
 ·split at a
  ·rename_i b;exact⟨_,a,by simp only⟩
  ·rename_i b;exact⟨_,a,by simp only⟩
  ·rename_i b;exact⟨_,a,by simp only⟩
  ·rename_i b;exact⟨_,a,by simp only⟩
  ·exact a.elim
 ·exact a.elim
theorem yc4{x y:SV}(a:s_min x y h nx fun v _ _=>K v):∃sv,K sv/\s_min x y h1 nx1 fun v _ _=>v=sv:=by
 unfold s_min at*;split at a
 ·exact⟨_,a,rfl⟩
 ·exact a.elim
theorem yc3{x y:SV}(a:s_max x y h nx fun v _ _=>K v):∃sv,K sv/\s_max x y h1 nx1 fun v _ _=>v=sv:=by
 unfold s_max at*;split at a
 ·exact⟨_,a,rfl⟩
 ·exact a.elim
theorem kF{b:SB}{p:Pl}{n:Nat}{F:List SA->Prop}(a:rdB b p n F):∃c,F c/\rdB b p n fun g=>g=c:=by
 unfold rdB at*;split at a
 ·split at a
  ·exact⟨_,a,rfl⟩
  ·exact a.elim
 ·split at a
  ·obtain⟨x,f,a⟩:=a;split at a
   ·rename_i e;exact⟨_,a,x,f,by simp only[e]⟩
   ·exact a.elim
  ·obtain⟨c,h1,d⟩:=a;exact⟨c,d,c,h1,rfl⟩
 ·obtain⟨c,h1,d⟩:=a;exact⟨c,d,c,h1,rfl⟩
theorem yfx{p:Pl}{n:Nat}{F:List SA->Prop}(a:rd h p n F):∃b,F b/\rd h p n fun j=>j=b:=by
 unfold rd at*;split at a
 ·rename_i e;split at a
  ·rename_i i;obtain⟨b,c,d⟩:=kF a;exact⟨b,c,d⟩
  ·exact a.elim
 ·rename_i e;obtain⟨g,a⟩:=a;split at a
  ·rename_i i;obtain⟨b,c,d⟩:=kF a;exact⟨b,c,g,d⟩
  ·exact a.elim
 ·rename_i e;obtain⟨g,a⟩:=a;obtain⟨b,c,d⟩:=kF a;exact⟨b,c,g,d⟩
 ·rename_i e;obtain⟨B,f,a⟩:=a;obtain⟨b,c,d⟩:=kF a;exact⟨b,c,B,f,d⟩
 ·rename_i e;split at a
  ·rename_i i;obtain⟨B,f,a⟩:=a;obtain⟨b,c,d⟩:=kF a;exact⟨b,c,B,f,d⟩
  ·exact a.elim
 ·exact a.elim
 ·exact a.elim
def geE(x y:Option Ent):Prop:=
 match x,y with
 |some (.frz F'),some (.frz F)=>Fz.le F F'
 |_,_=>False
def Keep(h h1:Hp)(i:Nat):Prop:=geE (lget h1 0) (lget h 0)/\(i=0\/lget h1 i=lget h i)
theorem kw{b:SB}{p:Pl}{n:Nat}{F G:List SA->Prop}(hb:rdB b p n F)(a:∀c,F c->G c):rdB b p n G:=by
 unfold rdB at*;split at hb
 ·split at hb
  ·exact a _ hb
  ·exact hb.elim
 ·split at hb
  ·obtain⟨x,e,hb⟩:=hb;refine⟨x,e,?_⟩;split at hb
   ·exact a _ hb
   ·exact hb.elim
  ·obtain⟨c,h1,d⟩:=hb;exact⟨c,h1,a _ d⟩
 ·obtain⟨c,h1,d⟩:=hb;exact⟨c,h1,a _ d⟩
theorem r7{p:Pl}{n:Nat}{F G:List SA->Prop}(a:rd h p n F)(b:∀d,F d->G d):rd h p n G:=by
 unfold rd at*;split at a
 ·split at a
  ·exact kw a b
  ·exact a.elim
 ·obtain⟨e,a⟩:=a;split at a
  ·exact⟨e,kw a b⟩
  ·exact a.elim
 ·exact⟨a.1,kw a.2 b⟩
 ·obtain⟨B,c,a⟩:=a;exact⟨B,c,kw a b⟩
 ·split at a
  ·obtain⟨B,c,a⟩:=a;exact⟨B,c,kw a b⟩
  ·exact a.elim
 ·exact a.elim
 ·exact a.elim
theorem yeg{p:Pl}{n:Nat}{F:List SA->Prop}(a:rd h p n F)(j:Keep h h1 p.i):rd h1 p n F:=by
 obtain⟨b,d⟩:=j;unfold geE at b;split at b
 ·rename_i F1 k f e;by_cases g:p.i=0
  ·unfold rd at*;rw[g]at a ⊢;rw[e]at a;rw[f];obtain⟨B,c,a⟩:=a;exact⟨B,b _ B c,a⟩
  ·have d:=d.resolve_left g;unfold rd at*;rw[d,f];rw[e]at a;split at a<;>rename_i l
   all_goals first
    |exact a
    |exact a.elim
    |(obtain⟨B,c,a⟩:=a;first | exact⟨B,c,a⟩ | exact⟨B,b _ B c,a⟩)
 ·exact b.elim
theorem BQ{t:TypeId}{p:Pl}(c:eL Θ t (.va (.ptr p)) h nx fun v _ _=>K v):∃sv,K sv/\eL Θ t (.va (.ptr p)) h nx fun v _ _=>v=sv:=by
 unfold eL at*;split at c
 ·rename_i i q j f;cases f
  obtain⟨k,a,e⟩:=yfx c;split at a
  ·rename_i b;refine⟨_,a,?_⟩;exact r7 e (fun g d=>by subst d;simp only)
  ·rename_i b;split at a
   ·refine⟨_,a,?_⟩;exact r7 e (fun g d=>by subst d;simp only)
   ·exact a.elim
 ·exact c.elim
theorem Ah{t:TypeId}{p:Pl}{G:SV->Prop}(a:eL Θ t (.va (.ptr p)) h nx fun v _ _=>G v)(c:Keep h h1 p.i):eL Θ t (.va (.ptr p)) h1 nx1 fun v _ _=>G v:=by
 unfold eL at*;split at a
 ·rename_i i q d b;cases b
  exact yeg a c
 ·exact a.elim
end
def eZ(b:Region.Mode)(a:Array Oper)(j:Nat):Bool:=
 (List.range a.size).all fun i=>Nat.beq i j||(match a[j]? with
  |some o=>o.after.any fun e=>Region.binds b e&&Nat.beq e.on i
  |none=>false)
theorem C2{f:Region.Mode}{a:Array Oper}{i j:Nat}{g:Oper}(l:i < a.size)(m:a[j]? =some g)(c:j≠i)(d:∀e∈g.after,Region.binds f e=true->e.on≠i):eZ f a j=false:=by
 cases h:eZ f a j with
 |false=>rfl
 |true=>
  have h1:=qo.1 h i (qc2.2 l);simp only[m,qai,Array.any_eq_true']at h1;rcases h1 with h1 | ⟨e,k,b⟩
  ·exact absurd (qm h1).symm c
  ·rw[qd]at b;exact absurd (qm b.2) (d e k b.1)
def wpAnyL(P:Program)(d:Region.Mode)(c:Array Oper)(Q:Exit->Act->World->Prop)(S:World->Prop):Nat->Array Bool->Act->World->Prop
 |0,b,a,w=>Region.ready d c b=[]/\Q .normal a w
 |fuel+1,b,a,w=>
  (Region.ready d c b=[]->Q .normal a w)/\
  ∀i∈Region.ready d c b,wpOp P c Q i (fun f e=>(eZ d c i=false->S e)/\wpAnyL P d c Q S fuel (b.setIfInBounds i true) f e) a w
section
variable {P:Program} {ops:Array Oper} {Q:Exit->Act->World->Prop} {md:Region.Mode} {S:World->Prop}
theorem uu:∀(fuel:Nat) (b:Array Bool) (a:Act) (w:World),wpAnyL P md ops Q S fuel b a w->wpAny P md ops Q fuel b a w
 |0,_,_,_,h=>h
 |fuel+1,_,_,_,h=>⟨h.1,fun i e=>wpOp_mono (fun c f d=>uu fuel _ c f d.2) (h.2 i e)⟩
theorem wpAnyL_first{i:Nat}{oi:Oper}{v:Value}(J:ops[i]? =some oi)(s:∀(j:Nat) (o:Oper) y b,ops[j]? =some o->o.op≠.select y b)
  (W:∀c a w,Q (.panic c) (a.put oi.dst v) w->Q (.panic c) a w):
  ∀(g:Nat) (d:Array Bool) (a:Act) (w:World),
   (∀j x,ops[j]? =some x->j≠i->d.getD j true=false->(∀e∈x.after,Region.binds md e=true->e.on≠i)->oi.apart ops x=true)->
   i∈Region.ready md ops d->YieldsIf P ops S oi v a->S w->
   wpAnyL P md ops Q S g (d.setIfInBounds i true) (a.put oi.dst v) w->wpAnyL P md ops Q S (g+1) d a w:=by
 intro g
 induction g with
 |zero=>
  intro d a w _ u L A H;refine⟨fun h=>(by rw[h]at u;cases u),fun j K=>?_⟩;by_cases f:j=i
  ·subst f;exact L.wpOp J A ⟨fun _=>A,H⟩
  ·have:=ready_mono K f;rw[H.1]at this;cases this
 |succ g ih=>
  intro d a w l u L A H;refine⟨fun h=>(by rw[h]at u;cases u),fun j K=>?_⟩;by_cases f:j=i
  ·subst f;exact L.wpOp J A ⟨fun _=>A,H⟩
  ·have h1:=H.2 j (ready_mono K f);obtain⟨p,x,n,B⟩:=mem_ready.1 K
   have q:∀e∈x.after,Region.binds md e=true->e.on≠i:=fun e X hb M=>by
    have h1:=B e X hb;have T:=(mem_ready.1 u).1;rw[M]at h1;rcases qcj i d.size with h' | h'
    ·simp[h']at T h1;rw[T]at h1;cases h1
    ·simp[Array.getElem?_eq_none h']at h1
   have G:=C2 (jp.1 J).1 n f q;have V:=wpOp_putIf n (l j x n f p q) (fun y b=>s i oi y b J) (fun y b=>s j x y b n) W L h1
   have m:∀k ok,ops[k]? =some ok->k≠i->(d.setIfInBounds j true).getD k true=false->
     (∀e∈ok.after,Region.binds md e=true->e.on≠i)->oi.apart ops ok=true:=fun k ok Y O E R=>by
    refine l k ok Y O ?_ R;by_cases D:j=k
    ·subst D;exact p
    ·rw[getD_set_ne true D]at E;exact E
   refine wpOp_mono (fun U Z I=>⟨fun _=>I.2.1 G,ih (d.setIfInBounds j true) U Z m (ready_mono u (Ne.symm f)) I.1 (I.2.1 G) ?_⟩) V;rw[Array.setIfInBounds_comm _ _ f];exact I.2.2
theorem ua{i:Nat}{oi:Oper}{v:Value}{d:Nat}{b:Array Bool}{a:Act}{w:World}(e:ops[i]? =some oi)
  (l:Region.noSelect ops=true)(j:Region.free md ops b i=true)(k:(Region.ready md ops b).contains i=true)
  (f:∀c a w,Q (.panic c) (a.put oi.dst v) w->Q (.panic c) a w)(m:YieldsIf P ops S oi v a)(g:S w)
  (h:wpAnyL P md ops Q S d (b.setIfInBounds i true) (a.put oi.dst v) w):wpAnyL P md ops Q S (d+1) b a w:=
 wpAnyL_first e (Region.noSelect_spec l) f d b a w (Region.free_spec e j) (by simpa using k) m g h
theorem uW{e:List Nat}{c:Nat}{b:Array Bool}{a:Act}{w:World}(f:Region.ready md ops b=e)(d:e≠[])
  (h:∀i∈e,wpOp P ops Q i (fun j g=>(eZ md ops i=false->S g)/\wpAnyL P md ops Q S c (b.setIfInBounds i true) j g) a w):wpAnyL P md ops Q S (c+1) b a w:=
 ⟨fun k=>absurd (f▸k) d,f▸h⟩
theorem tZ{b:Array Bool}{a:Act}{w:World}(d:Region.ready md ops b=[])(h:Q .normal a w):
  ∀c,wpAnyL P md ops Q S c b a w
 |0=>⟨d,h⟩
 |_+1=>⟨fun _=>h,by rw[d];simp⟩
theorem DV{id:Nat}{a:Act}{w:World}(b:P.follows .mixedOrders=true)
  (h:wpAnyL P .any ops Q S ops.size (Array.replicate ops.size false) a { w with drawn:=w.drawn+1 }):(Code.region id ops true).wp P Q a w:=
 wp_region_any b (uu _ _ _ _ h)
end
def dp(C:Ctx)(ids:List Nat)(a:St)(ρ:Rho)(w:World):Prop:=
 ∃b h1 nx1,Sat C b h1 nx1 w/\(∀i,i < a.nx->b i=ρ i)/\a.nx<=nx1/\∀i,memN i (0::ids)=true->Keep a.h h1 i
section
variable {P:Program} {Θ:Tys} {C:Ctx} {ρ:Rho} {st:St} {a:Act} {w:World} {ids:List Nat} {K:SV->Prop}
theorem vk{C:Ctx}{ρ:Rho}{h:Hp}{nx:Nat}{w:World}(S:Sat C ρ h nx w)(i:Nat):Keep h h i:=by
 obtain⟨F,b,_⟩:=S.fz;exact⟨by rw[b];exact Fz.r F,.inr rfl⟩
theorem li(D:Den C ρ st a w):dp C ids st ρ w:=⟨ρ,st.h,st.nx,D.sat,fun _ _=>rfl,qj _,fun i _=>vk D.sat i⟩
def Looks(P:Program)(C:Ctx)(ids:List Nat)(st:St)(ρ:Rho)(K:SV->Prop)(s:Sem Next):Prop:=
 ∃v sv,K sv/\sv.rel ρ v/\sv.below st.nx/\∀b,dp C ids st ρ b->s.run P b=.ok (.value v) b
theorem eQ{s:Sem Value}(sv:SV)(m:nj K sv)(D:Den C ρ st a w)
  (d:∀k h1 nx1 A,Sat C k h1 nx1 A->(∀i,i < st.nx->k i=ρ i)->st.nx<=nx1->(∀i,memN i (0::ids)=true->Keep st.h h1 i)->YldS P s k h1 nx1 A fun v _ _=>v=sv):
  Looks P C ids st ρ K (do pure (Next.value (<-s))):=by
 obtain⟨m,p⟩:=rS m;obtain⟨y,q,R,e,g,G⟩:=d ρ st.h st.nx w D.sat (fun _ _=>rfl) (qj _) (fun i _=>vk D.sat i);subst G;refine⟨y,q,m,e,g,?_⟩;rintro O ⟨k,h1,nx1,B,j,o,f⟩;obtain⟨M,u,L,c,E,I⟩:=d k h1 nx1 O B j o f;subst I
 have J:M=y:=by
  have b:=SV.rel_congr (n:=st.nx) j g e;cases u with
  |va x=>simp only[SV.rel]at*;rw[c,b]
  |agg l=>simp only[SV.rel]at*;rw[c,b]
  |tup l=>simp only[SV.rel]at*;rw[c,b]
  |junk=>exact absurd rfl p
 subst J;simp[L]
theorem iD{v:Value}{sv:SV}(c:K sv)(d:sv.rel ρ v)(hb:sv.below st.nx)(s:Sem Next)(e:∀b,s.run P b=.ok (.value v) b):Looks P C ids st ρ K s:=
 ⟨v,sv,c,d,hb,fun b _=>e b⟩
theorem EO(hΘ:Θ.Ok P){o:Oper}(m:sval P Θ ids st.t o.op st.h st.nx K)(D:Den C ρ st a w):Looks P C ids st ρ K (execOp a.eval o):=by
 obtain⟨ag,op,type,pos,ad,guard⟩:=o;have L:∀{G:Rho} (e:∀i,i < st.nx->G i=ρ i) (x:Operand),(ev st.t x).rel G (a.eval x):=fun e x=>SV.rel_congr (n:=st.nx) e (aU D x).2 (aU D x).1
 have Z:∀{n:Nat} (q:st.nx<=n) (x:Operand),(ev st.t x).below n:=fun q x=>SV.below_mono q (aU D x).2
 have aa:∀{G:Rho} (e:∀i,i < st.nx->G i=ρ i) (x:Option Operand),relO G (evO st.t x) (x.map a.eval):=fun e x=>by
  cases x with
  |none=>trivial
  |some x=>exact L e x
 cases op
 case move x=>exact iD m (aU D x).1 (aU D x).2 _ (fun _=>rfl)
 case assign x=>exact iD m (aU D x).1 (aU D x).2 _ (fun _=>rfl)
 case pick c x y=>
  obtain⟨sv,B,j⟩:=BR (h:=st.h) (nx:=st.nx) (h1:=st.h) (nx1:=st.nx) m;have:=eQ (P:=P) (ids:=ids) (s:=(do pure (if<-asBool (a.eval c)then a.eval x else a.eval y):Sem Value)) sv B D (fun G h1 nx1 T A e q g=>wq (K:=fun v _ _=>v=sv) (h:=h1) (nx:=nx1) j A (L e c) (L e x) (L e y) (Z q x) (Z q y));simpa[execOp]using this
 case load ty x=>
  simp only[sval]at m;have J:=aU D x;split at m
  ·rename_i p V;obtain⟨hm,m⟩:=m;rw[V]at J;obtain⟨sv,B,j⟩:=BQ m;refine eQ sv B D (fun G h1 nx1 T A e q g=>?_);have ae:=SV.rel_congr (n:=st.nx) e J.2 J.1;obtain⟨u,af,k1,k2,k3,k4⟩:=oC (P:=P) hΘ (Ah (nx1:=nx1) j (g p.i hm)) A ae;exact⟨u,af,k1,k2,k3,k4⟩
  ·exact m.elim
 case nilCheck x=>
  simp only[sval]at m;have J:=aU D x;split at m
  ·rename_i p V;rw[V]at J;have Y:a.eval x=.pointer (some (p.addr ρ)):=J.1;exact iD m J.1 J.2 _ (fun w'=>by simp[execOp,Y])
  ·rename_i f c V;rw[V]at J;have Y:a.eval x=_:=J.1;simp only[SA.den]at Y;exact iD m J.1 J.2 _ (fun w'=>by simp[execOp,Y])
  ·exact m.elim
 case binOp op ty x y ty'=>
  obtain⟨sv,B,j⟩:=yc1 (h:=st.h) (nx:=st.nx) (h1:=st.h) (nx1:=st.nx) m;exact eQ sv B D (fun G h1 nx1 T A e q g=>yD (K:=fun v _ _=>v=sv) hΘ (h:=h1) (nx:=nx1) j A (L e x) (L e y))
 case unOp op ty x=>
  obtain⟨sv,B,j⟩:=yfy (h:=st.h) (nx:=st.nx) (h1:=st.h) (nx1:=st.nx) m;exact eQ sv B D (fun G h1 nx1 T A e q g=>sB (K:=fun v _ _=>v=sv) (h:=h1) (nx:=nx1) j A (L e x))
 case convert s d x=>
  simp only[sval]at m;have J:=aU D x;split at m
  ·rename_i k n V;rw[V]at J;have Y:a.eval x=.int k n:=J.1;unfold kU at m;split at m
   ·rename_i i0 k' c1 c2 c3 kk nn e1 e2 U;cases U
    refine iD (sv:=.va (.int k' (k'.wrap n))) (v:=.int k' (k'.wrap n)) (rS m).1 rfl trivial _ (fun w'=>?_)
    have:(convert s d (.int k n)).run P w'=.ok (.int k' (k'.wrap n)) w':=by
     simp only[convert,Sem.run_bind,aY hΘ e1,aY hΘ e2,Result.andThen_ok,Conv.intToInt];cases i0.d<;>rfl
    simp[execOp,Y,this]
   ·rename_i U;cases U
   ·rename_i U;cases U
   ·rename_i U;cases U
   ·rename_i U;cases U
   ·exact m.elim
  ·exact m.elim
 case slice ty x lo hi mx=>
  obtain⟨sv,B,j⟩:=yZ (h:=st.h) (nx:=st.nx) (h1:=st.h) (nx1:=st.nx) m;exact eQ sv B D (fun G h1 nx1 T A e q g=>uO (K:=fun v _ _=>v=sv) hΘ (h:=h1) (nx:=nx1) j A (L e x) (aa e lo) (aa e hi) (aa e mx) (Z q x))
 case fieldAddr ty x f=>
  obtain⟨sv,B,j⟩:=CV (h:=st.h) (nx:=st.nx) (h1:=st.h) (nx1:=st.nx) m;exact eQ sv B D (fun G h1 nx1 T A e q g=>sT (K:=fun v _ _=>v=sv) hΘ (h:=h1) (nx:=nx1) j A (L e x) (Z q x))
 case field ty x f=>
  obtain⟨sv,B,j⟩:=yX (h:=st.h) (nx:=st.nx) (h1:=st.h) (nx1:=st.nx) m;exact eQ sv B D (fun G h1 nx1 T A e q g=>uM (K:=fun v _ _=>v=sv) hΘ (h:=h1) (nx:=nx1) j A (L e x) (Z q x))
 case indexAddr ty x i=>
  obtain⟨sv,B,j⟩:=CW (h:=st.h) (nx:=st.nx) (h1:=st.h) (nx1:=st.nx) m;exact eQ sv B D (fun G h1 nx1 T A e q g=>sU (K:=fun v _ _=>v=sv) hΘ (h:=h1) (nx:=nx1) j A (L e x) (L e i) (Z q x))
 case index ty x i=>
  obtain⟨sv,B,j⟩:=yY (h:=st.h) (nx:=st.nx) (h1:=st.h) (nx1:=st.nx) m;exact eQ sv B D (fun G h1 nx1 T A e q g=>uN (K:=fun v _ _=>v=sv) hΘ (h:=h1) (nx:=nx1) j A (L e x) (L e i) (Z q x))
 case extract x i=>
  simp only[sval]at m;have J:=aU D x;split at m
  ·rename_i l V;rw[V]at J;split at m
   ·rename_i c hc;have Y:a.eval x=.tuple (l.map (SC.den ρ)).toArray:=J.1;rw[fO]at hc;have ab:c∈l:=yx hc;refine iD (v:=c.den ρ) m ?_ ?_ _ (fun w'=>?_)
    ·cases c<;>rfl
    ·have:=J.2 c ab;cases c<;>exact this
    ·simp[execOp,Y,Instr.extract,hc]
   ·exact m.elim
  ·exact m.elim
 case call c=>
  simp only[sval]at m;obtain⟨ac,args,I⟩:=c;obtain⟨h1,W⟩:=kG D args.toList;split at m
  ·rename_i b X;simp only at X;subst X
   have E:∀{G:Rho} {l:List SV} {vs:List Value},(∀i,i < st.nx->G i=ρ i)->(∀s∈l,s.below st.nx)->relL ρ l vs->relL G l vs:=by
    intro G l
    induction l with
    |nil=>intro vs _ _ h;cases vs<;>exact h
    |cons s r ih=>
     intro vs e hb h;cases vs with
     |nil=>exact h
     |cons v vr=>exact⟨SV.rel_congr (n:=st.nx) e (hb s ss) h.1,ih e (fun s m=>hb s (by simp[m])) h.2⟩
   split at m
   ·rename_i x R;rw[R]at h1 W
    match hm:args.toList.map a.eval,h1 with
    |[v],h1=>
     have O:args.map a.eval= #[v]:=by apply Array.ext';simpa using hm
     obtain⟨sv,B,j⟩:=yc2 (h:=st.h) (nx:=st.nx) (h1:=st.h) (nx1:=st.nx) m;have:=eQ (ids:=ids) sv B D (fun G M nx1 T A e q g=>yE (K:=fun v _ _=>v=sv) (ty:=type) hΘ (h:=M) (nx:=nx1) j A (E e W h1).1);simpa[execOp,resolve,invoke,builtin,O]using this
   ·rename_i x y R;rw[R]at h1 W
    match hm:args.toList.map a.eval,h1 with
    |[v,u],h1=>
     have O:args.map a.eval= #[v,u]:=by apply Array.ext';simpa using hm
     obtain⟨sv,B,j⟩:=yc4 (h:=st.h) (nx:=st.nx) (h1:=st.h) (nx1:=st.nx) m;have:=eQ (P:=P) (ids:=ids) sv B D (fun G M nx1 T A e q g=>yG (K:=fun v _ _=>v=sv) (ts:=I) (ty:=type) (h:=M) (nx:=nx1) j A (E e W h1).1 (E e W h1).2.1);simpa[execOp,resolve,invoke,builtin,O]using this
   ·rename_i x y R;rw[R]at h1 W
    match hm:args.toList.map a.eval,h1 with
    |[v,u],h1=>
     have O:args.map a.eval= #[v,u]:=by apply Array.ext';simpa using hm
     obtain⟨sv,B,j⟩:=yc3 (h:=st.h) (nx:=st.nx) (h1:=st.h) (nx1:=st.nx) m;have:=eQ (P:=P) (ids:=ids) sv B D (fun G M nx1 T A e q g=>yF (K:=fun v _ _=>v=sv) (ts:=I) (ty:=type) (h:=M) (nx:=nx1) j A (E e W h1).1 (E e W h1).2.1);simpa[execOp,resolve,invoke,builtin,O]using this
   ·exact m.elim
  ·exact m.elim
 all_goals exact m.elim
end
def keepL(ids:List Nat)(h a:Hp)(X:Prop):Prop:=
 match ids with
 |[]=>X
 |i::r=>lget a i=lget h i/\keepL r h a X
def keepK(ids:List Nat)(h a:Hp)(X:Prop):Prop:=geE (lget a 0) (lget h 0)/\keepL ids h a X
theorem tV{h a:Hp}{X:Prop}:∀{ids:List Nat},keepL ids h a X->X/\∀i,memN i ids=true->lget a i=lget h i
 |[],hk=>⟨hk,fun i hi=>by cases hi⟩
 |j::r,hk=>by
  obtain⟨h1,b⟩:=hk;obtain⟨c,d⟩:=tV b;refine⟨c,fun i hi=>?_⟩;simp only[memN,qai]at hi;rcases hi with hi | hi
  ·rw[qm hi];exact h1
  ·exact d i hi
theorem Er{h b:Hp}{X:Prop}{ids:List Nat}(a:keepK ids h b X):X/\∀i,memN i (0::ids)=true->Keep h b i:=by
 obtain⟨c,a⟩:=a;obtain⟨d,e⟩:=tV a;refine⟨d,fun i hm=>⟨c,?_⟩⟩;simp only[memN,qai]at hm;rcases hm with hm | hm
 ·exact .inl (qm hm)
 ·exact .inr (e i hm)
theorem zO{x y z:Option Ent}(h:geE x y)(a:geE y z):geE x z:=by
 unfold geE at h;split at h
 ·unfold geE at a;split at a
  ·rename_i b;cases b;exact Fz.t a h
  ·exact a.elim
 ·exact h.elim
theorem Keep.trans{h h1 c:Hp}{i:Nat}(a:Keep h h1 i)(b:Keep h1 c i):Keep h c i:=
 ⟨zO b.1 a.1,by
  rcases a.2 with h' | h'
  ·exact .inl h'
  ·rcases b.2 with h'' | h''
   ·exact .inl h''
   ·exact .inr (h''.trans h')⟩
def gy(e:List Oper)(g:Option (Nat×Bool))(a:St)(c skip:St->Prop):Prop:=
 match g with
 |none=>c a
 |some (j,want)=>match gslot e j with
  |none=>False
  |some d=>match lget a.t d with
   |some (.va (.lit b))=>(match beqB b want with
    |true=>c a
    |false=>skip a)
   |some (.va (.bool b))=>(match want with
    |true=>(b=true->c { a with t:=lput a.t d (.va (.lit true)) })/\(b=false->skip { a with t:=lput a.t d (.va (.lit false)) })
    |false=>(b=false->c { a with t:=lput a.t d (.va (.lit false)) })/\(b=true->skip { a with t:=lput a.t d (.va (.lit true)) }))
   |some (.tup [])=>skip a
   |_=>False
inductive Pn where
 |done
 |look (i:Nat) (p:Pn)
 |alt (i:Nat) (p q:Pn)
 |last (i:Nat) (p:Pn)
 |nil
def Pn.isNil:Pn->Bool
 |.nil=>true
 |_=>false
def Pn.isDone:Pn->Bool
 |.done=>true
 |_=>false
def Pn.heads:Pn->List Nat
 |.alt i _ q=>i::q.heads
 |_=>[]
def lk:List Nat->Pn->Pn
 | [],p=>p
 | i::r,p=>.look i (lk r p)
def splan(P:Program)(Θ:Tys)(ids:List Nat)(b:List Oper)(Q:SE->St->Prop):Pn->St->Prop
 |.done,a=>Q .normal a
 |.nil,_=>True
 |.look i p,a=>(match nth b i with
  |none=>False
  |some o=>gy b o.guard a (fun a=>sval P Θ ids a.t o.op a.h a.nx fun v=>setd o.dst v a fun c=>splan P Θ ids b Q p c) (fun a=>setd o.dst (.tup []) a fun c=>splan P Θ ids b Q p c))
 |.alt i p q,a=>(match nth b i with
  |none=>False
  |some o=>match q.isNil with
   |true=>gy b o.guard a (fun a=>sop P Θ a.t o.op a.h a.nx (fun v h nx=>keepK ids a.h h (setd o.dst v { a with h:=h,nx:=nx } fun c=>splan P Θ ids b Q p c)) (fun v h nx=>Q (.panic v) { a with t:=[],h:=h,nx:=nx }))
    (fun a=>setd o.dst (.tup []) a fun c=>splan P Θ ids b Q p c)
   |false=>gy b o.guard a (fun a=>sop P Θ a.t o.op a.h a.nx (fun v h nx=>keepK ids a.h h (setd o.dst v { a with h:=h,nx:=nx } fun c=>splan P Θ ids b Q p c)) (fun v h nx=>Q (.panic v) { a with t:=[],h:=h,nx:=nx }))
    (fun a=>setd o.dst (.tup []) a fun c=>splan P Θ ids b Q p c)/\splan P Θ ids b Q q a)
 |.last i p,a=>(match nth b i with
  |none=>False
  |some o=>gy b o.guard a (fun a=>sop P Θ a.t o.op a.h a.nx (fun v h nx=>setd o.dst v { a with h:=h,nx:=nx } fun c=>splan P Θ ids b Q p c) (fun v h nx=>Q (.panic v) { a with t:=[],h:=h,nx:=nx }))
    (fun a=>setd o.dst (.tup []) a fun c=>splan P Θ ids b Q p c))
def dT(a:Array Oper)(b:Bool):Pn->Nat->Array Bool->Bool
 |.done,n,listed=>Nat.beq n 0&& !b&&(Region.ready .any a listed).isEmpty
 |.nil,_,_=>b
 |.look i p,n,listed=>!b&&(match n with
  |0=>false
  |n+1=>Region.free .any a listed i&&(Region.ready .any a listed).contains i&&dT a false p n (listed.setIfInBounds i true))
 |.alt i p q,n,listed=>(match n with
  |0=>false
  |m+1=>(b||(Region.ready .any a listed==i::q.heads))&&dT a false p m (listed.setIfInBounds i true)&&dT a true q n listed)
 |.last i p,n,listed=>!b&&(match n with
  |0=>false
  |m+1=>eZ .any a i&&(Region.ready .any a listed==[i])&&(p.isDone&&dT a false p m (listed.setIfInBounds i true)))
def kZ:List (Nat×Bool)->Pn
 |[]=>.done
 |(i,true)::r=>.look i (kZ r)
 |(i,false)::r=>.alt i (kZ r) .nil
def Qr(Q:SE->St->Prop):SE->St->Prop:=fun e a=>
 match e with
 |.panic v=>a.t=[]/\Q (.panic v) a
 |.normal=>Q .normal a
 |.ret=>Q .ret a
 |.exit i=>Q (.exit i) a
section
variable {P:Program} {Θ:Tys} {C:Ctx} {ids:List Nat} {Q:SE->St->Prop}
theorem yK{c:List PanicEntry}{a:Act}{w:World}{b:Option Tmp}{v:Value}(h:Up C (Qr Q) (.panic c) (a.put b v) w):Up C (Qr Q) (.panic c) a w:=by
 obtain⟨k,l,ρ,e,d,D⟩:=h;cases k with
 |normal=>cases d
 |ret=>cases d
 |exit i=>cases d
 |panic u=>
  refine⟨.panic u,l,ρ,e,d,?_⟩;have j:=e.1;have h1:(a.put b v).tmps.size=a.tmps.size:=by cases b<;>simp[Act.put]
  have g:(a.put b v).defers=a.defers:=by cases b<;>rfl
  exact{ sat:=D.sat,nt:=by rw[<-h1];exact D.nt,tm:=fun n s f=>by rw[j]at f;simp[lget]at f,tw:=D.tw,n0:=D.n0,df:=by rw[<-g];exact D.df,dw:=D.dw }
theorem sY{c:Array Oper}{R:Exit->Act->World->Prop}{S d:World->Prop}(h:∀w,d w->S w):∀(fuel:Nat) (b:Array Bool) (a:Act) (w:World),wpAnyL P .any c R d fuel b a w->wpAnyL P .any c R S fuel b a w
 |0,_,_,_,hh=>hh
 |fuel+1,_,_,_,hh=>⟨hh.1,fun i j=>wpOp_mono (fun g f e=>⟨fun k=>h f (e.1 k),sY h fuel _ g f e.2⟩) (hh.2 i j)⟩
theorem ou{f:List Oper}{o:Oper}{l:St}{ρ:Rho}{a:Act}{w:World}{q skip:St->Prop}(c:gy f o.guard l q skip)(D:Den C ρ l a w):
  ∃i,Den C ρ i a w/\i.h=l.h/\i.nx=l.nx/\((Region.wanted o (yielded f.toArray a.tmps)=true/\q i)\/(Region.wanted o (yielded f.toArray a.tmps)=false/\skip i)):=by
 unfold gy at c;split at c
 ·rename_i p;exact⟨l,D,rfl,rfl,.inl ⟨by simp[Region.wanted,p],c⟩⟩
 ·rename_i j e p;split at c
  ·exact c.elim
  ·rename_i d B
   have y:∀v,a.tmps[d]? =some v->yielded f.toArray a.tmps j=(match v with | .bool b=>some b | _=>none):=by
    intro v g;rw[pD]at B;simp only[yielded,qcm,B,qdi,g];cases v<;>rfl
   have m:∀b,a.tmps[d]? =some (.bool b)->b=e->Region.wanted o (yielded f.toArray a.tmps)=true:=by
    intro b hb x;simp[Region.wanted,p,y _ hb,x]
   have A:∀b,a.tmps[d]? =some (.bool b)->b≠e->Region.wanted o (yielded f.toArray a.tmps)=false:=by
    intro b hb x;simp[Region.wanted,p,y _ hb,x]
   split at c
   ·rename_i b n;obtain⟨v,g,k⟩:=D.tm d _ n;simp only[SV.rel,SA.den]at k;subst k;split at c
    ·rename_i u;exact⟨l,D,rfl,rfl,.inl ⟨m b g (by cases b<;>cases e<;>simp_all[beqB]),c⟩⟩
    ·rename_i u;exact⟨l,D,rfl,rfl,.inr ⟨A b g (by cases b<;>cases e<;>simp_all[beqB]),c⟩⟩
   ·rename_i b n;obtain⟨v,g,k⟩:=D.tm d _ n;simp only[SV.rel,SA.den]at k;subst k;have s:=D.relit n;split at c
    ·cases b with
     |true=>exact⟨_,s,rfl,rfl,.inl ⟨m _ g rfl,c.1 rfl⟩⟩
     |false=>exact⟨_,s,rfl,rfl,.inr ⟨A _ g ss,c.2 rfl⟩⟩
    ·cases b with
     |false=>exact⟨_,s,rfl,rfl,.inl ⟨m _ g rfl,c.1 rfl⟩⟩
     |true=>exact⟨_,s,rfl,rfl,.inr ⟨A _ g ss,c.2 rfl⟩⟩
   ·rename_i n;obtain⟨v,g,k⟩:=D.tm d _ n;simp only[SV.rel,yu]at k;subst k;exact⟨l,D,rfl,rfl,.inr ⟨by simp[Region.wanted,p,y _ g],c⟩⟩
   ·exact c.elim
theorem jX{b a:St}{ρ:Rho}(h1:a.h=b.h)(c:a.nx=b.nx):dp C ids a ρ=dp C ids b ρ:=by
 unfold dp;rw[h1,c]
theorem iu{e:St}{ρ:Rho}{a:Act}{w:World}{f:Option Tmp}{sv:SV}{v:Value}{K:St->Prop}(c:setd f sv e K)(D:Den C ρ e a w)(i:sv.rel ρ v)(hb:sv.below e.nx):
  ∃b,K b/\Den C ρ b (a.put f v) w/\b.h=e.h/\b.nx=e.nx:=by
 unfold setd at c;split at c
 ·exact⟨e,c,D,rfl,rfl⟩
 ·rename_i d;split at c
  ·rename_i g;exact⟨_,c,D.put d (nb g) sv v i hb,rfl,rfl⟩
  ·exact c.elim
theorem uZ(hΘ:Θ.Ok P)(b:List Oper){i:Nat}{o:Oper}{d:Array Bool}{n:Nat}{p:Pn}{c:St}{ρ:Rho}{a:Act}{w:World}(ho:b[i]? =some o)
  (ih:∀(c:St) (ρ:Rho) (a:Act) (w:World),splan P Θ ids b Q p c->Den C ρ c a w->wpAnyL P .any b.toArray (Up C (Qr Q)) (dp C ids c ρ) n (d.setIfInBounds i true) a w)
  (G:gy b o.guard c (fun c=>sop P Θ c.t o.op c.h c.nx (fun v h nx=>keepK ids c.h h (setd o.dst v { c with h:=h,nx:=nx } fun u=>splan P Θ ids b Q p u)) (fun v h nx=>Q (.panic v) { c with t:=[],h:=h,nx:=nx }))
    (fun c=>setd o.dst (.tup []) c fun u=>splan P Θ ids b Q p u))(D:Den C ρ c a w):
  wpOp P b.toArray (Up C (Qr Q)) i (fun O y=>(eZ .any b.toArray i=false->dp C ids c ρ y)/\wpAnyL P .any b.toArray (Up C (Qr Q)) (dp C ids c ρ) n (d.setIfInBounds i true) O y) a w:=by
 have V:b.toArray[i]? =some o:=by simpa using ho
 obtain⟨X,Z,e1,K,k⟩:=ou G D;have j:dp C ids X ρ=dp C ids c ρ:=jX e1 K;unfold wpOp;simp only[V];rcases k with⟨W,E⟩ | ⟨W,q⟩
 ·rw[if_pos W];left;have:=lR hΘ E Z;refine lS this ?_ ?_
  ·rintro O y ⟨v,sv,h',I,M,rfl,U,B,T,g,S,A⟩;obtain⟨U,m⟩:=Er U;obtain⟨f,l,J,R,L⟩:=iu U g B T
   have hS:∀Y,dp C ids f M Y->dp C ids c ρ Y:=by
    rintro Y ⟨ρ1,h1,nx1,S1,a1,a2,a3⟩;refine⟨ρ1,h1,nx1,S1,fun i x=>?_,?_,fun i x=>?_⟩
    ·rw[a1 i (by rw[L];show i < I;rw[<-K]at x;exact yy x A),S i (by rw[K];exact x)]
    ·rw[L]at a2;rw[<-K];exact jm A a2
    ·have q1:=a3 i x;rw[R]at q1;have q2:=m i x;rw[e1]at q2;exact q2.trans q1
   exact⟨fun _=>hS y (li J),sY hS _ _ _ _ (ih f M _ y l J)⟩
  ·rintro e O y ⟨v,h',I,M,rfl,hq,g⟩;refine⟨.panic v,_,M,⟨rfl,hq⟩,rfl,?_⟩;exact{ sat:=g.sat,nt:=g.nt,tm:=fun n s G=>by simp[lget]at G,tw:=fun n s G=>by simp[lget]at G,n0:=g.n0,df:=g.df,dw:=g.dw }
 ·rw[if_neg (by rw[W];simp)];obtain⟨f,l,J,R,L⟩:=iu (v:=undef) q Z rfl (by simp[SV.below]);refine⟨fun _=>li D,?_⟩;have:=ih f ρ _ w l J;rw[jX R L,j]at this;exact this
theorem DX(hΘ:Θ.Ok P)(b:List Oper){i:Nat}{o:Oper}{c:Array Bool}{n:Nat}{p:Pn}{d:St}{ρ:Rho}{a:Act}{w:World}(Y:b[i]? =some o)(W:eZ .any b.toArray i=true)
  (ih:∀(d:St) (ρ:Rho) (a:Act) (w:World),splan P Θ ids b Q p d->Den C ρ d a w->∀S,wpAnyL P .any b.toArray (Up C (Qr Q)) S n (c.setIfInBounds i true) a w)
  (A:gy b o.guard d (fun d=>sop P Θ d.t o.op d.h d.nx (fun v h nx=>setd o.dst v { d with h:=h,nx:=nx } fun l=>splan P Θ ids b Q p l) (fun v h nx=>Q (.panic v) { d with t:=[],h:=h,nx:=nx }))
    (fun d=>setd o.dst (.tup []) d fun l=>splan P Θ ids b Q p l))(D:Den C ρ d a w)(S:World->Prop):
  wpOp P b.toArray (Up C (Qr Q)) i (fun E q=>(eZ .any b.toArray i=false->S q)/\wpAnyL P .any b.toArray (Up C (Qr Q)) S n (c.setIfInBounds i true) E q) a w:=by
 have I:b.toArray[i]? =some o:=by simpa using Y
 obtain⟨aa,M,e1,e2,g⟩:=ou A D;have u:eZ .any b.toArray i=false->∀q,S q:=fun h=>absurd (W.symm.trans h) ss
 unfold wpOp;simp only[I];rcases g with⟨J,y⟩ | ⟨J,k⟩
 ·rw[if_pos J];left;have:=lR hΘ y M;refine lS this ?_ ?_
  ·rintro E q ⟨v,sv,T,K,L,rfl,V,x,G,f,U,X⟩;obtain⟨m,j,B,O,R⟩:=iu V f x G;exact⟨fun h=>u h _,ih m L _ q j B S⟩
  ·rintro e E q ⟨v,T,K,L,rfl,Z,f⟩;refine⟨.panic v,_,L,⟨rfl,Z⟩,rfl,?_⟩;exact{ sat:=f.sat,nt:=f.nt,tm:=fun n s A=>by simp[lget]at A,tw:=fun n s A=>by simp[lget]at A,n0:=f.n0,df:=f.df,dw:=f.dw }
 ·rw[if_neg (by rw[J];simp)];obtain⟨m,j,B,O,R⟩:=iu (v:=undef) k M rfl (by simp[SV.below]);exact⟨fun h=>u h _,ih m ρ _ w j B S⟩
theorem jN(hΘ:Θ.Ok P)(e:List Oper)(h:Region.noSelect e.toArray=true):∀(m:Pn) (b:Bool) (n:Nat) (d:Array Bool) (g:St) (ρ:Rho) (a:Act) (w:World),dT e.toArray b m n d=true->
  splan P Θ ids e Q m g->Den C ρ g a w->
   (b=false->wpAnyL P .any e.toArray (Up C (Qr Q)) (dp C ids g ρ) n d a w)/\
   (b=true->∀i∈m.heads,wpOp P e.toArray (Up C (Qr Q)) i (fun O E=>(eZ .any e.toArray i=false->dp C ids g ρ E)/\wpAnyL P .any e.toArray (Up C (Qr Q)) (dp C ids g ρ) (n - 1) (d.setIfInBounds i true) O E) a w)
 |.done,b,n,d,g,ρ,a,w,f,hs,D=>by
  simp only[dT,qd,List.isEmpty_iff,qal]at f;exact⟨fun _=>tZ f.2 ⟨.normal,g,ρ,hs,rfl,D⟩ _,fun _ i X=>by simp[Pn.heads]at X⟩
 |.nil,b,n,d,g,ρ,a,w,f,hs,D=>by
  simp only[dT]at f;exact⟨(fun hb=>absurd (hb.symm.trans f) ss),(fun _ i X=>by simp[Pn.heads]at X)⟩
 |.look i p,b,n,d,g,ρ,a,w,f,hs,D=>by
  cases n with
  |zero=>simp[dT]at f
  |succ n=>
  simp only[dT,qd,qal]at f;obtain⟨hb,⟨hf,G⟩,f⟩:=f;refine⟨fun _=>?_,(fun u=>absurd (u.symm.trans hb) ss)⟩;simp only[splan]at hs;split at hs
  ·exact hs.elim
  ·rename_i o s;rw[fO]at s;have J:e.toArray[i]? =some o:=by simpa using s
   obtain⟨aa,I,e1,e2,x⟩:=ou hs D;have k:dp C ids aa ρ=dp C ids g ρ:=jX e1 e2;rcases x with⟨hw,L⟩ | ⟨hw,A⟩
   ·obtain⟨v,sv,hk,K,U,l⟩:=EO hΘ L I;obtain⟨B,y,M,R,T⟩:=iu hk I K U;refine ua J h hf G (fun c a w=>yK) (v:=v) (.inl ⟨hw,fun E hS=>l E (by rw[k];exact hS)⟩) (li D) ?_;have:=(jN hΘ e h p false n _ B ρ _ w f y M).1 rfl;rw[jX R T,k]at this;exact this
   ·obtain⟨B,y,M,R,T⟩:=iu (v:=undef) A I rfl (by simp[SV.below]);refine ua J h hf G (fun c a w=>yK) (v:=undef) (.inr ⟨hw,rfl⟩) (li D) ?_;have:=(jN hΘ e h p false n _ B ρ _ w f y M).1 rfl;rw[jX R T,k]at this;exact this
 |.alt i p q,b,n,d,g,ρ,a,w,f,hs,D=>by
  cases n with
  |zero=>simp[dT]at f
  |succ n=>
  simp only[dT,qd,qai,beq_iff_eq]at f;obtain⟨⟨G,V⟩,W⟩:=f
  have l:∀j∈(Pn.alt i p q).heads,wpOp P e.toArray (Up C (Qr Q)) j (fun O E=>(eZ .any e.toArray j=false->dp C ids g ρ E)/\wpAnyL P .any e.toArray (Up C (Qr Q)) (dp C ids g ρ) n (d.setIfInBounds j true) O E) a w:=by
   simp only[splan]at hs;split at hs
   ·exact hs.elim
   ·rename_i o s;rw[fO]at s
    have ih:∀(g:St) (ρ:Rho) (a:Act) (w:World),splan P Θ ids e Q p g->Den C ρ g a w->wpAnyL P .any e.toArray (Up C (Qr Q)) (dp C ids g ρ) n (d.setIfInBounds i true) a w:=
     fun g ρ a w h1 h2=>(jN hΘ e h p false n _ g ρ a w V h1 h2).1 rfl
    split at hs
    ·rename_i hq;have Y:q=.nil:=by cases q<;>simp_all[Pn.isNil]
     subst Y;intro j hj;simp only[Pn.heads,qs]at hj;subst hj;exact uZ hΘ e s ih hs D
    ·intro j hj;simp only[Pn.heads,qi]at hj;rcases hj with rfl | hj
     ·exact uZ hΘ e s ih hs.1 D
     ·exact(jN hΘ e h q true (n+1) d g ρ a w W hs.2 D).2 rfl j hj
  refine⟨fun hb=>?_,fun _=>l⟩;have Z:=G.resolve_left (by simp[hb]);exact uW Z ss l
 |.last i p,b,n,d,g,ρ,a,w,f,hs,D=>by
  cases n with
  |zero=>simp[dT]at f
  |succ n=>
  simp only[dT,qd,qal,beq_iff_eq]at f;obtain⟨hb,⟨hl,G⟩,f⟩:=f;refine⟨fun _=>?_,(fun u=>absurd (u.symm.trans hb) ss)⟩;simp only[splan]at hs;split at hs
  ·exact hs.elim
  ·rename_i o s;rw[fO]at s
   have hp:p=.done:=by
    cases p with
    |done=>rfl
    |_=>exact absurd f.1 (by simp[Pn.isDone])
   subst hp;refine uW G ss fun j hj=>?_
   simp only[qs]at hj;subst hj;refine DX hΘ e s hl ?_ hs D _;intro g ρ a w h1 I S;simp only[dT,qd,List.isEmpty_iff,qal]at f;exact tZ f.2.2 ⟨.normal,g,ρ,h1,rfl,I⟩ _
theorem drawP(hΘ:Θ.Ok P)(n:P.follows .mixedOrders=true){id:Nat}{b:List Oper}{d:St}(c:Pn)(ids:List Nat)
  (h:(Region.noSelect b.toArray&&dT b.toArray false c b.length (Array.replicate b.length false))=true)
  (o:splan P Θ ids b Q c d):WP P (.region id b.toArray true) d Q:=by
 simp only[qd]at h;obtain⟨h1,m⟩:=h;unfold WP;intro C ρ a w D;have k:Den C ρ d a { w with drawn:=w.drawn+1 }:={ sat:=D.sat.drew,nt:=D.nt,tm:=D.tm,tw:=D.tw,n0:=D.n0,df:=D.df,dw:=D.dw }
 have:=(jN (C:=C) hΘ b h1 c false _ _ d ρ a _ m o k).1 rfl;refine wp_mono (DV (S:=dp C ids d ρ) n (by simpa using this)) ?_;rintro e q s ⟨j,g,p,f,rfl,l⟩;refine⟨j,g,p,?_,rfl,l⟩;cases j with
 |panic v=>exact f.2
 |normal=>exact f
 |ret=>exact f
 |exit i=>exact f
end
def jr:Nat->Nat->List Nat->List Nat
 |_,0,r=>r
 |a,n+1,r=>a::jr (a+1) n r
def junks:List Nat->List (Nat×SV)
 |[]=>[]
 |n::r=>(n,.junk)::junks r
def LI{X:Type}(a:St)(upd:X->List (Nat×SV))(jl:List Nat)(hup:X->List (Nat×Ent))(N:Nat)(x:X):St:=
 ⟨upd x::junks jl::a.t,hup x::a.h,N,a.n0,a.nt,a.d⟩
theorem aI{P:Program}{Θ:Tys}(hΘ:Θ.Ok P){a:St}{b:Code}{Q:SE->St->Prop}{X:Type}(upd:X->List (Nat×SV))(jl:List Nat)(hup:X->List (Nat×Ent))(N:Nat)(μ:X->Nat)(e:X)
  (f:WfH a.h a.nx->WfT a.t a.nx->Le a (LI a upd jl hup N e))
  (hb:∀x,WfH a.h a.nx->WfT a.t a.nx->sx P Θ b (LI a upd jl hup N x) (LQ (LI a upd jl hup N) μ x Q)):WP P (.loop b) a Q:=
 ycd (LI a upd jl hup N) μ e fun c d=>⟨f c d,fun x=>ef hΘ _ _ _ (hb x c d)⟩
theorem bT_of{n:Nat}:∀{l:List (Nat×SV)},(l.all fun p=>p.2.bB n)=true->bT n l
 |[],_=>trivial
 |(i,v)::r,h=>by
  simp only[qbr,qd]at h;exact⟨SV.bB_ok h.1,bT_of h.2⟩
def ck0(upd jl:List (Nat×SV))(n0 nt N:Nat):Bool:=
 (jl.all fun p=>fB p.2&&Nat.ble (p.1+1) nt)&&(upd.all fun p=>Nat.ble (p.1+1) nt)&&Nat.ble n0 N&&(upd.all fun p=>p.2.bB N)&&Nat.ble 1 N
theorem chk0(F:Fz)(N:Nat)(h:1<=N):chkS [] [(0,.frz F)] N N=true:=by
 have h1:Nat.ble (0+1) N=true:=qbc h;simp[chkS,kS,h1,Ent.isFz,at0,aget]
theorem le0{T:List (List (Nat×SV))}{upd jl:List (Nat×SV)}{H:Hp}{n0 nt N:Nat}{F F1:Fz}(j:WfH H N)(k:WfT T N)(i:lget H 0=some (.frz F1))(a:Fz.le F F1)
  (b:ck0 upd jl n0 nt N=true)(l:leT [] T upd):Le ⟨T,H,N,n0,nt,[]⟩ ⟨upd::jl::T,[(0,.frz F)]::H,N,n0,nt,[]⟩:=by
 simp only[ck0,qd]at b;obtain⟨⟨⟨⟨c,d⟩,e⟩,f⟩,g⟩:=b;exact qP N [] j k (qbc (qj _)) e (fun _ h=>nomatch h) c d (chk0 F N (nb g)) (bT_of f) ⟨tv,tv⟩ l ⟨by simp only[entE,aget,Ent.ren];rw[i];exact a,tv⟩
def ckR(b upd jl:List (Nat×SV))(a:List (Nat×Ent))(n0 nt N:Nat):Bool:=
 ck0 upd jl n0 nt N&&(b.all fun p=>(aget upd p.1).isSome||(aget jl p.1).isSome)&&(a.all fun p=>Nat.beq p.1 0||Nat.ble N p.1)
theorem lr0{T:List (List (Nat×SV))}{b upd jl:List (Nat×SV)}{H:Hp}{a:List (Nat×Ent)}{nx1 n0 nt N:Nat}{F F1:Fz}(n:WfH H N)(o:WfT T N)(m:lget (a::H) 0=some (.frz F1))(c:Fz.le F F1)
  (d:ckR b upd jl a n0 nt N=true)(s:leT [] (b::jl::T) upd):Le ⟨b::jl::T,a::H,nx1,n0,nt,[]⟩ ⟨upd::jl::T,[(0,.frz F)]::H,N,n0,nt,[]⟩:=by
 simp only[ckR,ck0,qd]at d;obtain⟨⟨⟨⟨⟨⟨e,f⟩,g⟩,i⟩,j⟩,k⟩,l⟩:=d;refine pG N N [] n o (qbc (qj _)) g (fun _ h=>nomatch h) e f k ?_ (chk0 F N (nb j)) (bT_of i) ⟨tv,tv⟩ s ⟨by simp only[entE,aget,Ent.ren];rw[m];exact c,tv⟩;refine qo.2 fun p q=>?_
 have:=qo.1 l p q;simp only[qai]at this ⊢;rcases this with h | h
 ·left;rw[qm h];rfl
 ·exact .inr h
def fz{X:Type}(a:X->Fz):X->List (Nat×Ent):=fun x=>[(0,.frz (a x))]
end Sx
