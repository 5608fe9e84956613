import Derived.Test.YtfnkamphhpldcaaGreatDoorK06
import Derived.OrdersHeld
set_option maxHeartbeats 64000000
namespace Sx
open Go
def memN(i:Nat):List Nat->Bool
 |[]=>false
 |j::r=>Nat.beq i j||memN i r
def nj(K:SV->Prop):SV->Prop
 |.va a=>K (.va a)
 |.agg l=>K (.agg l)
 |.tup l=>K (.tup l)
 |.junk=>False
theorem rg{K:SV->Prop}{v:SV}(h:nj K v):K v/\v≠.junk:=by
 cases v<;>first | exact⟨h,by simp⟩ | exact h.elim
def sval(P:Program)(Θ:Tys)(ids:List Nat)(t:List (List (Nat×SV)))(o:Op)(h:Hp)(nx:Nat)(K:SV->Prop):Prop:=
 match o with
 |.move x=>K (ev t x)
 |.assign x=>K (ev t x)
 |.pick c a b=>ii (ev t c) (ev t a) (ev t b) h nx fun v _ _=>nj K v
 |.load ty a=>(match ev t a with
  |.va (.ptr p)=>memN p.i (0::ids)=true/\eC Θ ty (.va (.ptr p)) h nx fun v _ _=>nj K v
  |_=>False)
 |.nilCheck x=>(match ev t x with
  |.va (.ptr p)=>K (.va (.ptr p))
  |.va (.fn (.func f) c)=>K (.va (.fn (.func f) c))
  |_=>False)
 |.binOp op ty x y _=>s_bin P Θ op ty (ev t x) (ev t y) h nx fun v _ _=>nj K v
 |.unOp op _ x=>s_un op (ev t x) h nx fun v _ _=>nj K v
 |.convert s d x=>(match ev t x with
  |.va (.int k n)=>kS Θ s d (.va (.int k n)) h nx fun v _ _=>nj K v
  |_=>False)
 |.slice ty x lo hi mx=>g5 Θ ty (ev t x) (evO t lo) (evO t hi) (evO t mx) h nx fun v _ _=>nj K v
 |.fieldAddr ty x f=>gq Θ ty (ev t x) f h nx fun v _ _=>nj K v
 |.field ty x f=>gY Θ ty (ev t x) f h nx fun v _ _=>nj K v
 |.indexAddr ty x i=>gr Θ ty (ev t x) (ev t i) h nx fun v _ _=>nj K v
 |.index ty x i=>gZ Θ ty (ev t x) (ev t i) h nx fun v _ _=>nj K v
 |.extract x i=>(match ev t x with
  |.tup l=>(match nth l i with
   |some c=>K c.v
   |none=>False)
  |_=>False)
 |.call c=>(match c.callee with
  |.builtin b=>(match b,evL t c.args.toList with
   |.len,[x]=>s_len Θ c.argTypes.toList x h nx fun v _ _=>nj K v
   |.min,[x,y]=>s_min x y h nx fun v _ _=>nj K v
   |.max,[x,y]=>s_max x y h nx fun v _ _=>nj K v
   |_,_=>False)
  |_=>False)
 |_=>False
section
variable {P:Program} {Θ:Tys} {h h1:Hp} {nx nx1:Nat} {K:SV->Prop}
theorem AV{c a b:SV}(d:ii c a b h nx fun v _ _=>K v):∃sv,K sv/\ii c a b h1 nx1 fun v _ _=>v=sv:=by
 unfold ii at*;split at d
 ·exact⟨_,d,rfl⟩
 ·exact⟨_,d,rfl⟩
 ·rename_i c;split at d
  ·exact⟨_,d,rfl⟩
  ·exact⟨_,d,rfl⟩
  ·exact⟨_,d,rfl⟩
  ·exact⟨_,d,rfl⟩
  ·cases c with
   |true=>exact⟨_,d.1 rfl,fun _=>rfl,(fun h=>by cases h)⟩
   |false=>exact⟨_,d.2 rfl,(fun h=>by cases h),fun _=>rfl⟩
 ·exact d.elim
theorem yab{f:BinOp}{t:TypeId}{x y:SV}(c:s_bin P Θ f t x y h nx fun v _ _=>K v):∃sv,K sv/\s_bin P Θ f t x y h1 nx1 fun v _ _=>v=sv:=by
 have d:∀a b,s_bin.boolOp Θ t h nx (fun v _ _=>K v) f a b->∃sv,K sv/\s_bin.boolOp Θ t h1 nx1 (fun v _ _=>v=sv) f a b:=by
  intro a b c;unfold s_bin.boolOp at*;split at c
  ·split at c
   ·exact⟨_,c,rfl⟩
   ·exact⟨_,c,rfl⟩
   ·exact c.elim
  ·exact c.elim
 have e:∀a,s_bin.nilOp Θ t h nx (fun v _ _=>K v) f a->∃sv,K sv/\s_bin.nilOp Θ t h1 nx1 (fun v _ _=>v=sv) f a:=by
  intro a c;unfold s_bin.nilOp at*;split at c
  ·split at c
   ·exact⟨_,c,rfl⟩
   ·exact⟨_,c,rfl⟩
   ·exact c.elim
  ·exact c.elim
 unfold s_bin at*;split at c
 ·split at c
  ·exact⟨_,c.2,c.1,rfl⟩
  ·exact⟨_,c.2,c.1,rfl⟩
  ·split at c
   ·exact c.elim
   ·rename_i i j k l;split at c
    all_goals first
     |exact c.elim
     |exact⟨_,c,rfl⟩
     |exact⟨_,c.2,c.1,rfl⟩
 ·split at c
  ·exact⟨_,c.2,c.1,rfl⟩
  ·exact⟨_,c,rfl⟩
  ·exact⟨_,c,rfl⟩
  ·exact⟨_,c,rfl⟩
  ·exact c.elim
 ·exact d _ _ c
 ·exact d _ _ c
 ·exact d _ _ c
 ·exact d _ _ c
 ·exact e _ c
 ·exact e _ c
 ·split at c
  ·obtain⟨b,h1,g⟩:=c;exact⟨_,g,b,h1,rfl⟩
  ·obtain⟨b,h1,g⟩:=c;exact⟨_,g,b,h1,rfl⟩
  ·exact c.elim
 ·exact c.elim
theorem yc3{b:UnOp}{x:SV}(a:s_un b x h nx fun v _ _=>K v):∃sv,K sv/\s_un b x h1 nx1 fun v _ _=>v=sv:=by
 unfold s_un at*;split at a<;>first | exact a.elim | exact⟨_,a,rfl⟩
theorem fO{len cap:Nat}{c b:Option Int}{F:Nat->Nat->SV}(a:bnds len cap c b fun l m=>K (F l m)):∃sv,K sv/\bnds len cap c b fun l m=>F l m=sv:=by
 unfold bnds at*;split at a
 ·split at a
  ·exact⟨_,a,rfl⟩
  ·exact⟨_,a.2,a.1,rfl⟩
 ·obtain⟨g,a⟩:=a;split at a
  ·exact⟨_,a,g,rfl⟩
  ·exact⟨_,a.2,g,a.1,rfl⟩
theorem E1{t:TypeId}{x:SV}{y w mx:Option SV}(d:g5 Θ t x y w mx h nx fun v _ _=>K v):∃sv,K sv/\g5 Θ t x y w mx h1 nx1 fun v _ _=>v=sv:=by
 unfold g5 at*;split at d
 ·exact d.elim
 ·split at d
  ·rename_i B A n o;split at d
   ·rename_i l;obtain⟨sv,f,g⟩:=fO d;exact⟨sv,f,by simp only;exact g⟩
   ·rename_i u a b c nil i k e sz len cap l;split at d
    ·rename_i j m;split at d
     ·rename_i q;obtain⟨sv,f,g⟩:=fO d;exact⟨sv,f,by simp only;exact g⟩
     ·rename_i q;split at d
      ·rename_i s;obtain⟨sv,f,g⟩:=fO d;exact⟨sv,f,by simp only;exact g⟩
      ·rename_i s;split at d
       ·obtain⟨sv,f,g⟩:=fO d;exact⟨sv,f,by simp only;exact g⟩
       ·exact d.elim
    ·exact d.elim
   ·rename_i l;split at d
    ·rename_i m;obtain⟨sv,f,g⟩:=fO (F:=fun _ _=>SV.va .nilsl) d;exact⟨sv,f,by simp only;exact g⟩
    ·exact d.elim
   ·rename_i p l;split at d
    ·rename_i m;obtain⟨sv,f,g⟩:=fO (F:=fun _ _=>SV.va (.odd p)) d;exact⟨sv,f,by simp only;exact g⟩
    ·exact d.elim
   ·rename_i l;split at d
    ·rename_i m;split at d
     ·rename_i q;obtain⟨sv,f,g⟩:=fO d;exact⟨sv,f,by simp only;exact g⟩
     ·exact d.elim
    ·exact d.elim
   ·rename_i l;split at d
    ·rename_i m;obtain⟨sv,f,g⟩:=fO d;exact⟨sv,f,by simp only;exact g⟩
    ·exact d.elim
   ·exact d.elim
  ·exact d.elim
theorem CO{t:TypeId}{x:SV}{f:Nat}(a:gq Θ t x f h nx fun v _ _=>K v):∃sv,K sv/\gq Θ t x f h1 nx1 fun v _ _=>v=sv:=by
 unfold gq at*;split at a
 ·rename_i b;split at a
  ·rename_i c;split at a
   ·rename_i d;split at a
    ·exact a.elim
    ·rename_i e;exact⟨_,a,by simp only⟩
   ·exact a.elim
  ·exact a.elim
 ·exact a.elim
theorem EZ{t:TypeId}{x:SV}{f:Nat}(a:gY Θ t x f h nx fun v _ _=>K v):∃sv,K sv/\gY Θ t x f h1 nx1 fun v _ _=>v=sv:=by
 unfold gY at*;split at a
 ·rename_i c;split at a
  ·rename_i d;split at a
   ·rename_i e;split at a
    ·rename_i g;split at a
     ·rename_i b;exact⟨_,a,by simp only⟩
     ·rename_i b;split at a
      ·exact⟨_,a,by simp only⟩
      ·exact a.elim
    ·exact a.elim
   ·exact a.elim
  ·exact a.elim
 ·exact a.elim
theorem CP{t:TypeId}{x y:SV}(a:gr Θ t x y h nx fun v _ _=>K v):∃sv,K sv/\gr Θ t x y h1 nx1 fun v _ _=>v=sv:=by
 unfold gr at*;split at a
 ·rename_i c;split at a
  ·rename_i d;obtain⟨g,a⟩:=a;split at a
   ·rename_i b;exact⟨_,a,by simp only;exact⟨g,tv⟩⟩
   ·rename_i b;exact⟨_,a,by simp only[b];exact⟨g,tv⟩⟩
  ·exact a.elim
 ·rename_i c;split at a
  ·rename_i d;split at a
   ·rename_i b;obtain⟨e,f,a⟩:=a;exact⟨_,a,by simp only;exact⟨e,f,tv⟩⟩
   ·rename_i b;split at a
    ·rename_i i;obtain⟨e,f,a⟩:=a;exact⟨_,a,by simp only;exact⟨e,f,tv⟩⟩
    ·exact a.elim
  ·exact a.elim
 ·exact a.elim
theorem E0{t:TypeId}{x y:SV}(a:gZ Θ t x y h nx fun v _ _=>K v):∃sv,K sv/\gZ Θ t x y h1 nx1 fun v _ _=>v=sv:=by
 unfold gZ at*;split at a
 ·rename_i c;obtain⟨g,b,i,a⟩:=a;exact⟨_,a,by simp only;exact⟨g,b,i,rfl⟩⟩
 ·rename_i c;split at a
  ·rename_i e;obtain⟨g,xs,f,a⟩:=a;split at a
   ·rename_i d;exact⟨_,a,by simp only;exact⟨g,xs,f,rfl⟩⟩
   ·rename_i d;split at a
    ·exact⟨_,a,by simp only;exact⟨g,_,f,rfl⟩⟩
    ·exact a.elim
  ·exact a.elim
 ·exact a.elim
theorem yac{ts:List TypeId}{x:SV}(b:s_len Θ ts x h nx fun v _ _=>K v):∃sv,K sv/\s_len Θ ts x h1 nx1 fun v _ _=>v=sv:=by
 unfold s_len at*;split at b
 ·split at b
  ·rename_i a;exact⟨_,b,by simp only⟩
  ·rename_i a;exact⟨_,b,by simp only⟩
  ·rename_i a;exact⟨_,b,by simp only⟩
  ·rename_i a;exact⟨_,b,by simp only⟩
  ·rename_i a;exact⟨_,b,by simp only⟩
  ·exact b.elim
 ·exact b.elim
theorem yae{x y:SV}(a:s_min x y h nx fun v _ _=>K v):∃sv,K sv/\s_min x y h1 nx1 fun v _ _=>v=sv:=by
 unfold s_min at*;split at a
 ·exact⟨_,a,rfl⟩
 ·exact a.elim
theorem yad{x y:SV}(a:s_max x y h nx fun v _ _=>K v):∃sv,K sv/\s_max x y h1 nx1 fun v _ _=>v=sv:=by
 unfold s_max at*;split at a
 ·exact⟨_,a,rfl⟩
 ·exact a.elim
theorem kw{b:SB}{p:Pl}{n:Nat}{F:List SA->Prop}(a:rdB b p n F):∃xs,F xs/\rdB b p n fun f=>f=xs:=by
 unfold rdB at*;split at a
 ·split at a
  ·exact⟨_,a,rfl⟩
  ·exact a.elim
 ·split at a
  ·obtain⟨x,e,a⟩:=a;split at a
   ·rename_i d;exact⟨_,a,x,e,by simp only[d]⟩
   ·exact a.elim
  ·obtain⟨xs,h1,c⟩:=a;exact⟨xs,c,xs,h1,rfl⟩
 ·obtain⟨xs,h1,c⟩:=a;exact⟨xs,c,xs,h1,rfl⟩
theorem yc2{p:Pl}{n:Nat}{F:List SA->Prop}(a:rd h p n F):∃xs,F xs/\rd h p n fun i=>i=xs:=by
 unfold rd at*;split at a
 ·rename_i d;split at a
  ·rename_i g;obtain⟨xs,b,c⟩:=kw a;exact⟨xs,b,c⟩
  ·exact a.elim
 ·rename_i d;obtain⟨f,a⟩:=a;split at a
  ·rename_i g;obtain⟨xs,b,c⟩:=kw a;exact⟨xs,b,f,c⟩
  ·exact a.elim
 ·rename_i d;obtain⟨f,a⟩:=a;obtain⟨xs,b,c⟩:=kw a;exact⟨xs,b,f,c⟩
 ·rename_i d;obtain⟨B,e,a⟩:=a;obtain⟨xs,b,c⟩:=kw a;exact⟨xs,b,B,e,c⟩
 ·rename_i d;split at a
  ·rename_i g;obtain⟨B,e,a⟩:=a;obtain⟨xs,b,c⟩:=kw a;exact⟨xs,b,B,e,c⟩
  ·exact a.elim
 ·exact a.elim
 ·exact a.elim
def geE(x y:Option Ent):Prop:=
 match x,y with
 |some (.frz F'),some (.frz F)=>Fz.le F F'
 |_,_=>False
def Keep(h h1:Hp)(i:Nat):Prop:=geE (lget h1 0) (lget h 0)/\(i=0\/lget h1 i=lget h i)
theorem kh{b:SB}{p:Pl}{n:Nat}{F G:List SA->Prop}(a:rdB b p n F)(c:∀xs,F xs->G xs):rdB b p n G:=by
 unfold rdB at*;split at a
 ·split at a
  ·exact c _ a
  ·exact a.elim
 ·split at a
  ·obtain⟨x,e,a⟩:=a;refine⟨x,e,?_⟩;split at a
   ·exact c _ a
   ·exact a.elim
  ·obtain⟨xs,h1,d⟩:=a;exact⟨xs,h1,c _ d⟩
 ·obtain⟨xs,h1,d⟩:=a;exact⟨xs,h1,c _ d⟩
theorem rl{p:Pl}{n:Nat}{F G:List SA->Prop}(a:rd h p n F)(b:∀xs,F xs->G xs):rd h p n G:=by
 unfold rd at*;split at a
 ·split at a
  ·exact kh a b
  ·exact a.elim
 ·obtain⟨d,a⟩:=a;split at a
  ·exact⟨d,kh a b⟩
  ·exact a.elim
 ·exact⟨a.1,kh a.2 b⟩
 ·obtain⟨B,c,a⟩:=a;exact⟨B,c,kh a b⟩
 ·split at a
  ·obtain⟨B,c,a⟩:=a;exact⟨B,c,kh a b⟩
  ·exact a.elim
 ·exact a.elim
 ·exact a.elim
theorem ybp{p:Pl}{n:Nat}{F:List SA->Prop}(a:rd h p n F)(j:Keep h h1 p.i):rd h1 p n F:=by
 obtain⟨b,d⟩:=j;unfold geE at b;split at b
 ·rename_i F1 k f e;by_cases g:p.i=0
  ·unfold rd at*;rw[g]at a ⊢;rw[e]at a;rw[f];obtain⟨B,c,a⟩:=a;exact⟨B,b _ B c,a⟩
  ·have d:=d.resolve_left g;unfold rd at*;rw[d,f];rw[e]at a;split at a<;>rename_i l
   all_goals first
    |exact a
    |exact a.elim
    |(obtain⟨B,c,a⟩:=a;first | exact⟨B,c,a⟩ | exact⟨B,b _ B c,a⟩)
 ·exact b.elim
theorem AU{t:TypeId}{p:Pl}(c:eC Θ t (.va (.ptr p)) h nx fun v _ _=>K v):∃sv,K sv/\eC Θ t (.va (.ptr p)) h nx fun v _ _=>v=sv:=by
 unfold eC at*;split at c
 ·rename_i i q j f;cases f
  obtain⟨xs,a,e⟩:=yc2 c;split at a
  ·rename_i b;refine⟨_,a,?_⟩;exact rl e (fun g d=>by subst d;simp only)
  ·rename_i b;split at a
   ·refine⟨_,a,?_⟩;exact rl e (fun g d=>by subst d;simp only)
   ·exact a.elim
 ·exact c.elim
theorem zq{t:TypeId}{p:Pl}{G:SV->Prop}(a:eC Θ t (.va (.ptr p)) h nx fun v _ _=>G v)(c:Keep h h1 p.i):eC Θ t (.va (.ptr p)) h1 nx1 fun v _ _=>G v:=by
 unfold eC at*;split at a
 ·rename_i i q d b;cases b
  exact ybp a c
 ·exact a.elim
end
def eS(b:Region.Mode)(a:Array Oper)(j:Nat):Bool:=
 (List.range a.size).all fun i=>Nat.beq i j||(match a[j]? with
  |some o=>o.after.any fun e=>Region.binds b e&&Nat.beq e.on i
  |none=>false)
theorem CR{f:Region.Mode}{a:Array Oper}{i j:Nat}{g:Oper}(l:i < a.size)(m:a[j]? =some g)(c:j≠i)(d:∀e∈g.after,Region.binds f e=true->e.on≠i):eS f a j=false:=by
 cases h:eS f a j with
 |false=>rfl
 |true=>
  have h1:=qp.1 h i (qce.2 l);simp only[m,qah,Array.any_eq_true']at h1;rcases h1 with h1 | ⟨e,k,b⟩
  ·exact absurd (qm h1).symm c
  ·rw[qd]at b;exact absurd (qm b.2) (d e k b.1)
def wpAnyL(P:Program)(d:Region.Mode)(c:Array Oper)(Q:Exit->Act->World->Prop)(S:World->Prop):Nat->Array Bool->Act->World->Prop
 |0,b,a,w=>Region.ready d c b=[]/\Q .normal a w
 |fuel+1,b,a,w=>
  (Region.ready d c b=[]->Q .normal a w)/\
  ∀i∈Region.ready d c b,wpOp P c Q i (fun f e=>(eS d c i=false->S e)/\wpAnyL P d c Q S fuel (b.setIfInBounds i true) f e) a w
section
variable {P:Program} {ops:Array Oper} {Q:Exit->Act->World->Prop} {md:Region.Mode} {S:World->Prop}
theorem uC:∀(fuel:Nat) (b:Array Bool) (a:Act) (w:World),wpAnyL P md ops Q S fuel b a w->wpAny P md ops Q fuel b a w
 |0,_,_,_,h=>h
 |fuel+1,_,_,_,h=>⟨h.1,fun i e=>wpOp_mono (fun c f d=>uC fuel _ c f d.2) (h.2 i e)⟩
theorem wpAnyL_first{i:Nat}{oi:Oper}{v:Value}(I:ops[i]? =some oi)(s:∀(j:Nat) (o:Oper) cs b,ops[j]? =some o->o.op≠.select cs b)
  (V:∀c a w,Q (.panic c) (a.put oi.dst v) w->Q (.panic c) a w):
  ∀(g:Nat) (d:Array Bool) (a:Act) (w:World),
   (∀j x,ops[j]? =some x->j≠i->d.getD j true=false->(∀e∈x.after,Region.binds md e=true->e.on≠i)->oi.apart ops x=true)->
   i∈Region.ready md ops d->YieldsIf P ops S oi v a->S w->
   wpAnyL P md ops Q S g (d.setIfInBounds i true) (a.put oi.dst v) w->wpAnyL P md ops Q S (g+1) d a w:=by
 intro g
 induction g with
 |zero=>
  intro d a w _ u K y H;refine⟨fun h=>(by rw[h]at u;cases u),fun j J=>?_⟩;by_cases f:j=i
  ·subst f;exact K.wpOp I y ⟨fun _=>y,H⟩
  ·have:=ready_mono J f;rw[H.1]at this;cases this
 |succ g ih=>
  intro d a w l u K y H;refine⟨fun h=>(by rw[h]at u;cases u),fun j J=>?_⟩;by_cases f:j=i
  ·subst f;exact K.wpOp I y ⟨fun _=>y,H⟩
  ·have h1:=H.2 j (ready_mono J f);obtain⟨p,x,n,A⟩:=mem_ready.1 J
   have q:∀e∈x.after,Region.binds md e=true->e.on≠i:=fun e X W L=>by
    have h1:=A e X W;have R:=(mem_ready.1 u).1;rw[L]at h1;rcases qcf i d.size with h' | h'
    ·simp[h']at R h1;rw[R]at h1;cases h1
    ·simp[Array.getElem?_eq_none h']at h1
   have E:=CR (jk.1 I).1 n f q;have U:=wpOp_putIf n (l j x n f p q) (fun cs b=>s i oi cs b I) (fun cs b=>s j x cs b n) V K h1
   have m:∀k ok,ops[k]? =some ok->k≠i->(d.setIfInBounds j true).getD k true=false->
     (∀e∈ok.after,Region.binds md e=true->e.on≠i)->oi.apart ops ok=true:=fun k ok Y M D O=>by
    refine l k ok Y M ?_ O;by_cases B:j=k
    ·subst B;exact p
    ·rw[getD_set_ne true B]at D;exact D
   refine wpOp_mono (fun T Z G=>⟨fun _=>G.2.1 E,ih (d.setIfInBounds j true) T Z m (ready_mono u (Ne.symm f)) G.1 (G.2.1 E) ?_⟩) U;rw[Array.setIfInBounds_comm _ _ f];exact G.2.2
theorem tP{i:Nat}{oi:Oper}{v:Value}{d:Nat}{b:Array Bool}{a:Act}{w:World}(e:ops[i]? =some oi)
  (l:Region.noSelect ops=true)(j:Region.free md ops b i=true)(k:(Region.ready md ops b).contains i=true)
  (f:∀c a w,Q (.panic c) (a.put oi.dst v) w->Q (.panic c) a w)(m:YieldsIf P ops S oi v a)(g:S w)
  (h:wpAnyL P md ops Q S d (b.setIfInBounds i true) (a.put oi.dst v) w):wpAnyL P md ops Q S (d+1) b a w:=
 wpAnyL_first e (Region.noSelect_spec l) f d b a w (Region.free_spec e j) (by simpa using k) m g h
theorem uB{e:List Nat}{c:Nat}{b:Array Bool}{a:Act}{w:World}(f:Region.ready md ops b=e)(d:e≠[])
  (h:∀i∈e,wpOp P ops Q i (fun j g=>(eS md ops i=false->S g)/\wpAnyL P md ops Q S c (b.setIfInBounds i true) j g) a w):wpAnyL P md ops Q S (c+1) b a w:=
 ⟨fun k=>absurd (f▸k) d,f▸h⟩
theorem tO{b:Array Bool}{a:Act}{w:World}(d:Region.ready md ops b=[])(h:Q .normal a w):
  ∀c,wpAnyL P md ops Q S c b a w
 |0=>⟨d,h⟩
 |_+1=>⟨fun _=>h,by rw[d];simp⟩
theorem DH{id:Nat}{a:Act}{w:World}(b:P.follows .mixedOrders=true)
  (h:wpAnyL P .any ops Q S ops.size (Array.replicate ops.size false) a { w with drawn:=w.drawn+1 }):(Code.region id ops true).wp P Q a w:=
 wp_region_any b (uC _ _ _ _ h)
end
def dx(C:Ctx)(ids:List Nat)(a:St)(ρ:Rho)(w:World):Prop:=
 ∃b h1 nx1,Sat C b h1 nx1 w/\(∀i,i < a.nx->b i=ρ i)/\a.nx<=nx1/\∀i,memN i (0::ids)=true->Keep a.h h1 i
section
variable {P:Program} {Θ:Tys} {C:Ctx} {ρ:Rho} {st:St} {a:Act} {w:World} {ids:List Nat} {K:SV->Prop}
theorem vq{C:Ctx}{ρ:Rho}{h:Hp}{nx:Nat}{w:World}(S:Sat C ρ h nx w)(i:Nat):Keep h h i:=by
 obtain⟨F,b,_⟩:=S.fz;exact⟨by rw[b];exact Fz.r F,.inr rfl⟩
theorem k9(D:Den C ρ st a w):dx C ids st ρ w:=⟨ρ,st.h,st.nx,D.sat,fun _ _=>rfl,qi _,fun i _=>vq D.sat i⟩
def Looks(P:Program)(C:Ctx)(ids:List Nat)(st:St)(ρ:Rho)(K:SV->Prop)(s:Sem Next):Prop:=
 ∃v sv,K sv/\sv.rel ρ v/\sv.below st.nx/\∀b,dx C ids st ρ b->s.run P b=.ok (.value v) b
theorem eK{s:Sem Value}(sv:SV)(m:nj K sv)(D:Den C ρ st a w)
  (d:∀k h1 nx1 A,Sat C k h1 nx1 A->(∀i,i < st.nx->k i=ρ i)->st.nx<=nx1->(∀i,memN i (0::ids)=true->Keep st.h h1 i)->YldS P s k h1 nx1 A fun v _ _=>v=sv):
  Looks P C ids st ρ K (do pure (Next.value (<-s))):=by
 obtain⟨m,p⟩:=rg m;obtain⟨y,q,R,e,g,G⟩:=d ρ st.h st.nx w D.sat (fun _ _=>rfl) (qi _) (fun i _=>vq D.sat i);subst G;refine⟨y,q,m,e,g,?_⟩;rintro O ⟨k,h1,nx1,B,j,o,f⟩;obtain⟨M,u,L,c,E,I⟩:=d k h1 nx1 O B j o f;subst I
 have J:M=y:=by
  have b:=SV.rel_congr (n:=st.nx) j g e;cases u with
  |va x=>simp only[SV.rel]at*;rw[c,b]
  |agg l=>simp only[SV.rel]at*;rw[c,b]
  |tup l=>simp only[SV.rel]at*;rw[c,b]
  |junk=>exact absurd rfl p
 subst J;simp[L]
theorem iB{v:Value}{sv:SV}(d:K sv)(e:sv.rel ρ v)(c:sv.below st.nx)(s:Sem Next)(f:∀b,s.run P b=.ok (.value v) b):Looks P C ids st ρ K s:=
 ⟨v,sv,d,e,c,fun b _=>f b⟩
theorem Eu(hΘ:Θ.Ok P){o:Oper}(m:sval P Θ ids st.t o.op st.h st.nx K)(D:Den C ρ st a w):Looks P C ids st ρ K (execOp a.eval o):=by
 obtain⟨ag,op,type,pos,ad,guard⟩:=o;have L:∀{G:Rho} (e:∀i,i < st.nx->G i=ρ i) (x:Operand),(ev st.t x).rel G (a.eval x):=fun e x=>SV.rel_congr (n:=st.nx) e (aT D x).2 (aT D x).1
 have Z:∀{n:Nat} (q:st.nx<=n) (x:Operand),(ev st.t x).below n:=fun q x=>SV.below_mono q (aT D x).2
 have aa:∀{G:Rho} (e:∀i,i < st.nx->G i=ρ i) (x:Option Operand),relO G (evO st.t x) (x.map a.eval):=fun e x=>by
  cases x with
  |none=>trivial
  |some x=>exact L e x
 cases op
 case move x=>exact iB m (aT D x).1 (aT D x).2 _ (fun _=>rfl)
 case assign x=>exact iB m (aT D x).1 (aT D x).2 _ (fun _=>rfl)
 case pick c x y=>
  obtain⟨sv,B,j⟩:=AV (h:=st.h) (nx:=st.nx) (h1:=st.h) (nx1:=st.nx) m;have:=eK (P:=P) (ids:=ids) (s:=(do pure (if<-asBool (a.eval c)then a.eval x else a.eval y):Sem Value)) sv B D (fun G h1 nx1 T A e q g=>vP (K:=fun v _ _=>v=sv) (h:=h1) (nx:=nx1) j A (L e c) (L e x) (L e y) (Z q x) (Z q y));simpa[execOp]using this
 case load ty x=>
  simp only[sval]at m;have J:=aT D x;split at m
  ·rename_i p V;obtain⟨hm,m⟩:=m;rw[V]at J;obtain⟨sv,B,j⟩:=AU m;refine eK sv B D (fun G h1 nx1 T A e q g=>?_);have ae:=SV.rel_congr (n:=st.nx) e J.2 J.1;obtain⟨u,af,k1,k2,k3,k4⟩:=nS (P:=P) hΘ (zq (nx1:=nx1) j (g p.i hm)) A ae;exact⟨u,af,k1,k2,k3,k4⟩
  ·exact m.elim
 case nilCheck x=>
  simp only[sval]at m;have J:=aT D x;split at m
  ·rename_i p V;rw[V]at J;have Y:a.eval x=.pointer (some (p.addr ρ)):=J.1;exact iB m J.1 J.2 _ (fun w'=>by simp[execOp,Y])
  ·rename_i f c V;rw[V]at J;have Y:a.eval x=_:=J.1;simp only[SA.den]at Y;exact iB m J.1 J.2 _ (fun w'=>by simp[execOp,Y])
  ·exact m.elim
 case binOp op ty x y ty'=>
  obtain⟨sv,B,j⟩:=yab (h:=st.h) (nx:=st.nx) (h1:=st.h) (nx1:=st.nx) m;exact eK sv B D (fun G h1 nx1 T A e q g=>xJ (K:=fun v _ _=>v=sv) hΘ (h:=h1) (nx:=nx1) j A (L e x) (L e y))
 case unOp op ty x=>
  obtain⟨sv,B,j⟩:=yc3 (h:=st.h) (nx:=st.nx) (h1:=st.h) (nx1:=st.nx) m;exact eK sv B D (fun G h1 nx1 T A e q g=>rv (K:=fun v _ _=>v=sv) (h:=h1) (nx:=nx1) j A (L e x))
 case convert s d x=>
  simp only[sval]at m;have J:=aT D x;split at m
  ·rename_i k n V;rw[V]at J;have Y:a.eval x=.int k n:=J.1;unfold kS at m;split at m
   ·rename_i i0 k' c1 c2 c3 kk nn e1 e2 U;cases U
    refine iB (sv:=.va (.int k' (k'.wrap n))) (v:=.int k' (k'.wrap n)) (rg m).1 rfl trivial _ (fun w'=>?_)
    have:(convert s d (.int k n)).run P w'=.ok (.int k' (k'.wrap n)) w':=by
     simp only[convert,Sem.run_bind,aV hΘ e1,aV hΘ e2,Result.andThen_ok,Conv.intToInt];cases i0.d<;>rfl
    simp[execOp,Y,this]
   ·rename_i U;cases U
   ·rename_i U;cases U
   ·rename_i U;cases U
   ·rename_i U;cases U
   ·exact m.elim
  ·exact m.elim
 case slice ty x lo hi mx=>
  obtain⟨sv,B,j⟩:=E1 (h:=st.h) (nx:=st.nx) (h1:=st.h) (nx1:=st.nx) m;exact eK sv B D (fun G h1 nx1 T A e q g=>tY (K:=fun v _ _=>v=sv) hΘ (h:=h1) (nx:=nx1) j A (L e x) (aa e lo) (aa e hi) (aa e mx) (Z q x))
 case fieldAddr ty x f=>
  obtain⟨sv,B,j⟩:=CO (h:=st.h) (nx:=st.nx) (h1:=st.h) (nx1:=st.nx) m;exact eK sv B D (fun G h1 nx1 T A e q g=>sM (K:=fun v _ _=>v=sv) hΘ (h:=h1) (nx:=nx1) j A (L e x) (Z q x))
 case field ty x f=>
  obtain⟨sv,B,j⟩:=EZ (h:=st.h) (nx:=st.nx) (h1:=st.h) (nx1:=st.nx) m;exact eK sv B D (fun G h1 nx1 T A e q g=>tW (K:=fun v _ _=>v=sv) hΘ (h:=h1) (nx:=nx1) j A (L e x) (Z q x))
 case indexAddr ty x i=>
  obtain⟨sv,B,j⟩:=CP (h:=st.h) (nx:=st.nx) (h1:=st.h) (nx1:=st.nx) m;exact eK sv B D (fun G h1 nx1 T A e q g=>sN (K:=fun v _ _=>v=sv) hΘ (h:=h1) (nx:=nx1) j A (L e x) (L e i) (Z q x))
 case index ty x i=>
  obtain⟨sv,B,j⟩:=E0 (h:=st.h) (nx:=st.nx) (h1:=st.h) (nx1:=st.nx) m;exact eK sv B D (fun G h1 nx1 T A e q g=>tX (K:=fun v _ _=>v=sv) hΘ (h:=h1) (nx:=nx1) j A (L e x) (L e i) (Z q x))
 case extract x i=>
  simp only[sval]at m;have J:=aT D x;split at m
  ·rename_i l V;rw[V]at J;split at m
   ·rename_i c hc;have Y:a.eval x=.tuple (l.map (SC.den ρ)).toArray:=J.1;rw[fG]at hc;have ab:c∈l:=yw hc;refine iB (v:=c.den ρ) m ?_ ?_ _ (fun w'=>?_)
    ·cases c<;>rfl
    ·have:=J.2 c ab;cases c<;>exact this
    ·simp[execOp,Y,Instr.extract,hc]
   ·exact m.elim
  ·exact m.elim
 case call c=>
  simp only[sval]at m;obtain⟨ac,args,I⟩:=c;obtain⟨h1,W⟩:=kx D args.toList;split at m
  ·rename_i b X;simp only at X;subst X
   have E:∀{G:Rho} {l:List SV} {vs:List Value},(∀i,i < st.nx->G i=ρ i)->(∀s∈l,s.below st.nx)->relL ρ l vs->relL G l vs:=by
    intro G l
    induction l with
    |nil=>intro vs _ _ h;cases vs<;>exact h
    |cons s r ih=>
     intro vs e hb h;cases vs with
     |nil=>exact h
     |cons v vr=>exact⟨SV.rel_congr (n:=st.nx) e (hb s ss) h.1,ih e (fun s m=>hb s (by simp[m])) h.2⟩
   split at m
   ·rename_i x R;rw[R]at h1 W
    match hm:args.toList.map a.eval,h1 with
    |[v],h1=>
     have O:args.map a.eval= #[v]:=by apply Array.ext';simpa using hm
     obtain⟨sv,B,j⟩:=yac (h:=st.h) (nx:=st.nx) (h1:=st.h) (nx1:=st.nx) m;have:=eK (ids:=ids) sv B D (fun G M nx1 T A e q g=>xK (K:=fun v _ _=>v=sv) (ty:=type) hΘ (h:=M) (nx:=nx1) j A (E e W h1).1);simpa[execOp,resolve,invoke,builtin,O]using this
   ·rename_i x y R;rw[R]at h1 W
    match hm:args.toList.map a.eval,h1 with
    |[v,u],h1=>
     have O:args.map a.eval= #[v,u]:=by apply Array.ext';simpa using hm
     obtain⟨sv,B,j⟩:=yae (h:=st.h) (nx:=st.nx) (h1:=st.h) (nx1:=st.nx) m;have:=eK (P:=P) (ids:=ids) sv B D (fun G M nx1 T A e q g=>xN (K:=fun v _ _=>v=sv) (ts:=I) (ty:=type) (h:=M) (nx:=nx1) j A (E e W h1).1 (E e W h1).2.1);simpa[execOp,resolve,invoke,builtin,O]using this
   ·rename_i x y R;rw[R]at h1 W
    match hm:args.toList.map a.eval,h1 with
    |[v,u],h1=>
     have O:args.map a.eval= #[v,u]:=by apply Array.ext';simpa using hm
     obtain⟨sv,B,j⟩:=yad (h:=st.h) (nx:=st.nx) (h1:=st.h) (nx1:=st.nx) m;have:=eK (P:=P) (ids:=ids) sv B D (fun G M nx1 T A e q g=>xM (K:=fun v _ _=>v=sv) (ts:=I) (ty:=type) (h:=M) (nx:=nx1) j A (E e W h1).1 (E e W h1).2.1);simpa[execOp,resolve,invoke,builtin,O]using this
   ·exact m.elim
  ·exact m.elim
 all_goals exact m.elim
end
def keepL(ids:List Nat)(h a:Hp)(X:Prop):Prop:=
 match ids with
 |[]=>X
 |i::r=>lget a i=lget h i/\keepL r h a X
def keepK(ids:List Nat)(h a:Hp)(X:Prop):Prop:=geE (lget a 0) (lget h 0)/\keepL ids h a X
theorem ui{h a:Hp}{X:Prop}:∀{ids:List Nat},keepL ids h a X->X/\∀i,memN i ids=true->lget a i=lget h i
 |[],hk=>⟨hk,fun i hi=>by cases hi⟩
 |j::r,hk=>by
  obtain⟨h1,b⟩:=hk;obtain⟨c,d⟩:=ui b;refine⟨c,fun i hi=>?_⟩;simp only[memN,qah]at hi;rcases hi with hi | hi
  ·rw[qm hi];exact h1
  ·exact d i hi
theorem D9{h b:Hp}{X:Prop}{ids:List Nat}(a:keepK ids h b X):X/\∀i,memN i (0::ids)=true->Keep h b i:=by
 obtain⟨c,a⟩:=a;obtain⟨d,e⟩:=ui a;refine⟨d,fun i hm=>⟨c,?_⟩⟩;simp only[memN,qah]at hm;rcases hm with hm | hm
 ·exact .inl (qm hm)
 ·exact .inr (e i hm)
theorem yV{x y z:Option Ent}(h:geE x y)(a:geE y z):geE x z:=by
 unfold geE at h;split at h
 ·unfold geE at a;split at a
  ·rename_i b;cases b;exact Fz.t a h
  ·exact a.elim
 ·exact h.elim
theorem Keep.trans{h h1 c:Hp}{i:Nat}(a:Keep h h1 i)(b:Keep h1 c i):Keep h c i:=
 ⟨yV b.1 a.1,by
  rcases a.2 with h' | h'
  ·exact .inl h'
  ·rcases b.2 with h'' | h''
   ·exact .inl h''
   ·exact .inr (h''.trans h')⟩
def gg(e:List Oper)(g:Option (Nat×Bool))(a:St)(c skip:St->Prop):Prop:=
 match g with
 |none=>c a
 |some (j,want)=>match gslot e j with
  |none=>False
  |some d=>match lget a.t d with
   |some (.va (.lit b))=>(match beqB b want with
    |true=>c a
    |false=>skip a)
   |some (.va (.bool b))=>(match want with
    |true=>(b=true->c { a with t:=lput a.t d (.va (.lit true)) })/\(b=false->skip { a with t:=lput a.t d (.va (.lit false)) })
    |false=>(b=false->c { a with t:=lput a.t d (.va (.lit false)) })/\(b=true->skip { a with t:=lput a.t d (.va (.lit true)) }))
   |some (.tup [])=>skip a
   |_=>False
inductive Pn where
 |done
 |look (i:Nat) (p:Pn)
 |alt (i:Nat) (p q:Pn)
 |last (i:Nat) (p:Pn)
 |nil
def Pn.isNil:Pn->Bool
 |.nil=>true
 |_=>false
def Pn.isDone:Pn->Bool
 |.done=>true
 |_=>false
def Pn.heads:Pn->List Nat
 |.alt i _ q=>i::q.heads
 |_=>[]
def dsts(a:List Oper):List Nat:=a.filterMap fun o=>o.dst
def delL(ds:List Nat):List (Nat×SV)->List (Nat×SV)
 |[]=>[]
 |(i,v)::r=>match ds.any (Nat.beq i)with
  |true=>delL ds r
  |false=>(i,v)::delL ds r
def delT(ds:List Nat):List (List (Nat×SV))->List (List (Nat×SV))
 |[]=>[]
 |l::r=>delL ds l::delT ds r
theorem yco{i n:Nat}(h:¬i=n):Nat.beq i n=false:=by
 cases e:Nat.beq i n with
 |false=>rfl
 |true=>exact absurd (qm e) h
theorem uD{ds:List Nat}{n:Nat}:∀l:List (Nat×SV),aget (delL ds l) n=if ds.any (Nat.beq n)=true then none else aget l n
 |[]=>by simp[delL,aget]
 |(i,v)::r=>by
  have ih:=uD (ds:=ds) (n:=n) r;unfold delL;by_cases a:n=i
  ·subst a;split
   ·rename_i h;rw[ih,if_pos h,if_pos h]
   ·rename_i h;rw[if_neg (by rw[h];simp)];simp[aget]
  ·have e:=yco a;split
   ·rw[ih];simp only[aget,e]
   ·simp only[aget,e,ih]
theorem oV{ds:List Nat}{n:Nat}:∀T:List (List (Nat×SV)),lget (delT ds T) n=if ds.any (Nat.beq n)=true then none else lget T n
 |[]=>by simp[delT,lget]
 |l::r=>by
  have ih:=oV (ds:=ds) (n:=n) r;simp only[delT,lget,uD,ih];by_cases h:ds.any (Nat.beq n)=true
  ·simp only[if_pos h]
  ·simp only[if_neg h]
variable {T:List (List (Nat×SV))}
theorem l0{ds:List Nat}{n:Nat}{s:SV}(h:lget (delT ds T) n=some s):lget T n=some s:=by
 rw[oV]at h;split at h
 ·cases h
 ·exact h
def lk:List Nat->Pn->Pn
 | [],p=>p
 | i::r,p=>.look i (lk r p)
def splan(P:Program)(Θ:Tys)(ids:List Nat)(b:List Oper)(Q:SE->St->Prop):Pn->St->Prop
 |.done,a=>Q .normal a
 |.nil,_=>True
 |.look i p,a=>(match nth b i with
  |none=>False
  |some o=>gg b o.guard a (fun a=>sval P Θ ids a.t o.op a.h a.nx fun v=>setd o.dst v a fun c=>splan P Θ ids b Q p c) (fun a=>setd o.dst (.tup []) a fun c=>splan P Θ ids b Q p c))
 |.alt i p q,a=>(match nth b i with
  |none=>False
  |some o=>match q.isNil with
   |true=>gg b o.guard a (fun a=>sop P Θ a.t o.op a.h a.nx (fun v h nx=>keepK ids a.h h (setd o.dst v { a with h:=h,nx:=nx } fun c=>splan P Θ ids b Q p c)) (fun v h nx=>Q (.panic v) { a with t:=delT (dsts b) a.t,h:=h,nx:=nx }))
    (fun a=>setd o.dst (.tup []) a fun c=>splan P Θ ids b Q p c)
   |false=>gg b o.guard a (fun a=>sop P Θ a.t o.op a.h a.nx (fun v h nx=>keepK ids a.h h (setd o.dst v { a with h:=h,nx:=nx } fun c=>splan P Θ ids b Q p c)) (fun v h nx=>Q (.panic v) { a with t:=delT (dsts b) a.t,h:=h,nx:=nx }))
    (fun a=>setd o.dst (.tup []) a fun c=>splan P Θ ids b Q p c)/\splan P Θ ids b Q q a)
 |.last i p,a=>(match nth b i with
  |none=>False
  |some o=>gg b o.guard a (fun a=>sop P Θ a.t o.op a.h a.nx (fun v h nx=>setd o.dst v { a with h:=h,nx:=nx } fun c=>splan P Θ ids b Q p c) (fun v h nx=>Q (.panic v) { a with t:=delT (dsts b) a.t,h:=h,nx:=nx }))
    (fun a=>setd o.dst (.tup []) a fun c=>splan P Θ ids b Q p c))
def dR(a:Array Oper)(b:Bool):Pn->Nat->Array Bool->Bool
 |.done,n,listed=>Nat.beq n 0&& !b&&(Region.ready .any a listed).isEmpty
 |.nil,_,_=>b
 |.look i p,n,listed=>!b&&(match n with
  |0=>false
  |n+1=>Region.free .any a listed i&&(Region.ready .any a listed).contains i&&dR a false p n (listed.setIfInBounds i true))
 |.alt i p q,n,listed=>(match n with
  |0=>false
  |m+1=>(b||(Region.ready .any a listed==i::q.heads))&&dR a false p m (listed.setIfInBounds i true)&&dR a true q n listed)
 |.last i p,n,listed=>!b&&(match n with
  |0=>false
  |m+1=>eS .any a i&&(Region.ready .any a listed==[i])&&(p.isDone&&dR a false p m (listed.setIfInBounds i true)))
def kR:List (Nat×Bool)->Pn
 |[]=>.done
 |(i,true)::r=>.look i (kR r)
 |(i,false)::r=>.alt i (kR r) .nil
def Qr(b:List Oper)(Q:SE->St->Prop):SE->St->Prop:=fun e a=>
 match e with
 |.panic v=>(∃T,a.t=delT (dsts b) T)/\Q (.panic v) a
 |.normal=>Q .normal a
 |.ret=>Q .ret a
 |.exit i=>Q (.exit i) a
section
variable {P:Program} {Θ:Tys} {C:Ctx} {ids:List Nat} {Q:SE->St->Prop}
theorem x9{a:List Oper}{i:Nat}{o:Oper}(c:a[i]? =some o){d:Tmp}(b:o.dst=some d):(dsts a).any (Nat.beq d)=true:=
 List.any_eq_true.2 ⟨d,List.mem_filterMap.2 ⟨o,yw c,b⟩,Nat.beq_refl d⟩
theorem xj{e:List Oper}{c:List PanicEntry}{a:Act}{w:World}{b:Option Tmp}{v:Value}(o:∀d,b=some d->(dsts e).any (Nat.beq d)=true)(h:Up C (Qr e Q) (.panic c) (a.put b v) w):Up C (Qr e Q) (.panic c) a w:=by
 obtain⟨y,A,ρ,k,f,D⟩:=h;cases y with
 |normal=>cases f
 |ret=>cases f
 |exit i=>cases f
 |panic u=>
  refine⟨.panic u,A,ρ,k,f,?_⟩;obtain⟨⟨T,q⟩,-⟩:=k;have h1:(a.put b v).tmps.size=a.tmps.size:=by cases b<;>simp[Act.put]
  have m:(a.put b v).defers=a.defers:=by cases b<;>rfl
  refine{ sat:=D.sat,nt:=by rw[<-h1];exact D.nt,tm:=fun n s j=>?_,tw:=D.tw,n0:=D.n0,df:=by rw[<-m];exact D.df,dw:=D.dw };obtain⟨x,l,p⟩:=D.tm n s j;refine⟨x,?_,p⟩;cases b with
  |none=>exact l
  |some d=>
   have g:n≠d:=by
    rintro rfl;rw[q,oV,if_pos (o _ rfl)]at j;cases j
   rw[<-l];simp[Act.put,Ne.symm g]
theorem sR{c:Array Oper}{R:Exit->Act->World->Prop}{S d:World->Prop}(h:∀w,d w->S w):∀(fuel:Nat) (b:Array Bool) (a:Act) (w:World),wpAnyL P .any c R d fuel b a w->wpAnyL P .any c R S fuel b a w
 |0,_,_,_,hh=>hh
 |fuel+1,_,_,_,hh=>⟨hh.1,fun i j=>wpOp_mono (fun g f e=>⟨fun k=>h f (e.1 k),sR h fuel _ g f e.2⟩) (hh.2 i j)⟩
theorem nU{f:List Oper}{o:Oper}{l:St}{ρ:Rho}{a:Act}{w:World}{q skip:St->Prop}(c:gg f o.guard l q skip)(D:Den C ρ l a w):
  ∃i,Den C ρ i a w/\i.h=l.h/\i.nx=l.nx/\((Region.wanted o (yielded f.toArray a.tmps)=true/\q i)\/(Region.wanted o (yielded f.toArray a.tmps)=false/\skip i)):=by
 unfold gg at c;split at c
 ·rename_i p;exact⟨l,D,rfl,rfl,.inl ⟨by simp[Region.wanted,p],c⟩⟩
 ·rename_i j e p;split at c
  ·exact c.elim
  ·rename_i d E
   have A:∀v,a.tmps[d]? =some v->yielded f.toArray a.tmps j=(match v with | .bool b=>some b | _=>none):=by
    intro v g;rw[o8]at E;simp only[yielded,qch,E,qdf,g];cases v<;>rfl
   have m:∀b,a.tmps[d]? =some (.bool b)->b=e->Region.wanted o (yielded f.toArray a.tmps)=true:=by
    intro b u y;simp[Region.wanted,p,A _ u,y]
   have B:∀b,a.tmps[d]? =some (.bool b)->b≠e->Region.wanted o (yielded f.toArray a.tmps)=false:=by
    intro b u y;simp[Region.wanted,p,A _ u,y]
   split at c
   ·rename_i b n;obtain⟨v,g,k⟩:=D.tm d _ n;simp only[SV.rel,SA.den]at k;subst k;split at c
    ·rename_i x;exact⟨l,D,rfl,rfl,.inl ⟨m b g (by cases b<;>cases e<;>simp_all[beqB]),c⟩⟩
    ·rename_i x;exact⟨l,D,rfl,rfl,.inr ⟨B b g (by cases b<;>cases e<;>simp_all[beqB]),c⟩⟩
   ·rename_i b n;obtain⟨v,g,k⟩:=D.tm d _ n;simp only[SV.rel,SA.den]at k;subst k;have s:=D.relit n;split at c
    ·cases b with
     |true=>exact⟨_,s,rfl,rfl,.inl ⟨m _ g rfl,c.1 rfl⟩⟩
     |false=>exact⟨_,s,rfl,rfl,.inr ⟨B _ g ss,c.2 rfl⟩⟩
    ·cases b with
     |false=>exact⟨_,s,rfl,rfl,.inl ⟨m _ g rfl,c.1 rfl⟩⟩
     |true=>exact⟨_,s,rfl,rfl,.inr ⟨B _ g ss,c.2 rfl⟩⟩
   ·rename_i n;obtain⟨v,g,k⟩:=D.tm d _ n;simp only[SV.rel,yy]at k;subst k;exact⟨l,D,rfl,rfl,.inr ⟨by simp[Region.wanted,p,A _ g],c⟩⟩
   ·exact c.elim
theorem j0{b a:St}{ρ:Rho}(h1:a.h=b.h)(c:a.nx=b.nx):dx C ids a ρ=dx C ids b ρ:=by
 unfold dx;rw[h1,c]
theorem iw{e:St}{ρ:Rho}{a:Act}{w:World}{f:Option Tmp}{sv:SV}{v:Value}{K:St->Prop}(c:setd f sv e K)(D:Den C ρ e a w)(j:sv.rel ρ v)(g:sv.below e.nx):
  ∃b,K b/\Den C ρ b (a.put f v) w/\b.h=e.h/\b.nx=e.nx:=by
 unfold setd at c;split at c
 ·exact⟨e,c,D,rfl,rfl⟩
 ·rename_i d;split at c
  ·rename_i i;exact⟨_,c,D.put d (nb i) sv v j g,rfl,rfl⟩
  ·exact c.elim
theorem uL(hΘ:Θ.Ok P)(b:List Oper){i:Nat}{o:Oper}{d:Array Bool}{n:Nat}{p:Pn}{c:St}{ρ:Rho}{a:Act}{w:World}(ho:b[i]? =some o)
  (ih:∀(c:St) (ρ:Rho) (a:Act) (w:World),splan P Θ ids b Q p c->Den C ρ c a w->wpAnyL P .any b.toArray (Up C (Qr b Q)) (dx C ids c ρ) n (d.setIfInBounds i true) a w)
  (G:gg b o.guard c (fun c=>sop P Θ c.t o.op c.h c.nx (fun v h nx=>keepK ids c.h h (setd o.dst v { c with h:=h,nx:=nx } fun u=>splan P Θ ids b Q p u)) (fun v h nx=>Q (.panic v) { c with t:=delT (dsts b) c.t,h:=h,nx:=nx }))
    (fun c=>setd o.dst (.tup []) c fun u=>splan P Θ ids b Q p u))(D:Den C ρ c a w):
  wpOp P b.toArray (Up C (Qr b Q)) i (fun O y=>(eS .any b.toArray i=false->dx C ids c ρ y)/\wpAnyL P .any b.toArray (Up C (Qr b Q)) (dx C ids c ρ) n (d.setIfInBounds i true) O y) a w:=by
 have V:b.toArray[i]? =some o:=by simpa using ho
 obtain⟨X,Z,e1,K,k⟩:=nU G D;have j:dx C ids X ρ=dx C ids c ρ:=j0 e1 K;unfold wpOp;simp only[V];rcases k with⟨W,E⟩ | ⟨W,q⟩
 ·rw[if_pos W];left;have:=lJ hΘ E Z;refine lK this ?_ ?_
  ·rintro O y ⟨v,sv,h',I,M,rfl,U,B,T,f,S,A⟩;obtain⟨U,m⟩:=D9 U;obtain⟨g,l,J,R,L⟩:=iw U f B T
   have hS:∀Y,dx C ids g M Y->dx C ids c ρ Y:=by
    rintro Y ⟨ρ1,h1,nx1,S1,a1,a2,a3⟩;refine⟨ρ1,h1,nx1,S1,fun i x=>?_,?_,fun i x=>?_⟩
    ·rw[a1 i (by rw[L];show i < I;rw[<-K]at x;exact y4 x A),S i (by rw[K];exact x)]
    ·rw[L]at a2;rw[<-K];exact q8 A a2
    ·have q1:=a3 i x;rw[R]at q1;have q2:=m i x;rw[e1]at q2;exact q2.trans q1
   exact⟨fun _=>hS y (k9 J),sR hS _ _ _ _ (ih g M _ y l J)⟩
  ·rintro e O y ⟨v,h',I,M,rfl,hq,f⟩;refine⟨.panic v,_,M,⟨⟨_,rfl⟩,hq⟩,rfl,?_⟩;exact{ sat:=f.sat,nt:=f.nt,tm:=fun n s G=>f.tm n s (l0 G),tw:=fun n s G=>f.tw n s (l0 G),n0:=f.n0,df:=f.df,dw:=f.dw }
 ·rw[if_neg (by rw[W];simp)];obtain⟨g,l,J,R,L⟩:=iw (v:=undef) q Z rfl (by simp[SV.below]);refine⟨fun _=>k9 D,?_⟩;have:=ih g ρ _ w l J;rw[j0 R L,j]at this;exact this
theorem Ea(hΘ:Θ.Ok P)(b:List Oper){i:Nat}{o:Oper}{c:Array Bool}{n:Nat}{p:Pn}{d:St}{ρ:Rho}{a:Act}{w:World}(Y:b[i]? =some o)(W:eS .any b.toArray i=true)
  (ih:∀(d:St) (ρ:Rho) (a:Act) (w:World),splan P Θ ids b Q p d->Den C ρ d a w->∀S,wpAnyL P .any b.toArray (Up C (Qr b Q)) S n (c.setIfInBounds i true) a w)
  (A:gg b o.guard d (fun d=>sop P Θ d.t o.op d.h d.nx (fun v h nx=>setd o.dst v { d with h:=h,nx:=nx } fun l=>splan P Θ ids b Q p l) (fun v h nx=>Q (.panic v) { d with t:=delT (dsts b) d.t,h:=h,nx:=nx }))
    (fun d=>setd o.dst (.tup []) d fun l=>splan P Θ ids b Q p l))(D:Den C ρ d a w)(S:World->Prop):
  wpOp P b.toArray (Up C (Qr b Q)) i (fun E q=>(eS .any b.toArray i=false->S q)/\wpAnyL P .any b.toArray (Up C (Qr b Q)) S n (c.setIfInBounds i true) E q) a w:=by
 have I:b.toArray[i]? =some o:=by simpa using Y
 obtain⟨aa,M,e1,e2,g⟩:=nU A D;have u:eS .any b.toArray i=false->∀q,S q:=fun h=>absurd (W.symm.trans h) ss
 unfold wpOp;simp only[I];rcases g with⟨J,y⟩ | ⟨J,k⟩
 ·rw[if_pos J];left;have:=lJ hΘ y M;refine lK this ?_ ?_
  ·rintro E q ⟨v,sv,T,K,L,rfl,V,x,G,f,U,X⟩;obtain⟨m,j,B,O,R⟩:=iw V f x G;exact⟨fun h=>u h _,ih m L _ q j B S⟩
  ·rintro e E q ⟨v,T,K,L,rfl,Z,f⟩;refine⟨.panic v,_,L,⟨⟨_,rfl⟩,Z⟩,rfl,?_⟩;exact{ sat:=f.sat,nt:=f.nt,tm:=fun n s A=>f.tm n s (l0 A),tw:=fun n s A=>f.tw n s (l0 A),n0:=f.n0,df:=f.df,dw:=f.dw }
 ·rw[if_neg (by rw[J];simp)];obtain⟨m,j,B,O,R⟩:=iw (v:=undef) k M rfl (by simp[SV.below]);exact⟨fun h=>u h _,ih m ρ _ w j B S⟩
theorem jP(hΘ:Θ.Ok P)(f:List Oper)(k:Region.noSelect f.toArray=true):∀(u:Pn) (b:Bool) (n:Nat) (e:Array Bool) (h:St) (ρ:Rho) (a:Act) (w:World),dR f.toArray b u n e=true->
  splan P Θ ids f Q u h->Den C ρ h a w->
   (b=false->wpAnyL P .any f.toArray (Up C (Qr f Q)) (dx C ids h ρ) n e a w)/\
   (b=true->∀i∈u.heads,wpOp P f.toArray (Up C (Qr f Q)) i (fun T I=>(eS .any f.toArray i=false->dx C ids h ρ I)/\wpAnyL P .any f.toArray (Up C (Qr f Q)) (dx C ids h ρ) (n - 1) (e.setIfInBounds i true) T I) a w)
 |.done,b,n,e,h,ρ,a,w,g,hs,D=>by
  simp only[dR,qd,List.isEmpty_iff,qav]at g;exact⟨fun _=>tO g.2 ⟨.normal,h,ρ,hs,rfl,D⟩ _,fun _ i hi=>by simp[Pn.heads]at hi⟩
 |.nil,b,n,e,h,ρ,a,w,g,hs,D=>by
  simp only[dR]at g;exact⟨(fun x=>absurd (x.symm.trans g) ss),(fun _ i hi=>by simp[Pn.heads]at hi)⟩
 |.look i p,b,n,e,h,ρ,a,w,g,hs,D=>by
  cases n with
  |zero=>simp[dR]at g
  |succ n=>
  simp only[dR,qd,qav]at g;obtain⟨x,⟨hf,J⟩,g⟩:=g;refine⟨fun _=>?_,(fun y=>absurd (y.symm.trans x) ss)⟩;simp only[splan]at hs;split at hs
  ·exact hs.elim
  ·rename_i o s;rw[fG]at s;have L:f.toArray[i]? =some o:=by simpa using s
   obtain⟨ac,K,e1,e2,A⟩:=nU hs D;have l:dx C ids ac ρ=dx C ids h ρ:=j0 e1 e2;rcases A with⟨hw,O⟩ | ⟨hw,E⟩
   ·obtain⟨v,sv,hk,M,W,m⟩:=Eu hΘ O K;obtain⟨G,B,R,U,V⟩:=iw hk K M W;refine tP L k hf J (fun c a w=>xj fun d Z=>x9 s Z) (v:=v) (.inl ⟨hw,fun I hS=>m I (by rw[l];exact hS)⟩) (k9 D) ?_;have:=(jP hΘ f k p false n _ G ρ _ w g B R).1 rfl;rw[j0 U V,l]at this;exact this
   ·obtain⟨G,B,R,U,V⟩:=iw (v:=undef) E K rfl (by simp[SV.below]);refine tP L k hf J (fun c a w=>xj fun d Z=>x9 s Z) (v:=undef) (.inr ⟨hw,rfl⟩) (k9 D) ?_;have:=(jP hΘ f k p false n _ G ρ _ w g B R).1 rfl;rw[j0 U V,l]at this;exact this
 |.alt i p q,b,n,e,h,ρ,a,w,g,hs,D=>by
  cases n with
  |zero=>simp[dR]at g
  |succ n=>
  simp only[dR,qd,qah,beq_iff_eq]at g;obtain⟨⟨J,X⟩,Y⟩:=g
  have m:∀j∈(Pn.alt i p q).heads,wpOp P f.toArray (Up C (Qr f Q)) j (fun T I=>(eS .any f.toArray j=false->dx C ids h ρ I)/\wpAnyL P .any f.toArray (Up C (Qr f Q)) (dx C ids h ρ) n (e.setIfInBounds j true) T I) a w:=by
   simp only[splan]at hs;split at hs
   ·exact hs.elim
   ·rename_i o s;rw[fG]at s
    have ih:∀(h:St) (ρ:Rho) (a:Act) (w:World),splan P Θ ids f Q p h->Den C ρ h a w->wpAnyL P .any f.toArray (Up C (Qr f Q)) (dx C ids h ρ) n (e.setIfInBounds i true) a w:=
     fun h ρ a w h1 h2=>(jP hΘ f k p false n _ h ρ a w X h1 h2).1 rfl
    split at hs
    ·rename_i hq;have aa:q=.nil:=by cases q<;>simp_all[Pn.isNil]
     subst aa;intro j hj;simp only[Pn.heads,qs]at hj;subst hj;exact uL hΘ f s ih hs D
    ·intro j hj;simp only[Pn.heads,qh]at hj;rcases hj with rfl | hj
     ·exact uL hΘ f s ih hs.1 D
     ·exact(jP hΘ f k q true (n+1) e h ρ a w Y hs.2 D).2 rfl j hj
  refine⟨fun x=>?_,fun _=>m⟩;have ab:=J.resolve_left (by simp[x]);exact uB ab ss m
 |.last i p,b,n,e,h,ρ,a,w,g,hs,D=>by
  cases n with
  |zero=>simp[dR]at g
  |succ n=>
  simp only[dR,qd,qav,beq_iff_eq]at g;obtain⟨x,⟨hl,J⟩,g⟩:=g;refine⟨fun _=>?_,(fun y=>absurd (y.symm.trans x) ss)⟩;simp only[splan]at hs;split at hs
  ·exact hs.elim
  ·rename_i o s;rw[fG]at s
   have hp:p=.done:=by
    cases p with
    |done=>rfl
    |_=>exact absurd g.1 (by simp[Pn.isDone])
   subst hp;refine uB J ss fun j hj=>?_
   simp only[qs]at hj;subst hj;refine Ea hΘ f s hl ?_ hs D _;intro h ρ a w h1 K S;simp only[dR,qd,List.isEmpty_iff,qav]at g;exact tO g.2.2 ⟨.normal,h,ρ,h1,rfl,K⟩ _
theorem drawP(hΘ:Θ.Ok P)(n:P.follows .mixedOrders=true){id:Nat}{b:List Oper}{d:St}(c:Pn)(ids:List Nat)
  (h:(Region.noSelect b.toArray&&dR b.toArray false c b.length (Array.replicate b.length false))=true)
  (o:splan P Θ ids b Q c d):WP P (.region id b.toArray true) d Q:=by
 simp only[qd]at h;obtain⟨h1,m⟩:=h;unfold WP;intro C ρ a w D;have k:Den C ρ d a { w with drawn:=w.drawn+1 }:={ sat:=D.sat.drew,nt:=D.nt,tm:=D.tm,tw:=D.tw,n0:=D.n0,df:=D.df,dw:=D.dw }
 have:=(jP (C:=C) hΘ b h1 c false _ _ d ρ a _ m o k).1 rfl;refine wp_mono (DH (S:=dx C ids d ρ) n (by simpa using this)) ?_;rintro e q s ⟨j,g,p,f,rfl,l⟩;refine⟨j,g,p,?_,rfl,l⟩;cases j with
 |panic v=>exact f.2
 |normal=>exact f
 |ret=>exact f
 |exit i=>exact f
end
def jr:Nat->Nat->List Nat->List Nat
 |_,0,r=>r
 |a,n+1,r=>a::jr (a+1) n r
def junks:List Nat->List (Nat×SV)
 |[]=>[]
 |n::r=>(n,.junk)::junks r
def LI{X:Type}(a:St)(upd:X->List (Nat×SV))(jl:List Nat)(hup:X->List (Nat×Ent))(N:Nat)(x:X):St:=
 ⟨upd x::junks jl::a.t,hup x::a.h,N,a.n0,a.nt,a.d⟩
theorem aH{P:Program}{Θ:Tys}(hΘ:Θ.Ok P){a:St}{b:Code}{Q:SE->St->Prop}{X:Type}(upd:X->List (Nat×SV))(jl:List Nat)(hup:X->List (Nat×Ent))(N:Nat)(μ:X->Nat)(e:X)
  (f:WfH a.h a.nx->WfT a.t a.nx->Le a (LI a upd jl hup N e))
  (g:∀x,WfH a.h a.nx->WfT a.t a.nx->sx P Θ b (LI a upd jl hup N x) (LQ (LI a upd jl hup N) μ x Q)):WP P (.loop b) a Q:=
 Cv (LI a upd jl hup N) μ e fun c d=>⟨f c d,fun x=>ec hΘ _ _ _ (g x c d)⟩
theorem bT_of{n:Nat}:∀{l:List (Nat×SV)},(l.all fun p=>p.2.bB n)=true->bT n l
 |[],_=>trivial
 |(i,v)::r,h=>by
  simp only[qb4,qd]at h;exact⟨SV.bB_ok h.1,bT_of h.2⟩
def ck0(upd jl:List (Nat×SV))(n0 nt N:Nat):Bool:=
 (jl.all fun p=>fm p.2&&Nat.ble (p.1+1) nt)&&(upd.all fun p=>Nat.ble (p.1+1) nt)&&Nat.ble n0 N&&(upd.all fun p=>p.2.bB N)&&Nat.ble 1 N
theorem chk0(F:Fz)(N:Nat)(h:1<=N):chkS [] [(0,.frz F)] N N=true:=by
 have h1:Nat.ble (0+1) N=true:=qbb h;simp[chkS,kH,h1,Ent.isFz,at0,aget]
theorem le0{upd jl:List (Nat×SV)}{H:Hp}{n0 nt N:Nat}{F F1:Fz}(j:WfH H N)(k:WfT T N)(i:lget H 0=some (.frz F1))(a:Fz.le F F1)
  (b:ck0 upd jl n0 nt N=true)(l:leT [] T upd):Le ⟨T,H,N,n0,nt,[]⟩ ⟨upd::jl::T,[(0,.frz F)]::H,N,n0,nt,[]⟩:=by
 simp only[ck0,qd]at b;obtain⟨⟨⟨⟨c,d⟩,e⟩,f⟩,g⟩:=b;exact pY N [] j k (qbb (qi _)) e (fun _ h=>nomatch h) c d (chk0 F N (nb g)) (bT_of f) ⟨tv,tv⟩ l ⟨by simp only[entE,aget,Ent.ren];rw[i];exact a,tv⟩
def ckR(b upd jl:List (Nat×SV))(a:List (Nat×Ent))(n0 nt N:Nat):Bool:=
 ck0 upd jl n0 nt N&&(b.all fun p=>(aget upd p.1).isSome||(aget jl p.1).isSome)&&(a.all fun p=>Nat.beq p.1 0||Nat.ble N p.1)
theorem lr0{b upd jl:List (Nat×SV)}{H:Hp}{a:List (Nat×Ent)}{nx1 n0 nt N:Nat}{F F1:Fz}(n:WfH H N)(o:WfT T N)(m:lget (a::H) 0=some (.frz F1))(c:Fz.le F F1)
  (d:ckR b upd jl a n0 nt N=true)(s:leT [] (b::jl::T) upd):Le ⟨b::jl::T,a::H,nx1,n0,nt,[]⟩ ⟨upd::jl::T,[(0,.frz F)]::H,N,n0,nt,[]⟩:=by
 simp only[ckR,ck0,qd]at d;obtain⟨⟨⟨⟨⟨⟨e,f⟩,g⟩,i⟩,j⟩,k⟩,l⟩:=d;refine pb N N [] n o (qbb (qi _)) g (fun _ h=>nomatch h) e f k ?_ (chk0 F N (nb j)) (bT_of i) ⟨tv,tv⟩ s ⟨by simp only[entE,aget,Ent.ren];rw[m];exact c,tv⟩;refine qp.2 fun p q=>?_
 have:=qp.1 l p q;simp only[qah]at this ⊢;rcases this with h | h
 ·left;rw[qm h];rfl
 ·exact .inr h
def fz{X:Type}(a:X->Fz):X->List (Nat×Ent):=fun x=>[(0,.frz (a x))]
end Sx
