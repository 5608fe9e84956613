import Derived.Test.YtfnkamphhpldcaaGreatDoorK24
import Derived.Test.YtfnkamphhpldcaaGreatDoorK30
set_option maxHeartbeats 64000000
namespace Sx
open Go Go.RowKit
section
variable {P:Program} {Θ:Tys} {C:Ctx} {ρ:Rho} {st:St} {a:Act} {w:World} {Q:SE->St->Prop}
theorem rR{x y:Code}(h:WP P x st fun e b=>(match e with
  |.normal=>WP P y b Q
  |.ret=>Q .ret b
  |.exit id=>Q (.exit id) b
  |.panic v=>Q (.panic v) b)):WP P (.seq x y) st Q:=by
 unfold WP at h ⊢;intro C ρ a w D;refine wp_seq (wp_mono (h C ρ a w D) ?_);rintro e g j ⟨i,b,f,d,rfl,c⟩;cases i with
 |normal=>exact d C f g j c
 |ret=>exact⟨.ret,b,f,d,rfl,c⟩
 |exit id=>exact⟨.exit id,b,f,d,rfl,c⟩
 |panic v=>exact⟨.panic v,b,f,d,rfl,c⟩
theorem Ez(hΘ:Θ.Ok P){id:Nat}{i j:Oper}{x:Operand}{ts:Array TypeId}(E:i.guard=none)(m:j.op=.defer ⟨.value x,#[],ts⟩)(G:j.guard=none)(l:j.dst=none)
  (h1:sop P Θ st.t i.op st.h st.nx (fun v h nx=>setd i.dst v { st with h:=h,nx:=nx } fun g=>∃f caps,ev g.t x=.va (.fn (.func f) caps)/\Q .normal { g with d:=(.clo f,caps.map SA.ptr)::g.d }) (fun v h nx=>Q (.panic v) { st with h:=h,nx:=nx })):
  WP P (.region id #[i,j] false) st Q:=by
 unfold WP;intro C ρ a w D;refine wp_region_list ?_;have J:Region.wanted i (yielded #[i,j] a.tmps)=true:=by simp[Region.wanted,E]
 show wpList P #[i,j] (Up C Q) [i,j] a w;unfold wpList;rw[if_pos J];left;refine lK (lJ hΘ h1 D) ?_ ?_
 ·rintro S R ⟨v,sv,V,O,k,rfl,X,Z,W,o,_,_⟩;obtain⟨g,⟨f,caps,B,I⟩,c⟩:=n9 X o Z W;have K:Region.wanted j (yielded #[i,j] (a.put i.dst v).tmps)=true:=by simp[Region.wanted,G]
  unfold wpList;rw[if_pos K];left;have L:=aT c x;rw[B]at L;have M:(a.put i.dst v).eval x=.func (.func f) #[] (caps.map fun p=>Value.pointer (some (p.addr k))).toArray:=L.1
  have n:(execOp (a.put i.dst v).eval j).run P R=.ok (.defer (defOf k (.clo f,caps.map SA.ptr))) R:=by
   obtain⟨T,op,type,pos,q,guard⟩:=j;simp only at m;subst m;have U:(caps.map SA.ptr).map (SA.den k)=caps.map fun p=>Value.pointer (some (p.addr k)):=by rw[jq];rfl
   simp[execOp,resolve,M,Deferred.ofValue,defOf,defV,U]
  simp only[Oper.wp,n,Oper.upon];refine⟨.normal,_,k,I,rfl,?_⟩;rw[l]
  have A:∀y∈(Dk.clo f,caps.map SA.ptr)::g.d,∀b∈y.2,b.below g.nx:=by
   intro y hy;rcases qh.1 hy with rfl | hy
   ·intro b s;obtain⟨p,Y,rfl⟩:=qz.1 s;exact L.2 p Y
   ·exact c.dw y hy
  have u:defOf k (Dk.clo f,caps.map SA.ptr)::(a.put i.dst v).defers=((Dk.clo f,caps.map SA.ptr)::g.d).map (defOf k):=by rw[c.df];rfl
  exact{ sat:=c.sat,nt:=c.nt,tm:=c.tm,tw:=c.tw,n0:=c.n0,df:=u,dw:=A }
 ·rintro e S R ⟨v,V,O,k,rfl,I,o⟩;exact⟨.panic v,_,k,I,rfl,o⟩
def endQK(P:Program)(Θ:Tys)(b:List ResultVar)(K:Out->Hp->Nat->Prop):SE->St->Prop:=fun e st=>
 match e with
 |.normal=>(match st.d with
  |(.clo f,asl)::r=>r=[]/\DefWP P f asl st.h st.nx none fun h nx=>sres Θ { st with h:=h,nx:=nx } b fun v=>K (.ret v) h nx
  |_=>False)
 |.ret=>(match st.d with
  |(.clo f,asl)::r=>r=[]/\DefWP P f asl st.h st.nx none fun h nx=>sres Θ { st with h:=h,nx:=nx } b fun v=>K (.ret v) h nx
  |_=>False)
 |.panic v=>(match st.d with
  |(.clo f,asl)::r=>r=[]/\DefWP P f asl st.h st.nx (some v) fun h nx=>sres Θ { st with h:=h,nx:=nx } b fun v=>K (.ret v) h nx
  |_=>False)
 |.exit _=>False
theorem ox(hΘ:Θ.Ok P){fn:Func}{st:St}{A:List ResultVar}(s:fn.results.toList=A){K:Out->Hp->Nat->Prop}{R:Ending->World->Prop}(m:Option Value){f:FuncId}{b:List SA}{r:List (Dk×List SA)}
  (S:st.d=(.clo f,b)::r)(U:r=[])(D:Den C ρ st a w)
  (y:DefWP P f b st.h st.nx m fun h nx=>sres Θ { st with h:=h,nx:=nx } A fun v=>K (.ret v) h nx)
  (M:∀v sv q c p o,K (.ret sv) q c->sv.rel p v->sv.below c->Sat C p q c o->(∀i,i < st.nx->p i=ρ i)->st.nx<=c->R (.returned v) o):
  Leaves P fn a.tmps R a.defers (kN m) w:=by
 have k:=D.df;have l:=D.dw;subst U;rw[S]at k l;rw[k];unfold DefWP at y;obtain⟨g,O⟩:=y C ρ w D.sat (l (.clo f,b) ss);unfold Enters at g;refine⟨by cases m<;>simp[kN],.func f,(b.map (SA.den ρ)).toArray,f,(b.map (SA.den ρ)).toArray,rfl,?_,?_⟩
 ·have G:(#[]:Array Value)++(b.map (SA.den ρ)).toArray=(b.map (SA.den ρ)).toArray:=by simp
  simp only[defOf,defV,invoke,G,g]
 ·refine O.mono ?_;rintro e u o ⟨v,q,c,p,rfl,V,T,x,j,n⟩;have E:=D.heap x j n;obtain⟨B,sv,h1,I,J,L⟩:=jM (fn:=fn) hΘ E (by rw[s];exact T);show Leaves P fn a.tmps R [] (settle u) o;rw[V];exact⟨B,h1,M B sv q c p o L I J x j n⟩
theorem Ay(hΘ:Θ.Ok P){f:FuncId}{fn:Func}{c:Code}{args:List SV}{h:Hp}{nx:Nat}{K:Out->Hp->Nat->Prop}(W:P.funcs[f]? =some fn)(V:fn.body=some c)(hn:(fn.name== "runtime.NumGoroutine")=false)
  (nt:Nat)(Z:List ResultVar)(ac:fn.ntmps=nt)(p:fn.results.toList=Z)(hl:Nat.ble args.length nt=true)
  (Y:WP P c ⟨[dV 0 args],h,nx,nx,nt,[]⟩ (endQK P Θ Z K)):za6 P f args h nx K:=by
 unfold za6;intro C ρ w vs S j R;refine⟨enters_of W V hn,?_⟩;unfold WP at Y
 let y:Ctx:={ C with ρ0:=ρ,n0:=nx }
 have S1:Sat y ρ h nx w:={ S with anch:=fun _ _ _=>rfl,n0:=qi _,n1:=S.pos }
 have X:=ki j;have ab:=nb hl
 have D:Den y ρ ⟨[dV 0 args],h,nx,nx,nt,[]⟩ { tmps:=vs.toArray++Array.replicate (fn.ntmps - vs.toArray.size) undef,defers:=[] } w:=by
  refine{ sat:=S1,nt:=?_,tm:=?_,tw:=?_,n0:=rfl,df:=rfl,dw:=by simp }
  ·simp;omega
  ·intro n s l;simp only[lget]at l;split at l
   ·rename_i v T;cases l
    obtain⟨u,_,g,h3,_⟩:=fs (nx:=nx) args vs 0 n s j T;simp only[qa5]at g;refine⟨u,?_,h3⟩;rw[qa8 (by simpa using(qg.1 g).1)];simpa using g
   ·simp at l
  ·intro n s l;simp only[lget]at l;split at l
   ·rename_i v T;cases l
    obtain⟨u,_,_,_,h4⟩:=fs (nx:=nx) args vs 0 n s j T;exact R s h4
   ·simp at l
 refine calls_of_wp_defers W V (wp_mono (Y y ρ _ w D) ?_);rintro e a' w' ⟨se,I,J,d,rfl,L⟩
 have B:∀{o:Rho} {g:Hp} {b:Nat} {x:World},Sat y o g b x->Sat C o g b x:=fun q=>{ q with
  anch:=fun i M k=>by rw[q.anch i (y4 M S.n0) k];exact S.anch i M k
  n0:=q8 S.n0 q.n0
  n1:=S.n1 }
 have fin:∀v sv g b o x,K (.ret sv) g b->sv.rel o v->sv.below b->Sat y o g b x->(∀i,i < I.nx->o i=J i)->I.nx<=b->
   ∃out U m J,K out U m/\out.rel J (Ending.returned v)/\Sat C J U m x/\(∀i,i < nx->J i=ρ i)/\nx<=m/\(match out with | .ret s=>s.below m | .panic _=>True):=by
  intro v sv g b o x hk hr O q aa G;exact⟨.ret sv,g,b,o,hk,⟨v,rfl,hr⟩,B q,fun i M=>funext fun k=>q.anch i M k,q8 L.sat.n0 G,O⟩
 cases se with
 |normal=>
  simp only[endQK]at d;split at d
  ·rename_i f2 A r E;exact ox hΘ p none E d.1 L d.2 fin
  ·exact d.elim
 |ret=>
  simp only[endQK]at d;split at d
  ·rename_i f2 A r E;exact ox hΘ p none E d.1 L d.2 fin
  ·exact d.elim
 |panic v=>
  simp only[endQK]at d;split at d
  ·rename_i f2 A r E;exact ox hΘ p (some v) E d.1 L d.2 fin
  ·exact d.elim
 |exit id=>exact d.elim
end
end Sx
namespace Sx
open Go
variable {P:Program} {C:Ctx} {ρ:Rho} {h:Hp} {nx:Nat} {w:World}
theorem Sat.swap(s:Sat C ρ h nx w){i:Nat}{b n:SB}(q:lget h i=some (.one b))(B:∀ρ o,b.ok ρ o->n.ok ρ o)(m:n.below nx):Sat C ρ (lput h i (.one n)) nx w:=by
 have A:=s.ne0 q rfl
 have g:∀j k,St.owns (lput h i (.one n)) j k->St.owns h j k:=by
  rintro j k ⟨x,f,l⟩;by_cases e:j=i
  ·subst e;rw[aR]at f;cases f;exact⟨_,q,l⟩
  ·rw[aM _ _ _ _ e]at f;exact⟨_,f,l⟩
 exact{ s with
  lt:=fun j x f=>by
   by_cases e:j=i
   ·subst e;exact s.lt _ _ q
   ·rw[aM _ _ _ _ e]at f;exact s.lt _ _ f
  blk:=fun j x f k l=>by
   by_cases e:j=i
   ·subst e;rw[aR]at f;cases f
    obtain⟨o,h1,y⟩:=s.blk _ _ q k l;exact⟨o,h1,B _ _ y⟩
   ·rw[aM _ _ _ _ e]at f;exact s.blk _ _ f k l
  wf:=fun j x f k l=>by
   by_cases e:j=i
   ·subst e;rw[aR]at f;cases f
    exact m
   ·rw[aM _ _ _ _ e]at f;exact s.wf _ _ f k l
  inj:=fun a b c d h1 y=>s.inj a b c d (g _ _ h1) (g _ _ y)
  own:=fun a b h1=>s.own a b (g _ _ h1)
  fz:=by rw[aM _ _ _ _ (Ne.symm A)];exact s.fz
  only:=fun j F p=>by
   by_cases e:j=i
   ·subst e;rw[aR]at p;cases p
   ·rw[aM _ _ _ _ e]at p;exact s.only _ _ p
  lnk:=fun j b u=>by
   by_cases e:j=i
   ·subst e;rw[aR]at u;cases u
   ·rw[aM _ _ _ _ e]at u;exact s.lnk _ _ u }
theorem swapC{f:FuncId}{args:List SV}{K:Out->Hp->Nat->Prop}(i:Nat){b:SB}(c:SB)(g:lget h i=some (.one b))(d:∀ρ o,b.ok ρ o->c.ok ρ o)(a:c.below nx)(j:za6 P f args (lput h i (.one c)) nx K):za6 P f args h nx K:=by
 unfold za6 at*;intro C ρ w vs S k e;exact j C ρ w vs (S.swap g d a) k e
theorem x7{t sz a:Nat}{L c:List (List SA)}(d:c.length=L.length)(h1:∀x∈c,x.length=sz)(i:∀ρ,c.flatten.map (SA.den ρ)=L.flatten.map (SA.den ρ))(ρ:Rho)(o:Obj)(h:(SB.arr t sz L a).ok ρ o):(SB.arr t sz c a).ok ρ o:=by
 obtain⟨j,e,b,f,g⟩:=h;exact⟨h1,by rw[d];exact e,b,by rw[d];exact f,by rw[i];exact g⟩
theorem Cy{f:FuncId}{args args':List SV}{K:Out->Hp->Nat->Prop}(d:∀ρ vs,relL ρ args vs->relL ρ args' vs)(b:∀n,(∀s∈args,s.below n)->∀s∈args',s.below n)(c:za6 P f args' h nx K):za6 P f args h nx K:=by
 unfold za6 at*;intro C ρ w vs S h1 a;exact c C ρ w vs S (d ρ vs h1) (b nx a)
theorem mN{n:Nat}{a:Out->Fz->List (Nat×Ent)->Nat->Prop}{out out':Out}(f:∀ρ e,out.rel ρ e->out'.rel ρ e)(b:out'.below nx)(c:Cln n a out' h nx):Cln n a out h nx:=by
 unfold Cln at*;intro C ρ w e d S h1 g;exact c C ρ w e d S (f ρ e h1) b
end Sx
namespace Go.Proofs.YtfnkamphhpldcaaGreatDoor
open Go Sx Tryz
set_option maxRecDepth 100000
def exD(t:List UInt8)(m:Int):Dc:=⟨[(t,m)],[],0,[]⟩
theorem gH(t:List UInt8)(m:Int):DcSmall (exD t m):=⟨by show 1<=1000;decide,by show 0<=1000;decide,by show 0<=70000;decide⟩
theorem exAt{F:Fz}{b:Nat}{t:List UInt8}{m:Int}(h:F b=some (.arr 148 2 ([(t,m)].map encN) 1)):DocAt F (.slice false 0 b 0 2 1 1) (.slice true 0 0 0 6 0 0) (exD t m):=
 ⟨false,b,0,1,true,0,0,0,rfl,rfl,Sl.new (l:=[(t,m)]) h,Sl.nil,qi _⟩
theorem fK(F:Fz)(t:List UInt8)(m:Int):
  Fo prog F 45 [.va (.str t),.va (.int .i64 m)] (fun o d=>∃b,o=.ret (.agg (docS (.slice false 0 b 0 2 1 1) (.slice true 0 0 0 6 0 0) 0 []))/\d b=some (.arr 148 2 ([(t,m)].map encN) 1)):=by
 refine foS func45 ?_;refine dZ 2 (fun _=>.arr 148 2 ([(t,m)].map encN) 1) ?_;intro b d c a;refine mN (out':=.ret (.agg (docS (.slice false 2 0 0 2 1 1) (.slice true 0 0 0 6 0 0) 0 []))) (fun _ _ h=>h) (Out.bB_ok rfl) ?_;exact endFs (.ret (.agg (docS (.slice false 0 (b 0) 0 2 1 1) (.slice true 0 0 0 6 0 0) 0 []))) c ⟨_,rfl,a 0 rfl⟩
