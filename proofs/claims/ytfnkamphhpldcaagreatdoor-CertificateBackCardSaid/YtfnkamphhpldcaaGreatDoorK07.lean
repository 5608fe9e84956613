import Derived.Test.YtfnkamphhpldcaaGreatDoorK06
set_option maxHeartbeats 64000000
namespace Sx
open Go
def zeh:Nat → List SV → List (Nat × SV)
 |_,[]=>[]
 |n,s :: r=>(n,s) :: zeh (n + 1) r
def zly (Θ:Tys) (st:St) (r:ResultVar) (K:SC → Prop):Prop:=
 match r with
 |.tmp t=>(match lget st.t t with
  |some (.va (.lit b))=>K (.va (.bool b))
  |some (.va a)=>K (.va a)
  |some (.agg l)=>K (.agg l)
  |_=>False)
 |.cell p t=>(match lget st.t p with
  |some x=>ze6 Θ t x st.h st.nx fun v _ _=>(match v with
   |.va a=>K (.va a)
   |.agg l=>K (.agg l)
   |_=>False)
  |none=>False)
def sresL (Θ:Tys) (st:St):List ResultVar → (List SC → Prop) → Prop
 |[],K=>K []
 |r :: rs,K=>zly Θ st r fun c=>sresL Θ st rs fun l=>K (c :: l)
def sres (Θ:Tys) (st:St) (rs:List ResultVar) (K:SV → Prop):Prop:=
 sresL Θ st rs fun l=>(match l with
  |[c]=>K c.v
  |l=>K (.tup l))
section
variable {P:Program} {Θ:Tys} {C:Ctx} {ρ:Rho} {st:St} {a:Act} {w:World}
def zhh (tmps:Array Value) (r:ResultVar):Sem Value:=
 match r with
 |.tmp t=>pure (tmps.getD t undef)
 |.cell p t=>do loadVar t (← asAddr (tmps.getD p undef))
theorem zkt (P:Program) (w:World) (ad:Addr):(asAddr (.pointer (some ad))).run P w = .ok ad w:=rfl
theorem zme (hΘ:Θ.Ok P) {r:ResultVar} {K:SC → Prop} (hs:zly Θ st r K) (D:Den C ρ st a w) :
  ∃ c,K c ∧ c.below st.nx ∧ (zhh a.tmps r).run P w = .ok (c.den ρ) w:=by
 cases r with
 |tmp t=>
  simp only [zly] at hs
  split at hs
  ·rename_i x hl
   obtain ⟨v,hv,hr⟩:=D.tm _ _ hl
   simp only [SV.rel] at hr; subst hr
   exact ⟨_,hs,tv,by simp [hv,SC.den,SA.den,zhh]⟩
  ·rename_i x _ hl
   obtain ⟨v,hv,hr⟩:=D.tm _ _ hl
   simp only [SV.rel] at hr; subst hr
   exact ⟨_,hs,D.tw _ _ hl,by simp [hv,SC.den,zhh]⟩
  ·rename_i x hl
   obtain ⟨v,hv,hr⟩:=D.tm _ _ hl
   simp only [SV.rel] at hr; subst hr
   exact ⟨_,hs,D.tw _ _ hl,by simp [hv,SC.den,zhh]⟩
  ·exact hs.elim
 |cell p t=>
  simp only [zly] at hs
  split at hs
  ·rename_i x hl
   obtain ⟨v,hv,hr⟩:=D.tm _ _ hl
   have hp:∃ ad,v = .pointer (some ad):=by
    unfold ze6 at hs
    split at hs
    ·simp only [SV.rel,SA.den] at hr; exact ⟨_,hr⟩
    ·exact hs.elim
   obtain ⟨ad,rfl⟩:=hp
   obtain ⟨v',sv,k1,hr3,k3,k4⟩:=zgx (P:=P) hΘ hs D.sat hr
   have hld:(loadVar t ad).run P w = .ok v' w:=by simpa [Instr.loadAt,Instr.sureAddr] using k1
   cases sv with
   |va x=>simp only [SV.rel] at hr3; exact ⟨.va x,k4,k3,by simp [zhh,hv,zkt,hld,hr3,SC.den]⟩
   |agg l=>simp only [SV.rel] at hr3; exact ⟨.agg l,k4,k3,by simp [zhh,hv,zkt,hld,hr3,SC.den]⟩
   |tup l=>exact k4.elim
   |junk=>exact k4.elim
  ·exact hs.elim
theorem zja (hΘ:Θ.Ok P) (D:Den C ρ st a w):∀ {rs:List ResultVar} {K:List SC → Prop},sresL Θ st rs K →
  ∃ l,K l ∧ (∀ c ∈ l,c.below st.nx) ∧ (rs.mapM (fun r=>(zhh a.tmps r))).run P w = .ok (l.map (SC.den ρ)) w
 |[],K,hs=>⟨[],hs,by simp,rfl⟩
 |r :: rs,K,hs=>by
  obtain ⟨c,hc,hb,hrun⟩:=zme hΘ hs D
  obtain ⟨l,hl,hbl,hrl⟩:=zja hΘ D hc
  refine ⟨c :: l,hl,?_,?_⟩
  ·intro x hx
   rcases qj.1 hx with rfl | hx
   ·exact hb
   ·exact hbl x hx
  ·simp only [List.mapM_cons,Sem.run_bind,hrun,hrl,Result.andThen_ok,Sem.run_pure,qx]
theorem ze2 (hΘ:Θ.Ok P) {fn:Func} (D:Den C ρ st a w) {K:SV → Prop} (hs:sres Θ st fn.results.toList K) :
  ∃ v sv,(results fn a.tmps).run P w = .ok v w ∧ sv.rel ρ v ∧ sv.below st.nx ∧ K sv:=by
 obtain ⟨l,hk,hb,hrun⟩:=zja hΘ D hs
 have hm:(fn.results.mapM (fun r=>(zhh a.tmps r))).run P w = .ok (l.map (SC.den ρ)).toArray w:=by
  rw [qcg,Sem.run_map,hrun]; rfl
 have hres:(results fn a.tmps).run P w = .ok (if h:(l.map (SC.den ρ)).toArray.size = 1 then (l.map (SC.den ρ)).toArray[0] else .tuple (l.map (SC.den ρ)).toArray) w:=by
  have e:results fn a.tmps = (do
   let vs ← fn.results.mapM (fun r=>(zhh a.tmps r))
   pure (if h:vs.size = 1 then vs[0] else .tuple vs)):=by
   unfold results
   rfl
  rw [e,Sem.run_bind,hm,Result.andThen_ok,Sem.run_pure]
 match l,hk,hb,hres with
 |[],hk,hb,hres=>exact ⟨_,.tup [],hres,rfl,by simp [SV.below],hk⟩
 |[c],hk,hb,hres=>
  refine ⟨_,c.v,hres,?_,?_,hk⟩
  ·cases c<;>rfl
  ·have:=hb c (by simp); cases c<;>exact this
 |c :: c' :: r,hk,hb,hres=>
  refine ⟨_,.tup (c :: c' :: r),hres,?_,hb,hk⟩
  simp [SV.rel]
def endQ (Θ:Tys) (rs:List ResultVar) (K:Out → Hp → Nat → Prop):SE → St → Prop:=fun e st=>
 match e with
 |.normal=>(match st.d with
  |[]=>sres Θ st rs fun v=>K (.ret v) st.h st.nx
  |_ :: _=>False)
 |.ret=>(match st.d with
  |[]=>sres Θ st rs fun v=>K (.ret v) st.h st.nx
  |_ :: _=>False)
 |.panic v=>(match st.d with
  |[]=>K (.panic v) st.h st.nx
  |_ :: _=>False)
 |.exit _=>False
theorem zct {ρ:Rho} {nx:Nat}:∀ (args:List SV) (vs:List Value) (n m:Nat) (s:SV),relL ρ args vs → aget (zeh n args) m = some s → ∃ v,n ≤ m ∧ vs[m - n]? = some v ∧ s.rel ρ v ∧ s ∈ args
 |[],vs,n,m,s,_,h=>by simp [zeh,aget] at h
 |x :: r,[],n,m,s,h,_=>h.elim
 |x :: r,v :: vr,n,m,s,h,hg=>by
  simp only [zeh,aget] at hg
  split at hg
  ·rename_i hb
   have:=qg hb
   cases hg; subst this
   exact ⟨v,qf _,by simp,h.1,by simp⟩
  ·obtain ⟨u,h1,h2,h3,h4⟩:=zct (nx:=nx) r vr (n + 1) m s h.2 hg
   refine ⟨u,by omega,?_,h3,by simp [h4]⟩
   have:m - n = (m - (n + 1)) + 1:=by omega
   rw [this]; simpa using h2
theorem zhl {ρ:Rho}:∀ {a:List SV} {b:List Value},relL ρ a b → a.length = b.length
 |[],[],_=>rfl
 |[],v :: r,h=>h.elim
 |s :: r,[],h=>h.elim
 |s :: r,v :: vr,h=>by simp [zhl h.2]
theorem zg1 (hΘ:Θ.Ok P) {f:FuncId} {fn:Func} {c:Code} {args:List SV} {h:Hp} {nx:Nat} {K:Out → Hp → Nat → Prop} (hf:P.funcs[f]? = some fn) (hb:fn.body = some c) (hn:(fn.name == "runtime.NumGoroutine") = false)
  (nt:Nat) (rs:List ResultVar) (hnt:fn.ntmps = nt) (hrs:fn.results.toList = rs) (hl:Nat.ble args.length nt = true)
  (hx:WP P c ⟨[zeh 0 args],h,nx,nx,nt,[]⟩ (endQ Θ rs K)):za6 P f args h nx K:=by
 unfold za6
 intro C ρ w vs S hrel hbl
 refine ⟨enters_of hf hb hn,?_⟩
 unfold WP at hx
 let C1:Ctx:={ C with ρ0:=ρ,n0:=nx }
 have S1:Sat C1 ρ h nx w:={ S with anch:=fun _ _ _=>rfl,n0:=qf _,n1:=S.pos }
 have hlen:=zhl hrel
 have hle:=nb hl
 have D:Den C1 ρ ⟨[zeh 0 args],h,nx,nx,nt,[]⟩ { tmps:=vs.toArray ++ Array.replicate (fn.ntmps - vs.toArray.size) undef,defers:=[] } w:=by
  refine { sat:=S1,nt:=?_,tm:=?_,tw:=?_,n0:=rfl,df:=rfl,dw:=by simp }
  ·simp; omega
  ·intro n s hs
   simp only [lget] at hs
   split at hs
   ·rename_i v hv
    cases hs
    obtain ⟨u,_,h2,h3,_⟩:=zct (nx:=nx) args vs 0 n s hrel hv
    simp only [qak] at h2
    refine ⟨u,?_,h3⟩
    rw [qan (by simpa using (qh.1 h2).1)]
    simpa using h2
   ·simp at hs
  ·intro n s hs
   simp only [lget] at hs
   split at hs
   ·rename_i v hv
    cases hs
    obtain ⟨u,_,_,_,h4⟩:=zct (nx:=nx) args vs 0 n s hrel hv
    exact hbl s h4
   ·simp at hs
 refine calls_of_wp hf hb (wp_mono (hx C1 ρ _ w D) ?_)
 rintro e a' w' ⟨se,st',ρ',hq,rfl,D'⟩
 have back:Sat C ρ' st'.h st'.nx w':={ D'.sat with
  anch:=fun i hi k=>by rw [D'.sat.anch i (yp hi S.n0) k]; exact S.anch i hi k
  n0:=jk S.n0 D'.sat.n0
  n1:=S.n1 }
 have hag:∀ i,i < nx → ρ' i = ρ i:=fun i hi=>funext fun k=>D'.sat.anch i hi k
 have hle':nx ≤ st'.nx:=D'.sat.n0
 have ret:∀ (hd:st'.d = []) (hr:sres Θ st' rs fun v=>K (.ret v) st'.h st'.nx),a'.defers = [] ∧ ∃ v,(results fn a'.tmps).run P w' = .ok v w' ∧ ∃ out h' nx' ρ',K out h' nx' ∧ out.rel ρ' (.returned v) ∧ Sat C ρ' h' nx' w' ∧ (∀ i,i < nx → ρ' i = ρ i) ∧ nx ≤ nx' ∧ (match out with | .ret s=>s.below nx' | .panic _=>True):=by
  intro hd hr
  refine ⟨by rw [D'.df,hd]; rfl,?_⟩
  rw [← hrs] at hr
  obtain ⟨v,sv,r1,r2,r3,r4⟩:=ze2 hΘ D' hr
  exact ⟨v,r1,.ret sv,st'.h,st'.nx,ρ',r4,⟨v,rfl,r2⟩,back,hag,hle',r3⟩
 cases se with
 |normal=>
  simp only [endQ] at hq
  split at hq
  ·rename_i hd; exact ret hd hq
  ·exact hq.elim
 |ret=>
  simp only [endQ] at hq
  split at hq
  ·rename_i hd; exact ret hd hq
  ·exact hq.elim
 |exit id=>exact hq.elim
 |panic v=>
  simp only [endQ] at hq
  split at hq
  ·rename_i hd
   exact ⟨by rw [D'.df,hd]; rfl,.panic v,st'.h,st'.nx,ρ',hq,rfl,back,hag,hle',tv⟩
  ·exact hq.elim
theorem zj7 {f:FuncId} {args:List SV} {h:Hp} {nx:Nat} {K K':Out → Hp → Nat → Prop} (hc:za6 P f args h nx K) (hk:∀ o h n,K o h n → K' o h n):za6 P f args h nx K':=by
 unfold za6 at *
 intro C ρ w vs S hr hb
 obtain ⟨hen,hc⟩:=hc C ρ w vs S hr hb
 refine ⟨hen,hc.mono ?_⟩
 rintro e w' ⟨out,h',nx',ρ',k1,k2⟩
 exact ⟨out,h',nx',ρ',hk _ _ _ k1,k2⟩
end
inductive Tr where
 |leaf (l:List (Nat × TI))
 |node (n:Nat) (l r:Tr)
def Tr.get:Tr → Tys
 |.leaf l,t=>aget l t
 |.node n l r,t=>match Nat.ble t n with
  |true=>l.get t
  |false=>r.get t
def okL (P:Program):List (Nat × TI) → Prop
 |[]=>True
 |(t,i) :: r=>TI.ok P t i ∧ okL P r
def Tr.Okay (P:Program):Tr → Prop
 |.leaf l=>okL P l
 |.node _ l r=>l.Okay P ∧ r.Okay P
theorem zvm {P:Program}:∀ {l:List (Nat × TI)},okL P l → ∀ t i,aget l t = some i → TI.ok P t i
 |[],_,t,i,h=>by simp [aget] at h
 |(m,j) :: r,ho,t,i,h=>by
  simp only [aget] at h
  split at h
  ·rename_i hb
   have:=qg hb
   cases h; subst this; exact ho.1
  ·exact zvm ho.2 t i h
theorem Tr.ok {P:Program}:∀ (T:Tr),T.Okay P → Tys.Ok P T.get
 |.leaf l,h=>fun t i hi=>zvm h t i hi
 |.node n l r,h=>fun t i hi=>by
  simp only [Tr.get] at hi
  split at hi
  ·exact Tr.ok l h.1 t i hi
  ·exact Tr.ok r h.2 t i hi
def zp8:SA → Bool
 |.ptr _=>false
 |.slice nil ..=>nil
 |.fn _ cap=>cap.isEmpty
 |.iter _ _=>false
 |.map _ _=>false
 |_=>true
theorem z2m {l:List SA} (h:l.all zp8 = true):∀ a ∈ l,a.below 0:=by
 intro a ha
 have:=qo.1 h a ha
 cases a<;>simp_all [zp8,SA.below]
theorem z7v {i:TI} (h:(aggD i.d || Nat.beq i.size 1) = true):aggD i.d = false → i.size = 1:=by
 intro hd
 rw [hd] at h
 exact qg (by simpa using h)
def Out.ren (μ:Mu):Out → Out
 |.ret v=>.ret (v.ren μ)
 |.panic v=>.panic v
def Out.below (n:Nat):Out → Prop
 |.ret v=>v.below n
 |.panic _=>True
def distinct:List (Nat × Ent) → Bool
 |[]=>true
 |(i,_) :: r=>(aget r i).isNone && distinct r
def covers (l:List (Nat × Ent)):Nat → Bool
 |0=>true
 |n + 1=>(aget l n).isSome && covers l n
theorem zkd {l:List (Nat × Ent)} (hd:distinct l = true) {i:Nat} {e:Ent} (h:(i,e) ∈ l):aget l i = some e:=by
 induction l with
 |nil=>simp at h
 |cons p r ih=>
  obtain ⟨m,u⟩:=p
  simp only [distinct,qd] at hd
  rcases qj.1 h with h | h
  ·cases h; simp [aget]
  ·have:=ih hd.2 h
   simp only [aget]
   split
   ·rename_i hb
    have:=qg hb
    subst this
    rw [this] at hd; simp at hd
   ·exact this
theorem zgd {l:List (Nat × Ent)}:∀ {n:Nat},covers l n = true → ∀ i,i < n → ∃ e,aget l i = some e
 |0,_,i,h=>by omega
 |n + 1,hc,i,h=>by
  simp only [covers,qd] at hc
  by_cases hi:i = n
  ·subst hi; exact qw.1 hc.1
  ·exact zgd hc.2 i (by omega)
def resP (h:Hp):Mu:=fun i k=>
 match lget h i with
 |some (.lnk b)=>(0,b k)
 |_=>(i,k)
theorem zm7 {C:Ctx} {ρ:Rho} {h:Hp} {nx:Nat} {w:World} (S:Sat C ρ h nx w):(resP h).pull ρ = ρ:=by
 funext i k
 simp only [Mu.pull,resP]
 split
 ·rename_i b hl; rw [S.id0,S.lnk i b hl k]
 ·rfl
theorem Out.rel_ren (μ:Mu) (ρ:Rho) (o:Out) (e:Ending):(o.ren μ).rel ρ e ↔ o.rel (μ.pull ρ) e:=by
 cases o with
 |ret v=>
  simp only [Out.ren,Out.rel]
  exact ⟨fun ⟨x,h1,h2⟩=>⟨x,h1,(SV.rel_ren μ ρ v x).1 h2⟩,fun ⟨x,h1,h2⟩=>⟨x,h1,(SV.rel_ren μ ρ v x).2 h2⟩⟩
 |panic v=>exact Iff.rfl
def outE:Out → Out → Prop
 |.ret w,.ret a=>svE w a
 |w,a=>w = a
theorem zzr {ρ:Rho} {w a:Out} {e:Ending} (h:outE w a) (hr:a.rel ρ e):w.rel ρ e:=by
 unfold outE at h
 split at h
 ·obtain ⟨v,hv,hr⟩:=hr; exact ⟨v,hv,zqc h hr⟩
 ·subst h; exact hr
def wfl (h0:List (Nat × Ent)) (n n0:Nat):Bool:=distinct ((0,.gone) :: h0) && covers ((0,.gone) :: h0) n && Nat.ble n n0
@[irreducible] def Cln (n:Nat) (K0:Out → Fz → List (Nat × Ent) → Nat → Prop):Out → Hp → Nat → Prop:=fun out h nx=>
 ∀ C ρ w e,C.n0 = n → Sat C ρ h nx w → out.rel ρ e → out.below nx → ∃ out0 F0 h0 n0 ρ0,K0 out0 F0 h0 n0 ∧ out0.rel ρ0 e ∧ out0.below n0 ∧ Sat C ρ0 [(0,.frz F0) :: h0] n0 w ∧ wfl h0 n n0 = true
theorem clean {n:Nat} {K0:Out → Fz → List (Nat × Ent) → Nat → Prop} {out:Out} {h:Hp} {nx:Nat} (s:List (Nat × Mv)) (out0:Out) (F0:Fz) (h0:List (Nat × Ent)) (n0:Nat) (hk:K0 out0 F0 h0 n0) (ho:outE (out0.ren (sig s)) (out.ren (resP h)))
  (hc:chkS s ((0,.frz F0) :: h0) n n0 = true) (hd:wfl h0 n n0 = true) (hb:out0.below n0) (hbh:bH n0 h0) (hh:leH s h ((0,.frz F0) :: h0)):Cln n K0 out h nx:=by
 unfold Cln
 intro C ρ w e hn S hr hbl
 have hd':=hd
 simp only [wfl,qd] at hd'
 have hn0:=nb hd'.2
 have S':=zqh S hc (by omega) hn0 (show bH n0 ((0,.frz F0) :: h0) from ⟨tv,hbh⟩) hh (fun i hi=>by
  have:=zgd hd'.1.2 i hi
  obtain ⟨x,hx⟩:=this
  simp only [aget] at hx ⊢
  split
  ·rfl
  ·rename_i hb'; rw [hb'] at hx; simp only at hx; rw [hx]; rfl)
 refine ⟨out0,F0,h0,n0,(sig s).pull ρ,hk,?_,hb,S',hd⟩
 refine (Out.rel_ren (sig s) ρ out0 e).1 (zzr ho ?_)
 refine (Out.rel_ren (resP h) ρ out e).2 ?_
 rw [zm7 S]; exact hr
def Ct (P:Program) (f:FuncId) (args:List SV) (F:Fz) (hp:List (Nat × Ent)) (n:Nat) (K0:Out → Fz → List (Nat × Ent) → Nat → Prop):Prop:=
 za6 P f args [(0,.frz F) :: hp] n (Cln n (fun o F0 h0 n0=>Fz.le F F0 ∧ K0 o F0 h0 n0))
def isTo:Mv → Bool
 |.to _=>true
 |_=>false
def tau (sl:List (Nat × Mv)) (n NX:Nat):Mu:=fun i k=>
 match Nat.ble n i with
 |true=>(NX + (i - n),k)
 |false=>sig sl i k
def zkg (H:Hp) (τ:Mu):List (Nat × Ent) → Hp
 |[]=>H
 |(i,e) :: r=>lput (zkg H τ r) (τ i 0).1 (e.ren τ)
def ze1 (μ:Mu):List SV → List SV
 |[]=>[]
 |s :: r=>s.ren μ :: ze1 μ r
def argsE:List SV → List SV → Prop
 |[],[]=>True
 |s0 :: r0,s :: r=>svE s0 s ∧ argsE r0 r
 |_,_=>False
theorem zny {ρ:Rho}:∀ {l0 l:List SV} {vs:List Value},argsE l0 l → relL ρ l vs → relL ρ l0 vs
 |[],[],vs,_,hr=>hr
 |s0 :: r0,s :: r,[],_,hr=>hr
 |s0 :: r0,s :: r,v :: vr,h,hr=>⟨zqc h.1 hr.1,zny h.2 hr.2⟩
 |[],_ :: _,_,h,_=>h.elim
 |_ :: _,[],_,h,_=>h.elim
def zj4 (NX:Nat) (sl:List (Nat × Mv)):List (Nat × Ent) → Bool
 |[]=>true
 |(i,_) :: r=>Nat.ble ((sig sl i 0).1 + 1) NX && zj4 NX sl r
def injOn (sl:List (Nat × Mv)):List (Nat × Ent) → Bool
 |[]=>true
 |(i,_) :: r=>(r.all fun q=>!(Nat.beq (sig sl i 0).1 (sig sl q.1 0).1)) && injOn sl r
def noFz:Ent → Bool
 |.frz _=>false
 |.lnk _=>false
 |_=>true
theorem zj3 {H:Hp} {τ:Mu}:∀ {l:List (Nat × Ent)} (j:Nat) (x:Ent),lget (zkg H τ l) j = some x → (∃ i e,(i,e) ∈ l ∧ (τ i 0).1 = j ∧ x = e.ren τ) ∨ ((∀ i e,(i,e) ∈ l → (τ i 0).1 ≠ j) ∧ lget H j = some x)
 |[],j,x,h=>.inr ⟨by simp,h⟩
 |(i,e) :: r,j,x,h=>by
  simp only [zkg] at h
  by_cases hj:j = (τ i 0).1
  ·subst hj
   rw [zaf] at h; cases h
   exact .inl ⟨i,e,by simp,rfl,rfl⟩
  ·rw [zad _ _ _ _ hj] at h
   rcases zj3 j x h with ⟨i',e',h1,h2,h3⟩ | ⟨h1,h2⟩
   ·exact .inl ⟨i',e',by simp [h1],h2,h3⟩
   ·refine .inr ⟨?_,h2⟩
    intro i' e' hm
    rcases qj.1 hm with hm | hm
    ·cases hm; exact fun he=>hj he.symm
    ·exact h1 i' e' hm
theorem SA.below_ren {τ:Mu} {n m:Nat} (h:∀ q k,q < n → (τ q k).1 < m) {a:SA} (ha:a.below n):(a.ren τ).below m:=by
 cases a<;>simp only [SA.ren,SA.below,Pl.ren] at *<;>first | exact h _ _ ha | exact ha.imp id (h _ _) | (intro p hp; obtain ⟨q,hq,rfl⟩:=q9.1 hp; exact h _ _ (ha q hq)) | trivial
theorem below_ren {τ:Mu} {n m:Nat} (h:∀ q k,q < n → (τ q k).1 < m) {b:SB} (hb:b.below n):(b.ren τ).below m:=by
 cases b with
 |cells t l=>
  intro a ha
  obtain ⟨x,hx,rfl⟩:=q9.1 ha
  exact SA.below_ren h (hb x hx)
 |arr t sz L room=>
  intro x hx a ha
  obtain ⟨y,hy,rfl⟩:=q9.1 hx
  obtain ⟨z,hz,rfl⟩:=q9.1 ha
  exact SA.below_ren h (hb y hy z hz)
 |obj o=>trivial
theorem SV.below_ren {τ:Mu} {n m:Nat} (h:∀ q k,q < n → (τ q k).1 < m) {v:SV} (hv:v.below n):(v.ren τ).below m:=by
 cases v with
 |va a=>exact SA.below_ren h hv
 |agg l=>
  intro a ha
  obtain ⟨x,hx,rfl⟩:=q9.1 ha
  exact SA.below_ren h (hv x hx)
 |tup l=>
  intro c hc
  obtain ⟨x,hx,rfl⟩:=q9.1 hc
  have:=hv x hx
  cases x with
  |va a=>exact SA.below_ren h this
  |agg l=>
   intro a ha
   obtain ⟨y,hy,rfl⟩:=q9.1 ha
   exact SA.below_ren h (this y hy)
 |junk=>trivial
theorem zl9 {μ:Mu} {ρ:Rho}:∀ {args:List SV} {vs:List Value},relL ρ (ze1 μ args) vs ↔ relL (μ.pull ρ) args vs
 |[],[]=>Iff.rfl
 |[],v :: r=>Iff.rfl
 |s :: r,[]=>Iff.rfl
 |s :: r,v :: vr=>by
  simp only [ze1,relL]
  rw [SV.rel_ren,zl9]
theorem zll {sl:List (Nat × Mv)}:∀ {l:List (Nat × Ent)},injOn sl l = true → ∀ p ∈ l,∀ q ∈ l,(sig sl p.1 0).1 = (sig sl q.1 0).1 → p.1 = q.1 ∨ p = q
 |[],_,p,hp,_,_,_=>by simp at hp
 |(i,e) :: r,h,p,hp,q,hq,heq=>by
  simp only [injOn,qd,qo] at h
  rcases qj.1 hp with rfl | hp'<;>rcases qj.1 hq with rfl | hq'
  ·exact .inl rfl
  ·have:=h.1 q hq'; simp only at heq; rw [heq] at this; simp at this
  ·have:=h.1 p hp'; simp only at heq; rw [heq] at this; simp at this
  ·exact zll h.2 p hp' q hq' heq
theorem zis {NX:Nat} {sl:List (Nat × Mv)}:∀ {l:List (Nat × Ent)},zj4 NX sl l = true → ∀ p ∈ l,(sig sl p.1 0).1 < NX
 |[],_,p,hp=>by simp at hp
 |(i,e) :: r,h,p,hp=>by
  simp only [zj4,qd] at h
  rcases qj.1 hp with rfl | hp
  ·exact nb h.1
  ·exact zis h.2 p hp
theorem zrh (l:List (Nat × Ent)) (i:Nat):lget [l] i = aget l i:=by
 simp only [lget]; cases aget l i<;>rfl
theorem z6w {sl:List (Nat × Mv)} (h:(sl.all fun p=>isTo p.2) = true) (i k:Nat):sig sl i k = ((sig sl i 0).1,k):=by
 unfold sig
 cases hs:aget sl i with
 |none=>rfl
 |some m=>
  have:=qo.1 h _ (zbd hs)
  cases m with
  |to j=>rfl
  |fn g tg=>cases this
def chkU (sl:List (Nat × Mv)) (hp:List (Nat × Ent)) (n NX:Nat):Bool:=
 (sl.all fun p=>isTo p.2) && zj4 NX sl hp && injOn sl ((0,.gone) :: hp) && Nat.beq (sig sl 0 0).1 0 && wfl hp n n && Nat.ble 1 n && (hp.all fun p=>Nat.ble (p.1 + 1) n && noFz p.2)
theorem use {P:Program} {f:FuncId} {args0 args:List SV} {F:Fz} {hp:List (Nat × Ent)} {n:Nat} {K0:Out → Fz → List (Nat × Ent) → Nat → Prop} {H:Hp} {NX:Nat} {K:Out → Hp → Nat → Prop}
  (hc:Ct P f args0 F hp n K0) (sl:List (Nat × Mv)) (hF:lget H 0 = some (.frz F)) (hargs:argsE (ze1 (sig sl) args0) (ze1 (resP H) args))
  (hchk:chkU sl hp n NX = true) (hb:bH n hp) (hba:∀ s ∈ args0,s.below n)
  (hh:leH sl H hp)
  (hk:∀ out0 F0 h0 n0,Fz.le F F0 → K0 out0 F0 h0 n0 → K (out0.ren (tau sl n NX)) (lput (zkg H (tau sl n NX) h0) 0 (.frz F0)) (NX + (n0 - n))):za6 P f args H NX K:=by
 unfold Ct za6 at hc
 unfold za6
 intro C ρ w vs S hrel hbl
 simp only [chkU,qd] at hchk
 obtain ⟨⟨⟨⟨⟨⟨c0,c1⟩,c2⟩,cz⟩,c5⟩,cn⟩,c4⟩:=hchk
 have c4:∀ p ∈ hp,p.1 < n ∧ noFz p.2 = true:=fun p hp'=>by
  have:=qo.1 c4 p hp'
  simp only [qd] at this
  exact ⟨nb this.1,this.2⟩
 simp only [wfl,qd] at c5
 obtain ⟨⟨c5d,c5c⟩,_⟩:=c5
 have hn1:1 ≤ n:=nb cn
 have hst:=z6w c0
 generalize hσ:(fun i=>(sig sl i 0).1) = σ at *
 have hsg:∀ i k,sig sl i k = (σ i,k):=fun i k=>by rw [hst,← hσ]
 have hσ0:σ 0 = 0:=by rw [← hσ]; exact qg cz
 have hpull:(sig sl).pull ρ = fun i=>ρ (σ i):=by funext i k; simp only [Mu.pull,hsg]
 have get1:∀ i,i ≠ 0 → lget [(0,Ent.frz F) :: hp] i = aget hp i:=by
  intro i hi
  rw [zrh]
  simp only [aget]
  split
  ·rename_i hb'; exact absurd (qg hb') hi
  ·rfl
 have get0:lget [(0,Ent.frz F) :: hp] 0 = some (.frz F):=rfl
 have in1:∀ i,i ≠ 0 → i < n → ∃ e,(i,e) ∈ hp:=by
  intro i h0 hi
  obtain ⟨e,he⟩:=zgd c5c i hi
  simp only [aget] at he
  split at he
  ·rename_i hb'; exact absurd (qg hb') h0
  ·exact ⟨e,zbd he⟩
 have hlt:∀ i,i < n → σ i < NX:=by
  intro i hi
  by_cases h0:i = 0
  ·subst h0; rw [hσ0]; exact S.pos
  ·obtain ⟨e,he⟩:=in1 i h0 hi
   have:=zis c1 _ he
   rw [← hσ]; exact this
 have hσinj:∀ i i',i < n → i' < n → σ i = σ i' → i = i':=by
  intro i i' hi hi' heq
  have mem:∀ i,i < n → ∃ e,(i,e) ∈ ((0,Ent.gone) :: hp):=by
   intro i hi
   by_cases h0:i = 0
   ·subst h0; exact ⟨.gone,by simp⟩
   ·obtain ⟨e,he⟩:=in1 i h0 hi; exact ⟨e,by simp [he]⟩
  obtain ⟨x,hx⟩:=mem i hi
  obtain ⟨y,hy⟩:=mem i' hi'
  rcases zll c2 _ hx _ hy (by rw [← hσ] at heq; exact heq) with h | h
  ·exact h
  ·cases h; rfl
 obtain ⟨Fs,hFs,hFb⟩:=S.fz
 rw [hF] at hFs; cases hFs
 let B':Nat → Prop:=fun b=>∃ i k,i ≠ 0 ∧ St.owns [(0,Ent.frz F) :: hp] i k ∧ b = ρ (σ i) k
 let C':Ctx:={ w0:=w,ρ0:=fun i=>ρ (σ i),n0:=n,B:=B',R:=fun b=>(F b).isSome = true }
 have own1:∀ i k,i ≠ 0 → St.owns [(0,Ent.frz F) :: hp] i k → St.owns H (σ i) k ∧ i < n ∧ σ i ≠ 0:=by
  rintro i k h0 ⟨e,he,hk'⟩
  rw [get1 i h0] at he
  have hm:=zbd he
  have hin:=(c4 _ hm).1
  refine ⟨?_,hin,fun hz=>h0 (hσinj i 0 hin (by omega) (by rw [hz,hσ0]))⟩
  rcases zee hh _ hm with hg | hg
  ·simp only at hg; subst hg; exact hk'.elim
  ·obtain ⟨e1,h5,h6,_⟩:=zmc hg k ((Ent.has_ren _ e k).2 hk')
   simp only [hsg] at h5 h6
   exact ⟨e1,h5,h6⟩
 have S':Sat C' (fun i=>ρ (σ i)) [(0,Ent.frz F) :: hp] n w:=by
  refine { lt:=?_,blk:=?_,wf:=?_,inj:=?_,anch:=fun _ _ _=>rfl,n0:=qf _,n1:=hn1,os:=rfl,tape:=rfl,output:=rfl,size:=qf _,fr:=fun _ _ _=>rfl,own:=?_,fz:=⟨F,get0,hFb⟩,id0:=fun k=>by show ρ (σ 0) k = k; rw [hσ0]; exact S.id0 k,only:=?_,lnk:=?_ }
  ·intro i e he
   by_cases h0:i = 0
   ·omega
   ·rw [get1 i h0] at he; exact (c4 _ (zbd he)).1
  ·intro i e he k hk'
   by_cases h0:i = 0
   ·subst h0
    rw [get0] at he; cases he
    obtain ⟨o,ho,hok⟩:=S.blk 0 _ hF k hk'
    refine ⟨o,by show w.heap[ρ (σ 0) k]? = _; rw [hσ0]; exact ho,?_⟩
    obtain ⟨B,hB⟩:=qw.1 hk'
    simp only [Ent.at,hB,ju] at hok ⊢
    exact SB.ok_congr (n := 1) (fun i hi => by have : i = 0 := by omega
                                               subst this; show ρ (σ 0) = ρ 0; rw [hσ0]) (hFb k B hB) hok
   ·rw [get1 i h0] at he
    have hm:=zbd he
    rcases zee hh _ hm with hg | hg
    ·simp only at hg; subst hg; exact hk'.elim
    ·obtain ⟨e1,h5,h6,h7,_⟩:=zmc hg k ((Ent.has_ren _ e k).2 hk')
     simp only [hsg] at h5 h6 h7
     obtain ⟨o,ho,hok⟩:=S.blk _ _ h5 k h6
     have hpl:e.plain = true:=by
      rcases Ent.has_cases hk' with h | ⟨F',rfl⟩
      ·exact h
      ·have:=(c4 _ hm).2; cases this
     rw [h7,Ent.at_ren _ e k hpl] at hok
     refine ⟨o,ho,?_⟩
     have:=(SB.ok_ren (sig sl) ρ _ o).1 hok
     rwa [hpull] at this
  ·intro i e he k hk'
   by_cases h0:i = 0
   ·subst h0
    rw [get0] at he; cases he
    obtain ⟨B,hB⟩:=qw.1 hk'
    simp only [Ent.at,hB,ju]
    exact SB.below_mono hn1 (hFb k B hB)
   ·rw [get1 i h0] at he
    have hm:=zbd he
    have hpl:e.plain = true:=by
     rcases Ent.has_cases hk' with h | ⟨F',rfl⟩
     ·exact h
     ·have:=(c4 _ hm).2; cases this
    exact Ent.below_at (zvp hb _ hm) k hk' hpl
  ·intro i k i' k' h1 h2 heq
   have up:∀ i k,St.owns [(0,Ent.frz F) :: hp] i k → St.owns H (σ i) k ∧ i < n:=by
    intro i k h
    by_cases h0:i = 0
    ·subst h0
     obtain ⟨e,he,hk'⟩:=h
     rw [get0] at he; cases he
     exact ⟨⟨_,by rw [hσ0]; exact hF,hk'⟩,by omega⟩
    ·have:=own1 i k h0 h; exact ⟨this.1,this.2.1⟩
   obtain ⟨e1,l1⟩:=up i k h1
   obtain ⟨e2,l2⟩:=up i' k' h2
   have hij:=S.inj _ _ _ _ e1 e2 heq
   exact ⟨hσinj i i' l1 l2 hij.1,hij.2⟩
  ·intro i k ho
   by_cases h0:i = 0
   ·subst h0
    obtain ⟨e,he,hk'⟩:=ho
    rw [get0] at he; cases he
    exact .inl ⟨rfl,hk'⟩
   ·exact .inr (.inl ⟨i,k,h0,ho,rfl⟩)
  ·intro i F' hF'
   by_cases h0:i = 0
   ·exact h0
   ·rw [get1 i h0] at hF'; have:=(c4 _ (zbd hF')).2; cases this
  ·intro i b hl
   by_cases h0:i = 0
   ·subst h0; rw [get0] at hl; cases hl
   ·rw [get1 i h0] at hl; have:=(c4 _ (zbd hl)).2; cases this
 have hrel:relL ρ (ze1 (resP H) args) vs:=zl9.2 (by rw [zm7 S]; exact hrel)
 have hrel:=zl9.1 (zny hargs hrel)
 rw [hpull] at hrel
 obtain ⟨hen,hc⟩:=hc C' (fun i=>ρ (σ i)) w vs S' hrel hba
 refine ⟨hen,hc.mono ?_⟩
 rintro e w' ⟨out,h1,n1,ρ1,hcl,hor,S1,hag,hle1,hbo⟩
 unfold Cln at hcl
 obtain ⟨out0,F0,h0,n0,ρ2,⟨hle,k0⟩,hor,hbo,S2,hwf⟩:=hcl C' ρ1 w' e rfl S1 hor (by cases out<;>first | exact hbo | trivial)
 simp only [wfl,qd] at hwf
 obtain ⟨⟨k2a,k2b⟩,k2c⟩:=hwf
 have hn0:=nb k2c
 have k2a':=k2a
 simp only [distinct,qd] at k2a'
 have hnz:∀ i e,(i,e) ∈ h0 → i ≠ 0:=by
  rintro i e hm rfl
  have:=zkd k2a'.2 hm
  rw [this] at k2a'; cases k2a'.1
 have getR:∀ i,i ≠ 0 → lget [(0,Ent.frz F0) :: h0] i = aget h0 i:=by
  intro i hi
  rw [zrh]
  simp only [aget]
  split
  ·rename_i hb'; exact absurd (qg hb') hi
  ·rfl
 have getR0:lget [(0,Ent.frz F0) :: h0] 0 = some (.frz F0):=rfl
 obtain ⟨Fs,hFs,hF0b⟩:=S2.fz
 rw [getR0] at hFs; cases hFs
 generalize hτ:tau sl n NX = τ
 have hτlt:∀ i k,i < n → τ i k = (σ i,k):=by
  intro i k hi; rw [← hτ]; unfold tau
  have:Nat.ble n i = false:=by
   cases hb:Nat.ble n i with
   |false=>rfl
   |true=>have:=nb hb; omega
  rw [this]; exact hsg i k
 have hτge:∀ i k,n ≤ i → τ i k = (NX + (i - n),k):=by
  intro i k hi; rw [← hτ]; unfold tau
  rw [qap hi]
 have hτk:∀ i k,τ i k = ((τ i 0).1,k):=by
  intro i k
  by_cases hi:i < n
  ·rw [hτlt i k hi,hτlt i 0 hi]
  ·rw [hτge i k (by omega),hτge i 0 (by omega)]
 let ρ3:Rho:=fun i=>if i < NX then ρ i else ρ2 (i - NX + n)
 have hρ2:∀ i,i < n → ρ2 i = ρ (σ i):=fun i hi=>funext fun k=>S2.anch i hi k
 have hρ3old:∀ i,i < NX → ρ3 i = ρ i:=fun i hi=>by simp [ρ3,hi]
 have hρ3:∀ i,ρ3 (τ i 0).1 = ρ2 i:=by
  intro i
  by_cases hi:i < n
  ·rw [hτlt i 0 hi,hρ3old _ (hlt i hi),hρ2 i hi]
  ·have hi':n ≤ i:=by omega
   rw [hτge i 0 hi']
   have:¬ (NX + (i - n) < NX):=by omega
   have e:NX + (i - n) - NX + n = i:=by omega
   simp only [ρ3,this,if_false,e]
 have hpull3:τ.pull ρ3 = ρ2:=by funext i k; simp only [Mu.pull]; rw [hτk i k]; exact congrFun (hρ3 i) k
 have h30:∀ k,ρ3 0 k = k:=fun k=>by rw [hρ3old 0 S.pos]; exact S.id0 k
 have hτinj:∀ i i',(τ i 0).1 = (τ i' 0).1 → i = i':=by
  intro i i' heq
  by_cases hi:i < n<;>by_cases hi':i' < n
  ·rw [hτlt i 0 hi,hτlt i' 0 hi'] at heq
   exact hσinj i i' hi hi' heq
  ·rw [hτlt i 0 hi,hτge i' 0 (by omega)] at heq; have:=hlt i hi; simp only at heq; omega
  ·rw [hτlt i' 0 hi',hτge i 0 (by omega)] at heq; have:=hlt i' hi'; simp only at heq; omega
  ·rw [hτge i 0 (by omega),hτge i' 0 (by omega)] at heq; simp only at heq; omega
 have hτ0:∀ i,i ≠ 0 → (τ i 0).1 ≠ 0:=by
  intro i hi heq
  apply hi
  apply hτinj i 0
  rw [heq,hτlt 0 0 (by omega)]; exact hσ0.symm
 have sub:∀ i e,(i,e) ∈ h0 → lget [(0,Ent.frz F0) :: h0] i = some e:=fun i e hm=>by rw [getR i (hnz i e hm)]; exact zkd k2a'.2 hm
 have hlt0:∀ i e,(i,e) ∈ h0 → i < n0:=fun i e hm=>S2.lt i e (sub i e hm)
 have inR:∀ i,i ≠ 0 → i < n → ∃ e,(i,e) ∈ h0:=by
  intro i h0' hi
  obtain ⟨e,he⟩:=zgd k2b i hi
  simp only [aget] at he
  split at he
  ·rename_i hb'; exact absurd (qg hb') h0'
  ·exact ⟨e,zbd he⟩
 -- an old family that is not among the small heap's
 have oldne:∀ j,(∀ i e,(i,e) ∈ h0 → (τ i 0).1 ≠ j) → ∀ i,i ≠ 0 → i < n → σ i ≠ j:=by
  intro j hj i h0' hi
  obtain ⟨e,he⟩:=inR i h0' hi
  have:=hj i e he
  rwa [hτlt i 0 hi] at this
 have oldblk:∀ j k,St.owns H j k → (∀ i e,(i,e) ∈ h0 → (τ i 0).1 ≠ j) → ¬ B' (ρ j k):=by
  rintro j k hj hne ⟨i,k',hi0,ho,heq⟩
  obtain ⟨e1,e2,_⟩:=own1 i k' hi0 ho
  exact oldne j hne i hi0 e2 (S.inj _ _ _ _ hj e1 heq).1.symm
 have ownB:∀ b,B' b → C.B b ∨ C.w0.heap.size ≤ b:=by
  rintro b ⟨i,k,hi0,ho,rfl⟩
  obtain ⟨e1,e2,e3⟩:=own1 i k hi0 ho
  exact (S.own _ _ e1).resolve_left (fun h=>e3 h.1)
 have hsz:w.heap.size ≤ w'.heap.size:=S2.size
 have look:∀ j x,lget (lput (zkg H τ h0) 0 (.frz F0)) j = some x → (j = 0 ∧ x = .frz F0) ∨ (∃ i e,(i,e) ∈ h0 ∧ (τ i 0).1 = j ∧ x = e.ren τ) ∨ (j ≠ 0 ∧ (∀ i e,(i,e) ∈ h0 → (τ i 0).1 ≠ j) ∧ lget H j = some x):=by
  intro j x h
  by_cases hj:j = 0
  ·subst hj; rw [zaf] at h; cases h; exact .inl ⟨rfl,rfl⟩
  ·rw [zad _ _ _ _ hj] at h
   rcases zj3 j x h with h1 | ⟨h1,h2⟩
   ·exact .inr (.inl h1)
   ·exact .inr (.inr ⟨hj,h1,h2⟩)
 have ownsN:∀ j k,St.owns (lput (zkg H τ h0) 0 (.frz F0)) j k → (∃ i,(τ i 0).1 = j ∧ St.owns [(0,Ent.frz F0) :: h0] i k) ∨ (j ≠ 0 ∧ (∀ i e,(i,e) ∈ h0 → (τ i 0).1 ≠ j) ∧ St.owns H j k):=by
  rintro j k ⟨x,hx,hk'⟩
  rcases look j x hx with ⟨rfl,rfl⟩ | ⟨i,e,hm,h2,rfl⟩ | ⟨h0',h1,h2⟩
  ·exact .inl ⟨0,by rw [hτlt 0 0 (by omega)]; exact hσ0,_,getR0,hk'⟩
  ·exact .inl ⟨i,h2,⟨e,sub i e hm,(Ent.has_ren τ e k).1 hk'⟩⟩
  ·exact .inr ⟨h0',h1,x,h2,hk'⟩
 have jlt:∀ j k,St.owns H j k → j < NX:=fun j k ⟨x,hx,_⟩=>S.lt j x hx
 have hτb:∀ q k,q < n0 → (τ q k).1 < NX + (n0 - n):=by
  intro q k hq
  by_cases hqn:q < n
  ·rw [hτlt q k hqn]; have:=hlt q hqn; show σ q < _; omega
  ·rw [hτge q k (by omega)]; show NX + (q - n) < _; omega
 have mix:∀ i k j k',St.owns [(0,Ent.frz F0) :: h0] i k → j ≠ 0 → (∀ i e,(i,e) ∈ h0 → (τ i 0).1 ≠ j) → St.owns H j k' → ρ2 i k = ρ j k' → False:=by
  intro i k j k' hi hj0 h1' h2' heq
  rcases S2.own i k hi with hR | hB | hB
  ·obtain ⟨hi0,hR⟩:=hR
   subst hi0
   rw [S2.id0] at heq
   have hz:St.owns H 0 k:=⟨_,hF,hR⟩
   have:=S.inj _ _ _ _ hz h2' (by rw [S.id0]; exact heq)
   exact hj0 this.1.symm
  ·exact (oldblk j k' h2' h1') (by rw [← heq]; exact hB)
  ·have:=S.blt h2'; rw [← heq] at this; exact absurd this (Nat.not_lt.2 hB)
 refine ⟨out0.ren τ,lput (zkg H τ h0) 0 (.frz F0),NX + (n0 - n),ρ3,by rw [← hτ]; exact hk out0 F0 h0 n0 hle k0,?_,?_,fun i hi=>hρ3old i hi,by omega,?_⟩
 ·refine (Out.rel_ren τ ρ3 out0 e).2 ?_
  rw [hpull3]; exact hor
 ·refine { lt:=?_,blk:=?_,wf:=?_,inj:=?_,anch:=?_,n0:=jk S.n0 (by omega),n1:=S.n1,os:=S2.os.trans S.os,tape:=S2.tape.trans S.tape,output:=S2.output.trans S.output,size:=jk S.size hsz,fr:=?_,own:=?_,fz:=⟨F0,zaf _ _ _,hF0b⟩,id0:=h30,only:=?_,lnk:=?_ }
  ·intro j x hx
   rcases look j x hx with ⟨rfl,rfl⟩ | ⟨i,e,hm,rfl,rfl⟩ | ⟨_,_,h2⟩
   ·have:=S.pos; omega
   ·exact hτb i 0 (hlt0 i e hm)
   ·have:=S.lt j x h2; omega
  ·intro j x hx k hk'
   rcases look j x hx with ⟨rfl,rfl⟩ | ⟨i,e,hm,rfl,rfl⟩ | ⟨hj0,h1,h2⟩
   ·obtain ⟨o,ho,hok⟩:=S2.blk 0 _ getR0 k hk'
    refine ⟨o,by rw [h30]; rw [S2.id0] at ho; exact ho,?_⟩
    obtain ⟨B,hB⟩:=qw.1 hk'
    simp only [Ent.at,hB,ju] at hok ⊢
    refine SB.ok_congr (n:=1) (fun i hi=>?_) (hF0b k B hB) hok
    have:i = 0:=by omega
    subst this; funext k; rw [h30,S2.id0]
   ·have hek:=(Ent.has_ren τ e k).1 hk'
    obtain ⟨o,ho,hok⟩:=S2.blk i e (sub i e hm) k hek
    have hpl:e.plain = true:=by
     rcases Ent.has_cases hek with h | ⟨F',rfl⟩
     ·exact h
     ·exact absurd (S2.only i F' (sub i _ hm)) (hnz i _ hm)
    refine ⟨o,?_,?_⟩
    ·rw [hρ3 i]; exact ho
    ·rw [Ent.at_ren τ e k hpl]
     refine (SB.ok_ren τ ρ3 _ o).2 ?_
     rw [hpull3]; exact hok
   ·obtain ⟨o,ho,hok⟩:=S.blk j x h2 k hk'
    have hjlt:=S.lt j x h2
    refine ⟨o,?_,SB.ok_congr (n:=NX) hρ3old (S.wf j x h2 k hk') hok⟩
    rw [hρ3old j hjlt]
    have hfr:=S2.fr (ρ j k) (qz.1 ho).1 (oldblk j k ⟨x,h2,hk'⟩ h1)
    rw [hfr]; exact ho
  ·intro j x hx k hk'
   rcases look j x hx with ⟨rfl,rfl⟩ | ⟨i,e,hm,rfl,rfl⟩ | ⟨hj0,h1,h2⟩
   ·obtain ⟨B,hB⟩:=qw.1 hk'
    simp only [Ent.at,hB,ju]
    exact SB.below_mono (by have:=S.pos; omega) (hF0b k B hB)
   ·have hek:=(Ent.has_ren τ e k).1 hk'
    have hpl:e.plain = true:=by
     rcases Ent.has_cases hek with h | ⟨F',rfl⟩
     ·exact h
     ·exact absurd (S2.only i F' (sub i _ hm)) (hnz i _ hm)
    rw [Ent.at_ren τ e k hpl]
    exact below_ren hτb (S2.wf i e (sub i e hm) k hek)
   ·exact SB.below_mono (by omega) (S.wf j x h2 k hk')
  ·intro j k j' k' ho ho' heq
   rcases ownsN j k ho with ⟨i,rfl,hi⟩ | ⟨hj0,h1,h2⟩<;>rcases ownsN j' k' ho' with ⟨i',rfl,hi'⟩ | ⟨hj0',h1',h2'⟩
   ·rw [hρ3 i,hρ3 i'] at heq
    have h:=S2.inj _ _ _ _ hi hi' heq
    exact ⟨by rw [h.1],h.2⟩
   ·rw [hρ3 i,hρ3old j' (jlt j' k' h2')] at heq
    exact (mix i k j' k' hi hj0' h1' h2' heq).elim
   ·rw [hρ3 i',hρ3old j (jlt j k h2)] at heq
    exact (mix i' k' j k hi' hj0 h1 h2 heq.symm).elim
   ·rw [hρ3old j (jlt j k h2),hρ3old j' (jlt j' k' h2')] at heq
    exact S.inj _ _ _ _ h2 h2' heq
  ·intro i hi k
   have:=S.n0
   rw [hρ3old i (by omega)]; exact S.anch i hi k
  ·intro b hb' hB
   have h1:b < w.heap.size:=yp hb' S.size
   have h2:¬ B' b:=fun hb2=>by
    rcases ownB b hb2 with h | h
    ·exact hB h
    ·omega
   rw [S2.fr b h1 h2]; exact S.fr b hb' hB
  ·intro j k ho
   rcases ownsN j k ho with ⟨i,rfl,hi⟩ | ⟨hj0,h1,h2⟩
   ·rw [hρ3 i]
    rcases S2.own i k hi with hR | hB | hB
    ·obtain ⟨hi0,hR⟩:=hR
     subst hi0
     have hz:St.owns H 0 k:=⟨_,hF,hR⟩
     have:=S.own 0 k hz
     rw [S.id0] at this
     rw [S2.id0,hτlt 0 0 (by omega)]
     exact this.imp (fun h=>⟨hσ0,h.2⟩) id
    ·exact .inr (ownB _ hB)
    ·exact .inr (.inr (jk S.size hB))
   ·rw [hρ3old j (jlt j k h2)]; exact S.own j k h2
  ·intro j F' hF'
   rcases look j _ hF' with ⟨rfl,_⟩ | ⟨i,e,hm,rfl,he⟩ | ⟨hj0,h1,h2⟩
   ·rfl
   ·cases e<;>simp only [Ent.ren] at he<;>first | exact absurd (S2.only i _ (sub i _ hm)) (hnz i _ hm) | cases he
   ·exact S.only j F' h2
  ·intro j b hl k
   rcases look j _ hl with ⟨rfl,h⟩ | ⟨i,e,hm,rfl,he⟩ | ⟨hj0,h1,h2⟩
   ·cases h
   ·cases e<;>simp only [Ent.ren] at he<;>first | cases he | skip
    rw [hρ3 i]; exact S2.lnk i b (sub i _ hm) k
   ·rw [hρ3old j (S.lt j _ h2)]; exact S.lnk j b h2 k
 ·cases out0 with
  |ret v=>exact SV.below_ren hτb hbo
  |panic v=>trivial
end Sx
