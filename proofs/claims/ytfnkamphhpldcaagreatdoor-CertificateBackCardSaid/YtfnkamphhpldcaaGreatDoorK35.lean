import Derived.Test.YtfnkamphhpldcaaGreatDoorK26
import Derived.Test.YtfnkamphhpldcaaGreatDoorK34
set_option maxHeartbeats 64000000
namespace Sx
open Go Go.RowKit
section
variable {P:Program} {Θ:Tys} {C:Ctx} {ρ:Rho} {st:St} {a:Act} {w:World} {Q:SE → St → Prop}
theorem z2l {x y:Code} (h:WP P x st fun e st'=>(match e with
  |.normal=>WP P y st' Q
  |.ret=>Q .ret st'
  |.exit id=>Q (.exit id) st'
  |.panic v=>Q (.panic v) st')):WP P (.seq x y) st Q:=by
 unfold WP at h ⊢
 intro C ρ a w D
 refine wp_seq (wp_mono (h C ρ a w D) ?_)
 rintro e a' w' ⟨se,st',ρ',hq,rfl,D'⟩
 cases se with
 |normal=>exact hq C ρ' a' w' D'
 |ret=>exact ⟨.ret,st',ρ',hq,rfl,D'⟩
 |exit id=>exact ⟨.exit id,st',ρ',hq,rfl,D'⟩
 |panic v=>exact ⟨.panic v,st',ρ',hq,rfl,D'⟩
theorem zvu (hΘ:Θ.Ok P) {id:Nat} {o1 o2:Oper} {x:Operand} {ts:Array TypeId} (hg1:o1.guard = none) (ho2:o2.op = .defer ⟨.value x,#[],ts⟩) (hg2:o2.guard = none) (hdst:o2.dst = none)
  (h1:sop P Θ st.t o1.op st.h st.nx (fun v h nx=>setd o1.dst v { st with h:=h,nx:=nx } fun st'=>∃ f caps,ev st'.t x = .va (.fn (.func f) caps) ∧ Q .normal { st' with d:=(.clo f,caps.map SA.ptr) :: st'.d }) (fun v h nx=>Q (.panic v) { st with h:=h,nx:=nx })) :
  WP P (.region id #[o1,o2] false) st Q:=by
 unfold WP
 intro C ρ a w D
 refine wp_region_list ?_
 have hw1:Region.wanted o1 (yielded #[o1,o2] a.tmps) = true:=by simp [Region.wanted,hg1]
 show wpList P #[o1,o2] (Up C Q) [o1,o2] a w
 unfold wpList
 rw [if_pos hw1]
 left
 refine zhc (zg7 hΘ h1 D) ?_ ?_
 ·rintro a' w' ⟨v,sv,h',nx',ρ',rfl,hk,hr,hb,D',_,_⟩
  obtain ⟨st',⟨f,caps,hev,hq⟩,D''⟩:=zid hk D' hr hb
  have hw2:Region.wanted o2 (yielded #[o1,o2] (a.put o1.dst v).tmps) = true:=by simp [Region.wanted,hg2]
  unfold wpList
  rw [if_pos hw2]
  left
  have hx:=zay D'' x
  rw [hev] at hx
  have hxv:(a.put o1.dst v).eval x = .func (.func f) #[] (caps.map fun p=>Value.pointer (some (p.addr ρ'))).toArray:=hx.1
  have hrun:(execOp (a.put o1.dst v).eval o2).run P w' = .ok (.defer (defOf ρ' (.clo f,caps.map SA.ptr))) w':=by
   obtain ⟨dst,op,type,pos,after,guard⟩:=o2
   simp only at ho2; subst ho2
   have e3:(caps.map SA.ptr).map (SA.den ρ') = caps.map fun p=>Value.pointer (some (p.addr ρ')):=by rw [yd]; rfl
   simp [execOp,resolve,hxv,Deferred.ofValue,defOf,defV,e3]
  simp only [Oper.wp,hrun,Oper.upon]
  refine ⟨.normal,_,ρ',hq,rfl,?_⟩
  rw [hdst]
  have hdw:∀ y ∈ (Dk.clo f,caps.map SA.ptr) :: st'.d,∀ b ∈ y.2,b.below st'.nx:=by
   intro y hy
   rcases qj.1 hy with rfl | hy
   ·intro b hb'
    obtain ⟨p,hp,rfl⟩:=q9.1 hb'
    exact hx.2 p hp
   ·exact D''.dw y hy
  have hdf:defOf ρ' (Dk.clo f,caps.map SA.ptr) :: (a.put o1.dst v).defers = ((Dk.clo f,caps.map SA.ptr) :: st'.d).map (defOf ρ'):=by rw [D''.df]; rfl
  exact { sat:=D''.sat,nt:=D''.nt,tm:=D''.tm,tw:=D''.tw,n0:=D''.n0,df:=hdf,dw:=hdw }
 ·rintro e a' w' ⟨v,h',nx',ρ',rfl,hq,D'⟩
  exact ⟨.panic v,_,ρ',hq,rfl,D'⟩
def endQK (P:Program) (Θ:Tys) (rs:List ResultVar) (K:Out → Hp → Nat → Prop):SE → St → Prop:=fun e st=>
 match e with
 |.normal=>(match st.d with
  |(.clo f,asl) :: r=>r = [] ∧ DefWP P f asl st.h st.nx none fun h nx=>sres Θ { st with h:=h,nx:=nx } rs fun v=>K (.ret v) h nx
  |_=>False)
 |.ret=>(match st.d with
  |(.clo f,asl) :: r=>r = [] ∧ DefWP P f asl st.h st.nx none fun h nx=>sres Θ { st with h:=h,nx:=nx } rs fun v=>K (.ret v) h nx
  |_=>False)
 |.panic _=>False
 |.exit _=>False
theorem zk9 (hΘ:Θ.Ok P) {fn:Func} {st:St} {rs:List ResultVar} (hrs:fn.results.toList = rs) {K:Out → Hp → Nat → Prop} {R:Ending → World → Prop} (m:Option Value) {f:FuncId} {asl:List SA} {r:List (Dk × List SA)}
  (hd:st.d = (.clo f,asl) :: r) (hr:r = []) (D:Den C ρ st a w)
  (hw:DefWP P f asl st.h st.nx m fun h nx=>sres Θ { st with h:=h,nx:=nx } rs fun v=>K (.ret v) h nx)
  (hR:∀ v sv h' nx' ρ' w',K (.ret sv) h' nx' → sv.rel ρ' v → sv.below nx' → Sat C ρ' h' nx' w' → (∀ i,i < st.nx → ρ' i = ρ i) → st.nx ≤ nx' → R (.returned v) w') :
  Leaves P fn a.tmps R a.defers (zni m) w:=by
 have hdf:=D.df
 have hdw:=D.dw
 subst hr
 rw [hd] at hdf hdw
 rw [hdf]
 unfold DefWP at hw
 obtain ⟨hent,hc⟩:=hw C ρ w D.sat (hdw (.clo f,asl) (by simp))
 unfold Enters at hent
 refine ⟨by cases m<;>simp [zni],.func f,(asl.map (SA.den ρ)).toArray,f,(asl.map (SA.den ρ)).toArray,rfl,?_,?_⟩
 ·have e1:(#[]:Array Value) ++ (asl.map (SA.den ρ)).toArray = (asl.map (SA.den ρ)).toArray:=by simp
  simp only [defOf,defV,invoke,e1,hent]
 ·refine hc.mono ?_
  rintro e u w' ⟨v,h',nx',ρ',rfl,hu,hk,S',hag,hle⟩
  have D':=D.heap S' hag hle
  obtain ⟨v',sv,h1,h2,h3,h4⟩:=ze2 (fn:=fn) hΘ D' (by rw [hrs]; exact hk)
  show Leaves P fn a.tmps R [] (settle u) w'
  rw [hu]
  exact ⟨v',h1,hR v' sv h' nx' ρ' w' h4 h2 h3 S' hag hle⟩
theorem z0u (hΘ:Θ.Ok P) {f:FuncId} {fn:Func} {c:Code} {args:List SV} {h:Hp} {nx:Nat} {K:Out → Hp → Nat → Prop} (hf:P.funcs[f]? = some fn) (hb:fn.body = some c) (hn:(fn.name == "runtime.NumGoroutine") = false)
  (nt:Nat) (rs:List ResultVar) (hnt:fn.ntmps = nt) (hrs:fn.results.toList = rs) (hl:Nat.ble args.length nt = true)
  (hx:WP P c ⟨[zeh 0 args],h,nx,nx,nt,[]⟩ (endQK P Θ rs K)):za6 P f args h nx K:=by
 unfold za6
 intro C ρ w vs S hrel hbl
 refine ⟨enters_of hf hb hn,?_⟩
 unfold WP at hx
 let C1:Ctx:={ C with ρ0:=ρ,n0:=nx }
 have S1:Sat C1 ρ h nx w:={ S with anch:=fun _ _ _=>rfl,n0:=qf _,n1:=S.pos }
 have hlen:=zhl hrel
 have hle:=nb hl
 have D:Den C1 ρ ⟨[zeh 0 args],h,nx,nx,nt,[]⟩ { tmps:=vs.toArray ++ Array.replicate (fn.ntmps - vs.toArray.size) undef,defers:=[] } w:=by
  refine { sat:=S1,nt:=?_,tm:=?_,tw:=?_,n0:=rfl,df:=rfl,dw:=by simp }
  ·simp; omega
  ·intro n s hs
   simp only [lget] at hs
   split at hs
   ·rename_i v hv
    cases hs
    obtain ⟨u,_,h2,h3,_⟩:=zct (nx:=nx) args vs 0 n s hrel hv
    simp only [qak] at h2
    refine ⟨u,?_,h3⟩
    rw [qan (by simpa using (qh.1 h2).1)]
    simpa using h2
   ·simp at hs
  ·intro n s hs
   simp only [lget] at hs
   split at hs
   ·rename_i v hv
    cases hs
    obtain ⟨u,_,_,_,h4⟩:=zct (nx:=nx) args vs 0 n s hrel hv
    exact hbl s h4
   ·simp at hs
 refine calls_of_wp_defers hf hb (wp_mono (hx C1 ρ _ w D) ?_)
 rintro e a' w' ⟨se,st',ρ',hq,rfl,D'⟩
 have back:∀ {ρ2:Rho} {h2:Hp} {nx2:Nat} {w2:World},Sat C1 ρ2 h2 nx2 w2 → Sat C ρ2 h2 nx2 w2:=fun S2=>{ S2 with
  anch:=fun i hi k=>by rw [S2.anch i (yp hi S.n0) k]; exact S.anch i hi k
  n0:=jk S.n0 S2.n0
  n1:=S.n1 }
 have fin:∀ v sv h2 nx2 ρ2 w2,K (.ret sv) h2 nx2 → sv.rel ρ2 v → sv.below nx2 → Sat C1 ρ2 h2 nx2 w2 → (∀ i,i < st'.nx → ρ2 i = ρ' i) → st'.nx ≤ nx2 →
   ∃ out h' nx' ρ',K out h' nx' ∧ out.rel ρ' (Ending.returned v) ∧ Sat C ρ' h' nx' w2 ∧ (∀ i,i < nx → ρ' i = ρ i) ∧ nx ≤ nx' ∧ (match out with | .ret s=>s.below nx' | .panic _=>True):=by
  intro v sv h2 nx2 ρ2 w2 hk hr hb2 S2 hag hle2
  exact ⟨.ret sv,h2,nx2,ρ2,hk,⟨v,rfl,hr⟩,back S2,fun i hi=>funext fun k=>S2.anch i hi k,jk D'.sat.n0 hle2,hb2⟩
 cases se with
 |normal=>
  simp only [endQK] at hq
  split at hq
  ·rename_i f2 asl r hd
   exact zk9 hΘ hrs none hd hq.1 D' hq.2 fin
  ·exact hq.elim
 |ret=>
  simp only [endQK] at hq
  split at hq
  ·rename_i f2 asl r hd
   exact zk9 hΘ hrs none hd hq.1 D' hq.2 fin
  ·exact hq.elim
 |panic v=>exact hq.elim
 |exit id=>exact hq.elim
end
end Sx
namespace Sx
open Go
variable {P:Program} {C:Ctx} {ρ:Rho} {h:Hp} {nx:Nat} {w:World}
theorem Sat.swap (s:Sat C ρ h nx w) {i:Nat} {b b':SB} (he:lget h i = some (.one b)) (hok:∀ ρ o,b.ok ρ o → b'.ok ρ o) (hbel:b'.below nx):Sat C ρ (lput h i (.one b')) nx w:=by
 have hi0:=s.ne0 he rfl
 have hown:∀ j k,St.owns (lput h i (.one b')) j k → St.owns h j k:=by
  rintro j k ⟨x,hx,hk⟩
  by_cases hj:j = i
  ·subst hj; rw [zaf] at hx; cases hx; exact ⟨_,he,hk⟩
  ·rw [zad _ _ _ _ hj] at hx; exact ⟨_,hx,hk⟩
 exact { s with
  lt:=fun j x hx=>by
   by_cases hj:j = i
   ·subst hj; exact s.lt _ _ he
   ·rw [zad _ _ _ _ hj] at hx; exact s.lt _ _ hx
  blk:=fun j x hx k hk=>by
   by_cases hj:j = i
   ·subst hj; rw [zaf] at hx; cases hx
    obtain ⟨o,h1,h2⟩:=s.blk _ _ he k hk
    exact ⟨o,h1,hok _ _ h2⟩
   ·rw [zad _ _ _ _ hj] at hx; exact s.blk _ _ hx k hk
  wf:=fun j x hx k hk=>by
   by_cases hj:j = i
   ·subst hj; rw [zaf] at hx; cases hx
    exact hbel
   ·rw [zad _ _ _ _ hj] at hx; exact s.wf _ _ hx k hk
  inj:=fun a b c d h1 h2=>s.inj a b c d (hown _ _ h1) (hown _ _ h2)
  own:=fun a b h1=>s.own a b (hown _ _ h1)
  fz:=by rw [zad _ _ _ _ (Ne.symm hi0)]; exact s.fz
  only:=fun j F hF=>by
   by_cases hj:j = i
   ·subst hj; rw [zaf] at hF; cases hF
   ·rw [zad _ _ _ _ hj] at hF; exact s.only _ _ hF
  lnk:=fun j b hl=>by
   by_cases hj:j = i
   ·subst hj; rw [zaf] at hl; cases hl
   ·rw [zad _ _ _ _ hj] at hl; exact s.lnk _ _ hl }
theorem swapC {f:FuncId} {args:List SV} {K:Out → Hp → Nat → Prop} (i:Nat) {b:SB} (b':SB) (he:lget h i = some (.one b)) (hok:∀ ρ o,b.ok ρ o → b'.ok ρ o) (hbel:b'.below nx) (hk:za6 P f args (lput h i (.one b')) nx K):za6 P f args h nx K:=by
 unfold za6 at *
 intro C ρ w vs S hr hb
 exact hk C ρ w vs (S.swap he hok hbel) hr hb
theorem zvq {t sz room:Nat} {L L':List (List SA)} (hl:L'.length = L.length) (h1:∀ x ∈ L',x.length = sz) (hd:∀ ρ,L'.flatten.map (SA.den ρ) = L.flatten.map (SA.den ρ)) (ρ:Rho) (o:Obj) (h:(SB.arr t sz L room).ok ρ o):(SB.arr t sz L' room).ok ρ o:=by
 obtain ⟨g1,g2,tail,g3,g4⟩:=h
 exact ⟨h1,by rw [hl]; exact g2,tail,by rw [hl]; exact g3,by rw [hd]; exact g4⟩
theorem zh0 {f:FuncId} {args args':List SV} {K:Out → Hp → Nat → Prop} (hr:∀ ρ vs,relL ρ args vs → relL ρ args' vs) (hb:∀ n,(∀ s ∈ args,s.below n) → ∀ s ∈ args',s.below n) (hk:za6 P f args' h nx K):za6 P f args h nx K:=by
 unfold za6 at *
 intro C ρ w vs S h1 h2
 exact hk C ρ w vs S (hr ρ vs h1) (hb nx h2)
theorem zmg {n:Nat} {K0:Out → Fz → List (Nat × Ent) → Nat → Prop} {out out':Out} (hr:∀ ρ e,out.rel ρ e → out'.rel ρ e) (hb:out'.below nx) (hk:Cln n K0 out' h nx):Cln n K0 out h nx:=by
 unfold Cln at *
 intro C ρ w e hn S h1 h2
 exact hk C ρ w e hn S (hr ρ e h1) hb
end Sx
namespace Go.Proofs.YtfnkamphhpldcaaGreatDoor
open Go Sx
set_option maxRecDepth 100000
def exD (t:List UInt8) (m:Int):Dc:=⟨[(t,m)],[],0,[]⟩
theorem zek (t:List UInt8) (m:Int):DcSmall (exD t m):=⟨by show 1 ≤ 1000; decide,by show 0 ≤ 1000; decide,by show 0 ≤ 70000; decide⟩
theorem exAt {F:Fz} {b:Nat} {t:List UInt8} {m:Int} (h:F b = some (.arr 148 2 ([(t,m)].map encN) 1)):DocAt F (.slice false 0 b 0 2 1 1) (.slice true 0 0 0 6 0 0) (exD t m):=
 ⟨false,b,0,1,true,0,0,0,rfl,rfl,Sl.new (l:=[(t,m)]) h,Sl.nil,qf _⟩
theorem zbj (F:Fz) (t:List UInt8) (m:Int) :
  Fo Tryz.prog F 45 [.va (.str t),.va (.int .i64 m)] (fun o F'=>∃ b,o = .ret (.agg (docS (.slice false 0 b 0 2 1 1) (.slice true 0 0 0 6 0 0) 0 [])) ∧ F' b = some (.arr 148 2 ([(t,m)].map encN) 1)):=by
 refine fo_of hΘ Tryz.func45 rfl (by decide) _ _ rfl rfl rfl ?_;conv=>whnf
 refine zbl 2 (fun _=>.arr 148 2 ([(t,m)].map encN) 1) rfl rfl rfl (fun _ _=>rfl) (fun _ _=>SB.bB_ok rfl) ?_
 intro b F' hle hb'
 refine zmg (out':=.ret (.agg (docS (.slice false 2 0 0 2 1 1) (.slice true 0 0 0 6 0 0) 0 []))) (fun _ _ h=>h) (Out.bB_ok rfl) ?_
 exact endFo (.ret (.agg (docS (.slice false 0 (b 0) 0 2 1 1) (.slice true 0 0 0 6 0 0) 0 []))) F' rfl hle (Fz.r F') ⟨_,rfl,hb' 0 rfl⟩ (zaj _) rfl
end Go.Proofs.YtfnkamphhpldcaaGreatDoor
