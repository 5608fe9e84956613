import Derived.Test.YtfnkamphhpldcaaGreatDoorK26
import Derived.Test.YtfnkamphhpldcaaGreatDoorK14
import Derived.Shelf.Strings.OnBuilder
import Derived.Test.YtfnkamphhpldcaaGreatDoorProg
import Derived.Test.YtfnkamphhpldcaaGreatDoorK25
set_option maxHeartbeats 64000000
namespace Sx
open Go Go.RowKit
variable {P:Program} {C:Ctx} {ρ:Rho} {h:Hp} {nx:Nat} {w:World}
theorem Sat.same {h':Hp} (s:Sat C ρ h nx w) (he:∀ i,lget h' i = lget h i):Sat C ρ h' nx w where
 lt:=fun i e h1=>s.lt i e (by rw [← he]; exact h1)
 blk:=fun i e h1=>s.blk i e (by rw [← he]; exact h1)
 wf:=fun i e h1=>s.wf i e (by rw [← he]; exact h1)
 inj:=fun i k i' k' ⟨e,h1,h2⟩ ⟨e',h3,h4⟩=>s.inj i k i' k' ⟨e,by rw [← he]; exact h1,h2⟩ ⟨e',by rw [← he]; exact h3,h4⟩
 anch:=s.anch
 n0:=s.n0
 n1:=s.n1
 os:=s.os
 tape:=s.tape
 output:=s.output
 size:=s.size
 fr:=s.fr
 own:=fun i k ⟨e,h1,h2⟩=>s.own i k ⟨e,by rw [← he]; exact h1,h2⟩
 fz:=by rw [he]; exact s.fz
 id0:=s.id0
 only:=fun i F h1=>s.only i F (by rw [← he]; exact h1)
 lnk:=fun i b h1=>s.lnk i b (by rw [← he]; exact h1)
theorem Sat.adopt (s:Sat C ρ h nx w) {D:Nat} {o:Obj} (hD:w.heap[D]? = some o) (hge:C.w0.heap.size ≤ D) (hun:∀ i k,St.owns h i k → ρ i k ≠ D):Sat C (rext ρ nx D) (lput h nx (.one (.obj o))) (nx + 1) w:=by
 have hag:∀ i,i < nx → rext ρ nx D i = ρ i:=fun i hi=>zdp hi
 have hown:∀ i k,St.owns h i k → i < nx:=fun i k ⟨e,he,_⟩=>s.lt i e he
 refine { lt:=?_,blk:=?_,wf:=?_,inj:=?_,anch:=?_,n0:=qch s.n0,n1:=s.n1,os:=s.os,tape:=s.tape,output:=s.output,size:=s.size,fr:=s.fr,own:=?_,fz:=by rw [zad _ _ _ _ (qb3 s.pos)]; exact s.fz,id0:=fun k=>by rw [hag 0 s.pos]; exact s.id0 k,only:=?_,lnk:=?_ }
 ·intro i e he
  by_cases hi:i = nx
  ·omega
  ·rw [zad _ _ _ _ hi] at he; have:=s.lt i e he; omega
 ·intro i e he k hk
  by_cases hi:i = nx
  ·subst hi; rw [zaf] at he; cases he
   exact ⟨o,by rw [zbc]; exact hD,rfl⟩
  ·rw [zad _ _ _ _ hi] at he
   have hlt:=s.lt i e he
   obtain ⟨o',ho',hok'⟩:=s.blk i e he k hk
   exact ⟨o',by rw [hag i hlt]; exact ho',SB.ok_congr hag (s.wf i e he k hk) hok'⟩
 ·intro i e he k hk
  by_cases hi:i = nx
  ·subst hi; rw [zaf] at he; cases he; trivial
  ·rw [zad _ _ _ _ hi] at he; exact SB.below_mono (yz _) (s.wf i e he k hk)
 ·intro i k i' k' h1 h2 heq
  rcases zcd h1 with ⟨rfl,hk⟩ | ⟨hi,ho⟩<;>rcases zcd h2 with ⟨rfl,hk'⟩ | ⟨hi',ho'⟩
  ·simp only [Ent.has] at hk hk'; exact ⟨rfl,by omega⟩
  ·rw [zbc,hag i' (hown _ _ ho')] at heq; exact absurd heq.symm (hun _ _ ho')
  ·rw [zbc,hag i (hown _ _ ho)] at heq; exact absurd heq (hun _ _ ho)
  ·rw [hag i (hown _ _ ho),hag i' (hown _ _ ho')] at heq
   exact s.inj _ _ _ _ ho ho' heq
 ·intro i hi k; have:=s.n0; rw [hag i (by omega)]; exact s.anch i hi k
 ·intro i k h1
  rcases zcd h1 with ⟨rfl,hk⟩ | ⟨hi,ho⟩
  ·right; right; rw [zbc]; exact hge
  ·rw [hag i (hown _ _ ho)]; exact s.own _ _ ho
 ·intro i F hF
  by_cases hi:i = nx
  ·subst hi; rw [zaf] at hF; cases hF
  ·rw [zad _ _ _ _ hi] at hF; exact s.only i F hF
 ·intro i b' hl k
  by_cases hi:i = nx
  ·subst hi; rw [zaf] at hl; cases hl
  ·rw [zad _ _ _ _ hi] at hl
   rw [hag i (s.lt i _ hl)]; exact s.lnk i b' hl k
section
variable {n l:Nat} {a:Act} {ops:Array Oper} {Q:Exit → Act → World → Prop} {rest:List Oper} {o:Oper}
theorem zhu {F:Fence} {x:Operand} {v:Value} (ho:o.op = .move x ∨ o.op = .assign x) (hg:o.guard = none) (hd:a.eval x = v) (h:wpListIn F n P ops Q rest (a.put o.dst v) w):wpListIn F n P ops Q (o :: rest) a w:=by
 have hwant:Region.wanted o (yielded ops a.tmps) = true:=by simp [Region.wanted,hg]
 simp only [wpListIn,hwant,if_true]
 have hnd:∀ c,o.op ≠ .defer c:=by rintro c e; rcases ho with ho | ho<;>rw [ho] at e<;>cases e
 refine ⟨fun f hf=>?_,?_⟩
 ·rcases ho with ho | ho<;>simp [Oper.about,ho] at hf
 ·rw [Oper.semAt_eq _ _ _ hnd]
  obtain ⟨dst,op,type,pos,after,guard⟩:=o
  subst hd
  rcases ho with ho | ho<;>simp only at ho<;>subst ho
  ·simpa [execOp,Oper.uponIn] using h
  ·simpa [execOp,Oper.uponIn] using h
theorem zlw {f:FuncId} {args:Array Operand} {ts:Array TypeId} {vs:Array Value} {R:Ending → World → Prop} (ho:o.op = .call ⟨.value (.func f),args,ts⟩) (hg:o.guard = none) (he:Enters P f) (hv:args.map a.eval = vs) (hc:Calls P f vs w R)
  (h:∀ e w',R e w' → ∃ v,e = .returned v ∧ wpListIn (Fence.wide.inRound l) n P ops Q rest (a.put o.dst v) w'):wpListIn (Fence.wide.inRound l) n P ops Q (o :: rest) a w:=by
 have hwant:Region.wanted o (yielded ops a.tmps) = true:=by simp [Region.wanted,hg]
 simp only [wpListIn,hwant,if_true]
 have hnd:∀ c,o.op ≠ .defer c:=by rintro c e; rw [ho] at e; cases e
 refine ⟨fun _ _=>trivial,?_⟩
 rw [Oper.semAt_eq _ _ _ hnd]
 obtain ⟨dst,op,type,pos,after,guard⟩:=o
 simp only at ho; subst ho
 unfold Enters at he
 have hrun:(execOp a.eval ⟨dst,.call ⟨.value (.func f),args,ts⟩,type,pos,after,guard⟩).run P w = .ok (.enter f vs) w:=by
  simp [execOp,resolve,Act.eval,Deferred.ofValue,invoke,hv,he]
 simp only [hrun,Oper.uponIn]
 refine ⟨fun hd=>by simp [Fence.wide] at hd,?_⟩
 have hc':CallsIn Fence.wide (n - 1) P f vs w R:=callsIn_wide.2 hc
 refine CallsIn.mono (F:=Fence.wide) hc' ?_
 intro e w' hR
 obtain ⟨v,rfl,h2⟩:=h e w' hR
 exact h2
end
end Sx
namespace Go.Proofs.YtfnkamphhpldcaaGreatDoor
open Go Go.RowKit Sx
set_option maxRecDepth 100000
theorem zil (k:Nat) (L:List UInt8) (v:W8):zbf (k + 1) L v = zg5 ((L.drop (64 * k)).take 64) (zbf k L v):=by
 unfold zbf
 rw [qcu,qaq,y4,qav]
theorem zit (L:List UInt8) (v:W8):zbf 0 L v = v:=by
 unfold zbf
 rw [List.range_zero,qav]
theorem zks (k:Nat) (L:List UInt8) (v:W8) (h:v.Ok):(zbf k L v).Ok:=by
 cases k with
 |zero=>rw [zit]; exact h
 |succ k=>rw [zil]; exact z6m _ _
theorem cell_of {C:Ctx} {ρ:Rho} {h:Hp} {nx:Nat} {w:World} (S:Sat C ρ h nx w) {i t:Nat} {x:SA} (hi:lget h i = some (.one (.cells t [x]))):w.cell? ⟨ρ i 0,0,none⟩ = some (x.den ρ):=by
 obtain ⟨o,ho,hok⟩:=S.blk i _ hi 0 rfl
 have hr:RowAt w (ρ i 0) t [x.den ρ]:=⟨o,ho,hok⟩
 rw [hr.cell 0]; rfl
abbrev wE (v:W8):Ent:=.one (.cells 246 (w8 v))
theorem znx {F1:Fz} (hR:RNDF F1) {st:St} {Q:SE → St → Prop} {ih is inn ib r c m n0:Nat} {b:Nat → Nat} {v:W8} (hv:v.Ok) {L:List UInt8} (hn0:n0 = 64 * m) (hL:L.length = 64 * m) (hm:m ≤ 1000000000000000) (hc:64 * m ≤ c)
  (h3:lget st.t 3 = some (.va (.ptr ⟨ih,0,0,0,0⟩))) (h34:lget st.t 34 = some (.va (.fn (.func 229) [⟨is,0,0,0,0⟩,⟨inn,0,0,0,0⟩]))) (hnt:st.nt = 40) (hd:st.d = [])
  (hF:lget st.h 0 = some (.frz F1)) (hh:lget st.h ih = some (wE v)) (hs:lget st.h is = some (.one (.cells 81 [.slice false ib 0 0 1 n0 c]))) (hn:lget st.h inn = some (.one (.cells 3 [.int .i64 64]))) (hb:lget st.h ib = some (.lnk b)) (hrow:F1 (b 0) = some (.arr 5 1 (L.map encB) r))
  {o1 o2 o3:Oper} {i1 i2 i3:Nat} {ts:Array TypeId} (p1:o1.op = .assign (.tmp 35)) (p2:o1.dst = some 6) (p3:o1.guard = none) (p4:o2.op = .move (.tmp 6)) (p5:o2.dst = some 36) (p6:o2.guard = none) (p7:o3.op = .call ⟨.value (.func 175),#[.tmp 3,.tmp 36],ts⟩) (p8:o3.guard = none)
  (hQ:Q .normal { st with h:=lput (lput st.h ih (wE (zbf m L v))) st.nx (.one (.obj (.deferred (some [])))),nx:=st.nx + 1,d:=[(.col,[.iter st.nx 0])] }) :
  WP Tryz.prog (.rangeFunc (.tmp 34) #[35] (.region i1 #[o1] false) (.block i2 (.region i3 #[o2,o3] false))) st Q:=by
 subst hn0
 unfold WP
 intro C ρ a w D
 have nh:ih ≠ 0:=D.sat.ne0 hh rfl
 have nis:is ≠ ih:=by rintro rfl; rw [hh] at hs; cases hs
 have nin:inn ≠ ih:=by rintro rfl; rw [hh] at hn; cases hn
 have nib:ib ≠ ih:=by rintro rfl; rw [hh] at hb; cases hb
 have lib:ib < st.nx:=D.sat.lt _ _ hb
 have lis:is < st.nx:=D.sat.lt _ _ hs
 have lin:inn < st.nx:=D.sat.lt _ _ hn
 have lih:ih < st.nx:=D.sat.lt _ _ hh
 obtain ⟨u3,t3,e3⟩:=D.tm 3 _ h3
 obtain ⟨u34,t34,e34⟩:=D.tm 34 _ h34
 have e3':u3 = .pointer (some ⟨ρ ih 0,0,none⟩):=e3
 have e34':u34 = .func (.func 229) #[] #[.pointer (some ⟨ρ is 0,0,none⟩),.pointer (some ⟨ρ inn 0,0,none⟩)]:=e34
 subst e3' e34'
 have hHk:∀ k i,i ≠ ih → lget (lput st.h ih (wE (zbf k L v))) i = lget st.h i:=fun k i hi=>zad _ _ _ _ hi
 have hown:∀ k i j,St.owns (lput st.h ih (wE (zbf k L v))) i j → St.owns st.h i j:=by
  rintro k i j ⟨e,he,hj⟩
  by_cases hi:i = ih
  ·subst hi; rw [zaf] at he; cases he; exact ⟨_,hh,hj⟩
  ·rw [hHk k i hi] at he; exact ⟨e,he,hj⟩
 have heg:∀ (args:Array Value) (w:World),(callFunc 229 args).run Tryz.prog w = .ok (.enter 229 args) w:=by
  have h:=Sx.enters_of (P:=Tryz.prog) Tryz.func229 rfl (by decide)
  unfold Sx.Enters at h
  exact h
 refine (wpIn_wide (n:=3)).1 (zft (F:=Fence.wide) (n:=3) rfl (by omega) (gf:=229) (lb:=#[.pointer (some ⟨ρ is 0,0,none⟩),.pointer (some ⟨ρ inn 0,0,none⟩)]) ?hg trivial heg
  (zwc Fence.wide 2 trivial rfl (by omega) (ρ is 0) (ρ inn 0) (ρ ib 0) m c hm hc) (fun _=>rfl)
  (fun k W=>∃ ρ',(∀ i,i < st.nx → ρ' i = ρ i) ∧ Sat C ρ' (lput st.h ih (wE (zbf k L v))) st.nx W) ?ok ?drew ?put ?h0
  (fun k=>{ tmps:=(a.tmps.setIfInBounds 35 (.slice (some ⟨ρ ib 0,64 * k,none⟩) 64 64)).setIfInBounds 6 (.slice (some ⟨ρ ib 0,64 * k,none⟩) 64 64),defers:=[] }) ?assign ?body ?done)
 case hg=>simp [Act.eval,t34]
 case ok=>
  rintro k A ⟨ρ',hag,S⟩
  refine ⟨?_,?_⟩
  ·have:=cell_of S (by rw [hHk k is nis]; exact hs)
   rw [hag is lis] at this
   rw [this]; simp [SA.den,hag ib lib]
  ·have:=cell_of S (by rw [hHk k inn nin]; exact hn)
   rw [hag inn lin] at this
   exact this
 case drew=>rintro k A ⟨ρ',hag,S⟩; exact ⟨ρ',hag,S.drew⟩
 case put=>
  rintro k A l o o' hl hA hcell ⟨ρ',hag,S⟩
  refine ⟨ρ',hag,S.putObj (fun i j ho=>?_) (jk D.sat.size hl)⟩
  have h1:=D.sat.blt (hown k i j ho)
  rw [← hag i (by obtain ⟨e,he,_⟩:=hown k i j ho; exact D.sat.lt _ _ he)] at h1
  omega
 case h0=>
  intro o1 o2
  refine ⟨ρ,fun _ _=>rfl,?_⟩
  refine (D.sat.same fun i=>?_).belowW (((Below.refl _ w).alloc (qf _) _).alloc (by simp) _)
  by_cases hi:i = ih
  ·subst hi; rw [zaf,hh,zit]
  ·exact hHk 0 i hi
 case assign=>
  intro l k W K _ hK
  refine wpIn_region_list ?_
  refine zhu (.inr p1) p3 (v:=.slice (some ⟨ρ ib 0,64 * k,none⟩) 64 64) ?_ ?_
  ·have:35 < a.tmps.size:=by rw [D.nt,hnt]; omega
   simp [Act.eval,zt0,this]
  ·rw [p2]
   refine (congrArg (fun x=>K x W) ?_).mpr hK
   simp [Act.put,zt0]
 case body=>
  rintro l k W hk ⟨ρ',hag,S⟩ ⟨x1,hx1⟩ ⟨x2,hx2⟩
  refine wpIn_block (wpIn_region_list ?_)
  refine zhu (.inl p4) p6 (v:=.slice (some ⟨ρ ib 0,64 * k,none⟩) 64 64) ?_ ?_
  ·have h6:6 < a.tmps.size:=by rw [D.nt,hnt]; omega
   simp [Act.eval,h6]
  rw [p5]
  have hslk:Sl F1 5 1 encB (.slice false 0 (b 0) (64 * k) 1 64 64) ((L.drop (64 * k)).take 64):=by
   have hl64:((L.drop (64 * k)).take 64).length = 64:=by rw [qn,yj]; omega
   refine ⟨false,b 0,64 * k,64,L.map encB,r,by rw [hl64],(fun h=>by cases h),fun _=>hrow,by rw [hl64,qb]; omega,?_⟩
   rw [hl64,qck,List.map_drop]
  have hl64:((L.drop (64 * k)).take 64).length = 64:=by rw [qn,yj]; omega
  have hadd:=z8t F1 hR _ _ (zbf k L v) hslk hl64 (zks k L v hv)
  have hH0:lget (lput st.h ih (wE (zbf k L v))) 0 = some (.frz F1):=by rw [hHk k 0 (Ne.symm nh)]; exact hF
  have hHh:lget (lput st.h ih (wE (zbf k L v))) ih = some (wE (zbf k L v)):=zaf _ _ _
  have hres1:resP (lput st.h ih (wE (zbf k L v))) ih 0 = (ih,0):=by unfold resP; rw [hHh]
  have hres0:resP (lput st.h ih (wE (zbf k L v))) 0 (b 0) = (0,b 0):=by unfold resP; rw [hH0]
  have hcw:za6 Tryz.prog 175 [.va (.ptr ⟨ih,0,0,0,0⟩),.va (.slice false 0 (b 0) (64 * k) 1 64 64)] (lput st.h ih (wE (zbf k L v))) st.nx
    (fun out h' nx'=>out = .ret (.tup []) ∧ nx' = st.nx ∧ ∀ i,lget h' i = lget (lput st.h ih (wE (zbf (k + 1) L v))) i):=by
   refine use hadd [(1,.to ih)] hH0 ⟨?_,⟨rfl,rfl,rfl,.inr ⟨?_,?_,rfl,rfl⟩⟩,tv⟩ ?_ ⟨zdy 2 246 (zbf k L v),tv⟩ (by simp [SV.below,SA.below]) ⟨?_,tv⟩ ?_
   ·show SA.ptr _ = SA.ptr ⟨(resP (lput st.h ih (wE (zbf k L v))) ih 0).1,(resP (lput st.h ih (wE (zbf k L v))) ih 0).2,0,0,0⟩
    rw [hres1]; rfl
   ·show 0 = (resP (lput st.h ih (wE (zbf k L v))) 0 (b 0)).1
    rw [hres0]
   ·show b 0 = (resP (lput st.h ih (wE (zbf k L v))) 0 (b 0)).2
    rw [hres0]
   ·have e1:Nat.ble (ih + 1) st.nx = true:=qap lih
    have e2:Nat.beq 0 ih = false:=by cases ih with
     |zero=>exact absurd rfl nh
     |succ n=>rfl
    simp [chkU,isTo,zj4,injOn,sig,aget,Mv.at,wfl,Sx.distinct,covers,noFz,e1,e2]
   ·have hg:aget [(1,Mv.to ih)] 1 = some (.to ih):=rfl
    rw [hg]
    show subE (lget (lput st.h ih (wE (zbf k L v))) ih) (Ent.ren (sig [(1,Mv.to ih)]) (Ent.one (SB.cells 246 (w8 (zbf k L v)))))
    rw [hHh]; rfl
   ·rintro _ F2 _ _ _ ⟨rfl,hF2,rfl,rfl⟩
    rw [hF2]
    refine ⟨rfl,rfl,fun i=>?_⟩
    show lget (lput (lput (lput st.h ih (wE (zbf k L v))) ih _) 0 (.frz F1)) i = _
    by_cases h0:i = 0
    ·subst h0; rw [zaf,zad _ _ _ _ (Ne.symm nh)]; exact hF.symm
    ·rw [zad _ _ _ _ h0]
     by_cases h1:i = ih
     ·subst h1; rw [zaf,zaf,zil]; rfl
     ·rw [zad _ _ _ _ h1,zad _ _ _ _ h1,zad _ _ _ _ h1]
  have hcf:=ztf hcw S (vs:=[.pointer (some ⟨ρ ih 0,0,none⟩),.slice (some ⟨ρ ib 0,64 * k,none⟩) 64 64]) ?hrel ?hbel
  ·have hent:Sx.Enters Tryz.prog 175:=Sx.enters_of Tryz.func175 rfl (by decide)
   refine zlw p7 p8 hent ?_ hcf ?_
   ·have h6:6 < a.tmps.size:=by rw [D.nt,hnt]; omega
    have h36:36 < a.tmps.size:=by rw [D.nt,hnt]; omega
    simp [Act.eval,Act.put,h36,t3]
   ·rintro e w' ⟨out,h',nx',ρ2,⟨rfl,rfl,hh'⟩,⟨u,rfl,_⟩,S2,hag2,_,hfr⟩
    refine ⟨u,rfl,?_⟩
    show (∀ b,(b = w.heap.size ∨ b = w.heap.size + 1) → w'.heap[b]? = W.heap[b]?) ∧ _
    have hnot:∀ bb,w.heap.size ≤ bb → ∀ i j,i ≠ 0 → St.owns (lput st.h ih (wE (zbf k L v))) i j → ρ' i j ≠ bb:=fun bb hbb i j _ ho=>by
     have h1:=D.sat.blt (hown k i j ho)
     rw [← hag i (by obtain ⟨e,he,_⟩:=hown k i j ho; exact D.sat.lt _ _ he)] at h1
     omega
    refine ⟨?_,ρ2,fun i hi=>by rw [hag2 i hi,hag i hi],S2.same fun i=>(hh' i).symm⟩
    rintro bb (rfl | rfl)
    ·exact hfr _ (qz.1 hx1).1 (hnot _ (qf _))
    ·exact hfr _ (qz.1 hx2).1 (hnot _ (yz _))
  case hrel=>
   have f1:ρ' ih = ρ ih:=hag ih lih
   have f2:ρ' 0 (b 0) = ρ ib 0:=by rw [S.id0,D.sat.lnk ib b hb 0]
   refine ⟨?_,?_,tv⟩
   ·show _ = Value.pointer (some ⟨ρ' ih 0,0 * 0 + 0,none⟩)
    rw [f1]
   ·show _ = Value.slice (some ⟨ρ' 0 (b 0),64 * k * 1,none⟩) 64 64
    rw [f2,qcj]
  case hbel=>
   intro s hs
   rcases qj.1 hs with rfl | hs
   ·exact lih
   ·rcases qy.1 hs with rfl
    exact .inr S.pos
 case done=>
  rintro Dd W hD ⟨ρ',hag,S⟩ hDd
  have hun:∀ i j,St.owns (lput st.h ih (wE (zbf m L v))) i j → ρ' i j ≠ Dd:=fun i j ho=>by
   have h1:=D.sat.blt (hown m i j ho)
   rw [← hag i (by obtain ⟨e,he,_⟩:=hown m i j ho; exact D.sat.lt _ _ he)] at h1
   omega
  have S2:=S.adopt hDd (jk D.sat.size hD) hun
  refine ⟨.normal,_,rext ρ' st.nx Dd,hQ,rfl,?_⟩
  have hag2:∀ i,i < st.nx → rext ρ' st.nx Dd i = ρ i:=fun i hi=>by rw [zdp hi,hag i hi]
  exact { sat := S2, nt := D.nt, n0 := D.n0
          tm:=fun i s hi=>by
           obtain ⟨u,hu,hr⟩:=D.tm i s hi
           exact ⟨u,hu,SV.rel_congr hag2 (D.tw i s hi) hr⟩
          tw:=fun i s hi=>SV.below_mono (yz _) (D.tw i s hi)
          df:=by
           show { target:=.collected Dd,args:=#[] } :: a.defers = [defOf (rext ρ' st.nx Dd) (.col,[.iter st.nx 0])]
           rw [D.df,hd]
           simp [defOf,defV,SA.den,blkOf,zbc]
          dw:=by
           intro x hx y hy
           rcases qy.1 hx with rfl
           rcases qy.1 hy with rfl
           exact qbt _ }
end Go.Proofs.YtfnkamphhpldcaaGreatDoor
namespace Go.Proofs.YtfnkamphhpldcaaGreatDoor
open Go Sx
set_option maxRecDepth 100000
def padJ (s:List UInt8) (j:Nat):List UInt8:=s ++ [128] ++ List.replicate j 0
theorem zqv (s:List UInt8) (j:Nat):(padJ s j).length = s.length + 1 + j:=by simp [padJ]; omega
theorem zun (s:List UInt8) (j:Nat):padJ s (j + 1) = padJ s j ++ [0]:=by
 unfold padJ
 rw [List.replicate_succ',← qk]
def lenJ (s:List UInt8) (i:Nat):List UInt8:=padJ s (padZ s.length) ++ (len8 s.length).take i
theorem zri (s:List UInt8) {i:Nat} (h:i ≤ 8):(lenJ s i).length = s.length + 1 + padZ s.length + i:=by
 have:(len8 s.length).length = 8:=rfl
 simp [lenJ,zqv]; omega
theorem zs2 (n:Nat):(n + 1 + padZ n) % 64 = 56 ∧ padZ n < 64 ∧ ∀ j,j < padZ n → (n + 1 + j) % 64 ≠ 56:=by
 unfold padZ
 refine ⟨by omega,by omega,fun j hj=>by omega⟩
abbrev rowY (L:List UInt8) (c:Nat):Ent:=.one (.arr 5 1 (L.map encB) c)
theorem zhr (μ:Mu) (L:List UInt8) (c:Nat):(SB.arr 5 1 (L.map encB) c).ren μ = SB.arr 5 1 (L.map encB) c:=by
 show SB.arr 5 1 ((L.map encB).map (List.map (SA.ren μ))) c = _
 rw [yd]; congr 1
theorem zfa (n:Nat) (L:List UInt8) (c:Nat):(SB.arr 5 1 (L.map encB) c).below n:=by
 intro x hx a ha
 obtain ⟨s,_,rfl⟩:=q9.1 hx
 rcases qy.1 ha with rfl
 trivial
def lb (n i:Nat):UInt8:=(len8 n)[i]?.getD 0
theorem zvb (s:List UInt8) {i:Nat} (h:i < 8):lenJ s (i + 1) = lenJ s i ++ [lb s.length i]:=by
 unfold lenJ lb
 rw [qi (show i < (len8 s.length).length from h),qk,qc (show i < (len8 s.length).length from h)]
 rfl
theorem z1l {i:Nat} (h:i < 8):0 ≤ IntKind.i64.wrap (8 * (7 - (i:Int))):=by rw [zal (by omega) (by omega)]; omega
theorem lenB {n:Nat} (d:Nat) (hn:n ≤ 1000000000000) (hd:d ≤ 56):IntKind.u8.wrap (shrI .i64 (IntKind.i64.wrap (8 * (n:Int))) (d:Int)) = ((UInt8.ofNat (8 * n / 2 ^ d)).toNat:Int):=by
 have e:shrI .i64 (IntKind.i64.wrap (8 * (n:Int))) (d:Int) = ((8 * n / 2 ^ d:Nat):Int):=by
  unfold shrI
  rw [zal (by omega) (by omega),ql,show IntKind.i64.bits = 64 from rfl,qag (by omega),qam _ (by have:=qc8 (n:=2) (m:=d) (by omega); omega)]
  push_cast; rfl
 rw [e,qal]
 show ((8 * n / 2 ^ d:Nat):Int) % 256 = _
 omega
theorem z6d {n i:Nat} (hn:n ≤ 1000000000000) (h:i < 8):IntKind.u8.wrap (shrI .i64 (IntKind.i64.wrap (8 * (n:Int))) (IntKind.i64.wrap (8 * (7 - (i:Int))))) = ((lb n i).toNat:Int):=by
 have e:IntKind.i64.wrap (8 * (7 - (i:Int))) = ((8 * (7 - i):Nat):Int):=by rw [zal (by omega) (by omega)]; omega
 rw [e,lenB _ hn (by omega)]
 have hc:i = 0 ∨ i = 1 ∨ i = 2 ∨ i = 3 ∨ i = 4 ∨ i = 5 ∨ i = 6 ∨ i = 7:=by omega
 rcases hc with rfl | rfl | rfl | rfl | rfl | rfl | rfl | rfl
 ·rfl
 ·rfl
 ·rfl
 ·rfl
 ·rfl
 ·rfl
 ·rfl
 ·show (((UInt8.ofNat (8 * n / 2 ^ 0)).toNat:Nat):Int) = (((UInt8.ofNat (8 * n)).toNat:Nat):Int)
  rw [Nat.pow_zero,Nat.div_one]
theorem z15 {P:Program} {Θ:Tys} (hΘ:Θ.Ok P) {f:FuncId} {fn:Func} {c:Code} {args:List SV} {F:Fz} {Q:Out → Fz → Prop} (hf:P.funcs[f]? = some fn) (hb:fn.body = some c) (hn:(fn.name == "runtime.NumGoroutine") = false)
  (nt:Nat) (rs:List ResultVar) (hnt:fn.ntmps = nt) (hrs:fn.results.toList = rs) (hl:Nat.ble args.length nt = true)
  (hx:sx P Θ c ⟨[zeh 0 args],[[(0,.frz F)]],1,1,nt,[]⟩ (endQC Θ rs (Cln 1 (FoK F Q)))):Fo P F f args Q:=
 zzn hΘ hf hb hn nt rs hnt hrs hl (zci hΘ _ _ _ hx)
theorem zwg:init8.Ok:=by constructor<;>decide
theorem zue (s:List UInt8):padded s = lenJ s 8:=by
 unfold padded lenJ padJ
 rw [qm (show (len8 s.length).length ≤ 8 from qf 8)]
theorem z8j (F:Fz) (hR:RNDF F) (s:List UInt8) (hs:s.length ≤ 1000000000000):Fo Tryz.prog F 114 [.va (.str s)] (fun o _=>o = .ret (.va (.str (sumS s)))):=by
 have hL0:∀ c,SB.arr 5 1 (s.map encB ++ [encB 128]) c = SB.arr 5 1 ((padJ s 0).map encB) c:=fun c=>by simp [padJ]
 have hLj:∀ j c,SB.arr 5 1 ((padJ s j).map encB ++ [encB 0]) c = SB.arr 5 1 ((padJ s (j + 1)).map encB) c:=fun j c=>by rw [zun,q5]; rfl
 have hL2:∀ j c,j = padZ s.length → SB.arr 5 1 ((padJ s j).map encB) c = SB.arr 5 1 ((lenJ s 0).map encB) c:=fun j c h=>by rw [lenJ,List.take_zero,jw,h]
 have hLi:∀ i,i < 8 → ∀ c,SB.arr 5 1 ((lenJ s i).map encB ++ [encB (lb s.length i)]) c = SB.arr 5 1 ((lenJ s (i + 1)).map encB) c:=fun i hi c=>by rw [zvb s hi,q5]; rfl
 have hz:=zs2 s.length
 obtain ⟨m,hm⟩:∃ m,s.length + 1 + padZ s.length + 8 = 64 * m:=⟨(s.length + 1 + padZ s.length + 8) / 64,by omega⟩
 have hmL:(lenJ s 8).length = 64 * m:=by rw [zri s (qf 8)]; exact hm
 have hsum:sumS s = zf9 (zbf m (lenJ s 8) init8):=by
  unfold sumS; rw [zue,hmL,Nat.mul_div_cancel_left m (by decide)]
 have hbo:=zks m (lenJ s 8) init8 zwg
 refine z15 hΘ Tryz.func114 rfl (by decide) _ _ rfl rfl rfl ?_;conv=>whnf
 intro c0 hc0;conv=>whnf
 refine ⟨nb rfl,[encB 128],rfl,?_⟩;conv=>whnf
 refine ⟨rfl,(qb _).symm,rfl,by show (s.length + 1) * 1 ≤ _; omega,fun c1 hc1=>?_⟩;conv=>whnf
 refine zan hΘ (X:={ x:Nat × Nat // x.1 ≤ padZ s.length ∧ s.length + 1 + x.1 ≤ x.2 }) (fun x=>[(4,.va (.slice false 5 0 0 1 (s.length + 1 + x.1.1) x.1.2))]) [12,13,14,15,16,17,18] (fun x=>[(0,.frz F),(1,.one (.cells 246 (w8 init8))),(4,.gone),(5,rowY (padJ s x.1.1) x.1.2)]) 6 (fun x=>padZ s.length - x.1.1) ⟨(0,c1),by simp,by simpa using hc1⟩
  (fun hH hT=>leI [(5,4)] hH hT rfl ⟨tv,zdy 6 246 init8,tv,zfa 6 (padJ s 0) c1,tv⟩ ⟨⟨rfl,rfl,rfl,.inr ⟨rfl,rfl,rfl,rfl⟩⟩,tv⟩ ⟨Fz.r F,rfl,(hL0 c1).trans (zhr _ (padJ s 0) c1).symm,tv⟩) ?_
 rintro ⟨⟨j,c⟩,hj,hcj⟩ hH hT
 replace hj:j ≤ padZ s.length:=hj
 replace hcj:s.length + 1 + j ≤ c:=hcj
 by_cases g:j < padZ s.length
 ·have hne:=hz.2.2 j g
  have hne':¬ ((s.length + 1 + j:Nat):Int).tmod 64 = 56:=by
   rw [show ((s.length + 1 + j:Nat):Int).tmod 64 = (((s.length + 1 + j) % 64:Nat):Int) from rfl]; omega
  conv=>whnf
  refine ⟨by decide,?_⟩;conv=>whnf
  refine br (fun _=>?_) (fun h=>absurd h (by simpa using hne'));conv=>whnf
  refine ⟨nb rfl,[encB 0],rfl,?_⟩;conv=>whnf
  refine ⟨rfl,(by show s.length + 1 + j = ((padJ s j).map encB).length; rw [qb,zqv]),rfl,by show (s.length + 1 + j + 1) * 1 ≤ _; omega,fun c' hc'=>?_⟩;conv=>whnf
  exact ⟨⟨(j + 1,c'),by show j + 1 ≤ padZ s.length; omega,by have h1:s.length + 1 + j + 1 ≤ c':=hc'; show s.length + 1 + (j + 1) ≤ c'; omega⟩,by show padZ s.length - (j + 1) < padZ s.length - j; omega,
   leR [(5,7)] hH hT rfl ⟨tv,zdy 6 246 init8,tv,zfa 6 (padJ s (j + 1)) c',tv⟩ ⟨⟨rfl,rfl,rfl,.inr ⟨rfl,rfl,rfl,rfl⟩⟩,tv⟩ ⟨Fz.r F,rfl,(hLj j c').trans (zhr _ (padJ s (j + 1)) c').symm,tv⟩⟩
 ·have hjz:j = padZ s.length:=by omega
  have heq:((s.length + 1 + j:Nat):Int).tmod 64 = 56:=by
   rw [show ((s.length + 1 + j:Nat):Int).tmod 64 = (((s.length + 1 + j) % 64:Nat):Int) from rfl,hjz]; omega
  conv=>whnf
  refine ⟨by decide,?_⟩;conv=>whnf
  refine br (fun h=>absurd h (by simpa using heq)) (fun _=>?_);conv=>whnf
  refine zan hΘ (X:={ x:Nat × Nat // x.1 ≤ 8 ∧ s.length + 1 + padZ s.length + x.1 ≤ x.2 }) (fun x=>[(4,.va (.slice false 6 0 0 1 (s.length + 1 + padZ s.length + x.1.1) x.1.2)),(5,.va (.int .i64 (7 - (x.1.1:Int))))]) [19,20,21,22,23,24,25,26,27,28,29,30,31,32] (fun x=>[(0,.frz F),(1,.one (.cells 246 (w8 init8))),(5,.gone),(6,rowY (lenJ s x.1.1) x.1.2)]) 7 (fun x=>8 - x.1.1) ⟨(0,c),by simp,by show s.length + 1 + padZ s.length + 0 ≤ c; omega⟩
   (fun hH hT=>leI [(6,5)] hH hT rfl ⟨tv,zdy 7 246 init8,tv,zfa 7 (lenJ s 0) c,tv⟩ ⟨⟨rfl,by show s.length + 1 + padZ s.length + 0 = s.length + 1 + j; omega,rfl,.inr ⟨rfl,rfl,rfl,rfl⟩⟩,rfl,tv⟩ ⟨Fz.r F,rfl,(hL2 j c hjz).trans (zhr _ (lenJ s 0) c).symm,tv⟩) ?_
  rintro ⟨⟨i,c⟩,hi,hci⟩ hH hT
  replace hi:i ≤ 8:=hi
  replace hci:s.length + 1 + padZ s.length + i ≤ c:=hci
  by_cases gi:i < 8
  ·have hby:=z6d (n:=s.length) hs gi
   have hsh:=z1l gi
   have hel:=hLi i gi
   have hi1:IntKind.i64.wrap (7 - (i:Int) - 1) = 7 - ((i + 1:Nat):Int):=by rw [zal (by omega) (by omega)]; omega
   conv=>whnf
   refine br (fun _=>?_) (fun h=>absurd h (by simp; omega));conv=>whnf
   refine ⟨hsh,?_⟩;conv=>whnf
   refine ⟨nb rfl,[encB (lb s.length i)],(by show [[SA.int .u8 _]] = _; exact congrArg (fun z=>[[SA.int .u8 z]]) hby),?_⟩;conv=>whnf
   refine ⟨rfl,(by show s.length + 1 + padZ s.length + i = ((lenJ s i).map encB).length; rw [qb,zri s hi]),rfl,by show (s.length + 1 + padZ s.length + i + 1) * 1 ≤ _; omega,fun c' hc'=>?_⟩;conv=>whnf
   exact ⟨⟨(i + 1,c'),by show i + 1 ≤ 8; omega,by have h1:s.length + 1 + padZ s.length + i + 1 ≤ c':=hc'; show s.length + 1 + padZ s.length + (i + 1) ≤ c'; omega⟩,by show 8 - (i + 1) < 8 - i; omega,
    leR [(6,8)] hH hT rfl ⟨tv,zdy 7 246 init8,tv,zfa 7 (lenJ s (i + 1)) c',tv⟩ ⟨⟨rfl,rfl,rfl,.inr ⟨rfl,rfl,rfl,rfl⟩⟩,eu hi1.symm,tv⟩ ⟨Fz.r F,rfl,(hel c').trans (zhr _ (lenJ s (i + 1)) c').symm,tv⟩⟩
  ·have hi8:i = 8:=by omega
   subst hi8
   have hcm:64 * m ≤ c:=by omega
   conv=>whnf
   refine brd (by simp) ?_;conv=>whnf
   refine za0 6 (fun _=>.arr 5 1 ((lenJ s 8).map encB) c) rfl rfl rfl (fun _ _=>zhr _ (lenJ s 8) c) (fun _ _=>zfa 1 (lenJ s 8) c) ?_
   intro b F1 l1 hb
   have hb0:=hb 0 rfl
   refine zg1 hΘ Tryz.func174 rfl (by decide) _ _ rfl rfl rfl (zci hΘ _ _ _ ?_);conv=>whnf
   refine brd (by decide) ?_;conv=>whnf
   refine znx (F1:=F1) (hR.mono l1) (ih:=1) (is:=7) (inn:=8) (ib:=6) (b:=b) (v:=init8) (c:=c) zwg hm hmL (by omega) hcm rfl rfl rfl rfl rfl rfl rfl rfl rfl hb0 rfl rfl rfl rfl rfl rfl rfl rfl ?_;conv=>whnf
   refine usePu (zu8 F1 (zbf m (lenJ s 8) init8) hbo) rfl (zaa _) rfl ?_;conv=>whnf
   refine ⟨rfl,rfl,?_⟩;conv=>whnf
   exact endFo (.ret (.va (.str (zf9 (zbf m (lenJ s 8) init8))))) F1 rfl l1 (Fz.r F1) (by rw [hsum]) (zaj _) rfl
end Go.Proofs.YtfnkamphhpldcaaGreatDoor
namespace Go.Proofs
open Go.Shelf
def Tryz.lays156_ren:Go.Shelf.Ren:=⟨fun | 156=>228 | 165=>257 | 166=>224 | 169=>104 | 240=>256 | 241=>273 | 276=>272 | 277=>287 | n=>n,fun | 31=>34 | 9=>9 | 3=>3 | 4=>4 | 0=>0 | 20=>20 | 72=>172 | 76=>281 | 70=>170 | 37=>81 | 75=>125 | 127=>238 | 164=>334 | 5=>5 | 80=>155 | n=>n,fun | n=>n⟩
theorem Tryz.lays156:Go.Proofs.Lays.n156 Tryz.prog Tryz.lays156_ren:={
 mixed:=by kernel_rfl
 f156:=Tryz.func228.trans (congrArg some (by kernel_rfl))
 f165:=Tryz.func257.trans (congrArg some (by kernel_rfl))
 f166:=Tryz.func224.trans (congrArg some (by kernel_rfl))
 f169:=Tryz.func104.trans (congrArg some (by kernel_rfl))
 f240:=Tryz.func256.trans (congrArg some (by kernel_rfl))
 f241:=Tryz.func273.trans (congrArg some (by kernel_rfl))
 f276:=Tryz.func272.trans (congrArg some (by kernel_rfl))
 f277:=Tryz.func287.trans (congrArg some (by kernel_rfl))
 t0:=Tryz.underlying0
 a0:=Tryz.isAgg0
 z0:=Tryz.sizeOf0
 v0:=Tryz.zeroValue0
 t3:=Tryz.underlying3
 a3:=Tryz.isAgg3
 z3:=Tryz.sizeOf3
 v3:=Tryz.zeroValue3
 t4:=Tryz.underlying4
 a4:=Tryz.isAgg4
 z4:=Tryz.sizeOf4
 v4:=Tryz.zeroValue4
 t9:=Tryz.underlying9
 a9:=Tryz.isAgg9
 z9:=Tryz.sizeOf9
 v9:=Tryz.zeroValue9
 t20:=Tryz.underlying20
 a20:=Tryz.isAgg20
 z20:=Tryz.sizeOf20
 v20:=Tryz.zeroValue20
 t31:=Tryz.underlying34
 a31:=Tryz.isAgg34
 z31:=Tryz.sizeOf34
 v31:=Tryz.zeroValue34
 t37:=Tryz.underlying81
 a37:=Tryz.isAgg81
 z37:=Tryz.sizeOf81
 v37:=Tryz.zeroValue81
 t70:=Tryz.underlying170
 a70:=Tryz.isAgg170
 z70:=Tryz.sizeOf170
 v70:=Tryz.zeroValue170
 t72:=Tryz.underlying172
 a72:=Tryz.isAgg172
 z72:=Tryz.sizeOf172
 v72:=Tryz.zeroValue172
 t75:=Tryz.underlying125
 a75:=Tryz.isAgg125
 z75:=Tryz.sizeOf125
 v75:=Tryz.zeroValue125
 t76:=Tryz.underlying281
 a76:=Tryz.isAgg281
 z76:=Tryz.sizeOf281
 v76:=Tryz.zeroValue281
 t127:=Tryz.underlying238
 a127:=Tryz.isAgg238
 z127:=Tryz.sizeOf238
 v127:=Tryz.zeroValue238
 t164:=Tryz.underlying334
 a164:=Tryz.isAgg334
 z164:=Tryz.sizeOf334
 v164:=Tryz.zeroValue334 }
theorem Tryz.Builder_Extra_156:Builder.Extra Tryz.prog Tryz.lays156_ren:={
 sizeBuilder:=by kernel_rfl
 liesBuilder:=by kernel_rfl
 t5:=Tryz.underlying5
 a5:=Tryz.isAgg5
 z5:=Tryz.sizeOf5
 v5:=Tryz.zeroValue5
 infoByte:=by kernel_rfl
 cellsByte:=by kernel_rfl
 sizeByte:=by kernel_rfl
 neB5:=by decide }
open Go.RowKit in
open Go.RowKit in
theorem Tryz.strings_Join (bk o c:Nat) (xs:List ByteArray) (sep:ByteArray) (w:World) (hcells:∀ (j:Nat) x,xs[j]? = some x → w.cell? ⟨bk,o + j,none⟩ = some (.string x)) (hbk:bk < w.heap.size) (hN:xs.length ≤ 140737488355328) (hcap:xs.length ≤ c) (hlen:(Lib.join (xs.map (·.data.toList)) sep.data.toList).length ≤ 140737488355328) :
  Calls Tryz.prog 228 #[.slice (some ⟨bk,o,none⟩) xs.length c,.string sep] w fun e w'=>e = .returned (.string ⟨(Lib.join (xs.map (·.data.toList)) sep.data.toList).toArray⟩) ∧ Below w.heap.size w w':=Any.strings_Join Tryz.lays156 Tryz.Builder_Extra_156 bk o c xs sep w hcells hbk hN hcap hlen
end Go.Proofs
namespace Go.Proofs.YtfnkamphhpldcaaGreatDoor
open Go Go.RowKit Sx
set_option maxRecDepth 100000
theorem zxo {P:Program} {F:Fz} {f:FuncId} {args:List SV} {out:Out} (hent:Sx.Enters P f) (hz:out.z = true) (e:Ending) (he:∀ ρ,out.rel ρ e)
  (hc:∀ C ρ w,Sat C ρ [[(0,.frz F)]] 1 w → ∀ vs,relL ρ args vs → Calls P f vs.toArray w fun e' w'=>e' = e ∧ Below w.heap.size w w') :
  Fo P F f args fun o F'=>o = out ∧ F' = F:=by
 unfold Fo za6
 intro C ρ w vs S hr hbl
 refine ⟨hent,(hc C ρ w S vs hr).mono ?_⟩
 rintro e' w' ⟨rfl,hb⟩
 refine ⟨out,[[(0,.frz F)]],1,ρ,?_,he ρ,S.belowW hb,fun _ _=>rfl,qf _,?_⟩
 ·exact endFo out F rfl (Fz.r F) (Fz.r F) ⟨rfl,rfl⟩ (by
   rw [Out.ren_id (μ:=resP [[(0,.frz F)]]) (.inl hz) (fun k=>rfl)]; exact zaj out) hz
 ·have:=Out.z_below hz
  cases out with
  |ret v=>exact this
  |panic v=>trivial
theorem zwy (l:List (List UInt8)):(l.map encS).flatten = l.map SA.str:=by
 induction l with
 |nil=>rfl
 |cons x r ih=>simpa [encS] using ih
theorem join_nil (l:List (List UInt8)):Lib.join l [] = l.flatten:=by
 unfold Lib.join
 induction l with
 |nil=>rfl
 |cons x r ih=>
  cases r with
  |nil=>simp [List.intercalate]
  |cons y r=>simpa [List.intercalate] using ih
theorem z5a (F:Fz) (b:Nat) (l:List (List UInt8)) (hb:F b = some (.arr 9 1 (l.map encS) l.length)) (h0:l.length ≤ 1000) (hl:l.flatten.length ≤ 1000000000000) :
  Fo Tryz.prog F 228 [.va (.slice false 0 b 0 1 l.length l.length),.va (.str [])] (fun o F'=>o = .ret (.va (.str l.flatten)) ∧ F' = F):=by
 refine zxo (Sx.enters_of Tryz.func228 rfl (by decide)) rfl (.returned (.string ⟨l.flatten.toArray⟩)) (fun ρ=>⟨_,rfl,rfl⟩) ?_
 intro C ρ w S vs hr
 match vs,hr with
 |[v,u],⟨h1,h2,_⟩=>
  have e1:v = .slice (some ⟨b,0,none⟩) l.length l.length:=by rw [h1,SA.den,S.id0]; simp
  have e2:u = .string ⟨#[]⟩:=h2
  subst e1 e2
  obtain ⟨o,ho,hok⟩:=S.blk 0 (.frz F) rfl b (by simp [Ent.has,hb])
  rw [S.id0] at ho
  simp only [Ent.at,hb,ju,SB.ok] at hok
  obtain ⟨_,_,tail,ht,fr,_,rfl⟩:=hok
  have em:((l.map fun s=>(⟨s.toArray⟩:ByteArray)).map (·.data.toList)) = l:=by
   rw [yd]; simp [Function.comp_def]
  have ej:(Lib.join ((l.map fun s=>(⟨s.toArray⟩:ByteArray)).map (·.data.toList)) (⟨#[]⟩:ByteArray).data.toList) = l.flatten:=by rw [em]; exact join_nil l
  have hfl:=zwy l
  have hx:=Tryz.strings_Join b 0 l.length (l.map fun s=>⟨s.toArray⟩) ⟨#[]⟩ w ?_ (qz.1 ho).1 (by simp; omega) (by simp) (by rw [ej]; omega)
  ·rw [ej,qb] at hx
   exact hx
  ·intro j x hj
   have h1:=cell_of_row w b j _ _ _ ho
   rw [ji,h1,hfl]
   rw [qs] at hj
   obtain ⟨y,hy,rfl⟩:=y8.1 hj
   have hlt:=(qh.1 hy).1
   simp only [qbq]
   rw [js (by simpa using hlt),qs,qs,hy]
   rfl
theorem zli (F:Fz) (hR:RNDF F) (bm b:Nat) (mk:List UInt8) (l:List (List UInt8)) (hm:F bm = some (.cells 9 [.str mk])) (hb:F b = some (.arr 9 1 (l.map encS) l.length)) (h0:l.length ≤ 1000) (hl:l.flatten.length ≤ 900000000000) (hk:mk.length ≤ 1000) :
  Fo Tryz.prog F 227 [.va (.slice false 0 b 0 1 l.length l.length),.va (.ptr (fp bm))] (fun o _=>o = .ret (.va (.str (sumS (mk ++ l.flatten))))):=by
 have hj:=z5a F b l hb h0 (by omega)
 have hs:=z8j F hR (mk ++ l.flatten) (by rw [qa]; omega)
 refine fo_of hΘ Tryz.func227 rfl (by decide) _ _ rfl rfl rfl ?_;conv=>whnf
 refine drawP hΘ mixed (.look 0 (.look 1 (.alt 2 (.look 3 (.alt 4 (.look 5 .done) .nil)) .nil))) [] (by kernel_rfl) ?_;conv=>whnf
 refine ⟨rfl,?_⟩;conv=>whnf
 refine ⟨_,hm,?_⟩;conv=>whnf
 refine usePu (hj) rfl (zaa _) rfl ?_;conv=>whnf
 refine ⟨Fz.r F,?_⟩;conv=>whnf
 refine ⟨by omega,?_⟩;conv=>whnf
 refine useFo hs rfl (zaa _) rfl ?_
 rintro _ F1 l1 rfl;conv=>whnf
 refine ⟨l1,?_⟩;conv=>whnf
 exact endFo (.ret (.va (.str (sumS (mk ++ l.flatten))))) F1 rfl l1 (Fz.r F1) rfl (zaj _) rfl
theorem z4j (F:Fz) (hR:RNDF F) (s:List UInt8) (hs:s.length ≤ 900000000000):Fo Tryz.prog F 112 [.va (.str s)] (fun o _=>o = .ret (.va (.str (leafS s)))):=by
 refine fo_of hΘ Tryz.func112 rfl (by decide) _ _ rfl rfl rfl ?_;conv=>whnf
 refine zg1 hΘ Tryz.func173 rfl (by decide) _ _ rfl rfl rfl (zci hΘ _ _ _ ?_);conv=>whnf
 refine za0 1 (fun _=>.cells 9 [.str [0]]) rfl rfl rfl (fun _ _=>rfl) (fun _ _=>SB.bB_ok rfl) ?_
 intro b1 F1 l1 hb1
 refine za0 2 (fun _=>.arr 9 1 ([s].map encS) 1) rfl rfl rfl (fun _ _=>rfl) (fun _ _=>SB.bB_ok rfl) ?_
 intro b2 F2 l2 hb2
 have h1:=zli F2 ((hR.mono l1).mono l2) (b1 0) (b2 0) [0] [s] (l2 _ _ (hb1 0 rfl)) (hb2 0 rfl) (by simp) (by simpa using hs) (by simp)
 refine useFo h1 rfl ⟨⟨rfl,rfl,rfl,.inr ⟨rfl,rfl,rfl,rfl⟩⟩,rfl,tv⟩ rfl ?_
 rintro _ F3 l3 rfl;conv=>whnf
 exact endFo (.ret (.va (.str (leafS s)))) F3 rfl (Fz.t l1 (Fz.t l2 l3)) (Fz.r F3) rfl (congrArg (fun x=>SA.str (sumS x)) (by simp)) rfl
theorem zw8 (F:Fz) (hR:RNDF F) (s t:List UInt8) (hs:s.length ≤ 100000000000) (ht:t.length ≤ 100000000000):Fo Tryz.prog F 113 [.va (.str s),.va (.str t)] (fun o _=>o = .ret (.va (.str (nodeS s t)))):=by
 refine fo_of hΘ Tryz.func113 rfl (by decide) _ _ rfl rfl rfl ?_;conv=>whnf
 refine zg1 hΘ Tryz.func173 rfl (by decide) _ _ rfl rfl rfl (zci hΘ _ _ _ ?_);conv=>whnf
 refine za0 1 (fun _=>.cells 9 [.str [1]]) rfl rfl rfl (fun _ _=>rfl) (fun _ _=>SB.bB_ok rfl) ?_
 intro b1 F1 l1 hb1
 refine za0 2 (fun _=>.arr 9 1 ([s,t].map encS) 2) rfl rfl rfl (fun _ _=>rfl) (fun _ _=>SB.bB_ok rfl) ?_
 intro b2 F2 l2 hb2
 have h1:=zli F2 ((hR.mono l1).mono l2) (b1 0) (b2 0) [1] [s,t] (l2 _ _ (hb1 0 rfl)) (hb2 0 rfl) (by simp) (by simp; omega) (by simp)
 refine useFo h1 rfl ⟨⟨rfl,rfl,rfl,.inr ⟨rfl,rfl,rfl,rfl⟩⟩,rfl,tv⟩ rfl ?_
 rintro _ F3 l3 rfl;conv=>whnf
 exact endFo (.ret (.va (.str (nodeS s t)))) F3 rfl (Fz.t l1 (Fz.t l2 l3)) (Fz.r F3) rfl (congrArg (fun x=>SA.str (sumS x)) (by simp)) rfl
end Go.Proofs.YtfnkamphhpldcaaGreatDoor
namespace Sx
open Go
variable {P:Program} {C:Ctx} {ρ:Rho} {h:Hp} {nx:Nat} {w:World}
theorem Sat.ent (s:Sat C ρ h nx w) {i:Nat} {e e':Ent} (he:lget h i = some e) (hp:e.plain = true) (hp':e'.plain = true) (hh:∀ k,e'.has k ↔ e.has k) (ha:∀ k,e.has k → e'.at k = e.at k):Sat C ρ (lput h i e') nx w:=by
 have hown:∀ j k,St.owns (lput h i e') j k → St.owns h j k:=by
  rintro j k ⟨x,hx,hk⟩
  by_cases hj:j = i
  ·subst hj; rw [zaf] at hx; cases hx; exact ⟨_,he,(hh k).1 hk⟩
  ·rw [zad _ _ _ _ hj] at hx; exact ⟨_,hx,hk⟩
 have hi0:=s.ne0 he hp
 exact { s with
  lt:=fun j x hx=>by
   by_cases hj:j = i
   ·subst hj; exact s.lt _ _ he
   ·rw [zad _ _ _ _ hj] at hx; exact s.lt _ _ hx
  blk:=fun j x hx k hk=>by
   by_cases hj:j = i
   ·subst hj; rw [zaf] at hx; cases hx
    rw [ha k ((hh k).1 hk)]; exact s.blk _ _ he k ((hh k).1 hk)
   ·rw [zad _ _ _ _ hj] at hx; exact s.blk _ _ hx k hk
  wf:=fun j x hx k hk=>by
   by_cases hj:j = i
   ·subst hj; rw [zaf] at hx; cases hx
    rw [ha k ((hh k).1 hk)]; exact s.wf _ _ he k ((hh k).1 hk)
   ·rw [zad _ _ _ _ hj] at hx; exact s.wf _ _ hx k hk
  inj:=fun a b c d h1 h2=>s.inj a b c d (hown _ _ h1) (hown _ _ h2)
  own:=fun a b h1=>s.own a b (hown _ _ h1)
  fz:=by rw [zad _ _ _ _ (Ne.symm hi0)]; exact s.fz
  only:=fun j F hF=>by
   by_cases hj:j = i
   ·subst hj; rw [zaf] at hF; cases hF; cases hp'
   ·rw [zad _ _ _ _ hj] at hF; exact s.only _ _ hF
  lnk:=fun j b hl=>by
   by_cases hj:j = i
   ·subst hj; rw [zaf] at hl; cases hl; cases hp'
   ·rw [zad _ _ _ _ hj] at hl; exact s.lnk _ _ hl }
abbrev fam1 (b:SB):Ent:=.fam 1 (fun _=>true) (fun _=>b)
theorem zx2 (b:SB) (k:Nat):(fam1 b).has k ↔ (Ent.one b).has k:=by simp [Ent.has]
theorem famW {c:Code} {st:St} {Q:SE → St → Prop} (i:Nat) {b:SB} (he:lget st.h i = some (.one b)) (hk:WP P c { st with h:=lput st.h i (fam1 b) } Q):WP P c st Q:=by
 unfold WP at *
 intro C ρ a w D
 exact hk C ρ a w { sat:=D.sat.ent he rfl rfl (zx2 b) (fun _ _=>rfl),nt:=D.nt,tm:=D.tm,tw:=D.tw,n0:=D.n0,df:=D.df,dw:=D.dw }
end Sx
namespace Go.Proofs.YtfnkamphhpldcaaGreatDoor
open Go Go.RowKit Sx
set_option maxRecDepth 100000
def z7c (bs:Nat) (W:World):Prop:=∃ p c,W.cell? ⟨bs,0,none⟩ = some (.slice p 0 c)
theorem zzh (F:Fence) (n:Nat) (hF:F.fn 177) (hro:F.round = none) (hn:1 ≤ n) (bs:Nat) (encs:Nat → Array Value) :
  SeqP F n Tryz.prog 177 #[.pointer (some ⟨bs,0,none⟩)] encs 0 (z7c bs):=by
 intro l J W hJ hY h0
 refine callsIn_of_wp Tryz.func177 rfl hF ?_ hro
 simp only [Tryz.ntmps177,yv,qe,qp,Nat.reduceAdd,Nat.reduceSub,yx,yy,qaf,y9,qu,jt]
 obtain ⟨⟨p,c,hc⟩,_⟩:=hJ 0 W h0
 gi_wp2
 gi_loopw [3] (fun v wr=>v = .int .i64 (-1) ∧ J 0 wr) (fun _ _=>0)
 case atStart=>exact ⟨rfl,h0⟩
 case round=>
  obtain ⟨rfl,hj⟩:=hrel
  gi_wp2
  exact bodyPost_end (results_none rfl _ _ _) rfl ⟨⟨_,rfl⟩,hj⟩
theorem zs7 {st:St} {Q:SE → St → Prop} {is ib k0 e sz c:Nat} {nl:Bool} (h89:lget st.t 89 = some (.va (.fn (.func 177) [⟨is,0,0,0,0⟩]))) (hd:st.d = [])
  (hs:lget st.h is = some (.one (.cells 34 [.slice nl ib k0 e sz 0 c]))) {assign body:Code}
  (hQ:Q .normal { st with h:=lput st.h st.nx (.one (.obj (.deferred (some [])))),nx:=st.nx + 1,d:=[(.col,[.iter st.nx 0])] }) :
  WP Tryz.prog (.rangeFunc (.tmp 89) #[90,91] assign body) st Q:=by
 unfold WP
 intro C ρ a w D
 obtain ⟨u,t89,e89⟩:=D.tm 89 _ h89
 have e89':u = .func (.func 177) #[] #[.pointer (some ⟨ρ is 0,0,none⟩)]:=e89
 subst e89'
 have heg:∀ (args:Array Value) (w:World),(callFunc 177 args).run Tryz.prog w = .ok (.enter 177 args) w:=by
  have h:=Sx.enters_of (P:=Tryz.prog) Tryz.func177 rfl (by decide)
  unfold Sx.Enters at h
  exact h
 refine (wpIn_wide (n:=3)).1 (zft (F:=Fence.wide) (n:=3) rfl (by omega) (gf:=177) (lb:=#[.pointer (some ⟨ρ is 0,0,none⟩)]) ?hg trivial heg
  (zzh Fence.wide 2 trivial rfl (by omega) (ρ is 0) (fun _=>#[undef,undef])) (fun _=>rfl)
  (fun k W=>k = 0 ∧ Sat C ρ st.h st.nx W) ?ok ?drew ?put ?h0 (fun _=>{ tmps:=(#[90,91].zip #[undef,undef]).foldl (fun t (p,v)=>t.setIfInBounds p v) a.tmps,defers:=[] }) ?assign ?body ?done)
 case hg=>simp [Act.eval,t89]
 case ok=>
  rintro k A ⟨_,S⟩
  exact ⟨_,_,cell_of S hs⟩
 case drew=>rintro k A ⟨hk,S⟩; exact ⟨hk,S.drew⟩
 case put=>
  rintro k A l o o' hl hA hcell ⟨hk,S⟩
  refine ⟨hk,S.putObj (fun i j ho=>?_) (jk D.sat.size hl)⟩
  have h1:=D.sat.blt ho
  omega
 case h0=>
  intro o1 o2
  exact ⟨rfl,D.sat.belowW (((Below.refl _ w).alloc (qf _) _).alloc (by simp) _)⟩
 case assign=>intro l k W K hk; exact absurd hk (qb0 _)
 case body=>intro l k W hk; exact absurd hk (qb0 _)
 case done=>
  rintro Dd W hD ⟨_,S⟩ hDd
  have hun:∀ i j,St.owns st.h i j → ρ i j ≠ Dd:=fun i j ho=>by
   have h1:=D.sat.blt ho
   omega
  have S2:=S.adopt hDd (jk D.sat.size hD) hun
  refine ⟨.normal,_,rext ρ st.nx Dd,hQ,rfl,?_⟩
  have hag2:∀ i,i < st.nx → rext ρ st.nx Dd i = ρ i:=fun i hi=>zdp hi
  exact { sat := S2, nt := D.nt, n0 := D.n0
          tm:=fun i s hi=>by
           obtain ⟨u,hu,hr⟩:=D.tm i s hi
           exact ⟨u,hu,SV.rel_congr hag2 (D.tw i s hi) hr⟩
          tw:=fun i s hi=>SV.below_mono (yz _) (D.tw i s hi)
          df:=by
           show { target:=.collected Dd,args:=#[] } :: a.defers = [defOf (rext ρ st.nx Dd) (.col,[.iter st.nx 0])]
           rw [D.df,hd]
           simp [defOf,defV,SA.den,blkOf,zbc]
          dw:=by
           intro x hx y hy
           rcases qy.1 hx with rfl
           rcases qy.1 hy with rfl
           exact qbt _ }
end Go.Proofs.YtfnkamphhpldcaaGreatDoor
namespace Go.Proofs.YtfnkamphhpldcaaGreatDoor
open Go Sx
set_option maxRecDepth 100000
abbrev Stk:=List (List UInt8 × Nat)
def mergeK:Nat → Stk → Stk
 |0,s=>s
 |f + 1,s=>match s with
  |(b,n) :: (a,m) :: r=>if m = n then mergeK f ((nodeS a b,2 * n) :: r) else s
  |s=>s
def merge (s:Stk):Stk:=mergeK s.length s
theorem zgw:∀ (f:Nat) (s:Stk),s.length ≤ f → mergeK f s = merge s
 |0,[],_=>rfl
 |f + 1,[],_=>rfl
 |f + 1,[x],_=>rfl
 |f + 1,(b,n) :: (a,m) :: r,h=>by
  have h1:r.length + 1 ≤ f:=by simp at h; omega
  show mergeK (f + 1) _ = mergeK (r.length + 2) _
  rw [mergeK,mergeK]
  split
  ·rw [zgw f _ (by simpa using h1),zgw (r.length + 1) _ (by simp)]
  ·rfl
theorem zd1 {a b:List UInt8} {n m:Nat} {r:Stk} (h:m = n):merge ((b,n) :: (a,m) :: r) = merge ((nodeS a b,2 * n) :: r):=by
 show mergeK (r.length + 2) _ = _
 rw [mergeK,if_pos h,zgw (r.length + 1) _ (by simp)]
theorem zhy {a b:List UInt8} {n m:Nat} {r:Stk} (h:m ≠ n):merge ((b,n) :: (a,m) :: r) = (b,n) :: (a,m) :: r:=by
 show mergeK (r.length + 2) _ = _
 rw [mergeK,if_neg h]
theorem zhm (x:List UInt8 × Nat):merge [x] = [x]:=rfl
def pushS (s:Stk) (x:List UInt8):Stk:=merge ((leafS x,1) :: s)
def stackF (l:List (List UInt8)):Stk:=l.foldl pushS []
theorem zp1 (l:List (List UInt8)) (x:List UInt8):stackF (l ++ [x]) = merge ((leafS x,1) :: stackF l):=by
 unfold stackF
 rw [qaq,y4,qav,pushS]
def Gd (k:Nat) (s:Stk):Prop:=(∀ y ∈ s,y.1.length = 32) ∧ (s.map (·.2)).sum = k
theorem Gd.join {k n m:Nat} {a b:List UInt8} {r:Stk} (h:Gd k ((b,n) :: (a,m) :: r)) (e:m = n):Gd k ((nodeS a b,2 * n) :: r):=by
 obtain ⟨h1,h2⟩:=h
 refine ⟨fun y hy=>?_,?_⟩
 ·rcases qj.1 hy with rfl | hy
  ·rfl
  ·exact h1 y (by simp [hy])
 ·subst e
  simp only [qx,qc4] at h2 ⊢
  omega
theorem Gd.leaf {k:Nat} {s:Stk} (h:Gd k s) (x:List UInt8):Gd (k + 1) ((leafS x,1) :: s):=by
 obtain ⟨h1,h2⟩:=h
 refine ⟨fun y hy=>?_,?_⟩
 ·rcases qj.1 hy with rfl | hy
  ·rfl
  ·exact h1 y hy
 ·simp only [qx,qc4,h2]; omega
theorem Gd.mergeK:∀ {f k:Nat} {s:Stk},Gd k s → Gd k (mergeK f s)
 |0,_,_,h=>h
 |f + 1,_,[],h=>h
 |f + 1,_,[_],h=>h
 |f + 1,_,(b,n) :: (a,m) :: r,h=>by
  rw [Go.Proofs.YtfnkamphhpldcaaGreatDoor.mergeK]
  split
  ·rename_i e; exact Gd.mergeK (h.join e)
  ·exact h
theorem Gd.stackF:∀ (l:List (List UInt8)),Gd l.length (stackF l):=by
 have h:∀ (l:List (List UInt8)) (k:Nat) (s:Stk),Gd k s → Gd (k + l.length) (l.foldl pushS s):=by
  intro l
  induction l with
  |nil=>intro k s h; exact h
  |cons x r ih=>
   intro k s h
   have h1:=ih (k + 1) (pushS s x) (Gd.mergeK (h.leaf x))
   rw [y4,qe,show k + (r.length + 1) = k + 1 + r.length by omega]
   exact h1
 intro l
 have:=h l 0 [] ⟨by simp,rfl⟩
 rwa [ji] at this
theorem z8c (x0 x1 x2 x3 x4 x5 x6 x7:List UInt8):stackF [x0,x1,x2,x3,x4,x5,x6,x7] = [(root8 [x0,x1,x2,x3,x4,x5,x6,x7],8)]:=by
 simp only [stackF,y4,qav,pushS]
 rw [zhm,zd1 rfl,zhm,zhy (by decide),zd1 rfl,zd1 (by rfl),zhm,zhy (by decide),zd1 rfl,zhy (by decide),zhy (by decide),zd1 rfl,zd1 (by rfl),zd1 (by rfl),zhm]
 rfl
end Go.Proofs.YtfnkamphhpldcaaGreatDoor
