import Derived.Test.YtfnkamphhpldcaaGreatDoorK23
import Derived.Test.YtfnkamphhpldcaaGreatDoorK12
import Derived.Shelf.Strings.OnBuilder
import Derived.Test.YtfnkamphhpldcaaGreatDoorProg
import Derived.Test.YtfnkamphhpldcaaGreatDoorK22
set_option maxHeartbeats 64000000
namespace Go.Proofs.YtfnkamphhpldcaaGreatDoor
open Go Go.RowKit Sx Tryz
set_option maxRecDepth 100000
theorem s9(k:Nat)(L:List UInt8)(v:W8):bY (k+1) L v=fQ ((L.drop (64*k)).take 64) (bY k L v):=by
 unfold bY;rw[qay,qas,qaj,qbx]
theorem ta(L:List UInt8)(v:W8):bY 0 L v=v:=by
 unfold bY;rw[List.range_zero,qbx]
theorem ue(k:Nat)(L:List UInt8)(v:W8)(h:v.Ok):(bY k L v).Ok:=by
 cases k with
 |zero=>rw[ta];exact h
 |succ k=>rw[s9];exact yce _ _
theorem cell_of{C:Ctx}{ρ:Rho}{h:Hp}{nx:Nat}{w:World}(S:Sat C ρ h nx w){i t:Nat}{x:SA}(b:lget h i=some (.one (.cells t [x]))):w.cell? ⟨ρ i 0,0,none⟩=some (x.den ρ):=by
 obtain⟨o,c,a⟩:=S.blk i _ b 0 rfl;have d:RowAt w (ρ i 0) t [x.den ρ]:=⟨o,c,a⟩
 rw[d.cell 0];rfl
abbrev wE(v:W8):Ent:=.one (.cells 246 (w8 v))
theorem Df{F1:Fz}(hR:RNDF F1){f:St}{Q:SE->St->Prop}{ih is inn ib r c m n0:Nat}{b:Nat->Nat}{v:W8}(hv:v.Ok){L:List UInt8}(au:n0=64*m)(hL:L.length=64*m)(hm:m<=1000000000000000)(hc:64*m<=c)
  (h3:lget f.t 3=some (.va (.ptr ⟨ih,0,0,0,0⟩)))(aj:lget f.t 34=some (.va (.fn (.func 229) [⟨is,0,0,0,0⟩,⟨inn,0,0,0,0⟩])))(O:f.nt=40)(hd:f.d=[])
  (hF:lget f.h 0=some (.frz F1))(hh:lget f.h ih=some (wE v))(hs:lget f.h is=some (.one (.cells 81 [.slice false ib 0 0 1 n0 c])))(hn:lget f.h inn=some (.one (.cells 3 [.int .i64 64])))(hb:lget f.h ib=some (.lnk b))(ae:F1 (b 0)=some (.arr 5 1 (L.map encB) r))
  {o1 o2 o3:Oper}{i1 i2 i3:Nat}{ts:Array TypeId}(p1:o1.op=.assign (.tmp 35))(p2:o1.dst=some 6)(p3:o1.guard=none)(p4:o2.op=.move (.tmp 6))(p5:o2.dst=some 36)(p6:o2.guard=none)(p7:o3.op=.call ⟨.value (.func 175),#[.tmp 3,.tmp 36],ts⟩)(p8:o3.guard=none)
  (hQ:Q .normal { f with h:=lput (lput f.h ih (wE (bY m L v))) f.nx (.one (.obj (.deferred (some [])))),nx:=f.nx+1,d:=[(.col,[.iter f.nx 0])] }):
  WP prog (.rangeFunc (.tmp 34) #[35] (.region i1 #[o1] false) (.block i2 (.region i3 #[o2,o3] false))) f Q:=by
 subst au;unfold WP;intro C ρ a w D;have nh:ih≠0:=D.sat.ne0 hh rfl;have a2:is≠ih:=by rintro rfl;rw[hh]at hs;cases hs
 have a1:inn≠ih:=by rintro rfl;rw[hh]at hn;cases hn
 have a5:ib≠ih:=by rintro rfl;rw[hh]at hb;cases hb
 have ay:ib < f.nx:=D.sat.lt _ _ hb;have a0:is < f.nx:=D.sat.lt _ _ hs;have az:inn < f.nx:=D.sat.lt _ _ hn;have V:ih < f.nx:=D.sat.lt _ _ hh;obtain⟨u3,t3,e3⟩:=D.tm 3 _ h3;obtain⟨a3,t34,ai⟩:=D.tm 34 _ aj;have ah:u3=.pointer (some ⟨ρ ih 0,0,none⟩):=e3;have Y:a3=.func (.func 229) #[] #[.pointer (some ⟨ρ is 0,0,none⟩),.pointer (some ⟨ρ inn 0,0,none⟩)]:=ai;subst ah Y;have G:∀k i,i≠ih->lget (lput f.h ih (wE (bY k L v))) i=lget f.h i:=fun k i q=>aN _ _ _ _ q
 have p:∀k i j,St.owns (lput f.h ih (wE (bY k L v))) i j->St.owns f.h i j:=by
  rintro k i j ⟨e,M,hj⟩;by_cases q:i=ih
  ·subst q;rw[aR]at M;cases M;exact⟨_,hh,hj⟩
  ·rw[G k i q]at M;exact⟨e,M,hj⟩
 have aq:∀(args:Array Value) (w:World),(callFunc 229 args).run prog w=.ok (.enter 229 args) w:=by
  have h:=Sx.enters_of (P:=prog) func229 rfl dd;unfold Sx.Enters at h;exact h
 refine(wpIn_wide (n:=3)).1 (sS (F:=Fence.wide) (n:=3) rfl oo (gf:=229) (lb:=#[.pointer (some ⟨ρ is 0,0,none⟩),.pointer (some ⟨ρ inn 0,0,none⟩)]) ?hg trivial aq
  (zp Fence.wide 2 trivial rfl oo (ρ is 0) (ρ inn 0) (ρ ib 0) m c hm hc) (fun _=>rfl)
  (fun k W=>∃B,(∀i,i < f.nx->B i=ρ i)/\Sat C B (lput f.h ih (wE (bY k L v))) f.nx W) ?ok ?drew ?put ?h0
  (fun k=>{ tmps:=(a.tmps.setIfInBounds 35 (.slice (some ⟨ρ ib 0,64*k,none⟩) 64 64)).setIfInBounds 6 (.slice (some ⟨ρ ib 0,64*k,none⟩) 64 64),defers:=[] }) ?assign ?body ?done)
 case hg=>simp[Act.eval,t34]
 case ok=>
  rintro k A ⟨B,g,S⟩;refine⟨?_,?_⟩
  ·have:=cell_of S (by rw[G k is a2];exact hs);rw[g is a0]at this;rw[this];simp[SA.den,g ib ay]
  ·have:=cell_of S (by rw[G k inn a1];exact hn);rw[g inn az]at this;exact this
 case drew=>rintro k A ⟨B,g,S⟩;exact⟨B,g,S.drew⟩
 case put=>
  rintro k A l o o' hl hA an ⟨B,g,S⟩;refine⟨B,g,S.putObj (fun i j T=>?_) (jm D.sat.size hl)⟩;have h1:=D.sat.blt (p k i j T);rw[<-g i (by obtain⟨e,M,_⟩:=p k i j T;exact D.sat.lt _ _ M)]at h1;omega
 case h0=>
  intro o1 o2;refine⟨ρ,fun _ _=>rfl,?_⟩;refine(D.sat.same fun i=>?_).belowW (((Below.refl _ w).alloc (qj _) _).alloc ss _);by_cases q:i=ih
  ·subst q;rw[aR,hh,ta]
  ·exact G 0 i q
 case assign=>
  intro l k W K _ hK;refine wpIn_region_list ?_;refine sZ (.inr p1) p3 (v:=.slice (some ⟨ρ ib 0,64*k,none⟩) 64 64) ?_ ?_
  ·have:35 < a.tmps.size:=by rw[D.nt,O];omega
   simp[Act.eval,nM,this]
  ·rw[p2];refine(congrArg (fun x=>K x W) ?_).mpr hK;simp[Act.put,nM]
 case body=>
  rintro l k W hk ⟨B,g,S⟩ ⟨x1,aw⟩ ⟨x2,ax⟩;refine wpIn_block (wpIn_region_list ?_);refine sZ (.inl p4) p6 (v:=.slice (some ⟨ρ ib 0,64*k,none⟩) 64 64) ?_ ?_
  ·have h6:6 < a.tmps.size:=by rw[D.nt,O];omega
   simp[Act.eval,h6]
  rw[p5]
  have af:Sl F1 5 1 encB (.slice false 0 (b 0) (64*k) 1 64 64) ((L.drop (64*k)).take 64):=by
   have E:((L.drop (64*k)).take 64).length=64:=by rw[qn,yl];omega
   refine⟨false,b 0,64*k,64,L.map encB,r,by rw[E],(fun h=>by cases h),fun _=>ae,by rw[E,qa];omega,?_⟩;rw[E,qde,List.map_drop]
  have E:((L.drop (64*k)).take 64).length=64:=by rw[qn,yl];omega
  have ab:=yfb F1 hR _ _ (bY k L v) af E (ue k L v hv);have Z:lget (lput f.h ih (wE (bY k L v))) 0=some (.frz F1):=by rw[G k 0 (Ne.symm nh)];exact hF
  have aa:lget (lput f.h ih (wE (bY k L v))) ih=some (wE (bY k L v)):=aR _ _ _;have U:resP (lput f.h ih (wE (bY k L v))) ih 0=(ih,0):=by unfold resP;rw[aa]
  have J:resP (lput f.h ih (wE (bY k L v))) 0 (b 0)=(0,b 0):=by unfold resP;rw[Z]
  have ap:za7 prog 175 [.va (.ptr ⟨ih,0,0,0,0⟩),.va (.slice false 0 (b 0) (64*k) 1 64 64)] (lput f.h ih (wE (bY k L v))) f.nx
    (fun out h' ag=>out=.ret (.tup [])/\ag=f.nx/\∀i,lget h' i=lget (lput f.h ih (wE (bY (k+1) L v))) i):=by
   refine use ab [(1,.to ih)] Z ⟨?_,⟨rfl,rfl,rfl,.inr ⟨?_,?_,rfl,rfl⟩⟩,tv⟩ ?_ ⟨fw 2 246 (bY k L v),tv⟩ (by simp[SV.below,SA.below]) ⟨?_,tv⟩ ?_
   ·show SA.ptr _=SA.ptr ⟨(resP (lput f.h ih (wE (bY k L v))) ih 0).1,(resP (lput f.h ih (wE (bY k L v))) ih 0).2,0,0,0⟩;rw[U];rfl
   ·show 0=(resP (lput f.h ih (wE (bY k L v))) 0 (b 0)).1;rw[J]
   ·show b 0=(resP (lput f.h ih (wE (bY k L v))) 0 (b 0)).2;rw[J]
   ·have e1:Nat.ble (ih+1) f.nx=true:=qbc V
    have e2:Nat.beq 0 ih=false:=by cases ih with
     |zero=>exact absurd rfl nh
     |succ n=>rfl
    simp[chkU,isTo,kC,injOn,sig,aget,Mv.at,wfl,Sx.distinct,covers,noFz,e1,e2]
   ·have hg:aget [(1,Mv.to ih)] 1=some (.to ih):=rfl;rw[hg];show subE (lget (lput f.h ih (wE (bY k L v))) ih) (Ent.ren (sig [(1,Mv.to ih)]) (Ent.one (SB.cells 246 (w8 (bY k L v)))));rw[aa];rfl
   ·rintro _ F2 _ _ _ ⟨rfl,am,rfl,rfl⟩;rw[am];refine⟨rfl,rfl,fun i=>?_⟩;show lget (lput (lput (lput f.h ih (wE (bY k L v))) ih _) 0 (.frz F1)) i=_;by_cases h0:i=0
    ·subst h0;rw[aR,aN _ _ _ _ (Ne.symm nh)];exact hF.symm
    ·rw[aN _ _ _ _ h0];by_cases h1:i=ih
     ·subst h1;rw[aR,aR,s9];rfl
     ·rw[aN _ _ _ _ h1,aN _ _ _ _ h1,aN _ _ _ _ h1]
  have ao:=Eb ap S (vs:=[.pointer (some ⟨ρ ih 0,0,none⟩),.slice (some ⟨ρ ib 0,64*k,none⟩) 64 64]) ?hrel ?hbel
  ·have ac:Sx.Enters prog 175:=Sx.enters_of func175 rfl dd;refine C3 p7 p8 ac ?_ ao ?_
   ·have h6:6 < a.tmps.size:=by rw[D.nt,O];omega
    have ak:36 < a.tmps.size:=by rw[D.nt,O];omega
    simp[Act.eval,Act.put,ak,t3]
   ·rintro e w' ⟨out,h',ag,ρ2,⟨rfl,rfl,ar⟩,⟨u,rfl,_⟩,S2,I,_,ad⟩;refine⟨u,rfl,?_⟩;show(∀b,(b=w.heap.size\/b=w.heap.size+1)->w'.heap[b]? =W.heap[b]?)/\_
    have R:∀bb,w.heap.size<=bb->∀i j,i≠0->St.owns (lput f.h ih (wE (bY k L v))) i j->B i j≠bb:=fun bb a4 i j _ T=>by
     have h1:=D.sat.blt (p k i j T);rw[<-g i (by obtain⟨e,M,_⟩:=p k i j T;exact D.sat.lt _ _ M)]at h1;omega
    refine⟨?_,ρ2,fun i q=>by rw[I i q,g i q],S2.same fun i=>(ar i).symm⟩;rintro bb (rfl | rfl)
    ·exact ad _ (jp.1 aw).1 (R _ (qj _))
    ·exact ad _ (jp.1 ax).1 (R _ (qac _))
  case hrel=>
   have f1:B ih=ρ ih:=g ih V;have f2:B 0 (b 0)=ρ ib 0:=by rw[S.id0,D.sat.lnk ib b hb 0]
   refine⟨?_,?_,tv⟩
   ·show _=Value.pointer (some ⟨B ih 0,0*0+0,none⟩);rw[f1]
   ·show _=Value.slice (some ⟨B 0 (b 0),64*k*1,none⟩) 64 64;rw[f2,qda]
  case hbel=>
   intro s hs;rcases qi.1 hs with rfl | hs
   ·exact V
   ·rcases qs.1 hs with rfl;exact .inr S.pos
 case done=>
  rintro X W hD ⟨B,g,S⟩ al
  have av:∀i j,St.owns (lput f.h ih (wE (bY m L v))) i j->B i j≠X:=fun i j T=>by
   have h1:=D.sat.blt (p m i j T);rw[<-g i (by obtain⟨e,M,_⟩:=p m i j T;exact D.sat.lt _ _ M)]at h1;omega
  have S2:=S.adopt al (jm D.sat.size hD) av;refine⟨.normal,_,rext B f.nx X,hQ,rfl,?_⟩;have I:∀i,i < f.nx->rext B f.nx X i=ρ i:=fun i q=>by rw[eK q,g i q]
  exact{ sat:=S2,nt:=D.nt,n0:=D.n0
         tm:=fun i s q=>by
          obtain⟨u,hu,hr⟩:=D.tm i s q;exact⟨u,hu,SV.rel_congr I (D.tw i s q) hr⟩
         tw:=fun i s q=>SV.below_mono (qac _) (D.tw i s q)
         df:=by
          show{ target:=.collected X,args:=#[] }::a.defers=[defOf (rext B f.nx X) (.col,[.iter f.nx 0])];rw[D.df,hd];simp[defOf,defV,SA.den,blkOf,dg]
         dw:=by
          intro x hx y hy;rcases qs.1 hx with rfl;rcases qs.1 hy with rfl;exact qcq _ }
end Go.Proofs.YtfnkamphhpldcaaGreatDoor
namespace Go.Proofs.YtfnkamphhpldcaaGreatDoor
open Go Sx Tryz
set_option maxRecDepth 100000
def padJ(s:List UInt8)(j:Nat):List UInt8:=s++[128]++List.replicate j 0
theorem xR(s:List UInt8)(j:Nat):(padJ s j).length=s.length+1+j:=by simp[padJ];omega
theorem Ay(s:List UInt8)(j:Nat):padJ s (j+1)=padJ s j++[0]:=by
 unfold padJ;rw[qdz,<-ql]
def lenJ(s:List UInt8)(i:Nat):List UInt8:=padJ s (padZ s.length)++(len8 s.length).take i
theorem wT(s:List UInt8){i:Nat}(h:i<=8):(lenJ s i).length=s.length+1+padZ s.length+i:=by
 have:(len8 s.length).length=8:=rfl;simp[lenJ,xR];omega
theorem ER(n:Nat):(n+1+padZ n) % 64=56/\padZ n < 64/\∀j,j < padZ n->(n+1+j) % 64≠56:=by
 unfold padZ;refine⟨by omega,by omega,fun j a=>by omega⟩
abbrev rowY(L:List UInt8)(c:Nat):Ent:=.one (.arr 5 1 (L.map encB) c)
theorem kA(μ:Mu)(L:List UInt8)(c:Nat):(SB.arr 5 1 (L.map encB) c).ren μ=SB.arr 5 1 (L.map encB) c:=by
 show SB.arr 5 1 ((L.map encB).map (List.map (SA.ren μ))) c=_;rw[q8];congr 1
theorem jR(n:Nat)(L:List UInt8)(c:Nat):(SB.arr 5 1 (L.map encB) c).below n:=by
 intro x d a b;obtain⟨s,_,rfl⟩:=jk.1 d;rcases qs.1 b with rfl;trivial
def lb(n i:Nat):UInt8:=(len8 n)[i]?.getD 0
theorem zZ(s:List UInt8){i:Nat}(h:i < 8):lenJ s (i+1)=lenJ s i++[lb s.length i]:=by
 unfold lenJ lb;rw[qe (show i < (len8 s.length).length from h),ql,qc (show i < (len8 s.length).length from h)];rfl
theorem Cp{i:Nat}(h:i < 8):0<=IntKind.i64.wrap (8*(7 - (i:Int))):=by rw[aF oo oo];omega
theorem lenB{n:Nat}(d:Nat)(b:n<=1000000000000)(a:d<=56):IntKind.u8.wrap (shrI .i64 (IntKind.i64.wrap (8*(n:Int))) (d:Int))=((UInt8.ofNat (8*n / 2^d)).toNat:Int):=by
 have e:shrI .i64 (IntKind.i64.wrap (8*(n:Int))) (d:Int)=((8*n / 2^d:Nat):Int):=by
  unfold shrI;rw[aF oo oo,qg,show IntKind.i64.bits=64 from rfl,qao oo,qba _ (by have:=qd9 (n:=2) (m:=d) oo;omega)]
  push_cast;rfl
 rw[e,qap];show((8*n / 2^d:Nat):Int) % 256=_;omega
theorem ydl{n i:Nat}(b:n<=1000000000000)(h:i < 8):IntKind.u8.wrap (shrI .i64 (IntKind.i64.wrap (8*(n:Int))) (IntKind.i64.wrap (8*(7 - (i:Int)))))=((lb n i).toNat:Int):=by
 have e:IntKind.i64.wrap (8*(7 - (i:Int)))=((8*(7 - i):Nat):Int):=by rw[aF oo oo];omega
 rw[e,lenB _ b oo];have a:i=0\/i=1\/i=2\/i=3\/i=4\/i=5\/i=6\/i=7:=by omega
 rcases a with rfl | rfl | rfl | rfl | rfl | rfl | rfl | rfl
 ·rfl
 ·rfl
 ·rfl
 ·rfl
 ·rfl
 ·rfl
 ·rfl
 ·show(((UInt8.ofNat (8*n / 2^0)).toNat:Nat):Int)=(((UInt8.ofNat (8*n)).toNat:Nat):Int);rw[Nat.pow_zero,Nat.div_one]
theorem ybv{P:Program}{Θ:Tys}(hΘ:Θ.Ok P){f:FuncId}{fn:Func}{c:Code}{args:List SV}{F:Fz}{Q:Out->Fz->Prop}(e:P.funcs[f]? =some fn)(hb:fn.body=some c)(h:(fn.name== "runtime.NumGoroutine")=false)
  (nt:Nat)(d:List ResultVar)(a:fn.ntmps=nt)(b:fn.results.toList=d)(g:Nat.ble args.length nt=true)
  (i:sx P Θ c ⟨[dV 0 args],[[(0,.frz F)]],1,1,nt,[]⟩ (endQC Θ d (Cln 1 (FoK F Q)))):Fo P F f args Q:=
 Bq hΘ e hb h nt d a b g (ef hΘ _ _ _ i)
theorem rF:init8.Ok:=by constructor<;>decide
theorem Az(s:List UInt8):padded s=lenJ s 8:=by
 unfold padded lenJ padJ;rw[qk (show(len8 s.length).length<=8 from qj 8)]
theorem yg4(F:Fz)(Y:RNDF F)(s:List UInt8)(hs:s.length<=1000000000000):Fo prog F 114 [.va (.str s)] (fun o _=>o=.ret (.va (.str (sumS s)))):=by
 have B:∀c,SB.arr 5 1 (s.map encB++[encB 128]) c=SB.arr 5 1 ((padJ s 0).map encB) c:=fun c=>by simp[padJ]
 have G:∀j c,SB.arr 5 1 ((padJ s j).map encB++[encB 0]) c=SB.arr 5 1 ((padJ s (j+1)).map encB) c:=fun j c=>by rw[Ay,qq];rfl
 have D:∀j c,j=padZ s.length->SB.arr 5 1 ((padJ s j).map encB) c=SB.arr 5 1 ((lenJ s 0).map encB) c:=fun j c h=>by rw[lenJ,List.take_zero,qx,h]
 have E:∀i,i < 8->∀c,SB.arr 5 1 ((lenJ s i).map encB++[encB (lb s.length i)]) c=SB.arr 5 1 ((lenJ s (i+1)).map encB) c:=fun i l c=>by rw[zZ s l,qq];rfl
 have hz:=ER s.length;obtain⟨m,V⟩:∃m,s.length+1+padZ s.length+8=64*m:=⟨(s.length+1+padZ s.length+8) / 64,by omega⟩
 have q:(lenJ s 8).length=64*m:=by rw[wT s (qj 8)];exact V
 have w:sumS s=fd (bY m (lenJ s 8) init8):=by
  unfold sumS;rw[Az,q,Nat.mul_div_cancel_left m dd]
 have J:=ue m (lenJ s 8) init8 rF;refine ybv hΘ func114 rfl dd _ _ rfl rfl rfl ?_;conv=>whnf
 intro c0 Z;refine⟨nb rfl,[encB 128],rfl,rfl,(qa _).symm,rfl,by show(s.length+1)*1<=_;omega,fun y L=>?_⟩;conv=>whnf
 refine aI hΘ (X:={ x:Nat×Nat // x.1<=padZ s.length/\s.length+1+x.1<=x.2 }) (fun x=>[(4,.va (.slice false 5 0 0 1 (s.length+1+x.1.1) x.1.2))]) [12,13,14,15,16,17,18] (fun x=>[(0,.frz F),(1,.one (.cells 246 (w8 init8))),(4,.gone),(5,rowY (padJ s x.1.1) x.1.2)]) 6 (fun x=>padZ s.length - x.1.1) ⟨(0,y),by simp,by simpa using L⟩
  (fun a d=>leI [(5,4)] a d rfl ⟨tv,fw 6 246 init8,tv,jR 6 (padJ s 0) y,tv⟩ ⟨⟨rfl,rfl,rfl,.inr ⟨rfl,rfl,rfl,rfl⟩⟩,tv⟩ ⟨Fz.r F,rfl,(B y).trans (kA _ (padJ s 0) y).symm,tv⟩) ?_
 rintro⟨⟨j,c⟩,U,k⟩ a d;replace U:j<=padZ s.length:=U;replace k:s.length+1+j<=c:=k;by_cases g:j < padZ s.length
 ·have aa:=hz.2.2 j g
  have u:¬((s.length+1+j:Nat):Int).tmod 64=56:=by
   rw[show((s.length+1+j:Nat):Int).tmod 64=(((s.length+1+j) % 64:Nat):Int)from rfl];omega
  refine⟨by decide,?_⟩;refine br (fun _=>?_) (fun h=>absurd h (by simpa using u));refine⟨nb rfl,[encB 0],rfl,rfl,(by show s.length+1+j=((padJ s j).map encB).length;rw[qa,xR]),rfl,by show(s.length+1+j+1)*1<=_;omega,fun c' e=>?_⟩
  exact⟨⟨(j+1,c'),by show j+1<=padZ s.length;omega,by have h1:s.length+1+j+1<=c':=e;show s.length+1+(j+1)<=c';omega⟩,by show padZ s.length - (j+1) < padZ s.length - j;omega,
   leR [(5,7)] a d rfl ⟨tv,fw 6 246 init8,tv,jR 6 (padJ s (j+1)) c',tv⟩ ⟨⟨rfl,rfl,rfl,.inr ⟨rfl,rfl,rfl,rfl⟩⟩,tv⟩ ⟨Fz.r F,rfl,(G j c').trans (kA _ (padJ s (j+1)) c').symm,tv⟩⟩
 ·have p:j=padZ s.length:=by omega
  have Q:((s.length+1+j:Nat):Int).tmod 64=56:=by
   rw[show((s.length+1+j:Nat):Int).tmod 64=(((s.length+1+j) % 64:Nat):Int)from rfl,p];omega
  refine⟨by decide,?_⟩;refine br (fun h=>absurd h (by simpa using Q)) (fun _=>?_);conv=>whnf
  refine aI hΘ (X:={ x:Nat×Nat // x.1<=8/\s.length+1+padZ s.length+x.1<=x.2 }) (fun x=>[(4,.va (.slice false 6 0 0 1 (s.length+1+padZ s.length+x.1.1) x.1.2)),(5,.va (.int .i64 (7 - (x.1.1:Int))))]) (jr 19 14 []) (fun x=>[(0,.frz F),(1,.one (.cells 246 (w8 init8))),(5,.gone),(6,rowY (lenJ s x.1.1) x.1.2)]) 7 (fun x=>8 - x.1.1) ⟨(0,c),by simp,by show s.length+1+padZ s.length+0<=c;omega⟩
   (fun a d=>leI [(6,5)] a d rfl ⟨tv,fw 7 246 init8,tv,jR 7 (lenJ s 0) c,tv⟩ ⟨⟨rfl,by show s.length+1+padZ s.length+0=s.length+1+j;omega,rfl,.inr ⟨rfl,rfl,rfl,rfl⟩⟩,rfl,tv⟩ ⟨Fz.r F,rfl,(D j c p).trans (kA _ (lenJ s 0) c).symm,tv⟩) ?_
  rintro⟨⟨i,c⟩,l,f⟩ a d;replace l:i<=8:=l;replace f:s.length+1+padZ s.length+i<=c:=f;by_cases A:i < 8
  ·have K:=ydl (n:=s.length) hs A;have T:=Cp A;have O:=E i A;have R:IntKind.i64.wrap (7 - (i:Int) - 1)=7 - ((i+1:Nat):Int):=by rw[aF oo oo];omega
   refine br (fun _=>?_) (fun h=>absurd h (by simp;omega));refine⟨T,nb rfl,[encB (lb s.length i)],(by show[[SA.int .u8 _]]=_;exact congrArg (fun z=>[[SA.int .u8 z]]) K),rfl,(by show s.length+1+padZ s.length+i=((lenJ s i).map encB).length;rw[qa,wT s l]),rfl,by show(s.length+1+padZ s.length+i+1)*1<=_;omega,fun c' e=>?_⟩
   exact⟨⟨(i+1,c'),by show i+1<=8;omega,by have h1:s.length+1+padZ s.length+i+1<=c':=e;show s.length+1+padZ s.length+(i+1)<=c';omega⟩,by show 8 - (i+1) < 8 - i;omega,
    leR [(6,8)] a d rfl ⟨tv,fw 7 246 init8,tv,jR 7 (lenJ s (i+1)) c',tv⟩ ⟨⟨rfl,rfl,rfl,.inr ⟨rfl,rfl,rfl,rfl⟩⟩,eu R.symm,tv⟩ ⟨Fz.r F,rfl,(O c').trans (kA _ (lenJ s (i+1)) c').symm,tv⟩⟩
  ·have S:i=8:=by omega
   subst S;have M:64*m<=c:=by omega
   refine brd ss ?_;refine ru 6 (fun _=>.arr 5 1 ((lenJ s 8).map encB) c) rfl rfl rfl (fun _ _=>kA _ (lenJ s 8) c) (fun _ _=>jR 1 (lenJ s 8) c) ?_;intro b F1 W hb;have I:=hb 0 rfl;refine g9 hΘ func174 rfl dd _ _ rfl rfl rfl (ef hΘ _ _ _ ?_);refine brd dd ?_;refine Df (F1:=F1) (Y.mono W) (ih:=1) (is:=7) (inn:=8) (ib:=6) (b:=b) (v:=init8) (c:=c) rF V q oo M rfl rfl rfl rfl rfl rfl rfl rfl rfl I rfl rfl rfl rfl rfl rfl rfl rfl ?_;refine usePs (za F1 (bY m (lenJ s 8) init8) J) ?_;refine⟨rfl,rfl,?_⟩;exact endFs (.ret (.va (.str (fd (bY m (lenJ s 8) init8))))) W (by rw[w])
end Go.Proofs.YtfnkamphhpldcaaGreatDoor
namespace Go.Proofs
open Go.Shelf Tryz
def Tryz.lays156_ren:Go.Shelf.Ren:=⟨fun | 156=>228 | 165=>257 | 166=>224 | 169=>104 | 240=>256 | 241=>273 | 276=>272 | 277=>287 | n=>n,fun | 31=>34 | 9=>9 | 3=>3 | 4=>4 | 0=>0 | 20=>20 | 72=>172 | 76=>281 | 70=>170 | 37=>81 | 75=>125 | 127=>238 | 164=>334 | 5=>5 | 80=>155 | n=>n,fun | n=>n⟩
theorem Tryz.lays156:Go.Proofs.Lays.n156 prog Tryz.lays156_ren:={
 mixed:=by kernel_rfl
 f156:=func228.trans (congrArg some (by kernel_rfl))
 f165:=func257.trans (congrArg some (by kernel_rfl))
 f166:=func224.trans (congrArg some (by kernel_rfl))
 f169:=func104.trans (congrArg some (by kernel_rfl))
 f240:=func256.trans (congrArg some (by kernel_rfl))
 f241:=func273.trans (congrArg some (by kernel_rfl))
 f276:=func272.trans (congrArg some (by kernel_rfl))
 f277:=func287.trans (congrArg some (by kernel_rfl))
 t0:=underlying0
 a0:=Tryz.isAgg0
 z0:=Tryz.sizeOf0
 v0:=Tryz.zeroValue0
 t3:=underlying3
 a3:=Tryz.isAgg3
 z3:=Tryz.sizeOf3
 v3:=Tryz.zeroValue3
 t4:=underlying4
 a4:=Tryz.isAgg4
 z4:=Tryz.sizeOf4
 v4:=Tryz.zeroValue4
 t9:=underlying9
 a9:=Tryz.isAgg9
 z9:=Tryz.sizeOf9
 v9:=Tryz.zeroValue9
 t20:=underlying20
 a20:=Tryz.isAgg20
 z20:=Tryz.sizeOf20
 v20:=Tryz.zeroValue20
 t31:=underlying34
 a31:=Tryz.isAgg34
 z31:=Tryz.sizeOf34
 v31:=Tryz.zeroValue34
 t37:=underlying81
 a37:=Tryz.isAgg81
 z37:=Tryz.sizeOf81
 v37:=Tryz.zeroValue81
 t70:=underlying170
 a70:=Tryz.isAgg170
 z70:=Tryz.sizeOf170
 v70:=Tryz.zeroValue170
 t72:=underlying172
 a72:=Tryz.isAgg172
 z72:=Tryz.sizeOf172
 v72:=Tryz.zeroValue172
 t75:=underlying125
 a75:=Tryz.isAgg125
 z75:=Tryz.sizeOf125
 v75:=Tryz.zeroValue125
 t76:=underlying281
 a76:=Tryz.isAgg281
 z76:=Tryz.sizeOf281
 v76:=Tryz.zeroValue281
 t127:=underlying238
 a127:=Tryz.isAgg238
 z127:=Tryz.sizeOf238
 v127:=Tryz.zeroValue238
 t164:=underlying334
 a164:=Tryz.isAgg334
 z164:=Tryz.sizeOf334
 v164:=Tryz.zeroValue334 }
theorem Tryz.Builder_Extra_156:Builder.Extra prog Tryz.lays156_ren:={
 sizeBuilder:=by kernel_rfl
 liesBuilder:=by kernel_rfl
 t5:=underlying5
 a5:=Tryz.isAgg5
 z5:=Tryz.sizeOf5
 v5:=Tryz.zeroValue5
 infoByte:=by kernel_rfl
 cellsByte:=by kernel_rfl
 sizeByte:=by kernel_rfl
 neB5:=by decide }
open Go.RowKit in
open Go.RowKit in
theorem Tryz.strings_Join(h o c:Nat)(d:List ByteArray)(b:ByteArray)(w:World)(a:∀(j:Nat) x,d[j]? =some x->w.cell? ⟨h,o+j,none⟩=some (.string x))(i:h < w.heap.size)(k:d.length<=140737488355328)(f:d.length<=c)(g:(Lib.join (d.map (·.data.toList)) b.data.toList).length<=140737488355328):
  Calls prog 228 #[.slice (some ⟨h,o,none⟩) d.length c,.string b] w fun e l=>e=.returned (.string ⟨(Lib.join (d.map (·.data.toList)) b.data.toList).toArray⟩)/\Below w.heap.size w l:=Any.strings_Join Tryz.lays156 Tryz.Builder_Extra_156 h o c d b w a i k f g
end Go.Proofs
namespace Go.Proofs.YtfnkamphhpldcaaGreatDoor
open Go Go.RowKit Sx Tryz
set_option maxRecDepth 100000
theorem B5{P:Program}{F:Fz}{f:FuncId}{args:List SV}{out:Out}(a:Sx.Enters P f)(b:out.z=true)(e:Ending)(i:∀ρ,out.rel ρ e)
  (h:∀C ρ w,Sat C ρ [[(0,.frz F)]] 1 w->∀vs,relL ρ args vs->Calls P f vs.toArray w fun e' c=>e'=e/\Below w.heap.size w c):
  Fo P F f args fun o d=>o=out/\d=F:=by
 unfold Fo za7;intro C ρ w vs S j g;refine⟨a,(h C ρ w S vs j).mono ?_⟩;rintro e' c ⟨rfl,hb⟩;refine⟨out,[[(0,.frz F)]],1,ρ,?_,i ρ,S.belowW hb,fun _ _=>rfl,qj _,?_⟩
 ·exact endFo out F rfl (Fz.r F) (Fz.r F) ⟨rfl,rfl⟩ (by
   rw[Out.ren_id (μ:=resP [[(0,.frz F)]]) (.inl b) (fun k=>rfl)];exact aO out) b
 ·have:=Out.z_below b;cases out with
  |ret v=>exact this
  |panic v=>trivial
theorem zH(l:List (List UInt8)):(l.map encS).flatten=l.map SA.str:=by
 induction l with
 |nil=>rfl
 |cons x r ih=>simpa[encS]using ih
theorem join_nil(l:List (List UInt8)):Lib.join l []=l.flatten:=by
 unfold Lib.join
 induction l with
 |nil=>rfl
 |cons x r ih=>
  cases r with
  |nil=>simp[List.intercalate]
  |cons y r=>simpa[List.intercalate]using ih
theorem ydi(F:Fz)(b:Nat)(l:List (List UInt8))(hb:F b=some (.arr 9 1 (l.map encS) l.length))(B:l.length<=1000)(D:l.flatten.length<=1000000000000):
  Fo prog F 228 [.va (.slice false 0 b 0 1 l.length l.length),.va (.str [])] (fun o k=>o=.ret (.va (.str l.flatten))/\k=F):=by
 refine B5 (Sx.enters_of func228 rfl dd) rfl (.returned (.string ⟨l.flatten.toArray⟩)) (fun ρ=>⟨_,rfl,rfl⟩) ?_;intro C ρ w S vs q
 match vs,q with
 |[v,u],⟨h1,h2,_⟩=>
  have m:v=.slice (some ⟨b,0,none⟩) l.length l.length:=by rw[h1,SA.den,S.id0];simp
  have n:u=.string ⟨#[]⟩:=h2;subst m n;obtain⟨o,e,a⟩:=S.blk 0 (.frz F) rfl b (by simp[Ent.has,hb]);rw[S.id0]at e;simp only[Ent.at,hb,yh,SB.ok]at a;obtain⟨_,_,tail,E,A,_,rfl⟩:=a
  have p:((l.map fun s=>(⟨s.toArray⟩:ByteArray)).map (·.data.toList))=l:=by
   rw[q8];simp[Function.comp_def]
  have f:(Lib.join ((l.map fun s=>(⟨s.toArray⟩:ByteArray)).map (·.data.toList)) (⟨#[]⟩:ByteArray).data.toList)=l.flatten:=by rw[p];exact join_nil l
  have c:=zH l;have h:=Tryz.strings_Join b 0 l.length (l.map fun s=>⟨s.toArray⟩) ⟨#[]⟩ w ?_ (jp.1 e).1 (by simp;omega) ss (by rw[f];omega)
  ·rw[f,qa]at h;exact h
  ·intro j x g;have h1:=cell_of_row w b j _ _ _ e;rw[qz,h1,c];rw[qu]at g;obtain⟨y,i,rfl⟩:=qav.1 g;have d:=(qh.1 i).1;simp only[qcm];rw[jj (by simpa using d),qu,qu,i];rfl
theorem uz(F:Fz)(e:RNDF F)(a b:Nat)(mk:List UInt8)(l:List (List UInt8))(g:F a=some (.cells 9 [.str mk]))(hb:F b=some (.arr 9 1 (l.map encS) l.length))(d:l.length<=1000)(j:l.flatten.length<=900000000000)(i:mk.length<=1000):
  Fo prog F 227 [.va (.slice false 0 b 0 1 l.length l.length),.va (.ptr (fp a))] (fun o _=>o=.ret (.va (.str (sumS (mk++l.flatten))))):=by
 have f:=ydi F b l hb d oo;have h:=yg4 F e (mk++l.flatten) (by rw[qb];omega);refine foS func227 ?_;refine dwS (.look 0 (.look 1 (.alt 2 (.look 3 (.alt 4 (.look 5 .done) .nil)) .nil))) [] ?_;refine⟨rfl,_,g,?_⟩;refine usePs (f) ?_;refine⟨Fz.r F,by omega,?_⟩;refine useFs h ?_;rintro _ F1 c rfl;refine⟨c,?_⟩;exact endFs (.ret (.va (.str (sumS (mk++l.flatten))))) c rfl
theorem ydk(F:Fz)(i:RNDF F)(s:List UInt8)(j:s.length<=900000000000):Fo prog F 112 [.va (.str s)] (fun o _=>o=.ret (.va (.str (leafS s)))):=by
 refine foS func112 ?_;refine g9 hΘ func173 rfl dd _ _ rfl rfl rfl (ef hΘ _ _ _ ?_);refine bM 1 (fun _=>.cells 9 [.str [0]]) ?_;intro g F1 e a;refine bM 2 (fun _=>.arr 9 1 ([s].map encS) 1) ?_;intro h f c b;have h1:=uz f ((i.mono e).mono c) (g 0) (h 0) [0] [s] (c _ _ (a 0 rfl)) (b 0 rfl) ss (by simpa using j) ss;refine useFt h1 ?_;rintro _ d k rfl;exact endFo (.ret (.va (.str (leafS s)))) d rfl (Fz.t e (Fz.t c k)) (Fz.r d) rfl (congrArg (fun x=>SA.str (sumS x)) ss) rfl
theorem rT(F:Fz)(i:RNDF F)(s t:List UInt8)(k:s.length<=100000000000)(l:t.length<=100000000000):Fo prog F 113 [.va (.str s),.va (.str t)] (fun o _=>o=.ret (.va (.str (nodeS s t)))):=by
 refine foS func113 ?_;refine g9 hΘ func173 rfl dd _ _ rfl rfl rfl (ef hΘ _ _ _ ?_);refine bM 1 (fun _=>.cells 9 [.str [1]]) ?_;intro g F1 e a;refine bM 2 (fun _=>.arr 9 1 ([s,t].map encS) 2) ?_;intro h f c b;have h1:=uz f ((i.mono e).mono c) (g 0) (h 0) [1] [s,t] (c _ _ (a 0 rfl)) (b 0 rfl) ss (by simp;omega) ss;refine useFt h1 ?_;rintro _ d j rfl;exact endFo (.ret (.va (.str (nodeS s t)))) d rfl (Fz.t e (Fz.t c j)) (Fz.r d) rfl (congrArg (fun x=>SA.str (sumS x)) ss) rfl
end Go.Proofs.YtfnkamphhpldcaaGreatDoor
namespace Sx
open Go
variable {P:Program} {C:Ctx} {ρ:Rho} {h:Hp} {nx:Nat} {w:World}
theorem Sat.ent(s:Sat C ρ h nx w){i:Nat}{e e':Ent}(n:lget h i=some e)(B:e.plain=true)(o:e'.plain=true)(hh:∀k,e'.has k↔e.has k)(y:∀k,e.has k->e'.at k=e.at k):Sat C ρ (lput h i e') nx w:=by
 have l:∀j k,St.owns (lput h i e') j k->St.owns h j k:=by
  rintro j k ⟨x,g,m⟩;by_cases f:j=i
  ·subst f;rw[aR]at g;cases g;exact⟨_,n,(hh k).1 m⟩
  ·rw[aN _ _ _ _ f]at g;exact⟨_,g,m⟩
 have u:=s.ne0 n B
 exact{ s with
  lt:=fun j x g=>by
   by_cases f:j=i
   ·subst f;exact s.lt _ _ n
   ·rw[aN _ _ _ _ f]at g;exact s.lt _ _ g
  blk:=fun j x g k m=>by
   by_cases f:j=i
   ·subst f;rw[aR]at g;cases g
    rw[y k ((hh k).1 m)];exact s.blk _ _ n k ((hh k).1 m)
   ·rw[aN _ _ _ _ f]at g;exact s.blk _ _ g k m
  wf:=fun j x g k m=>by
   by_cases f:j=i
   ·subst f;rw[aR]at g;cases g
    rw[y k ((hh k).1 m)];exact s.wf _ _ n k ((hh k).1 m)
   ·rw[aN _ _ _ _ f]at g;exact s.wf _ _ g k m
  inj:=fun a b c d h1 A=>s.inj a b c d (l _ _ h1) (l _ _ A)
  own:=fun a b h1=>s.own a b (l _ _ h1)
  fz:=by rw[aN _ _ _ _ (Ne.symm u)];exact s.fz
  only:=fun j F p=>by
   by_cases f:j=i
   ·subst f;rw[aR]at p;cases p;cases o
   ·rw[aN _ _ _ _ f]at p;exact s.only _ _ p
  lnk:=fun j b q=>by
   by_cases f:j=i
   ·subst f;rw[aR]at q;cases q;cases o
   ·rw[aN _ _ _ _ f]at q;exact s.lnk _ _ q }
abbrev fam1(b:SB):Ent:=.fam 1 (fun _=>true) (fun _=>b)
theorem B0(b:SB)(k:Nat):(fam1 b).has k↔(Ent.one b).has k:=by simp[Ent.has]
theorem famW{c:Code}{d:St}{Q:SE->St->Prop}(i:Nat){b:SB}(e:lget d.h i=some (.one b))(f:WP P c { d with h:=lput d.h i (fam1 b) } Q):WP P c d Q:=by
 unfold WP at*;intro C ρ a w D;exact f C ρ a w { sat:=D.sat.ent e rfl rfl (B0 b) (fun _ _=>rfl),nt:=D.nt,tm:=D.tm,tw:=D.tw,n0:=D.n0,df:=D.df,dw:=D.dw }
end Sx
namespace Go.Proofs.YtfnkamphhpldcaaGreatDoor
open Go Go.RowKit Sx Tryz
set_option maxRecDepth 100000
def yfj(bs:Nat)(W:World):Prop:=∃p c,W.cell? ⟨bs,0,none⟩=some (.slice p 0 c)
theorem Bo(F:Fence)(n:Nat)(hF:F.fn 177)(hro:F.round=none)(_:1<=n)(bs:Nat)(encs:Nat->Array Value):
  SeqP F n prog 177 #[.pointer (some ⟨bs,0,none⟩)] encs 0 (yfj bs):=by
 intro l J W hJ hY h0;refine callsIn_of_wp func177 rfl hF ?_ hro;simp only[Tryz.ntmps177,y9,qf,qv,Nat.reduceAdd,Nat.reduceSub,qaf,qag,qat,qak,qw,jz];obtain⟨⟨p,c,hc⟩,_⟩:=hJ 0 W h0
 gi_wp2
 gi_loopw [3] (fun v wr=>v=.int .i64 (-1)/\J 0 wr) (fun _ _=>0)
 case atStart=>exact⟨rfl,h0⟩
 case round=>
  obtain⟨rfl,hj⟩:=hrel
  gi_wp2
  exact bodyPost_end (results_none rfl _ _ _) rfl ⟨⟨_,rfl⟩,hj⟩
theorem D6{b:St}{Q:SE->St->Prop}{is ib k0 e sz c:Nat}{nl:Bool}(G:lget b.t 89=some (.va (.fn (.func 177) [⟨is,0,0,0,0⟩])))(V:b.d=[])
  (Z:lget b.h is=some (.one (.cells 34 [.slice nl ib k0 e sz 0 c]))){assign body:Code}
  (U:Q .normal { b with h:=lput b.h b.nx (.one (.obj (.deferred (some [])))),nx:=b.nx+1,d:=[(.col,[.iter b.nx 0])] }):
  WP prog (.rangeFunc (.tmp 89) #[90,91] assign body) b Q:=by
 unfold WP;intro C ρ a w D;obtain⟨u,t89,E⟩:=D.tm 89 _ G;have q:u=.func (.func 177) #[] #[.pointer (some ⟨ρ is 0,0,none⟩)]:=E;subst q
 have L:∀(args:Array Value) (w:World),(callFunc 177 args).run prog w=.ok (.enter 177 args) w:=by
  have h:=Sx.enters_of (P:=prog) func177 rfl dd;unfold Sx.Enters at h;exact h
 refine(wpIn_wide (n:=3)).1 (sS (F:=Fence.wide) (n:=3) rfl oo (gf:=177) (lb:=#[.pointer (some ⟨ρ is 0,0,none⟩)]) ?hg trivial L
  (Bo Fence.wide 2 trivial rfl oo (ρ is 0) (fun _=>#[undef,undef])) (fun _=>rfl)
  (fun k W=>k=0/\Sat C ρ b.h b.nx W) ?ok ?drew ?put ?h0 (fun _=>{ tmps:=(#[90,91].zip #[undef,undef]).foldl (fun t (p,v)=>t.setIfInBounds p v) a.tmps,defers:=[] }) ?assign ?body ?done)
 case hg=>simp[Act.eval,t89]
 case ok=>
  rintro k A ⟨_,S⟩;exact⟨_,_,cell_of S Z⟩
 case drew=>rintro k A ⟨f,S⟩;exact⟨f,S.drew⟩
 case put=>
  rintro k A l o o' X hA J ⟨f,S⟩;refine⟨f,S.putObj (fun i j M=>?_) (jm D.sat.size X)⟩;have h1:=D.sat.blt M;omega
 case h0=>
  intro o1 o2;exact⟨rfl,D.sat.belowW (((Below.refl _ w).alloc (qj _) _).alloc ss _)⟩
 case assign=>intro l k W K f;exact absurd f (qcc _)
 case body=>intro l k W f;exact absurd f (qcc _)
 case done=>
  rintro m W T ⟨_,S⟩ I
  have O:∀i j,St.owns b.h i j->ρ i j≠m:=fun i j M=>by
   have h1:=D.sat.blt M;omega
  have R:=S.adopt I (jm D.sat.size T) O;refine⟨.normal,_,rext ρ b.nx m,U,rfl,?_⟩;have B:∀i,i < b.nx->rext ρ b.nx m i=ρ i:=fun i g=>eK g
  exact{ sat:=R,nt:=D.nt,n0:=D.n0
         tm:=fun i s g=>by
          obtain⟨u,hu,Y⟩:=D.tm i s g;exact⟨u,hu,SV.rel_congr B (D.tw i s g) Y⟩
         tw:=fun i s g=>SV.below_mono (qac _) (D.tw i s g)
         df:=by
          show{ target:=.collected m,args:=#[] }::a.defers=[defOf (rext ρ b.nx m) (.col,[.iter b.nx 0])];rw[D.df,V];simp[defOf,defV,SA.den,blkOf,dg]
         dw:=by
          intro x hx y hy;rcases qs.1 hx with rfl;rcases qs.1 hy with rfl;exact qcq _ }
end Go.Proofs.YtfnkamphhpldcaaGreatDoor
namespace Go.Proofs.YtfnkamphhpldcaaGreatDoor
open Go Sx Tryz
set_option maxRecDepth 100000
abbrev Stk:=List (List UInt8×Nat)
def mergeK:Nat->Stk->Stk
 |0,s=>s
 |f+1,s=>match s with
  |(b,n)::(a,m)::r=>if m=n then mergeK f ((nodeS a b,2*n)::r)else s
  |s=>s
def merge(s:Stk):Stk:=mergeK s.length s
theorem oB:∀(f:Nat) (s:Stk),s.length<=f->mergeK f s=merge s
 |0,[],_=>rfl
 |f+1,[],_=>rfl
 |f+1,[x],_=>rfl
 |f+1,(b,n)::(a,m)::r,h=>by
  have h1:r.length+1<=f:=by simp at h;omega
  show mergeK (f+1) _=mergeK (r.length+2) _;rw[mergeK,mergeK];split
  ·rw[oB f _ (by simpa using h1),oB (r.length+1) _ ss]
  rfl
theorem Am{a b:List UInt8}{n m:Nat}{r:Stk}(h:m=n):merge ((b,n)::(a,m)::r)=merge ((nodeS a b,2*n)::r):=by
 grind[oB,mergeK,merge,nodeS]
theorem Cy{a b:List UInt8}{n m:Nat}{r:Stk}(h:m≠n):merge ((b,n)::(a,m)::r)=(b,n)::(a,m)::r:=by
 grind[mergeK,merge]
def pushS(s:Stk)(x:List UInt8):Stk:=merge ((leafS x,1)::s)
def stackF(l:List (List UInt8)):Stk:=l.foldl pushS []
theorem DS(l:List (List UInt8))(x:List UInt8):stackF (l++[x])=merge ((leafS x,1)::stackF l):=by
 grind[stackF,pushS]
def Gd(k:Nat)(s:Stk):Prop:=(∀y∈s,y.1.length=32)/\(s.map (·.2)).sum=k
theorem Gd.join{k n m:Nat}{a b:List UInt8}{r:Stk}(h:Gd k ((b,n)::(a,m)::r))(e:m=n):Gd k ((nodeS a b,2*n)::r):=by
 obtain⟨h1,c⟩:=h;refine⟨fun y hy=>?_,?_⟩
 ·rcases qi.1 hy with rfl | hy
  ·rfl
  ·exact h1 y (by simp[hy])
 grind
theorem Gd.leaf{k:Nat}{s:Stk}(h:Gd k s)(x:List UInt8):Gd (k+1) ((leafS x,1)::s):=by
 obtain⟨h1,a⟩:=h;refine⟨fun y hy=>?_,?_⟩
 ·rcases qi.1 hy with rfl | hy
  ·rfl
  ·exact h1 y hy
 grind
theorem Gd.mergeK:∀{f k:Nat} {s:Stk},Gd k s->Gd k (mergeK f s)
 |0,_,_,h=>h
 |f+1,_,[],h=>h
 |f+1,_,[_],h=>h
 |f+1,_,(b,n)::(a,m)::r,h=>by
  rw[Go.Proofs.YtfnkamphhpldcaaGreatDoor.mergeK];split
  ·rename_i e;exact Gd.mergeK (h.join e)
  ·exact h
theorem Gd.stackF:∀(l:List (List UInt8)),Gd l.length (stackF l):=by
 have h:∀(l:List (List UInt8)) (k:Nat) (s:Stk),Gd k s->Gd (k+l.length) (l.foldl pushS s):=by
  intro l
  induction l with
  |nil=>grind
  |cons x r ih=>
   intro k s h;have h1:=ih (k+1) (pushS s x) (Gd.mergeK (h.leaf x))
   grind
 intro l;have:=h l 0 [] ⟨by simp,rfl⟩
 rwa[qz]at this
theorem yg3(a b c d e f g h:List UInt8):stackF [a,b,c,d,e,f,g,h]=[(root8 [a,b,c,d,e,f,g,h],8)]:=by
 rfl
