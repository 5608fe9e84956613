import Derived.Test.YtfnkamphhpldcaaGreatDoorK32
import Derived.Test.YtfnkamphhpldcaaGreatDoorK33
import Derived.Test.YtfnkamphhpldcaaGreatDoorK34
set_option maxHeartbeats 64000000
namespace Go.Proofs.YtfnkamphhpldcaaGreatDoor
open Go Go.RowKit Sx Tryz
set_option maxRecDepth 100000
abbrev errP(n:Int):Value:=.iface 213 (.int .i64 n)
theorem neNil(n:Int)(w:World):(binOp .eql 20 (errP n) .nilIface).run prog w=.ok (.bool false) w:=by kernel_rfl
theorem asErr(n:Int)(w:World):(Instr.typeAssert (errP n) 20 125 true).run prog w=.ok (.tuple #[errP n,.bool true]) w:=by kernel_rfl
abbrev set0(w:World)(b:Nat):World:=(((w.setCell ⟨b,0,none⟩ (.string ⟨#[]⟩)).setCell ⟨b,1,none⟩ (.string ⟨#[]⟩)).setCell ⟨b,2,none⟩ (.int .i64 0)).setCell ⟨b,3,none⟩ (.slice none 0 0)
theorem AB(b c:Nat)(n:Int)(hn:n=10\/n=100)(w:World)(u0 u1 u2 u3 u4:Value)(c0:w.cell? ⟨b,0,none⟩=some u0)(c1:(w.setCell ⟨b,0,none⟩ (.string ⟨#[]⟩)).cell? ⟨b,1,none⟩=some u1)
  (c2:((w.setCell ⟨b,0,none⟩ (.string ⟨#[]⟩)).setCell ⟨b,1,none⟩ (.string ⟨#[]⟩)).cell? ⟨b,2,none⟩=some u2)(c3:(((w.setCell ⟨b,0,none⟩ (.string ⟨#[]⟩)).setCell ⟨b,1,none⟩ (.string ⟨#[]⟩)).setCell ⟨b,2,none⟩ (.int .i64 0)).cell? ⟨b,3,none⟩=some u3)(c4:(set0 w b).cell? ⟨c,0,none⟩=some u4)
  (f0:w.frozen? ⟨b,0,none⟩=false)(f1:w.frozen? ⟨b,1,none⟩=false)(f2:w.frozen? ⟨b,2,none⟩=false)(f3:w.frozen? ⟨b,3,none⟩=false)(f4:w.frozen? ⟨c,0,none⟩=false):
  CallsD prog 141 #[.pointer (some ⟨b,0*0+0,none⟩),.pointer (some ⟨c,0*0+0,none⟩)] (.panicking [{ v:=errP n,recovered:=false }]) w fun e u' w'=>e=.returned (.tuple #[])/\settle u'=.returning/\w'=(set0 w b).setCell ⟨c,0,none⟩ (errP n):=by
 refine callsD_of_wpS func141 rfl fun c₀ cs hu=>?_
 simp only[Tryz.ntmps141,y9,qe,qu,Nat.reduceAdd,Nat.reduceSub,qac,qad,qal,qae,qv,yd];apply wpS_seq;apply wpS_region;simp[wpOpsS,go_sem,recoverD,hu,Exit.thenS];refine wpS_of_wp ?_;have has:=asErr n w;have hne:=neNil n w;rcases hn with rfl | rfl
 all_goals
  go_wp2_with (go_at_call 135;refine(is_F _ _ w).mono ?_;rintro _ _ ⟨rfl,hw⟩;rw[hw])
  exact⟨rfl,_,rfl,_,results_none rfl _ _ _,rfl,by simp[settle],rfl⟩
theorem e7{h:Hp}{nx:Nat}{K:Hp->Nat->Prop}(i j:Nat)(n:Int)(hn:n=10\/n=100){a0 a1 a2 a3 a4:SA}(hi:lget h i=some (.one (.cells 48 [a0,a1,a2,a3])))(hj:lget h j=some (.one (.cells 125 [a4])))(hij:¬i=j)
  (hs:g7 Θ 48 (.va (.ptr ⟨i,0,0,0,0⟩)) (.agg [.str [],.str [],.int .i64 0,.nilsl]) h nx fun _ h1 _=>g7 Θ 125 (.va (.ptr ⟨j,0,0,0,0⟩)) (.va (.ifc 213 (.int .i64 n))) h1 nx fun _ h2 _=>K h2 nx):
  DefWP prog 141 [.ptr ⟨i,0,0,0,0⟩,.ptr ⟨j,0,0,0,0⟩] h nx (some (errP n)) K:=by
 unfold DefWP;intro C ρ w S hb;refine⟨Sx.enters_of func141 rfl dd,?_⟩;obtain⟨o,ho,hok⟩:=S.blk i _ hi 0 rfl;have hr:RowAt w (ρ i 0) 48 [a0.den ρ,a1.den ρ,a2.den ρ,a3.den ρ]:=⟨o,ho,hok⟩
 obtain⟨o',ho',hok'⟩:=S.blk j _ hj 0 rfl;have hr':RowAt w (ρ j 0) 125 [a4.den ρ]:=⟨o',ho',hok'⟩
 have hne:ρ i 0≠ρ j 0:=fun e=>hij (S.inj i 0 j 0 ⟨_,hi,rfl⟩ ⟨_,hj,rfl⟩ e).1
 have c0:w.cell? ⟨ρ i 0,0,none⟩=some (a0.den ρ):=hr.cell 0
 have c1:(w.setCell ⟨ρ i 0,0,none⟩ (.string ⟨#[]⟩)).cell? ⟨ρ i 0,1,none⟩=some (a1.den ρ):=by
  rw[World.cell?_setCell_other _ _ _ _ ss];exact hr.cell 1
 have c2:((w.setCell ⟨ρ i 0,0,none⟩ (.string ⟨#[]⟩)).setCell ⟨ρ i 0,1,none⟩ (.string ⟨#[]⟩)).cell? ⟨ρ i 0,2,none⟩=some (a2.den ρ):=by
  rw[World.cell?_setCell_other _ _ _ _ ss,World.cell?_setCell_other _ _ _ _ ss];exact hr.cell 2
 have c3:(((w.setCell ⟨ρ i 0,0,none⟩ (.string ⟨#[]⟩)).setCell ⟨ρ i 0,1,none⟩ (.string ⟨#[]⟩)).setCell ⟨ρ i 0,2,none⟩ (.int .i64 0)).cell? ⟨ρ i 0,3,none⟩=some (a3.den ρ):=by
  rw[World.cell?_setCell_other _ _ _ _ ss,World.cell?_setCell_other _ _ _ _ ss,World.cell?_setCell_other _ _ _ _ ss];exact hr.cell 3
 have c4:(set0 w (ρ i 0)).cell? ⟨ρ j 0,0,none⟩=some (a4.den ρ):=by
  rw[World.cell?_setCell_other _ _ _ _ (by simp),World.cell?_setCell_other _ _ _ _ (by simp),World.cell?_setCell_other _ _ _ _ (by simp),World.cell?_setCell_other _ _ _ _ (by simp)];exact hr'.cell 0
 have f0:=hr.free 0 ss;have f1:=hr.free 1 ss;have f2:=hr.free 2 ss;have f3:=hr.free 3 ss;have f4:=hr'.free 0 ss;obtain⟨w1,h1,r1,k1,S1⟩:=jJ hΘ hs S (v:=.pointer (some ⟨ρ i 0,0*0+0,none⟩)) (u:=.agg #[.string ⟨#[]⟩,.string ⟨#[]⟩,.int .i64 0,.slice none 0 0]) rfl rfl (by intro a ha;simp at ha;rcases ha with rfl | rfl | rfl | rfl<;>trivial);obtain⟨w2,h2,r2,k2,S2⟩:=jJ hΘ k1 S1 (v:=.pointer (some ⟨ρ j 0,0*0+0,none⟩)) (u:=errP n) rfl rfl trivial
 have e1:(Instr.storeAt 48 (.pointer (some ⟨ρ i 0,0,none⟩)) (.agg #[.string ⟨#[]⟩,.string ⟨#[]⟩,.int .i64 0,.slice none 0 0])).run prog w=.ok () (set0 w (ρ i 0)):=by
  simp[go_sem,c0,c1,c2,c3,f0,f1,f2,f3]
 have e2:(Instr.storeAt 125 (.pointer (some ⟨ρ j 0,0,none⟩)) (errP n)).run prog (set0 w (ρ i 0))=.ok () ((set0 w (ρ i 0)).setCell ⟨ρ j 0,0,none⟩ (errP n)):=by
  simp[go_sem,c4,f4]
 have w1e:set0 w (ρ i 0)=w1:=by have:=e1.symm.trans r1;cases this;rfl
 rw[w1e]at e2;have w2e:w1.setCell ⟨ρ j 0,0,none⟩ (errP n)=w2:=by have:=e2.symm.trans r2;cases this;rfl
 refine(AB (ρ i 0) (ρ j 0) n hn w _ _ _ _ _ c0 c1 c2 c3 c4 f0 f1 f2 f3 f4).mono ?_;rintro e u' w' ⟨rfl,hu,rfl⟩;refine⟨_,h2,nx,ρ,rfl,hu,k2,?_,fun _ _=>rfl,qi _⟩;show Sat C ρ h2 nx ((set0 w (ρ i 0)).setCell ⟨ρ j 0,0,none⟩ (errP n));rw[w1e,w2e];exact S2
theorem EU(F:Fz):Fo prog F 71 [.va (.ifc 213 (.int .i64 10))] (fun o a=>o=.ret (.va (.int .i64 10))/\a=F):=by
 refine foS func71 ?_;refine pa (fun _=>rfl) (fun _=>rfl) (is_F 10 10) ?_;refine bre dd ?_;exact endPu rfl (Fz.r F) (aP _) rfl
