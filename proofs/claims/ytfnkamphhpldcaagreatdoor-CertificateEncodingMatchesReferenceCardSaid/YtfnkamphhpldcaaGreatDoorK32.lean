import Derived.Test.YtfnkamphhpldcaaGreatDoorK09
import Derived.Test.YtfnkamphhpldcaaGreatDoorK31
import Derived.Defers
import Derived.Recover
set_option maxHeartbeats 64000000
namespace Go.Proofs.YtfnkamphhpldcaaGreatDoor
open Go Go.RowKit Sx Tryz
set_option maxRecDepth 100000
theorem EE(p q:Addr)(w:World):
  CallsD prog 141 #[.pointer (some p),.pointer (some q)] .returning w fun e u' w'=>e=.returned (.tuple #[])/\u'=.returning/\w'=w:=by
 refine callsD_of_wpS func141 rfl fun c₀ cs hu=>?_
 simp only[Tryz.ntmps141,y9,qe,qu,Nat.reduceAdd,Nat.reduceSub,qac,qad,qal,qae,qv,yd];apply wpS_seq;apply wpS_region;simp[wpOpsS,go_sem,recoverD,hu,Exit.thenS];refine wpS_of_wp ?_
 go_wp2
 refine⟨rfl,.returning,by cases c₀;simp_all,_,results_none rfl _ _ _,rfl,rfl,rfl⟩
theorem AA{h:Hp}{nx:Nat}{K:Hp->Nat->Prop}(i j:Nat)(a:K h nx):DefWP prog 141 [.ptr ⟨i,0,0,0,0⟩,.ptr ⟨j,0,0,0,0⟩] h nx none K:=by
 unfold DefWP;intro C ρ w S b;refine⟨Sx.enters_of func141 rfl dd,?_⟩;refine(EE ⟨ρ i 0,0*0+0,none⟩ ⟨ρ j 0,0*0+0,none⟩ w).mono ?_;rintro e c d ⟨rfl,rfl,rfl⟩;exact⟨_,h,nx,ρ,rfl,rfl,a,S,fun _ _=>rfl,qi _⟩
