import Derived.Test.YtfnkamphhpldcaaGreatDoorK33
import Derived.Test.YtfnkamphhpldcaaGreatDoorK22
import Derived.Test.YtfnkamphhpldcaaGreatDoorK30
import Derived.Test.YtfnkamphhpldcaaGreatDoorK31
import Derived.Test.YtfnkamphhpldcaaGreatDoorK26
set_option maxHeartbeats 64000000
namespace Go.Proofs.YtfnkamphhpldcaaGreatDoor
open Go Sx
set_option maxRecDepth 100000
def exCl:List Kp:=[(1,[(1,0),(2,0)]),(2,[(6,0)]),(3,[]),(4,[]),(5,[]),(6,[]),(7,[]),(8,[])]
theorem zmf:∀ x ∈ exCl,x.2.length ≤ 2:=by decide
def exV:List Int:=[2,1,0,2,0,1,6,0,0,0,0,0,0,0]
theorem ybj (F:Fz) (s src j:List UInt8) (y:s.length = 81) (K:crtOk ⟨src,j,2,exCl⟩ = true)
  (T:getS s 0 = (src,33,0)) (r2:getS s 33 = (j,66,0)) (W:getI s 66 = (2,67,0)) (m:∀ k:Nat,k < 14 → getI s (67 + (k:Int)) = (exV[k]?.getD 0,68 + (k:Int),0)) :
  Ct Tryz.prog 82 [.va (.ptr ⟨1,0,0,0,0⟩)] F [(1,crd s 0)] 2
   (fun o h g n0=>n0 = 2 ∧ g = [(1,crd s s.length)] ∧ ∃ sk,o = .ret (.tup [.agg (crtS ⟨src,j,2,exCl⟩ sk),.va .nilif]) ∧ ClsAt h sk exCl):=by
 have i:s.length ≤ 1000000000000000000:=by omega
 unfold Ct;refine z6r hΘ Tryz.func82 rfl (by decide) _ _ rfl rfl rfl ?_;refine z8e ?_;refine zcu hΘ _ _ _ ?_;refine z8e ?_;refine zzz hΘ rfl rfl rfl rfl ?_;refine ⟨_,_,rfl,?_⟩;refine zcu hΘ _ _ _ ?_;refine use (zyz F s 0 33 src i ⟨by decide,by decide⟩ T) [(1,1)] rfl ⟨rfl,tv⟩ rfl ⟨zbq s _,tv⟩ (by simp [SV.below,SA.below]) ⟨rfl,tv⟩ ?_;rintro b h g n0 a ⟨rfl,rfl,rfl,rfl⟩;refine use (zyz F s 33 66 j i ⟨by decide,by decide⟩ r2) [(1,1)] rfl ⟨rfl,tv⟩ rfl ⟨zbq s _,tv⟩ (by simp [SV.below,SA.below]) ⟨rfl,tv⟩ ?_;rintro b h g n0 a ⟨rfl,rfl,rfl,rfl⟩;refine use (zdl F s 66 2 67 i ⟨by decide,by decide⟩ W) [(1,1)] rfl ⟨rfl,tv⟩ rfl ⟨zbq s _,tv⟩ (by simp [SV.below,SA.below]) ⟨rfl,tv⟩ ?_;rintro b h g n0 a ⟨rfl,rfl,rfl,rfl⟩;refine zez hΘ 8 ?_;conv=>whnf
 -- claim 1
 refine bre (by decide) ?_;refine use (zdl F s 67 2 68 i ⟨by decide,by decide⟩ (m 0 (by decide))) [(1,1)] rfl ⟨rfl,tv⟩ rfl ⟨zbq s _,tv⟩ (by simp [SV.below,SA.below]) ⟨rfl,tv⟩ ?_;rintro b h g n0 a ⟨rfl,rfl,rfl,rfl⟩;clear a;refine gae (by decide) ?_;refine useFo (zdi F _ _) rfl ⟨rfl,rfl,tv⟩ rfl ?_;rintro _ _ f ⟨rfl,⟨c,rfl⟩ | ⟨c,rfl⟩⟩
 rotate_left
 ·exact absurd c (by decide)
 clear c f;refine zez hΘ 2 ?_;refine bre (by decide) ?_;refine drawP hΘ mixed (lk [0,1,2,4] (.alt 3 (.alt 5 (.alt 6 (.alt 7 (.alt 8 (.look 9 (.last 10 .done)) .nil) .nil) .nil) .nil) .nil)) [4] (by kernel_rfl) ?_;refine ⟨rfl,?_⟩;refine use (zdl F s 68 1 69 i ⟨by decide,by decide⟩ (m 1 (by decide))) [(1,1)] rfl ⟨rfl,tv⟩ rfl ⟨zbq s _,tv⟩ (by simp [SV.below,SA.below]) ⟨rfl,tv⟩ ?_;rintro b h g n0 a ⟨rfl,rfl,rfl,rfl⟩;clear a;refine ⟨Fz.r F,rfl,?_⟩;refine use (zdl F s 69 0 70 i ⟨by decide,by decide⟩ (m 2 (by decide))) [(1,1)] rfl ⟨rfl,tv⟩ rfl ⟨zbq s _,tv⟩ (by simp [SV.below,SA.below]) ⟨rfl,tv⟩ ?_;rintro b h g n0 a ⟨rfl,rfl,rfl,rfl⟩;clear a;refine ⟨Fz.r F,rfl,Fz.r F,rfl,Fz.r F,rfl,nb rfl,[enc (1,0)],rfl,rfl,rfl,by show 1 * 16 ≤ 140737488355328; omega,fun S n=>?_⟩;clear n;refine ⟨Fz.r F,rfl,?_⟩;refine sr_go hΘ ?_;refine bre (by decide) ?_;refine drawP hΘ mixed (lk [0,1,2,4] (.alt 3 (.alt 5 (.alt 6 (.alt 7 (.alt 8 (.look 9 (.last 10 .done)) .nil) .nil) .nil) .nil) .nil)) [4] (by kernel_rfl) ?_;refine ⟨rfl,?_⟩;refine use (zdl F s 70 2 71 i ⟨by decide,by decide⟩ (m 3 (by decide))) [(1,1)] rfl ⟨rfl,tv⟩ rfl ⟨zbq s _,tv⟩ (by simp [SV.below,SA.below]) ⟨rfl,tv⟩ ?_;rintro b h g n0 a ⟨rfl,rfl,rfl,rfl⟩;clear a;refine ⟨Fz.r F,rfl,?_⟩;refine use (zdl F s 71 0 72 i ⟨by decide,by decide⟩ (m 4 (by decide))) [(1,1)] rfl ⟨rfl,tv⟩ rfl ⟨zbq s _,tv⟩ (by simp [SV.below,SA.below]) ⟨rfl,tv⟩ ?_;rintro b h g n0 a ⟨rfl,rfl,rfl,rfl⟩;clear a;refine ⟨Fz.r F,rfl,?_⟩
 refine ⟨Fz.r F,rfl,Fz.r F,rfl,nb rfl,[enc (2,0)],rfl,rfl,rfl,rfl,nb rfl,fun p n=>?_⟩;clear n;refine ⟨Fz.r F,rfl,?_⟩;refine sr_go hΘ ?_;refine brd (by decide) ?_;refine ⟨nb rfl,_,rfl,rfl,rfl,by show 1 * 32 ≤ 140737488355328; omega,fun Z d=>?_⟩;clear d;refine sr_go hΘ ?_;conv=>whnf
 -- claim 2
 refine bre (by decide) ?_;refine use (zdl F s 72 1 73 i ⟨by decide,by decide⟩ (m 5 (by decide))) [(1,1)] rfl ⟨rfl,tv⟩ rfl ⟨zbq s _,tv⟩ (by simp [SV.below,SA.below]) ⟨rfl,tv⟩ ?_;rintro b h g n0 a ⟨rfl,rfl,rfl,rfl⟩;clear a;refine gae (by decide) ?_;refine useFo (zdi F _ _) rfl ⟨rfl,rfl,tv⟩ rfl ?_;rintro _ _ f ⟨rfl,⟨c,rfl⟩ | ⟨c,rfl⟩⟩
 rotate_left
 ·exact absurd c (by decide)
 clear c f;refine zez hΘ 1 ?_;refine bre (by decide) ?_;refine drawP hΘ mixed (lk [0,1,2,4] (.alt 3 (.alt 5 (.alt 6 (.alt 7 (.alt 8 (.look 9 (.last 10 .done)) .nil) .nil) .nil) .nil) .nil)) [11] (by kernel_rfl) ?_;refine ⟨rfl,?_⟩;refine use (zdl F s 73 6 74 i ⟨by decide,by decide⟩ (m 6 (by decide))) [(1,1)] rfl ⟨rfl,tv⟩ rfl ⟨zbq s _,tv⟩ (by simp [SV.below,SA.below]) ⟨rfl,tv⟩ ?_;rintro b h g n0 a ⟨rfl,rfl,rfl,rfl⟩;clear a;refine ⟨Fz.r F,rfl,?_⟩;refine use (zdl F s 74 0 75 i ⟨by decide,by decide⟩ (m 7 (by decide))) [(1,1)] rfl ⟨rfl,tv⟩ rfl ⟨zbq s _,tv⟩ (by simp [SV.below,SA.below]) ⟨rfl,tv⟩ ?_;rintro b h g n0 a ⟨rfl,rfl,rfl,rfl⟩;clear a;refine ⟨Fz.r F,rfl,Fz.r F,rfl,Fz.r F,rfl,nb rfl,[enc (6,0)],rfl,rfl,rfl,by show 1 * 16 ≤ 140737488355328; omega,fun u n=>?_⟩;clear n;refine ⟨Fz.r F,rfl,?_⟩;refine sr_go hΘ ?_;refine brd (by decide) ?_;refine ⟨nb rfl,_,rfl,rfl,rfl,rfl,nb rfl,fun V d=>?_⟩;clear d;refine sr_go hΘ ?_;conv=>whnf
 -- claim 3
 refine bre (by decide) ?_;refine use (zdl F s 75 0 76 i ⟨by decide,by decide⟩ (m 8 (by decide))) [(1,1)] rfl ⟨rfl,tv⟩ rfl ⟨zbq s _,tv⟩ (by simp [SV.below,SA.below]) ⟨rfl,tv⟩ ?_;rintro b h g n0 a ⟨rfl,rfl,rfl,rfl⟩;clear a;refine gae (by decide) ?_;refine useFo (zdi F _ _) rfl ⟨rfl,rfl,tv⟩ rfl ?_;rintro _ _ f ⟨rfl,⟨c,rfl⟩ | ⟨c,rfl⟩⟩
 rotate_left
 ·exact absurd c (by decide)
 clear c f;refine zez hΘ 0 ?_;refine brd (by decide) ?_;refine ⟨nb rfl,_,rfl,rfl,rfl,rfl,nb rfl,fun U d=>?_⟩;clear d;refine sr_go hΘ ?_;conv=>whnf
 -- claim 4
 refine bre (by decide) ?_;refine use (zdl F s 76 0 77 i ⟨by decide,by decide⟩ (m 9 (by decide))) [(1,1)] rfl ⟨rfl,tv⟩ rfl ⟨zbq s _,tv⟩ (by simp [SV.below,SA.below]) ⟨rfl,tv⟩ ?_;rintro b h g n0 a ⟨rfl,rfl,rfl,rfl⟩;clear a;refine gae (by decide) ?_;refine useFo (zdi F _ _) rfl ⟨rfl,rfl,tv⟩ rfl ?_;rintro _ _ f ⟨rfl,⟨c,rfl⟩ | ⟨c,rfl⟩⟩
 rotate_left
 ·exact absurd c (by decide)
 clear c f;refine zez hΘ 0 ?_;refine brd (by decide) ?_;refine ⟨nb rfl,_,rfl,rfl,rfl,rfl,nb rfl,fun aa d=>?_⟩;clear d;refine sr_go hΘ ?_;conv=>whnf
 -- claim 5
 refine bre (by decide) ?_;refine use (zdl F s 77 0 78 i ⟨by decide,by decide⟩ (m 10 (by decide))) [(1,1)] rfl ⟨rfl,tv⟩ rfl ⟨zbq s _,tv⟩ (by simp [SV.below,SA.below]) ⟨rfl,tv⟩ ?_;rintro b h g n0 a ⟨rfl,rfl,rfl,rfl⟩;clear a;refine gae (by decide) ?_;refine useFo (zdi F _ _) rfl ⟨rfl,rfl,tv⟩ rfl ?_;rintro _ _ f ⟨rfl,⟨c,rfl⟩ | ⟨c,rfl⟩⟩
 rotate_left
 ·exact absurd c (by decide)
 clear c f;refine zez hΘ 0 ?_;refine brd (by decide) ?_;refine ⟨nb rfl,_,rfl,rfl,rfl,rfl,nb rfl,fun X d=>?_⟩;clear d;refine sr_go hΘ ?_;conv=>whnf
 -- claim 6
 refine bre (by decide) ?_;refine use (zdl F s 78 0 79 i ⟨by decide,by decide⟩ (m 11 (by decide))) [(1,1)] rfl ⟨rfl,tv⟩ rfl ⟨zbq s _,tv⟩ (by simp [SV.below,SA.below]) ⟨rfl,tv⟩ ?_;rintro b h g n0 a ⟨rfl,rfl,rfl,rfl⟩;clear a;refine gae (by decide) ?_;refine useFo (zdi F _ _) rfl ⟨rfl,rfl,tv⟩ rfl ?_;rintro _ _ f ⟨rfl,⟨c,rfl⟩ | ⟨c,rfl⟩⟩
 rotate_left
 ·exact absurd c (by decide)
 clear c f;refine zez hΘ 0 ?_;refine brd (by decide) ?_;refine ⟨nb rfl,_,rfl,rfl,rfl,rfl,nb rfl,fun ac d=>?_⟩;clear d;refine sr_go hΘ ?_;conv=>whnf
 -- claim 7
 refine bre (by decide) ?_;refine use (zdl F s 79 0 80 i ⟨by decide,by decide⟩ (m 12 (by decide))) [(1,1)] rfl ⟨rfl,tv⟩ rfl ⟨zbq s _,tv⟩ (by simp [SV.below,SA.below]) ⟨rfl,tv⟩ ?_;rintro b h g n0 a ⟨rfl,rfl,rfl,rfl⟩;clear a;refine gae (by decide) ?_;refine useFo (zdi F _ _) rfl ⟨rfl,rfl,tv⟩ rfl ?_;rintro _ _ f ⟨rfl,⟨c,rfl⟩ | ⟨c,rfl⟩⟩
 rotate_left
 ·exact absurd c (by decide)
 clear c f;refine zez hΘ 0 ?_;refine brd (by decide) ?_;refine ⟨nb rfl,_,rfl,rfl,rfl,rfl,nb rfl,fun ab d=>?_⟩;clear d;refine sr_go hΘ ?_;conv=>whnf
 -- claim 8
 refine bre (by decide) ?_;refine use (zdl F s 80 0 81 i ⟨by decide,by decide⟩ (m 13 (by decide))) [(1,1)] rfl ⟨rfl,tv⟩ rfl ⟨zbq s _,tv⟩ (by simp [SV.below,SA.below]) ⟨rfl,tv⟩ ?_;rintro b h g n0 a ⟨rfl,rfl,rfl,rfl⟩;clear a;refine gae (by decide) ?_;refine useFo (zdi F _ _) rfl ⟨rfl,rfl,tv⟩ rfl ?_;rintro _ _ f ⟨rfl,⟨c,rfl⟩ | ⟨c,rfl⟩⟩
 rotate_left
 ·exact absurd c (by decide)
 clear c f;refine zez hΘ 0 ?_;refine brd (by decide) ?_;refine ⟨nb rfl,_,rfl,rfl,rfl,rfl,nb rfl,fun q d=>?_⟩;clear d;refine sr_go hΘ ?_;refine brd (by decide) ?_;refine drawP hΘ mixed (lk [0,1,2,3,4,5,6,7,8,9] (.alt 10 (.alt 11 .done .nil) .nil)) [1] (by kernel_rfl) ?_;refine ⟨rfl,rfl,Fz.r F,rfl,?_⟩;refine useFo (zdi F _ _) rfl ⟨rfl,rfl,tv⟩ rfl ?_;rintro _ _ f ⟨rfl,⟨c,rfl⟩ | ⟨c,rfl⟩⟩
 rotate_left
 ·exact absurd c (by rw [y]; decide)
 clear c f;refine ⟨Fz.r F,rfl,?_⟩;refine za7 8 (fun _=>.arr 56 2 ([(1,0),(2,0)].map enc) p) rfl rfl rfl (fun _ _=>rfl) (fun _ _=>SB.bB_ok rfl) ?_;intro Y F1 l1 I;refine za7 13 (fun _=>.arr 56 2 ([(6,0)].map enc) u) rfl rfl rfl (fun _ _=>rfl) (fun _ _=>SB.bB_ok rfl) ?_;intro bB F2 O M;refine swapC 33 (.arr 52 2 [[.int .i64 1,.slice false 8 0 0 2 2 p],[.int .i64 2,.slice false 13 0 0 2 1 u],[.int .i64 3,.slice true 0 0 0 2 0 0],[.int .i64 4,.slice true 0 0 0 2 0 0],[.int .i64 5,.slice true 0 0 0 2 0 0],[.int .i64 6,.slice true 0 0 0 2 0 0],[.int .i64 7,.slice true 0 0 0 2 0 0],[.int .i64 8,.slice true 0 0 0 2 0 0]] q) rfl (zsi rfl (by show ∀ x ∈ (_:List (List SA)),x.length = 2; simp) (fun _=>rfl)) (SB.bB_ok rfl) ?_;refine za7 33 (fun _=>.arr 52 2 [[.int .i64 1,.slice false 0 (Y 0) 0 2 2 p],[.int .i64 2,.slice false 0 (bB 0) 0 2 1 u],[.int .i64 3,.slice true 0 0 0 2 0 0],[.int .i64 4,.slice true 0 0 0 2 0 0],[.int .i64 5,.slice true 0 0 0 2 0 0],[.int .i64 6,.slice true 0 0 0 2 0 0],[.int .i64 7,.slice true 0 0 0 2 0 0],[.int .i64 8,.slice true 0 0 0 2 0 0]] q) rfl rfl rfl (fun _ _=>rfl) (fun _ _=>SB.bB_ok rfl) ?_;intro L Q D G
 have A:ClsAt Q (.slice false 0 (L 0) 0 2 8 q) exCl:=by
  have hA:=D _ _ (O _ _ (I 0 rfl));have hB:=D _ _ (M 0 rfl);refine SlR.new (l:=exCl) (G 0 rfl) rfl fun k x e=>?_
  match k,e with
  |0,e=>cases e; exact ⟨_,rfl,_,rfl,Sl.new (l:=[(1,0),(2,0)]) hA⟩
  |1,e=>cases e; exact ⟨_,rfl,_,rfl,Sl.new (l:=[(6,0)]) hB⟩
  |2,e=>cases e; exact ⟨_,rfl,_,rfl,Sl.nil⟩
  |3,e=>cases e; exact ⟨_,rfl,_,rfl,Sl.nil⟩
  |4,e=>cases e; exact ⟨_,rfl,_,rfl,Sl.nil⟩
  |5,e=>cases e; exact ⟨_,rfl,_,rfl,Sl.nil⟩
  |6,e=>cases e; exact ⟨_,rfl,_,rfl,Sl.nil⟩
  |7,e=>cases e; exact ⟨_,rfl,_,rfl,Sl.nil⟩
  |k + 8,e=>cases e
 have w:=zet Q _ ⟨src,j,2,exCl⟩ A (by intro x e; have:=zmf x e; omega) (by show exCl.length < 1000000; decide);rw [K] at w;refine useFo w rfl (zaa _) rfl ?_;rintro _ E R rfl;refine useFo (zdi E true _) rfl ⟨rfl,rfl,tv⟩ rfl ?_;rintro _ _ f ⟨rfl,⟨c,rfl⟩ | ⟨c,rfl⟩⟩
 rotate_left
 ·cases c
 clear c f;refine ⟨rfl,z6h 2 3 ?_⟩;conv=>whnf
 have J:=Fz.t l1 (Fz.t O (Fz.t D R));have B:SB.cells 139 [.str s,.int .i64 81] = SB.cells 139 [.str s,.int .i64 (s.length:Int)]:=by rw [y]; rfl
 exact clean [] (.ret (.tup [.agg (crtS ⟨src,j,2,exCl⟩ (.slice false 0 (L 0) 0 2 8 q)),.va .nilif])) E [(1,crd s s.length)] 2 ⟨J,rfl,rfl,_,rfl,KpsAt.up A R⟩ ⟨rfl,rfl,tv⟩ rfl rfl (Out.bB_ok (o:=.ret (.tup [.agg (crtS ⟨src,j,2,exCl⟩ (.slice false 0 (L 0) 0 2 8 q)),.va .nilif])) rfl) ⟨zbq s _,tv⟩ ⟨Fz.r E,B,tv⟩
theorem zww (F:Fz) (s src a:List UInt8) (c:s.length = 81) (e:crtOk ⟨src,a,2,exCl⟩ = true)
  (h:getS s 0 = (src,33,0)) (w:getS s 33 = (a,66,0)) (i:getI s 66 = (2,67,0)) (p:∀ k:Nat,k < 14 → getI s (67 + (k:Int)) = (exV[k]?.getD 0,68 + (k:Int),0)) :
  Fo Tryz.prog F 36 [.va (.str s)] (fun o l=>∃ sk,o = .ret (.tup [.agg (crtS ⟨src,a,2,exCl⟩ sk),.va (.int .i64 0)]) ∧ ClsAt l sk exCl):=by
 have b:=ybj F s src a c e h w i p;refine fo_of hΘ Tryz.func36 rfl (by decide) _ _ rfl rfl rfl ?_;refine use b [(1,2)] rfl ⟨rfl,tv⟩ rfl ⟨zbq s _,tv⟩ (by simp [SV.below,SA.below]) ⟨rfl,tv⟩ ?_;rintro g F1 A n0 n ⟨rfl,rfl,sk,rfl,f⟩;have d:=f;obtain ⟨u,m,q,j,y,D,rfl,B,x,E,G⟩:=f;refine drawP hΘ mixed (.look 0 (.look 1 (.alt 2 (.alt 3 (.look 4 .done) .nil) .nil))) [3] (by kernel_rfl) ?_;refine ⟨rfl,?_⟩;refine usePu (z2k F1) rfl (zaa _) rfl ?_;refine ⟨Fz.r F1,rfl,Fz.r F1,rfl,?_⟩;exact endFo (.ret (.tup [.agg (crtS ⟨src,a,2,exCl⟩ (.slice u 0 m q 2 exCl.length j)),.va (.int .i64 0)])) F1 rfl n (Fz.r F1) ⟨_,rfl,d⟩ (zah _) rfl
def force {β:Type} (n:Nat) (k:Nat → β):β:=match n with
 |0=>k 0
 |m + 1=>k (m + 1)
theorem force_eq {β:Type} (n:Nat) (k:Nat → β):force n k = k n:=by cases n<;>rfl
def zp8 {β:Type}:List Nat → (List Nat → β) → β
 |[],k=>k []
 |x :: r,k=>force x fun y=>zp8 r fun l=>k (y :: l)
theorem zk9 {β:Type}:∀ (l:List Nat) (k:List Nat → β),zp8 l k = k l
 |[],_=>rfl
 |x :: r,k=>by rw [zp8,force_eq,zk9 r]
def fW {β:Type} (v:W8) (k:W8 → β):β:=force v.a fun a=>force v.b fun b=>force v.c fun c=>force v.d fun d=>force v.e fun e=>force v.f fun f=>force v.g fun g=>force v.h fun h=>k ⟨a,b,c,d,e,f,g,h⟩
theorem fW_eq {β:Type} (v:W8) (k:W8 → β):fW v k = k v:=by simp only [fW,force_eq]
def nx16 (a b c d:Nat):Nat:=(a + (mix b [7,18] 0 ^^^ b / 8) + c + (mix d [17,19] 0 ^^^ d / 1024)) % 4294967296
def zur {β:Type}:List Nat → List Nat → W8 → (W8 → β) → β
 |[],_,v,k=>k v
 |c :: r,w,v,k=>force (nx16 (at0 w 0) (at0 w 1) (at0 w 9) (at0 w 14)) fun x=>zp8 (w.drop 1 ++ [x]) fun a=>fW (step8 c (at0 w 0) v) fun u=>zur r a u k
theorem zn3 (p l:List Nat) (j:Nat):at0 (p ++ l) (p.length + j) = at0 l j:=by
 unfold at0;rw [jy (Nat.le_add_right _ _),qal]
theorem z8m (p w:List Nat) (b:w.length = 16):nxt (p ++ w) = nx16 (at0 w 0) (at0 w 1) (at0 w 9) (at0 w 14):=by
 have h:(p ++ w).length = p.length + 16:=by rw [qd,b]
 have h1:p.length + 16 - 16 = p.length + 0:=by omega
 have c:p.length + 16 - 15 = p.length + 1:=by omega
 have a:p.length + 16 - 7 = p.length + 9:=by omega
 have d:p.length + 16 - 2 = p.length + 14:=by omega
 rw [nxt,h,h1,c,a,d,zn3,zn3,zn3,zn3];rfl
theorem zj0:∀ (n:Nat) (w:List Nat),∃ z,grow n w = w ++ z ∧ z.length = n
 |0,w=>⟨[],by simp [grow],rfl⟩
 |n + 1,w=>by
  obtain ⟨z,b,a⟩:=zj0 n (w ++ [nxt w]);exact ⟨nxt w :: z,by rw [grow,b]; simp,by simp [a]⟩
theorem zyf {β:Type} (k:W8 → β):∀ (b:List Nat) (n:Nat) (p w:List Nat) (v:W8),b.length ≤ n → w.length = 16 →
  zur b w v k = k (zgi (b.zip ((grow n (p ++ w)).drop p.length)) v):=by
 intro b
 induction b with
 |nil=>intro n p w v _ _; rfl
 |cons c r ih=>
  intro n p w v h d;cases n with
  |zero=>exact absurd h (by simp)
  |succ n=>
   cases w with
   |nil=>cases d
   |cons a t=>
    have f:t.length = 15:=by simpa using d
    have ih:=ih n (p ++ [a]) (t ++ [nxt (p ++ a :: t)]) (step8 c a v) (by simpa using h) (by rw [qd,f]; rfl);rw [zur,force_eq,zk9,fW_eq,← z8m p _ d];rw [show (a :: t).drop 1 = t from rfl,show at0 (a :: t) 0 = a from rfl,ih];have e:p ++ [a] ++ (t ++ [nxt (p ++ a :: t)]) = p ++ a :: t ++ [nxt (p ++ a :: t)]:=by simp
    rw [e,grow];obtain ⟨z,g,-⟩:=zj0 n (p ++ a :: t ++ [nxt (p ++ a :: t)]);rw [g]
    have d1:(p ++ a :: t ++ [nxt (p ++ a :: t)] ++ z).drop p.length = a :: (t ++ [nxt (p ++ a :: t)] ++ z):=by
     rw [ql,ql,qcp]; simp
    have d2:(p ++ a :: t ++ [nxt (p ++ a :: t)] ++ z).drop (p ++ [a]).length = t ++ [nxt (p ++ a :: t)] ++ z:=by
     rw [← e,ql (p ++ [a]),qcp]
    rw [d1,d2,qb0,zgi,zgi,y5]
theorem yah (k a z:List Nat) (h:k.length ≤ a.length):k.zip (a ++ z) = k.zip a:=by
 induction k generalizing a with
 |nil=>rfl
 |cons x r ih=>cases a with
  |nil=>exact absurd h (by simp)
  |cons y s=>rw [yh,qb0,qb0,ih s (by simpa using h)]
theorem zp2:∀ (m n:Nat) (w:List Nat),grow (m + n) w = grow n (grow m w)
 |0,n,w=>by rw [q5]; rfl
 |m + 1,n,w=>by rw [Nat.add_right_comm]; exact zp2 m n _
def zz3 {β:Type} (b:List UInt8) (v:W8) (k:W8 → β):β:=zp8 ((List.range 16).map (word b)) fun w=>zur konst w v fun u=>fW (add8 v u) k
theorem zx2 {β:Type} (b:List UInt8) (v:W8) (k:W8 → β):zz3 b v k = k (zib b v):=by
 rw [zz3,zk9];have h:=zyf (fun u=>fW (add8 v u) k) konst 64 [] ((List.range 16).map (word b)) v (nb rfl) rfl;refine h.trans ?_;rw [fW_eq,zib]
 have e:(konst.zip ((grow 64 ([] ++ (List.range 16).map (word b))).drop ([]:List Nat).length)) = konst.zip (sched b):=by
  rw [qw,qt,qaf,sched,show (64:Nat) = 48 + 16 from rfl,zp2];obtain ⟨z,d,-⟩:=zj0 16 (grow 48 ((List.range 16).map (word b)));rw [d];refine yah _ _ _ ?_;obtain ⟨y,c,a⟩:=zj0 48 ((List.range 16).map (word b));rw [c,qd,a];exact nb rfl
 rw [e]
def zox {β:Type}:List Nat → List UInt8 → W8 → (W8 → β) → β
 |[],_,v,k=>k v
 |i :: r,p,v,k=>zz3 ((p.drop (64 * i)).take 64) v fun u=>zox r p u k
theorem zms {β:Type} (p:List UInt8) (k:W8 → β):∀ (l:List Nat) (v:W8),zox l p v k = k (l.foldl (fun v k=>zib ((p.drop (64 * k)).take 64) v) v)
 |[],_=>rfl
 |i :: r,v=>by rw [zox,zx2,zms p k r,y5]
def sumW (s:List UInt8):List UInt8:=zox (List.range ((padded s).length / 64)) (padded s) init8 zgh
theorem zzy (s:List UInt8):sumW s = sumS s:=by rw [sumW,zms]; rfl
theorem leafV {s d:List UInt8} (h:sumW (0 :: s) = d):leafS s = d:=by rw [leafS,← zzy,h]
theorem nodeV {a b x y d:List UInt8} (e:a = x) (c:b = y) (h:sumW (1 :: (x ++ y)) = d):nodeS a b = d:=by rw [nodeS,e,c,← zzy,h]
def valA:List (List UInt8):=[[2,12,84,111,32,32,66,101],[2,10],[0],[0],[0],[0,0],[0,0,0],[2,0]]
theorem gl0:leafS [2,12,84,111,32,32,66,101] = [238,43,26,1,207,144,68,193,115,18,112,4,215,143,46,111,177,187,153,33,44,0,1,222,88,185,117,180,10,41,136,53]:=leafV (by decide +kernel)
theorem gl1:leafS [2,10] = [211,168,146,147,135,137,144,118,180,0,248,134,99,149,60,40,227,223,96,46,78,218,94,137,173,237,112,221,10,152,83,107]:=leafV (by decide +kernel)
theorem gl2:leafS [0] = [150,162,150,210,36,242,133,198,123,238,147,195,15,138,48,145,87,240,218,163,93,197,184,126,65,11,120,99,10,9,207,199]:=leafV (by decide +kernel)
theorem gl3:leafS [0,0] = [112,158,128,200,132,135,162,65,30,30,228,223,185,242,42,134,20,146,210,12,71,101,21,12,12,121,74,189,112,248,20,124]:=leafV (by decide +kernel)
theorem gl4:leafS [0,0,0] = [223,63,97,152,4,169,47,219,64,87,25,45,196,61,215,72,234,119,138,220,82,188,73,140,232,5,36,192,20,184,17,25]:=leafV (by decide +kernel)
theorem gl5:leafS [2,0] = [219,188,112,37,232,158,185,177,236,158,142,44,122,45,182,134,157,187,80,251,162,27,243,116,200,101,41,220,49,28,237,233]:=leafV (by decide +kernel)
theorem gnA0:nodeS (leafS [2,12,84,111,32,32,66,101]) (leafS [2,10]) = [116,129,84,203,128,152,161,250,41,172,209,118,108,42,66,180,165,165,154,122,167,31,35,29,237,223,246,32,172,226,30,157]:=nodeV (gl0) (gl1) (by decide +kernel)
theorem gnA1:nodeS (leafS [0]) (leafS [0]) = [13,226,65,128,173,164,201,93,183,137,134,218,62,87,14,167,168,41,106,252,156,252,123,4,185,118,203,170,91,180,234,137]:=nodeV (gl2) (gl2) (by decide +kernel)
theorem gnA2:nodeS (leafS [0]) (leafS [0,0]) = [123,80,130,78,116,212,98,75,241,11,125,227,213,139,216,133,49,214,80,228,55,94,69,79,228,185,104,93,12,73,204,149]:=nodeV (gl2) (gl3) (by decide +kernel)
theorem gnA3:nodeS (leafS [0,0,0]) (leafS [2,0]) = [251,214,97,244,25,243,9,210,205,9,142,32,93,57,232,164,201,154,136,225,224,89,230,34,176,43,250,58,47,151,64,127]:=nodeV (gl4) (gl5) (by decide +kernel)
theorem gnA4:nodeS (nodeS (leafS [2,12,84,111,32,32,66,101]) (leafS [2,10])) (nodeS (leafS [0]) (leafS [0])) = [238,208,255,52,27,145,149,89,39,245,242,170,80,225,87,142,125,108,37,18,110,36,23,176,152,226,240,21,103,49,64,163]:=nodeV (gnA0) (gnA1) (by decide +kernel)
theorem gnA5:nodeS (nodeS (leafS [0]) (leafS [0,0])) (nodeS (leafS [0,0,0]) (leafS [2,0])) = [61,188,37,240,46,83,250,156,148,215,32,106,192,242,66,51,240,233,62,90,236,106,112,36,82,248,165,27,185,208,211,42]:=nodeV (gnA2) (gnA3) (by decide +kernel)
theorem gnA6:nodeS (nodeS (nodeS (leafS [2,12,84,111,32,32,66,101]) (leafS [2,10])) (nodeS (leafS [0]) (leafS [0]))) (nodeS (nodeS (leafS [0]) (leafS [0,0])) (nodeS (leafS [0,0,0]) (leafS [2,0]))) = [171,174,167,58,167,81,185,43,48,224,96,218,29,211,146,128,64,184,139,96,77,17,46,118,111,240,82,54,231,197,36,76]:=nodeV (gnA4) (gnA5) (by decide +kernel)
theorem rootA:root8 valA = [171,174,167,58,167,81,185,43,48,224,96,218,29,211,146,128,64,184,139,96,77,17,46,118,111,240,82,54,231,197,36,76]:=gnA6
def valC:List (List UInt8):=[[2,10,116,111,32,98,101],[2,0],[0],[0],[0],[0,0],[0,0,0],[2,0]]
theorem gl6:leafS [2,10,116,111,32,98,101] = [181,74,11,201,27,109,77,171,99,210,222,104,68,96,9,243,161,211,126,175,131,90,161,233,7,198,238,32,108,6,140,164]:=leafV (by decide +kernel)
theorem gnC0:nodeS (leafS [2,10,116,111,32,98,101]) (leafS [2,0]) = [189,227,190,161,253,59,247,175,172,237,225,62,75,50,84,1,115,35,95,217,101,220,82,217,148,100,23,193,204,128,124,44]:=nodeV (gl6) (gl5) (by decide +kernel)
theorem gnC1:nodeS (leafS [0]) (leafS [0]) = [13,226,65,128,173,164,201,93,183,137,134,218,62,87,14,167,168,41,106,252,156,252,123,4,185,118,203,170,91,180,234,137]:=nodeV (gl2) (gl2) (by decide +kernel)
theorem gnC2:nodeS (leafS [0]) (leafS [0,0]) = [123,80,130,78,116,212,98,75,241,11,125,227,213,139,216,133,49,214,80,228,55,94,69,79,228,185,104,93,12,73,204,149]:=nodeV (gl2) (gl3) (by decide +kernel)
theorem gnC3:nodeS (leafS [0,0,0]) (leafS [2,0]) = [251,214,97,244,25,243,9,210,205,9,142,32,93,57,232,164,201,154,136,225,224,89,230,34,176,43,250,58,47,151,64,127]:=nodeV (gl4) (gl5) (by decide +kernel)
theorem gnC4:nodeS (nodeS (leafS [2,10,116,111,32,98,101]) (leafS [2,0])) (nodeS (leafS [0]) (leafS [0])) = [182,79,0,168,112,244,243,82,166,87,160,70,230,42,70,147,161,56,61,154,66,245,27,147,150,39,125,160,0,127,31,124]:=nodeV (gnC0) (gnC1) (by decide +kernel)
theorem gnC5:nodeS (nodeS (leafS [0]) (leafS [0,0])) (nodeS (leafS [0,0,0]) (leafS [2,0])) = [61,188,37,240,46,83,250,156,148,215,32,106,192,242,66,51,240,233,62,90,236,106,112,36,82,248,165,27,185,208,211,42]:=nodeV (gnC2) (gnC3) (by decide +kernel)
theorem gnC6:nodeS (nodeS (nodeS (leafS [2,10,116,111,32,98,101]) (leafS [2,0])) (nodeS (leafS [0]) (leafS [0]))) (nodeS (nodeS (leafS [0]) (leafS [0,0])) (nodeS (leafS [0,0,0]) (leafS [2,0]))) = [87,88,40,225,107,207,196,38,61,10,33,79,30,124,109,124,220,103,169,15,91,32,254,125,139,13,94,204,226,91,176,220]:=nodeV (gnC4) (gnC5) (by decide +kernel)
theorem rootC:root8 valC = [87,88,40,225,107,207,196,38,61,10,33,79,30,124,109,124,220,103,169,15,91,32,254,125,139,13,94,204,226,91,176,220]:=gnC6
theorem zuo:root8 valC ≠ root8 valA:=by rw [rootA,rootC]; decide
def d1:Dc:=exD [84,111,32,32,66,101] 5
def d2:Dc:=exD [116,111,32,32,98,101] 5
def d3:Dc:=exD [116,111,32,98,101] 0
def d4:Dc:=exD [116,111,32,98,101] 5
def mg1:Mig:=⟨1,1,2,false,[(1,[(1,0)])]⟩
def mg2:Mig:=⟨2,2,3,false,[(1,[(2,0)]),(2,[(6,0)])]⟩
theorem zhw (m:Mig) (d e:Dc):zdq m d e = (migOk m && (docOk d && (docOk e && (clOk (zbh m.keep) 1 && (zbh m.keep).all (chkAt (allB d) (allB e)))))):=by
 have h1:decide ((root8 (allB d)).length = 32) = true:=decide_eq_true (zfk _);have c:decide ((root8 (allB e)).length = 32) = true:=decide_eq_true (zfk _);have b:decide ((zbh m.keep).length = 8) = true:=decide_eq_true (zc1 _);have f:decide ((allB d).length = 8) = true:=decide_eq_true (zct _);have a:decide ((allB e).length = 8) = true:=decide_eq_true (zct _)
 have h:crtOk (makeC m d e) = clOk (zbh m.keep) 1:=by
  show (decide ((root8 (allB d)).length = 32) && (decide ((root8 (allB e)).length = 32) && (decide (1 ≤ (1:Int)) && (decide ((1:Int) ≤ 64) && (decide ((zbh m.keep).length = 8) && clOk (zbh m.keep) 1))))) = _;rw [h1,c,b]; rfl
 have g:zcq (makeC m d e) (allB d) (allB e) = (clOk (zbh m.keep) 1 && (zbh m.keep).all (chkAt (allB d) (allB e))):=by
  rw [zcq,h,f,a];show (_ && (true && (decide (root8 (allB d) = root8 (allB d)) && (decide (root8 (allB e) = root8 (allB e)) && (zbh m.keep).all (chkAt (allB d) (allB e)))))) = _;rw [decide_eq_true rfl,decide_eq_true rfl]; simp
 rw [zdq,g]
theorem mk1:zdq mg1 d1 d2 = true:=by rw [zhw]; decide +kernel
theorem mk2:zdq mg1 d1 d4 = false:=by rw [zhw]; decide +kernel
theorem mk3:zdq mg2 d2 d3 = true:=by rw [zhw]; decide +kernel
theorem all1:allB d1 = valA:=by decide +kernel
theorem all3:allB d3 = valC:=by decide +kernel
theorem doc1:docOk d1 = true:=by decide +kernel
theorem doc3:docOk d3 = true:=by decide +kernel
def cA:Crt:=makeC mg1 d1 d2
def cB:Crt:=makeC mg2 d2 d3
theorem zw7 {m:Mig} {d e:Dc} (h:zdq m d e = true):crtOk (makeC m d e) = true:=by
 simp only [zdq,qf,zcq] at h;exact h.2.2.2.1
theorem okA:crtOk cA = true:=zw7 mk1
theorem okB:crtOk cB = true:=zw7 mk3
def cX:Crt:=⟨root8 (allB d1),root8 (allB d3),2,exCl⟩
theorem ydh:joinC cA cB = cX:=by
 have h:List.zipWith zg8 (zbh mg1.keep) (zbh mg2.keep) = exCl:=by decide +kernel
 show Crt.mk (root8 (allB d1)) (root8 (allB d3)) 2 (List.zipWith zg8 (zbh mg1.keep) (zbh mg2.keep)) = _;rw [h]; rfl
theorem comp1:zc9 [cA,cB] = some cX:=by
 have b:zdp cA cB = true:=by
  have c:crtOk cB = true:=zw7 mk3;have a:decide (cA.dst = cB.src) = true:=decide_eq_true rfl;rw [zdp,a,c]; rfl
 rw [zc9,if_pos okA,foldS,if_pos b,foldS,ydh]
theorem comp2:zc9 [cB,cA] = none:=by
 have b:zdp cB cA = false:=by
  have a:decide (cB.dst = cA.src) = false:=decide_eq_false (by
   show root8 (allB d3) ≠ root8 (allB d1);rw [all1,all3]; exact zuo)
  rw [zdp,a]; rfl
 rw [zc9,if_pos okB,foldS,if_neg (by rw [b]; simp)]
theorem cX_ok:crtOk cX = true:=by
 show (decide ((root8 (allB d1)).length = 32) && (decide ((root8 (allB d3)).length = 32) && (decide (1 ≤ (2:Int)) && (decide ((2:Int) ≤ 64) && (decide (exCl.length = 8) && clOk exCl 1))))) = _;rw [decide_eq_true (zfk _),decide_eq_true (zfk _)]; decide +kernel
theorem chk1:zcq cX (allB d1) (allB d3) = true:=by
 have h:exCl.all (chkAt (allB d1) (allB d3)) = true:=by decide +kernel
 rw [zcq,cX_ok,decide_eq_true (zct _),decide_eq_true (zct _)];show (true && ((true && true) && (decide (root8 (allB d1) = root8 (allB d1)) && (decide (root8 (allB d3) = root8 (allB d3)) && exCl.all (chkAt (allB d1) (allB d3)))))) = true;rw [decide_eq_true rfl,decide_eq_true rfl,h]; rfl
theorem chk2:zcq cX (allB d3) (allB d1) = false:=by
 have h:decide (root8 (allB d3) = root8 (allB d1)) = false:=decide_eq_false (by rw [all1,all3]; exact zuo);rw [zcq];show (_ && (_ && (decide (root8 (allB d3) = root8 (allB d1)) && _))) = false;rw [h]; simp
theorem sameX:znq cX cX = true:=by simp [znq]
theorem yb4:znq cA cB = false:=by
 have h:decide (zbh mg1.keep = zbh mg2.keep) = false:=by decide +kernel
 show (_ && (_ && (_ && decide (zbh mg1.keep = zbh mg2.keep)))) = false;rw [h]; simp
theorem encX:encC cX = [64] ++ root8 valA ++ [64] ++ root8 valC ++ [4,4,2,0,4,0,2,12,0,0,0,0,0,0,0]:=by
 have h1:∀ s:List UInt8,s.length = 32 → (putSR s).1 = [64] ++ s:=fun s c=>by
  have a:putI ((32:Nat):Int) = [64]:=by decide +kernel
  rw [putSR,if_neg (by omega),c];show putI ((32:Nat):Int) ++ s = _;rw [a]
 have b:zae [(2:Int)] ++ (exCl.map zgm).flatten = [4,4,2,0,4,0,2,12,0,0,0,0,0,0,0]:=by decide +kernel
 show (putSR (root8 (allB d1))).1 ++ (putSR (root8 (allB d3))).1 ++ zae [(2:Int)] ++ (exCl.map zgm).flatten = _;rw [ql _ (zae _),b,h1 _ (zfk _),h1 _ (zfk _),all1,all3];simp only [ql]
theorem rd1:getS (encC cX) 0 = (root8 valA,33,0):=by rw [encX,rootA,rootC]; decide +kernel
theorem rd2:getS (encC cX) 33 = (root8 valC,66,0):=by rw [encX,rootA,rootC]; decide +kernel
theorem rd3:getI (encC cX) 66 = (2,67,0):=by rw [encX,rootA,rootC]; decide +kernel
theorem rd4:∀ k:Nat,k < 14 → getI (encC cX) (67 + (k:Int)) = (exV[k]?.getD 0,68 + (k:Int),0):=by rw [encX,rootA,rootC]; decide +kernel
theorem rdl:(encC cX).length = 81:=by rw [encX,rootA,rootC]; rfl
end Go.Proofs.YtfnkamphhpldcaaGreatDoor
namespace Sx
open Go
def LJ0 (a:St) (jl:List Nat) (F:Fz):St:=⟨[] :: junks jl :: a.t,[(0,.frz F)] :: a.h,a.nx,a.n0,a.nt,a.d⟩
theorem cutJ {P:Program} {c:Code} {a:St} {Q:SE → St → Prop} {X:Type} (b:Fz) (upd:X → List (Nat × SV)) (jl:List Nat) (hup:X → List (Nat × Ent)) (N:Nat)
  (j:WfH a.h a.nx → WfT a.t a.nx → Le a (LJ0 a jl b))
  (h1:WfH a.h a.nx → WfT a.t a.nx → WP P c (LJ0 a jl b) (fun e d=>e = .normal ∧ ∃ x,Le d (LI a upd jl hup N x)))
  (i:∀ x,Q .normal (LI a upd jl hup N x)):WP P c a Q:=
 ydz (LJ0 a jl b) (LI a upd jl hup N) (fun f g=>⟨j f g,h1 f g⟩) i
end Sx
namespace Go.Proofs.YtfnkamphhpldcaaGreatDoor
open Go Sx
set_option maxRecDepth 100000
abbrev dS (b:Nat):List SA:=docS (.slice false 0 b 0 2 1 1) (.slice true 0 0 0 6 0 0) 0 []
abbrev LnAt (F:Fz) (b:Nat) (t:List UInt8) (m:Int):Prop:=F b = some (.arr 148 2 ([(t,m)].map encN) 1)
theorem ydg (F:Fz) (j:MLF F) (i:RNDF F) (sk:SA) (d e:Nat) (g:KpsAt F sk mg1.keep) (h1:LnAt F d [84,111,32,32,66,101] 5) (f:LnAt F e [116,111,32,32,98,101] 5) :
  Fo Tryz.prog F 21 [.agg (migS mg1 sk),.agg (dS d),.agg (dS e)] (fun o c=>∃ a,o = .ret (.tup [.agg (crtS cA a),.va (.int .i64 0)]) ∧ ClsAt c a cA.cl):=
 zb9 (zny F j i sk _ _ _ _ mg1 d1 d2 g (by intro x b; simp [mg1] at b; subst b; decide) (by decide) (exAt h1) (exAt f) (zey _ _) (zey _ _)) fun o c h=>by
  rcases h with ⟨h,_⟩ | ⟨_,h⟩
  ·exact absurd (h.symm.trans mk1) (by simp)
  ·exact h
theorem ydb (F:Fz) (g:MLF F) (f:RNDF F) (sk:SA) (b c:Nat) (e:KpsAt F sk mg1.keep) (h1:LnAt F b [84,111,32,32,66,101] 5) (d:LnAt F c [116,111,32,98,101] 5) :
  Fo Tryz.prog F 21 [.agg (migS mg1 sk),.agg (dS b),.agg (dS c)] (fun o i=>o = .ret (.tup [.agg [.str [],.str [],.int .i64 0,.nilsl],.va (.int .i64 100)])):=
 zb9 (zny F g f sk _ _ _ _ mg1 d1 d4 e (by intro x a; simp [mg1] at a; subst a; decide) (by decide) (exAt h1) (exAt d) (zey _ _) (zey _ _)) fun o i h=>by
  rcases h with ⟨_,h⟩ | ⟨h,_⟩
  ·exact h
  ·exact absurd (h.symm.trans mk2) (by simp)
theorem yca (F:Fz) (j:MLF F) (i:RNDF F) (sk:SA) (d e:Nat) (g:KpsAt F sk mg2.keep) (h1:LnAt F d [116,111,32,32,98,101] 5) (f:LnAt F e [116,111,32,98,101] 0) :
  Fo Tryz.prog F 21 [.agg (migS mg2 sk),.agg (dS d),.agg (dS e)] (fun o c=>∃ a,o = .ret (.tup [.agg (crtS cB a),.va (.int .i64 0)]) ∧ ClsAt c a cB.cl):=
 zb9 (zny F j i sk _ _ _ _ mg2 d2 d3 g (by intro x b; simp [mg2] at b; rcases b with rfl | rfl<;>decide) (by decide) (exAt h1) (exAt f) (zey _ _) (zey _ _)) fun o c h=>by
  rcases h with ⟨h,_⟩ | ⟨_,h⟩
  ·exact absurd (h.symm.trans mk3) (by simp)
  ·exact h
theorem sameT (F:Fz) (b c:SA) (a:List Stp) (g:za1 F b a) (e:za1 F c a) (d:a.length < 1000000):Fo Tryz.prog F 46 [.va b,.va c] (fun o f=>o = .ret (.va (.lit true)) ∧ f = F):=by
 have h1:=ybg F b c a a g e d;rw [decide_eq_true rfl] at h1;exact zgs h1
abbrev zC:List SA:=[.str [],.str [],.int .i64 0,.nilsl]
abbrev zC':List SA:=[.str [],.str [],.int .i64 0,.slice true 0 0 0 2 0 0]
theorem zSwap (ρ:Rho) (vs:List Value) (h:relL ρ [.agg zC] vs):relL ρ [.agg zC'] vs:=by
 match vs,h with
 |[],h=>exact h.elim
 |[v],h=>exact h
 |_ :: _ :: _,h=>exact h
theorem ydi (n:Nat):∀ s ∈ [SV.agg zC'],s.below n:=fun s b=>by
 simp only [qu] at b;subst b;intro a c;simp only [qj,qs,or_false] at c;rcases c with rfl | rfl | rfl | rfl
 ·trivial
 ·trivial
 ·trivial
 ·exact .inl rfl
theorem zos:short cA.cl:=zeo (by intro x a; simp [mg1] at a; subst a; decide)
theorem zug:short cB.cl:=zeo (by intro x a; simp [mg2] at a; rcases a with rfl | rfl<;>decide)
theorem zim:short cX.cl:=fun x a=>by have:=zmf x a; omega
theorem crts2 {F:Fz} {b:Nat} {d c:Crt} {e f:SA} (h1:ClsAt F e d.cl) (g:ClsAt F f c.cl) (h:F b = some (.arr 48 4 [crtS d e,crtS c f] 2)):z7x F (.slice false 0 b 0 4 2 2) [d,c]:=
 SlR.new (l:=[d,c]) h rfl fun k x a=>by
  match k,a with
  |0,a=>cases a; exact ⟨_,rfl,e,rfl,h1⟩
  |1,a=>cases a; exact ⟨_,rfl,f,rfl,g⟩
  |k + 2,a=>cases a
theorem zog {p:Crt → Prop} {d a:Crt} (h1:p d) (e:p a):∀ c ∈ [d,a],p c:=by
 intro c b;simp only [qj,qs,or_false] at b;rcases b with rfl | rfl
 ·exact h1
 ·exact e
theorem z0l:cA.cl.length < 1000000:=yq (qb5 (zc1 mg1.keep)) (by decide)
theorem z7o:cB.cl.length < 1000000:=yq (qb5 (zc1 mg2.keep)) (by decide)
theorem ybp (F:Fz) (b:Nat) (a e:SA) (k:ClsAt F a cA.cl) (f:ClsAt F e cB.cl) (j:F b = some (.arr 48 4 [crtS cA a,crtS cB e] 2)) :
  Fo Tryz.prog F 30 [.va (.slice false 0 b 0 4 2 2)] (fun o d=>∃ sk,o = .ret (.tup [.agg (crtS cX sk),.va (.int .i64 0)]) ∧ ClsAt d sk cX.cl):=
 zb9 (ziu F false b 0 2 [cA,cB] (crts2 k f j) (qm 2) (zog zos zug) (zog z0l z7o) (by show 2 < 1000000; decide)) fun o d h=>by
  rcases h with ⟨h,_⟩ | ⟨c,h,i⟩
  ·exact absurd (h.symm.trans comp1) (by simp)
  ·have g:c = cX:=by have:=h.symm.trans comp1; exact Option.some.inj this
   subst g; exact i
theorem z8v (F:Fz) (b:Nat) (a d:SA) (i:ClsAt F a cA.cl) (e:ClsAt F d cB.cl) (f:F b = some (.arr 48 4 [crtS cB d,crtS cA a] 2)) :
  Fo Tryz.prog F 30 [.va (.slice false 0 b 0 4 2 2)] (fun o g=>o = .ret (.tup [.agg [.str [],.str [],.int .i64 0,.nilsl],.va (.int .i64 100)])):=
 zb9 (ziu F false b 0 2 [cB,cA] (crts2 e i f) (qm 2) (zog zug zos) (zog z7o z0l) (by show 2 < 1000000; decide)) fun o g h=>by
  rcases h with ⟨_,h⟩ | ⟨c,h,_⟩
  ·exact h
  ·exact absurd (h.symm.trans comp2) (by simp)
theorem ya0 (F:Fz):Fo Tryz.prog F 30 [.va (.slice true 0 0 0 4 0 0)] (fun o a=>o = .ret (.tup [.agg [.str [],.str [],.int .i64 0,.nilsl],.va (.int .i64 100)])):=
 zb9 (ziu F true 0 0 0 [] SlR.nil (by decide) (by simp) (by simp) (by decide)) fun o a h=>by
  rcases h with ⟨_,h⟩ | ⟨c,h,_⟩
  ·exact h
  ·cases h
theorem zwl (F:Fz) (b:Nat) (t:List UInt8) (m:Int) (h:LnAt F b t m) (d:docOk (exD t m) = true):Fo Tryz.prog F 14 [.agg (dS b)] (fun o a=>∃ b c,o = .ret (.tup [.va (.slice false 0 b 0 1 8 c),.va (.int .i64 0)]) ∧ a b = some (.arr 9 1 ((allB (exD t m)).map encS) c)):=
 zb9 (znl F _ _ (exD t m) (exAt h) (zey _ _)) fun o a h=>by
  rcases h with ⟨h,_⟩ | ⟨_,h⟩
  ·exact absurd (h.symm.trans d) (by simp)
  ·exact h
end Go.Proofs.YtfnkamphhpldcaaGreatDoor
