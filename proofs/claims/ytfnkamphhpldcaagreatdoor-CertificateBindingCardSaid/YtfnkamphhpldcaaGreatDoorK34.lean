import Derived.Test.YtfnkamphhpldcaaGreatDoorK33
import Derived.Test.YtfnkamphhpldcaaGreatDoorK22
import Derived.Test.YtfnkamphhpldcaaGreatDoorK31
import Derived.Test.YtfnkamphhpldcaaGreatDoorK26
set_option maxHeartbeats 64000000
namespace Go.Proofs.YtfnkamphhpldcaaGreatDoor
open Go Sx
set_option maxRecDepth 100000
def exCl:List Kp:=[(1,[(1,0),(2,0)]),(2,[(6,0)]),(3,[]),(4,[]),(5,[]),(6,[]),(7,[]),(8,[])]
theorem zmu:∀x∈exCl,x.2.length<=2:=by decide
def exV:List Int:=[2,1,0,2,0,1,6,0,0,0,0,0,0,0]
theorem z7q(F:Fz)(s src j:List UInt8)(A:s.length=81)(K:crtOk ⟨src,j,2,exCl⟩=true)
  (r1:getS s 0=(src,33,0))(r2:getS s 33=(j,66,0))(r3:getI s 66=(2,67,0))(m:∀k:Nat,k < 14->getI s (67+(k:Int))=(exV[k]?.getD 0,68+(k:Int),0)):
  Ct Tryz.prog 82 [.va (.ptr ⟨1,0,0,0,0⟩)] F [(1,crd s 0)] 2
   (fun o g h n0=>n0=2/\h=[(1,crd s s.length)]/\∃sk,o=.ret (.tup [.agg (crtS ⟨src,j,2,exCl⟩ sk),.va .nilif])/\ClsAt g sk exCl):=by
 have i:s.length<=1000000000000000000:=by omega
 unfold Ct;refine z2h hΘ Tryz.func82 rfl (by decide) _ _ rfl rfl rfl ?_;refine z6g ?_;refine zcx hΘ _ _ _ ?_;refine z6g ?_;refine zxo hΘ rfl rfl rfl rfl ?_;refine⟨_,_,rfl,?_⟩;refine zcx hΘ _ _ _ ?_;refine use (zyo F s 0 33 src i ⟨by decide,by decide⟩ r1) [(1,1)] rfl ⟨rfl,tv⟩ rfl ⟨zbx s _,tv⟩ (by simp[SV.below,SA.below]) ⟨rfl,tv⟩ ?_;rintro b g h n0 a ⟨rfl,rfl,rfl,rfl⟩;refine use (zyo F s 33 66 j i ⟨by decide,by decide⟩ r2) [(1,1)] rfl ⟨rfl,tv⟩ rfl ⟨zbx s _,tv⟩ (by simp[SV.below,SA.below]) ⟨rfl,tv⟩ ?_;rintro b g h n0 a ⟨rfl,rfl,rfl,rfl⟩;refine use (zdt F s 66 2 67 i ⟨by decide,by decide⟩ r3) [(1,1)] rfl ⟨rfl,tv⟩ rfl ⟨zbx s _,tv⟩ (by simp[SV.below,SA.below]) ⟨rfl,tv⟩ ?_;rintro b g h n0 a ⟨rfl,rfl,rfl,rfl⟩;conv=>whnf
 refine zfa hΘ 8 ?_;conv=>whnf
 refine bre (by decide) ?_;refine use (zdt F s 67 2 68 i ⟨by decide,by decide⟩ (m 0 (by decide))) [(1,1)] rfl ⟨rfl,tv⟩ rfl ⟨zbx s _,tv⟩ (by simp[SV.below,SA.below]) ⟨rfl,tv⟩ ?_;rintro b g h n0 a ⟨rfl,rfl,rfl,rfl⟩;clear a;refine gae (by decide) ?_;refine useFo (zdq F _ _) rfl ⟨rfl,rfl,tv⟩ rfl ?_;rintro _ _ f ⟨rfl,⟨c,rfl⟩ | ⟨c,rfl⟩⟩
 rotate_left
 ·exact absurd c (by decide)
 clear c f;conv=>whnf
 refine zfa hΘ 2 ?_;refine bre (by decide) ?_;refine drawP hΘ mixed (lk [0,1,2,4] (.alt 3 (.alt 5 (.alt 6 (.alt 7 (.alt 8 (.look 9 (.last 10 .done)) .nil) .nil) .nil) .nil) .nil)) [4] (by kernel_rfl) ⟨rfl,?_⟩;refine use (zdt F s 68 1 69 i ⟨by decide,by decide⟩ (m 1 (by decide))) [(1,1)] rfl ⟨rfl,tv⟩ rfl ⟨zbx s _,tv⟩ (by simp[SV.below,SA.below]) ⟨rfl,tv⟩ ?_;rintro b g h n0 a ⟨rfl,rfl,rfl,rfl⟩;clear a;refine⟨Fz.r F,rfl,?_⟩;refine use (zdt F s 69 0 70 i ⟨by decide,by decide⟩ (m 2 (by decide))) [(1,1)] rfl ⟨rfl,tv⟩ rfl ⟨zbx s _,tv⟩ (by simp[SV.below,SA.below]) ⟨rfl,tv⟩ ?_;rintro b g h n0 a ⟨rfl,rfl,rfl,rfl⟩;clear a;refine⟨Fz.r F,rfl,Fz.r F,rfl,Fz.r F,rfl,nb rfl,[enc (1,0)],rfl,rfl,rfl,by show 1*16<=140737488355328;omega,fun Q u=>?_⟩;clear u;refine⟨Fz.r F,rfl,?_⟩;conv=>whnf
 refine sr_go hΘ ?_;refine bre (by decide) ?_;refine drawP hΘ mixed (lk [0,1,2,4] (.alt 3 (.alt 5 (.alt 6 (.alt 7 (.alt 8 (.look 9 (.last 10 .done)) .nil) .nil) .nil) .nil) .nil)) [4] (by kernel_rfl) ⟨rfl,?_⟩;refine use (zdt F s 70 2 71 i ⟨by decide,by decide⟩ (m 3 (by decide))) [(1,1)] rfl ⟨rfl,tv⟩ rfl ⟨zbx s _,tv⟩ (by simp[SV.below,SA.below]) ⟨rfl,tv⟩ ?_;rintro b g h n0 a ⟨rfl,rfl,rfl,rfl⟩;clear a;refine⟨Fz.r F,rfl,?_⟩;refine use (zdt F s 71 0 72 i ⟨by decide,by decide⟩ (m 4 (by decide))) [(1,1)] rfl ⟨rfl,tv⟩ rfl ⟨zbx s _,tv⟩ (by simp[SV.below,SA.below]) ⟨rfl,tv⟩ ?_;rintro b g h n0 a ⟨rfl,rfl,rfl,rfl⟩;clear a;refine⟨Fz.r F,rfl,Fz.r F,rfl,Fz.r F,rfl,nb rfl,[enc (2,0)],rfl,rfl,rfl,rfl,nb rfl,fun p u=>?_⟩;clear u;refine⟨Fz.r F,rfl,?_⟩;conv=>whnf
 refine sr_go hΘ ?_;refine brd (by decide) ⟨nb rfl,_,rfl,rfl,rfl,by show 1*32<=140737488355328;omega,fun U d=>?_⟩;clear d;conv=>whnf
 refine sr_go hΘ ?_;conv=>whnf
 refine bre (by decide) ?_;refine use (zdt F s 72 1 73 i ⟨by decide,by decide⟩ (m 5 (by decide))) [(1,1)] rfl ⟨rfl,tv⟩ rfl ⟨zbx s _,tv⟩ (by simp[SV.below,SA.below]) ⟨rfl,tv⟩ ?_;rintro b g h n0 a ⟨rfl,rfl,rfl,rfl⟩;clear a;refine gae (by decide) ?_;refine useFo (zdq F _ _) rfl ⟨rfl,rfl,tv⟩ rfl ?_;rintro _ _ f ⟨rfl,⟨c,rfl⟩ | ⟨c,rfl⟩⟩
 rotate_left
 ·exact absurd c (by decide)
 clear c f;conv=>whnf
 refine zfa hΘ 1 ?_;refine bre (by decide) ?_;refine drawP hΘ mixed (lk [0,1,2,4] (.alt 3 (.alt 5 (.alt 6 (.alt 7 (.alt 8 (.look 9 (.last 10 .done)) .nil) .nil) .nil) .nil) .nil)) [11] (by kernel_rfl) ⟨rfl,?_⟩;refine use (zdt F s 73 6 74 i ⟨by decide,by decide⟩ (m 6 (by decide))) [(1,1)] rfl ⟨rfl,tv⟩ rfl ⟨zbx s _,tv⟩ (by simp[SV.below,SA.below]) ⟨rfl,tv⟩ ?_;rintro b g h n0 a ⟨rfl,rfl,rfl,rfl⟩;clear a;refine⟨Fz.r F,rfl,?_⟩;refine use (zdt F s 74 0 75 i ⟨by decide,by decide⟩ (m 7 (by decide))) [(1,1)] rfl ⟨rfl,tv⟩ rfl ⟨zbx s _,tv⟩ (by simp[SV.below,SA.below]) ⟨rfl,tv⟩ ?_;rintro b g h n0 a ⟨rfl,rfl,rfl,rfl⟩;clear a;refine⟨Fz.r F,rfl,Fz.r F,rfl,Fz.r F,rfl,nb rfl,[enc (6,0)],rfl,rfl,rfl,by show 1*16<=140737488355328;omega,fun q u=>?_⟩;clear u;refine⟨Fz.r F,rfl,?_⟩;conv=>whnf
 refine sr_go hΘ ?_;refine brd (by decide) ⟨nb rfl,_,rfl,rfl,rfl,rfl,nb rfl,fun V d=>?_⟩;clear d;conv=>whnf
 refine sr_go hΘ ?_;conv=>whnf
 refine bre (by decide) ?_;refine use (zdt F s 75 0 76 i ⟨by decide,by decide⟩ (m 8 (by decide))) [(1,1)] rfl ⟨rfl,tv⟩ rfl ⟨zbx s _,tv⟩ (by simp[SV.below,SA.below]) ⟨rfl,tv⟩ ?_;rintro b g h n0 a ⟨rfl,rfl,rfl,rfl⟩;clear a;refine gae (by decide) ?_;refine useFo (zdq F _ _) rfl ⟨rfl,rfl,tv⟩ rfl ?_;rintro _ _ f ⟨rfl,⟨c,rfl⟩ | ⟨c,rfl⟩⟩
 rotate_left
 ·exact absurd c (by decide)
 clear c f;conv=>whnf
 refine zfa hΘ 0 ?_;refine brd (by decide) ⟨nb rfl,_,rfl,rfl,rfl,rfl,nb rfl,fun W d=>?_⟩;clear d;conv=>whnf
 refine sr_go hΘ ?_;conv=>whnf
 refine bre (by decide) ?_;refine use (zdt F s 76 0 77 i ⟨by decide,by decide⟩ (m 9 (by decide))) [(1,1)] rfl ⟨rfl,tv⟩ rfl ⟨zbx s _,tv⟩ (by simp[SV.below,SA.below]) ⟨rfl,tv⟩ ?_;rintro b g h n0 a ⟨rfl,rfl,rfl,rfl⟩;clear a;refine gae (by decide) ?_;refine useFo (zdq F _ _) rfl ⟨rfl,rfl,tv⟩ rfl ?_;rintro _ _ f ⟨rfl,⟨c,rfl⟩ | ⟨c,rfl⟩⟩
 rotate_left
 ·exact absurd c (by decide)
 clear c f;conv=>whnf
 refine zfa hΘ 0 ?_;refine brd (by decide) ⟨nb rfl,_,rfl,rfl,rfl,rfl,nb rfl,fun X d=>?_⟩;clear d;conv=>whnf
 refine sr_go hΘ ?_;conv=>whnf
 refine bre (by decide) ?_;refine use (zdt F s 77 0 78 i ⟨by decide,by decide⟩ (m 10 (by decide))) [(1,1)] rfl ⟨rfl,tv⟩ rfl ⟨zbx s _,tv⟩ (by simp[SV.below,SA.below]) ⟨rfl,tv⟩ ?_;rintro b g h n0 a ⟨rfl,rfl,rfl,rfl⟩;clear a;refine gae (by decide) ?_;refine useFo (zdq F _ _) rfl ⟨rfl,rfl,tv⟩ rfl ?_;rintro _ _ f ⟨rfl,⟨c,rfl⟩ | ⟨c,rfl⟩⟩
 rotate_left
 ·exact absurd c (by decide)
 clear c f;conv=>whnf
 refine zfa hΘ 0 ?_;refine brd (by decide) ⟨nb rfl,_,rfl,rfl,rfl,rfl,nb rfl,fun Y d=>?_⟩;clear d;conv=>whnf
 refine sr_go hΘ ?_;conv=>whnf
 refine bre (by decide) ?_;refine use (zdt F s 78 0 79 i ⟨by decide,by decide⟩ (m 11 (by decide))) [(1,1)] rfl ⟨rfl,tv⟩ rfl ⟨zbx s _,tv⟩ (by simp[SV.below,SA.below]) ⟨rfl,tv⟩ ?_;rintro b g h n0 a ⟨rfl,rfl,rfl,rfl⟩;clear a;refine gae (by decide) ?_;refine useFo (zdq F _ _) rfl ⟨rfl,rfl,tv⟩ rfl ?_;rintro _ _ f ⟨rfl,⟨c,rfl⟩ | ⟨c,rfl⟩⟩
 rotate_left
 ·exact absurd c (by decide)
 clear c f;conv=>whnf
 refine zfa hΘ 0 ?_;refine brd (by decide) ⟨nb rfl,_,rfl,rfl,rfl,rfl,nb rfl,fun Z d=>?_⟩;clear d;conv=>whnf
 refine sr_go hΘ ?_;conv=>whnf
 refine bre (by decide) ?_;refine use (zdt F s 79 0 80 i ⟨by decide,by decide⟩ (m 12 (by decide))) [(1,1)] rfl ⟨rfl,tv⟩ rfl ⟨zbx s _,tv⟩ (by simp[SV.below,SA.below]) ⟨rfl,tv⟩ ?_;rintro b g h n0 a ⟨rfl,rfl,rfl,rfl⟩;clear a;refine gae (by decide) ?_;refine useFo (zdq F _ _) rfl ⟨rfl,rfl,tv⟩ rfl ?_;rintro _ _ f ⟨rfl,⟨c,rfl⟩ | ⟨c,rfl⟩⟩
 rotate_left
 ·exact absurd c (by decide)
 clear c f;conv=>whnf
 refine zfa hΘ 0 ?_;refine brd (by decide) ⟨nb rfl,_,rfl,rfl,rfl,rfl,nb rfl,fun aa d=>?_⟩;clear d;conv=>whnf
 refine sr_go hΘ ?_;conv=>whnf
 refine bre (by decide) ?_;refine use (zdt F s 80 0 81 i ⟨by decide,by decide⟩ (m 13 (by decide))) [(1,1)] rfl ⟨rfl,tv⟩ rfl ⟨zbx s _,tv⟩ (by simp[SV.below,SA.below]) ⟨rfl,tv⟩ ?_;rintro b g h n0 a ⟨rfl,rfl,rfl,rfl⟩;clear a;refine gae (by decide) ?_;refine useFo (zdq F _ _) rfl ⟨rfl,rfl,tv⟩ rfl ?_;rintro _ _ f ⟨rfl,⟨c,rfl⟩ | ⟨c,rfl⟩⟩
 rotate_left
 ·exact absurd c (by decide)
 clear c f;conv=>whnf
 refine zfa hΘ 0 ?_;refine brd (by decide) ⟨nb rfl,_,rfl,rfl,rfl,rfl,nb rfl,fun n d=>?_⟩;clear d;conv=>whnf
 refine sr_go hΘ ?_;refine brd (by decide) ?_;refine drawP hΘ mixed (lk [0,1,2,3,4,5,6,7,8,9] (.alt 10 (.alt 11 .done .nil) .nil)) [1] (by kernel_rfl) ⟨rfl,rfl,Fz.r F,rfl,?_⟩;refine useFo (zdq F _ _) rfl ⟨rfl,rfl,tv⟩ rfl ?_;rintro _ _ f ⟨rfl,⟨c,rfl⟩ | ⟨c,rfl⟩⟩
 rotate_left
 ·exact absurd c (by rw[A];decide)
 clear c f;refine⟨Fz.r F,rfl,?_⟩;refine zaz 8 (fun _=>.arr 56 2 ([(1,0),(2,0)].map enc) p) rfl rfl rfl (fun _ _=>rfl) (fun _ _=>SB.bB_ok rfl) ?_;intro T F1 l1 G;refine zaz 13 (fun _=>.arr 56 2 ([(6,0)].map enc) q) rfl rfl rfl (fun _ _=>rfl) (fun _ _=>SB.bB_ok rfl) ?_;intro bB F2 R I;refine swapC 33 (.arr 52 2 [[.int .i64 1,.slice false 8 0 0 2 2 p],[.int .i64 2,.slice false 13 0 0 2 1 q],[.int .i64 3,.slice true 0 0 0 2 0 0],[.int .i64 4,.slice true 0 0 0 2 0 0],[.int .i64 5,.slice true 0 0 0 2 0 0],[.int .i64 6,.slice true 0 0 0 2 0 0],[.int .i64 7,.slice true 0 0 0 2 0 0],[.int .i64 8,.slice true 0 0 0 2 0 0]] n) rfl (zsa rfl (by show∀x∈(_:List (List SA)),x.length=2;simp) (fun _=>rfl)) (SB.bB_ok rfl) ?_;refine zaz 33 (fun _=>.arr 52 2 [[.int .i64 1,.slice false 0 (T 0) 0 2 2 p],[.int .i64 2,.slice false 0 (bB 0) 0 2 1 q],[.int .i64 3,.slice true 0 0 0 2 0 0],[.int .i64 4,.slice true 0 0 0 2 0 0],[.int .i64 5,.slice true 0 0 0 2 0 0],[.int .i64 6,.slice true 0 0 0 2 0 0],[.int .i64 7,.slice true 0 0 0 2 0 0],[.int .i64 8,.slice true 0 0 0 2 0 0]] n) rfl rfl rfl (fun _ _=>rfl) (fun _ _=>SB.bB_ok rfl) ?_;intro D O M J
 have y:ClsAt O (.slice false 0 (D 0) 0 2 8 n) exCl:=by
  have hA:=M _ _ (R _ _ (G 0 rfl));have hB:=M _ _ (I 0 rfl);refine SlR.new (l:=exCl) (J 0 rfl) rfl fun k x e=>?_
  match k,e with
  |0,e=>cases e;exact⟨_,rfl,_,rfl,Sl.new (l:=[(1,0),(2,0)]) hA⟩
  |1,e=>cases e;exact⟨_,rfl,_,rfl,Sl.new (l:=[(6,0)]) hB⟩
  |2,e=>cases e;exact⟨_,rfl,_,rfl,Sl.nil⟩
  |3,e=>cases e;exact⟨_,rfl,_,rfl,Sl.nil⟩
  |4,e=>cases e;exact⟨_,rfl,_,rfl,Sl.nil⟩
  |5,e=>cases e;exact⟨_,rfl,_,rfl,Sl.nil⟩
  |6,e=>cases e;exact⟨_,rfl,_,rfl,Sl.nil⟩
  |7,e=>cases e;exact⟨_,rfl,_,rfl,Sl.nil⟩
  |k+8,e=>cases e
 have w:=ze3 O _ ⟨src,j,2,exCl⟩ y (by intro x e;have:=zmu x e;omega) (by show exCl.length < 1000000;decide);rw[K]at w;refine useFo w rfl (zaa _) rfl ?_;rintro _ B S rfl;refine useFo (zdq B true _) rfl ⟨rfl,rfl,tv⟩ rfl ?_;rintro _ _ f ⟨rfl,⟨c,rfl⟩ | ⟨c,rfl⟩⟩
 rotate_left
 ·cases c
 clear c f;refine⟨rfl,z2j 2 3 ?_⟩;conv=>whnf
 have L:=Fz.t l1 (Fz.t R (Fz.t M S));have E:SB.cells 139 [.str s,.int .i64 81]=SB.cells 139 [.str s,.int .i64 (s.length:Int)]:=by rw[A];rfl
 exact clean [] (.ret (.tup [.agg (crtS ⟨src,j,2,exCl⟩ (.slice false 0 (D 0) 0 2 8 n)),.va .nilif])) B [(1,crd s s.length)] 2 ⟨L,rfl,rfl,_,rfl,KpsAt.up y S⟩ ⟨rfl,rfl,tv⟩ rfl rfl (Out.bB_ok (o:=.ret (.tup [.agg (crtS ⟨src,j,2,exCl⟩ (.slice false 0 (D 0) 0 2 8 n)),.va .nilif])) rfl) ⟨zbx s _,tv⟩ ⟨Fz.r B,E,tv⟩
theorem zyt(F:Fz)(s src a:List UInt8)(e:s.length=81)(d:crtOk ⟨src,a,2,exCl⟩=true)
  (p:getS s 0=(src,33,0))(q:getS s 33=(a,66,0))(u:getI s 66=(2,67,0))(w:∀k:Nat,k < 14->getI s (67+(k:Int))=(exV[k]?.getD 0,68+(k:Int),0)):
  Fo Tryz.prog F 36 [.va (.str s)] (fun o h=>∃sk,o=.ret (.tup [.agg (crtS ⟨src,a,2,exCl⟩ sk),.va (.int .i64 0)])/\ClsAt h sk exCl):=by
 have b:=z7q F s src a e d p q u w;refine fo_of hΘ Tryz.func36 rfl (by decide) _ _ rfl rfl rfl ?_;refine use b [(1,2)] rfl ⟨rfl,tv⟩ rfl ⟨zbx s _,tv⟩ (by simp[SV.below,SA.below]) ⟨rfl,tv⟩ ?_;rintro g F1 x n0 n ⟨rfl,rfl,sk,rfl,f⟩;have c:=f;obtain⟨m,i,l,j,E,G,rfl,y,A,B,D⟩:=f;refine drawP hΘ mixed (.look 0 (.look 1 (.alt 2 (.alt 3 (.look 4 .done) .nil) .nil))) [3] (by kernel_rfl) ⟨rfl,?_⟩;refine usePu (z2u F1) rfl (zaa _) rfl ⟨Fz.r F1,rfl,Fz.r F1,rfl,?_⟩;exact endFo (.ret (.tup [.agg (crtS ⟨src,a,2,exCl⟩ (.slice m 0 i l 2 exCl.length j)),.va (.int .i64 0)])) F1 rfl n (Fz.r F1) ⟨_,rfl,c⟩ (zah _) rfl
def force{β:Type}(n:Nat)(k:Nat->β):β:=match n with
 |0=>k 0
 |m+1=>k (m+1)
theorem force_eq{β:Type}(n:Nat)(k:Nat->β):force n k=k n:=by cases n<;>rfl
def zqc{β:Type}:List Nat->(List Nat->β)->β
 |[],k=>k []
 |x::r,k=>force x fun y=>zqc r fun l=>k (y::l)
theorem zk3{β:Type}:∀(l:List Nat) (k:List Nat->β),zqc l k=k l
 |[],_=>rfl
 |x::r,k=>by rw[zqc,force_eq,zk3 r]
def fW{β:Type}(v:W8)(k:W8->β):β:=force v.a fun a=>force v.b fun b=>force v.c fun c=>force v.d fun d=>force v.e fun e=>force v.f fun f=>force v.g fun g=>force v.h fun h=>k ⟨a,b,c,d,e,f,g,h⟩
theorem fW_eq{β:Type}(v:W8)(k:W8->β):fW v k=k v:=by simp only[fW,force_eq]
def nx16(a b c d:Nat):Nat:=(a+(mix b [7,18] 0^^^b / 8)+c+(mix d [17,19] 0^^^d / 1024)) % 4294967296
def zwa{β:Type}:List Nat->List Nat->W8->(W8->β)->β
 |[],_,v,k=>k v
 |c::r,w,v,k=>force (nx16 (at0 w 0) (at0 w 1) (at0 w 9) (at0 w 14)) fun x=>zqc (w.drop 1++[x]) fun a=>fW (step8 c (at0 w 0) v) fun u=>zwa r a u k
theorem znw(p l:List Nat)(j:Nat):at0 (p++l) (p.length+j)=at0 l j:=by
 unfold at0;rw[jt (Nat.le_add_right _ _),qam]
theorem z9f(p w:List Nat)(d:w.length=16):nxt (p++w)=nx16 (at0 w 0) (at0 w 1) (at0 w 9) (at0 w 14):=by
 have h:(p++w).length=p.length+16:=by rw[qb,d]
 have h1:p.length+16 - 16=p.length+0:=by omega
 have a:p.length+16 - 15=p.length+1:=by omega
 have b:p.length+16 - 7=p.length+9:=by omega
 have c:p.length+16 - 2=p.length+14:=by omega
 rw[nxt,h,h1,a,b,c,znw,znw,znw,znw];rfl
theorem zke:∀(n:Nat) (w:List Nat),∃z,grow n w=w++z/\z.length=n
 |0,w=>⟨[],by simp[grow],rfl⟩
 |n+1,w=>by
  obtain⟨z,b,a⟩:=zke n (w++[nxt w]);exact⟨nxt w::z,by rw[grow,b];simp,by simp[a]⟩
theorem z1i{β:Type}(k:W8->β):∀(b:List Nat) (n:Nat) (p w:List Nat) (v:W8),b.length<=n->w.length=16->
  zwa b w v k=k (zfm (b.zip ((grow n (p++w)).drop p.length)) v):=by
 intro b
 induction b with
 |nil=>intro n p w v _ _;rfl
 |cons c r ih=>
  intro n p w v h d;cases n with
  |zero=>exact absurd h (by simp)
  |succ n=>
   cases w with
   |nil=>cases d
   |cons a t=>
    have f:t.length=15:=by simpa using d
    have ih:=ih n (p++[a]) (t++[nxt (p++a::t)]) (step8 c a v) (by simpa using h) (by rw[qb,f];rfl);rw[zwa,force_eq,zk3,fW_eq,<-z9f p _ d];rw[show(a::t).drop 1=t from rfl,show at0 (a::t) 0=a from rfl,ih];have e:p++[a]++(t++[nxt (p++a::t)])=p++a::t++[nxt (p++a::t)]:=by simp
    rw[e,grow];obtain⟨z,g,-⟩:=zke n (p++a::t++[nxt (p++a::t)]);rw[g]
    have d1:(p++a::t++[nxt (p++a::t)]++z).drop p.length=a::(t++[nxt (p++a::t)]++z):=by
     rw[qn,qn,qcw];simp
    have d2:(p++a::t++[nxt (p++a::t)]++z).drop (p++[a]).length=t++[nxt (p++a::t)]++z:=by
     rw[<-e,qn (p++[a]),qcw]
    rw[d1,d2,qb9,zfm,zfm,qah]
theorem yae(k a z:List Nat)(h:k.length<=a.length):k.zip (a++z)=k.zip a:=by
 induction k generalizing a with
 |nil=>rfl
 |cons x r ih=>cases a with
  |nil=>exact absurd h (by simp)
  |cons y s=>rw[yk,qb9,qb9,ih s (by simpa using h)]
theorem zqe:∀(m n:Nat) (w:List Nat),grow (m+n) w=grow n (grow m w)
 |0,n,w=>by rw[qv];rfl
 |m+1,n,w=>by rw[Nat.add_right_comm];exact zqe m n _
def zxz{β:Type}(b:List UInt8)(v:W8)(k:W8->β):β:=zqc ((List.range 16).map (word b)) fun w=>zwa konst w v fun u=>fW (add8 v u) k
theorem zx0{β:Type}(b:List UInt8)(v:W8)(k:W8->β):zxz b v k=k (zfg b v):=by
 rw[zxz,zk3];have h:=z1i (fun u=>fW (add8 v u) k) konst 64 [] ((List.range 16).map (word b)) v (nb rfl) rfl;refine h.trans ?_;rw[fW_eq,zfg]
 have e:(konst.zip ((grow 64 ([]++(List.range 16).map (word b))).drop ([]:List Nat).length))=konst.zip (sched b):=by
  rw[qx,qu,yz,sched,show(64:Nat)=48+16 from rfl,zqe];obtain⟨z,d,-⟩:=zke 16 (grow 48 ((List.range 16).map (word b)));rw[d];refine yae _ _ _ ?_;obtain⟨y,c,a⟩:=zke 48 ((List.range 16).map (word b));rw[c,qb,a];exact nb rfl
 rw[e]
def zny{β:Type}:List Nat->List UInt8->W8->(W8->β)->β
 |[],_,v,k=>k v
 |i::r,p,v,k=>zxz ((p.drop (64*i)).take 64) v fun u=>zny r p u k
theorem zml{β:Type}(p:List UInt8)(k:W8->β):∀(l:List Nat) (v:W8),zny l p v k=k (l.foldl (fun v k=>zfg ((p.drop (64*k)).take 64) v) v)
 |[],_=>rfl
 |i::r,v=>by rw[zny,zx0,zml p k r,qah]
def sumW(s:List UInt8):List UInt8:=zny (List.range ((padded s).length / 64)) (padded s) init8 zeu
theorem z1k(s:List UInt8):sumW s=sumS s:=by rw[sumW,zml];rfl
theorem leafV{s d:List UInt8}(h:sumW (0::s)=d):leafS s=d:=by rw[leafS,<-z1k,h]
theorem nodeV{a b x y d:List UInt8}(c:a=x)(e:b=y)(h:sumW (1::(x++y))=d):nodeS a b=d:=by rw[nodeS,c,e,<-z1k,h]
def valA:List (List UInt8):=[[2,12,84,111,32,32,66,101],[2,10],[0],[0],[0],[0,0],[0,0,0],[2,0]]
theorem gl0:leafS [2,12,84,111,32,32,66,101]=[238,43,26,1,207,144,68,193,115,18,112,4,215,143,46,111,177,187,153,33,44,0,1,222,88,185,117,180,10,41,136,53]:=leafV (by decide+kernel)
theorem gl1:leafS [2,10]=[211,168,146,147,135,137,144,118,180,0,248,134,99,149,60,40,227,223,96,46,78,218,94,137,173,237,112,221,10,152,83,107]:=leafV (by decide+kernel)
theorem gl2:leafS [0]=[150,162,150,210,36,242,133,198,123,238,147,195,15,138,48,145,87,240,218,163,93,197,184,126,65,11,120,99,10,9,207,199]:=leafV (by decide+kernel)
theorem gl3:leafS [0,0]=[112,158,128,200,132,135,162,65,30,30,228,223,185,242,42,134,20,146,210,12,71,101,21,12,12,121,74,189,112,248,20,124]:=leafV (by decide+kernel)
theorem gl4:leafS [0,0,0]=[223,63,97,152,4,169,47,219,64,87,25,45,196,61,215,72,234,119,138,220,82,188,73,140,232,5,36,192,20,184,17,25]:=leafV (by decide+kernel)
theorem gl5:leafS [2,0]=[219,188,112,37,232,158,185,177,236,158,142,44,122,45,182,134,157,187,80,251,162,27,243,116,200,101,41,220,49,28,237,233]:=leafV (by decide+kernel)
theorem gnA0:nodeS (leafS [2,12,84,111,32,32,66,101]) (leafS [2,10])=[116,129,84,203,128,152,161,250,41,172,209,118,108,42,66,180,165,165,154,122,167,31,35,29,237,223,246,32,172,226,30,157]:=nodeV (gl0) (gl1) (by decide+kernel)
theorem gnA1:nodeS (leafS [0]) (leafS [0])=[13,226,65,128,173,164,201,93,183,137,134,218,62,87,14,167,168,41,106,252,156,252,123,4,185,118,203,170,91,180,234,137]:=nodeV (gl2) (gl2) (by decide+kernel)
theorem gnA2:nodeS (leafS [0]) (leafS [0,0])=[123,80,130,78,116,212,98,75,241,11,125,227,213,139,216,133,49,214,80,228,55,94,69,79,228,185,104,93,12,73,204,149]:=nodeV (gl2) (gl3) (by decide+kernel)
theorem gnA3:nodeS (leafS [0,0,0]) (leafS [2,0])=[251,214,97,244,25,243,9,210,205,9,142,32,93,57,232,164,201,154,136,225,224,89,230,34,176,43,250,58,47,151,64,127]:=nodeV (gl4) (gl5) (by decide+kernel)
theorem gnA4:nodeS (nodeS (leafS [2,12,84,111,32,32,66,101]) (leafS [2,10])) (nodeS (leafS [0]) (leafS [0]))=[238,208,255,52,27,145,149,89,39,245,242,170,80,225,87,142,125,108,37,18,110,36,23,176,152,226,240,21,103,49,64,163]:=nodeV (gnA0) (gnA1) (by decide+kernel)
theorem gnA5:nodeS (nodeS (leafS [0]) (leafS [0,0])) (nodeS (leafS [0,0,0]) (leafS [2,0]))=[61,188,37,240,46,83,250,156,148,215,32,106,192,242,66,51,240,233,62,90,236,106,112,36,82,248,165,27,185,208,211,42]:=nodeV (gnA2) (gnA3) (by decide+kernel)
theorem gnA6:nodeS (nodeS (nodeS (leafS [2,12,84,111,32,32,66,101]) (leafS [2,10])) (nodeS (leafS [0]) (leafS [0]))) (nodeS (nodeS (leafS [0]) (leafS [0,0])) (nodeS (leafS [0,0,0]) (leafS [2,0])))=[171,174,167,58,167,81,185,43,48,224,96,218,29,211,146,128,64,184,139,96,77,17,46,118,111,240,82,54,231,197,36,76]:=nodeV (gnA4) (gnA5) (by decide+kernel)
theorem rootA:root8 valA=[171,174,167,58,167,81,185,43,48,224,96,218,29,211,146,128,64,184,139,96,77,17,46,118,111,240,82,54,231,197,36,76]:=gnA6
def valC:List (List UInt8):=[[2,10,116,111,32,98,101],[2,0],[0],[0],[0],[0,0],[0,0,0],[2,0]]
theorem gl6:leafS [2,10,116,111,32,98,101]=[181,74,11,201,27,109,77,171,99,210,222,104,68,96,9,243,161,211,126,175,131,90,161,233,7,198,238,32,108,6,140,164]:=leafV (by decide+kernel)
theorem gnC0:nodeS (leafS [2,10,116,111,32,98,101]) (leafS [2,0])=[189,227,190,161,253,59,247,175,172,237,225,62,75,50,84,1,115,35,95,217,101,220,82,217,148,100,23,193,204,128,124,44]:=nodeV (gl6) (gl5) (by decide+kernel)
theorem gnC1:nodeS (leafS [0]) (leafS [0])=[13,226,65,128,173,164,201,93,183,137,134,218,62,87,14,167,168,41,106,252,156,252,123,4,185,118,203,170,91,180,234,137]:=nodeV (gl2) (gl2) (by decide+kernel)
theorem gnC2:nodeS (leafS [0]) (leafS [0,0])=[123,80,130,78,116,212,98,75,241,11,125,227,213,139,216,133,49,214,80,228,55,94,69,79,228,185,104,93,12,73,204,149]:=nodeV (gl2) (gl3) (by decide+kernel)
theorem gnC3:nodeS (leafS [0,0,0]) (leafS [2,0])=[251,214,97,244,25,243,9,210,205,9,142,32,93,57,232,164,201,154,136,225,224,89,230,34,176,43,250,58,47,151,64,127]:=nodeV (gl4) (gl5) (by decide+kernel)
theorem gnC4:nodeS (nodeS (leafS [2,10,116,111,32,98,101]) (leafS [2,0])) (nodeS (leafS [0]) (leafS [0]))=[182,79,0,168,112,244,243,82,166,87,160,70,230,42,70,147,161,56,61,154,66,245,27,147,150,39,125,160,0,127,31,124]:=nodeV (gnC0) (gnC1) (by decide+kernel)
theorem gnC5:nodeS (nodeS (leafS [0]) (leafS [0,0])) (nodeS (leafS [0,0,0]) (leafS [2,0]))=[61,188,37,240,46,83,250,156,148,215,32,106,192,242,66,51,240,233,62,90,236,106,112,36,82,248,165,27,185,208,211,42]:=nodeV (gnC2) (gnC3) (by decide+kernel)
theorem gnC6:nodeS (nodeS (nodeS (leafS [2,10,116,111,32,98,101]) (leafS [2,0])) (nodeS (leafS [0]) (leafS [0]))) (nodeS (nodeS (leafS [0]) (leafS [0,0])) (nodeS (leafS [0,0,0]) (leafS [2,0])))=[87,88,40,225,107,207,196,38,61,10,33,79,30,124,109,124,220,103,169,15,91,32,254,125,139,13,94,204,226,91,176,220]:=nodeV (gnC4) (gnC5) (by decide+kernel)
theorem rootC:root8 valC=[87,88,40,225,107,207,196,38,61,10,33,79,30,124,109,124,220,103,169,15,91,32,254,125,139,13,94,204,226,91,176,220]:=gnC6
theorem zvu:root8 valC≠root8 valA:=by rw[rootA,rootC];decide
def d1:Dc:=exD [84,111,32,32,66,101] 5
def d2:Dc:=exD [116,111,32,32,98,101] 5
def d3:Dc:=exD [116,111,32,98,101] 0
def d4:Dc:=exD [116,111,32,98,101] 5
def mg1:Mig:=⟨1,1,2,false,[(1,[(1,0)])]⟩
def mg2:Mig:=⟨2,2,3,false,[(1,[(2,0)]),(2,[(6,0)])]⟩
theorem zie(m:Mig)(d e:Dc):zdz m d e=(migOk m&&(docOk d&&(docOk e&&(clOk (zbi m.keep) 1&&(zbi m.keep).all (chkAt (allB d) (allB e)))))):=by
 have h1:decide ((root8 (allB d)).length=32)=true:=decide_eq_true (zf3 _);have a:decide ((root8 (allB e)).length=32)=true:=decide_eq_true (zf3 _);have b:decide ((zbi m.keep).length=8)=true:=decide_eq_true (zds _);have c:decide ((allB d).length=8)=true:=decide_eq_true (zc5 _);have f:decide ((allB e).length=8)=true:=decide_eq_true (zc5 _)
 have g:crtOk (makeC m d e)=clOk (zbi m.keep) 1:=by
  show(decide ((root8 (allB d)).length=32)&&(decide ((root8 (allB e)).length=32)&&(decide (1<=(1:Int))&&(decide ((1:Int)<=64)&&(decide ((zbi m.keep).length=8)&&clOk (zbi m.keep) 1)))))=_;rw[h1,a,b];rfl
 have h:zb8 (makeC m d e) (allB d) (allB e)=(clOk (zbi m.keep) 1&&(zbi m.keep).all (chkAt (allB d) (allB e))):=by
  rw[zb8,g,c,f];show(_&&(true&&(decide (root8 (allB d)=root8 (allB d))&&(decide (root8 (allB e)=root8 (allB e))&&(zbi m.keep).all (chkAt (allB d) (allB e))))))=_;rw[decide_eq_true rfl,decide_eq_true rfl];simp
 rw[zdz,h]
theorem mk1:zdz mg1 d1 d2=true:=by rw[zie];decide+kernel
theorem mk2:zdz mg1 d1 d4=false:=by rw[zie];decide+kernel
theorem mk3:zdz mg2 d2 d3=true:=by rw[zie];decide+kernel
theorem all1:allB d1=valA:=by decide+kernel
theorem all3:allB d3=valC:=by decide+kernel
theorem doc1:docOk d1=true:=by decide+kernel
theorem doc3:docOk d3=true:=by decide+kernel
def cA:Crt:=makeC mg1 d1 d2
def cB:Crt:=makeC mg2 d2 d3
theorem zz3{m:Mig}{d e:Dc}(h:zdz m d e=true):crtOk (makeC m d e)=true:=by
 simp only[zdz,qd,zb8]at h;exact h.2.2.2.1
theorem okA:crtOk cA=true:=zz3 mk1
theorem okB:crtOk cB=true:=zz3 mk3
def cX:Crt:=⟨root8 (allB d1),root8 (allB d3),2,exCl⟩
theorem ybg:joinC cA cB=cX:=by
 have h:List.zipWith zhm (zbi mg1.keep) (zbi mg2.keep)=exCl:=by decide+kernel
 show Crt.mk (root8 (allB d1)) (root8 (allB d3)) 2 (List.zipWith zhm (zbi mg1.keep) (zbi mg2.keep))=_;rw[h];rfl
theorem comp1:zdc [cA,cB]=some cX:=by
 have c:zdy cA cB=true:=by
  have a:crtOk cB=true:=zz3 mk3;have b:decide (cA.dst=cB.src)=true:=decide_eq_true rfl;rw[zdy,b,a];rfl
 rw[zdc,if_pos okA,foldS,if_pos c,foldS,ybg]
theorem comp2:zdc [cB,cA]=none:=by
 have b:zdy cB cA=false:=by
  have a:decide (cB.dst=cA.src)=false:=decide_eq_false (by
   show root8 (allB d3)≠root8 (allB d1);rw[all1,all3];exact zvu)
  rw[zdy,a];rfl
 rw[zdc,if_pos okB,foldS,if_neg (by rw[b];simp)]
theorem cX_ok:crtOk cX=true:=by
 show(decide ((root8 (allB d1)).length=32)&&(decide ((root8 (allB d3)).length=32)&&(decide (1<=(2:Int))&&(decide ((2:Int)<=64)&&(decide (exCl.length=8)&&clOk exCl 1)))))=_;rw[decide_eq_true (zf3 _),decide_eq_true (zf3 _)];decide+kernel
theorem chk1:zb8 cX (allB d1) (allB d3)=true:=by
 have h:exCl.all (chkAt (allB d1) (allB d3))=true:=by decide+kernel
 rw[zb8,cX_ok,decide_eq_true (zc5 _),decide_eq_true (zc5 _)];show(true&&((true&&true)&&(decide (root8 (allB d1)=root8 (allB d1))&&(decide (root8 (allB d3)=root8 (allB d3))&&exCl.all (chkAt (allB d1) (allB d3))))))=true;rw[decide_eq_true rfl,decide_eq_true rfl,h];rfl
theorem chk2:zb8 cX (allB d3) (allB d1)=false:=by
 have h:decide (root8 (allB d3)=root8 (allB d1))=false:=decide_eq_false (by rw[all1,all3];exact zvu);rw[zb8];show(_&&(_&&(decide (root8 (allB d3)=root8 (allB d1))&&_)))=false;rw[h];simp
theorem sameX:zn3 cX cX=true:=by simp[zn3]
theorem yby:zn3 cA cB=false:=by
 have h:decide (zbi mg1.keep=zbi mg2.keep)=false:=by decide+kernel
 show(_&&(_&&(_&&decide (zbi mg1.keep=zbi mg2.keep))))=false;rw[h];simp
theorem encX:encC cX=[64]++root8 valA++[64]++root8 valC++[4,4,2,0,4,0,2,12,0,0,0,0,0,0,0]:=by
 have h1:∀s:List UInt8,s.length=32->(putSR s).1=[64]++s:=fun s c=>by
  have b:putI ((32:Nat):Int)=[64]:=by decide+kernel
  rw[putSR,if_neg (by omega),c];show putI ((32:Nat):Int)++s=_;rw[b]
 have a:zae [(2:Int)]++(exCl.map zgw).flatten=[4,4,2,0,4,0,2,12,0,0,0,0,0,0,0]:=by decide+kernel
 show(putSR (root8 (allB d1))).1++(putSR (root8 (allB d3))).1++zae [(2:Int)]++(exCl.map zgw).flatten=_;rw[qn _ (zae _),a,h1 _ (zf3 _),h1 _ (zf3 _),all1,all3];simp only[qn]
theorem rd1:getS (encC cX) 0=(root8 valA,33,0):=by rw[encX,rootA,rootC];decide+kernel
theorem rd2:getS (encC cX) 33=(root8 valC,66,0):=by rw[encX,rootA,rootC];decide+kernel
theorem rd3:getI (encC cX) 66=(2,67,0):=by rw[encX,rootA,rootC];decide+kernel
theorem rd4:∀k:Nat,k < 14->getI (encC cX) (67+(k:Int))=(exV[k]?.getD 0,68+(k:Int),0):=by rw[encX,rootA,rootC];decide+kernel
theorem rdl:(encC cX).length=81:=by rw[encX,rootA,rootC];rfl
end Go.Proofs.YtfnkamphhpldcaaGreatDoor
namespace Sx
open Go
def LJ0(a:St)(jl:List Nat)(F:Fz):St:=⟨[]::junks jl::a.t,[(0,.frz F)]::a.h,a.nx,a.n0,a.nt,a.d⟩
theorem cutJ{P:Program}{c:Code}{a:St}{Q:SE->St->Prop}{X:Type}(b:Fz)(upd:X->List (Nat×SV))(jl:List Nat)(hup:X->List (Nat×Ent))(N:Nat)
  (i:WfH a.h a.nx->WfT a.t a.nx->Le a (LJ0 a jl b))
  (h1:WfH a.h a.nx->WfT a.t a.nx->WP P c (LJ0 a jl b) (fun e d=>e=.normal/\∃x,Le d (LI a upd jl hup N x)))
  (j:∀x,Q .normal (LI a upd jl hup N x)):WP P c a Q:=
 yag (LJ0 a jl b) (LI a upd jl hup N) (fun f g=>⟨i f g,h1 f g⟩) j
end Sx
namespace Go.Proofs.YtfnkamphhpldcaaGreatDoor
open Go Sx
set_option maxRecDepth 100000
abbrev dS(b:Nat):List SA:=docS (.slice false 0 b 0 2 1 1) (.slice true 0 0 0 6 0 0) 0 []
abbrev LnAt(F:Fz)(b:Nat)(t:List UInt8)(m:Int):Prop:=F b=some (.arr 148 2 ([(t,m)].map encN) 1)
theorem ybn(F:Fz)(g:MLF F)(i:RNDF F)(sk:SA)(b c:Nat)(j:KpsAt F sk mg1.keep)(h1:LnAt F b [84,111,32,32,66,101] 5)(f:LnAt F c [116,111,32,32,98,101] 5):
  Fo Tryz.prog F 21 [.agg (migS mg1 sk),.agg (dS b),.agg (dS c)] (fun o a=>∃e,o=.ret (.tup [.agg (crtS cA e),.va (.int .i64 0)])/\ClsAt a e cA.cl):=
 zcb (zol F g i sk _ _ _ _ mg1 d1 d2 j (by intro x d;simp[mg1]at d;subst d;decide) (by decide) (exAt h1) (exAt f) (ze4 _ _) (ze4 _ _)) fun o a h=>by
  rcases h with⟨h,_⟩ | ⟨_,h⟩
  ·exact absurd (h.symm.trans mk1) (by simp)
  ·exact h
theorem ybp(F:Fz)(f:MLF F)(g:RNDF F)(sk:SA)(a b:Nat)(i:KpsAt F sk mg1.keep)(h1:LnAt F a [84,111,32,32,66,101] 5)(e:LnAt F b [116,111,32,98,101] 5):
  Fo Tryz.prog F 21 [.agg (migS mg1 sk),.agg (dS a),.agg (dS b)] (fun o _=>o=.ret (.tup [.agg [.str [],.str [],.int .i64 0,.nilsl],.va (.int .i64 100)])):=
 zcb (zol F f g sk _ _ _ _ mg1 d1 d4 i (by intro x c;simp[mg1]at c;subst c;decide) (by decide) (exAt h1) (exAt e) (ze4 _ _) (ze4 _ _)) fun o d h=>by
  rcases h with⟨_,h⟩ | ⟨h,_⟩
  ·exact h
  ·exact absurd (h.symm.trans mk2) (by simp)
theorem ybo(F:Fz)(g:MLF F)(i:RNDF F)(sk:SA)(b c:Nat)(j:KpsAt F sk mg2.keep)(h1:LnAt F b [116,111,32,32,98,101] 5)(f:LnAt F c [116,111,32,98,101] 0):
  Fo Tryz.prog F 21 [.agg (migS mg2 sk),.agg (dS b),.agg (dS c)] (fun o a=>∃e,o=.ret (.tup [.agg (crtS cB e),.va (.int .i64 0)])/\ClsAt a e cB.cl):=
 zcb (zol F g i sk _ _ _ _ mg2 d2 d3 j (by intro x d;simp[mg2]at d;rcases d with rfl | rfl<;>decide) (by decide) (exAt h1) (exAt f) (ze4 _ _) (ze4 _ _)) fun o a h=>by
  rcases h with⟨h,_⟩ | ⟨_,h⟩
  ·exact absurd (h.symm.trans mk3) (by simp)
  ·exact h
theorem sameT(F:Fz)(b c:SA)(a:List Stp)(e:zbb F b a)(f:zbb F c a)(g:a.length < 1000000):Fo Tryz.prog F 46 [.va b,.va c] (fun o d=>o=.ret (.va (.lit true))/\d=F):=by
 have h1:=z9v F b c a a e f g;rw[decide_eq_true rfl]at h1;exact zhk h1
abbrev zC:List SA:=[.str [],.str [],.int .i64 0,.nilsl]
abbrev zC':List SA:=[.str [],.str [],.int .i64 0,.slice true 0 0 0 2 0 0]
theorem zSwap(ρ:Rho)(vs:List Value)(h:relL ρ [.agg zC] vs):relL ρ [.agg zC'] vs:=by
 match vs,h with
 |[],h=>exact h.elim
 |[v],h=>exact h
 |_::_::_,h=>exact h
theorem ych(n:Nat):∀s∈[SV.agg zC'],s.below n:=fun s c=>by
 simp only[qp]at c;subst c;intro a b;simp only[ql,qt,or_false]at b;rcases b with rfl | rfl | rfl | rfl
 ·trivial
 ·trivial
 ·trivial
 ·exact .inl rfl
theorem znz:short cA.cl:=zev (by intro x a;simp[mg1]at a;subst a;decide)
theorem zt7:short cB.cl:=zev (by intro x a;simp[mg2]at a;rcases a with rfl | rfl<;>decide)
theorem zh4:short cX.cl:=fun x a=>by have:=zmu x a;omega
theorem crts2{F:Fz}{b:Nat}{c d:Crt}{e f:SA}(h1:ClsAt F e c.cl)(g:ClsAt F f d.cl)(h:F b=some (.arr 48 4 [crtS c e,crtS d f] 2)):zty F (.slice false 0 b 0 4 2 2) [c,d]:=
 SlR.new (l:=[c,d]) h rfl fun k x a=>by
  match k,a with
  |0,a=>cases a;exact⟨_,rfl,e,rfl,h1⟩
  |1,a=>cases a;exact⟨_,rfl,f,rfl,g⟩
  |k+2,a=>cases a
theorem zpk{p:Crt->Prop}{a b:Crt}(h1:p a)(e:p b):∀c∈[a,b],p c:=by
 intro c d;simp only[ql,qt,or_false]at d;rcases d with rfl | rfl
 ·exact h1
 ·exact e
theorem zx2:cA.cl.length < 1000000:=yp (qcs (zds mg1.keep)) (by decide)
theorem z6j:cB.cl.length < 1000000:=yp (qcs (zds mg2.keep)) (by decide)
theorem z7u(F:Fz)(b:Nat)(d e:SA)(i:ClsAt F d cA.cl)(j:ClsAt F e cB.cl)(k:F b=some (.arr 48 4 [crtS cA d,crtS cB e] 2)):
  Fo Tryz.prog F 30 [.va (.slice false 0 b 0 4 2 2)] (fun o a=>∃sk,o=.ret (.tup [.agg (crtS cX sk),.va (.int .i64 0)])/\ClsAt a sk cX.cl):=
 zcb (zjb F false b 0 2 [cA,cB] (crts2 i j k) (qg 2) (zpk znz zt7) (zpk zx2 z6j) (by show 2 < 1000000;decide)) fun o a h=>by
  rcases h with⟨h,_⟩ | ⟨c,h,f⟩
  ·exact absurd (h.symm.trans comp1) (by simp)
  ·have g:c=cX:=by have:=h.symm.trans comp1;exact Option.some.inj this
   subst g;exact f
theorem z7t(F:Fz)(b:Nat)(a d:SA)(f:ClsAt F a cA.cl)(g:ClsAt F d cB.cl)(i:F b=some (.arr 48 4 [crtS cB d,crtS cA a] 2)):
  Fo Tryz.prog F 30 [.va (.slice false 0 b 0 4 2 2)] (fun o _=>o=.ret (.tup [.agg [.str [],.str [],.int .i64 0,.nilsl],.va (.int .i64 100)])):=
 zcb (zjb F false b 0 2 [cB,cA] (crts2 g f i) (qg 2) (zpk zt7 znz) (zpk z6j zx2) (by show 2 < 1000000;decide)) fun o e h=>by
  rcases h with⟨_,h⟩ | ⟨c,h,_⟩
  ·exact h
  ·exact absurd (h.symm.trans comp2) (by simp)
theorem z7s(F:Fz):Fo Tryz.prog F 30 [.va (.slice true 0 0 0 4 0 0)] (fun o _=>o=.ret (.tup [.agg [.str [],.str [],.int .i64 0,.nilsl],.va (.int .i64 100)])):=
 zcb (zjb F true 0 0 0 [] SlR.nil (by decide) (by simp) (by simp) (by decide)) fun o a h=>by
  rcases h with⟨_,h⟩ | ⟨c,h,_⟩
  ·exact h
  ·cases h
theorem zxr(F:Fz)(b:Nat)(t:List UInt8)(m:Int)(h:LnAt F b t m)(d:docOk (exD t m)=true):Fo Tryz.prog F 14 [.agg (dS b)] (fun o a=>∃b c,o=.ret (.tup [.va (.slice false 0 b 0 1 8 c),.va (.int .i64 0)])/\a b=some (.arr 9 1 ((allB (exD t m)).map encS) c)):=
 zcb (zr8 F _ _ (exD t m) (exAt h) (ze4 _ _)) fun o a h=>by
  rcases h with⟨h,_⟩ | ⟨_,h⟩
  ·exact absurd (h.symm.trans d) (by simp)
  ·exact h
