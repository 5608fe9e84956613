import Derived.Test.YtfnkamphhpldcaaGreatDoorK36
import Derived.Test.YtfnkamphhpldcaaGreatDoorK37
import Derived.Test.YtfnkamphhpldcaaGreatDoorK25
import Derived.Test.YtfnkamphhpldcaaGreatDoorK35
import Derived.Test.YtfnkamphhpldcaaGreatDoorK29
set_option maxHeartbeats 64000000
namespace Go.Proofs.YtfnkamphhpldcaaGreatDoor
open Go Sx
set_option maxRecDepth 100000
theorem zc4 (F:Fz) (b:Bool) (v:Value):Fo Tryz.prog F 144 [.va (.bool b),.va (.ifc 213 v)] (fun o F'=>F = F' ∧ ((b = true ∧ o = .ret (.tup [])) ∨ (b = false ∧ o = .panic (.iface 213 v)))):=by
 refine fo_of hΘ Tryz.func144 rfl (by decide) _ _ rfl rfl rfl ?_;conv=>whnf
 refine br (fun g=>?_) (fun g=>?_)
 ·conv=>whnf
  exact endFo (.panic (.iface 213 v)) F rfl (Fz.r F) (Fz.r F) ⟨rfl,.inr ⟨not_t g,rfl⟩⟩ rfl rfl
 ·conv=>whnf
  exact endFo (.ret (.tup [])) F rfl (Fz.r F) (Fz.r F) ⟨rfl,.inl ⟨by simpa using g,rfl⟩⟩ (zaj _) rfl
def crd (s:List UInt8) (p:Int):Ent:=.one (.cells 139 [.str s,.int .i64 p])
theorem zbe {n:Nat} (s:List UInt8) (p:Int):(crd s p).below n:=(SB.bB_ok rfl:SB.below n (.cells 139 [.str s,.int .i64 p]))
theorem zda (F:Fz) (s:List UInt8) (p n x:Int) (hs:s.length ≤ 1000000000000000000) (hp:i64 p) (hg:getI s p = (n,x,0)) :
  Ct Tryz.prog 143 [.va (.ptr ⟨1,0,0,0,0⟩)] F [(1,crd s p)] 2
   (fun o F0 h0 n0=>F = F0 ∧ n0 = 2 ∧ o = .ret (.va (.int .i64 n)) ∧ h0 = [(1,crd s x)]):=by
 have hi1:=zu0 F s p hs hp
 rw [hg] at hi1
 refine ct_of hΘ Tryz.func143 rfl (by decide) _ _ rfl rfl rfl ?_;conv=>whnf
 refine drawP hΘ mixed (lk [0,1,2,3,4,5,6,7] (.alt 8 (lk [9,10,11,12,13,14,15] .done) .nil)) [1] (by kernel_rfl) ?_;conv=>whnf
 repeat' ((conv=>whnf); first
  |refine ⟨rfl,?_⟩
  |refine ⟨Fz.r _,rfl,?_⟩
  |refine ⟨Fz.r _,rfl,rfl,?_⟩
  |refine ⟨⟨by simp,by simp⟩,?_⟩
  |fail)
 conv=>whnf
 refine usePu (hi1) rfl (zaa _) rfl ?_;conv=>whnf
 refine ⟨Fz.r F,rfl,?_⟩;conv=>whnf
 refine useFo (zc4 F (decide ((0:Int) = 0)) _) rfl ⟨rfl,rfl,tv⟩ rfl ?_
 rintro _ _ l1 ⟨rfl,⟨hb,rfl⟩ | ⟨hb,rfl⟩⟩
 ·conv=>whnf
  exact clean [] (.ret (.va (.int .i64 n))) F [(1,crd s x)] 2 ⟨Fz.r F,rfl,rfl,rfl,rfl⟩ (zaj _) rfl rfl trivial ⟨zbe s _,tv⟩ ⟨Fz.r F,rfl,tv⟩
 ·exact absurd hb (by decide)
theorem zv4 (F:Fz) (s:List UInt8) (p x:Int) (t:List UInt8) (hs:s.length ≤ 1000000000000000000) (hp:i64 p) (hg:getS s p = (t,x,0)) :
  Ct Tryz.prog 142 [.va (.ptr ⟨1,0,0,0,0⟩)] F [(1,crd s p)] 2
   (fun o F0 h0 n0=>F = F0 ∧ n0 = 2 ∧ o = .ret (.va (.str t)) ∧ h0 = [(1,crd s x)]):=by
 have hi1:=zn3 F s p hs hp
 rw [hg] at hi1
 refine ct_of hΘ Tryz.func142 rfl (by decide) _ _ rfl rfl rfl ?_;conv=>whnf
 refine drawP hΘ mixed (lk [0,1,2,3,4,5,6,7] (.alt 8 (lk [9,10,11,12,13,14,15] .done) .nil)) [1] (by kernel_rfl) ?_;conv=>whnf
 repeat' ((conv=>whnf); first
  |refine ⟨rfl,?_⟩
  |refine ⟨Fz.r _,rfl,?_⟩
  |refine ⟨Fz.r _,rfl,rfl,?_⟩
  |refine ⟨⟨by simp,by simp⟩,?_⟩
  |fail)
 conv=>whnf
 refine usePu (hi1) rfl (zaa _) rfl ?_;conv=>whnf
 refine ⟨Fz.r F,rfl,?_⟩;conv=>whnf
 refine useFo (zc4 F (decide ((0:Int) = 0)) _) rfl ⟨rfl,rfl,tv⟩ rfl ?_
 rintro _ _ l1 ⟨rfl,⟨hb,rfl⟩ | ⟨hb,rfl⟩⟩
 ·conv=>whnf
  exact clean [] (.ret (.va (.str t))) F [(1,crd s x)] 2 ⟨Fz.r F,rfl,rfl,rfl,rfl⟩ (zaj _) rfl rfl trivial ⟨zbe s _,tv⟩ ⟨Fz.r F,rfl,tv⟩
 ·exact absurd hb (by decide)
def exCl:List Kp:=[(1,[(1,0),(2,0)]),(2,[(6,0)]),(3,[]),(4,[]),(5,[]),(6,[]),(7,[]),(8,[])]
theorem zlp:∀ x ∈ exCl,x.2.length ≤ 2:=by decide
def exV:List Int:=[2,1,0,2,0,1,6,0,0,0,0,0,0,0]
theorem z5m (F:Fz) (s src dst:List UInt8) (hsl:s.length = 81) (hok:crtOk ⟨src,dst,2,exCl⟩ = true)
  (r1:getS s 0 = (src,33,0)) (r2:getS s 33 = (dst,66,0)) (r3:getI s 66 = (2,67,0)) (rI:∀ k:Nat,k < 14 → getI s (67 + (k:Int)) = (exV[k]?.getD 0,68 + (k:Int),0)) :
  Ct Tryz.prog 82 [.va (.ptr ⟨1,0,0,0,0⟩)] F [(1,crd s 0)] 2
   (fun o F0 h0 n0=>n0 = 2 ∧ h0 = [(1,crd s s.length)] ∧ ∃ sk,o = .ret (.tup [.agg (crtS ⟨src,dst,2,exCl⟩ sk),.va .nilif]) ∧ ClsAt F0 sk exCl):=by
 have hs:s.length ≤ 1000000000000000000:=by omega
 unfold Ct
 refine z0u hΘ Tryz.func82 rfl (by decide) _ _ rfl rfl rfl ?_
 refine z2l ?_
 refine zci hΘ _ _ _ ?_;conv=>whnf
 refine z2l ?_
 refine zvu hΘ rfl rfl rfl rfl ?_;conv=>whnf
 refine ⟨_,_,rfl,?_⟩
 refine zci hΘ _ _ _ ?_;conv=>whnf
 refine use (zv4 F s 0 33 src hs ⟨by decide,by decide⟩ r1) [(1,1)] rfl ⟨rfl,tv⟩ rfl ⟨zbe s _,tv⟩ (by simp [SV.below,SA.below]) ⟨rfl,tv⟩ ?_
 rintro out0 F0 h0 n0 hle ⟨rfl,rfl,rfl,rfl⟩;conv=>whnf
 refine use (zv4 F s 33 66 dst hs ⟨by decide,by decide⟩ r2) [(1,1)] rfl ⟨rfl,tv⟩ rfl ⟨zbe s _,tv⟩ (by simp [SV.below,SA.below]) ⟨rfl,tv⟩ ?_
 rintro out0 F0 h0 n0 hle ⟨rfl,rfl,rfl,rfl⟩;conv=>whnf
 refine use (zda F s 66 2 67 hs ⟨by decide,by decide⟩ r3) [(1,1)] rfl ⟨rfl,tv⟩ rfl ⟨zbe s _,tv⟩ (by simp [SV.below,SA.below]) ⟨rfl,tv⟩ ?_
 rintro out0 F0 h0 n0 hle ⟨rfl,rfl,rfl,rfl⟩;conv=>whnf
 refine zeo hΘ 8 ?_;conv=>whnf
 -- claim 1
 refine bre (by decide) ?_;conv=>whnf
 refine use (zda F s 67 2 68 hs ⟨by decide,by decide⟩ (rI 0 (by decide))) [(1,1)] rfl ⟨rfl,tv⟩ rfl ⟨zbe s _,tv⟩ (by simp [SV.below,SA.below]) ⟨rfl,tv⟩ ?_
 rintro out0 F0 h0 n0 hle ⟨rfl,rfl,rfl,rfl⟩
 clear hle;conv=>whnf
 refine gae (by decide) ?_;conv=>whnf
 refine useFo (zc4 F _ _) rfl ⟨rfl,rfl,tv⟩ rfl ?_
 rintro _ _ lm ⟨rfl,⟨hb,rfl⟩ | ⟨hb,rfl⟩⟩
 rotate_left
 ·exact absurd hb (by decide)
 clear hb lm;conv=>whnf
 refine zeo hΘ 2 ?_;conv=>whnf
 refine bre (by decide) ?_;conv=>whnf
 refine drawP hΘ mixed (lk [0,1,2,4] (.alt 3 (.alt 5 (.alt 6 (.alt 7 (.alt 8 (.look 9 (.last 10 .done)) .nil) .nil) .nil) .nil) .nil)) [4] (by kernel_rfl) ?_;conv=>whnf
 refine ⟨rfl,?_⟩;conv=>whnf
 refine use (zda F s 68 1 69 hs ⟨by decide,by decide⟩ (rI 1 (by decide))) [(1,1)] rfl ⟨rfl,tv⟩ rfl ⟨zbe s _,tv⟩ (by simp [SV.below,SA.below]) ⟨rfl,tv⟩ ?_
 rintro out0 F0 h0 n0 hle ⟨rfl,rfl,rfl,rfl⟩
 clear hle;conv=>whnf
 refine ⟨Fz.r F,rfl,?_⟩;conv=>whnf
 refine use (zda F s 69 0 70 hs ⟨by decide,by decide⟩ (rI 2 (by decide))) [(1,1)] rfl ⟨rfl,tv⟩ rfl ⟨zbe s _,tv⟩ (by simp [SV.below,SA.below]) ⟨rfl,tv⟩ ?_
 rintro out0 F0 h0 n0 hle ⟨rfl,rfl,rfl,rfl⟩
 clear hle;conv=>whnf
 refine ⟨Fz.r F,rfl,?_⟩;conv=>whnf
 refine ⟨Fz.r F,rfl,?_⟩;conv=>whnf
 refine ⟨Fz.r F,rfl,?_⟩;conv=>whnf
 refine ⟨nb rfl,[enc (1,0)],rfl,?_⟩;conv=>whnf
 refine ⟨rfl,rfl,?_⟩;conv=>whnf
 refine ⟨by show 1 * 16 ≤ 140737488355328; omega,fun cs00 hcs=>?_⟩
 clear hcs;conv=>whnf
 refine ⟨Fz.r F,rfl,?_⟩;conv=>whnf
 refine sr_go hΘ ?_;conv=>whnf
 refine bre (by decide) ?_;conv=>whnf
 refine drawP hΘ mixed (lk [0,1,2,4] (.alt 3 (.alt 5 (.alt 6 (.alt 7 (.alt 8 (.look 9 (.last 10 .done)) .nil) .nil) .nil) .nil) .nil)) [4] (by kernel_rfl) ?_;conv=>whnf
 refine ⟨rfl,?_⟩;conv=>whnf
 refine use (zda F s 70 2 71 hs ⟨by decide,by decide⟩ (rI 3 (by decide))) [(1,1)] rfl ⟨rfl,tv⟩ rfl ⟨zbe s _,tv⟩ (by simp [SV.below,SA.below]) ⟨rfl,tv⟩ ?_
 rintro out0 F0 h0 n0 hle ⟨rfl,rfl,rfl,rfl⟩
 clear hle;conv=>whnf
 refine ⟨Fz.r F,rfl,?_⟩;conv=>whnf
 refine use (zda F s 71 0 72 hs ⟨by decide,by decide⟩ (rI 4 (by decide))) [(1,1)] rfl ⟨rfl,tv⟩ rfl ⟨zbe s _,tv⟩ (by simp [SV.below,SA.below]) ⟨rfl,tv⟩ ?_
 rintro out0 F0 h0 n0 hle ⟨rfl,rfl,rfl,rfl⟩
 clear hle;conv=>whnf
 refine ⟨Fz.r F,rfl,?_⟩;conv=>whnf
 refine ⟨Fz.r F,rfl,?_⟩;conv=>whnf
 refine ⟨Fz.r F,rfl,?_⟩;conv=>whnf
 refine ⟨nb rfl,[enc (2,0)],rfl,?_⟩;conv=>whnf
 refine ⟨rfl,rfl,rfl,nb rfl,fun cs01 hcs=>?_⟩
 clear hcs;conv=>whnf
 refine ⟨Fz.r F,rfl,?_⟩;conv=>whnf
 refine sr_go hΘ ?_;conv=>whnf
 refine brd (by decide) ?_;conv=>whnf
 refine ⟨nb rfl,_,rfl,?_⟩;conv=>whnf
 refine ⟨rfl,rfl,?_⟩;conv=>whnf
 refine ⟨by show 1 * 32 ≤ 140737488355328; omega,fun cc0 hcc=>?_⟩
 clear hcc;conv=>whnf
 refine sr_go hΘ ?_;conv=>whnf
 -- claim 2
 refine bre (by decide) ?_;conv=>whnf
 refine use (zda F s 72 1 73 hs ⟨by decide,by decide⟩ (rI 5 (by decide))) [(1,1)] rfl ⟨rfl,tv⟩ rfl ⟨zbe s _,tv⟩ (by simp [SV.below,SA.below]) ⟨rfl,tv⟩ ?_
 rintro out0 F0 h0 n0 hle ⟨rfl,rfl,rfl,rfl⟩
 clear hle;conv=>whnf
 refine gae (by decide) ?_;conv=>whnf
 refine useFo (zc4 F _ _) rfl ⟨rfl,rfl,tv⟩ rfl ?_
 rintro _ _ lm ⟨rfl,⟨hb,rfl⟩ | ⟨hb,rfl⟩⟩
 rotate_left
 ·exact absurd hb (by decide)
 clear hb lm;conv=>whnf
 refine zeo hΘ 1 ?_;conv=>whnf
 refine bre (by decide) ?_;conv=>whnf
 refine drawP hΘ mixed (lk [0,1,2,4] (.alt 3 (.alt 5 (.alt 6 (.alt 7 (.alt 8 (.look 9 (.last 10 .done)) .nil) .nil) .nil) .nil) .nil)) [11] (by kernel_rfl) ?_;conv=>whnf
 refine ⟨rfl,?_⟩;conv=>whnf
 refine use (zda F s 73 6 74 hs ⟨by decide,by decide⟩ (rI 6 (by decide))) [(1,1)] rfl ⟨rfl,tv⟩ rfl ⟨zbe s _,tv⟩ (by simp [SV.below,SA.below]) ⟨rfl,tv⟩ ?_
 rintro out0 F0 h0 n0 hle ⟨rfl,rfl,rfl,rfl⟩
 clear hle;conv=>whnf
 refine ⟨Fz.r F,rfl,?_⟩;conv=>whnf
 refine use (zda F s 74 0 75 hs ⟨by decide,by decide⟩ (rI 7 (by decide))) [(1,1)] rfl ⟨rfl,tv⟩ rfl ⟨zbe s _,tv⟩ (by simp [SV.below,SA.below]) ⟨rfl,tv⟩ ?_
 rintro out0 F0 h0 n0 hle ⟨rfl,rfl,rfl,rfl⟩
 clear hle;conv=>whnf
 refine ⟨Fz.r F,rfl,?_⟩;conv=>whnf
 refine ⟨Fz.r F,rfl,?_⟩;conv=>whnf
 refine ⟨Fz.r F,rfl,?_⟩;conv=>whnf
 refine ⟨nb rfl,[enc (6,0)],rfl,?_⟩;conv=>whnf
 refine ⟨rfl,rfl,?_⟩;conv=>whnf
 refine ⟨by show 1 * 16 ≤ 140737488355328; omega,fun cs10 hcs=>?_⟩
 clear hcs;conv=>whnf
 refine ⟨Fz.r F,rfl,?_⟩;conv=>whnf
 refine sr_go hΘ ?_;conv=>whnf
 refine brd (by decide) ?_;conv=>whnf
 refine ⟨nb rfl,_,rfl,?_⟩;conv=>whnf
 refine ⟨rfl,rfl,rfl,nb rfl,fun cc1 hcc=>?_⟩
 clear hcc;conv=>whnf
 refine sr_go hΘ ?_;conv=>whnf
 -- claim 3
 refine bre (by decide) ?_;conv=>whnf
 refine use (zda F s 75 0 76 hs ⟨by decide,by decide⟩ (rI 8 (by decide))) [(1,1)] rfl ⟨rfl,tv⟩ rfl ⟨zbe s _,tv⟩ (by simp [SV.below,SA.below]) ⟨rfl,tv⟩ ?_
 rintro out0 F0 h0 n0 hle ⟨rfl,rfl,rfl,rfl⟩
 clear hle;conv=>whnf
 refine gae (by decide) ?_;conv=>whnf
 refine useFo (zc4 F _ _) rfl ⟨rfl,rfl,tv⟩ rfl ?_
 rintro _ _ lm ⟨rfl,⟨hb,rfl⟩ | ⟨hb,rfl⟩⟩
 rotate_left
 ·exact absurd hb (by decide)
 clear hb lm;conv=>whnf
 refine zeo hΘ 0 ?_;conv=>whnf
 refine brd (by decide) ?_;conv=>whnf
 refine ⟨nb rfl,_,rfl,?_⟩;conv=>whnf
 refine ⟨rfl,rfl,rfl,nb rfl,fun cc2 hcc=>?_⟩
 clear hcc;conv=>whnf
 refine sr_go hΘ ?_;conv=>whnf
 -- claim 4
 refine bre (by decide) ?_;conv=>whnf
 refine use (zda F s 76 0 77 hs ⟨by decide,by decide⟩ (rI 9 (by decide))) [(1,1)] rfl ⟨rfl,tv⟩ rfl ⟨zbe s _,tv⟩ (by simp [SV.below,SA.below]) ⟨rfl,tv⟩ ?_
 rintro out0 F0 h0 n0 hle ⟨rfl,rfl,rfl,rfl⟩
 clear hle;conv=>whnf
 refine gae (by decide) ?_;conv=>whnf
 refine useFo (zc4 F _ _) rfl ⟨rfl,rfl,tv⟩ rfl ?_
 rintro _ _ lm ⟨rfl,⟨hb,rfl⟩ | ⟨hb,rfl⟩⟩
 rotate_left
 ·exact absurd hb (by decide)
 clear hb lm;conv=>whnf
 refine zeo hΘ 0 ?_;conv=>whnf
 refine brd (by decide) ?_;conv=>whnf
 refine ⟨nb rfl,_,rfl,?_⟩;conv=>whnf
 refine ⟨rfl,rfl,rfl,nb rfl,fun cc3 hcc=>?_⟩
 clear hcc;conv=>whnf
 refine sr_go hΘ ?_;conv=>whnf
 -- claim 5
 refine bre (by decide) ?_;conv=>whnf
 refine use (zda F s 77 0 78 hs ⟨by decide,by decide⟩ (rI 10 (by decide))) [(1,1)] rfl ⟨rfl,tv⟩ rfl ⟨zbe s _,tv⟩ (by simp [SV.below,SA.below]) ⟨rfl,tv⟩ ?_
 rintro out0 F0 h0 n0 hle ⟨rfl,rfl,rfl,rfl⟩
 clear hle;conv=>whnf
 refine gae (by decide) ?_;conv=>whnf
 refine useFo (zc4 F _ _) rfl ⟨rfl,rfl,tv⟩ rfl ?_
 rintro _ _ lm ⟨rfl,⟨hb,rfl⟩ | ⟨hb,rfl⟩⟩
 rotate_left
 ·exact absurd hb (by decide)
 clear hb lm;conv=>whnf
 refine zeo hΘ 0 ?_;conv=>whnf
 refine brd (by decide) ?_;conv=>whnf
 refine ⟨nb rfl,_,rfl,?_⟩;conv=>whnf
 refine ⟨rfl,rfl,rfl,nb rfl,fun cc4 hcc=>?_⟩
 clear hcc;conv=>whnf
 refine sr_go hΘ ?_;conv=>whnf
 -- claim 6
 refine bre (by decide) ?_;conv=>whnf
 refine use (zda F s 78 0 79 hs ⟨by decide,by decide⟩ (rI 11 (by decide))) [(1,1)] rfl ⟨rfl,tv⟩ rfl ⟨zbe s _,tv⟩ (by simp [SV.below,SA.below]) ⟨rfl,tv⟩ ?_
 rintro out0 F0 h0 n0 hle ⟨rfl,rfl,rfl,rfl⟩
 clear hle;conv=>whnf
 refine gae (by decide) ?_;conv=>whnf
 refine useFo (zc4 F _ _) rfl ⟨rfl,rfl,tv⟩ rfl ?_
 rintro _ _ lm ⟨rfl,⟨hb,rfl⟩ | ⟨hb,rfl⟩⟩
 rotate_left
 ·exact absurd hb (by decide)
 clear hb lm;conv=>whnf
 refine zeo hΘ 0 ?_;conv=>whnf
 refine brd (by decide) ?_;conv=>whnf
 refine ⟨nb rfl,_,rfl,?_⟩;conv=>whnf
 refine ⟨rfl,rfl,rfl,nb rfl,fun cc5 hcc=>?_⟩
 clear hcc;conv=>whnf
 refine sr_go hΘ ?_;conv=>whnf
 -- claim 7
 refine bre (by decide) ?_;conv=>whnf
 refine use (zda F s 79 0 80 hs ⟨by decide,by decide⟩ (rI 12 (by decide))) [(1,1)] rfl ⟨rfl,tv⟩ rfl ⟨zbe s _,tv⟩ (by simp [SV.below,SA.below]) ⟨rfl,tv⟩ ?_
 rintro out0 F0 h0 n0 hle ⟨rfl,rfl,rfl,rfl⟩
 clear hle;conv=>whnf
 refine gae (by decide) ?_;conv=>whnf
 refine useFo (zc4 F _ _) rfl ⟨rfl,rfl,tv⟩ rfl ?_
 rintro _ _ lm ⟨rfl,⟨hb,rfl⟩ | ⟨hb,rfl⟩⟩
 rotate_left
 ·exact absurd hb (by decide)
 clear hb lm;conv=>whnf
 refine zeo hΘ 0 ?_;conv=>whnf
 refine brd (by decide) ?_;conv=>whnf
 refine ⟨nb rfl,_,rfl,?_⟩;conv=>whnf
 refine ⟨rfl,rfl,rfl,nb rfl,fun cc6 hcc=>?_⟩
 clear hcc;conv=>whnf
 refine sr_go hΘ ?_;conv=>whnf
 -- claim 8
 refine bre (by decide) ?_;conv=>whnf
 refine use (zda F s 80 0 81 hs ⟨by decide,by decide⟩ (rI 13 (by decide))) [(1,1)] rfl ⟨rfl,tv⟩ rfl ⟨zbe s _,tv⟩ (by simp [SV.below,SA.below]) ⟨rfl,tv⟩ ?_
 rintro out0 F0 h0 n0 hle ⟨rfl,rfl,rfl,rfl⟩
 clear hle;conv=>whnf
 refine gae (by decide) ?_;conv=>whnf
 refine useFo (zc4 F _ _) rfl ⟨rfl,rfl,tv⟩ rfl ?_
 rintro _ _ lm ⟨rfl,⟨hb,rfl⟩ | ⟨hb,rfl⟩⟩
 rotate_left
 ·exact absurd hb (by decide)
 clear hb lm;conv=>whnf
 refine zeo hΘ 0 ?_;conv=>whnf
 refine brd (by decide) ?_;conv=>whnf
 refine ⟨nb rfl,_,rfl,?_⟩;conv=>whnf
 refine ⟨rfl,rfl,rfl,nb rfl,fun cc7 hcc=>?_⟩
 clear hcc;conv=>whnf
 refine sr_go hΘ ?_;conv=>whnf
 refine brd (by decide) ?_;conv=>whnf
 refine drawP hΘ mixed (lk [0,1,2,3,4,5,6,7,8,9] (.alt 10 (.alt 11 .done .nil) .nil)) [1] (by kernel_rfl) ?_;conv=>whnf
 refine ⟨rfl,?_⟩;conv=>whnf
 refine ⟨rfl,?_⟩;conv=>whnf
 refine ⟨Fz.r F,rfl,?_⟩;conv=>whnf
 refine useFo (zc4 F _ _) rfl ⟨rfl,rfl,tv⟩ rfl ?_
 rintro _ _ lm ⟨rfl,⟨hb,rfl⟩ | ⟨hb,rfl⟩⟩
 rotate_left
 ·exact absurd hb (by rw [hsl]; decide)
 clear hb lm;conv=>whnf
 refine ⟨Fz.r F,rfl,?_⟩;conv=>whnf
 refine za0 8 (fun _=>.arr 56 2 ([(1,0),(2,0)].map enc) cs01) rfl rfl rfl (fun _ _=>rfl) (fun _ _=>SB.bB_ok rfl) ?_
 intro bA F1 l1 hbA
 refine za0 13 (fun _=>.arr 56 2 ([(6,0)].map enc) cs10) rfl rfl rfl (fun _ _=>rfl) (fun _ _=>SB.bB_ok rfl) ?_
 intro bB F2 l2 hbB
 refine swapC 33 (.arr 52 2 [[.int .i64 1,.slice false 8 0 0 2 2 cs01],[.int .i64 2,.slice false 13 0 0 2 1 cs10],[.int .i64 3,.slice true 0 0 0 2 0 0],[.int .i64 4,.slice true 0 0 0 2 0 0],[.int .i64 5,.slice true 0 0 0 2 0 0],[.int .i64 6,.slice true 0 0 0 2 0 0],[.int .i64 7,.slice true 0 0 0 2 0 0],[.int .i64 8,.slice true 0 0 0 2 0 0]] cc7) rfl (zvq rfl (by show ∀ x ∈ (_:List (List SA)),x.length = 2; simp) (fun _=>rfl)) (SB.bB_ok rfl) ?_
 refine za0 33 (fun _=>.arr 52 2 [[.int .i64 1,.slice false 0 (bA 0) 0 2 2 cs01],[.int .i64 2,.slice false 0 (bB 0) 0 2 1 cs10],[.int .i64 3,.slice true 0 0 0 2 0 0],[.int .i64 4,.slice true 0 0 0 2 0 0],[.int .i64 5,.slice true 0 0 0 2 0 0],[.int .i64 6,.slice true 0 0 0 2 0 0],[.int .i64 7,.slice true 0 0 0 2 0 0],[.int .i64 8,.slice true 0 0 0 2 0 0]] cc7) rfl rfl rfl (fun _ _=>rfl) (fun _ _=>SB.bB_ok rfl) ?_
 intro bC F3 l3 hbC
 have hcl:ClsAt F3 (.slice false 0 (bC 0) 0 2 8 cc7) exCl:=by
  have hA:=l3 _ _ (l2 _ _ (hbA 0 rfl))
  have hB:=l3 _ _ (hbB 0 rfl)
  refine SlR.new (l:=exCl) (hbC 0 rfl) rfl fun k x hx=>?_
  match k,hx with
  |0,hx=>cases hx; exact ⟨_,rfl,_,rfl,Sl.new (l:=[(1,0),(2,0)]) hA⟩
  |1,hx=>cases hx; exact ⟨_,rfl,_,rfl,Sl.new (l:=[(6,0)]) hB⟩
  |2,hx=>cases hx; exact ⟨_,rfl,_,rfl,Sl.nil⟩
  |3,hx=>cases hx; exact ⟨_,rfl,_,rfl,Sl.nil⟩
  |4,hx=>cases hx; exact ⟨_,rfl,_,rfl,Sl.nil⟩
  |5,hx=>cases hx; exact ⟨_,rfl,_,rfl,Sl.nil⟩
  |6,hx=>cases hx; exact ⟨_,rfl,_,rfl,Sl.nil⟩
  |7,hx=>cases hx; exact ⟨_,rfl,_,rfl,Sl.nil⟩
  |k + 8,hx=>cases hx
 have hval:=zei F3 _ ⟨src,dst,2,exCl⟩ hcl (by intro x hx; have:=zlp x hx; omega) (by show exCl.length < 1000000; decide)
 rw [hok] at hval
 refine useFo hval rfl (zaa _) rfl ?_
 rintro _ F4 l4 rfl;conv=>whnf
 refine useFo (zc4 F4 true _) rfl ⟨rfl,rfl,tv⟩ rfl ?_
 rintro _ _ lm ⟨rfl,⟨hb,rfl⟩ | ⟨hb,rfl⟩⟩
 rotate_left
 ·cases hb
 clear hb lm;conv=>whnf
 refine ⟨rfl,zy3 2 3 ?_⟩;conv=>whnf
 have l14:=Fz.t l1 (Fz.t l2 (Fz.t l3 l4))
 have hat:SB.cells 139 [.str s,.int .i64 81] = SB.cells 139 [.str s,.int .i64 (s.length:Int)]:=by rw [hsl]; rfl
 exact clean [] (.ret (.tup [.agg (crtS ⟨src,dst,2,exCl⟩ (.slice false 0 (bC 0) 0 2 8 cc7)),.va .nilif])) F4 [(1,crd s s.length)] 2 ⟨l14,rfl,rfl,_,rfl,KpsAt.up hcl l4⟩ ⟨rfl,rfl,tv⟩ rfl rfl (Out.bB_ok (o:=.ret (.tup [.agg (crtS ⟨src,dst,2,exCl⟩ (.slice false 0 (bC 0) 0 2 8 cc7)),.va .nilif])) rfl) ⟨zbe s _,tv⟩ ⟨Fz.r F4,hat,tv⟩
theorem zv3 (F:Fz) (s src dst:List UInt8) (hsl:s.length = 81) (hok:crtOk ⟨src,dst,2,exCl⟩ = true)
  (r1:getS s 0 = (src,33,0)) (r2:getS s 33 = (dst,66,0)) (r3:getI s 66 = (2,67,0)) (rI:∀ k:Nat,k < 14 → getI s (67 + (k:Int)) = (exV[k]?.getD 0,68 + (k:Int),0)) :
  Fo Tryz.prog F 36 [.va (.str s)] (fun o F'=>∃ sk,o = .ret (.tup [.agg (crtS ⟨src,dst,2,exCl⟩ sk),.va (.int .i64 0)]) ∧ ClsAt F' sk exCl):=by
 have hcert:=z5m F s src dst hsl hok r1 r2 r3 rI
 refine fo_of hΘ Tryz.func36 rfl (by decide) _ _ rfl rfl rfl ?_;conv=>whnf
 refine use hcert [(1,2)] rfl ⟨rfl,tv⟩ rfl ⟨zbe s _,tv⟩ (by simp [SV.below,SA.below]) ⟨rfl,tv⟩ ?_
 rintro out0 F1 h0 n0 l1 ⟨rfl,rfl,sk,rfl,hk⟩
 have hk':=hk
 obtain ⟨kn,kb,ke,kc,kL,kr,rfl,k1,k2,k3,k4⟩:=hk
 conv=>whnf
 refine drawP hΘ mixed (.look 0 (.look 1 (.alt 2 (.alt 3 (.look 4 .done) .nil) .nil))) [3] (by kernel_rfl) ?_;conv=>whnf
 refine ⟨rfl,?_⟩;conv=>whnf
 refine usePu (zx8 F1) rfl (zaa _) rfl ?_;conv=>whnf
 refine ⟨Fz.r F1,rfl,?_⟩;conv=>whnf
 refine ⟨Fz.r F1,rfl,?_⟩;conv=>whnf
 exact endFo (.ret (.tup [.agg (crtS ⟨src,dst,2,exCl⟩ (.slice kn 0 kb ke 2 exCl.length kc)),.va (.int .i64 0)])) F1 rfl l1 (Fz.r F1) ⟨_,rfl,hk'⟩ (zaj _) rfl
def force {β:Type} (n:Nat) (k:Nat → β):β:=match n with
 |0=>k 0
 |m + 1=>k (m + 1)
theorem force_eq {β:Type} (n:Nat) (k:Nat → β):force n k = k n:=by cases n<;>rfl
def znj {β:Type}:List Nat → (List Nat → β) → β
 |[],k=>k []
 |x :: r,k=>force x fun y=>znj r fun l=>k (y :: l)
theorem zjh {β:Type}:∀ (l:List Nat) (k:List Nat → β),znj l k = k l
 |[],_=>rfl
 |x :: r,k=>by rw [znj,force_eq,zjh r]
def fW {β:Type} (v:W8) (k:W8 → β):β:=force v.a fun a=>force v.b fun b=>force v.c fun c=>force v.d fun d=>force v.e fun e=>force v.f fun f=>force v.g fun g=>force v.h fun h=>k ⟨a,b,c,d,e,f,g,h⟩
theorem fW_eq {β:Type} (v:W8) (k:W8 → β):fW v k = k v:=by simp only [fW,force_eq]
def nx16 (a b c d:Nat):Nat:=(a + (mix b [7,18] 0 ^^^ b / 8) + c + (mix d [17,19] 0 ^^^ d / 1024)) % 4294967296
def zq1 {β:Type}:List Nat → List Nat → W8 → (W8 → β) → β
 |[],_,v,k=>k v
 |c :: r,w,v,k=>force (nx16 (at0 w 0) (at0 w 1) (at0 w 9) (at0 w 14)) fun x=>znj (w.drop 1 ++ [x]) fun w'=>fW (step8 c (at0 w 0) v) fun u=>zq1 r w' u k
theorem zmx (p l:List Nat) (j:Nat):at0 (p ++ l) (p.length + j) = at0 l j:=by
 unfold at0
 rw [jz (Nat.le_add_right _ _),qac]
theorem z2o (p w:List Nat) (hw:w.length = 16):nxt (p ++ w) = nx16 (at0 w 0) (at0 w 1) (at0 w 9) (at0 w 14):=by
 have h:(p ++ w).length = p.length + 16:=by rw [qa,hw]
 have h1:p.length + 16 - 16 = p.length + 0:=by omega
 have h2:p.length + 16 - 15 = p.length + 1:=by omega
 have h3:p.length + 16 - 7 = p.length + 9:=by omega
 have h4:p.length + 16 - 2 = p.length + 14:=by omega
 rw [nxt,h,h1,h2,h3,h4,zmx,zmx,zmx,zmx]
 rfl
theorem zi1:∀ (n:Nat) (w:List Nat),∃ z,grow n w = w ++ z ∧ z.length = n
 |0,w=>⟨[],by simp [grow],rfl⟩
 |n + 1,w=>by
  obtain ⟨z,hz,hl⟩:=zi1 n (w ++ [nxt w])
  exact ⟨nxt w :: z,by rw [grow,hz]; simp,by simp [hl]⟩
theorem zvi {β:Type} (k:W8 → β):∀ (ks:List Nat) (n:Nat) (p w:List Nat) (v:W8),ks.length ≤ n → w.length = 16 →
  zq1 ks w v k = k (zf2 (ks.zip ((grow n (p ++ w)).drop p.length)) v):=by
 intro ks
 induction ks with
 |nil=>intro n p w v _ _; rfl
 |cons c r ih=>
  intro n p w v h hw
  cases n with
  |zero=>exact absurd h (by simp)
  |succ n=>
   cases w with
   |nil=>cases hw
   |cons w0 t=>
    have ht:t.length = 15:=by simpa using hw
    have ih:=ih n (p ++ [w0]) (t ++ [nxt (p ++ w0 :: t)]) (step8 c w0 v) (by simpa using h) (by rw [qa,ht]; rfl)
    rw [zq1,force_eq,zjh,fW_eq,← z2o p _ hw]
    rw [show (w0 :: t).drop 1 = t from rfl,show at0 (w0 :: t) 0 = w0 from rfl,ih]
    have e:p ++ [w0] ++ (t ++ [nxt (p ++ w0 :: t)]) = p ++ w0 :: t ++ [nxt (p ++ w0 :: t)]:=by simp
    rw [e,grow]
    obtain ⟨z,hz,-⟩:=zi1 n (p ++ w0 :: t ++ [nxt (p ++ w0 :: t)])
    rw [hz]
    have d1:(p ++ w0 :: t ++ [nxt (p ++ w0 :: t)] ++ z).drop p.length = w0 :: (t ++ [nxt (p ++ w0 :: t)] ++ z):=by
     rw [qk,qk,qb8]; simp
    have d2:(p ++ w0 :: t ++ [nxt (p ++ w0 :: t)] ++ z).drop (p ++ [w0]).length = t ++ [nxt (p ++ w0 :: t)] ++ z:=by
     rw [← e,qk (p ++ [w0]),qb8]
    rw [d1,d2,qb7,zf2,zf2,y4]
theorem z2q (k a z:List Nat) (h:k.length ≤ a.length):k.zip (a ++ z) = k.zip a:=by
 induction k generalizing a with
 |nil=>rfl
 |cons x r ih=>cases a with
  |nil=>exact absurd h (by simp)
  |cons y s=>rw [jt,qb7,qb7,ih s (by simpa using h)]
theorem zoa:∀ (m n:Nat) (w:List Nat),grow (m + n) w = grow n (grow m w)
 |0,n,w=>by rw [ji]; rfl
 |m + 1,n,w=>by rw [Nat.add_right_comm]; exact zoa m n _
def zu6 {β:Type} (b:List UInt8) (v:W8) (k:W8 → β):β:=znj ((List.range 16).map (word b)) fun w=>zq1 konst w v fun u=>fW (add8 v u) k
theorem zut {β:Type} (b:List UInt8) (v:W8) (k:W8 → β):zu6 b v k = k (zg5 b v):=by
 rw [zu6,zjh]
 have h:=zvi (fun u=>fW (add8 v u) k) konst 64 [] ((List.range 16).map (word b)) v (nb rfl) rfl
 refine h.trans ?_
 rw [fW_eq,zg5]
 have e:(konst.zip ((grow 64 ([] ++ (List.range 16).map (word b))).drop ([]:List Nat).length)) = konst.zip (sched b):=by
  rw [qu,qp,qai,sched,show (64:Nat) = 48 + 16 from rfl,zoa]
  obtain ⟨z,hz,-⟩:=zi1 16 (grow 48 ((List.range 16).map (word b)))
  rw [hz]
  refine z2q _ _ _ ?_
  obtain ⟨y,hy,hl⟩:=zi1 48 ((List.range 16).map (word b))
  rw [hy,qa,hl]
  exact nb rfl
 rw [e]
def zms {β:Type}:List Nat → List UInt8 → W8 → (W8 → β) → β
 |[],_,v,k=>k v
 |i :: r,p,v,k=>zu6 ((p.drop (64 * i)).take 64) v fun u=>zms r p u k
theorem zlf {β:Type} (p:List UInt8) (k:W8 → β):∀ (l:List Nat) (v:W8),zms l p v k = k (l.foldl (fun v k=>zg5 ((p.drop (64 * k)).take 64) v) v)
 |[],_=>rfl
 |i :: r,v=>by rw [zms,zut,zlf p k r,y4]
def sumW (s:List UInt8):List UInt8:=zms (List.range ((padded s).length / 64)) (padded s) init8 zf9
theorem zv2 (s:List UInt8):sumW s = sumS s:=by rw [sumW,zlf]; rfl
theorem leafV {s d:List UInt8} (h:sumW (0 :: s) = d):leafS s = d:=by rw [leafS,← zv2,h]
theorem nodeV {a b x y d:List UInt8} (ha:a = x) (hb:b = y) (h:sumW (1 :: (x ++ y)) = d):nodeS a b = d:=by rw [nodeS,ha,hb,← zv2,h]
def valA:List (List UInt8):=[[2,12,84,111,32,32,66,101],[2,10],[0],[0],[0],[0,0],[0,0,0],[2,0]]
theorem gl0:leafS [2,12,84,111,32,32,66,101] = [238,43,26,1,207,144,68,193,115,18,112,4,215,143,46,111,177,187,153,33,44,0,1,222,88,185,117,180,10,41,136,53]:=leafV (by decide +kernel)
theorem gl1:leafS [2,10] = [211,168,146,147,135,137,144,118,180,0,248,134,99,149,60,40,227,223,96,46,78,218,94,137,173,237,112,221,10,152,83,107]:=leafV (by decide +kernel)
theorem gl2:leafS [0] = [150,162,150,210,36,242,133,198,123,238,147,195,15,138,48,145,87,240,218,163,93,197,184,126,65,11,120,99,10,9,207,199]:=leafV (by decide +kernel)
theorem gl3:leafS [0,0] = [112,158,128,200,132,135,162,65,30,30,228,223,185,242,42,134,20,146,210,12,71,101,21,12,12,121,74,189,112,248,20,124]:=leafV (by decide +kernel)
theorem gl4:leafS [0,0,0] = [223,63,97,152,4,169,47,219,64,87,25,45,196,61,215,72,234,119,138,220,82,188,73,140,232,5,36,192,20,184,17,25]:=leafV (by decide +kernel)
theorem gl5:leafS [2,0] = [219,188,112,37,232,158,185,177,236,158,142,44,122,45,182,134,157,187,80,251,162,27,243,116,200,101,41,220,49,28,237,233]:=leafV (by decide +kernel)
theorem gnA0:nodeS (leafS [2,12,84,111,32,32,66,101]) (leafS [2,10]) = [116,129,84,203,128,152,161,250,41,172,209,118,108,42,66,180,165,165,154,122,167,31,35,29,237,223,246,32,172,226,30,157]:=nodeV (gl0) (gl1) (by decide +kernel)
theorem gnA1:nodeS (leafS [0]) (leafS [0]) = [13,226,65,128,173,164,201,93,183,137,134,218,62,87,14,167,168,41,106,252,156,252,123,4,185,118,203,170,91,180,234,137]:=nodeV (gl2) (gl2) (by decide +kernel)
theorem gnA2:nodeS (leafS [0]) (leafS [0,0]) = [123,80,130,78,116,212,98,75,241,11,125,227,213,139,216,133,49,214,80,228,55,94,69,79,228,185,104,93,12,73,204,149]:=nodeV (gl2) (gl3) (by decide +kernel)
theorem gnA3:nodeS (leafS [0,0,0]) (leafS [2,0]) = [251,214,97,244,25,243,9,210,205,9,142,32,93,57,232,164,201,154,136,225,224,89,230,34,176,43,250,58,47,151,64,127]:=nodeV (gl4) (gl5) (by decide +kernel)
theorem gnA4:nodeS (nodeS (leafS [2,12,84,111,32,32,66,101]) (leafS [2,10])) (nodeS (leafS [0]) (leafS [0])) = [238,208,255,52,27,145,149,89,39,245,242,170,80,225,87,142,125,108,37,18,110,36,23,176,152,226,240,21,103,49,64,163]:=nodeV (gnA0) (gnA1) (by decide +kernel)
theorem gnA5:nodeS (nodeS (leafS [0]) (leafS [0,0])) (nodeS (leafS [0,0,0]) (leafS [2,0])) = [61,188,37,240,46,83,250,156,148,215,32,106,192,242,66,51,240,233,62,90,236,106,112,36,82,248,165,27,185,208,211,42]:=nodeV (gnA2) (gnA3) (by decide +kernel)
theorem gnA6:nodeS (nodeS (nodeS (leafS [2,12,84,111,32,32,66,101]) (leafS [2,10])) (nodeS (leafS [0]) (leafS [0]))) (nodeS (nodeS (leafS [0]) (leafS [0,0])) (nodeS (leafS [0,0,0]) (leafS [2,0]))) = [171,174,167,58,167,81,185,43,48,224,96,218,29,211,146,128,64,184,139,96,77,17,46,118,111,240,82,54,231,197,36,76]:=nodeV (gnA4) (gnA5) (by decide +kernel)
theorem rootA:root8 valA = [171,174,167,58,167,81,185,43,48,224,96,218,29,211,146,128,64,184,139,96,77,17,46,118,111,240,82,54,231,197,36,76]:=gnA6
def valC:List (List UInt8):=[[2,10,116,111,32,98,101],[2,0],[0],[0],[0],[0,0],[0,0,0],[2,0]]
theorem gl6:leafS [2,10,116,111,32,98,101] = [181,74,11,201,27,109,77,171,99,210,222,104,68,96,9,243,161,211,126,175,131,90,161,233,7,198,238,32,108,6,140,164]:=leafV (by decide +kernel)
theorem gnC0:nodeS (leafS [2,10,116,111,32,98,101]) (leafS [2,0]) = [189,227,190,161,253,59,247,175,172,237,225,62,75,50,84,1,115,35,95,217,101,220,82,217,148,100,23,193,204,128,124,44]:=nodeV (gl6) (gl5) (by decide +kernel)
theorem gnC1:nodeS (leafS [0]) (leafS [0]) = [13,226,65,128,173,164,201,93,183,137,134,218,62,87,14,167,168,41,106,252,156,252,123,4,185,118,203,170,91,180,234,137]:=nodeV (gl2) (gl2) (by decide +kernel)
theorem gnC2:nodeS (leafS [0]) (leafS [0,0]) = [123,80,130,78,116,212,98,75,241,11,125,227,213,139,216,133,49,214,80,228,55,94,69,79,228,185,104,93,12,73,204,149]:=nodeV (gl2) (gl3) (by decide +kernel)
theorem gnC3:nodeS (leafS [0,0,0]) (leafS [2,0]) = [251,214,97,244,25,243,9,210,205,9,142,32,93,57,232,164,201,154,136,225,224,89,230,34,176,43,250,58,47,151,64,127]:=nodeV (gl4) (gl5) (by decide +kernel)
theorem gnC4:nodeS (nodeS (leafS [2,10,116,111,32,98,101]) (leafS [2,0])) (nodeS (leafS [0]) (leafS [0])) = [182,79,0,168,112,244,243,82,166,87,160,70,230,42,70,147,161,56,61,154,66,245,27,147,150,39,125,160,0,127,31,124]:=nodeV (gnC0) (gnC1) (by decide +kernel)
theorem gnC5:nodeS (nodeS (leafS [0]) (leafS [0,0])) (nodeS (leafS [0,0,0]) (leafS [2,0])) = [61,188,37,240,46,83,250,156,148,215,32,106,192,242,66,51,240,233,62,90,236,106,112,36,82,248,165,27,185,208,211,42]:=nodeV (gnC2) (gnC3) (by decide +kernel)
theorem gnC6:nodeS (nodeS (nodeS (leafS [2,10,116,111,32,98,101]) (leafS [2,0])) (nodeS (leafS [0]) (leafS [0]))) (nodeS (nodeS (leafS [0]) (leafS [0,0])) (nodeS (leafS [0,0,0]) (leafS [2,0]))) = [87,88,40,225,107,207,196,38,61,10,33,79,30,124,109,124,220,103,169,15,91,32,254,125,139,13,94,204,226,91,176,220]:=nodeV (gnC4) (gnC5) (by decide +kernel)
theorem rootC:root8 valC = [87,88,40,225,107,207,196,38,61,10,33,79,30,124,109,124,220,103,169,15,91,32,254,125,139,13,94,204,226,91,176,220]:=gnC6
theorem zst:root8 valC ≠ root8 valA:=by rw [rootA,rootC]; decide
def d1:Dc:=exD [84,111,32,32,66,101] 5
def d2:Dc:=exD [116,111,32,32,98,101] 5
def d3:Dc:=exD [116,111,32,98,101] 0
def d4:Dc:=exD [116,111,32,98,101] 5
def mg1:Mig:=⟨1,1,2,false,[(1,[(1,0)])]⟩
def mg2:Mig:=⟨2,2,3,false,[(1,[(2,0)]),(2,[(6,0)])]⟩
theorem zhn (m:Mig) (d e:Dc):zdh m d e = (migOk m && (docOk d && (docOk e && (clOk (zbm m.keep) 1 && (zbm m.keep).all (chkAt (allB d) (allB e)))))):=by
 have h1:decide ((root8 (allB d)).length = 32) = true:=decide_eq_true (ze5 _)
 have h2:decide ((root8 (allB e)).length = 32) = true:=decide_eq_true (ze5 _)
 have h3:decide ((zbm m.keep).length = 8) = true:=decide_eq_true (zc8 _)
 have h4:decide ((allB d).length = 8) = true:=decide_eq_true (zc3 _)
 have h5:decide ((allB e).length = 8) = true:=decide_eq_true (zc3 _)
 have h6:crtOk (makeC m d e) = clOk (zbm m.keep) 1:=by
  show (decide ((root8 (allB d)).length = 32) && (decide ((root8 (allB e)).length = 32) && (decide (1 ≤ (1:Int)) && (decide ((1:Int) ≤ 64) && (decide ((zbm m.keep).length = 8) && clOk (zbm m.keep) 1))))) = _
  rw [h1,h2,h3]; rfl
 have h7:zce (makeC m d e) (allB d) (allB e) = (clOk (zbm m.keep) 1 && (zbm m.keep).all (chkAt (allB d) (allB e))):=by
  rw [zce,h6,h4,h5]
  show (_ && (true && (decide (root8 (allB d) = root8 (allB d)) && (decide (root8 (allB e) = root8 (allB e)) && (zbm m.keep).all (chkAt (allB d) (allB e)))))) = _
  rw [decide_eq_true rfl,decide_eq_true rfl]; simp
 rw [zdh,h7]
theorem mk1:zdh mg1 d1 d2 = true:=by rw [zhn]; decide +kernel
theorem mk2:zdh mg1 d1 d4 = false:=by rw [zhn]; decide +kernel
theorem mk3:zdh mg2 d2 d3 = true:=by rw [zhn]; decide +kernel
theorem all1:allB d1 = valA:=by decide +kernel
theorem all3:allB d3 = valC:=by decide +kernel
theorem doc1:docOk d1 = true:=by decide +kernel
theorem doc3:docOk d3 = true:=by decide +kernel
def cA:Crt:=makeC mg1 d1 d2
def cB:Crt:=makeC mg2 d2 d3
theorem zsh {m:Mig} {d e:Dc} (h:zdh m d e = true):crtOk (makeC m d e) = true:=by
 simp only [zdh,qd,zce] at h
 exact h.2.2.2.1
theorem okA:crtOk cA = true:=zsh mk1
theorem okB:crtOk cB = true:=zsh mk3
def cX:Crt:=⟨root8 (allB d1),root8 (allB d3),2,exCl⟩
theorem z7m:joinC cA cB = cX:=by
 have h:List.zipWith zfu (zbm mg1.keep) (zbm mg2.keep) = exCl:=by decide +kernel
 show Crt.mk (root8 (allB d1)) (root8 (allB d3)) 2 (List.zipWith zfu (zbm mg1.keep) (zbm mg2.keep)) = _
 rw [h]; rfl
theorem comp1:zcc [cA,cB] = some cX:=by
 have hj:zcw cA cB = true:=by
  have hb:crtOk cB = true:=zsh mk3
  have hd:decide (cA.dst = cB.src) = true:=decide_eq_true rfl
  rw [zcw,hd,hb]; rfl
 rw [zcc,if_pos okA,foldS,if_pos hj,foldS,z7m]
theorem comp2:zcc [cB,cA] = none:=by
 have hj:zcw cB cA = false:=by
  have hd:decide (cB.dst = cA.src) = false:=decide_eq_false (by
   show root8 (allB d3) ≠ root8 (allB d1)
   rw [all1,all3]; exact zst)
  rw [zcw,hd]; rfl
 rw [zcc,if_pos okB,foldS,if_neg (by rw [hj]; simp)]
theorem cX_ok:crtOk cX = true:=by
 show (decide ((root8 (allB d1)).length = 32) && (decide ((root8 (allB d3)).length = 32) && (decide (1 ≤ (2:Int)) && (decide ((2:Int) ≤ 64) && (decide (exCl.length = 8) && clOk exCl 1))))) = _
 rw [decide_eq_true (ze5 _),decide_eq_true (ze5 _)]; decide +kernel
theorem chk1:zce cX (allB d1) (allB d3) = true:=by
 have h:exCl.all (chkAt (allB d1) (allB d3)) = true:=by decide +kernel
 rw [zce,cX_ok,decide_eq_true (zc3 _),decide_eq_true (zc3 _)]
 show (true && ((true && true) && (decide (root8 (allB d1) = root8 (allB d1)) && (decide (root8 (allB d3) = root8 (allB d3)) && exCl.all (chkAt (allB d1) (allB d3)))))) = true
 rw [decide_eq_true rfl,decide_eq_true rfl,h]; rfl
theorem chk2:zce cX (allB d3) (allB d1) = false:=by
 have h:decide (root8 (allB d3) = root8 (allB d1)) = false:=decide_eq_false (by rw [all1,all3]; exact zst)
 rw [zce]
 show (_ && (_ && (decide (root8 (allB d3) = root8 (allB d1)) && _))) = false
 rw [h]; simp
theorem sameX:zm0 cX cX = true:=by simp [zm0]
theorem z7z:zm0 cA cB = false:=by
 have h:decide (zbm mg1.keep = zbm mg2.keep) = false:=by decide +kernel
 show (_ && (_ && (_ && decide (zbm mg1.keep = zbm mg2.keep)))) = false
 rw [h]; simp
theorem encX:encC cX = [64] ++ root8 valA ++ [64] ++ root8 valC ++ [4,4,2,0,4,0,2,12,0,0,0,0,0,0,0]:=by
 have h1:∀ s:List UInt8,s.length = 32 → (putSR s).1 = [64] ++ s:=fun s hs=>by
  have h3:putI ((32:Nat):Int) = [64]:=by decide +kernel
  rw [putSR,if_neg (by omega),hs]
  show putI ((32:Nat):Int) ++ s = _
  rw [h3]
 have h2:zae [(2:Int)] ++ (exCl.map zgc).flatten = [4,4,2,0,4,0,2,12,0,0,0,0,0,0,0]:=by decide +kernel
 show (putSR (root8 (allB d1))).1 ++ (putSR (root8 (allB d3))).1 ++ zae [(2:Int)] ++ (exCl.map zgc).flatten = _
 rw [qk _ (zae _),h2,h1 _ (ze5 _),h1 _ (ze5 _),all1,all3]
 simp only [qk]
theorem rd1:getS (encC cX) 0 = (root8 valA,33,0):=by rw [encX,rootA,rootC]; decide +kernel
theorem rd2:getS (encC cX) 33 = (root8 valC,66,0):=by rw [encX,rootA,rootC]; decide +kernel
theorem rd3:getI (encC cX) 66 = (2,67,0):=by rw [encX,rootA,rootC]; decide +kernel
theorem rd4:∀ k:Nat,k < 14 → getI (encC cX) (67 + (k:Int)) = (exV[k]?.getD 0,68 + (k:Int),0):=by rw [encX,rootA,rootC]; decide +kernel
theorem rdl:(encC cX).length = 81:=by rw [encX,rootA,rootC]; rfl
end Go.Proofs.YtfnkamphhpldcaaGreatDoor
namespace Sx
open Go
def LJ0 (st:St) (jl:List Nat) (F:Fz):St:=⟨[] :: junks jl :: st.t,[(0,.frz F)] :: st.h,st.nx,st.n0,st.nt,st.d⟩
theorem cutJ {P:Program} {c:Code} {st:St} {Q:SE → St → Prop} {X:Type} (F0:Fz) (upd:X → List (Nat × SV)) (jl:List Nat) (hup:X → List (Nat × Ent)) (N:Nat)
  (h0:WfH st.h st.nx → WfT st.t st.nx → Le st (LJ0 st jl F0))
  (h1:WfH st.h st.nx → WfT st.t st.nx → WP P c (LJ0 st jl F0) (fun e st'=>e = .normal ∧ ∃ x,Le st' (LI st upd jl hup N x)))
  (h2:∀ x,Q .normal (LI st upd jl hup N x)):WP P c st Q:=
 z8a (LJ0 st jl F0) (LI st upd jl hup N) (fun hH hT=>⟨h0 hH hT,h1 hH hT⟩) h2
end Sx
namespace Go.Proofs.YtfnkamphhpldcaaGreatDoor
open Go Sx
set_option maxRecDepth 100000
abbrev dS (b:Nat):List SA:=docS (.slice false 0 b 0 2 1 1) (.slice true 0 0 0 6 0 0) 0 []
abbrev LnAt (F:Fz) (b:Nat) (t:List UInt8) (m:Int):Prop:=F b = some (.arr 148 2 ([(t,m)].map encN) 1)
theorem z7k (F:Fz) (hM:MLF F) (hR:RNDF F) (sk:SA) (b1 b2:Nat) (hk:KpsAt F sk mg1.keep) (h1:LnAt F b1 [84,111,32,32,66,101] 5) (h2:LnAt F b2 [116,111,32,32,98,101] 5) :
  Fo Tryz.prog F 21 [.agg (migS mg1 sk),.agg (dS b1),.agg (dS b2)] (fun o F'=>∃ sc,o = .ret (.tup [.agg (crtS cA sc),.va (.int .i64 0)]) ∧ ClsAt F' sc cA.cl):=
 zb5 (zmt F hM hR sk _ _ _ _ mg1 d1 d2 hk (by intro x hx; simp [mg1] at hx; subst hx; decide) (by decide) (exAt h1) (exAt h2) (zek _ _) (zek _ _)) fun o F' h=>by
  rcases h with ⟨h,_⟩ | ⟨_,h⟩
  ·exact absurd (h.symm.trans mk1) (by simp)
  ·exact h
theorem z8h (F:Fz) (hM:MLF F) (hR:RNDF F) (sk:SA) (b1 b2:Nat) (hk:KpsAt F sk mg1.keep) (h1:LnAt F b1 [84,111,32,32,66,101] 5) (h2:LnAt F b2 [116,111,32,98,101] 5) :
  Fo Tryz.prog F 21 [.agg (migS mg1 sk),.agg (dS b1),.agg (dS b2)] (fun o F'=>o = .ret (.tup [.agg [.str [],.str [],.int .i64 0,.nilsl],.va (.int .i64 100)])):=
 zb5 (zmt F hM hR sk _ _ _ _ mg1 d1 d4 hk (by intro x hx; simp [mg1] at hx; subst hx; decide) (by decide) (exAt h1) (exAt h2) (zek _ _) (zek _ _)) fun o F' h=>by
  rcases h with ⟨_,h⟩ | ⟨h,_⟩
  ·exact h
  ·exact absurd (h.symm.trans mk2) (by simp)
theorem z7x (F:Fz) (hM:MLF F) (hR:RNDF F) (sk:SA) (b1 b2:Nat) (hk:KpsAt F sk mg2.keep) (h1:LnAt F b1 [116,111,32,32,98,101] 5) (h2:LnAt F b2 [116,111,32,98,101] 0) :
  Fo Tryz.prog F 21 [.agg (migS mg2 sk),.agg (dS b1),.agg (dS b2)] (fun o F'=>∃ sc,o = .ret (.tup [.agg (crtS cB sc),.va (.int .i64 0)]) ∧ ClsAt F' sc cB.cl):=
 zb5 (zmt F hM hR sk _ _ _ _ mg2 d2 d3 hk (by intro x hx; simp [mg2] at hx; rcases hx with rfl | rfl<;>decide) (by decide) (exAt h1) (exAt h2) (zek _ _) (zek _ _)) fun o F' h=>by
  rcases h with ⟨h,_⟩ | ⟨_,h⟩
  ·exact absurd (h.symm.trans mk3) (by simp)
  ·exact h
theorem sameT (F:Fz) (sa sb:SA) (a:List Stp) (ha:za3 F sa a) (hb:za3 F sb a) (la:a.length < 1000000):Fo Tryz.prog F 46 [.va sa,.va sb] (fun o F'=>o = .ret (.va (.lit true)) ∧ F' = F):=by
 have h1:=z2w F sa sb a a ha hb la
 rw [decide_eq_true rfl] at h1
 exact zg9 h1
abbrev zC:List SA:=[.str [],.str [],.int .i64 0,.nilsl]
abbrev zC':List SA:=[.str [],.str [],.int .i64 0,.slice true 0 0 0 2 0 0]
theorem zSwap (ρ:Rho) (vs:List Value) (h:relL ρ [.agg zC] vs):relL ρ [.agg zC'] vs:=by
 match vs,h with
 |[],h=>exact h.elim
 |[v],h=>exact h
 |_ :: _ :: _,h=>exact h
theorem z8p (n:Nat):∀ s ∈ [SV.agg zC'],s.below n:=fun s hs=>by
 simp only [qy] at hs
 subst hs
 intro a ha
 simp only [qj,qq,or_false] at ha
 rcases ha with rfl | rfl | rfl | rfl
 ·trivial
 ·trivial
 ·trivial
 ·exact .inl rfl
theorem zmu:short cA.cl:=zd9 (by intro x hx; simp [mg1] at hx; subst hx; decide)
theorem zrd:short cB.cl:=zd9 (by intro x hx; simp [mg2] at hx; rcases hx with rfl | rfl<;>decide)
theorem zhp:short cX.cl:=fun x hx=>by have:=zlp x hx; omega
theorem crts2 {F:Fz} {b:Nat} {c1 c2:Crt} {s1 s2:SA} (h1:ClsAt F s1 c1.cl) (h2:ClsAt F s2 c2.cl) (hb:F b = some (.arr 48 4 [crtS c1 s1,crtS c2 s2] 2)):zn7 F (.slice false 0 b 0 4 2 2) [c1,c2]:=
 SlR.new (l:=[c1,c2]) hb rfl fun k x hx=>by
  match k,hx with
  |0,hx=>cases hx; exact ⟨_,rfl,s1,rfl,h1⟩
  |1,hx=>cases hx; exact ⟨_,rfl,s2,rfl,h2⟩
  |k + 2,hx=>cases hx
theorem zhz {p:Crt → Prop} {c1 c2:Crt} (h1:p c1) (h2:p c2):∀ c ∈ [c1,c2],p c:=by
 intro c hc
 simp only [qj,qq,or_false] at hc
 rcases hc with rfl | rfl
 ·exact h1
 ·exact h2
theorem zt9:cA.cl.length < 1000000:=yg (qc7 (zc8 mg1.keep)) (by decide)
theorem z2g:cB.cl.length < 1000000:=yg (qc7 (zc8 mg2.keep)) (by decide)
theorem z5l (F:Fz) (b:Nat) (sa sb:SA) (hA:ClsAt F sa cA.cl) (hB:ClsAt F sb cB.cl) (hb:F b = some (.arr 48 4 [crtS cA sa,crtS cB sb] 2)) :
  Fo Tryz.prog F 30 [.va (.slice false 0 b 0 4 2 2)] (fun o F'=>∃ sk,o = .ret (.tup [.agg (crtS cX sk),.va (.int .i64 0)]) ∧ ClsAt F' sk cX.cl):=
 zb5 (zge F false b 0 2 [cA,cB] (crts2 hA hB hb) (qf 2) (zhz zmu zrd) (zhz zt9 z2g) (by show 2 < 1000000; decide)) fun o F' h=>by
  rcases h with ⟨h,_⟩ | ⟨c,h,h2⟩
  ·exact absurd (h.symm.trans comp1) (by simp)
  ·have h3:c = cX:=by have:=h.symm.trans comp1; exact Option.some.inj this
   subst h3; exact h2
theorem z5p (F:Fz) (b:Nat) (sa sb:SA) (hA:ClsAt F sa cA.cl) (hB:ClsAt F sb cB.cl) (hb:F b = some (.arr 48 4 [crtS cB sb,crtS cA sa] 2)) :
  Fo Tryz.prog F 30 [.va (.slice false 0 b 0 4 2 2)] (fun o F'=>o = .ret (.tup [.agg [.str [],.str [],.int .i64 0,.nilsl],.va (.int .i64 100)])):=
 zb5 (zge F false b 0 2 [cB,cA] (crts2 hB hA hb) (qf 2) (zhz zrd zmu) (zhz z2g zt9) (by show 2 < 1000000; decide)) fun o F' h=>by
  rcases h with ⟨_,h⟩ | ⟨c,h,_⟩
  ·exact h
  ·exact absurd (h.symm.trans comp2) (by simp)
theorem z4a (F:Fz):Fo Tryz.prog F 30 [.va (.slice true 0 0 0 4 0 0)] (fun o F'=>o = .ret (.tup [.agg [.str [],.str [],.int .i64 0,.nilsl],.va (.int .i64 100)])):=
 zb5 (zge F true 0 0 0 [] SlR.nil (by decide) (by simp) (by simp) (by decide)) fun o F' h=>by
  rcases h with ⟨_,h⟩ | ⟨c,h,_⟩
  ·exact h
  ·cases h
theorem zvo (F:Fz) (b:Nat) (t:List UInt8) (m:Int) (h:LnAt F b t m) (hd:docOk (exD t m) = true):Fo Tryz.prog F 14 [.agg (dS b)] (fun o F'=>∃ b c,o = .ret (.tup [.va (.slice false 0 b 0 1 8 c),.va (.int .i64 0)]) ∧ F' b = some (.arr 9 1 ((allB (exD t m)).map encS) c)):=
 zb5 (zqi F _ _ (exD t m) (exAt h) (zek _ _)) fun o F' h=>by
  rcases h with ⟨h,_⟩ | ⟨_,h⟩
  ·exact absurd (h.symm.trans hd) (by simp)
  ·exact h
end Go.Proofs.YtfnkamphhpldcaaGreatDoor
