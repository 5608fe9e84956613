import Derived.Test.YtfnkamphhpldcaaGreatDoorK09
import Derived.Test.YtfnkamphhpldcaaGreatDoorK11
import Derived.BigRegionIn
set_option maxHeartbeats 64000000
namespace Go.Proofs.YtfnkamphhpldcaaGreatDoor
open Go Go.RowKit Sx Tryz
set_option maxRecDepth 100000
def Cp(bs a b m cap:Nat)(W:World):Prop:=W.cell? ⟨bs,0,none⟩=some (.slice (some ⟨b,0,none⟩) (64*m) cap)/\W.cell? ⟨a,0,none⟩=some (.int .i64 64)
abbrev qM(a k:Nat):Array Value:=#[.slice (some ⟨a,64*k,none⟩) 64 64]
theorem En(F:Fence)(n:Nat)(hF:F.fn 229)(hro:F.round=none)(hn:1<=n)(bs bn gb m cap:Nat)(hm:m<=1000000000000000)(hc:64*m<=cap):
  SeqP F n prog 229 #[.pointer (some ⟨bs,0,none⟩),.pointer (some ⟨bn,0,none⟩)] (qM gb) m (Cp bs bn gb m cap):=by
 intro l J W hJ hY h0;refine callsIn_of_wp func229 rfl hF ?_ hro;simp only[Tryz.ntmps229,y9,qe,qu,Nat.reduceAdd,Nat.reduceSub,qac,qad,qal,qae,qv,yd]
 gi_wp2
 gi_loopw [4] (fun v wr=>∃k,k<=m/\v=.int .i64 ((64*k:Nat):Int)/\J k wr) (fun v _=>match v with | .int _ z=>64*m - z.toNat | _=>0)
 case atStart=>
  exact⟨0,by omega,rfl,h0⟩
 case round=>
  obtain⟨k,hk,rfl,hjk⟩:=hrel;obtain⟨⟨h1,h2⟩,hd⟩:=hJ k _ hjk;by_cases g:k < m
  ·gi_wp2
   gi_region
   all_goals
    obtain⟨fn,tmps,assign,body,hy,hR⟩:=hY k wr.drew g hd;have hmin:(if((64*m - 64*k:Nat):Int) < 64 then((64*m - 64*k:Nat):Int)else 64)=64:=if_neg oo;have hd1:=(hJ k _ hd).1.1;rw[hmin]
    gi_wp2
    refine hR.mono ?_;rintro e W3 ⟨rfl,hJ3⟩;obtain⟨⟨c1,c2⟩,c3⟩:=hJ _ _ hJ3
    gi_wp2
    exact⟨⟨k+1,by omega,by congr 1,hJ3⟩,by show 64*m - (64*(k:Int)+64).toNat < 64*m - ((64*k:Nat):Int).toNat;omega⟩
  ·have hkm:k=m:=by omega
   subst hkm
   gi_wp2
   exact bodyPost_end (results_none rfl _ _ _) rfl ⟨⟨_,rfl⟩,hjk⟩
