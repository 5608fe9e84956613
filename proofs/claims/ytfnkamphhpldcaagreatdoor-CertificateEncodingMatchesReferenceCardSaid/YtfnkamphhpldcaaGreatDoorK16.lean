import Derived.Test.YtfnkamphhpldcaaGreatDoorK15
import Derived.Test.YtfnkamphhpldcaaGreatDoorK09
set_option maxHeartbeats 64000000
namespace Go.Proofs.YtfnkamphhpldcaaGreatDoor
open Go Sx Tryz
set_option maxRecDepth 100000
def rnum(κ:Int)(s:List Int):Int:=if κ=3 then mx s else if κ=4 then mn s else 0
def rmost(κ:Int):Nat:=if κ=5 then 5 else 1
def dH(κ:Int)(s:List Int):List Stp:=List.replicate (min s.length (rmost κ)) (κ,rnum κ s)
def dG(l:List Stp):List (List Stp):=[dH 1 (sel 1 l),dH 2 (sel 2 l),dH 3 (sel 3 l),dH 4 (sel 4 l),dH 5 (sel 5 l)]
def jA(l:List Stp):List Stp:=if sel 6 l=[]then(dG l).flatten else [(6,0)]
variable {l:List Stp}
theorem jD{k:Nat}{out:List Stp}(p:List Stp)(h:out=((dG l).take k).flatten)(a:(dG l)[k]? =some p):out++p=((dG l).take (k+1)).flatten:=by
 have c:=(qg.1 a).1;have b:=(qg.1 a).2;rw[jC c,b,h]
theorem jI(κ:Int)(s:List Int):(dH κ s).length<=5:=by
 unfold dH rmost;rw[y5];split<;>omega
theorem Dl(l:List Stp)(k:Nat):((dG l).take k).flatten.length<=100:=by
 refine q8 (ij _ k) ?_;have h1:=jI 1 (sel 1 l);have a:=jI 2 (sel 2 l);have b:=jI 3 (sel 3 l);have c:=jI 4 (sel 4 l);have d:=jI 5 (sel 5 l);simp only[dG,jm,qaj,qb,qu];omega
theorem DC(F:Fz)(Z:SA)(l:List Stp)(p:Int)(ha:aW F Z l)(hl:l.length < 1000000):
  Fo prog F 64 [.va (.int .i64 p),.va Z] (fun o V=>∃sc,o=.ret (.tup [.va sc,.va (.int .i64 (if aN p l=true then 0 else 70))])/\aW V sc (if aN p l=true then jA l else [])):=by
 have hv:=zR F Z l p ha hl;have I:=fun κ=>AR F Z l κ ha hl
 have O:=fun κ=>nC κ l
 obtain⟨aj,ag,ai,ah,af,ak,rfl,ab,ac,ad,ae⟩:=ha;refine foS func64 ?_;refine usePs (hv) ?_;refine br (fun g=>?_) (fun g=>?_)
 ·have R:aN p l=false:=not_t g;exact endFo (.ret (.tup [.va (.slice true 0 0 0 2 0 0),.va (.int .i64 70)])) F rfl (Fz.r F) (Fz.r F) ⟨_,by rw[R];rfl,by rw[R];exact Sl.nil⟩ ⟨⟨rfl,rfl,rfl⟩,rfl,tv⟩ rfl
 ·have R:aN p l=true:=by simpa using g
  refine usePs (I 6) ?_;refine br (fun g=>?_) (fun g=>?_)
  ·have g6:¬sel 6 l=[]:=by intro h;rw[h]at g;simp at g
   refine dZ 1 (fun _=>.arr 56 2 [enc (6,0)] 1) ?_;intro b V W hb;refine endFo (.ret (.tup [.va (.slice false 0 (b 0) 0 2 1 1),.va (.int .i64 0)])) V rfl W (Fz.r V) ⟨_,by rw[R];rfl,?_⟩ ⟨⟨rfl,rfl,rfl,.inr ⟨rfl,rfl,rfl,rfl⟩⟩,rfl,tv⟩ rfl;rw[R,if_pos rfl,jA,if_neg g6];exact Sl.new (l:=[(6,0)]) (hb 0 rfl)
  ·have g6:sel 6 l=[]:=by
    have:¬(0:Int) < (sel 6 l).length:=by simpa using g
    exact y6.1 oo
   conv=>whnf
   refine aH hΘ (X:={ x:Nat×List Stp×Nat // x.1<=5/\x.2.1=((dG l).take x.1).flatten }) (fun x=>[(10,.va (oA 2 x.1.2.2 x.1.2.1)),(36,.va (.int .i64 x.1.1))]) (jr 12 7 (jr 37 38 []))
    (fun x=>[(0,.frz F),(2,oE x.1.2.2 x.1.2.1)]) 3 (fun x=>5 - x.1.1) ⟨(0,[],0),by simp⟩
    (fun n s=>leI [(2,2)] n s rfl ⟨tv,bD _ _ _,tv⟩ ⟨rfl,rfl,tv⟩ ⟨Fz.r F,rfl,tv⟩) ?_
   rintro⟨⟨k,out,co⟩,hk,B⟩ n s;replace hk:k<=5:=hk;replace B:out=((dG l).take k).flatten:=B;refine br (fun w=>?_) (fun w=>?_)
   ·have gk:k < 5:=by have G:(k:Int) < 5:=(by simpa using w);omega
    clear w;have al:out.length<=100:=by rw[B];exact Dl _ _
    have aa:k=0\/k=1\/k=2\/k=3\/k=4:=by omega
    rcases aa with rfl | rfl | rfl | rfl | rfl
    ·have Y:=O 1;have a:=jD _ B rfl;refine⟨rfl,⟨by simp,by simp⟩,[.int .i64 1],rfl,?_⟩;refine usePs (I 1) ?_;refine brd ss ?_;refine brd ss ?_;refine brd ss ?_;conv=>whnf
     have M:dH 1 (sel 1 l)=List.replicate (min (sel 1 l).length 1) (1,0):=rfl;rw[M]at a
     refine aH hΘ (X:={ q:Nat×List Stp×Nat // q.1<=min (sel 1 l).length 1/\q.2.1=out++List.replicate q.1 (1,0) }) (fun x=>[(10,.va (oA 4 x.1.2.2 x.1.2.1)),(18,.va (.int .i64 x.1.1))]) (jr 60 14 [])
      (fun x=>[(0,.frz F),(2,.gone),(4,oE x.1.2.2 x.1.2.1)]) 5 (fun x=>min (sel 1 l).length 1 - x.1.1) ⟨(0,out,co),by simp⟩ ?_ ?_
     ·intro n s;rcases out with _ | ⟨U,e⟩
      ·exact leI [(4,2)] n s rfl ⟨tv,tv,bD _ _ _,tv⟩ ⟨rfl,rfl,tv⟩ ⟨Fz.r F,bE (bW _ _),tv⟩
      ·exact leI [(4,2)] n s rfl ⟨tv,tv,bD _ _ _,tv⟩ ⟨⟨rfl,rfl,rfl,.inr ⟨rfl,rfl,rfl,rfl⟩⟩,rfl,tv⟩ ⟨Fz.r F,bE (bW _ _),tv⟩
     rintro⟨⟨j,oi,D⟩,Q,c⟩ y A;replace Q:j<=min (sel 1 l).length 1:=Q;replace c:oi=out++List.replicate j (1,0):=c;have m:oi.length<=200:=by rw[c,qb,y5];omega
     have f:oi++[(1,0)]=out++List.replicate (j+1) (1,0):=by rw[qa1,<-qj,c]
     refine⟨fun E=>?_,fun E=>?_⟩
     ·have J:j < (sel 1 l).length:=by have G:(j:Int) < (sel 1 l).length:=(by simpa using E);omega
      clear E;refine br (fun w=>?_) (fun w=>?_)
      ·have K:j < 1:=by have G:(j:Int) < 1:=(by simpa using w);omega
       clear w;rcases oi with _ | ⟨u,e⟩
       ·refine⟨qi 1,[enc (1,0)],rfl,rfl,rfl,by show 1*16<=140737488355328;omega,fun c' S=>?_⟩;exact⟨⟨(j+1,[]++[(1,0)],c'),by show j+1<=min (sel 1 l).length 1;omega,f⟩,by show min (sel 1 l).length 1 - (j+1) < min (sel 1 l).length 1 - j;omega,leR [(4,6)] y A rfl ⟨tv,tv,bD _ _ _,tv⟩ ⟨(eq (μ:=sig [(4,6)]) (i:=4) (j:=6) rfl c' _ ([]) (1,0) rfl),cnt oo,tv⟩ ⟨Fz.r F,bE (eB [enc (1,0)] rfl),tv⟩⟩
       ·replace m:e.length+1<=200:=m;refine⟨qi 1,[enc (1,0)],rfl,rfl,rfl,by simp,rfl,by show(e.length+1+1)*16<=140737488355328;omega,fun c' S=>?_⟩;exact⟨⟨(j+1,u::e++[(1,0)],c'),by show j+1<=min (sel 1 l).length 1;omega,f⟩,by show min (sel 1 l).length 1 - (j+1) < min (sel 1 l).length 1 - j;omega,leR [(4,6)] y A rfl ⟨tv,tv,bD _ _ _,tv⟩ ⟨(eq (μ:=sig [(4,6)]) (i:=4) (j:=6) rfl c' _ (u::e) (1,0) rfl),cnt oo,tv⟩ ⟨Fz.r F,bE (eB _ ss),tv⟩⟩
      ·have K:¬j < 1:=by have G:¬(j:Int) < 1:=(by simpa using w);omega
       have L:j=min (sel 1 l).length 1:=by omega
       have d:oi=((dG l).take 1).flatten:=by rw[c,<-a,L]
       rcases oi with _ | ⟨u,e⟩
       ·exact⟨⟨(1,[],D),by simp,d⟩,by show 5 - 1 < 5 - 0;omega,leRn [_,_,_] [_,_] [(2,4)] n s rfl ⟨tv,bD _ _ _,tv⟩ ⟨rfl,rfl,tv⟩ ⟨Fz.r F,bE (bW _ _),tv⟩⟩
       ·exact⟨⟨(1,u::e,D),by simp,d⟩,by show 5 - 1 < 5 - 0;omega,leRn [_,_,_] [_,_] [(2,4)] n s rfl ⟨tv,bD _ _ _,tv⟩ ⟨⟨rfl,rfl,rfl,.inr ⟨rfl,rfl,rfl,rfl⟩⟩,rfl,tv⟩ ⟨Fz.r F,bE (bW _ _),tv⟩⟩
     ·have J:¬j < (sel 1 l).length:=by have G:¬(j:Int) < (sel 1 l).length:=(by simpa using E);omega
      have L:j=min (sel 1 l).length 1:=by omega
      have d:oi=((dG l).take 1).flatten:=by rw[c,<-a,L]
      rcases oi with _ | ⟨u,e⟩
      ·exact⟨⟨(1,[],D),by simp,d⟩,by show 5 - 1 < 5 - 0;omega,leRn [_,_,_] [_,_] [(2,4)] n s rfl ⟨tv,bD _ _ _,tv⟩ ⟨rfl,rfl,tv⟩ ⟨Fz.r F,bE (bW _ _),tv⟩⟩
      ·exact⟨⟨(1,u::e,D),by simp,d⟩,by show 5 - 1 < 5 - 0;omega,leRn [_,_,_] [_,_] [(2,4)] n s rfl ⟨tv,bD _ _ _,tv⟩ ⟨⟨rfl,rfl,rfl,.inr ⟨rfl,rfl,rfl,rfl⟩⟩,rfl,tv⟩ ⟨Fz.r F,bE (bW _ _),tv⟩⟩
    ·have Y:=O 2;have a:=jD _ B rfl;refine⟨rfl,⟨by simp,by simp⟩,[.int .i64 2],rfl,?_⟩;refine usePs (I 2) ?_;refine brd ss ?_;refine brd ss ?_;refine brd ss ?_;conv=>whnf
     have M:dH 2 (sel 2 l)=List.replicate (min (sel 2 l).length 1) (2,0):=rfl;rw[M]at a
     refine aH hΘ (X:={ q:Nat×List Stp×Nat // q.1<=min (sel 2 l).length 1/\q.2.1=out++List.replicate q.1 (2,0) }) (fun x=>[(10,.va (oA 4 x.1.2.2 x.1.2.1)),(18,.va (.int .i64 x.1.1))]) (jr 60 14 [])
      (fun x=>[(0,.frz F),(2,.gone),(4,oE x.1.2.2 x.1.2.1)]) 5 (fun x=>min (sel 2 l).length 1 - x.1.1) ⟨(0,out,co),by simp⟩ ?_ ?_
     ·intro n s;rcases out with _ | ⟨U,e⟩
      ·exact leI [(4,2)] n s rfl ⟨tv,tv,bD _ _ _,tv⟩ ⟨rfl,rfl,tv⟩ ⟨Fz.r F,bE (bW _ _),tv⟩
      ·exact leI [(4,2)] n s rfl ⟨tv,tv,bD _ _ _,tv⟩ ⟨⟨rfl,rfl,rfl,.inr ⟨rfl,rfl,rfl,rfl⟩⟩,rfl,tv⟩ ⟨Fz.r F,bE (bW _ _),tv⟩
     rintro⟨⟨j,oi,D⟩,Q,c⟩ y A;replace Q:j<=min (sel 2 l).length 1:=Q;replace c:oi=out++List.replicate j (2,0):=c;have m:oi.length<=200:=by rw[c,qb,y5];omega
     have f:oi++[(2,0)]=out++List.replicate (j+1) (2,0):=by rw[qa1,<-qj,c]
     refine⟨fun E=>?_,fun E=>?_⟩
     ·have J:j < (sel 2 l).length:=by have G:(j:Int) < (sel 2 l).length:=(by simpa using E);omega
      clear E;refine br (fun w=>?_) (fun w=>?_)
      ·have K:j < 1:=by have G:(j:Int) < 1:=(by simpa using w);omega
       clear w;rcases oi with _ | ⟨u,e⟩
       ·refine⟨qi 1,[enc (2,0)],rfl,rfl,rfl,by show 1*16<=140737488355328;omega,fun c' S=>?_⟩;exact⟨⟨(j+1,[]++[(2,0)],c'),by show j+1<=min (sel 2 l).length 1;omega,f⟩,by show min (sel 2 l).length 1 - (j+1) < min (sel 2 l).length 1 - j;omega,leR [(4,6)] y A rfl ⟨tv,tv,bD _ _ _,tv⟩ ⟨(eq (μ:=sig [(4,6)]) (i:=4) (j:=6) rfl c' _ ([]) (2,0) rfl),cnt oo,tv⟩ ⟨Fz.r F,bE (eB [enc (2,0)] rfl),tv⟩⟩
       ·replace m:e.length+1<=200:=m;refine⟨qi 1,[enc (2,0)],rfl,rfl,rfl,by simp,rfl,by show(e.length+1+1)*16<=140737488355328;omega,fun c' S=>?_⟩;exact⟨⟨(j+1,u::e++[(2,0)],c'),by show j+1<=min (sel 2 l).length 1;omega,f⟩,by show min (sel 2 l).length 1 - (j+1) < min (sel 2 l).length 1 - j;omega,leR [(4,6)] y A rfl ⟨tv,tv,bD _ _ _,tv⟩ ⟨(eq (μ:=sig [(4,6)]) (i:=4) (j:=6) rfl c' _ (u::e) (2,0) rfl),cnt oo,tv⟩ ⟨Fz.r F,bE (eB _ ss),tv⟩⟩
      ·have K:¬j < 1:=by have G:¬(j:Int) < 1:=(by simpa using w);omega
       have L:j=min (sel 2 l).length 1:=by omega
       have d:oi=((dG l).take 2).flatten:=by rw[c,<-a,L]
       rcases oi with _ | ⟨u,e⟩
       ·exact⟨⟨(2,[],D),by simp,d⟩,by show 5 - 2 < 5 - 1;omega,leRn [_,_,_] [_,_] [(2,4)] n s rfl ⟨tv,bD _ _ _,tv⟩ ⟨rfl,rfl,tv⟩ ⟨Fz.r F,bE (bW _ _),tv⟩⟩
       ·exact⟨⟨(2,u::e,D),by simp,d⟩,by show 5 - 2 < 5 - 1;omega,leRn [_,_,_] [_,_] [(2,4)] n s rfl ⟨tv,bD _ _ _,tv⟩ ⟨⟨rfl,rfl,rfl,.inr ⟨rfl,rfl,rfl,rfl⟩⟩,rfl,tv⟩ ⟨Fz.r F,bE (bW _ _),tv⟩⟩
     ·have J:¬j < (sel 2 l).length:=by have G:¬(j:Int) < (sel 2 l).length:=(by simpa using E);omega
      have L:j=min (sel 2 l).length 1:=by omega
      have d:oi=((dG l).take 2).flatten:=by rw[c,<-a,L]
      rcases oi with _ | ⟨u,e⟩
      ·exact⟨⟨(2,[],D),by simp,d⟩,by show 5 - 2 < 5 - 1;omega,leRn [_,_,_] [_,_] [(2,4)] n s rfl ⟨tv,bD _ _ _,tv⟩ ⟨rfl,rfl,tv⟩ ⟨Fz.r F,bE (bW _ _),tv⟩⟩
      ·exact⟨⟨(2,u::e,D),by simp,d⟩,by show 5 - 2 < 5 - 1;omega,leRn [_,_,_] [_,_] [(2,4)] n s rfl ⟨tv,bD _ _ _,tv⟩ ⟨⟨rfl,rfl,rfl,.inr ⟨rfl,rfl,rfl,rfl⟩⟩,rfl,tv⟩ ⟨Fz.r F,bE (bW _ _),tv⟩⟩
    ·have Y:=O 3;have a:=jD _ B rfl;refine⟨rfl,⟨by simp,by simp⟩,[.int .i64 3],rfl,?_⟩;refine usePs (I 3) ?_;refine bre ss ?_;conv=>whnf
     conv=>whnf
     conv=>whnf
     have M:dH 3 (sel 3 l)=List.replicate (min (sel 3 l).length 1) (3,mx (sel 3 l)):=rfl;rw[M]at a
     refine aH hΘ (X:={ q:Nat×List Stp×Nat // q.1<=min (sel 3 l).length 1/\q.2.1=out++List.replicate q.1 (3,mx (sel 3 l)) }) (fun x=>[(10,.va (oA 4 x.1.2.2 x.1.2.1)),(18,.va (.int .i64 x.1.1))]) (jr 60 14 [])
      (fun x=>[(0,.frz F),(2,.gone),(4,oE x.1.2.2 x.1.2.1)]) 5 (fun x=>min (sel 3 l).length 1 - x.1.1) ⟨(0,out,co),by simp⟩ ?_ ?_
     ·intro n s;rcases out with _ | ⟨U,e⟩
      ·exact leI [(4,2)] n s rfl ⟨tv,tv,bD _ _ _,tv⟩ ⟨rfl,rfl,tv⟩ ⟨Fz.r F,bE (bW _ _),tv⟩
      ·exact leI [(4,2)] n s rfl ⟨tv,tv,bD _ _ _,tv⟩ ⟨⟨rfl,rfl,rfl,.inr ⟨rfl,rfl,rfl,rfl⟩⟩,rfl,tv⟩ ⟨Fz.r F,bE (bW _ _),tv⟩
     rintro⟨⟨j,oi,D⟩,Q,c⟩ y A;replace Q:j<=min (sel 3 l).length 1:=Q;replace c:oi=out++List.replicate j (3,mx (sel 3 l)):=c;have m:oi.length<=200:=by rw[c,qb,y5];omega
     have f:oi++[(3,mx (sel 3 l))]=out++List.replicate (j+1) (3,mx (sel 3 l)):=by rw[qa1,<-qj,c]
     refine⟨fun E=>?_,fun E=>?_⟩
     ·have J:j < (sel 3 l).length:=by have G:(j:Int) < (sel 3 l).length:=(by simpa using E);omega
      clear E;refine br (fun w=>?_) (fun w=>?_)
      ·have K:j < 1:=by have G:(j:Int) < 1:=(by simpa using w);omega
       clear w;rcases oi with _ | ⟨u,e⟩
       ·refine⟨qi 1,[enc (3,mx (sel 3 l))],rfl,rfl,rfl,by show 1*16<=140737488355328;omega,fun c' S=>?_⟩;exact⟨⟨(j+1,[]++[(3,mx (sel 3 l))],c'),by show j+1<=min (sel 3 l).length 1;omega,f⟩,by show min (sel 3 l).length 1 - (j+1) < min (sel 3 l).length 1 - j;omega,leR [(4,6)] y A rfl ⟨tv,tv,bD _ _ _,tv⟩ ⟨(eq (μ:=sig [(4,6)]) (i:=4) (j:=6) rfl c' _ ([]) (3,mx (sel 3 l)) rfl),cnt oo,tv⟩ ⟨Fz.r F,bE (eB [enc (3,mx (sel 3 l))] rfl),tv⟩⟩
       ·replace m:e.length+1<=200:=m;refine⟨qi 1,[enc (3,mx (sel 3 l))],rfl,rfl,rfl,by simp,rfl,by show(e.length+1+1)*16<=140737488355328;omega,fun c' S=>?_⟩;exact⟨⟨(j+1,u::e++[(3,mx (sel 3 l))],c'),by show j+1<=min (sel 3 l).length 1;omega,f⟩,by show min (sel 3 l).length 1 - (j+1) < min (sel 3 l).length 1 - j;omega,leR [(4,6)] y A rfl ⟨tv,tv,bD _ _ _,tv⟩ ⟨(eq (μ:=sig [(4,6)]) (i:=4) (j:=6) rfl c' _ (u::e) (3,mx (sel 3 l)) rfl),cnt oo,tv⟩ ⟨Fz.r F,bE (eB _ ss),tv⟩⟩
      ·have K:¬j < 1:=by have G:¬(j:Int) < 1:=(by simpa using w);omega
       have L:j=min (sel 3 l).length 1:=by omega
       have d:oi=((dG l).take 3).flatten:=by rw[c,<-a,L]
       rcases oi with _ | ⟨u,e⟩
       ·exact⟨⟨(3,[],D),by simp,d⟩,by show 5 - 3 < 5 - 2;omega,leRn [_,_,_] [_,_] [(2,4)] n s rfl ⟨tv,bD _ _ _,tv⟩ ⟨rfl,rfl,tv⟩ ⟨Fz.r F,bE (bW _ _),tv⟩⟩
       ·exact⟨⟨(3,u::e,D),by simp,d⟩,by show 5 - 3 < 5 - 2;omega,leRn [_,_,_] [_,_] [(2,4)] n s rfl ⟨tv,bD _ _ _,tv⟩ ⟨⟨rfl,rfl,rfl,.inr ⟨rfl,rfl,rfl,rfl⟩⟩,rfl,tv⟩ ⟨Fz.r F,bE (bW _ _),tv⟩⟩
     ·have J:¬j < (sel 3 l).length:=by have G:¬(j:Int) < (sel 3 l).length:=(by simpa using E);omega
      have L:j=min (sel 3 l).length 1:=by omega
      have d:oi=((dG l).take 3).flatten:=by rw[c,<-a,L]
      rcases oi with _ | ⟨u,e⟩
      ·exact⟨⟨(3,[],D),by simp,d⟩,by show 5 - 3 < 5 - 2;omega,leRn [_,_,_] [_,_] [(2,4)] n s rfl ⟨tv,bD _ _ _,tv⟩ ⟨rfl,rfl,tv⟩ ⟨Fz.r F,bE (bW _ _),tv⟩⟩
      ·exact⟨⟨(3,u::e,D),by simp,d⟩,by show 5 - 3 < 5 - 2;omega,leRn [_,_,_] [_,_] [(2,4)] n s rfl ⟨tv,bD _ _ _,tv⟩ ⟨⟨rfl,rfl,rfl,.inr ⟨rfl,rfl,rfl,rfl⟩⟩,rfl,tv⟩ ⟨Fz.r F,bE (bW _ _),tv⟩⟩
    ·have Y:=O 4;have a:=jD _ B rfl;refine⟨rfl,⟨by simp,by simp⟩,[.int .i64 4],rfl,?_⟩;refine usePs (I 4) ?_;refine brd ss ?_;refine bre ss ?_;conv=>whnf
     conv=>whnf
     have M:dH 4 (sel 4 l)=List.replicate (min (sel 4 l).length 1) (4,mn (sel 4 l)):=rfl;rw[M]at a
     refine aH hΘ (X:={ q:Nat×List Stp×Nat // q.1<=min (sel 4 l).length 1/\q.2.1=out++List.replicate q.1 (4,mn (sel 4 l)) }) (fun x=>[(10,.va (oA 4 x.1.2.2 x.1.2.1)),(18,.va (.int .i64 x.1.1))]) (jr 60 14 [])
      (fun x=>[(0,.frz F),(2,.gone),(4,oE x.1.2.2 x.1.2.1)]) 5 (fun x=>min (sel 4 l).length 1 - x.1.1) ⟨(0,out,co),by simp⟩ ?_ ?_
     ·intro n s;rcases out with _ | ⟨U,e⟩
      ·exact leI [(4,2)] n s rfl ⟨tv,tv,bD _ _ _,tv⟩ ⟨rfl,rfl,tv⟩ ⟨Fz.r F,bE (bW _ _),tv⟩
      ·exact leI [(4,2)] n s rfl ⟨tv,tv,bD _ _ _,tv⟩ ⟨⟨rfl,rfl,rfl,.inr ⟨rfl,rfl,rfl,rfl⟩⟩,rfl,tv⟩ ⟨Fz.r F,bE (bW _ _),tv⟩
     rintro⟨⟨j,oi,D⟩,Q,c⟩ y A;replace Q:j<=min (sel 4 l).length 1:=Q;replace c:oi=out++List.replicate j (4,mn (sel 4 l)):=c;have m:oi.length<=200:=by rw[c,qb,y5];omega
     have f:oi++[(4,mn (sel 4 l))]=out++List.replicate (j+1) (4,mn (sel 4 l)):=by rw[qa1,<-qj,c]
     refine⟨fun E=>?_,fun E=>?_⟩
     ·have J:j < (sel 4 l).length:=by have G:(j:Int) < (sel 4 l).length:=(by simpa using E);omega
      clear E;refine br (fun w=>?_) (fun w=>?_)
      ·have K:j < 1:=by have G:(j:Int) < 1:=(by simpa using w);omega
       clear w;rcases oi with _ | ⟨u,e⟩
       ·refine⟨qi 1,[enc (4,mn (sel 4 l))],rfl,rfl,rfl,by show 1*16<=140737488355328;omega,fun c' S=>?_⟩;exact⟨⟨(j+1,[]++[(4,mn (sel 4 l))],c'),by show j+1<=min (sel 4 l).length 1;omega,f⟩,by show min (sel 4 l).length 1 - (j+1) < min (sel 4 l).length 1 - j;omega,leR [(4,6)] y A rfl ⟨tv,tv,bD _ _ _,tv⟩ ⟨(eq (μ:=sig [(4,6)]) (i:=4) (j:=6) rfl c' _ ([]) (4,mn (sel 4 l)) rfl),cnt oo,tv⟩ ⟨Fz.r F,bE (eB [enc (4,mn (sel 4 l))] rfl),tv⟩⟩
       ·replace m:e.length+1<=200:=m;refine⟨qi 1,[enc (4,mn (sel 4 l))],rfl,rfl,rfl,by simp,rfl,by show(e.length+1+1)*16<=140737488355328;omega,fun c' S=>?_⟩;exact⟨⟨(j+1,u::e++[(4,mn (sel 4 l))],c'),by show j+1<=min (sel 4 l).length 1;omega,f⟩,by show min (sel 4 l).length 1 - (j+1) < min (sel 4 l).length 1 - j;omega,leR [(4,6)] y A rfl ⟨tv,tv,bD _ _ _,tv⟩ ⟨(eq (μ:=sig [(4,6)]) (i:=4) (j:=6) rfl c' _ (u::e) (4,mn (sel 4 l)) rfl),cnt oo,tv⟩ ⟨Fz.r F,bE (eB _ ss),tv⟩⟩
      ·have K:¬j < 1:=by have G:¬(j:Int) < 1:=(by simpa using w);omega
       have L:j=min (sel 4 l).length 1:=by omega
       have d:oi=((dG l).take 4).flatten:=by rw[c,<-a,L]
       rcases oi with _ | ⟨u,e⟩
       ·exact⟨⟨(4,[],D),by simp,d⟩,by show 5 - 4 < 5 - 3;omega,leRn [_,_,_] [_,_] [(2,4)] n s rfl ⟨tv,bD _ _ _,tv⟩ ⟨rfl,rfl,tv⟩ ⟨Fz.r F,bE (bW _ _),tv⟩⟩
       ·exact⟨⟨(4,u::e,D),by simp,d⟩,by show 5 - 4 < 5 - 3;omega,leRn [_,_,_] [_,_] [(2,4)] n s rfl ⟨tv,bD _ _ _,tv⟩ ⟨⟨rfl,rfl,rfl,.inr ⟨rfl,rfl,rfl,rfl⟩⟩,rfl,tv⟩ ⟨Fz.r F,bE (bW _ _),tv⟩⟩
     ·have J:¬j < (sel 4 l).length:=by have G:¬(j:Int) < (sel 4 l).length:=(by simpa using E);omega
      have L:j=min (sel 4 l).length 1:=by omega
      have d:oi=((dG l).take 4).flatten:=by rw[c,<-a,L]
      rcases oi with _ | ⟨u,e⟩
      ·exact⟨⟨(4,[],D),by simp,d⟩,by show 5 - 4 < 5 - 3;omega,leRn [_,_,_] [_,_] [(2,4)] n s rfl ⟨tv,bD _ _ _,tv⟩ ⟨rfl,rfl,tv⟩ ⟨Fz.r F,bE (bW _ _),tv⟩⟩
      ·exact⟨⟨(4,u::e,D),by simp,d⟩,by show 5 - 4 < 5 - 3;omega,leRn [_,_,_] [_,_] [(2,4)] n s rfl ⟨tv,bD _ _ _,tv⟩ ⟨⟨rfl,rfl,rfl,.inr ⟨rfl,rfl,rfl,rfl⟩⟩,rfl,tv⟩ ⟨Fz.r F,bE (bW _ _),tv⟩⟩
    ·have Y:=O 5;have a:=jD _ B rfl;refine⟨rfl,⟨by simp,by simp⟩,[.int .i64 5],rfl,?_⟩;refine usePs (I 5) ?_;refine brd ss ?_;refine brd ss ?_;refine bre ss ?_;conv=>whnf
     have M:dH 5 (sel 5 l)=List.replicate (min (sel 5 l).length 5) (5,0):=rfl;rw[M]at a
     refine aH hΘ (X:={ q:Nat×List Stp×Nat // q.1<=min (sel 5 l).length 5/\q.2.1=out++List.replicate q.1 (5,0) }) (fun x=>[(10,.va (oA 4 x.1.2.2 x.1.2.1)),(18,.va (.int .i64 x.1.1))]) (jr 60 14 [])
      (fun x=>[(0,.frz F),(2,.gone),(4,oE x.1.2.2 x.1.2.1)]) 5 (fun x=>min (sel 5 l).length 5 - x.1.1) ⟨(0,out,co),by simp⟩ ?_ ?_
     ·intro n s;rcases out with _ | ⟨U,e⟩
      ·exact leI [(4,2)] n s rfl ⟨tv,tv,bD _ _ _,tv⟩ ⟨rfl,rfl,tv⟩ ⟨Fz.r F,bE (bW _ _),tv⟩
      ·exact leI [(4,2)] n s rfl ⟨tv,tv,bD _ _ _,tv⟩ ⟨⟨rfl,rfl,rfl,.inr ⟨rfl,rfl,rfl,rfl⟩⟩,rfl,tv⟩ ⟨Fz.r F,bE (bW _ _),tv⟩
     rintro⟨⟨j,oi,D⟩,Q,c⟩ y A;replace Q:j<=min (sel 5 l).length 5:=Q;replace c:oi=out++List.replicate j (5,0):=c;have m:oi.length<=200:=by rw[c,qb,y5];omega
     have f:oi++[(5,0)]=out++List.replicate (j+1) (5,0):=by rw[qa1,<-qj,c]
     refine⟨fun E=>?_,fun E=>?_⟩
     ·have J:j < (sel 5 l).length:=by have G:(j:Int) < (sel 5 l).length:=(by simpa using E);omega
      clear E;refine br (fun w=>?_) (fun w=>?_)
      ·have K:j < 5:=by have G:(j:Int) < 5:=(by simpa using w);omega
       clear w;rcases oi with _ | ⟨u,e⟩
       ·refine⟨qi 1,[enc (5,0)],rfl,rfl,rfl,by show 1*16<=140737488355328;omega,fun c' S=>?_⟩;exact⟨⟨(j+1,[]++[(5,0)],c'),by show j+1<=min (sel 5 l).length 5;omega,f⟩,by show min (sel 5 l).length 5 - (j+1) < min (sel 5 l).length 5 - j;omega,leR [(4,6)] y A rfl ⟨tv,tv,bD _ _ _,tv⟩ ⟨(eq (μ:=sig [(4,6)]) (i:=4) (j:=6) rfl c' _ ([]) (5,0) rfl),cnt oo,tv⟩ ⟨Fz.r F,bE (eB [enc (5,0)] rfl),tv⟩⟩
       ·replace m:e.length+1<=200:=m;refine⟨qi 1,[enc (5,0)],rfl,rfl,rfl,by simp,rfl,by show(e.length+1+1)*16<=140737488355328;omega,fun c' S=>?_⟩;exact⟨⟨(j+1,u::e++[(5,0)],c'),by show j+1<=min (sel 5 l).length 5;omega,f⟩,by show min (sel 5 l).length 5 - (j+1) < min (sel 5 l).length 5 - j;omega,leR [(4,6)] y A rfl ⟨tv,tv,bD _ _ _,tv⟩ ⟨(eq (μ:=sig [(4,6)]) (i:=4) (j:=6) rfl c' _ (u::e) (5,0) rfl),cnt oo,tv⟩ ⟨Fz.r F,bE (eB _ ss),tv⟩⟩
      ·have K:¬j < 5:=by have G:¬(j:Int) < 5:=(by simpa using w);omega
       have L:j=min (sel 5 l).length 5:=by omega
       have d:oi=((dG l).take 5).flatten:=by rw[c,<-a,L]
       rcases oi with _ | ⟨u,e⟩
       ·exact⟨⟨(5,[],D),by simp,d⟩,by show 5 - 5 < 5 - 4;omega,leRn [_,_,_] [_,_] [(2,4)] n s rfl ⟨tv,bD _ _ _,tv⟩ ⟨rfl,rfl,tv⟩ ⟨Fz.r F,bE (bW _ _),tv⟩⟩
       ·exact⟨⟨(5,u::e,D),by simp,d⟩,by show 5 - 5 < 5 - 4;omega,leRn [_,_,_] [_,_] [(2,4)] n s rfl ⟨tv,bD _ _ _,tv⟩ ⟨⟨rfl,rfl,rfl,.inr ⟨rfl,rfl,rfl,rfl⟩⟩,rfl,tv⟩ ⟨Fz.r F,bE (bW _ _),tv⟩⟩
     ·have J:¬j < (sel 5 l).length:=by have G:¬(j:Int) < (sel 5 l).length:=(by simpa using E);omega
      have L:j=min (sel 5 l).length 5:=by omega
      have d:oi=((dG l).take 5).flatten:=by rw[c,<-a,L]
      rcases oi with _ | ⟨u,e⟩
      ·exact⟨⟨(5,[],D),by simp,d⟩,by show 5 - 5 < 5 - 4;omega,leRn [_,_,_] [_,_] [(2,4)] n s rfl ⟨tv,bD _ _ _,tv⟩ ⟨rfl,rfl,tv⟩ ⟨Fz.r F,bE (bW _ _),tv⟩⟩
      ·exact⟨⟨(5,u::e,D),by simp,d⟩,by show 5 - 5 < 5 - 4;omega,leRn [_,_,_] [_,_] [(2,4)] n s rfl ⟨tv,bD _ _ _,tv⟩ ⟨⟨rfl,rfl,rfl,.inr ⟨rfl,rfl,rfl,rfl⟩⟩,rfl,tv⟩ ⟨Fz.r F,bE (bW _ _),tv⟩⟩
   ·have gk:k=5:=by have G:¬(k:Int) < 5:=(by simpa using w);omega
    subst gk;have T:out=jA l:=by rw[jA,if_pos g6];exact B
    rcases out with _ | ⟨U,e⟩
    ·exact endFo (.ret (.tup [.va (.slice true 0 0 0 2 0 0),.va (.int .i64 0)])) F rfl (Fz.r F) (Fz.r F) ⟨_,by rw[R];rfl,by rw[R,if_pos rfl,<-T];exact Sl.nil⟩ ⟨⟨rfl,rfl,rfl⟩,rfl,tv⟩ rfl
    ·refine cD 2 (fun _=>.arr 56 2 ((U::e).map enc) co) rfl rfl rfl (fun _ _=>?_) (fun _ _=>fJ _ _ _) ?_
     ·exact gO _ (U::e) co
     intro b V W hb;refine endFo (.ret (.tup [.va (.slice false 0 (b 0) 0 2 (e.length+1) co),.va (.int .i64 0)])) V rfl W (Fz.r V) ⟨_,by rw[R];rfl,?_⟩ ⟨⟨rfl,rfl,rfl,.inr ⟨rfl,rfl,rfl,rfl⟩⟩,rfl,tv⟩ rfl;rw[R,if_pos rfl,<-T];exact Sl.new (l:=U::e) (hb 0 ⟨rfl,rfl⟩)
abbrev Kp:=Int×List Stp
def KpR(F:Fz)(y:List SA)(x:Kp):Prop:=∃a,y=[.int .i64 x.1,a]/\aW F a x.2
theorem KpR.mono{F b:Fz}{y:List SA}{x:Kp}(h:KpR F y x)(a:Fz.le F b):KpR b y x:=by
 obtain⟨d,h1,c⟩:=h;exact⟨d,h1,c.mono a⟩
abbrev KpsAt(F:Fz)(a:SA)(l:List Kp):Prop:=SlR F 96 2 (KpR F) a l
abbrev ClsAt(F:Fz)(a:SA)(l:List Kp):Prop:=SlR F 52 2 (KpR F) a l
theorem KpsAt.open{F:Fz}{t:Nat}{i:SA}{c:List Kp}(h:SlR F t 2 (KpR F) i c):∃(nil:Bool) (b e cap:Nat) (L:List (List SA)) (d:Nat) (j:Nat->SA),i=.slice nil 0 b e 2 c.length cap/\(nil=true->c=[])/\(nil=false->F b=some (.arr t 2 L d))/\e+c.length<=L.length/\
  ∀(k:Nat) (h:k < c.length),L[e+k]? =some [.int .i64 (c[k]'h).1,j k]/\aW F (j k) (c[k]'h).2:=by
 obtain⟨nil,b,e,cap,L,d,h1,l,m,n,o⟩:=h
 have g:∀k:Nat,∃a:SA,∀h:k < c.length,L[e+k]? =some [.int .i64 (c[k]'h).1,a]/\aW F a (c[k]'h).2:=by
  intro k;by_cases f:k < c.length
  ·obtain⟨y,q,a,rfl,p⟩:=o k c[k] (by simp[f]);exact⟨a,fun _=>⟨q,p⟩⟩
  ·exact⟨.nilsl,fun h=>absurd h f⟩
 exact⟨nil,b,e,cap,L,d,fun k=>Classical.choose (g k),h1,l,m,n,fun k f=>Classical.choose_spec (g k) f⟩
def nameK(p:Int):Bool:=decide (p=1)||decide (p=2)||decide (p=3)||decide (p=4)||decide (p=7)
def aX(k:Kp):Bool:=nameK k.1&&(decide (0 < k.2.length)&&(aN k.1 k.2&&(decide (normS k.2=k.2)&&(!decide (k.1=4)||decide (k.2=[(6,0)])))))
def nameM:List MapEntry:=[⟨.int .i64 1,.string ⟨[116,101,120,116].toArray⟩,0⟩,⟨.int .i64 2,.string ⟨[109,97,114,107,115].toArray⟩,1⟩,⟨.int .i64 3,.string ⟨[99,111,110,115,116,97,110,116,115].toArray⟩,2⟩,⟨.int .i64 4,.string ⟨[102,111,114,109,117,108,97,115].toArray⟩,3⟩,⟨.int .i64 7,.string ⟨[98,105,116,115].toArray⟩,4⟩]
theorem BB(F:Fz):Ct prog 171 [] F [] 1 (fun o a b n0=>F=a/\n0=2/\o=.ret (.va (.map 1 0))/\b=[(1,.one (.obj (.map ⟨nameM⟩ 5)))]):=by
 refine ctS func171 ?_;exact clean [(1,1)] (.ret (.va (.map 1 0))) F [(1,.one (.obj (.map ⟨nameM⟩ 5)))] 2 ⟨Fz.r F,rfl,rfl,rfl,rfl⟩ rfl rfl rfl (Out.bB_ok (o:=.ret (.va (.map 1 0))) rfl) ⟨tv,tv⟩ ⟨Fz.r F,rfl,tv⟩
theorem Bz(F:Fz):Fo prog F 111 [] (fun o a=>∃e,o=.ret (.va e)/\aW a e [(6,0)]):=by
 refine foS func111 ?_;refine dZ 1 (fun _=>.arr 56 2 ([(6,0)].map enc) 1) ?_;intro b a d c;exact endFo (.ret (.va (.slice false 0 (b 0) 0 2 1 1))) a rfl d (Fz.r a) ⟨_,rfl,Sl.new (l:=[(6,0)]) (c 0 rfl)⟩ ⟨rfl,rfl,rfl,.inr ⟨rfl,rfl,rfl,rfl⟩⟩ rfl
theorem vo(F:Fz)(d:SA)(l:List Stp)(f:aW F d l)(K:l.length < 1000000):
  Fo prog F 150 [.va d] (fun o _=>o=.ret (.va (.bool (decide (l=[(6,0)]))))):=by
 have c:=fun F1 (b:Fz.le F F1) e a=>kp F1 d e l [(6,0)] (f.mono b) a K
 obtain⟨q,m,p,n,k,s,rfl,g,h,i,j⟩:=f;refine foS func150 ?_;refine useFs (Bz F) ?_;rintro _ F1 b ⟨e,rfl,a⟩;have J:=c F1 b e a;obtain⟨G,B,E,D,A,I,rfl,u,w,x,y⟩:=a;refine usePs (J) ?_;exact endFs (.ret (.va (.bool (decide (l=[(6,0)]))))) b rfl
theorem pG{P:Program}{F:Fz}{f:FuncId}{args:List SV}{Q c:Out->Fz->Prop}(h:Fo P F f args Q)(l:∀o b,Q o b->c o b):Fo P F f args c:=by
 unfold Fo at*;refine nV h fun o h n j=>?_
 unfold Cln at*;intro C ρ w e k S m i;obtain⟨a,d,g,n0,y,⟨p,q,s,u,x⟩,r⟩:=j C ρ w e k S m i;exact⟨a,d,g,n0,y,⟨p,q,s,u,l _ _ x⟩,r⟩
def capS:SA->Prop
 |.slice _ _ _ _ _ n c=>n<=c
 |_=>True
theorem tF(F:Fz)(A:SA)(l:List Stp)(D:aW F A l)(y:l.length < 1000000):
  Fo prog F 73 [.va A] (fun o e=>∃w,o=.ret (.va w)/\aW e w l/\capS w):=by
 obtain⟨B,E,I,G,L,d,rfl,m,n,i,j⟩:=D;rcases B with _ | _
 ·have a:=n rfl;rcases l with _ | ⟨x,r⟩
  ·refine foS func73 ?_;refine brd dd ⟨56,L,d,a,i,[],j,rfl,rfl,rfl,by decide,fun c k=>?_⟩;clear k;refine dZ 2 (fun _=>.arr 56 2 [] c) ?_;intro b e g f;exact endFo (.ret (.va (.slice false 0 (b 0) 0 2 0 c))) e rfl g (Fz.r e) ⟨_,rfl,Sl.new (l:=[]) (f 0 rfl),jx c⟩ ⟨rfl,rfl,rfl,.inr ⟨rfl,rfl,rfl,rfl⟩⟩ rfl
  ·replace y:r.length+1 < 1000000:=y;have u:(0+((x::r).map enc).length)*16<=140737488355328:=by rw[qa,qe];omega
   have q:∀{c:Nat},0+((x::r).map enc).length<=c->(x::r).length<=c:=fun h=>by rw[qa,q9]at h;exact h
   have J:∀c,(∀μ:Mu,(SB.arr 56 2 ((x::r).map enc) c).ren μ=SB.arr 56 2 ((x::r).map enc) c):=fun c μ=>gO μ _ c
   refine foS func73 ?_;refine brd dd ⟨56,L,d,a,i,(x::r).map enc,j,rfl,rfl,rfl,u,fun c' k=>?_⟩;have p:=q k;clear k;refine cD 2 (fun _=>.arr 56 2 ((x::r).map enc) c') rfl rfl rfl (fun _ _=>gO _ _ _) (fun _ _=>fJ _ _ _) ?_;intro b e g f;exact endFo (.ret (.va (.slice false 0 (b 0) 0 2 (x::r).length c'))) e rfl g (Fz.r e) ⟨_,rfl,Sl.new (l:=x::r) (f 0 rfl),p⟩ ⟨rfl,(by first | rfl | (rw[qa];omega)),(by first | rfl | (rw[qa];omega)),.inr ⟨rfl,rfl,rfl,rfl⟩⟩ rfl
 ·have s:=m rfl;subst s;refine foS func73 ?_;refine bre dd ?_;exact endFo (.ret (.va (.slice true 0 0 0 2 0 0))) F rfl (Fz.r F) (Fz.r F) ⟨_,rfl,Sl.nil,qi 0⟩ ⟨rfl,rfl,rfl⟩ rfl
theorem ES(F:Fz)(b:SA)(l:List Stp)(e:aW F b l)(f:l.length < 1000000):
  Fo prog F 73 [.va b] (fun o c=>∃a,o=.ret (.va a)/\aW c a l):=
 pG (tF F b l e f) fun _ _ ⟨a,h1,d,_⟩=>⟨a,h1,d⟩
theorem Ed(p:Int):(p=1/\nameK p=true)\/(p=2/\nameK p=true)\/(p=3/\nameK p=true)\/(p=4/\nameK p=true)\/(p=7/\nameK p=true)\/((p≠1/\p≠2/\p≠3/\p≠4/\p≠7)/\nameK p=false):=by
 unfold nameK;by_cases h1:p=1
 ·left;simp[h1]
 by_cases a:p=2
 ·right;left;simp[a]
 by_cases b:p=3
 ·right;right;left;simp[b]
 by_cases c:p=4
 ·right;right;right;left;simp[c]
 by_cases d:p=7
 ·right;right;right;right;left;simp[d]
 ·right;right;right;right;right;simp[h1,a,b,c,d]
variable {p:Int}
theorem kF0(h:nameK p=false):aX (p,l)=false:=by simp only[aX,h,jv]
theorem kF1(h:decide ((0:Int) < (l.length:Int))=false):aX (p,l)=false:=by
 have a:decide (0 < l.length)=false:=by simp at h ⊢;omega
 simp only[aX,a,jv,yq]
theorem kF2(h:decide ((normR p l).2=0)=false):aX (p,l)=false:=by
 have a:aN p l=false:=by
  cases b:aN p l with
  |false=>rfl
  |true=>rw[normR,if_pos b]at h;cases h
 simp only[aX,a,jv,yq]
theorem mh(h:decide ((normR p l).2=0)=true):aN p l=true/\(normR p l).1=normS l:=by
 cases a:aN p l with
 |false=>rw[normR,if_neg (by rw[a];simp)]at h;cases h
 |true=>exact⟨rfl,by rw[normR,if_pos a]⟩
theorem kF3(b:decide ((normR p l).2=0)=true)(h:decide ((normR p l).1=l)=false):aX (p,l)=false:=by
 have a:=mh b;rw[a.2]at h;simp only[aX,a.1,h,jv,yq]
theorem kT(e:nameK p=true)(d:decide ((0:Int) < (l.length:Int))=true)(b:decide ((normR p l).2=0)=true)(h:decide ((normR p l).1=l)=true):aX (p,l)=(!decide (p=4)||decide (l=[(6,0)])):=by
 have a:=mh b;have c:decide (0 < l.length)=true:=by simp at d ⊢;omega
 rw[a.2]at h;simp only[aX,e,c,a.1,h,qab]
theorem oB(p:Int)(l:List Stp):(normR p l).1.length < 1000000:=by
 unfold normR;split
 ·have:=vG l;show(normS l).length < _;omega
 ·simp
theorem yZ(F:Fz)(q:SA)(p:Int)(l:List Stp)(u:aW F q l)(B:l.length < 1000000):
  Fo prog F 107 [.agg [.int .i64 p,q]] (fun o _=>o=.ret (.va (.bool (aX (p,l))))):=by
 have i:=ur F q l p u B;have x:=fun F1 (a:Fz.le F F1) sb m=>kp F1 sb q (normR p l).1 l m (u.mono a) (oB p l)
 have f:=fun F1 (a:Fz.le F F1)=>vo F1 q l (u.mono a) B
 have fin:∀(b:Bool) (F1:Fz) (h:Hp) (nx:Nat),aX (p,l)=b->lget h 0=some (.frz F1)->Fz.le F F1->Cln 1 (FoK F fun o A=>o=.ret (.va (.bool (aX (p,l))))) (.ret (.va (.bool b))) h nx:=by
  intro b F1 h nx m s d;exact endFo (.ret (.va (.bool b))) F1 s d (Fz.r F1) (by rw[m]) rfl rfl
 have finL:∀(b:Bool) (F1:Fz) (h:Hp) (nx:Nat),aX (p,l)=b->lget h 0=some (.frz F1)->Fz.le F F1->Cln 1 (FoK F fun o A=>o=.ret (.va (.bool (aX (p,l))))) (.ret (.va (.lit b))) h nx:=by
  intro b F1 h nx m s d;exact endFo (.ret (.va (.bool b))) F1 s d (Fz.r F1) (by rw[m]) rfl rfl
 have hc:=Ed p;obtain⟨ab,Y,aa,Z,X,ac,rfl,T,U,V,W⟩:=u;rcases hc with⟨rfl,c⟩ | ⟨rfl,c⟩ | ⟨rfl,c⟩ | ⟨rfl,c⟩ | ⟨rfl,c⟩ | ⟨hp,c⟩
 all_goals
  refine foS func107 ?_;refine dwS (.look 1 (.look 2 (.alt 0 (.alt 3 (lk [4,5,6,7,8] .done) .nil) .nil))) [1] ?_;refine⟨rfl,?_⟩;refine use (BB F) [] rfl trivial rfl trivial ss trivial ?_;rintro R F0 s n0 d ⟨rfl,rfl,rfl,rfl⟩;refine⟨Fz.r F,rfl,?_⟩;conv=>whnf
  repeat
   refine br (fun g=>absurd (od g) oo) (fun _=>?_);conv=>whnf
  try (refine bri rfl ?_;(conv=>whnf))
  refine⟨Fz.r F,rfl,?_⟩;refine useFs i ?_;rintro _ F1 a ⟨sc,rfl,n⟩;have w:=x F1 a sc n;have y:=f F1 a;obtain⟨O,K,M,L,J,Q,rfl,D,E,G,I⟩:=n
  conv=>whnf
  first
   |exact fin false F1 _ _ (kF0 c) rfl a
   |exact finL false F1 _ _ (kF0 c) rfl a
   |refine⟨fun j=>?_,fun j=>?_⟩
    ·refine⟨fun e=>?_,fun e=>?_⟩
     ·refine usePs (w) ?_;refine⟨fun k=>?_,fun k=>?_⟩
      ·conv=>whnf
       first
        |refine gaf dd ?_
         conv=>whnf
         repeat
          refine gaf dd ?_;conv=>whnf
         first
          |exact fin true F1 _ _ (kT c j e k) rfl a
          |exact finL true F1 _ _ (kT c j e k) rfl a
        |refine gae dd ?_
         conv=>whnf
         repeat
          refine gae dd ?_;conv=>whnf
         refine useFs y ?_;rintro _ S l2 rfl;conv=>whnf
         repeat
          refine gae dd ?_;conv=>whnf
         exact fin _ S _ _ (kT c j e k) rfl (Fz.t a l2)
      ·conv=>whnf
       first
        |exact fin false F1 _ _ (kF3 e k) rfl a
        |exact finL false F1 _ _ (kF3 e k) rfl a
     ·conv=>whnf
      first
       |exact fin false F1 _ _ (kF2 e) rfl a
       |exact finL false F1 _ _ (kF2 e) rfl a
    ·conv=>whnf
     first
      |exact fin false F1 _ _ (kF1 j) rfl a
      |exact finL false F1 _ _ (kF1 j) rfl a
def idxN{α:Type}(q:α->Bool):List α->Nat->Int
 |[],_=>-1
 |x::r,n=>if q x=false then n else idxN q r (n+1)
theorem uH{α:Type}(q:α->Bool)(l:List α)(k:Nat)(h:k < l.length):idxN q (l.drop k) k=if q l[k]=false then(k:Int)else idxN q (l.drop (k+1)) (k+1):=by
 rw[jj h];rfl
theorem wX{α:Type}(q:α->Bool):∀(l:List α) (n:Nat),(0<=idxN q l n)↔l.all q=false
 |[],n=>by simp[idxN]
 |x::r,n=>by
  simp only[idxN,qb4];split
  ·rename_i h;simp[h]
  ·rename_i h;have:q x=true:=by simpa using h
   rw[wX q r (n+1),this];simp
theorem wW{α:Type}(q:α->Bool)(l:List α):decide (0<=idxN q l 0)= !l.all q:=by
 have:=wX q l 0;cases h:l.all q with
 |true=>rw[h]at this;simp only[Bool.not_true,decide_eq_false_iff_not];intro a;exact absurd (this.1 a) ss
 |false=>rw[h]at this;simp only[Bool.not_false,decide_eq_true_eq];exact this.2 rfl
theorem Ec(F:Fz)(a:SA)(p:Int)(l:List Stp)(b:aW F a l)(q:l.length < 1000000):
  Fo prog F 106 [.agg [.int .i64 p,a]] (fun o _=>o=.ret (.va (.bool (!aX (p,l))))):=by
 have h:=yZ F a p l b q;obtain⟨m,i,k,j,g,n,rfl,c,d,e,f⟩:=b;refine foS func106 ?_;refine useFs h ?_;rintro _ F1 s rfl;exact endFs (.ret (.va (.bool (!aX (p,l))))) s rfl
def short(a:List Kp):Prop:=∀x∈a,x.2.length < 1000000
theorem yav(F:Fz)(sk:SA)(b:List Kp)(V:KpsAt F sk b)(W:short b)(hl:b.length < 1000000):
  Fo prog F 172 [.va sk,.va (.fn (.func 106) [])] (fun o _=>o=.ret (.va (.int .i64 (idxN aX b 0)))):=by
 obtain⟨kn,kb,ke,kc,kL,kr,rfl,B,k2,k3,k4⟩:=V
 have fin:∀(x:Int) (F1:Fz) (h:Hp) (nx:Nat),idxN aX b 0=x->lget h 0=some (.frz F1)->Fz.le F F1->
   Cln 1 (FoK F fun o E=>o=.ret (.va (.int .i64 (idxN aX b 0)))) (.ret (.va (.int .i64 x))) h nx:=by
  intro x F1 h nx Y I w;exact endFo (.ret (.va (.int .i64 x))) F1 I w (Fz.r F1) (by rw[Y]) rfl rfl
 refine foS func172 ?_;conv=>whnf
 refine aH hΘ (X:={ x:Nat×Fz // Fz.le F x.2/\x.1<=b.length/\idxN aX b 0=idxN aX (b.drop x.1) x.1 }) (fun x=>[(8,.va (.int .i64 x.1.1))]) (4::5::jr 9 10 []) (fz fun x=>x.1.2) 1 (fun x=>b.length - x.1.1) ⟨(0,F),Fz.r F,by simp,by simp⟩
  (fun s u=>leI [] s u rfl ⟨tv,tv⟩ ⟨rfl,tv⟩ ⟨Fz.r F,tv⟩) ?_
 rintro⟨⟨k,G⟩,c,l,e⟩ s u;replace c:Fz.le F G:=c;replace l:k<=b.length:=l;replace e:idxN aX b 0=idxN aX (b.drop k) k:=e;by_cases g:k < b.length
 ·have m:(k:Int) < (b.length:Int):=by omega
  have i:b.length - (k+1) < b.length - k:=by omega
  have j:k < 4611686018427387904:=by omega
  have Z:=W b[k] (qx g);rw[uH aX b k g]at e;have f:=SlR.at k4 g;obtain⟨y,hy,a,rfl,A⟩:=f;have d:=Ec G a b[k].1 b[k].2 (A.mono c) Z;obtain⟨T,Q,S,R,O,U,rfl,J,K,L,M⟩:=A;refine bri m ⟨SlR.lt B g,⟨by simp,m⟩,_,c _ _ (k2 (SlR.lt B g)),_,hy,?_⟩;refine useFs d ?_;rintro _ n D rfl;refine br (fun p=>?_) (fun p=>?_)
  ·exact fin _ n _ _ (e.trans (if_pos (by have q:(!aX b[k])=true:=p;simpa using q))) rfl (Fz.t c D)
  ·conv=>whnf
   have q:(!aX b[k])=false:=p;exact⟨⟨(k+1,n),Fz.t c D,g,e.trans (if_neg (by rw[show aX b[k]=true by simpa using q];simp))⟩,i,leR [] s u rfl ⟨tv,tv⟩ ⟨cnt j,tv⟩ ⟨Fz.r n,tv⟩⟩
 ·have m:¬(k:Int) < (b.length:Int):=by omega
  rw[yg oo]at e;refine brj m ?_;exact fin _ G _ _ e rfl c
theorem Bi(F:Fz)(sk:SA)(a:List Kp)(b:KpsAt F sk a)(d:short a)(c:a.length < 1000000):
  Fo prog F 109 [.va sk,.va (.fn (.func 106) [])] (fun o _=>o=.ret (.va (.bool (!a.all aX)))):=by
 have h:=yav F sk a b d c;obtain⟨q,m,p,n,l,s,rfl,g,i,j,k⟩:=b;refine foS func109 ?_;refine useFs h ?_;rintro _ F1 e rfl;exact endFo (.ret (.va (.bool (!a.all aX)))) F1 rfl e (Fz.r F1) rfl (ob (wW aX a).symm) rfl
structure Mig where
 id:Int
 src:Int
 dst:Int
 back:Bool
 keep:List Kp
def asc:List Kp->Bool
 |a::b::r=>decide (a.1 < b.1)&&asc (b::r)
 |_=>true
theorem pK:∀(l:List Kp),asc l=true↔∀i (h:i+1 < l.length),l[i].1 < l[i+1].1
 |[]=>by simp[asc]
 |[a]=>by simp[asc]
 |a::b::r=>by
  rw[asc,qd,pK (b::r),decide_eq_true_eq];constructor
  ·rintro⟨h1,c⟩ i h;cases i with
   |zero=>exact h1
   |succ i=>exact c i (by simpa using h)
  ·intro h;exact⟨h 0 ss,fun i d=>h (i+1) (by simpa using d)⟩
def idOk(n:Int):Bool:=decide (1<=n)&&decide (n<=1000000)
def migOk(m:Mig):Bool:=asc m.keep&&(idOk m.id&&(idOk m.src&&(idOk m.dst&&(!(m.back&&decide (0 < m.keep.length))&&m.keep.all aX))))
abbrev migS(m:Mig)(sk:SA):List SA:=[.int .i64 m.id,.int .i64 m.src,.int .i64 m.dst,.lit m.back,sk]
theorem jS{n:Nat}(m:Mig){sk:SA}(h:sk.below n):(Ent.one (.cells 32 (migS m sk))).below n:=by
 intro a b;simp only[qh,qq,or_false]at b;rcases b with rfl | rfl | rfl | rfl | rfl
 ·trivial
 ·trivial
 ·trivial
 ·trivial
 ·exact h
theorem pX(n:Int)(F:Fz):Fo prog F 108 [.va (.int .i64 n)] (fun o a=>o=.ret (.va (.bool (idOk n)))/\a=F):=by
 refine foS func108 ?_;refine⟨fun g=>?_,fun g=>?_⟩
 ·exact endPu rfl (Fz.r F) (ob (by show(decide (1<=n)&&decide (n<=1000000))=_;rw[show decide (1<=n)=true from g];rfl)) rfl
 ·exact endPu rfl (Fz.r F) (ob (by show(decide (1<=n)&&decide (n<=1000000))=_;rw[show decide (1<=n)=false from g];rfl)) rfl
variable {m:Mig}
theorem mOk0(h:asc m.keep=false):migOk m=false:=by simp only[migOk,h,jv]
theorem mOk1(h:idOk m.id=false):migOk m=false:=by simp only[migOk,h,jv,yq]
theorem mOk2(h:idOk m.src=false):migOk m=false:=by simp only[migOk,h,jv,yq]
theorem mOk3(h:idOk m.dst=false):migOk m=false:=by simp only[migOk,h,jv,yq]
theorem mOk4(b:m.back=true)(h:(!decide ((0:Int) < (m.keep.length:Int)))=false):migOk m=false:=by
 have a:decide (0 < m.keep.length)=true:=by simp at h ⊢;omega
 simp only[migOk,b,a,qd0,Bool.not_true,jv,yq]
theorem mOkT(a:asc m.keep=true)(h1:idOk m.id=true)(b:idOk m.src=true)(c:idOk m.dst=true)(h4:m.back=false\/(!decide ((0:Int) < (m.keep.length:Int)))=true):migOk m= !(!m.keep.all aX):=by
 have d:(!(m.back&&decide (0 < m.keep.length)))=true:=by
  rcases h4 with h4 | h4
  ·rw[h4];rfl
  ·have:decide (0 < m.keep.length)=false:=by simp at h4 ⊢;exact h4
   rw[this];simp
 simp only[migOk,a,h1,b,c,d,qab,Bool.not_not]
theorem vF(F:Fz)(sk:SA)(m:Mig)(J:KpsAt F sk m.keep)(hs:short m.keep)(hl:m.keep.length < 1000000):
  Fo prog F 50 [.agg (migS m sk)] (fun o _=>o=.ret (.va (.bool (migOk m)))):=by
 have d:=Bi F sk m.keep J hs hl;have M:=mOk0 (m:=m);have O:=mOk1 (m:=m);have Q:=mOk2 (m:=m);have R:=mOk3 (m:=m);have S:=mOk4 (m:=m);have T:=mOkT (m:=m);obtain⟨v,hv⟩:∃v,migOk m=v:=⟨_,rfl⟩
 rw[hv]at M O Q R S T ⊢;clear hv;obtain⟨id,src,q,j,a⟩:=m;replace J:KpsAt F sk a:=J;replace hl:a.length < 1000000:=hl;replace d:Fo prog F 109 [.va sk,.va (.fn (.func 106) [])] (fun o L=>o=.ret (.va (.bool (!a.all aX)))):=d;obtain⟨kn,kb,ke,kc,kL,kr,sf,rfl,k1,K,k3,k4⟩:=KpsAt.open J
 have fin:∀(b:Bool) (F1:Fz) (h:Hp) (nx:Nat),v=b->lget h 0=some (.frz F1)->Fz.le F F1->Cln 1 (FoK F fun o L=>o=.ret (.va (.bool v))) (.ret (.va (.bool b))) h nx:=by
  intro b F1 h nx Y U n;exact endFo (.ret (.va (.bool b))) F1 U n (Fz.r F1) (by rw[Y]) rfl rfl
 have finL:∀(b:Bool) (F1:Fz) (h:Hp) (nx:Nat),v=b->lget h 0=some (.frz F1)->Fz.le F F1->Cln 1 (FoK F fun o L=>o=.ret (.va (.bool v))) (.ret (.va (.lit b))) h nx:=by
  intro b F1 h nx Y U n;exact endFo (.ret (.va (.bool b))) F1 U n (Fz.r F1) (by rw[Y]) rfl rfl
 refine foS func50 ?_;conv=>whnf
 refine aH hΘ (X:={ k:Nat // (k=0\/k < a.length)/\∀i (h:i+1 < a.length),i < k->a[i].1 < a[i+1].1 }) (fun x=>[(4,.va (.int .i64 ((x.1+1:Nat):Int)))]) (2::jr 5 21 [])
  (fun x=>[(0,.frz F),(1,.one (.cells 32 (migS ⟨id,src,q,j,a⟩ (.slice kn 0 kb ke 2 a.length kc))))]) 2 (fun x=>a.length - x.1) ⟨0,.inl rfl,fun i h hi=>absurd hi oo⟩
  (fun V W=>leI [] V W rfl ⟨tv,jS _ (.inr oo),tv⟩ ⟨rfl,tv⟩ ⟨Fz.r F,rfl,tv⟩) ?_
 rintro⟨k,aa,hp⟩ V W;by_cases g:k+1 < a.length
 ·have I:((k+1:Nat):Int) < (a.length:Int):=by omega
  have y:a.length - (k+1) < a.length - k:=by omega
  have A:k+1 < 4611686018427387904:=by omega
  have w1:IntKind.i64.wrap (((k+1:Nat):Int) - 1)=(k:Int):=by rw[aI oo oo];omega
  have q0:0<=IntKind.i64.wrap (((k+1:Nat):Int) - 1)/\IntKind.i64.wrap (((k+1:Nat):Int) - 1) < (a.length:Int):=by rw[w1];omega
  have q1:0<=((k+1:Nat):Int)/\((k+1:Nat):Int) < (a.length:Int):=by omega
  have f:k < a.length:=Nat.lt_of_succ_lt g;have D:kL[ke+(IntKind.i64.wrap (((k+1:Nat):Int) - 1)).toNat]? =some [.int .i64 (a[k]'f).1,sf k]:=by rw[w1];exact(k4 k f).1
  have E:kL[ke+((k+1:Nat):Int).toNat]? =some [.int .i64 (a[k+1]'g).1,sf (k+1)]:=(k4 (k+1) g).1;have c:=SlR.lt k1 g;by_cases p:(a[k]'f).1 < (a[k+1]'g).1
  ·refine bri I ?_;refine dwS (lk [0,1,2,3,4,5,6,7,8,9,10,11,12,13] .done) [1] ?_;refine⟨rfl,c,q0,rfl,_,K c,_,D,rfl,c,q1,rfl,_,K c,_,E,?_⟩;refine br (fun h=>absurd (od h) oo) (fun _=>?_);exact⟨⟨k+1,.inr g,fun i h hi=>(Nat.lt_succ_iff_lt_or_eq.1 hi).elim (hp i h) (fun e=>by subst e;exact p)⟩,y,leR [] V W rfl ⟨tv,jS _ (.inr oo),tv⟩ ⟨cnt A,tv⟩ ⟨Fz.r F,rfl,tv⟩⟩
  ·have Z:(a[k+1]'g).1<=(a[k]'f).1:=qck.1 p
   have B:asc a=false:=by
    cases ha:asc a with
    |false=>rfl
    |true=>exact absurd ((pK a).1 ha k g) p
   refine bri I ?_;refine dwS (lk [0,1,2,3,4,5,6,7,8,9,10,11,12,13] .done) [1] ?_;refine⟨rfl,c,q0,rfl,_,K c,_,D,rfl,c,q1,rfl,_,K c,_,E,bri Z ?_⟩;conv=>whnf
   first | exact fin false F _ _ (M B) rfl (Fz.r F) | exact finL false F _ _ (M B) rfl (Fz.r F)
 ·have I:¬((k+1:Nat):Int) < (a.length:Int):=by omega
  have l:asc a=true:=(pK a).2 fun i h=>hp i h oo
  refine brj I ?_;refine usePs (pX id F) ?_;refine⟨fun s=>?_,fun s=>?_⟩
  ·refine usePs (pX src F) ?_;refine⟨fun u=>?_,fun u=>?_⟩
   ·refine usePs (pX q F) ?_;refine⟨fun w=>?_,fun w=>?_⟩
    ·rcases j with _ | _
     ·refine useFs d ?_;rintro _ F1 l1 rfl;exact fin _ F1 _ _ (T l s u w (.inl rfl)) rfl l1
     ·refine⟨fun G=>?_,fun G=>?_⟩
      ·refine useFs d ?_;rintro _ F1 l1 rfl;exact fin _ F1 _ _ (T l s u w (.inr G)) rfl l1
      ·conv=>whnf
       first | exact fin false F _ _ (S rfl G) rfl (Fz.r F) | exact finL false F _ _ (S rfl G) rfl (Fz.r F)
    ·conv=>whnf
     first | exact fin false F _ _ (R w) rfl (Fz.r F) | exact finL false F _ _ (R w) rfl (Fz.r F)
   ·conv=>whnf
    first | exact fin false F _ _ (Q u) rfl (Fz.r F) | exact finL false F _ _ (Q u) rfl (Fz.r F)
  ·conv=>whnf
   first | exact fin false F _ _ (O s) rfl (Fz.r F) | exact finL false F _ _ (O s) rfl (Fz.r F)
