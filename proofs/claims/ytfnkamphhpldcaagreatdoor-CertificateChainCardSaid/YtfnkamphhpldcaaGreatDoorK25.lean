import Derived.Test.YtfnkamphhpldcaaGreatDoorK24
import Derived.Test.YtfnkamphhpldcaaGreatDoorK16
import Derived.Test.YtfnkamphhpldcaaGreatDoorK22
set_option maxHeartbeats 64000000
namespace Go.Proofs.YtfnkamphhpldcaaGreatDoor
open Go Sx Tryz
set_option maxRecDepth 100000
def wsOf(s:Stk):List (List UInt8):=(s.map (·.1)).reverse
def nsOf(s:Stk):List Int:=(s.map fun x=>(x.2:Int)).reverse
theorem fI(x:List UInt8×Nat)(s:Stk):wsOf (x::s)=wsOf s++[x.1]:=by simp[wsOf]
theorem fG(x:List UInt8×Nat)(s:Stk):nsOf (x::s)=nsOf s++[(x.2:Int)]:=by simp[nsOf]
theorem gY(s:Stk):(wsOf s).length=s.length:=by simp[wsOf]
theorem mj(s:Stk):(nsOf s).length=s.length:=by simp[nsOf]
theorem ye5(x:List UInt8×Nat)(s:Stk):wsOf (x::s)≠[]:=fun h=>absurd (congrArg List.length h) (by simp[wsOf])
theorem yd4(x:List UInt8×Nat)(s:Stk):nsOf (x::s)≠[]:=fun h=>absurd (congrArg List.length h) (by simp[nsOf])
theorem rh{α:Type}{l:List α}(d:α)(h:l≠[]):l=l.headD d::l.tail:=by
 cases l with
 |nil=>exact absurd rfl h
 |cons _ _=>rfl
theorem eN:Plain encI:=fun x=>⟨fun μ=>rfl,fun a b=>by simp only[encI,qs]at b;subst b;trivial⟩
theorem eM:Plain encS:=fun x=>⟨fun μ=>rfl,fun a b=>by simp only[encS,qs]at b;subst b;trivial⟩
theorem vW:∀(f:Nat) (s:Stk),(mergeK f s).length<=s.length
 |0,_=>qj _
 |f+1,[]=>qj _
 |f+1,[_]=>qj _
 |f+1,(b,n)::(a,m)::r=>by
  rw[mergeK];split
  ·exact jm (vW f _) ss
  ·exact qj _
theorem A4(l:List (List UInt8)):(stackF l).length<=l.length:=by
 have h:∀(l:List (List UInt8)) (s:Stk),(l.foldl pushS s).length<=l.length+s.length:=by
  intro l
  induction l with
  |nil=>intro s;simp
  |cons x r ih=>
   intro s;have h1:=ih (pushS s x);have a:(pushS s x).length<=s.length+1:=vW _ _;simp only[qaj,qf]at*;omega
 have:=h l [];simpa[stackF]using this
structure RI1(l:List (List UInt8))(k:Nat)(W:List (List UInt8))(S:List Int):Prop where
 le:k<=l.length
 w:W=wsOf (stackF (l.take k))
 s:S=nsOf (stackF (l.take k))
theorem yek(F:Fz)(hR:RNDF F)(sa:SA)(l:List (List UInt8))(ha:Sl F 9 1 encS sa l)(hl:l.length=8)(hk:∀x∈l,x.length<=900000000000)(R:List UInt8)(ao:stackF l=[(R,8)]):
  Fo prog F 52 [.va sa] (fun o _=>o=.ret (.va (.str R))):=by
 obtain⟨bl,bi,bk,bj,bh,bm,rfl,ar,a5,bg,a6⟩:=ha;refine ybv hΘ func52 rfl dd _ _ rfl rfl rfl ?_;conv=>whnf
 refine aI hΘ (X:={ x:Nat×List (List UInt8)×List Int×Nat×Nat // RI1 l x.1 x.2.1 x.2.2.1 }) (fun x=>[(3,.va (gA 1 1 x.1.2.2.2.1 x.1.2.1)),(4,.va (gA 1 2 x.1.2.2.2.2 x.1.2.2.1)),(13,.va (.int .i64 x.1.1))]) (6::7::jr 14 60 [])
  (fun x=>[(0,.frz F),(1,gE 9 1 encS x.1.2.2.2.1 x.1.2.1),(2,gE 3 1 encI x.1.2.2.2.2 x.1.2.2.1)]) 3 (fun x=>8 - x.1.1) ⟨(0,[],[],0,0),⟨js _,rfl,rfl⟩⟩
  (fun V Y=>leI [(1,1),(2,2)] V Y rfl ⟨tv,aC eM _ _ _ _ _,aC eN _ _ _ _ _,tv⟩ ⟨rfl,rfl,rfl,tv⟩ ⟨Fz.r F,rfl,rfl,tv⟩) ?_
 rintro⟨⟨k,W,S,c,d⟩,ah,y,hS⟩ V Y;replace ah:k<=l.length:=ah;replace y:W=wsOf (stackF (l.take k)):=y;replace hS:S=nsOf (stackF (l.take k)):=hS;have p:S.length=W.length:=by rw[hS,y,gY,mj]
 by_cases g:k < l.length
 ·have hx:=hk l[k] (qt g);refine br (fun _=>?_) (fun h=>absurd h (by simp;omega));refine⟨Sl.lt ar g,⟨by simp,by simpa using g⟩,_,a5 (Sl.lt ar g),_,Sl.at a6 g,?_⟩;refine useFs (ydk F hR l[k] hx) ?_;rintro _ F1 l1 rfl;have ay:merge ((leafS l[k],1)::stackF (l.take k))=stackF (l.take (k+1)):=by rw[qe g,DS]
  have Z:Gd (k+1) ((leafS l[k],1)::stackF (l.take k)):=by have h:=Gd.stackF (l.take k);rw[qn,qao ah]at h;exact h.leaf _
  have aq:W.length<=8:=by rw[y,gY];exact jm (A4 _) (by rw[qn];omega)
  have a4:(W=[]/\S=[])\/∃w0 wr n0 K,W=w0::wr/\S=n0::K/\K.length+1=wr.length+1/\wr.length+1<=8:=by
   rcases W with _ | ⟨w0,wr⟩<;>rcases S with _ | ⟨n0,K⟩
   ·exact .inl ⟨rfl,rfl⟩
   ·exact absurd p ss
   ·exact absurd p ss
   ·exact .inr ⟨w0,wr,n0,K,rfl,rfl,p,aq⟩
  refine Or.elim a4 (fun h=>?A) (fun h=>?B)
  case' A=>
   obtain⟨ae,ad⟩:=h;subst ae;subst ad;replace y:[]=wsOf (stackF (l.take k)):=y
   have I:∀(μ:Mu) (c:Nat),SB.arr 9 1 ([]++[encS (leafS l[k])]) c=(SB.arr 9 1 ((wsOf ((leafS l[k],1)::stackF (l.take k))).map encS) c).ren μ:=fun μ c=>by
    rw[cI eM rfl,fI,<-y];simp
   have i:∀(μ:Mu) (c:Nat),SB.arr 3 1 ([]++[encI 1]) c=(SB.arr 3 1 ((nsOf ((leafS l[k],1)::stackF (l.take k))).map encI) c).ren μ:=fun μ c=>by
    rw[cI eN rfl,fG,<-hS];simp
   have f:((leafS l[k],1)::stackF (l.take k)).length=1:=by rw[qf,<-gY,<-y];rfl
   refine⟨nb rfl,[encS (leafS l[k])],rfl,rfl,rfl,nb rfl,fun L h1=>?_⟩;refine⟨nb rfl,[encI 1],rfl,rfl,rfl,nb rfl,fun d1 g1=>?_⟩;conv=>whnf
   refine aI hΘ (X:={ x:Stk×Nat×Nat // x.1≠[]/\merge x.1=stackF (l.take (k+1))/\x.1.length<=9/\Gd (k+1) x.1/\x.1.length<=x.2.1/\x.1.length<=x.2.2 }) (fun x=>[(3,.va (.slice false 7 0 0 1 x.1.1.length x.1.2.1)),(4,.va (.slice false 8 0 0 1 x.1.1.length x.1.2.2)),(7,.va (.int .i64 x.1.1.length))]) (jr 27 46 [])
    (fun x=>[(0,.frz F1),(4,.gone),(6,.gone),(7,.one (.arr 9 1 ((wsOf x.1.1).map encS) x.1.2.1)),(8,.one (.arr 3 1 ((nsOf x.1.1).map encI) x.1.2.2))]) 9 (fun x=>x.1.1.length) ⟨((leafS l[k],1)::stackF (l.take k),L,d1),by simp,ay,by rw[f];omega,Z,by show((leafS l[k],1)::stackF (l.take k)).length<=L;rw[f];exact h1,by show((leafS l[k],1)::stackF (l.take k)).length<=d1;rw[f];exact g1⟩
    (fun V Y=>leI [(7,4),(8,6)] V Y rfl ⟨tv,tv,tv,bX eM 9 1 9 L (wsOf ((leafS l[k],1)::stackF (l.take k))),bX eN 3 1 9 d1 (nsOf ((leafS l[k],1)::stackF (l.take k))),tv⟩ ⟨⟨rfl,f,rfl,.inr ⟨rfl,rfl,rfl,rfl⟩⟩,⟨rfl,f,rfl,.inr ⟨rfl,rfl,rfl,rfl⟩⟩,eu (by rw[f];rfl),tv⟩ ⟨Fz.r F1,I _ L,i _ d1,tv⟩) ?_
  case' B=>
   obtain⟨w0,wr,n0,K,ae,ad,p,aq⟩:=h;subst ae;subst ad
   have I:∀(μ:Mu) (c:Nat),SB.arr 9 1 ((w0::wr).map encS++[encS (leafS l[k])]) c=(SB.arr 9 1 ((wsOf ((leafS l[k],1)::stackF (l.take k))).map encS) c).ren μ:=fun μ c=>by
    rw[cI eM rfl,fI,<-y];simp
   have i:∀(μ:Mu) (c:Nat),SB.arr 3 1 ((n0::K).map encI++[encI 1]) c=(SB.arr 3 1 ((nsOf ((leafS l[k],1)::stackF (l.take k))).map encI) c).ren μ:=fun μ c=>by
    rw[cI eN rfl,fG,<-hS];simp
   have f:((leafS l[k],1)::stackF (l.take k)).length=wr.length+1+1:=by rw[qf,<-gY,<-y];rfl
   refine⟨nb rfl,[encS (leafS l[k])],rfl,rfl,rfl,by simp,rfl,by show(wr.length+1+1)*16<=_;omega,fun L h1=>?_⟩;refine⟨nb rfl,[encI 1],rfl,rfl,rfl,by simp,rfl,by show(K.length+1+1)*8<=_;omega,fun d1 g1=>?_⟩;conv=>whnf
   refine aI hΘ (X:={ x:Stk×Nat×Nat // x.1≠[]/\merge x.1=stackF (l.take (k+1))/\x.1.length<=9/\Gd (k+1) x.1/\x.1.length<=x.2.1/\x.1.length<=x.2.2 }) (fun x=>[(3,.va (.slice false 7 0 0 1 x.1.1.length x.1.2.1)),(4,.va (.slice false 8 0 0 1 x.1.1.length x.1.2.2)),(7,.va (.int .i64 x.1.1.length))]) (jr 27 46 [])
    (fun x=>[(0,.frz F1),(4,.gone),(6,.gone),(7,.one (.arr 9 1 ((wsOf x.1.1).map encS) x.1.2.1)),(8,.one (.arr 3 1 ((nsOf x.1.1).map encI) x.1.2.2))]) 9 (fun x=>x.1.1.length) ⟨((leafS l[k],1)::stackF (l.take k),L,d1),by simp,ay,by rw[f];omega,Z,by show((leafS l[k],1)::stackF (l.take k)).length<=L;rw[f];exact h1,by show((leafS l[k],1)::stackF (l.take k)).length<=d1;rw[f];have g2:K.length+1+1<=d1:=g1;omega⟩
    (fun V Y=>leI [(7,4),(8,6)] V Y rfl ⟨tv,tv,tv,bX eM 9 1 9 L (wsOf ((leafS l[k],1)::stackF (l.take k))),bX eN 3 1 9 d1 (nsOf ((leafS l[k],1)::stackF (l.take k))),tv⟩ ⟨⟨rfl,f,rfl,.inr ⟨rfl,rfl,rfl,rfl⟩⟩,⟨rfl,(by rw[f];show wr.length+1+1=K.length+1+1;omega),rfl,.inr ⟨rfl,rfl,rfl,rfl⟩⟩,eu (by rw[f];show((wr.length+1+1:Nat):Int)=((K.length+1+1:Nat):Int);omega),tv⟩ ⟨Fz.r F1,I _ L,i _ d1,tv⟩) ?_
  all_goals
   rintro⟨⟨x,T,d2⟩,ai,J,M,s,O,Q⟩ an ap;replace ai:x≠[]:=ai;replace J:merge x=stackF (l.take (k+1)):=J;replace M:x.length<=9:=M;replace s:Gd (k+1) x:=s;replace O:x.length<=T:=O;replace Q:x.length<=d2:=Q;rcases x with _ | ⟨⟨b,n⟩,_ | ⟨⟨a,m⟩,r⟩⟩
   ·exact absurd rfl ai
   ·have ab:∀(μ:Mu) (c:Nat),SB.arr 9 1 ((wsOf [(b,n)]).map encS) c=(SB.arr 9 1 ([b].map encS) c).ren μ:=fun μ c=>by rw[cI eM rfl];rfl
    have ac:∀(μ:Mu) (c:Nat),SB.arr 3 1 ((nsOf [(b,n)]).map encI) c=(SB.arr 3 1 ([(n:Int)].map encI) c).ren μ:=fun μ c=>by rw[cI eN rfl];rfl
    have au:stackF (l.take (k+1))=[(b,n)]:=J.symm;have bb:RI1 l (k+1) [b] [(n:Int)]:=⟨g,by rw[au];rfl,by rw[au];rfl⟩
    have D:8 - (k+1) < 8 - k:=by omega
    have G:k < 4611686018427387904:=by omega
    refine dwS (lk [0,1,2,3,4,5,6,7,8,9,10,11,12,13,14] .done) [8] ?_;refine gaf ss ?_;exact⟨⟨(k+1,[b],[(n:Int)],T,d2),bb⟩,D,leRn [_,_,_] [_,_] [(1,7),(2,8)] V Y rfl ⟨tv,aC eM _ _ _ _ _,aC eN _ _ _ _ _,tv⟩ ⟨⟨rfl,rfl,rfl,.inr ⟨rfl,rfl,rfl,rfl⟩⟩,⟨rfl,rfl,rfl,.inr ⟨rfl,rfl,rfl,rfl⟩⟩,cnt G,tv⟩ ⟨l1,ab _ T,ac _ d2,tv⟩⟩
   ·have ba:(nsOf ((b,n)::(a,m)::r))[r.length]? =some (m:Int):=by rw[fG,fG];simp[nsOf]
    have a0:(nsOf ((b,n)::(a,m)::r))[r.length+1]? =some (n:Int):=by rw[fG,fG];simp[nsOf]
    have hw:wsOf ((b,n)::(a,m)::r)=((wsOf ((b,n)::(a,m)::r)).headD []::(wsOf ((b,n)::(a,m)::r)).tail):=rh [] (ye5 _ _);have hn:nsOf ((b,n)::(a,m)::r)=((nsOf ((b,n)::(a,m)::r)).headD 0::(nsOf ((b,n)::(a,m)::r)).tail):=rh 0 (yd4 _ _);have ab:∀(μ:Mu) (c:Nat),SB.arr 9 1 ((wsOf ((b,n)::(a,m)::r)).map encS) c=(SB.arr 9 1 (((wsOf ((b,n)::(a,m)::r)).headD []::(wsOf ((b,n)::(a,m)::r)).tail).map encS) c).ren μ:=fun μ c=>by rw[<-hw];exact(cI eM rfl _ _ _ _).symm
    have ac:∀(μ:Mu) (c:Nat),SB.arr 3 1 ((nsOf ((b,n)::(a,m)::r)).map encI) c=(SB.arr 3 1 (((nsOf ((b,n)::(a,m)::r)).headD 0::(nsOf ((b,n)::(a,m)::r)).tail).map encI) c).ren μ:=fun μ c=>by rw[<-hn];exact(cI eN rfl _ _ _ _).symm
    have bf:(wsOf ((b,n)::(a,m)::r)).tail.length+1=r.length+1+1:=by have h:=congrArg List.length hw;rw[gY]at h;exact h.symm
    have a8:(nsOf ((b,n)::(a,m)::r)).tail.length+1=r.length+1+1:=by have h:=congrArg List.length hn;rw[mj]at h;exact h.symm
    have aw:a.length<=100000000000:=by rw[s.1 (a,m) ss];decide
    have ax:b.length<=100000000000:=by rw[s.1 (b,n) ss];decide
    have a9:decide ((m:Int)=(n:Int))=false->RI1 l (k+1) ((wsOf ((b,n)::(a,m)::r)).headD []::(wsOf ((b,n)::(a,m)::r)).tail) ((nsOf ((b,n)::(a,m)::r)).headD 0::(nsOf ((b,n)::(a,m)::r)).tail):=fun h=>by
     have he:stackF (l.take (k+1))=((b,n)::(a,m)::r):=by rw[<-J];exact Cy (fun e=>absurd (oe h) (by simp[e]))
     exact⟨g,by rw[he,<-hw],by rw[he,<-hn]⟩
    have D:8 - (k+1) < 8 - k:=by omega
    have G:k < 4611686018427387904:=by omega
    replace M:r.length+1+1<=9:=M;replace O:r.length+1+1<=T:=O;replace Q:r.length+1+1<=d2:=Q;have j:IntKind.i64.wrap (((r.length+1+1:Nat):Int) - 2)=((r.length:Nat):Int):=by rw[aF oo oo];omega
    have e1:IntKind.i64.wrap (((r.length+1+1:Nat):Int) - 1)=((r.length+1:Nat):Int):=by rw[aF oo oo];omega
    have q2:0<=IntKind.i64.wrap (((r.length+1+1:Nat):Int) - 2)/\IntKind.i64.wrap (((r.length+1+1:Nat):Int) - 2) < ((r.length+1+1:Nat):Int):=by rw[j];omega
    have q1:0<=IntKind.i64.wrap (((r.length+1+1:Nat):Int) - 1)/\IntKind.i64.wrap (((r.length+1+1:Nat):Int) - 1) < ((r.length+1+1:Nat):Int):=by rw[e1];omega
    have p2:0<=IntKind.i64.wrap (((r.length+1+1:Nat):Int) - 2)/\IntKind.i64.wrap (((r.length+1+1:Nat):Int) - 2)<=(T:Int):=by rw[j];omega
    have p3:0<=IntKind.i64.wrap (((r.length+1+1:Nat):Int) - 2)/\IntKind.i64.wrap (((r.length+1+1:Nat):Int) - 2)<=(d2:Int):=by rw[j];omega
    have gm:((nsOf ((b,n)::(a,m)::r)).map encI)[0+(IntKind.i64.wrap (((r.length+1+1:Nat):Int) - 2)).toNat]? =some (encI m):=by rw[j,qg,qz,qu,ba];rfl
    have gn:((nsOf ((b,n)::(a,m)::r)).map encI)[0+(IntKind.i64.wrap (((r.length+1+1:Nat):Int) - 1)).toNat]? =some (encI n):=by rw[e1,qg,qz,qu,a0];rfl
    have bd:(wsOf ((b,n)::(a,m)::r))[r.length]? =some a:=by rw[fI,fI];simp[wsOf]
    have be:(wsOf ((b,n)::(a,m)::r))[r.length+1]? =some b:=by rw[fI,fI];simp[wsOf]
    have ga:((wsOf ((b,n)::(a,m)::r)).map encS)[0+(IntKind.i64.wrap (((r.length+1+1:Nat):Int) - 2)).toNat]? =some (encS a):=by rw[j,qg,qz,qu,bd];rfl
    have gb:((wsOf ((b,n)::(a,m)::r)).map encS)[0+(IntKind.i64.wrap (((r.length+1+1:Nat):Int) - 1)).toNat]? =some (encS b):=by rw[e1,qg,qz,qu,be];rfl
    have ht:((wsOf ((b,n)::(a,m)::r)).map encS).take r.length=(wsOf r).map encS:=by rw[fI,fI,ql,qq,qdt (by rw[qa,gY])]
    have bc:((nsOf ((b,n)::(a,m)::r)).map encI).take r.length=(nsOf r).map encI:=by rw[fG,fG,ql,qq,qdt (by rw[qa,mj])]
    have az:decide ((m:Int)=(n:Int))=true->m=n/\2*n<=8:=fun h=>by
     have h1:m=n:=by have:=od h;omega
     have h2:=s.2;simp only[q9,List.sum_cons]at h2;exact⟨h1,by omega⟩
    have aa:decide ((m:Int)=(n:Int))=true->∀q d3,(IntKind.i64.wrap (((r.length+1+1:Nat):Int) - 2)).toNat - 0+[encS (nodeS a b)].length<=q->(IntKind.i64.wrap (((r.length+1+1:Nat):Int) - 2)).toNat - 0+[encI (IntKind.i64.wrap (2*(n:Int)))].length<=d3->
      ((nodeS a b,2*n)::r)≠[]/\merge ((nodeS a b,2*n)::r)=stackF (l.take (k+1))/\((nodeS a b,2*n)::r).length<=9/\Gd (k+1) ((nodeS a b,2*n)::r)/\((nodeS a b,2*n)::r).length<=q/\((nodeS a b,2*n)::r).length<=d3:=fun h q d3 h3 h4=>by
     have hm:=(az h).1;rw[j]at h3 h4;refine⟨by simp,(Am hm).symm.trans J,by rw[qf];omega,s.join hm,?_,?_⟩
     ·rw[qf];simpa using h3
     ·rw[qf];simpa using h4
    have E:((nodeS a b,2*n)::r).length < ((b,n)::(a,m)::r).length:=by simp
    have n3:((nodeS a b,2*n)::r).length=(IntKind.i64.wrap (((r.length+1+1:Nat):Int) - 2)).toNat - 0+[encS (nodeS a b)].length:=by rw[j];simp
    have n4:((nodeS a b,2*n)::r).length=(IntKind.i64.wrap (((r.length+1+1:Nat):Int) - 2)).toNat - 0+[encI (IntKind.i64.wrap (2*(n:Int)))].length:=by rw[j];simp
    have n5:((((nodeS a b,2*n)::r).length:Nat):Int)=IntKind.i64.wrap (((r.length+1+1:Nat):Int) - 1):=by rw[e1];rfl
    have aj:∀(μ:Mu) (c:Nat),SB.arr 9 1 (((wsOf ((b,n)::(a,m)::r)).map encS).take ((IntKind.i64.wrap (((r.length+1+1:Nat):Int) - 2)).toNat - 0)++[encS (nodeS a b)]) c=(SB.arr 9 1 ((wsOf ((nodeS a b,2*n)::r)).map encS) c).ren μ:=fun μ c=>by
     rw[cI eM rfl,j,qg,qa7,ht,fI,qq];rfl
    have ak:∀(μ:Mu) (c:Nat),IntKind.i64.wrap (2*(n:Int))=((2*n:Nat):Int)->SB.arr 3 1 (((nsOf ((b,n)::(a,m)::r)).map encI).take ((IntKind.i64.wrap (((r.length+1+1:Nat):Int) - 2)).toNat - 0)++[encI (IntKind.i64.wrap (2*(n:Int)))]) c=(SB.arr 3 1 ((nsOf ((nodeS a b,2*n)::r)).map encI) c).ren μ:=fun μ c h=>by
     rw[cI eN rfl,j,qg,qa7,bc,fG,qq,h];rfl
    have a1:decide ((m:Int)=(n:Int))=true->IntKind.i64.wrap (2*(n:Int))=((2*n:Nat):Int):=fun h=>by
     have:=(az h).2;rw[aF oo oo];omega
    have f0:(if T=0 then 0 else 0+0)=0:=by split<;>rfl
    have f1:(if d2=0 then 0 else 0+0)=0:=by split<;>rfl
    have fl:(IntKind.i64.wrap (((r.length+1+1:Nat):Int) - 2)).toNat - 0<=((wsOf ((b,n)::(a,m)::r)).map encS).length:=by rw[j,qa,gY];simp;omega
    have al:(IntKind.i64.wrap (((r.length+1+1:Nat):Int) - 2)).toNat - 0<=((nsOf ((b,n)::(a,m)::r)).map encI).length:=by rw[j,qa,mj];simp;omega
    have am:((IntKind.i64.wrap (((r.length+1+1:Nat):Int) - 2)).toNat - 0+[encS (nodeS a b)].length)*16<=140737488355328:=by rw[j];simp;omega
    have U:∀z:Int,((IntKind.i64.wrap (((r.length+1+1:Nat):Int) - 2)).toNat - 0+[encI z].length)*8<=140737488355328:=fun z=>by rw[j];simp;omega
    refine dwS (lk [0,1,2,3,4,5,6,7,8,9,10,11,12,13,14] .done) [8] ?_;refine⟨fun _=>?_,fun g=>absurd g (by simp;omega)⟩;refine⟨rfl,q2,rfl,encI m,gm,rfl,q1,rfl,encI n,gn,?_⟩;refine br (fun u=>?_) (fun u=>?_)
    ·refine famW 7 rfl ?_;refine famW 8 rfl ?_;refine dwS (lk [0,1,2,3,4,5,6,7,9,10,11,12] (.alt 8 (.alt 13 (.alt 14 (.alt 15 (.alt 16 (.look 17 .done) .nil) .nil) .nil) .nil) (.alt 13 (.alt 8 (.alt 14 (.alt 15 (.alt 16 (.look 17 .done) .nil) .nil) .nil) .nil) .nil))) [] ?_;refine⟨p2,rfl,q2,rfl,q1,?_,?_⟩
     ·refine⟨⟨ym,rfl⟩,encS a,ga,Fz.r F1,⟨ym,rfl⟩,encS b,gb,Fz.r F1,?_⟩;refine useFs (rT F1 (hR.mono l1) a b aw ax) ?_;rintro _ w l2 rfl;refine⟨l2,Fz.r w,nb rfl,[encS (nodeS a b)],rfl,⟨ym,rfl⟩,f0,fl,qa7 _,am,fun q af=>?_⟩;refine⟨Fz.r w,?_⟩;refine dwS (lk [0,1,2,3,4,5,6,7] (.alt 8 (.look 9 (.alt 10 (.alt 11 (.look 12 .done) .nil) .nil)) .nil)) [] ?_;refine⟨p3,rfl,q1,⟨ym,rfl⟩,encI n,gn,Fz.r w,Fz.r w,nb rfl,[encI (IntKind.i64.wrap (2*(n:Int)))],rfl,⟨ym,rfl⟩,f1,al,qa7 _,U _,fun d3 ag=>?_⟩;refine⟨Fz.r w,?_⟩;exact⟨⟨((nodeS a b,2*n)::r,q,d3),aa u q d3 af ag⟩,E,leR [(7,10),(8,12)] an ap rfl ⟨tv,tv,tv,bX eM 9 1 9 q (wsOf ((nodeS a b,2*n)::r)),bX eN 3 1 9 d3 (nsOf ((nodeS a b,2*n)::r)),tv⟩ ⟨⟨rfl,n3,rfl,.inr ⟨rfl,rfl,rfl,rfl⟩⟩,⟨rfl,n4,rfl,.inr ⟨rfl,rfl,rfl,rfl⟩⟩,eu n5,tv⟩ ⟨l2,aj _ q,ak _ d3 (a1 u),tv⟩⟩
     ·refine⟨⟨ym,rfl⟩,encS b,gb,Fz.r F1,⟨ym,rfl⟩,encS a,ga,Fz.r F1,?_⟩;refine useFs (rT F1 (hR.mono l1) a b aw ax) ?_;rintro _ w l2 rfl;refine⟨l2,Fz.r w,nb rfl,[encS (nodeS a b)],rfl,⟨ym,rfl⟩,f0,fl,qa7 _,am,fun q af=>?_⟩;refine⟨Fz.r w,?_⟩;refine dwS (lk [0,1,2,3,4,5,6,7] (.alt 8 (.look 9 (.alt 10 (.alt 11 (.look 12 .done) .nil) .nil)) .nil)) [] ?_;refine⟨p3,rfl,q1,⟨ym,rfl⟩,encI n,gn,Fz.r w,Fz.r w,nb rfl,[encI (IntKind.i64.wrap (2*(n:Int)))],rfl,⟨ym,rfl⟩,f1,al,qa7 _,U _,fun d3 ag=>?_⟩;refine⟨Fz.r w,?_⟩;exact⟨⟨((nodeS a b,2*n)::r,q,d3),aa u q d3 af ag⟩,E,leR [(7,10),(8,12)] an ap rfl ⟨tv,tv,tv,bX eM 9 1 9 q (wsOf ((nodeS a b,2*n)::r)),bX eN 3 1 9 d3 (nsOf ((nodeS a b,2*n)::r)),tv⟩ ⟨⟨rfl,n3,rfl,.inr ⟨rfl,rfl,rfl,rfl⟩⟩,⟨rfl,n4,rfl,.inr ⟨rfl,rfl,rfl,rfl⟩⟩,eu n5,tv⟩ ⟨l2,aj _ q,ak _ d3 (a1 u),tv⟩⟩
    ·exact⟨⟨(k+1,((wsOf ((b,n)::(a,m)::r)).headD []::(wsOf ((b,n)::(a,m)::r)).tail),((nsOf ((b,n)::(a,m)::r)).headD 0::(nsOf ((b,n)::(a,m)::r)).tail),T,d2),a9 u⟩,D,leRn [_,_,_] [_,_] [(1,7),(2,8)] V Y rfl ⟨tv,aC eM _ _ _ _ _,aC eN _ _ _ _ _,tv⟩ ⟨⟨rfl,bf,rfl,.inr ⟨rfl,rfl,rfl,rfl⟩⟩,⟨rfl,a8,rfl,.inr ⟨rfl,rfl,rfl,rfl⟩⟩,cnt G,tv⟩ ⟨l1,ab _ T,ac _ d2,tv⟩⟩
 ·have av:k=l.length:=by omega
  have a3:W=[R]:=by rw[y,av,yv,ao];rfl
  have a2:S=[8]:=by rw[hS,av,yv,ao];rfl
  have a7:¬(k:Int) < (l.length:Int):=by omega
  subst a3;subst a2;refine brj a7 ?_;refine brd dd ⟨rfl,by decide,rfl,encS R,rfl,⟨by decide,by show(0:Int)<=(c:Int);omega⟩,?_⟩;refine g9 hΘ func115 rfl dd _ _ rfl rfl rfl (ef hΘ _ _ _ ?_);refine D6 rfl rfl rfl ?_;refine⟨rfl,rfl,?_⟩;exact endFs (.ret (.va (.str R))) (Fz.r F) rfl
theorem rootF(l:List (List UInt8))(i:l.length=8):stackF l=[(root8 l,8)]:=by
 match l,i with
 |[a,b,c,d,e,f,g,h],_=>exact yg3 a b c d e f g h
theorem lX(F:Fz)(d:RNDF F)(a:SA)(l:List (List UInt8))(b:Sl F 9 1 encS a l)(c:l.length=8)(s:∀x∈l,x.length<=900000000000):
  Fo prog F 17 [.va a] (fun o _=>o=.ret (.va (.str (root8 l)))):=by
 have h:=yek F d a l b c s (root8 l) (rootF l c);obtain⟨p,k,n,m,j,q,rfl,e,f,g,i⟩:=b;refine foS func17 ?_;refine useFs h ?_;rintro _ F1 u rfl;exact endFs (.ret (.va (.str (root8 l)))) u rfl
def atV(A:List (List UInt8))(p:Int):List UInt8:=A[(p - 1).toNat]?.getD []
def chkAt(A B:List (List UInt8))(x:Kp):Bool:=decide (x.2=[(6,0)])||(decide ((cQ x.1 x.2 (atV A x.1)).2=0)&&decide ((cQ x.1 x.2 (atV A x.1)).1=atV B x.1))
theorem yde(F:Fz)(d:SA)(l:List Stp)(e:bD F d l)(u:l.length < 1000000):
  Fo prog F 60 [.va d] (fun o _=>o=.ret (.va (.bool (decide (l=[(6,0)]))))):=by
 have c:=fun F1 (a:Fz.le F F1) w hb=>ki F1 d w l [(6,0)] (e.mono a) hb u
 obtain⟨p,k,n,m,j,q,rfl,f,g,h,i⟩:=e;refine foS func60 ?_;refine bM 1 (fun _=>.arr 56 2 ([(6,0)].map enc) 1) ?_;intro b F1 a hb;have s:=c F1 a _ (Sl.new (l:=[(6,0)]) (cap:=1) (hb 0 rfl));refine usePt s ?_;exact endFs (.ret (.va (.bool (decide (l=[(6,0)]))))) a rfl
variable {A:List (List UInt8)}
theorem yS{p:Int}(a:A.length=8)(b:1<=p/\p<=8):A[(p - 1).toNat]? =some (atV A p):=by
 unfold atV;rw[qc (show(p - 1).toNat < A.length by omega)];rfl
theorem zo(F:Fz)(hM:MLF F)(f n q:SA)(A B:List (List UInt8))(E bB:Nat)(x:Kp)(j:bD F f x.2)(w:x.2.length < 1000000)(hA:Sl F 9 1 encS n A)(hB:Sl F 9 1 encS q B)(g:A.length=8)(i:B.length=8)
  (ab:F E=some (.cells 34 [n]))(ac:F bB=some (.cells 34 [q]))(y:1<=x.1/\x.1<=8)(hs:∀s∈A,s.length<=1000000000000000000):
  Fo prog F 58 [.agg [.int .i64 x.1,f],.va (.ptr (fp E)),.va (.ptr (fp bB))] (fun o _=>o=.ret (.va (.bool (!chkAt A B x)))):=by
 obtain⟨p,l⟩:=x;replace y:1<=p/\p<=8:=y;replace w:l.length < 1000000:=w;replace j:bD F f l:=j;have gA:=yS g y;have gB:=yS i y;have a:=wN F hM f l p (atV A p) j w (hs _ (yx gA));have b:=fun F1 (c:Fz.le F F1)=>yde F1 f l (j.mono c) w
 have hw:IntKind.i64.wrap (p - 1)=p - 1:=aF oo oo;have qA:0<=IntKind.i64.wrap (p - 1)/\IntKind.i64.wrap (p - 1) < (A.length:Int):=by rw[hw];omega
 have qB:0<=IntKind.i64.wrap (p - 1)/\IntKind.i64.wrap (p - 1) < (B.length:Int):=by rw[hw];omega
 have m:∀(L:List (List SA)) (e:Nat) (C:List (List UInt8)),(L.drop e).take C.length=C.map encS->C.length=8->C[(p - 1).toNat]? =some (atV C p)->L[e+(IntKind.i64.wrap (p - 1)).toNat]? =some (encS (atV C p)):=by
  intro L e C h1 h2 h3;have h4:=Sl.at h1 (k:=(p - 1).toNat) oo;rw[hw];rw[qc (show(p - 1).toNat < C.length by omega)]at h3;rw[Option.some.inj h3]at h4;exact h4
 show Fo prog F 58 [.agg [.int .i64 p,f],.va (.ptr (fp E)),.va (.ptr (fp bB))] (fun o F'=>o=.ret (.va (.bool (!(decide (l=[(6,0)])||(decide ((cQ p l (atV A p)).2=0)&&decide ((cQ p l (atV A p)).1=atV B p)))))));obtain⟨R,hR⟩:∃R,cQ p l (atV A p)=R:=⟨_,rfl⟩
 rw[hR]at a ⊢;obtain⟨t,e⟩:=R;clear hR;obtain⟨U,ag,T,ah,S,ai,rfl,M,O,af,Q⟩:=hA;obtain⟨aa,ak,Z,al,Y,am,rfl,V,W,aj,X⟩:=hB;have rA:=m S T A Q g gA;have rB:=m Y Z B X i gB;have nA:U=false:=Sl.lt M (show 0 < A.length by omega);have nB:aa=false:=Sl.lt V (show 0 < B.length by omega);generalize atV A p=va at*;generalize atV B p=vb at*;obtain⟨ax,au,aw,av,ar,ay,rfl,an,ao,ap,aq⟩:=j
 have fin:∀(v:Bool) (F1:Fz) (h:Hp) (nx:Nat),(!(decide (l=[(6,0)])||(decide (e=0)&&decide (t=vb))))=v->lget h 0=some (.frz F1)->Fz.le F F1->Cln 1 (FoK F fun o F'=>o=.ret (.va (.bool (!(decide (l=[(6,0)])||(decide (e=0)&&decide (t=vb))))))) (.ret (.va (.bool v))) h nx:=by
  intro v F1 h nx hv h0 ae;exact endFo (.ret (.va (.bool v))) F1 h0 ae (Fz.r F1) (by rw[hv]) rfl rfl
 refine foS func58 ?_;refine dwS (lk [0,1,2,3,4,5,6,7,8,9] (.alt 10 (lk [11,12,13,14,15] .done) .nil)) [1] ?_;refine⟨rfl,rfl,rfl,_,ab,rfl,nA,qA,rfl,_,O nA,_,rA,?_⟩;refine useFs a ?_;rintro _ F1 c rfl;have ad:=b F1 c;refine⟨c,rfl,?_⟩;refine useFs ad ?_;rintro _ D l2 rfl;refine⟨fun u=>?_,fun u=>?_⟩
 rotate_left
 ·exact fin false D _ _ (by rw[show decide (l=[(6,0)])=true by simpa using u];rfl) rfl (Fz.t c l2)
 refine⟨fun G=>?_,fun G=>?_⟩
 ·have d:=Fz.t c l2;have K:decide (l=[(6,0)])=false:=by simpa using u
  have J:decide (e=0)=true:=by
   have I:(!decide (e=0))=false:=G;simpa using I
  refine⟨_,d _ _ ac,nB,qB,_,d _ _ (W nB),_,rB,?_⟩;exact fin _ D _ _ (by rw[K,J,<-beqD rfl];rfl) rfl d
 ·have J:decide (e=0)=false:=by
   have I:(!decide (e=0))=true:=G;simpa using I
  have K:decide (l=[(6,0)])=false:=by simpa using u
  exact fin true D _ _ (by rw[K,J];rfl) rfl (Fz.t c l2)
theorem BF(F:Fz)(hM:MLF F)(sk f i:SA)(A B:List (List UInt8))(u bB:Nat)(b:List Kp)(hk:ClsAt F sk b)(hs:short b)(hl:b.length < 1000000)(Z:Sl F 9 1 encS f A)(hB:Sl F 9 1 encS i B)(E:A.length=8)(I:B.length=8)(L:F u=some (.cells 34 [f]))(M:F bB=some (.cells 34 [i]))(hx:∀x∈b,1<=x.1/\x.1<=8)(Q:∀s∈A,s.length<=1000000000000000000):
  Fo prog F 125 [.va sk,.va (.fn (.func 58) [fp u,fp bB])] (fun o _=>o=.ret (.va (.int .i64 (idxN (chkAt A B) b 0)))):=by
 obtain⟨kn,kb,ke,kc,kL,kr,rfl,U,k2,k3,k4⟩:=hk
 have fin:∀(x:Int) (F1:Fz) (h:Hp) (nx:Nat),idxN (chkAt A B) b 0=x->lget h 0=some (.frz F1)->Fz.le F F1->
   Cln 1 (FoK F fun o W=>o=.ret (.va (.int .i64 (idxN (chkAt A B) b 0)))) (.ret (.va (.int .i64 x))) h nx:=by
  intro x F1 h nx hv Y O;exact endFo (.ret (.va (.int .i64 x))) F1 Y O (Fz.r F1) (by rw[hv]) rfl rfl
 refine foS func125 ?_;conv=>whnf
 refine aI hΘ (X:={ x:Nat×Fz // Fz.le F x.2/\x.1<=b.length/\idxN (chkAt A B) b 0=idxN (chkAt A B) (b.drop x.1) x.1 }) (fun x=>[(8,.va (.int .i64 x.1.1))]) (4::5::jr 9 10 []) (fz fun x=>x.1.2) 1 (fun x=>b.length - x.1.1) ⟨(0,F),Fz.r F,by simp,by simp⟩
  (fun J K=>leI [] J K rfl ⟨tv,tv⟩ ⟨rfl,tv⟩ ⟨Fz.r F,tv⟩) ?_
 rintro⟨⟨k,G⟩,c,n,e⟩ J K;replace c:Fz.le F G:=c;replace n:k<=b.length:=n;replace e:idxN (chkAt A B) b 0=idxN (chkAt A B) (b.drop k) k:=e;by_cases g:k < b.length
 ·have p:(k:Int) < (b.length:Int):=by omega
  have l:b.length - (k+1) < b.length - k:=by omega
  have m:k < 4611686018427387904:=by omega
  have R:=hs b[k] (qt g);have S:=hx b[k] (qt g);rw[vP (chkAt A B) b k g]at e;have j:=SlR.at k4 g;obtain⟨y,hy,a,rfl,T⟩:=j;have d:=zo G (hM.mono c) a f i A B u bB b[k] (T.mono c) R (Z.mono c) (hB.mono c) E I (c _ _ L) (c _ _ M) S Q;obtain⟨ai,af,ah,ag,ae,aj,rfl,aa,ab,ac,ad⟩:=T;refine bri p ⟨SlR.lt U g,⟨by simp,p⟩,_,c _ _ (k2 (SlR.lt U g)),_,hy,?_⟩;refine useFs d ?_;rintro _ q V rfl;refine br (fun w=>?_) (fun w=>?_)
  ·exact fin _ q _ _ (e.trans (if_pos (by have D:(!(chkAt A B) b[k])=true:=w;simpa using D))) rfl (Fz.t c V)
  ·conv=>whnf
   have D:(!(chkAt A B) b[k])=false:=w;exact⟨⟨(k+1,q),Fz.t c V,g,e.trans (if_neg (by rw[show(chkAt A B) b[k]=true by simpa using D];simp))⟩,l,leR [] J K rfl ⟨tv,tv⟩ ⟨cnt m,tv⟩ ⟨Fz.r q,tv⟩⟩
 ·have p:¬(k:Int) < (b.length:Int):=by omega
  rw[yg oo]at e;refine brj p ?_;exact fin _ G _ _ e rfl c
theorem Bx(F:Fz)(n:MLF F)(sk b c:SA)(A B:List (List UInt8))(d bB:Nat)(a:List Kp)(k:ClsAt F sk a)(q:short a)(p:a.length < 1000000)(l:Sl F 9 1 encS b A)(m:Sl F 9 1 encS c B)(e:A.length=8)(f:B.length=8)(g:F d=some (.cells 34 [b]))(i:F bB=some (.cells 34 [c]))(u:∀x∈a,1<=x.1/\x.1<=8)(j:∀s∈A,s.length<=1000000000000000000):
  Fo prog F 57 [.va sk,.va (.fn (.func 58) [fp d,fp bB])] (fun o _=>o=.ret (.va (.bool (!a.all (chkAt A B))))):=by
 have h:=BF F n sk b c A B d bB a k q p l m e f g i u j;obtain⟨O,K,M,L,J,Q,rfl,D,E,G,I⟩:=k;refine foS func57 ?_;refine useFs h ?_;rintro _ F1 w rfl;exact endFo (.ret (.va (.bool (!a.all (chkAt A B))))) F1 rfl w (Fz.r F1) rfl (ob (xx (chkAt A B) a).symm) rfl
def bJ(c:Crt)(A B:List (List UInt8)):Bool:=crtOk c&&((decide (A.length=8)&&decide (B.length=8))&&(decide (root8 A=c.src)&&(decide (root8 B=c.dst)&&c.cl.all (chkAt A B))))
theorem ui:∀(l:List Kp) (i:Int),clOk l i=true->∀x∈l,i<=x.1/\x.1 < i+l.length
 |[],_,_=>fun x hx=>by simp at hx
 |y::r,i,h=>fun x hx=>by
  rw[clOk,qd]at h
  have h1:y.1=i:=by
   have:=h.1;simp only[clAt,qd,decide_eq_true_eq]at this;exact this.1
  rcases qi.1 hx with rfl | hx
  ·simp only[qf];omega
  ·have:=ui r (i+1) h.2 x hx;simp only[qf];omega
variable {c:Crt}
theorem jK(h:crtOk c=true):c.cl.length=8/\∀x∈c.cl,1<=x.1/\x.1<=8:=by
 simp only[crtOk,qd,decide_eq_true_eq]at h;refine⟨h.2.2.2.2.1,fun x a=>?_⟩;have:=ui c.cl 1 h.2.2.2.2.2 x a;rw[h.2.2.2.2.1]at this;omega
variable {B:List (List UInt8)}
theorem kC1(h:decide ((A.length:Int)=8)=false):bJ c A B=false:=by
 have:decide (A.length=8)=false:=by simp at h ⊢;omega
 simp only[bJ,this,jv,yk]
theorem kC2(h:(!decide ((B.length:Int)=8))=true):bJ c A B=false:=by
 have:decide (B.length=8)=false:=by simp at h ⊢;omega
 simp only[bJ,this,jv,yk]
theorem kC3(h:(!crtOk c)=true):bJ c A B=false:=by
 have:crtOk c=false:=by simpa using h
 simp only[bJ,this,jv]
theorem kC4(h:(!(root8 A==c.src))=true):bJ c A B=false:=by
 have h1:(root8 A==c.src)=false:=by simpa using h
 simp only[bJ,beqD h1,jv,yk]
theorem kC5(h:(!(root8 B==c.dst))=true):bJ c A B=false:=by
 have h1:(root8 B==c.dst)=false:=by simpa using h
 simp only[bJ,beqD h1,jv,yk]
theorem kC6(h1:decide ((A.length:Int)=8)=true)(g:(!decide ((B.length:Int)=8))=false)(h:(!crtOk c)=false)(i:(!(root8 A==c.src))=false)(j:(!(root8 B==c.dst))=false):bJ c A B= !(!c.cl.all (chkAt A B)):=by
 have a:decide (A.length=8)=true:=by simp at h1 ⊢;omega
 have b:decide (B.length=8)=true:=by simp at g ⊢;omega
 have d:crtOk c=true:=by simpa using h
 have e:(root8 A==c.src)=true:=by simpa using i
 have f:(root8 B==c.dst)=true:=by simpa using j
 simp only[bJ,a,b,d,beqD e,beqD f,yz,Bool.not_not]
theorem lW(F:Fz)(hM:MLF F)(hR:RNDF F)(sk f g:SA)(c:Crt)(A B:List (List UInt8))(hk:ClsAt F sk c.cl)(K:short c.cl)(hl:c.cl.length < 1000000)(I:Sl F 9 1 encS f A)(J:Sl F 9 1 encS g B)
  (E:∀s∈A,s.length<=900000000000)(ag:∀s∈B,s.length<=900000000000):
  Fo prog F 22 [.agg (crtS c sk),.va f,.va g] (fun o _=>o=.ret (.va (.bool (bJ c A B)))):=by
 have d:=gP F sk c hk K hl;have y:=fun F1 (a:Fz.le F F1) n=>lX F1 (hR.mono a) f A (I.mono a) n E
 have D:=fun F1 (a:Fz.le F F1) n=>lX F1 (hR.mono a) g B (J.mono a) n ag
 have e:=fun F1 (a:Fz.le F F1) M bB (n:A.length=8) (X:B.length=8) (L:crtOk c=true) i j=>Bx F1 (hM.mono a) sk f g A B M bB c.cl (KpsAt.up hk a) K hl (I.mono a) (J.mono a) n X i j (jK L).2 (fun s K=>jm (E s K) dd)
 have O:=kC1 (c:=c) (A:=A) (B:=B);have e2:=kC2 (c:=c) (A:=A) (B:=B);have Q:=kC3 (c:=c) (A:=A) (B:=B);have S:=kC4 (c:=c) (A:=A) (B:=B);have T:=kC5 (c:=c) (A:=A) (B:=B);have m:=kC6 (c:=c) (A:=A) (B:=B);obtain⟨v,L⟩:∃v,bJ c A B=v:=⟨_,rfl⟩
 rw[L]at O e2 Q S T m ⊢;clear L;obtain⟨w,hw⟩:∃w,crtOk c=w:=⟨_,rfl⟩
 rw[hw]at d Q m e;clear hw;obtain⟨RA,u⟩:∃R,root8 A=R:=⟨_,rfl⟩
 obtain⟨RB,x⟩:∃R,root8 B=R:=⟨_,rfl⟩
 rw[u]at y S m;rw[x]at D T m;clear u x;obtain⟨src,ah,ay,ks⟩:=c;have ai:=I;have ap:=J;obtain⟨ab,Y,aa,Z,an,ao,rfl,aj,ak,al,am⟩:=I;obtain⟨af,ac,ae,ad,aw,ax,rfl,aq,ar,au,av⟩:=J;obtain⟨kn,kb,ke,kc,kL,kr,rfl,k1,k2,k3,k4⟩:=hk
 have fin:∀(b:Bool) (F1:Fz) (h:Hp) (nx:Nat),v=b->lget h 0=some (.frz F1)->Fz.le F F1->Cln 1 (FoK F fun o F'=>o=.ret (.va (.bool v))) (.ret (.va (.bool b))) h nx:=by
  intro b F1 h nx hb W k;exact endFo (.ret (.va (.bool b))) F1 W k (Fz.r F1) (by rw[hb]) rfl rfl
 have finL:∀(b:Bool) (F1:Fz) (h:Hp) (nx:Nat),v=b->lget h 0=some (.frz F1)->Fz.le F F1->Cln 1 (FoK F fun o F'=>o=.ret (.va (.bool v))) (.ret (.va (.lit b))) h nx:=by
  intro b F1 h nx hb W k;exact endFo (.ret (.va (.bool b))) F1 W k (Fz.r F1) (by rw[hb]) rfl rfl
 refine foS func22 ?_;refine⟨fun gA=>?_,fun gA=>?_⟩
 rotate_left
 ·refine dwS (.look 0 (.alt 1 (lk [2,3,4,5,6,7,8,10,11] (.alt 9 (lk [12,13,14,15,17,18] (.alt 16 (.look 19 (.look 20 .done)) .nil)) .nil)) .nil)) [1,2,3] ?_;refine⟨rfl,?_⟩;refine useFs d ?_;rintro _ F1 a rfl;refine⟨a,rfl,rfl,rfl,fun l=>?_,fun l=>?_⟩
  ·exact fin false F1 _ _ (O gA) rfl a
  ·exact fin false F1 _ _ (O gA) rfl a
 refine dwS (.look 0 (.alt 1 (lk [2,3,4,5,6,7,8,10,11] (.alt 9 (lk [12,13,14,15,17,18] (.alt 16 (.look 19 (.look 20 .done)) .nil)) .nil)) .nil)) [1,2,3] ?_;refine⟨rfl,?_⟩;refine useFs d ?_;rintro _ F1 a rfl;refine⟨a,rfl,rfl,rfl,fun l=>?_,fun l=>?_⟩
 rotate_left
 ·exact fin false F1 _ _ (Q l) rfl a
 refine⟨fun G=>?_,fun G=>?_⟩
 rotate_left
 ·exact fin false F1 _ _ (e2 G) rfl a
 have p:A.length=8:=by have:=od gA;omega
 have q:B.length=8:=by
  have h:decide ((B.length:Int)=8)=true:=by simpa using G
  have:=od h;omega
 refine⟨rfl,rfl,?_⟩;refine useFs (y F1 a p) ?_;rintro _ F2 l2 rfl;have m2:=Fz.t a l2;refine⟨l2,rfl,rfl,rfl,fun U=>?_,fun U=>?_⟩
 rotate_left
 ·exact fin false F2 _ _ (S U) rfl m2
 refine⟨rfl,rfl,?_⟩;refine useFs (D F2 m2 q) ?_;rintro _ F3 l3 rfl;have m3:=Fz.t m2 l3;refine⟨l3,rfl,rfl,rfl,?_⟩;refine br (fun V=>?_) (fun V=>?_)
 ·exact fin false F3 _ _ (T V) rfl m3
 refine bM 2 (fun _=>.cells 34 [.slice ab 0 Y aa 1 A.length Z]) ?_;intro M F4 l4 i;refine bM 3 (fun _=>.cells 34 [.slice af 0 ac ae 1 B.length ad]) ?_;intro bB F5 l5 j;have m5:=Fz.t m3 (Fz.t l4 l5);refine useFs (e F5 m5 (M 0) (bB 0) p q (by simpa using l) (l5 _ _ (i 0 rfl)) (j 0 rfl)) ?_;rintro _ F6 l6 rfl;exact fin _ F6 _ _ (m gA G l U V) rfl (Fz.t m5 l6)
end Go.Proofs.YtfnkamphhpldcaaGreatDoor
namespace Go.Proofs.YtfnkamphhpldcaaGreatDoor
open Go Sx Tryz
theorem ye3(n:Int):unz (cE n)=n:=by
 grind[cE,unz]
theorem rX(z:Nat):putZ z≠[]:=by
 grind[fx,gq]
theorem yV(z:Nat):∀(r:List UInt8) (f i acc:Nat),(putZ z).length<=f->∃b,decZ (putZ z++r) f i acc=some (acc+z*128^i,i+((putZ z).length - 1),b)/\(b=0->z=0):=by
 induction z using Nat.strongRecOn with
 |_ z ih=>
  intro r f i acc a;by_cases c:z < 128
  ·rw[fx c]at a ⊢;obtain⟨f,rfl⟩:∃g,f=g+1:=⟨f - 1,by simp at a;omega⟩
   have e:(UInt8.ofNat z).toNat=z:=by rw[qap];exact ju oo
   refine⟨UInt8.ofNat z,?_,fun h=>?_⟩
   ·rw[jz,qw,decZ,if_neg (by rw[e];omega),e];rfl
   simp_all
  ·have h1:=ih (z / 128) oo;rw[gq c]at a ⊢;obtain⟨f,rfl⟩:∃g,f=g+1:=⟨f - 1,by simp at a;omega⟩
   have e:(UInt8.ofNat (z % 128+128)).toNat=z % 128+128:=by rw[qap];exact ju oo
   obtain⟨b,k,o⟩:=h1 r f (i+1) (acc+(z % 128+128) % 128*128^i) (by simp at a;omega);have n:0 < (putZ (z / 128)).length:=qbi.2 (rX _);refine⟨b,?_,fun hb=>?_⟩
   ·rw[jz,decZ,if_pos (by rw[e];omega),e,k,qck]
    have d:acc+(z % 128+128) % 128*128^i+z / 128*(128^i*128)=acc+z*128^i:=by
     have l:z*128^i=(z % 128+128*(z / 128))*128^i:=by rw[Nat.mod_add_div]
     have m:(z % 128+128) % 128=z % 128:=by omega
     rw[l,m,qb1,qae (128^i) 128,<-qcr,qae (z / 128) 128];omega
    rw[d,qf];have j:i+1+((putZ (z / 128)).length - 1)=i+((putZ (z / 128)).length+1 - 1):=by omega
    rw[j]
   grind
def okI(n:Int):Prop:=-4611686018427387903<=n/\n<=4611686018427387903
variable {n:Int}
theorem fu(h:okI n):(putIR n).1=putI n:=by
 grind[okI,putIR]
theorem iW(n:Int):putI n≠[]:=rX _
theorem dQ(a r:List UInt8)(h:okI n):getI (a++(putI n++r)) (a.length:Nat)=(n,(((a++putI n).length:Nat):Int),0):=by
 have c:=ku n h;have d:0 < (putI n).length:=qbi.2 (iW n);obtain⟨b,h1,e⟩:=yV (cE n) r 9 0 0 c;rw[getI,if_neg (by rw[qb];omega),qg,qc0]
 grind[ye3,List.length_append,fx,decZ,okI,putZ,cE,putI]
theorem mf(a r t:List UInt8)(h:t.length<=65536):getS (a++((putSR t).1++r)) (a.length:Nat)=(t,(((a++(putSR t).1).length:Nat):Int),0):=by
 have e:(putSR t).1=putI t.length++t:=by rw[putSR,if_neg oo]
 have b:okI (t.length:Int):=by unfold okI;omega
 rw[e];have f:=dQ a (t++r) b;rw[ql,getS,f];dsimp only;rw[if_neg ss,if_neg]
 ·have c:((((a++putI t.length).length:Nat):Int)+(t.length:Int)).toNat=(a++putI t.length++t).length:=by
   rw[qb (bs:=t)];omega
  have d:a++(putI t.length++(t++r))=(a++putI t.length++t)++r:=by simp only[ql]
  rw[c,d,List.take_left,qg,qc0];refine Prod.ext rfl (Prod.ext ?_ rfl);show(((a++putI t.length).length:Nat):Int)+(t.length:Int)=_;show _=(((a++(putI t.length++t)).length:Nat):Int);simp only[qb];omega
 grind
theorem Av(a r:List UInt8){c b:Int}(h:okI n)(d:c<=n/\n<=b):aX (a++(putI n++r)) (a.length:Nat) c b=true:=by
 grind[cy,dQ]
theorem ydd{acc:List Int}(a:∀x∈acc,okI x)(k:Nat):okI (acc.getD k 0):=by
 grind[List.mem_of_getElem?,okI]
theorem yfk{p:Int}{acc:List Int}(a:∀x∈acc,okI x){x:Int}(h:(bnd p acc).1<=x/\x<=(bnd p acc).2):okI x:=by
 grind[ydd,bnd,okI]
theorem oj(x:Int)(r:List Int):aB (x::r)=(putIR x).1++aB r:=rfl
theorem wb{p:Int}(r:List UInt8):∀(n acc:List Int) (a:List UInt8),(∀x∈acc,okI x)->dK p acc n->numsS (a++(aB n++r)) p n.length acc (a.length:Nat)=some (acc++n,(((a++aB n).length:Nat):Int))
 |[],acc,a,_,_=>by
  grind[aB,numsS,okI,dK]
 |x::n,acc,a,ha,h=>by
  have b:=yfk ha h.1;have ih:=wb r n (acc++[x]) (a++putI x) (fun z c=>by rcases yd.1 c with h | h;exact ha z h;rw[qs.1 h];exact b) h.2
  grind[oj,fu,List.length_cons,Av,dQ,List.append_assoc,List.singleton_append,numsS,aB,okI,dK,putI]
theorem Ab{p:Int}{a:List Ln}{x:Ln}(b r:List UInt8)(h:lnOk p a x):lineS (b++(lineW p x++r)) p a (b.length:Nat)=some (x,(((b++lineW p x).length:Nat):Int)):=by
 unfold lnOk at h
 grind[mf,wb,lineS,putSR,cols,aB,lineW]
theorem uy{p:Int}(r:List UInt8):∀(l acc:List Ln) (a:List UInt8),lnsOk p acc l->bZ (a++((l.map (lineW p)).flatten++r)) p l.length acc (a.length:Nat)=some (acc++l,(((a++(l.map (lineW p)).flatten).length:Nat):Int))
 |[],acc,a,_=>by
  grind[bZ,lineW,lnsOk]
 |x::l,acc,a,h=>by
  have ih:=uy r l (acc++[x]) (a++lineW p x) h.2
  grind[List.flatten_cons,List.length_cons,Ab,List.append_assoc,List.singleton_append,bZ,lineW,lnsOk]
theorem v8(h:okI n):aB [n]=putI n:=by
 rw[oj,fu h];exact qx _
theorem pd{m:Int}(h:okI n)(a:okI m):aB [n,m]=putI n++putI m:=by
 grind[oj,fu,v8]
theorem EA{p:Int}{v:Val}(u:1<=p/\p<=8)(c:VOK p v):readS p (bE p v)=some v:=by
 rcases c with rfl | ⟨l,c⟩
 ·grind[bE,loseV,readS]
 obtain⟨k,L,w,h,bits⟩:=v;replace l:k=false:=l;subst l;dsimp only at c;by_cases i:p=8
 ·rw[if_pos i]at c;obtain⟨rfl,rfl,m,hh⟩:=c;have f:okI w:=by unfold okI;omega
  have d:okI h:=by unfold okI;omega
  have e:bE p ⟨false,[],w,h,[]⟩=putI w++putI h:=by
   rw[bE,if_neg ss,if_pos oo,if_neg oo,qx,pd f d]
  have a:=dQ [] (putI h) f;have b:=dQ (putI w) [] d;rw[qw,qw]at a;rw[qx]at b;replace a:getI (putI w++putI h) 0=(w,((putI w).length:Int),0):=a;rw[e,readS,if_neg oo,if_neg (by simp[iW]),if_pos i,a];dsimp only
  grind[aX,putI,getI,okI,bE]
 rw[if_neg i]at c;by_cases g:6<=p
 ·rw[if_pos g]at c;obtain⟨rfl,m,hh,hb⟩:=c;have f:okI w:=by unfold okI;omega
  have d:okI h:=by unfold okI;omega
  by_cases j:p=7
  ·rw[if_pos j]at hb
   have n:bits.length<=65536:=by
    have s:w*h<=32*h:=qcn m.2 oo;omega
   have e:bE p ⟨false,[],w,h,bits⟩=putI w++(putI h++(putSR bits).1):=by
    rw[bE,if_neg ss,if_pos oo,if_pos j,pd f d,ql]
   have a:=dQ [] (putI h++(putSR bits).1) f;have b:=dQ (putI w) (putSR bits).1 d;have o:=mf (putI w++putI h) [] bits n;rw[qw,qw]at a;rw[qx,ql (putI w)]at o;replace a:getI (putI w++(putI h++(putSR bits).1)) 0=(w,((putI w).length:Int),0):=a;rw[e,readS,if_neg oo,if_neg (by simp[iW]),if_neg i,if_pos g,a];dsimp only;rw[b];dsimp only;rw[if_pos ⟨cy.2 (by rw[a];exact⟨rfl,m⟩),cy.2 (by rw[b];exact⟨rfl,hh⟩)⟩,if_pos j,o];exact if_pos ⟨rfl,hb.1,hb.2,by rfl⟩
  ·rw[if_neg j]at hb;subst hb
   have e:bE p ⟨false,[],w,h,[]⟩=putI w++putI h:=by
    rw[bE,if_neg ss,if_pos oo,if_neg oo,qx,pd f d]
   have a:=dQ [] (putI h) f;have b:=dQ (putI w) [] d;rw[qw,qw]at a;rw[qx]at b;replace a:getI (putI w++putI h) 0=(w,((putI w).length:Int),0):=a;rw[e,readS,if_neg oo,if_neg (by simp[iW]),if_neg i,if_pos g,a];dsimp only;rw[b];dsimp only;rw[if_pos ⟨cy.2 (by rw[a];exact⟨rfl,m⟩),cy.2 (by rw[b];exact⟨rfl,hh⟩)⟩,if_neg j];exact if_pos rfl
 ·rw[if_neg g]at c;obtain⟨rfl,rfl,rfl,l,q⟩:=c;have on:okI (L.length:Int):=by unfold okI;omega
  have e:bE p ⟨false,L,0,0,[]⟩=putI L.length++(L.map (lineW p)).flatten:=by
   rw[bE,if_neg ss,if_neg g,v8 on]
  have a:=dQ [] ((L.map (lineW p)).flatten) on;have b:=uy [] L [] (putI L.length) q;rw[qw,qw]at a;rw[qx]at b;replace a:getI (putI L.length++(L.map (lineW p)).flatten) 0=((L.length:Int),((putI L.length).length:Int),0):=a;rw[e,readS,if_neg oo,if_neg (by simp[iW]),if_neg i,if_neg g,if_pos (cy.2 (by rw[a];exact⟨rfl,by dsimp only;omega,by dsimp only;omega⟩)),a]
  grind
