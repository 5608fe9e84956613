import Derived.Test.YtfnkamphhpldcaaGreatDoorK24
import Derived.Test.YtfnkamphhpldcaaGreatDoorK16
import Derived.Test.YtfnkamphhpldcaaGreatDoorK22
set_option maxHeartbeats 64000000
namespace Go.Proofs.YtfnkamphhpldcaaGreatDoor
open Go Sx
set_option maxRecDepth 100000
def wsOf(s:Stk):List (List UInt8):=(s.map (·.1)).reverse
def nsOf(s:Stk):List Int:=(s.map fun x=>(x.2:Int)).reverse
theorem zel(x:List UInt8×Nat)(s:Stk):wsOf (x::s)=wsOf s++[x.1]:=by simp[wsOf]
theorem zee(x:List UInt8×Nat)(s:Stk):nsOf (x::s)=nsOf s++[(x.2:Int)]:=by simp[nsOf]
theorem zgw(s:Stk):(wsOf s).length=s.length:=by simp[wsOf]
theorem zko(s:Stk):(nsOf s).length=s.length:=by simp[nsOf]
theorem ybu(x:List UInt8×Nat)(s:Stk):wsOf (x::s)≠[]:=fun h=>absurd (congrArg List.length h) (by simp[wsOf])
theorem yat(x:List UInt8×Nat)(s:Stk):nsOf (x::s)≠[]:=fun h=>absurd (congrArg List.length h) (by simp[nsOf])
theorem zy7{α:Type}{l:List α}(d:α)(h:l≠[]):l=l.headD d::l.tail:=by
 cases l with
 |nil=>exact absurd rfl h
 |cons _ _=>rfl
theorem zct:Plain encI:=fun x=>⟨fun μ=>rfl,fun a b=>by simp only[encI,qz]at b;subst b;trivial⟩
theorem zcj:Plain encS:=fun x=>⟨fun μ=>rfl,fun a b=>by simp only[encS,qz]at b;subst b;trivial⟩
theorem zqw:∀(f:Nat) (s:Stk),(mergeK f s).length<=s.length
 |0,_=>qi _
 |f+1,[]=>qi _
 |f+1,[_]=>qi _
 |f+1,(b,n)::(a,m)::r=>by
  rw[mergeK];split
  ·exact q8 (zqw f _) (by simp)
  ·exact qi _
theorem z3a(l:List (List UInt8)):(stackF l).length<=l.length:=by
 have h:∀(l:List (List UInt8)) (s:Stk),(l.foldl pushS s).length<=l.length+s.length:=by
  intro l
  induction l with
  |nil=>intro s;simp
  |cons x r ih=>
   intro s;have h1:=ih (pushS s x);have a:(pushS s x).length<=s.length+1:=zqw _ _;simp only[qag,qj]at*;omega
 have:=h l [];simpa[stackF]using this
structure RI1(l:List (List UInt8))(k:Nat)(W:List (List UInt8))(S:List Int):Prop where
 le:k<=l.length
 w:W=wsOf (stackF (l.take k))
 s:S=nsOf (stackF (l.take k))
theorem ya8(F:Fz)(hR:RNDF F)(sa:SA)(l:List (List UInt8))(ha:Sl F 9 1 encS sa l)(hl:l.length=8)(hk:∀x∈l,x.length<=900000000000)(R:List UInt8)(ao:stackF l=[(R,8)]):
  Fo Tryz.prog F 52 [.va sa] (fun o _=>o=.ret (.va (.str R))):=by
 obtain⟨bl,bi,bk,bj,bh,bm,rfl,ar,a5,bg,a6⟩:=ha;refine z8q hΘ Tryz.func52 rfl (by decide) _ _ rfl rfl rfl ?_;conv=>whnf
 refine zak hΘ (X:={ x:Nat×List (List UInt8)×List Int×Nat×Nat // RI1 l x.1 x.2.1 x.2.2.1 }) (fun x=>[(3,.va (gA 1 1 x.1.2.2.2.1 x.1.2.1)),(4,.va (gA 1 2 x.1.2.2.2.2 x.1.2.2.1)),(13,.va (.int .i64 x.1.1))]) (6::7::jr 14 60 [])
  (fun x=>[(0,.frz F),(1,gE 9 1 encS x.1.2.2.2.1 x.1.2.1),(2,gE 3 1 encI x.1.2.2.2.2 x.1.2.2.1)]) 3 (fun x=>8 - x.1.1) ⟨(0,[],[],0,0),⟨yh _,rfl,rfl⟩⟩
  (fun V Y=>leI [(1,1),(2,2)] V Y rfl ⟨tv,zab zcj _ _ _ _ _,zab zct _ _ _ _ _,tv⟩ ⟨rfl,rfl,rfl,tv⟩ ⟨Fz.r F,rfl,rfl,tv⟩) ?_
 rintro⟨⟨k,W,S,c,d⟩,ah,y,hS⟩ V Y;replace ah:k<=l.length:=ah;replace y:W=wsOf (stackF (l.take k)):=y;replace hS:S=nsOf (stackF (l.take k)):=hS;have p:S.length=W.length:=by rw[hS,y,zgw,zko]
 by_cases g:k < l.length
 ·have hx:=hk l[k] (qw g);refine br (fun _=>?_) (fun h=>absurd h (by simp;omega));refine⟨Sl.lt ar g,⟨by simp,by simpa using g⟩,_,a5 (Sl.lt ar g),_,Sl.at a6 g,?_⟩;refine useFs (yaf F hR l[k] hx) ?_;rintro _ F1 l1 rfl;have ay:merge ((leafS l[k],1)::stackF (l.take k))=stackF (l.take (k+1)):=by rw[qf g,ztm]
  have Z:Gd (k+1) ((leafS l[k],1)::stackF (l.take k)):=by have h:=Gd.stackF (l.take k);rw[qo,qaz ah]at h;exact h.leaf _
  have aq:W.length<=8:=by rw[y,zgw];exact q8 (z3a _) (by rw[qo];omega)
  have a4:(W=[]/\S=[])\/∃w0 wr n0 K,W=w0::wr/\S=n0::K/\K.length+1=wr.length+1/\wr.length+1<=8:=by
   rcases W with _ | ⟨w0,wr⟩<;>rcases S with _ | ⟨n0,K⟩
   ·exact .inl ⟨rfl,rfl⟩
   ·exact absurd p (by simp)
   ·exact absurd p (by simp)
   ·exact .inr ⟨w0,wr,n0,K,rfl,rfl,p,aq⟩
  refine Or.elim a4 (fun h=>?A) (fun h=>?B)
  case' A=>
   obtain⟨ae,ad⟩:=h;subst ae;subst ad;replace y:[]=wsOf (stackF (l.take k)):=y
   have I:∀(μ:Mu) (c:Nat),SB.arr 9 1 ([]++[encS (leafS l[k])]) c=(SB.arr 9 1 ((wsOf ((leafS l[k],1)::stackF (l.take k))).map encS) c).ren μ:=fun μ c=>by
    rw[zcy zcj rfl,zel,<-y];simp
   have i:∀(μ:Mu) (c:Nat),SB.arr 3 1 ([]++[encI 1]) c=(SB.arr 3 1 ((nsOf ((leafS l[k],1)::stackF (l.take k))).map encI) c).ren μ:=fun μ c=>by
    rw[zcy zct rfl,zee,<-hS];simp
   have f:((leafS l[k],1)::stackF (l.take k)).length=1:=by rw[qj,<-zgw,<-y];rfl
   refine⟨nb rfl,[encS (leafS l[k])],rfl,rfl,rfl,nb rfl,fun L h1=>?_⟩;refine⟨nb rfl,[encI 1],rfl,rfl,rfl,nb rfl,fun d1 g1=>?_⟩;conv=>whnf
   refine zak hΘ (X:={ x:Stk×Nat×Nat // x.1≠[]/\merge x.1=stackF (l.take (k+1))/\x.1.length<=9/\Gd (k+1) x.1/\x.1.length<=x.2.1/\x.1.length<=x.2.2 }) (fun x=>[(3,.va (.slice false 7 0 0 1 x.1.1.length x.1.2.1)),(4,.va (.slice false 8 0 0 1 x.1.1.length x.1.2.2)),(7,.va (.int .i64 x.1.1.length))]) (jr 27 46 [])
    (fun x=>[(0,.frz F1),(4,.gone),(6,.gone),(7,.one (.arr 9 1 ((wsOf x.1.1).map encS) x.1.2.1)),(8,.one (.arr 3 1 ((nsOf x.1.1).map encI) x.1.2.2))]) 9 (fun x=>x.1.1.length) ⟨((leafS l[k],1)::stackF (l.take k),L,d1),by simp,ay,by rw[f];omega,Z,by show((leafS l[k],1)::stackF (l.take k)).length<=L;rw[f];exact h1,by show((leafS l[k],1)::stackF (l.take k)).length<=d1;rw[f];exact g1⟩
    (fun V Y=>leI [(7,4),(8,6)] V Y rfl ⟨tv,tv,tv,zbj zcj 9 1 9 L (wsOf ((leafS l[k],1)::stackF (l.take k))),zbj zct 3 1 9 d1 (nsOf ((leafS l[k],1)::stackF (l.take k))),tv⟩ ⟨⟨rfl,f,rfl,.inr ⟨rfl,rfl,rfl,rfl⟩⟩,⟨rfl,f,rfl,.inr ⟨rfl,rfl,rfl,rfl⟩⟩,eu (by rw[f];rfl),tv⟩ ⟨Fz.r F1,I _ L,i _ d1,tv⟩) ?_
  case' B=>
   obtain⟨w0,wr,n0,K,ae,ad,p,aq⟩:=h;subst ae;subst ad
   have I:∀(μ:Mu) (c:Nat),SB.arr 9 1 ((w0::wr).map encS++[encS (leafS l[k])]) c=(SB.arr 9 1 ((wsOf ((leafS l[k],1)::stackF (l.take k))).map encS) c).ren μ:=fun μ c=>by
    rw[zcy zcj rfl,zel,<-y];simp
   have i:∀(μ:Mu) (c:Nat),SB.arr 3 1 ((n0::K).map encI++[encI 1]) c=(SB.arr 3 1 ((nsOf ((leafS l[k],1)::stackF (l.take k))).map encI) c).ren μ:=fun μ c=>by
    rw[zcy zct rfl,zee,<-hS];simp
   have f:((leafS l[k],1)::stackF (l.take k)).length=wr.length+1+1:=by rw[qj,<-zgw,<-y];rfl
   refine⟨nb rfl,[encS (leafS l[k])],rfl,rfl,rfl,by simp,rfl,by show(wr.length+1+1)*16<=_;omega,fun L h1=>?_⟩;refine⟨nb rfl,[encI 1],rfl,rfl,rfl,by simp,rfl,by show(K.length+1+1)*8<=_;omega,fun d1 g1=>?_⟩;conv=>whnf
   refine zak hΘ (X:={ x:Stk×Nat×Nat // x.1≠[]/\merge x.1=stackF (l.take (k+1))/\x.1.length<=9/\Gd (k+1) x.1/\x.1.length<=x.2.1/\x.1.length<=x.2.2 }) (fun x=>[(3,.va (.slice false 7 0 0 1 x.1.1.length x.1.2.1)),(4,.va (.slice false 8 0 0 1 x.1.1.length x.1.2.2)),(7,.va (.int .i64 x.1.1.length))]) (jr 27 46 [])
    (fun x=>[(0,.frz F1),(4,.gone),(6,.gone),(7,.one (.arr 9 1 ((wsOf x.1.1).map encS) x.1.2.1)),(8,.one (.arr 3 1 ((nsOf x.1.1).map encI) x.1.2.2))]) 9 (fun x=>x.1.1.length) ⟨((leafS l[k],1)::stackF (l.take k),L,d1),by simp,ay,by rw[f];omega,Z,by show((leafS l[k],1)::stackF (l.take k)).length<=L;rw[f];exact h1,by show((leafS l[k],1)::stackF (l.take k)).length<=d1;rw[f];have g2:K.length+1+1<=d1:=g1;omega⟩
    (fun V Y=>leI [(7,4),(8,6)] V Y rfl ⟨tv,tv,tv,zbj zcj 9 1 9 L (wsOf ((leafS l[k],1)::stackF (l.take k))),zbj zct 3 1 9 d1 (nsOf ((leafS l[k],1)::stackF (l.take k))),tv⟩ ⟨⟨rfl,f,rfl,.inr ⟨rfl,rfl,rfl,rfl⟩⟩,⟨rfl,(by rw[f];show wr.length+1+1=K.length+1+1;omega),rfl,.inr ⟨rfl,rfl,rfl,rfl⟩⟩,eu (by rw[f];show((wr.length+1+1:Nat):Int)=((K.length+1+1:Nat):Int);omega),tv⟩ ⟨Fz.r F1,I _ L,i _ d1,tv⟩) ?_
  all_goals
   rintro⟨⟨x,T,d2⟩,ai,J,M,s,O,Q⟩ an ap;replace ai:x≠[]:=ai;replace J:merge x=stackF (l.take (k+1)):=J;replace M:x.length<=9:=M;replace s:Gd (k+1) x:=s;replace O:x.length<=T:=O;replace Q:x.length<=d2:=Q;rcases x with _ | ⟨⟨b,n⟩,_ | ⟨⟨a,m⟩,r⟩⟩
   ·exact absurd rfl ai
   ·have ab:∀(μ:Mu) (c:Nat),SB.arr 9 1 ((wsOf [(b,n)]).map encS) c=(SB.arr 9 1 ([b].map encS) c).ren μ:=fun μ c=>by rw[zcy zcj rfl];rfl
    have ac:∀(μ:Mu) (c:Nat),SB.arr 3 1 ((nsOf [(b,n)]).map encI) c=(SB.arr 3 1 ([(n:Int)].map encI) c).ren μ:=fun μ c=>by rw[zcy zct rfl];rfl
    have au:stackF (l.take (k+1))=[(b,n)]:=J.symm;have bb:RI1 l (k+1) [b] [(n:Int)]:=⟨g,by rw[au];rfl,by rw[au];rfl⟩
    have D:8 - (k+1) < 8 - k:=by omega
    have G:k < 4611686018427387904:=by omega
    refine dwS (lk [0,1,2,3,4,5,6,7,8,9,10,11,12,13,14] .done) [8] ?_;refine gaf (by simp) ?_;exact⟨⟨(k+1,[b],[(n:Int)],T,d2),bb⟩,D,leRn [_,_,_] [_,_] [(1,7),(2,8)] V Y rfl ⟨tv,zab zcj _ _ _ _ _,zab zct _ _ _ _ _,tv⟩ ⟨⟨rfl,rfl,rfl,.inr ⟨rfl,rfl,rfl,rfl⟩⟩,⟨rfl,rfl,rfl,.inr ⟨rfl,rfl,rfl,rfl⟩⟩,cnt G,tv⟩ ⟨l1,ab _ T,ac _ d2,tv⟩⟩
   ·have ba:(nsOf ((b,n)::(a,m)::r))[r.length]? =some (m:Int):=by rw[zee,zee];simp[nsOf]
    have a0:(nsOf ((b,n)::(a,m)::r))[r.length+1]? =some (n:Int):=by rw[zee,zee];simp[nsOf]
    have hw:wsOf ((b,n)::(a,m)::r)=((wsOf ((b,n)::(a,m)::r)).headD []::(wsOf ((b,n)::(a,m)::r)).tail):=zy7 [] (ybu _ _);have hn:nsOf ((b,n)::(a,m)::r)=((nsOf ((b,n)::(a,m)::r)).headD 0::(nsOf ((b,n)::(a,m)::r)).tail):=zy7 0 (yat _ _);have ab:∀(μ:Mu) (c:Nat),SB.arr 9 1 ((wsOf ((b,n)::(a,m)::r)).map encS) c=(SB.arr 9 1 (((wsOf ((b,n)::(a,m)::r)).headD []::(wsOf ((b,n)::(a,m)::r)).tail).map encS) c).ren μ:=fun μ c=>by rw[<-hw];exact(zcy zcj rfl _ _ _ _).symm
    have ac:∀(μ:Mu) (c:Nat),SB.arr 3 1 ((nsOf ((b,n)::(a,m)::r)).map encI) c=(SB.arr 3 1 (((nsOf ((b,n)::(a,m)::r)).headD 0::(nsOf ((b,n)::(a,m)::r)).tail).map encI) c).ren μ:=fun μ c=>by rw[<-hn];exact(zcy zct rfl _ _ _ _).symm
    have bf:(wsOf ((b,n)::(a,m)::r)).tail.length+1=r.length+1+1:=by have h:=congrArg List.length hw;rw[zgw]at h;exact h.symm
    have a8:(nsOf ((b,n)::(a,m)::r)).tail.length+1=r.length+1+1:=by have h:=congrArg List.length hn;rw[zko]at h;exact h.symm
    have aw:a.length<=100000000000:=by rw[s.1 (a,m) (by simp)];decide
    have ax:b.length<=100000000000:=by rw[s.1 (b,n) (by simp)];decide
    have a9:decide ((m:Int)=(n:Int))=false->RI1 l (k+1) ((wsOf ((b,n)::(a,m)::r)).headD []::(wsOf ((b,n)::(a,m)::r)).tail) ((nsOf ((b,n)::(a,m)::r)).headD 0::(nsOf ((b,n)::(a,m)::r)).tail):=fun h=>by
     have he:stackF (l.take (k+1))=((b,n)::(a,m)::r):=by rw[<-J];exact z5z (fun e=>absurd (oe h) (by simp[e]))
     exact⟨g,by rw[he,<-hw],by rw[he,<-hn]⟩
    have D:8 - (k+1) < 8 - k:=by omega
    have G:k < 4611686018427387904:=by omega
    replace M:r.length+1+1<=9:=M;replace O:r.length+1+1<=T:=O;replace Q:r.length+1+1<=d2:=Q;have j:IntKind.i64.wrap (((r.length+1+1:Nat):Int) - 2)=((r.length:Nat):Int):=by rw[zah (by omega) (by omega)];omega
    have e1:IntKind.i64.wrap (((r.length+1+1:Nat):Int) - 1)=((r.length+1:Nat):Int):=by rw[zah (by omega) (by omega)];omega
    have q2:0<=IntKind.i64.wrap (((r.length+1+1:Nat):Int) - 2)/\IntKind.i64.wrap (((r.length+1+1:Nat):Int) - 2) < ((r.length+1+1:Nat):Int):=by rw[j];omega
    have q1:0<=IntKind.i64.wrap (((r.length+1+1:Nat):Int) - 1)/\IntKind.i64.wrap (((r.length+1+1:Nat):Int) - 1) < ((r.length+1+1:Nat):Int):=by rw[e1];omega
    have p2:0<=IntKind.i64.wrap (((r.length+1+1:Nat):Int) - 2)/\IntKind.i64.wrap (((r.length+1+1:Nat):Int) - 2)<=(T:Int):=by rw[j];omega
    have p3:0<=IntKind.i64.wrap (((r.length+1+1:Nat):Int) - 2)/\IntKind.i64.wrap (((r.length+1+1:Nat):Int) - 2)<=(d2:Int):=by rw[j];omega
    have gm:((nsOf ((b,n)::(a,m)::r)).map encI)[0+(IntKind.i64.wrap (((r.length+1+1:Nat):Int) - 2)).toNat]? =some (encI m):=by rw[j,qk,qx,qt,ba];rfl
    have gn:((nsOf ((b,n)::(a,m)::r)).map encI)[0+(IntKind.i64.wrap (((r.length+1+1:Nat):Int) - 1)).toNat]? =some (encI n):=by rw[e1,qk,qx,qt,a0];rfl
    have bd:(wsOf ((b,n)::(a,m)::r))[r.length]? =some a:=by rw[zel,zel];simp[wsOf]
    have be:(wsOf ((b,n)::(a,m)::r))[r.length+1]? =some b:=by rw[zel,zel];simp[wsOf]
    have ga:((wsOf ((b,n)::(a,m)::r)).map encS)[0+(IntKind.i64.wrap (((r.length+1+1:Nat):Int) - 2)).toNat]? =some (encS a):=by rw[j,qk,qx,qt,bd];rfl
    have gb:((wsOf ((b,n)::(a,m)::r)).map encS)[0+(IntKind.i64.wrap (((r.length+1+1:Nat):Int) - 1)).toNat]? =some (encS b):=by rw[e1,qk,qx,qt,be];rfl
    have ht:((wsOf ((b,n)::(a,m)::r)).map encS).take r.length=(wsOf r).map encS:=by rw[zel,zel,qp,qs,qdh (by rw[qe,zgw])]
    have bc:((nsOf ((b,n)::(a,m)::r)).map encI).take r.length=(nsOf r).map encI:=by rw[zee,zee,qp,qs,qdh (by rw[qe,zko])]
    have az:decide ((m:Int)=(n:Int))=true->m=n/\2*n<=8:=fun h=>by
     have h1:m=n:=by have:=od h;omega
     have h2:=s.2;simp only[jm,List.sum_cons]at h2;exact⟨h1,by omega⟩
    have aa:decide ((m:Int)=(n:Int))=true->∀q d3,(IntKind.i64.wrap (((r.length+1+1:Nat):Int) - 2)).toNat - 0+[encS (nodeS a b)].length<=q->(IntKind.i64.wrap (((r.length+1+1:Nat):Int) - 2)).toNat - 0+[encI (IntKind.i64.wrap (2*(n:Int)))].length<=d3->
      ((nodeS a b,2*n)::r)≠[]/\merge ((nodeS a b,2*n)::r)=stackF (l.take (k+1))/\((nodeS a b,2*n)::r).length<=9/\Gd (k+1) ((nodeS a b,2*n)::r)/\((nodeS a b,2*n)::r).length<=q/\((nodeS a b,2*n)::r).length<=d3:=fun h q d3 h3 h4=>by
     have hm:=(az h).1;rw[j]at h3 h4;refine⟨by simp,(z0s hm).symm.trans J,by rw[qj];omega,s.join hm,?_,?_⟩
     ·rw[qj];simpa using h3
     ·rw[qj];simpa using h4
    have E:((nodeS a b,2*n)::r).length < ((b,n)::(a,m)::r).length:=by simp
    have n3:((nodeS a b,2*n)::r).length=(IntKind.i64.wrap (((r.length+1+1:Nat):Int) - 2)).toNat - 0+[encS (nodeS a b)].length:=by rw[j];simp
    have n4:((nodeS a b,2*n)::r).length=(IntKind.i64.wrap (((r.length+1+1:Nat):Int) - 2)).toNat - 0+[encI (IntKind.i64.wrap (2*(n:Int)))].length:=by rw[j];simp
    have n5:((((nodeS a b,2*n)::r).length:Nat):Int)=IntKind.i64.wrap (((r.length+1+1:Nat):Int) - 1):=by rw[e1];rfl
    have aj:∀(μ:Mu) (c:Nat),SB.arr 9 1 (((wsOf ((b,n)::(a,m)::r)).map encS).take ((IntKind.i64.wrap (((r.length+1+1:Nat):Int) - 2)).toNat - 0)++[encS (nodeS a b)]) c=(SB.arr 9 1 ((wsOf ((nodeS a b,2*n)::r)).map encS) c).ren μ:=fun μ c=>by
     rw[zcy zcj rfl,j,qk,qa7,ht,zel,qs];rfl
    have ak:∀(μ:Mu) (c:Nat),IntKind.i64.wrap (2*(n:Int))=((2*n:Nat):Int)->SB.arr 3 1 (((nsOf ((b,n)::(a,m)::r)).map encI).take ((IntKind.i64.wrap (((r.length+1+1:Nat):Int) - 2)).toNat - 0)++[encI (IntKind.i64.wrap (2*(n:Int)))]) c=(SB.arr 3 1 ((nsOf ((nodeS a b,2*n)::r)).map encI) c).ren μ:=fun μ c h=>by
     rw[zcy zct rfl,j,qk,qa7,bc,zee,qs,h];rfl
    have a1:decide ((m:Int)=(n:Int))=true->IntKind.i64.wrap (2*(n:Int))=((2*n:Nat):Int):=fun h=>by
     have:=(az h).2;rw[zah (by omega) (by omega)];omega
    have f0:(if T=0 then 0 else 0+0)=0:=by split<;>rfl
    have f1:(if d2=0 then 0 else 0+0)=0:=by split<;>rfl
    have fl:(IntKind.i64.wrap (((r.length+1+1:Nat):Int) - 2)).toNat - 0<=((wsOf ((b,n)::(a,m)::r)).map encS).length:=by rw[j,qe,zgw];simp;omega
    have al:(IntKind.i64.wrap (((r.length+1+1:Nat):Int) - 2)).toNat - 0<=((nsOf ((b,n)::(a,m)::r)).map encI).length:=by rw[j,qe,zko];simp;omega
    have am:((IntKind.i64.wrap (((r.length+1+1:Nat):Int) - 2)).toNat - 0+[encS (nodeS a b)].length)*16<=140737488355328:=by rw[j];simp;omega
    have U:∀z:Int,((IntKind.i64.wrap (((r.length+1+1:Nat):Int) - 2)).toNat - 0+[encI z].length)*8<=140737488355328:=fun z=>by rw[j];simp;omega
    refine dwS (lk [0,1,2,3,4,5,6,7,8,9,10,11,12,13,14] .done) [8] ?_;refine⟨fun _=>?_,fun g=>absurd g (by simp;omega)⟩;refine⟨rfl,q2,rfl,encI m,gm,rfl,q1,rfl,encI n,gn,?_⟩;refine br (fun u=>?_) (fun u=>?_)
    ·refine famW 7 rfl ?_;refine famW 8 rfl ?_;refine dwS (lk [0,1,2,3,4,5,6,7,9,10,11,12] (.alt 8 (.alt 13 (.alt 14 (.alt 15 (.alt 16 (.look 17 .done) .nil) .nil) .nil) .nil) (.alt 13 (.alt 8 (.alt 14 (.alt 15 (.alt 16 (.look 17 .done) .nil) .nil) .nil) .nil) .nil))) [] ?_;refine⟨p2,rfl,q2,rfl,q1,?_,?_⟩
     ·refine⟨⟨yt,rfl⟩,encS a,ga,Fz.r F1,⟨yt,rfl⟩,encS b,gb,Fz.r F1,?_⟩;refine useFs (z00 F1 (hR.mono l1) a b aw ax) ?_;rintro _ w l2 rfl;refine⟨l2,Fz.r w,nb rfl,[encS (nodeS a b)],rfl,⟨yt,rfl⟩,f0,fl,qa7 _,am,fun q af=>?_⟩;refine⟨Fz.r w,?_⟩;refine dwS (lk [0,1,2,3,4,5,6,7] (.alt 8 (.look 9 (.alt 10 (.alt 11 (.look 12 .done) .nil) .nil)) .nil)) [] ?_;refine⟨p3,rfl,q1,⟨yt,rfl⟩,encI n,gn,Fz.r w,Fz.r w,nb rfl,[encI (IntKind.i64.wrap (2*(n:Int)))],rfl,⟨yt,rfl⟩,f1,al,qa7 _,U _,fun d3 ag=>?_⟩;refine⟨Fz.r w,?_⟩;exact⟨⟨((nodeS a b,2*n)::r,q,d3),aa u q d3 af ag⟩,E,leR [(7,10),(8,12)] an ap rfl ⟨tv,tv,tv,zbj zcj 9 1 9 q (wsOf ((nodeS a b,2*n)::r)),zbj zct 3 1 9 d3 (nsOf ((nodeS a b,2*n)::r)),tv⟩ ⟨⟨rfl,n3,rfl,.inr ⟨rfl,rfl,rfl,rfl⟩⟩,⟨rfl,n4,rfl,.inr ⟨rfl,rfl,rfl,rfl⟩⟩,eu n5,tv⟩ ⟨l2,aj _ q,ak _ d3 (a1 u),tv⟩⟩
     ·refine⟨⟨yt,rfl⟩,encS b,gb,Fz.r F1,⟨yt,rfl⟩,encS a,ga,Fz.r F1,?_⟩;refine useFs (z00 F1 (hR.mono l1) a b aw ax) ?_;rintro _ w l2 rfl;refine⟨l2,Fz.r w,nb rfl,[encS (nodeS a b)],rfl,⟨yt,rfl⟩,f0,fl,qa7 _,am,fun q af=>?_⟩;refine⟨Fz.r w,?_⟩;refine dwS (lk [0,1,2,3,4,5,6,7] (.alt 8 (.look 9 (.alt 10 (.alt 11 (.look 12 .done) .nil) .nil)) .nil)) [] ?_;refine⟨p3,rfl,q1,⟨yt,rfl⟩,encI n,gn,Fz.r w,Fz.r w,nb rfl,[encI (IntKind.i64.wrap (2*(n:Int)))],rfl,⟨yt,rfl⟩,f1,al,qa7 _,U _,fun d3 ag=>?_⟩;refine⟨Fz.r w,?_⟩;exact⟨⟨((nodeS a b,2*n)::r,q,d3),aa u q d3 af ag⟩,E,leR [(7,10),(8,12)] an ap rfl ⟨tv,tv,tv,zbj zcj 9 1 9 q (wsOf ((nodeS a b,2*n)::r)),zbj zct 3 1 9 d3 (nsOf ((nodeS a b,2*n)::r)),tv⟩ ⟨⟨rfl,n3,rfl,.inr ⟨rfl,rfl,rfl,rfl⟩⟩,⟨rfl,n4,rfl,.inr ⟨rfl,rfl,rfl,rfl⟩⟩,eu n5,tv⟩ ⟨l2,aj _ q,ak _ d3 (a1 u),tv⟩⟩
    ·exact⟨⟨(k+1,((wsOf ((b,n)::(a,m)::r)).headD []::(wsOf ((b,n)::(a,m)::r)).tail),((nsOf ((b,n)::(a,m)::r)).headD 0::(nsOf ((b,n)::(a,m)::r)).tail),T,d2),a9 u⟩,D,leRn [_,_,_] [_,_] [(1,7),(2,8)] V Y rfl ⟨tv,zab zcj _ _ _ _ _,zab zct _ _ _ _ _,tv⟩ ⟨⟨rfl,bf,rfl,.inr ⟨rfl,rfl,rfl,rfl⟩⟩,⟨rfl,a8,rfl,.inr ⟨rfl,rfl,rfl,rfl⟩⟩,cnt G,tv⟩ ⟨l1,ab _ T,ac _ d2,tv⟩⟩
 ·have av:k=l.length:=by omega
  have a3:W=[R]:=by rw[y,av,yv,ao];rfl
  have a2:S=[8]:=by rw[hS,av,yv,ao];rfl
  have a7:¬(k:Int) < (l.length:Int):=by omega
  subst a3;subst a2;refine brj a7 ?_;refine brd (by decide) ⟨rfl,by decide,rfl,encS R,rfl,⟨by decide,by show(0:Int)<=(c:Int);omega⟩,?_⟩;refine zh8 hΘ Tryz.func115 rfl (by decide) _ _ rfl rfl rfl (zc6 hΘ _ _ _ ?_);refine zw7 rfl rfl rfl ?_;refine⟨rfl,rfl,?_⟩;exact endFs (.ret (.va (.str R))) (Fz.r F) rfl
theorem rootF(l:List (List UInt8))(i:l.length=8):stackF l=[(root8 l,8)]:=by
 match l,i with
 |[a,b,c,d,e,f,g,h],_=>exact ydh a b c d e f g h
theorem zhn(F:Fz)(d:RNDF F)(a:SA)(l:List (List UInt8))(b:Sl F 9 1 encS a l)(c:l.length=8)(s:∀x∈l,x.length<=900000000000):
  Fo Tryz.prog F 17 [.va a] (fun o _=>o=.ret (.va (.str (root8 l)))):=by
 have h:=ya8 F d a l b c s (root8 l) (rootF l c);obtain⟨p,k,n,m,j,q,rfl,e,f,g,i⟩:=b;refine foS Tryz.func17 ?_;refine useFs h ?_;rintro _ F1 u rfl;exact endFs (.ret (.va (.str (root8 l)))) u rfl
def atV(A:List (List UInt8))(p:Int):List UInt8:=A[(p - 1).toNat]?.getD []
def chkAt(A B:List (List UInt8))(x:Kp):Bool:=decide (x.2=[(6,0)])||(decide ((zea x.1 x.2 (atV A x.1)).2=0)&&decide ((zea x.1 x.2 (atV A x.1)).1=atV B x.1))
theorem z99(F:Fz)(d:SA)(l:List Stp)(e:zay F d l)(u:l.length < 1000000):
  Fo Tryz.prog F 60 [.va d] (fun o _=>o=.ret (.va (.bool (decide (l=[(6,0)]))))):=by
 have c:=fun F1 (a:Fz.le F F1) w hb=>zir F1 d w l [(6,0)] (e.mono a) hb u
 obtain⟨p,k,n,m,j,q,rfl,f,g,h,i⟩:=e;refine foS Tryz.func60 ?_;refine zat 1 (fun _=>.arr 56 2 ([(6,0)].map enc) 1) ?_;intro b F1 a hb;have s:=c F1 a _ (Sl.new (l:=[(6,0)]) (cap:=1) (hb 0 rfl));refine usePt s ?_;exact endFs (.ret (.va (.bool (decide (l=[(6,0)]))))) a rfl
theorem zyj{A:List (List UInt8)}{p:Int}(a:A.length=8)(b:1<=p/\p<=8):A[(p - 1).toNat]? =some (atV A p):=by
 unfold atV;rw[qa (show(p - 1).toNat < A.length by omega)];rfl
theorem zyt(F:Fz)(hM:MLF F)(g q u:SA)(A B:List (List UInt8))(G bB:Nat)(x:Kp)(m:zay F g x.2)(y:x.2.length < 1000000)(hA:Sl F 9 1 encS q A)(hB:Sl F 9 1 encS u B)(i:A.length=8)(j:B.length=8)
  (ac:F G=some (.cells 34 [q]))(ad:F bB=some (.cells 34 [u]))(D:1<=x.1/\x.1<=8)(hs:∀s∈A,s.length<=1000000000000000000):
  Fo Tryz.prog F 58 [.agg [.int .i64 x.1,g],.va (.ptr (fp G)),.va (.ptr (fp bB))] (fun o _=>o=.ret (.va (.bool (!chkAt A B x)))):=by
 obtain⟨p,l⟩:=x;replace D:1<=p/\p<=8:=D;replace y:l.length < 1000000:=y;replace m:zay F g l:=m;have gA:=zyj i D;have gB:=zyj j D;have a:=z4b F hM g l p (atV A p) m y (hs _ (yr gA));have c:=fun F1 (d:Fz.le F F1)=>z99 F1 g l (m.mono d) y
 have hw:IntKind.i64.wrap (p - 1)=p - 1:=zah (by omega) (by omega);have qA:0<=IntKind.i64.wrap (p - 1)/\IntKind.i64.wrap (p - 1) < (A.length:Int):=by rw[hw];omega
 have qB:0<=IntKind.i64.wrap (p - 1)/\IntKind.i64.wrap (p - 1) < (B.length:Int):=by rw[hw];omega
 have n:∀(L:List (List SA)) (e:Nat) (C:List (List UInt8)),(L.drop e).take C.length=C.map encS->C.length=8->C[(p - 1).toNat]? =some (atV C p)->L[e+(IntKind.i64.wrap (p - 1)).toNat]? =some (encS (atV C p)):=by
  intro L e C h1 h2 h3;have h4:=Sl.at h1 (k:=(p - 1).toNat) (by omega);rw[hw];rw[qa (show(p - 1).toNat < C.length by omega)]at h3;rw[Option.some.inj h3]at h4;exact h4
 show Fo Tryz.prog F 58 [.agg [.int .i64 p,g],.va (.ptr (fp G)),.va (.ptr (fp bB))] (fun o F'=>o=.ret (.va (.bool (!(decide (l=[(6,0)])||(decide ((zea p l (atV A p)).2=0)&&decide ((zea p l (atV A p)).1=atV B p)))))));obtain⟨R,hR⟩:∃R,zea p l (atV A p)=R:=⟨_,rfl⟩
 rw[hR]at a ⊢;obtain⟨t,e⟩:=R;clear hR;obtain⟨V,ah,U,ai,T,aj,rfl,O,Q,ag,S⟩:=hA;obtain⟨ab,al,aa,am,Z,an,rfl,W,X,ak,Y⟩:=hB;have rA:=n T U A S i gA;have rB:=n Z aa B Y j gB;have nA:V=false:=Sl.lt O (show 0 < A.length by omega);have nB:ab=false:=Sl.lt W (show 0 < B.length by omega);generalize atV A p=va at*;generalize atV B p=vb at*;obtain⟨ay,av,ax,aw,au,az,rfl,ao,ap,aq,ar⟩:=m
 have b:∀(v:Bool) (F1:Fz) (h:Hp) (nx:Nat),(!(decide (l=[(6,0)])||(decide (e=0)&&decide (t=vb))))=v->lget h 0=some (.frz F1)->Fz.le F F1->Cln 1 (FoK F fun o F'=>o=.ret (.va (.bool (!(decide (l=[(6,0)])||(decide (e=0)&&decide (t=vb))))))) (.ret (.va (.bool v))) h nx:=by
  intro v F1 h nx hv h0 af;exact endFo (.ret (.va (.bool v))) F1 h0 af (Fz.r F1) (by rw[hv]) rfl rfl
 refine foS Tryz.func58 ?_;refine dwS (lk [0,1,2,3,4,5,6,7,8,9] (.alt 10 (lk [11,12,13,14,15] .done) .nil)) [1] ?_;refine⟨rfl,rfl,rfl,_,ac,rfl,nA,qA,rfl,_,Q nA,_,rA,?_⟩;refine useFs a ?_;rintro _ F1 d rfl;have ae:=c F1 d;refine⟨d,rfl,?_⟩;refine useFs ae ?_;rintro _ E l2 rfl;refine⟨fun w=>?_,fun w=>?_⟩
 rotate_left
 ·exact b false E _ _ (by rw[show decide (l=[(6,0)])=true by simpa using w];rfl) rfl (Fz.t d l2)
 refine⟨fun I=>?_,fun I=>?_⟩
 ·have f:=Fz.t d l2;have M:decide (l=[(6,0)])=false:=by simpa using w
  have K:decide (e=0)=true:=by
   have J:(!decide (e=0))=false:=I;simpa using J
  refine⟨_,f _ _ ad,nB,qB,_,f _ _ (X nB),_,rB,?_⟩;exact b _ E _ _ (by rw[M,K,<-beqD rfl];rfl) rfl f
 ·have K:decide (e=0)=false:=by
   have J:(!decide (e=0))=true:=I;simpa using J
  have M:decide (l=[(6,0)])=false:=by simpa using w
  exact b true E _ _ (by rw[M,K];rfl) rfl (Fz.t d l2)
theorem z4o(F:Fz)(hM:MLF F)(sk e f:SA)(A B:List (List UInt8))(u bB:Nat)(ks:List Kp)(hk:ClsAt F sk ks)(hs:short ks)(hl:ks.length < 1000000)(Z:Sl F 9 1 encS e A)(hB:Sl F 9 1 encS f B)(E:A.length=8)(I:B.length=8)(L:F u=some (.cells 34 [e]))(M:F bB=some (.cells 34 [f]))(hx:∀x∈ks,1<=x.1/\x.1<=8)(Q:∀s∈A,s.length<=1000000000000000000):
  Fo Tryz.prog F 125 [.va sk,.va (.fn (.func 58) [fp u,fp bB])] (fun o _=>o=.ret (.va (.int .i64 (idxN (chkAt A B) ks 0)))):=by
 obtain⟨kn,kb,ke,kc,kL,kr,rfl,U,k2,k3,k4⟩:=hk
 have i:∀(x:Int) (F1:Fz) (h:Hp) (nx:Nat),idxN (chkAt A B) ks 0=x->lget h 0=some (.frz F1)->Fz.le F F1->
   Cln 1 (FoK F fun o W=>o=.ret (.va (.int .i64 (idxN (chkAt A B) ks 0)))) (.ret (.va (.int .i64 x))) h nx:=by
  intro x F1 h nx hv Y O;exact endFo (.ret (.va (.int .i64 x))) F1 Y O (Fz.r F1) (by rw[hv]) rfl rfl
 refine foS Tryz.func125 ?_;conv=>whnf
 refine zak hΘ (X:={ x:Nat×Fz // Fz.le F x.2/\x.1<=ks.length/\idxN (chkAt A B) ks 0=idxN (chkAt A B) (ks.drop x.1) x.1 }) (fun x=>[(8,.va (.int .i64 x.1.1))]) (4::5::jr 9 10 []) (fz fun x=>x.1.2) 1 (fun x=>ks.length - x.1.1) ⟨(0,F),Fz.r F,by simp,by simp⟩
  (fun J K=>leI [] J K rfl ⟨tv,tv⟩ ⟨rfl,tv⟩ ⟨Fz.r F,tv⟩) ?_
 rintro⟨⟨k,G⟩,b,n,d⟩ J K;replace b:Fz.le F G:=b;replace n:k<=ks.length:=n;replace d:idxN (chkAt A B) ks 0=idxN (chkAt A B) (ks.drop k) k:=d;by_cases g:k < ks.length
 ·have p:(k:Int) < (ks.length:Int):=by omega
  have l:ks.length - (k+1) < ks.length - k:=by omega
  have m:k < 4611686018427387904:=by omega
  have R:=hs ks[k] (qw g);have S:=hx ks[k] (qw g);rw[zqg (chkAt A B) ks k g]at d;have j:=SlR.at k4 g;obtain⟨y,hy,a,rfl,T⟩:=j;have c:=zyt G (hM.mono b) a e f A B u bB ks[k] (T.mono b) R (Z.mono b) (hB.mono b) E I (b _ _ L) (b _ _ M) S Q;obtain⟨ai,af,ah,ag,ae,aj,rfl,aa,ab,ac,ad⟩:=T;refine bri p ⟨SlR.lt U g,⟨by simp,p⟩,_,b _ _ (k2 (SlR.lt U g)),_,hy,?_⟩;refine useFs c ?_;rintro _ q V rfl;refine br (fun w=>?_) (fun w=>?_)
  ·exact i _ q _ _ (d.trans (if_pos (by have D:(!(chkAt A B) ks[k])=true:=w;simpa using D))) rfl (Fz.t b V)
  ·conv=>whnf
   have D:(!(chkAt A B) ks[k])=false:=w;exact⟨⟨(k+1,q),Fz.t b V,g,d.trans (if_neg (by rw[show(chkAt A B) ks[k]=true by simpa using D];simp))⟩,l,leR [] J K rfl ⟨tv,tv⟩ ⟨cnt m,tv⟩ ⟨Fz.r q,tv⟩⟩
 ·have p:¬(k:Int) < (ks.length:Int):=by omega
  rw[yf (by omega)]at d;refine brj p ?_;exact i _ G _ _ d rfl b
theorem z4l(F:Fz)(m:MLF F)(sk a b:SA)(A B:List (List UInt8))(c bB:Nat)(ks:List Kp)(j:ClsAt F sk ks)(p:short ks)(n:ks.length < 1000000)(k:Sl F 9 1 encS a A)(l:Sl F 9 1 encS b B)(d:A.length=8)(e:B.length=8)(f:F c=some (.cells 34 [a]))(g:F bB=some (.cells 34 [b]))(q:∀x∈ks,1<=x.1/\x.1<=8)(i:∀s∈A,s.length<=1000000000000000000):
  Fo Tryz.prog F 57 [.va sk,.va (.fn (.func 58) [fp c,fp bB])] (fun o _=>o=.ret (.va (.bool (!ks.all (chkAt A B))))):=by
 have h:=z4o F m sk a b A B c bB ks j p n k l d e f g q i;obtain⟨M,J,L,K,I,O,rfl,y,D,E,G⟩:=j;refine foS Tryz.func57 ?_;refine useFs h ?_;rintro _ F1 u rfl;exact endFo (.ret (.va (.bool (!ks.all (chkAt A B))))) F1 rfl u (Fz.r F1) rfl (ob (zuv (chkAt A B) ks).symm) rfl
def zcw(c:Crt)(A B:List (List UInt8)):Bool:=crtOk c&&((decide (A.length=8)&&decide (B.length=8))&&(decide (root8 A=c.src)&&(decide (root8 B=c.dst)&&c.cl.all (chkAt A B))))
theorem zmt:∀(l:List Kp) (i:Int),clOk l i=true->∀x∈l,i<=x.1/\x.1 < i+l.length
 |[],_,_=>fun x hx=>by simp at hx
 |y::r,i,h=>fun x hx=>by
  rw[clOk,qg]at h
  have h1:y.1=i:=by
   have:=h.1;simp only[clAt,qg,decide_eq_true_eq]at this;exact this.1
  rcases qn.1 hx with rfl | hx
  ·simp only[qj];omega
  ·have:=zmt r (i+1) h.2 x hx;simp only[qj];omega
theorem zfh{c:Crt}(h:crtOk c=true):c.cl.length=8/\∀x∈c.cl,1<=x.1/\x.1<=8:=by
 simp only[crtOk,qg,decide_eq_true_eq]at h;refine⟨h.2.2.2.2.1,fun x a=>?_⟩;have:=zmt c.cl 1 h.2.2.2.2.2 x a;rw[h.2.2.2.2.1]at this;omega
theorem kC1{c:Crt}{A B:List (List UInt8)}(h:decide ((A.length:Int)=8)=false):zcw c A B=false:=by
 have:decide (A.length=8)=false:=by simp at h ⊢;omega
 simp only[zcw,this,q9,jz]
theorem kC2{c:Crt}{A B:List (List UInt8)}(h:(!decide ((B.length:Int)=8))=true):zcw c A B=false:=by
 have:decide (B.length=8)=false:=by simp at h ⊢;omega
 simp only[zcw,this,q9,jz]
theorem kC3{c:Crt}{A B:List (List UInt8)}(h:(!crtOk c)=true):zcw c A B=false:=by
 have:crtOk c=false:=by simpa using h
 simp only[zcw,this,q9]
theorem kC4{c:Crt}{A B:List (List UInt8)}(h:(!(root8 A==c.src))=true):zcw c A B=false:=by
 have h1:(root8 A==c.src)=false:=by simpa using h
 simp only[zcw,beqD h1,q9,jz]
theorem kC5{c:Crt}{A B:List (List UInt8)}(h:(!(root8 B==c.dst))=true):zcw c A B=false:=by
 have h1:(root8 B==c.dst)=false:=by simpa using h
 simp only[zcw,beqD h1,q9,jz]
theorem kC6{c:Crt}{A B:List (List UInt8)}(h1:decide ((A.length:Int)=8)=true)(g:(!decide ((B.length:Int)=8))=false)(h:(!crtOk c)=false)(i:(!(root8 A==c.src))=false)(j:(!(root8 B==c.dst))=false):zcw c A B= !(!c.cl.all (chkAt A B)):=by
 have a:decide (A.length=8)=true:=by simp at h1 ⊢;omega
 have b:decide (B.length=8)=true:=by simp at g ⊢;omega
 have d:crtOk c=true:=by simpa using h
 have e:(root8 A==c.src)=true:=by simpa using i
 have f:(root8 B==c.dst)=true:=by simpa using j
 simp only[zcw,a,b,d,beqD e,beqD f,yq,Bool.not_not]
theorem zio(F:Fz)(hM:MLF F)(hR:RNDF F)(sk g i:SA)(c:Crt)(A B:List (List UInt8))(hk:ClsAt F sk c.cl)(L:short c.cl)(hl:c.cl.length < 1000000)(J:Sl F 9 1 encS g A)(K:Sl F 9 1 encS i B)
  (G:∀s∈A,s.length<=900000000000)(ah:∀s∈B,s.length<=900000000000):
  Fo Tryz.prog F 22 [.agg (crtS c sk),.va g,.va i] (fun o _=>o=.ret (.va (.bool (zcw c A B)))):=by
 have d:=zfi F sk c hk L hl;have D:=fun F1 (a:Fz.le F F1) p=>zhn F1 (hR.mono a) g A (J.mono a) p G
 have E:=fun F1 (a:Fz.le F F1) p=>zhn F1 (hR.mono a) i B (K.mono a) p ah
 have f:=fun F1 (a:Fz.le F F1) O bB (p:A.length=8) (Y:B.length=8) (M:crtOk c=true) j k=>z4l F1 (hM.mono a) sk g i A B O bB c.cl (KpsAt.up hk a) L hl (J.mono a) (K.mono a) p Y j k (zfh M).2 (fun s L=>q8 (G s L) (by decide))
 have Q:=kC1 (c:=c) (A:=A) (B:=B);have e2:=kC2 (c:=c) (A:=A) (B:=B);have S:=kC3 (c:=c) (A:=A) (B:=B);have T:=kC4 (c:=c) (A:=A) (B:=B);have U:=kC5 (c:=c) (A:=A) (B:=B);have n:=kC6 (c:=c) (A:=A) (B:=B);obtain⟨v,M⟩:∃v,zcw c A B=v:=⟨_,rfl⟩
 rw[M]at Q e2 S T U n ⊢;clear M;obtain⟨w,hw⟩:∃w,crtOk c=w:=⟨_,rfl⟩
 rw[hw]at d S n f;clear hw;obtain⟨RA,x⟩:∃R,root8 A=R:=⟨_,rfl⟩
 obtain⟨RB,y⟩:∃R,root8 B=R:=⟨_,rfl⟩
 rw[x]at D T n;rw[y]at E U n;clear x y;obtain⟨src,ai,az,ks⟩:=c;have aj:=J;have aq:=K;obtain⟨ac,Z,ab,aa,ao,ap,rfl,ak,al,am,an⟩:=J;obtain⟨ag,ad,af,ae,ax,ay,rfl,ar,au,av,aw⟩:=K;obtain⟨kn,kb,ke,kc,kL,kr,rfl,k1,k2,k3,k4⟩:=hk
 have e:∀(b:Bool) (F1:Fz) (h:Hp) (nx:Nat),v=b->lget h 0=some (.frz F1)->Fz.le F F1->Cln 1 (FoK F fun o F'=>o=.ret (.va (.bool v))) (.ret (.va (.bool b))) h nx:=by
  intro b F1 h nx hb X l;exact endFo (.ret (.va (.bool b))) F1 X l (Fz.r F1) (by rw[hb]) rfl rfl
 have finL:∀(b:Bool) (F1:Fz) (h:Hp) (nx:Nat),v=b->lget h 0=some (.frz F1)->Fz.le F F1->Cln 1 (FoK F fun o F'=>o=.ret (.va (.bool v))) (.ret (.va (.lit b))) h nx:=by
  intro b F1 h nx hb X l;exact endFo (.ret (.va (.bool b))) F1 X l (Fz.r F1) (by rw[hb]) rfl rfl
 refine foS Tryz.func22 ?_;refine⟨fun gA=>?_,fun gA=>?_⟩
 rotate_left
 ·refine dwS (.look 0 (.alt 1 (lk [2,3,4,5,6,7,8,10,11] (.alt 9 (lk [12,13,14,15,17,18] (.alt 16 (.look 19 (.look 20 .done)) .nil)) .nil)) .nil)) [1,2,3] ?_;refine⟨rfl,?_⟩;refine useFs d ?_;rintro _ F1 a rfl;refine⟨a,rfl,rfl,rfl,fun m=>?_,fun m=>?_⟩
  ·exact e false F1 _ _ (Q gA) rfl a
  ·exact e false F1 _ _ (Q gA) rfl a
 refine dwS (.look 0 (.alt 1 (lk [2,3,4,5,6,7,8,10,11] (.alt 9 (lk [12,13,14,15,17,18] (.alt 16 (.look 19 (.look 20 .done)) .nil)) .nil)) .nil)) [1,2,3] ?_;refine⟨rfl,?_⟩;refine useFs d ?_;rintro _ F1 a rfl;refine⟨a,rfl,rfl,rfl,fun m=>?_,fun m=>?_⟩
 rotate_left
 ·exact e false F1 _ _ (S m) rfl a
 refine⟨fun I=>?_,fun I=>?_⟩
 rotate_left
 ·exact e false F1 _ _ (e2 I) rfl a
 have q:A.length=8:=by have:=od gA;omega
 have u:B.length=8:=by
  have h:decide ((B.length:Int)=8)=true:=by simpa using I
  have:=od h;omega
 refine⟨rfl,rfl,?_⟩;refine useFs (D F1 a q) ?_;rintro _ F2 l2 rfl;have m2:=Fz.t a l2;refine⟨l2,rfl,rfl,rfl,fun V=>?_,fun V=>?_⟩
 rotate_left
 ·exact e false F2 _ _ (T V) rfl m2
 refine⟨rfl,rfl,?_⟩;refine useFs (E F2 m2 u) ?_;rintro _ F3 l3 rfl;have m3:=Fz.t m2 l3;refine⟨l3,rfl,rfl,rfl,?_⟩;refine br (fun W=>?_) (fun W=>?_)
 ·exact e false F3 _ _ (U W) rfl m3
 refine zat 2 (fun _=>.cells 34 [.slice ac 0 Z ab 1 A.length aa]) ?_;intro O F4 l4 j;refine zat 3 (fun _=>.cells 34 [.slice ag 0 ad af 1 B.length ae]) ?_;intro bB F5 l5 k;have m5:=Fz.t m3 (Fz.t l4 l5);refine useFs (f F5 m5 (O 0) (bB 0) q u (by simpa using m) (l5 _ _ (j 0 rfl)) (k 0 rfl)) ?_;rintro _ F6 l6 rfl;exact e _ F6 _ _ (n gA I m V W) rfl (Fz.t m5 l6)
end Go.Proofs.YtfnkamphhpldcaaGreatDoor
namespace Go.Proofs.YtfnkamphhpldcaaGreatDoor
open Go Sx
theorem ybo(n:Int):unz (zig n)=n:=by
 grind[zig,unz]
theorem z1h(z:Nat):putZ z≠[]:=by
 grind[zf6,zhd]
theorem zzb(z:Nat):∀(r:List UInt8) (f i acc:Nat),(putZ z).length<=f->∃b,decZ (putZ z++r) f i acc=some (acc+z*128^i,i+((putZ z).length - 1),b)/\(b=0->z=0):=by
 induction z using Nat.strongRecOn with
 |_ z ih=>
  intro r f i acc a;by_cases c:z < 128
  ·rw[zf6 c]at a ⊢;obtain⟨f,rfl⟩:∃g,f=g+1:=⟨f - 1,by simp at a;omega⟩
   have e:(UInt8.ofNat z).toNat=z:=by rw[qan];exact jq (by omega)
   refine⟨UInt8.ofNat z,?_,fun h=>?_⟩
   ·rw[jt,qv,decZ,if_neg (by rw[e];omega),e];rfl
   simp_all
  ·have h1:=ih (z / 128) (by omega);rw[zhd c]at a ⊢;obtain⟨f,rfl⟩:∃g,f=g+1:=⟨f - 1,by simp at a;omega⟩
   have e:(UInt8.ofNat (z % 128+128)).toNat=z % 128+128:=by rw[qan];exact jq (by omega)
   obtain⟨b,k,o⟩:=h1 r f (i+1) (acc+(z % 128+128) % 128*128^i) (by simp at a;omega);have n:0 < (putZ (z / 128)).length:=qb4.2 (z1h _);refine⟨b,?_,fun hb=>?_⟩
   ·rw[jt,decZ,if_pos (by rw[e];omega),e,k,qce]
    have d:acc+(z % 128+128) % 128*128^i+z / 128*(128^i*128)=acc+z*128^i:=by
     have l:z*128^i=(z % 128+128*(z / 128))*128^i:=by rw[Nat.mod_add_div]
     have m:(z % 128+128) % 128=z % 128:=by omega
     rw[l,m,qby,qab (128^i) 128,<-qcm,qab (z / 128) 128];omega
    rw[d,qj];have j:i+1+((putZ (z / 128)).length - 1)=i+((putZ (z / 128)).length+1 - 1):=by omega
    rw[j]
   grind
def okI(n:Int):Prop:=-4611686018427387903<=n/\n<=4611686018427387903
theorem zkr{n:Int}(h:okI n):(putIR n).1=putI n:=by
 grind[okI,putIR]
theorem zjv(n:Int):putI n≠[]:=z1h _
theorem zey(a r:List UInt8){n:Int}(h:okI n):getI (a++(putI n++r)) (a.length:Nat)=(n,(((a++putI n).length:Nat):Int),0):=by
 have c:=zoy n h;have d:0 < (putI n).length:=qb4.2 (zjv n);obtain⟨b,h1,e⟩:=zzb (zig n) r 9 0 0 c;rw[getI,if_neg (by rw[qd];omega),qk,qcw]
 grind[ybo,List.length_append,zf6,decZ,okI,putZ,zig,putI]
theorem zum(a r t:List UInt8)(h:t.length<=65536):getS (a++((putSR t).1++r)) (a.length:Nat)=(t,(((a++(putSR t).1).length:Nat):Int),0):=by
 have e:(putSR t).1=putI t.length++t:=by rw[putSR,if_neg (by omega)]
 have b:okI (t.length:Int):=by unfold okI;omega
 rw[e];have f:=zey a (t++r) b;rw[qp,getS,f];dsimp only;rw[if_neg (by simp),if_neg]
 ·have c:((((a++putI t.length).length:Nat):Int)+(t.length:Int)).toNat=(a++putI t.length++t).length:=by
   rw[qd (bs:=t)];omega
  have d:a++(putI t.length++(t++r))=(a++putI t.length++t)++r:=by simp only[qp]
  rw[c,d,List.take_left,qk,qcw];refine Prod.ext rfl (Prod.ext ?_ rfl);show(((a++putI t.length).length:Nat):Int)+(t.length:Int)=_;show _=(((a++(putI t.length++t)).length:Nat):Int);simp only[qd];omega
 grind
theorem z03(a r:List UInt8){n c b:Int}(h:okI n)(d:c<=n/\n<=b):zbd (a++(putI n++r)) (a.length:Nat) c b=true:=by
 grind[zaw,zey]
theorem z98{acc:List Int}(a:∀x∈acc,okI x)(k:Nat):okI (acc.getD k 0):=by
 grind[List.mem_of_getElem?,okI]
theorem yb6{p:Int}{acc:List Int}(a:∀x∈acc,okI x){x:Int}(h:(bnd p acc).1<=x/\x<=(bnd p acc).2):okI x:=by
 grind[z98,bnd,okI]
theorem zgt(x:Int)(r:List Int):zad (x::r)=(putIR x).1++zad r:=rfl
theorem zq6{p:Int}(r:List UInt8):∀(n acc:List Int) (a:List UInt8),(∀x∈acc,okI x)->zem p acc n->numsS (a++(zad n++r)) p n.length acc (a.length:Nat)=some (acc++n,(((a++zad n).length:Nat):Int))
 |[],acc,a,_,_=>by
  grind[zad,numsS,okI,zem]
 |x::n,acc,a,ha,h=>by
  have b:=yb6 ha h.1;have ih:=zq6 r n (acc++[x]) (a++putI x) (fun z c=>by rcases yk.1 c with h | h;exact ha z h;rw[qz.1 h];exact b) h.2
  grind[zgt,zkr,List.length_cons,z03,zey,List.append_assoc,List.singleton_append,numsS,zad,okI,zem,putI]
theorem z0j{p:Int}{a:List Ln}{x:Ln}(b r:List UInt8)(h:lnOk p a x):lineS (b++(lineW p x++r)) p a (b.length:Nat)=some (x,(((b++lineW p x).length:Nat):Int)):=by
 unfold lnOk at h
 grind[zum,zq6,lineS,putSR,cols,zad,lineW]
theorem znh{p:Int}(r:List UInt8):∀(l acc:List Ln) (a:List UInt8),lnsOk p acc l->zcp (a++((l.map (lineW p)).flatten++r)) p l.length acc (a.length:Nat)=some (acc++l,(((a++(l.map (lineW p)).flatten).length:Nat):Int))
 |[],acc,a,_=>by
  grind[zcp,lineW,lnsOk]
 |x::l,acc,a,h=>by
  have ih:=znh r l (acc++[x]) (a++lineW p x) h.2
  grind[List.flatten_cons,List.length_cons,z0j,List.append_assoc,List.singleton_append,zcp,lineW,lnsOk]
theorem zq4{n:Int}(h:okI n):zad [n]=putI n:=by
 rw[zgt,zkr h];exact q5 _
theorem zlp{n m:Int}(h:okI n)(a:okI m):zad [n,m]=putI n++putI m:=by
 grind[zgt,zkr,zq4]
theorem zxa{p:Int}{v:Val}(u:1<=p/\p<=8)(c:VOK p v):readS p (zbp p v)=some v:=by
 rcases c with rfl | ⟨l,c⟩
 ·grind[zbp,loseV,readS]
 obtain⟨k,L,w,h,bits⟩:=v;replace l:k=false:=l;subst l;dsimp only at c;by_cases i:p=8
 ·rw[if_pos i]at c;obtain⟨rfl,rfl,m,hh⟩:=c;have f:okI w:=by unfold okI;omega
  have d:okI h:=by unfold okI;omega
  have e:zbp p ⟨false,[],w,h,[]⟩=putI w++putI h:=by
   rw[zbp,if_neg (by simp),if_pos (by omega),if_neg (by omega),q5,zlp f d]
  have a:=zey [] (putI h) f;have b:=zey (putI w) [] d;rw[qv,qv]at a;rw[q5]at b;replace a:getI (putI w++putI h) 0=(w,((putI w).length:Int),0):=a;rw[e,readS,if_neg (by omega),if_neg (by simp[zjv]),if_pos i,a];dsimp only
  grind[zbd,putI,getI,okI,zbp]
 rw[if_neg i]at c;by_cases g:6<=p
 ·rw[if_pos g]at c;obtain⟨rfl,m,hh,hb⟩:=c;have f:okI w:=by unfold okI;omega
  have d:okI h:=by unfold okI;omega
  by_cases j:p=7
  ·rw[if_pos j]at hb
   have n:bits.length<=65536:=by
    have s:w*h<=32*h:=qci m.2 (by omega);omega
   have e:zbp p ⟨false,[],w,h,bits⟩=putI w++(putI h++(putSR bits).1):=by
    rw[zbp,if_neg (by simp),if_pos (by omega),if_pos j,zlp f d,qp]
   have a:=zey [] (putI h++(putSR bits).1) f;have b:=zey (putI w) (putSR bits).1 d;have o:=zum (putI w++putI h) [] bits n;rw[qv,qv]at a;rw[q5,qp (putI w)]at o;replace a:getI (putI w++(putI h++(putSR bits).1)) 0=(w,((putI w).length:Int),0):=a;rw[e,readS,if_neg (by omega),if_neg (by simp[zjv]),if_neg i,if_pos g,a];dsimp only;rw[b];dsimp only;rw[if_pos ⟨zaw.2 (by rw[a];exact⟨rfl,m⟩),zaw.2 (by rw[b];exact⟨rfl,hh⟩)⟩,if_pos j,o];exact if_pos ⟨rfl,hb.1,hb.2,by rfl⟩
  ·rw[if_neg j]at hb;subst hb
   have e:zbp p ⟨false,[],w,h,[]⟩=putI w++putI h:=by
    rw[zbp,if_neg (by simp),if_pos (by omega),if_neg (by omega),q5,zlp f d]
   have a:=zey [] (putI h) f;have b:=zey (putI w) [] d;rw[qv,qv]at a;rw[q5]at b;replace a:getI (putI w++putI h) 0=(w,((putI w).length:Int),0):=a;rw[e,readS,if_neg (by omega),if_neg (by simp[zjv]),if_neg i,if_pos g,a];dsimp only;rw[b];dsimp only;rw[if_pos ⟨zaw.2 (by rw[a];exact⟨rfl,m⟩),zaw.2 (by rw[b];exact⟨rfl,hh⟩)⟩,if_neg j];exact if_pos rfl
 ·rw[if_neg g]at c;obtain⟨rfl,rfl,rfl,l,q⟩:=c;have on:okI (L.length:Int):=by unfold okI;omega
  have e:zbp p ⟨false,L,0,0,[]⟩=putI L.length++(L.map (lineW p)).flatten:=by
   rw[zbp,if_neg (by simp),if_neg g,zq4 on]
  have a:=zey [] ((L.map (lineW p)).flatten) on;have b:=znh [] L [] (putI L.length) q;rw[qv,qv]at a;rw[q5]at b;replace a:getI (putI L.length++(L.map (lineW p)).flatten) 0=((L.length:Int),((putI L.length).length:Int),0):=a;rw[e,readS,if_neg (by omega),if_neg (by simp[zjv]),if_neg i,if_neg g,if_pos (zaw.2 (by rw[a];exact⟨rfl,by dsimp only;omega,by dsimp only;omega⟩)),a]
  grind
theorem znz{p:Int}{v:Val}(h:VOK p v)(a:v.lost=true):v=loseV:=by
 grind[loseV,VOK]
def nfs(p:Int):List (List Stp):=
 [(6,0)]::if p=1 then [[],[(1,0)],[(2,0)],[(1,0),(2,0)]]
 else if p=2 then [[],[(4,0)],[(4,1)],[(4,2)],[(4,3)],[(4,4)],[(4,5)],[(4,6)]]
 else if p=3\/p=5 then [[],[(3,10)],[(3,100)],[(3,1000)]]
 else if p=6\/p=7 then [[],[(5,0)],[(5,0),(5,0)],[(5,0),(5,0),(5,0)],[(5,0),(5,0),(5,0),(5,0)],[(5,0),(5,0),(5,0),(5,0),(5,0)]]
 else [[]]
def sts(p:Int):List Stp:=
 (6,0)::if p=1 then [(1,0),(2,0)]else if p=2 then [(4,0),(4,1),(4,2),(4,3),(4,4),(4,5),(4,6)]else if p=3\/p=5 then [(3,10),(3,100),(3,1000)]else if p=6\/p=7 then [(5,0)]else []
theorem p8{p:Int}(a:1<=p/\p<=8):p=1\/p=2\/p=3\/p=4\/p=5\/p=6\/p=7\/p=8:=by omega
theorem yak{p:Int}{s:Stp}(a:1<=p/\p<=8)(h:zbl p s=true):s∈sts p:=by
 obtain⟨k,n⟩:=s;rcases zbn a h with⟨rfl,rfl,rfl⟩ | ⟨rfl,rfl,rfl⟩ | ⟨rfl,rfl | rfl,rfl | rfl | rfl⟩ | ⟨rfl,rfl,b⟩ | ⟨rfl,rfl | rfl,rfl⟩ | ⟨rfl,rfl⟩
 case inr.inr.inr.inl=>
  have:n=0\/n=1\/n=2\/n=3\/n=4\/n=5\/n=6:=by omega
  simp_all[sts,zbl]
 case inr.inr.inr.inr.inr=>simp[sts]
 all_goals decide
theorem z6h{p:Int}(a:1<=p/\p<=8):∀m∈nfs p,∀s∈sts p,normS (m++[s])∈nfs p:=by
 rcases p8 a with rfl | rfl | rfl | rfl | rfl | rfl | rfl | rfl<;>decide+kernel
theorem z01(l:List Stp):normS (normS l)=normS l:=by
 have h:=zlo l [];rw[show normS []=[]from rfl,q5,q5]at h;omega
theorem z02(l:List Stp)(s:Stp):normS (normS l++[s])=normS (l++[s]):=by
 have h1:=zlo l [s]
 grind[zlo,z01,normS]
theorem z7p{α:Type}{P:List α->Prop}(a:P [])(h1:∀l x,P l->P (l++[x]))(l:List α):P l:=by
 have:∀n,n<=l.length->P (l.take n):=by
  intro n
  induction n with
  |zero=>intro _;exact a
  |succ n ih=>
   intro h;rw[qf (by omega)];exact h1 _ _ (ih (by omega))
 grind[List.take_length]
theorem z6i{p:Int}(a:1<=p/\p<=8)(l:List Stp):(∀s∈l,zbl p s=true)->normS l∈nfs p:=by
 refine z7p (P:=fun l=>(∀s∈l,zbl p s=true)->normS l∈nfs p) ?_ ?_ l
 ·intro _;rcases p8 a with rfl | rfl | rfl | rfl | rfl | rfl | rfl | rfl<;>decide+kernel
 ·intro l x ih h;rw[<-z02]
  grind[z6h,List.mem_append_left,yak]
theorem zsc{p:Int}{l:List Stp}{v:Val}(a:za2 p l=true)(b:VOK p v):zea p l (zbp p v)=(zbp p (runS l v),0):=by
 rw[zea,if_pos a,zxa (zpk a) b]
theorem yaq{p:Int}{l:List Stp}(a:za2 p l=true):normS l∈nfs p:=z6i (zpk a) l (zjf a)
instance decNums (p:Int):∀(l acc:List Int),Decidable (zem p acc l)
 |[],_=>isTrue trivial
 |x::r,acc=>@instDecidableAnd _ _ inferInstance (decNums p r (acc++[x]))
instance decLn (p:Int) (before:List Ln) (x:Ln):Decidable (lnOk p before x):=by
 unfold lnOk
 have:Decidable (∀y,before.getLast? =some y->cmpL (y.2.take 2) (x.2.take 2) < 0):=by
  cases h:before.getLast? with
  |none=>exact isTrue (fun y hy=>by cases hy)
  |some z=>
   by_cases hz:cmpL (z.2.take 2) (x.2.take 2) < 0
   ·exact isTrue (fun y hy=>by cases hy;exact hz)
   ·exact isFalse (fun hy=>hz (hy z rfl))
 infer_instance
instance decLns (p:Int):∀(l acc:List Ln),Decidable (lnsOk p acc l)
 |[],_=>isTrue trivial
 |x::r,acc=>@instDecidableAnd _ _ (decLn p acc x) (decLns p r (acc++[x]))
def VOK1(p:Int)(v:Val):Prop:=v.lost=false/\
  if p=8 then v.lines=[]/\v.bits=[]/\(0<=v.w/\v.w<=64)/\(0<=v.h/\v.h<=64)
  else if 6<=p then v.lines=[]/\(0<=v.w/\v.w<=32)/\(min v.w 1<=v.h/\v.h<=min v.w 1*32)/\(if p=7 then(v.bits.length:Int)=v.w*v.h/\v.bits.all (fun b=>b==48||b==49)=true else v.bits=[])
  else v.w=0/\v.h=0/\v.bits=[]/\v.lines.length<=64/\lnsOk p [] v.lines
instance decVOK (p:Int) (v:Val):Decidable (VOK1 p v):=by unfold VOK1;infer_instance
theorem nilV{p:Int}(a:1<=p/\p<=8):za2 p []=true:=by
 rcases p8 a with rfl | rfl | rfl | rfl | rfl | rfl | rfl | rfl<;>decide
end Go.Proofs.YtfnkamphhpldcaaGreatDoor
namespace Sx
open Go
theorem ybz{P:Program}{c:Code}{b:St}{Q:SE->St->Prop}{X:Type}(i:St)(I:X->St)(g:WfH b.h b.nx->WfT b.t b.nx->Le b i/\WP P c i (fun e f=>e=.normal/\∃x,Le f (I x)))(n:∀x,Q .normal (I x)):WP P c b Q:=by
 unfold WP;intro C ρ a w D;obtain⟨g,h1⟩:=g D.wfH D.wfT;unfold Le at g;obtain⟨q,k⟩:=g C ρ a w D;unfold WP at h1;refine wp_mono (h1 C q a w k) ?_;rintro e m o ⟨u,f,p,⟨rfl,x,d⟩,rfl,j⟩;unfold Le at d;obtain⟨s,l⟩:=d C p m o j;exact⟨.normal,I x,s,n x,rfl,l⟩
end Sx
namespace Go.Proofs.YtfnkamphhpldcaaGreatDoor
open Go Sx
set_option maxRecDepth 100000
theorem zh0{P:Program}{F:Fz}{f:FuncId}{args:List SV}{b:Bool}{R:Fz->Prop}(h:Fo P F f args (fun o a=>o=.ret (.va (.bool b))/\R a)):Fo P F f args (fun o a=>o=.ret (.va (.lit b))/\R a):=by
 unfold Fo at*;refine zh6 h fun o h n i=>?_
 unfold Cln at*;intro C ρ w e j S k hb;obtain⟨c,d,g,n0,u,⟨l,m,p,x,rfl,q⟩,s,y,r⟩:=i C ρ w e j S k hb;exact⟨.ret (.va (.lit b)),d,g,n0,u,⟨l,m,p,rfl,rfl,q⟩,s,tv,r⟩
