import Derived.Test.YtfnkamphhpldcaaGreatDoorK39
import Derived.Test.YtfnkamphhpldcaaGreatDoorK35
import Derived.Test.YtfnkamphhpldcaaGreatDoorK42
import Derived.Test.YtfnkamphhpldcaaGreatDoorK23
import Derived.Test.YtfnkamphhpldcaaGreatDoorK17
import Derived.Test.YtfnkamphhpldcaaGreatDoorK40
set_option maxHeartbeats 64000000
namespace Go.Proofs.YtfnkamphhpldcaaGreatDoor
open Go Sx Tryz
set_option maxRecDepth 100000
theorem oF(c n:Int)(a:i64 c)(b:0 < n):Pu prog 47 [.va (.int .i64 c),.va (.int .i64 n)] (.va (.int .i64 (pickI c n))):=by
 intro F;unfold i64 at a;refine foS func47 ?_;refine br (fun g=>?_) (fun g=>?_)
 ·refine⟨by omega,?_⟩;refine endPu rfl (Fz.r F) (oi ?_) rfl;simp at g;rw[aI (n:=c+1) oo oo,aI (n:=0 - (c+1)) oo oo,pickI,if_pos g]
  congr 1;omega
 ·refine⟨by omega,?_⟩;refine endPu rfl (Fz.r F) (oi ?_) rfl;simp at g;rw[pickI,if_neg oo]
def tbl9:List (List (List Stp)):=[[[],[(1,0)],[(2,0)],[(1,0),(2,0)],[(6,0)],[]],[[],[(4,3)],[(4,0)],[(6,0)],[],[(4,6)]],[[],[(3,10)],[(3,100)],[(6,0)],[],[]],[[],[],[],[(6,0)],[],[]],[[],[(5,0)],[(5,0),(5,0)],[(6,0)],[],[]]]
def prp9:List Int:=[1,2,3,4,7]
def stp9(i:Nat)(j:Nat):List Stp:=(tbl9.getD i []).getD j []
def kE(F:Fz)(c:SA)(l:List Stp):Prop:=(l=[]/\c=.nilsl)\/(0 < l.length/\∃b,c=.slice false 0 b 0 2 l.length l.length/\F b=some (.arr 56 2 (l.map enc) l.length))
def RowAt(F:Fz)(c:SA)(r:List (List Stp)):Prop:=∃b R,c=.slice false 0 b 0 1 6 6/\F b=some (.arr 50 1 R 6)/\∀j,j < 6->∃s,R[j]? =some [s]/\kE F s (r.getD j [])
def TblAt(F:Fz)(b:Nat):Prop:=∃R,F b=some (.arr 99 1 R 5)/\∀i,i < 5->∃s,R[i]? =some [s]/\RowAt F s (tbl9.getD i [])
variable {F:Fz}
theorem kE.mono{d:Fz}{c:SA}{l:List Stp}(h:kE F c l)(a:Fz.le F d):kE d c l:=by
 rcases h with h | ⟨h,b,h1,e⟩
 ·exact .inl h
 ·exact .inr ⟨h,b,h1,a _ _ e⟩
theorem TblAt.mono{c:Fz}{b:Nat}(h:TblAt F b)(a:Fz.le F c):TblAt c b:=by
 obtain⟨R,h1,e⟩:=h;refine⟨R,a _ _ h1,fun i o=>?_⟩;obtain⟨s,f,b,d,g,k,l⟩:=e i o;refine⟨s,f,b,d,g,a _ _ k,fun j p=>?_⟩;obtain⟨s,m,n⟩:=l j p;exact⟨s,m,n.mono a⟩
variable {n:Nat}
theorem yd4{b J K L O c d f g l m M e h k o:Nat}(p:F b=some (.arr 56 2 [[.int .i64 6,.int .i64 0]] 1))(Q:F J=some (.arr 56 2 [[.int .i64 1,.int .i64 0]] 1))(R:F K=some (.arr 56 2 [[.int .i64 2,.int .i64 0]] 1))(S:F L=some (.arr 56 2 [[.int .i64 1,.int .i64 0],[.int .i64 2,.int .i64 0]] 2))(U:F O=some (.arr 56 2 [[.int .i64 4,.int .i64 3]] 1))(s:F c=some (.arr 56 2 [[.int .i64 4,.int .i64 0]] 1))(u:F d=some (.arr 56 2 [[.int .i64 4,.int .i64 6]] 1))(x:F f=some (.arr 56 2 [[.int .i64 3,.int .i64 10]] 1))(y:F g=some (.arr 56 2 [[.int .i64 3,.int .i64 100]] 1))(D:F l=some (.arr 56 2 [[.int .i64 5,.int .i64 0]] 1))(E:F m=some (.arr 56 2 [[.int .i64 5,.int .i64 0],[.int .i64 5,.int .i64 0]] 2))(T:F M=some (.arr 50 1 [[.nilsl],[.slice false 0 J 0 2 1 1],[.slice false 0 K 0 2 1 1],[.slice false 0 L 0 2 2 2],[.slice false 0 b 0 2 1 1],[.nilsl]] 6))(w:F e=some (.arr 50 1 [[.nilsl],[.slice false 0 O 0 2 1 1],[.slice false 0 c 0 2 1 1],[.slice false 0 b 0 2 1 1],[.nilsl],[.slice false 0 d 0 2 1 1]] 6))(A:F h=some (.arr 50 1 [[.nilsl],[.slice false 0 f 0 2 1 1],[.slice false 0 g 0 2 1 1],[.slice false 0 b 0 2 1 1],[.nilsl],[.nilsl]] 6))(B:F k=some (.arr 50 1 [[.nilsl],[.nilsl],[.nilsl],[.slice false 0 b 0 2 1 1],[.nilsl],[.nilsl]] 6))(G:F n=some (.arr 50 1 [[.nilsl],[.slice false 0 l 0 2 1 1],[.slice false 0 m 0 2 2 2],[.slice false 0 b 0 2 1 1],[.nilsl],[.nilsl]] 6))(I:F o=some (.arr 99 1 [[.slice false 0 M 0 1 6 6],[.slice false 0 e 0 1 6 6],[.slice false 0 h 0 1 6 6],[.slice false 0 k 0 1 6 6],[.slice false 0 n 0 1 6 6]] 5)):TblAt F o:=by
 refine⟨_,I,fun i V=>?_⟩;have a:i=0\/i=1\/i=2\/i=3\/i=4:=by omega
 rcases a with rfl | rfl | rfl | rfl | rfl
 ·refine⟨_,rfl,_,_,rfl,T,fun j q=>?_⟩;have a:j=0\/j=1\/j=2\/j=3\/j=4\/j=5:=by omega
  rcases a with rfl | rfl | rfl | rfl | rfl | rfl
  ·exact⟨_,rfl,.inl ⟨rfl,rfl⟩⟩
  ·exact⟨_,rfl,.inr ⟨by decide,_,rfl,Q⟩⟩
  ·exact⟨_,rfl,.inr ⟨by decide,_,rfl,R⟩⟩
  ·exact⟨_,rfl,.inr ⟨by decide,_,rfl,S⟩⟩
  ·exact⟨_,rfl,.inr ⟨by decide,_,rfl,p⟩⟩
  ·exact⟨_,rfl,.inl ⟨rfl,rfl⟩⟩
 ·refine⟨_,rfl,_,_,rfl,w,fun j q=>?_⟩;have a:j=0\/j=1\/j=2\/j=3\/j=4\/j=5:=by omega
  rcases a with rfl | rfl | rfl | rfl | rfl | rfl
  ·exact⟨_,rfl,.inl ⟨rfl,rfl⟩⟩
  ·exact⟨_,rfl,.inr ⟨by decide,_,rfl,U⟩⟩
  ·exact⟨_,rfl,.inr ⟨by decide,_,rfl,s⟩⟩
  ·exact⟨_,rfl,.inr ⟨by decide,_,rfl,p⟩⟩
  ·exact⟨_,rfl,.inl ⟨rfl,rfl⟩⟩
  ·exact⟨_,rfl,.inr ⟨by decide,_,rfl,u⟩⟩
 ·refine⟨_,rfl,_,_,rfl,A,fun j q=>?_⟩;have a:j=0\/j=1\/j=2\/j=3\/j=4\/j=5:=by omega
  rcases a with rfl | rfl | rfl | rfl | rfl | rfl
  ·exact⟨_,rfl,.inl ⟨rfl,rfl⟩⟩
  ·exact⟨_,rfl,.inr ⟨by decide,_,rfl,x⟩⟩
  ·exact⟨_,rfl,.inr ⟨by decide,_,rfl,y⟩⟩
  ·exact⟨_,rfl,.inr ⟨by decide,_,rfl,p⟩⟩
  ·exact⟨_,rfl,.inl ⟨rfl,rfl⟩⟩
  ·exact⟨_,rfl,.inl ⟨rfl,rfl⟩⟩
 ·refine⟨_,rfl,_,_,rfl,B,fun j q=>?_⟩;have a:j=0\/j=1\/j=2\/j=3\/j=4\/j=5:=by omega
  rcases a with rfl | rfl | rfl | rfl | rfl | rfl
  ·exact⟨_,rfl,.inl ⟨rfl,rfl⟩⟩
  ·exact⟨_,rfl,.inl ⟨rfl,rfl⟩⟩
  ·exact⟨_,rfl,.inl ⟨rfl,rfl⟩⟩
  ·exact⟨_,rfl,.inr ⟨by decide,_,rfl,p⟩⟩
  ·exact⟨_,rfl,.inl ⟨rfl,rfl⟩⟩
  ·exact⟨_,rfl,.inl ⟨rfl,rfl⟩⟩
 ·refine⟨_,rfl,_,_,rfl,G,fun j q=>?_⟩;have a:j=0\/j=1\/j=2\/j=3\/j=4\/j=5:=by omega
  rcases a with rfl | rfl | rfl | rfl | rfl | rfl
  ·exact⟨_,rfl,.inl ⟨rfl,rfl⟩⟩
  ·exact⟨_,rfl,.inr ⟨by decide,_,rfl,D⟩⟩
  ·exact⟨_,rfl,.inr ⟨by decide,_,rfl,E⟩⟩
  ·exact⟨_,rfl,.inr ⟨by decide,_,rfl,p⟩⟩
  ·exact⟨_,rfl,.inl ⟨rfl,rfl⟩⟩
  ·exact⟨_,rfl,.inl ⟨rfl,rfl⟩⟩
abbrev box9(a b c d e:Int):Ent:=.one (.cells 28 [.int .i64 a,.int .i64 b,.int .i64 c,.int .i64 d,.int .i64 e])
variable {a b e:Int}
theorem lg{c d:Int}:(box9 a b c d e).below n:=(SB.bB_ok rfl:SB.below n (.cells 28 [.int .i64 a,.int .i64 b,.int .i64 c,.int .i64 d,.int .i64 e]))
variable {i:Nat}
theorem lq{c:Nat}{z:Int}{o:List ZC}(h:i < n):(Ent.one (.cells 32 [.int .i64 z,.int .i64 a,.int .i64 b,.lit false,gA 2 i c o])).below n:=by
 intro t d;simp only[qh,qq,or_false]at d;rcases d with rfl | rfl | rfl | rfl | rfl
 ·trivial
 ·trivial
 ·trivial
 ·trivial
 ·exact e9 h _ _ _
def keep9(xs:List Int):Nat->List Kp
 |0=>[]
 |i+1=>keep9 xs i++(if stp9 i (pickI (xs.getD i 0) 6).toNat=[]then []else [(prp9.getD i 0,stp9 i (pickI (xs.getD i 0) 6).toNat)])
theorem qL{c d:Int}(h:i64 a/\i64 b/\i64 c/\i64 d/\i64 e)(k:Nat):i64 ([a,b,c,d,e].getD k 0):=by
 obtain⟨f,h1,g,i,j⟩:=h
 match k with
 |0=>exact f
 |1=>exact h1
 |2=>exact g
 |3=>exact i
 |4=>exact j
 |n+5=>exact(⟨by decide,by decide⟩:i64 0)
theorem yd8(a b c d e:Int){k:Nat}(h:k < 5):dA [SA.int .i64 a,.int .i64 b,.int .i64 c,.int .i64 d,.int .i64 e] (((k:Nat):Int).toNat*1) 1=some [.int .i64 ([a,b,c,d,e].getD k 0)]:=by
 have f:k=0\/k=1\/k=2\/k=3\/k=4:=by omega
 rcases f with rfl | rfl | rfl | rfl | rfl<;>rfl
theorem ybk{k:Nat}(h:k < 5):[[SA.int .i64 1],[.int .i64 2],[.int .i64 3],[.int .i64 4],[.int .i64 7]][0+((k:Nat):Int).toNat]? =some [.int .i64 (prp9.getD k 0)]:=by
 have a:k=0\/k=1\/k=2\/k=3\/k=4:=by omega
 rcases a with rfl | rfl | rfl | rfl | rfl<;>rfl
theorem w5:∀i,i < 5->∀j,j < 6->(stp9 i j).length<=2:=by decide
theorem ydp{G:Fz}{b:Nat}{d f h i:Int}(B:i64 d/\i64 e/\i64 f/\i64 h/\i64 i)(x:TblAt G b){k:Nat}(g:k < 5):∃(J:Int) (p:List Stp) (n:SA) (R:List (List SA)) (br:Nat) (m:List (List SA)),
  (∀F,Fo prog F 47 [.va (.int .i64 ([d,e,f,h,i].getD k 0)),.va (.int .i64 6)] (fun o u=>o=.ret (.va (.int .i64 J))/\u=F))/\0<=J/\J < 6/\p.length<=2/\
  keep9 [d,e,f,h,i] (k+1)=keep9 [d,e,f,h,i] k++(if p=[]then []else [(prp9.getD k 0,p)])/\G b=some (.arr 99 1 R 5)/\R[0+(k:Int).toNat]? =some [.slice false 0 br 0 1 6 6]/\
  G br=some (.arr 50 1 m 6)/\m[0+J.toNat]? =some [n]/\kE G n p:=by
 have l:=qL B k;have j:=dP ([d,e,f,h,i].getD k 0) 6 dd l;obtain⟨R,w,c⟩:=x;obtain⟨D,s,br,m,rfl,y,A⟩:=c k g;obtain⟨n,q,a⟩:=A (pickI ([d,e,f,h,i].getD k 0) 6).toNat oo;exact⟨_,stp9 k (pickI ([d,e,f,h,i].getD k 0) 6).toNat,n,R,br,m,fun F=>oF _ 6 l dd F,j.1,j.2,w5 k g _ oo,rfl,w,by rw[qn,q9];exact s,y,by rw[q9];exact q,a⟩
theorem ns{μ:Mu}{z:Int}{c:Nat}{o:List ZC}{A:SA}(d:A=(gA 2 i c o).ren μ):SB.cells 32 [.int .i64 z,.int .i64 a,.int .i64 b,.lit false,A]=SB.ren μ (.cells 32 [.int .i64 z,.int .i64 a,.int .i64 b,.lit false,gA 2 i c o]):=by subst d;rfl
theorem rt{h:Hp}(a:∀k,resP h 0 k=(0,k)){z:Nat}(b:resP h i 0=(0,z))(l:List ZC)(p:Int)(n c c':Nat):SB.ren (resP h) (.arr 96 2 (l.map encZ++[[.int .i64 p,.slice false i 0 0 2 n c]]) c')=.arr 96 2 (l.map encZ++[[.int .i64 p,.slice false 0 z 0 2 n c]]) c':=by
 show SB.arr 96 2 ((l.map encZ++([[.int .i64 p,.slice false i 0 0 2 n c]]:List (List SA))).map (List.map (SA.ren (resP h)))) c'=_;rw[qo,nI aD a];show SB.arr 96 2 (l.map encZ++[[.int .i64 p,.slice false (resP h i 0).1 (resP h i 0).2 0 2 n c]]) c'=_;rw[b]
theorem vn(b:0 < n)(l:List ZC)(x:ZC)(c:Nat):SB.below n (.arr 96 2 (l.map encZ++[encZ x]) c):=by
 have:=bP (n:=n) (e:=encZ) aD b 96 2 c (l++[x]);have a:SB.below n (.arr 96 2 ((l++[x]).map encZ) c):=this;rw[qo]at a;exact a
theorem yb5{α:Type}{l:List α}(h:l.length=n):List.take n (List.drop 0 l)=l:=by
 subst h;exact yp
theorem tk9{t:TypeId}{l:List SA}{p:Pl}{K:List SA->Prop}{x:List SA}(h:dA l (p.e*p.sz+p.o) 1=some x)(a:K x):rdB (.cells t l) p 1 K:=by
 simp only[rdB];rw[h];exact a
def made9(a b c d e f g:Int):Mig:=⟨IntKind.i64.wrap (1+pickI c 9),a,b,(keep9 [c,d,e,f,g] 5).isEmpty&&decide (pickI (c.tdiv 6) 2=0),keep9 [c,d,e,f,g] 5⟩
theorem ya8{i a b:SA}{c:Bool}(ρ:Rho)(e:Ending)(h:(Out.ret (.agg [i,a,b,.bool c,.nilsl])).rel ρ e):(Out.ret (.agg [i,a,b,.lit c,.slice true 0 0 0 2 0 0])).rel ρ e:=h
theorem ya7{i a b:SA}{c:Bool}(h:(Out.ret (.agg [i,a,b,.bool c,.nilsl])).below n):(Out.ret (.agg [i,a,b,.lit c,.slice true 0 0 0 2 0 0])).below n:=by
 intro t d;simp only[qh,qq,or_false]at d;rcases d with rfl | rfl | rfl | rfl | rfl
 ·exact h _ ss
 ·exact h _ ss
 ·exact h _ ss
 ·trivial
 ·exact .inl rfl
theorem fin9n{G:Fz}{c d f g:Int}(h:RowL G (keep9 [c,d,e,f,g] 5) []):∃sk,Out.ret (SV.agg [.int .i64 (IntKind.i64.wrap (1+pickI c 9)),.int .i64 a,.int .i64 b,.lit (decide (pickI (c.tdiv 6) 2=0)),.slice true 0 0 0 2 0 0])=.ret (.agg (migS (made9 a b c d e f g) sk))/\KpsAt G sk (made9 a b c d e f g).keep:=by
 have i:keep9 [c,d,e,f,g] 5=[]:=ji h.1.symm;refine⟨.slice true 0 0 0 2 0 0,by unfold made9;rw[i];rfl,?_⟩;show KpsAt G _ (keep9 [c,d,e,f,g] 5);rw[i];exact SlR.nil
theorem fin9c{G:Fz}{d f g j k:Int}{l:ZC}{c:List ZC}{m co:Nat}(h:RowL G (keep9 [d,f,g,j,k] 5) (l::c))(q:G m=some (.arr 96 2 ((l::c).map encZ) co)):∃sk,Out.ret (SV.agg [.int .i64 (IntKind.i64.wrap (1+pickI d 9)),.int .i64 a,.int .i64 b,.lit false,.slice false 0 m 0 2 (c.length+1) co])=.ret (.agg (migS (made9 a b d f g j k) sk))/\KpsAt G sk (made9 a b d f g j k).keep:=by
 have e:c.length+1=(keep9 [d,f,g,j,k] 5).length:=h.1;obtain⟨K,p⟩:∃K,keep9 [d,f,g,j,k] 5=K:=⟨_,rfl⟩
 unfold made9;rw[p]at e h ⊢;rcases K with _ | ⟨s,u⟩
 ·cases e
 refine⟨_,rfl,?_⟩;show KpsAt G _ (s::u);refine⟨false,m,0,co,_,co,by rw[e],fun h=>(nomatch h),fun _=>q,by rw[qa];exact qcx ((q9 _).trans e.symm),fun i x o=>?_⟩
 have n:i < (l::c).length:=by
  have:=(qg.1 o).1;rw[<-e]at this;exact this
 rw[q9];exact⟨encZ (l::c)[i],by rw[qt,qc n];rfl,h.2 i _ x (qc n) o⟩
theorem Bp(F:Fz)(a b:Int)(h Z x2 x3 x4:Int)(hx:i64 h/\i64 Z/\i64 x2/\i64 x3/\i64 x4):
  Fo prog F 13 [.va (.int .i64 a),.va (.int .i64 b),.agg [.int .i64 h,.int .i64 Z,.int .i64 x2,.int .i64 x3,.int .i64 x4]] (fun o F'=>∃sk,o=.ret (.agg (migS (made9 a b h Z x2 x3 x4) sk))/\KpsAt F' sk (made9 a b h Z x2 x3 x4).keep):=by
 have bh:=fun F=>oF h 9 hx.1 dd F
 have bg:=fun F=>oF (h.tdiv 6) 2 (i5 hx.1) dd F
 have a7:h.tdiv 6=IntKind.i64.wrap (h.tdiv 6):=by
  have:=i5 hx.1;unfold i64 at this;exact(aI oo oo).symm
 refine foS func13 ?_;refine⟨⟨by decide,by decide⟩,?_⟩;refine usePt (bh F) ?_;refine di 4 (fun _=>.arr 56 2 [[.int .i64 6,.int .i64 0]] 1) ?_;intro z4 G4 u4 ap;refine di 5 (fun _=>.arr 56 2 [[.int .i64 1,.int .i64 0]] 1) ?_;intro z5 G5 u5 aq;refine di 6 (fun _=>.arr 56 2 [[.int .i64 2,.int .i64 0]] 1) ?_;intro z6 G6 u6 ar;refine di 7 (fun _=>.arr 56 2 [[.int .i64 1,.int .i64 0],[.int .i64 2,.int .i64 0]] 2) ?_;intro z7 G7 u7 au;refine di 9 (fun _=>.arr 56 2 [[.int .i64 4,.int .i64 3]] 1) ?_;intro z9 G9 u9 aw;refine di 10 (fun _=>.arr 56 2 [[.int .i64 4,.int .i64 0]] 1) ?_;intro bx ca bk K;refine di 11 (fun _=>.arr 56 2 [[.int .i64 4,.int .i64 6]] 1) ?_;intro bz cb bl L;refine di 13 (fun _=>.arr 56 2 [[.int .i64 3,.int .i64 10]] 1) ?_;intro b1 cd bn O;refine di 14 (fun _=>.arr 56 2 [[.int .i64 3,.int .i64 100]] 1) ?_;intro b2 ce bo Q;refine di 17 (fun _=>.arr 56 2 [[.int .i64 5,.int .i64 0]] 1) ?_;intro b5 ch bs U;refine di 18 (fun _=>.arr 56 2 [[.int .i64 5,.int .i64 0],[.int .i64 5,.int .i64 0]] 2) ?_;intro b6 ci bt V;refine di 8 (fun _=>.arr 50 1 [[.nilsl],[.slice false 0 (z5 0) 0 2 1 1],[.slice false 0 (z6 0) 0 2 1 1],[.slice false 0 (z7 0) 0 2 2 2],[.slice false 0 (z4 0) 0 2 1 1],[.nilsl]] 6) ?_;intro z8 G8 u8 av;refine di 12 (fun _=>.arr 50 1 [[.nilsl],[.slice false 0 (z9 0) 0 2 1 1],[.slice false 0 (bx 0) 0 2 1 1],[.slice false 0 (z4 0) 0 2 1 1],[.nilsl],[.slice false 0 (bz 0) 0 2 1 1]] 6) ?_;intro b0 cc bm M;refine di 15 (fun _=>.arr 50 1 [[.nilsl],[.slice false 0 (b1 0) 0 2 1 1],[.slice false 0 (b2 0) 0 2 1 1],[.slice false 0 (z4 0) 0 2 1 1],[.nilsl],[.nilsl]] 6) ?_
 intro b3 cf bp S;refine di 16 (fun _=>.arr 50 1 [[.nilsl],[.nilsl],[.nilsl],[.slice false 0 (z4 0) 0 2 1 1],[.nilsl],[.nilsl]] 6) ?_;intro b4 cg bq T;refine di 19 (fun _=>.arr 50 1 [[.nilsl],[.slice false 0 (b5 0) 0 2 1 1],[.slice false 0 (b6 0) 0 2 2 2],[.slice false 0 (z4 0) 0 2 1 1],[.nilsl],[.nilsl]] 6) ?_;intro b7 ck bu W;refine di 20 (fun _=>.arr 99 1 [[.slice false 0 (z8 0) 0 1 6 6],[.slice false 0 (b0 0) 0 1 6 6],[.slice false 0 (b3 0) 0 1 6 6],[.slice false 0 (b4 0) 0 1 6 6],[.slice false 0 (b7 0) 0 1 6 6]] 5) ?_;intro b8 u bw Y;have bj:=Fz.r u;have a6:=Fz.t bw bj;have a3:=Fz.t bu a6;have a2:=Fz.t bq a3;have az:=Fz.t bp a2;have l8:=Fz.t bm az;have a5:=Fz.t u8 l8;have a4:=Fz.t bt a5;have a1:=Fz.t bs a4;have a0:=Fz.t bo a1;have ay:=Fz.t bn a0;have ax:=Fz.t bl ay;have l9:=Fz.t bk ax;have l7:=Fz.t u9 l9;have l6:=Fz.t u7 l7;have l5:=Fz.t u6 l6;have l4:=Fz.t u5 l5;have hT:=yd4 (l4 _ _ (ap 0 rfl)) (l5 _ _ (aq 0 rfl)) (l6 _ _ (ar 0 rfl)) (l7 _ _ (au 0 rfl)) (l9 _ _ (aw 0 rfl)) (ax _ _ (K 0 rfl)) (ay _ _ (L 0 rfl)) (a0 _ _ (O 0 rfl)) (a1 _ _ (Q 0 rfl)) (a4 _ _ (U 0 rfl)) (a5 _ _ (V 0 rfl)) (l8 _ _ (av 0 rfl)) (az _ _ (M 0 rfl)) (a2 _ _ (S 0 rfl)) (a3 _ _ (T 0 rfl)) (a6 _ _ (W 0 rfl)) (Y 0 rfl);refine resT 9 (.va (.slice false 0 (b8 0) 0 1 5 5)) rfl rfl (.inr (show(0:Nat) < 21 by decide)) ?_;have lF:=Fz.t u4 l4;clear ap aq ar au aw K L O Q U V av M S T W Y
 refine mf hΘ (X:={ y:Nat×List ZC×Nat×Fz // y.1<=5/\Fz.le u y.2.2.2/\RowL y.2.2.2 (keep9 [h,Z,x2,x3,x4] y.1) y.2.1/\y.2.1.length<=y.1 }) (fun y=>[(10,.va (.int .i64 y.1.1))]) (11::12::jr 55 31 [])
  (fun y=>[(0,.frz y.1.2.2.2),(1,box9 h Z x2 x3 x4),(3,.one (.cells 32 [.int .i64 (IntKind.i64.wrap (1+pickI h 9)),.int .i64 a,.int .i64 b,.lit false,gA 2 21 y.1.2.2.1 y.1.2.1])),(21,gE 96 2 encZ y.1.2.2.1 y.1.2.1)]) 22 (fun y=>5 - y.1.1) ⟨(0,[],0,u),jx _,Fz.r _,RowL.nil,qi _⟩
  (fun hH hT=>leI [(21,21)] hH hT rfl ⟨tv,lg,lq oo,bP aD oo _ _ _ _,tv⟩ ⟨rfl,tv⟩ ⟨Fz.r u,rfl,rfl,rfl,tv⟩) ?_
 rintro⟨⟨k,o,co,G⟩,hk,E,d,q⟩ hH aa;replace hk:k<=5:=hk;replace E:Fz.le u G:=E;replace d:RowL G (keep9 [h,Z,x2,x3,x4] k) o:=d;replace q:o.length<=k:=q;by_cases g:k < 5
 ·have w:(k:Int) < 5:=by omega
  have x:5 - (k+1) < 5 - k:=by omega
  have A:k < 4611686018427387904:=by omega
  have al:=ybk g;have an:=yd8 h Z x2 x3 x4 g;have bi:=ydp hx (hT.mono E) g;obtain⟨J,st,cj,R,cl,R',ak,af,ag,b9,e,hR,am,ad,ae,c⟩:=bi;refine Or.elim c (fun c=>?_) (fun c=>?_)
  ·obtain⟨rfl,rfl⟩:=c;rw[if_pos rfl,qy]at e;refine bri w ⟨rfl,⟨jz k,w⟩,_,al,?_⟩;refine dwS (lk [0,1,2,3,4,5,6] (.alt 7 (lk [8,9,10] .done) .nil)) [1] ?_;refine⟨rfl,⟨jz k,w⟩,rfl,_,hR,_,am,⟨jz k,w⟩,rfl,?_⟩;refine tk9 (t:=28) (p:=⟨0,0,(k:Int).toNat,1,0⟩) an ?_;refine usePt (ak G) ?_;refine⟨Fz.r G,rfl,rfl,⟨af,ag⟩,rfl,_,ad,_,ae,brd dd ?_⟩;exact dT ⟨⟨(k+1,o,co,G),g,E,by rw[e];exact d,qbe q⟩,x,leR [(21,21)] hH aa rfl ⟨tv,lg,lq oo,bP aD oo _ _ _ _,tv⟩ ⟨cnt A,tv⟩ ⟨Fz.r G,rfl,ns (fS (μ:=sig [(21,21)]) (i:=21) (j:=21) rfl o),cQ (μ:=sig [(21,21)]) aD (fun k=>rfl) (bF _ _ _ _),tv⟩⟩
  ·obtain⟨ai,cm,rfl,bb⟩:=c;have aj:¬st=[]:=qa3.1 ai;have bf:(0:Int) < (st.length:Int):=by omega
   rw[if_neg aj]at e;rcases st with _ | ⟨s0,s⟩
   ·exact absurd rfl aj
   have hX:=yb5 (l:=(s0::s).map enc) (n:=(s0::s).length) (qa _);have a9:(0+((s0::s).map enc).length)*16<=140737488355328:=by rw[qa];omega
   have a8:0+(s0::s).length<=((s0::s).map enc).length:=by rw[qa];omega
   have I:∀n,n<=k->(n+1)*32<=140737488355328:=fun n hn=>by omega
   rcases o with _ | ⟨o0,B⟩
   all_goals
    refine bri w ⟨rfl,⟨jz k,w⟩,_,al,?_⟩;refine dwS (lk [0,1,2,3,4,5,6] (.alt 7 (lk [8,9,10] .done) .nil)) [1] ?_;refine⟨rfl,⟨jz k,w⟩,rfl,_,hR,_,am,⟨jz k,w⟩,rfl,?_⟩;refine tk9 (t:=28) (p:=⟨0,0,(k:Int).toNat,1,0⟩) an ?_;refine usePt (ak G) ?_;refine⟨Fz.r G,rfl,rfl,⟨af,ag⟩,rfl,_,ad,_,ae,bri bf ?_⟩;refine dwS (lk [0,1,2,4] (.alt 3 (.alt 5 (.alt 6 (.alt 7 (.alt 8 (.look 9 (.last 10 .done)) .nil) .nil) .nil) .nil) .nil)) [3] ?_;refine⟨rfl,Fz.r G,rfl,_,_,_,bb,a8,_,hX,rfl,rfl,rfl,a9,fun D cn=>?_⟩;refine⟨Fz.r G,rfl,Fz.r G,rfl,Fz.r G,rfl,nb rfl,[[.int .i64 (prp9.getD k 0),.slice false 24 0 0 2 (0+((s0::s).map enc).length) D]],rfl,?_⟩;conv=>whnf
    first
     |refine⟨rfl,rfl,by simp,rfl,I _ q,fun c' bc=>?_⟩
     |(refine⟨rfl,rfl,?_⟩;(conv=>whnf);refine⟨I 0 (jx _),fun c' bc=>?_⟩)
    refine⟨Fz.r G,rfl,?_⟩;refine eO 24 (fun _=>.arr 56 2 ((s0::s).map enc) D) rfl rfl rfl (fun _ _=>gM _ _ _) (fun _ _=>eP _ _) ?_;intro m ac ab ao
    first
     |refine eJ 26 _ rfl (rt (fun _=>rfl) (i:=24) (z:=m 0) rfl (o0::B) (prp9.getD k 0) (0+((s0::s).map enc).length) D c') (vn (show 0 < 27 by decide) (o0::B) (mkZ _ (.slice false 0 (m 0) 0 2 _ D) rfl) _) ?_
     |refine eJ 26 _ rfl (rt (fun _=>rfl) (i:=24) (z:=m 0) rfl [] (prp9.getD k 0) (0+((s0::s).map enc).length) D c') (vn (show 0 < 27 by decide) [] (mkZ _ (.slice false 0 (m 0) 0 2 _ D) rfl) _) ?_
    have be:=ig (p:=prp9.getD k 0) (ao 0 rfl);have f:=(d.mono ab).snoc (z:=mkZ (prp9.getD k 0) (.slice false 0 (m 0) 0 2 (0+((s0::s).map enc).length) D) rfl) be;rw[<-e]at f
    first
     |exact dT ⟨⟨(k+1,(o0::B)++[mkZ (prp9.getD k 0) (.slice false 0 (m 0) 0 2 (0+((s0::s).map enc).length) D) rfl],c',ac),g,Fz.t E ab,f,by rw[qb];exact qcp q 1⟩,x,leR [(21,26)] hH aa rfl ⟨tv,lg,lq oo,bP aD oo _ _ _ _,tv⟩ ⟨cnt A,tv⟩ ⟨Fz.r _,rfl,ns (mC (μ:=sig [(21,26)]) rfl rfl),cQ (μ:=sig [(21,26)]) aD (fun k=>rfl) (aZ _ (by rw[qo];rfl)),tv⟩⟩
     |exact dT ⟨⟨(k+1,[]++[mkZ (prp9.getD k 0) (.slice false 0 (m 0) 0 2 (0+((s0::s).map enc).length) D) rfl],c',ac),g,Fz.t E ab,f,by rw[qb];exact qcp q 1⟩,x,leR [(21,26)] hH aa rfl ⟨tv,lg,lq oo,bP aD oo _ _ _ _,tv⟩ ⟨cnt A,tv⟩ ⟨Fz.r _,rfl,ns (mC (μ:=sig [(21,26)]) rfl rfl),cQ (μ:=sig [(21,26)]) aD (fun k=>rfl) (aZ _ (by rw[qo];rfl)),tv⟩⟩
 ·have w:¬(k:Int) < 5:=by omega
  have bd:k=5:=by omega
  subst bd;rcases o with _ | ⟨o0,B⟩
  ·refine brj w ?_;refine gae ss ⟨⟨by decide,by decide⟩,by decide,?_⟩;refine usePu (bg G) rfl ⟨oi a7,rfl,tv⟩ rfl ?_;refine relE (.ret (.agg [.int .i64 (IntKind.i64.wrap (1+pickI h 9)),.int .i64 a,.int .i64 b,.lit (decide (pickI (h.tdiv 6) 2=0)),.slice true 0 0 0 2 0 0])) ya8 ya7 ?_;exact endFs _ (Fz.t lF E) (fin9n d)
  ·refine brj w ⟨fun g=>absurd g (by simp;try omega),fun _=>?_⟩;refine cD 21 (fun _=>.arr 96 2 ((o0::B).map encZ) co) rfl rfl rfl (fun _ _=>by exact dt (μ:=resP _) aD (fun k=>rfl) rfl _ _ _) (fun _ _=>dv aD oo _ _ _ _) ?_;intro b' F' ah ba;exact endFs _ (Fz.t (Fz.t lF E) ah) (fin9c (d.mono ah) (ba 0 ⟨rfl,rfl⟩))
theorem Ac(F:Fz)(y A:SA)(a b:List Stp)(D:aW F y a)(O:aW F A b)(la:a.length < 1000000):
  Fo prog F 97 [.va y,.va A] (fun o d=>o=.ret (.va (.bool (decide (a=b))))/\d=F):=by
 obtain⟨L,I,K,J,G,M,rfl,i,p,E,q⟩:=D;obtain⟨V,S,U,T,R,W,rfl,j,s,Q,u⟩:=O
 have fin:∀(v:Bool) (h:Hp) (nx:Nat),v=decide (a=b)->lget h 0=some (.frz F)->
   Cln 1 (FoK F fun o d=>o=.ret (.va (.bool (decide (a=b))))/\d=F) (.ret (.va (.bool v))) h nx:=by
  intro v h nx x l;exact endPu l (Fz.r F) (by rw[x];rfl) rfl
 have finL:∀(v:Bool) (h:Hp) (nx:Nat),v=decide (a=b)->lget h 0=some (.frz F)->
   Cln 1 (FoK F fun o d=>o=.ret (.va (.bool (decide (a=b))))/\d=F) (.ret (.va (.lit v))) h nx:=by
  intro v h nx x l;exact endPu l (Fz.r F) (by rw[<-x];exact rfl) rfl
 refine foS func97 ?_;refine br (fun g=>?_) (fun g=>?_)
 ·conv=>whnf
  have:¬a=b:=by rintro rfl;simp at g
  have c:false=decide (a=b):=by simp[this]
  first | exact fin _ _ _ c rfl | exact finL _ _ _ c rfl
 ·have Y:a.length=b.length:=neq_f g
  conv=>whnf
  refine aH hΘ (X:={ k:Nat // k<=a.length/\a.take k=b.take k }) (fun k=>[(5,.va (.int .i64 k.1))]) (4::jr 11 15 []) (fz fun _=>F) 1 (fun k=>a.length - k.1) ⟨0,by simp⟩
   (fun m n=>le0 m n rfl (Fz.r F) rfl ⟨rfl,tv⟩) ?_
  rintro⟨k,Z,w⟩ m n;refine br (fun g=>?_) (fun g=>?_)
  ·have g:k < a.length:=by simpa using g
   have f:k < b.length:=by omega
   refine dwS (lk [0,1,2,3,4,5,6,7,8] .done) [] ?_;refine⟨Sl.lt i g,⟨by simp,by simpa using g⟩,rfl,_,p (Sl.lt i g),_,Sl.at q g,Sl.lt j f,⟨by simp,by simpa using f⟩,rfl,_,s (Sl.lt j f),_,Sl.at u f,_,agg50 _ _ _ _,?_⟩;refine br (fun e=>?_) (fun e=>?_)
   ·conv=>whnf
    have:¬a=b:=by rintro rfl;simp at e
    have c:false=decide (a=b):=by simp[this]
    first | exact fin _ _ _ c rfl | exact finL _ _ _ c rfl
   ·refine⟨⟨k+1,by omega,?_⟩,by show a.length - (k+1) < a.length - k;omega,lr0 m n rfl (Fz.r F) rfl ⟨cnt oo,tv⟩⟩
    have B:a[k]=b[k]:=by
     simp at e;exact Prod.ext e.1 e.2
    rw[qf g,qf f,w,B]
  ·conv=>whnf
   have g:¬k < a.length:=by simpa using g
   have h1:a=b:=by
    rw[ql oo,ql oo]at w;exact w
   have c:true=decide (a=b):=by simp[h1]
   first | exact fin _ _ _ c rfl | exact finL _ _ _ c rfl
theorem fE{p:Prop}[Decidable p](h:(!decide p)=false):p:=by simpa using h
theorem fF{p:Prop}[Decidable p](h:(!decide p)=true):¬p:=by simpa using h
theorem Es(F:Fz)(A B:SA)(a b:List Kp)(u:ClsAt F A a)(w:ClsAt F B b)(hs:short a)(la:a.length < 1000000):
  Fo prog F 39 [.va A,.va B] (fun o m=>o=.ret (.va (.bool (decide (a=b))))/\m=F):=by
 have fin:∀(v:Bool) (h:Hp) (nx:Nat),decide (a=b)=v->lget h 0=some (.frz F)->Cln 1 (FoK F fun o m=>o=.ret (.va (.bool (decide (a=b))))/\m=F) (.ret (.va (.bool v))) h nx:=by
  intro v h nx O G;exact endPu G (Fz.r F) (ob O) rfl
 have finL:∀(v:Bool) (h:Hp) (nx:Nat),decide (a=b)=v->lget h 0=some (.frz F)->Cln 1 (FoK F fun o m=>o=.ret (.va (.bool (decide (a=b))))/\m=F) (.ret (.va (.lit v))) h nx:=by
  intro v h nx O G;exact endPu G (Fz.r F) (by rw[O];exact rfl) rfl
 obtain⟨an,ab,ae,ac,aL,ar,rfl,W,Q,a3,Y⟩:=u;obtain⟨bn,bb,be,bc,bL,aa,rfl,Z,R,b3,b4⟩:=w;refine foS func39 ?_;refine br (fun g=>?_) (fun g=>?_)
 ·conv=>whnf
  have:¬a=b:=by rintro rfl;simp at g
  have f:decide (a=b)=false:=by simp[this]
  first | exact fin _ _ _ f rfl | exact finL _ _ _ f rfl
 ·have gl:a.length=b.length:=neq_f g
  conv=>whnf
  refine aH hΘ (X:={ k:Nat // k<=a.length/\a.take k=b.take k }) (fun x=>[(5,.va (.int .i64 x.1))]) (4::6::jr 12 32 []) (fz fun _=>F) 1 (fun x=>a.length - x.1) ⟨0,by simp,rfl⟩
   (fun K L=>leI [] K L rfl ⟨tv,tv⟩ ⟨rfl,tv⟩ ⟨Fz.r F,tv⟩) ?_
  rintro⟨k,a6,T⟩ K L;by_cases g:k < a.length
  ·have c:k < b.length:=gl▸g;have n:(k:Int) < (a.length:Int):=by omega
   have p:(k:Int) < (b.length:Int):=by omega
   have q:a.length - (k+1) < a.length - k:=by omega
   have s:k < 4611686018427387904:=by omega
   have hx:=hs (a[k]'g) (qx g);have d:=SlR.at Y g;obtain⟨y,U,A,rfl,u⟩:=d;have d:=SlR.at b4 c;obtain⟨z,V,B,rfl,w⟩:=d;have l:=Ac F A B (a[k]'g).2 (b[k]'c).2 u w hx;have i:=SlR.lt W g;have j:=SlR.lt Z c;have M:(a[k]'g).1=(b[k]'c).1->(a[k]'g).2=(b[k]'c).2->a.take (k+1)=b.take (k+1):=fun h1 h2=>by rw[qf g,qf c,T,(Prod.ext h1 h2:a[k]'g=b[k]'c)]
   have I:¬(a[k]'g).1=(b[k]'c).1->decide (a=b)=false:=fun h=>decide_eq_false fun e=>h (by subst e;rfl)
   have J:¬(a[k]'g).2=(b[k]'c).2->decide (a=b)=false:=fun h=>decide_eq_false fun e=>h (by subst e;rfl)
   obtain⟨am,aj,al,ak,ai,ao,rfl,ad,af,ag,ah⟩:=u;obtain⟨a0,ax,az,ay,aw,a5,rfl,ap,aq,au,av⟩:=w;refine bri n ?_;refine dwS (lk [0,1,2,3,4,5,6,7,8,9] (.alt 10 (.look 11 .done) .nil)) [] ?_;refine⟨i,⟨by simp,n⟩,rfl,_,Q i,_,U,j,⟨by simp,p⟩,rfl,_,R j,_,V,?_⟩;refine usePs (l) ?_;conv=>whnf
   refine⟨Fz.r F,?_⟩;refine dwS (lk [0,1,2,3,4,5,6,7,8,9,10,11,12,13,14] .done) [] ?_;refine⟨i,⟨by simp,n⟩,rfl,_,Q i,_,U,j,⟨by simp,p⟩,rfl,_,R j,_,V,fun D=>?_,fun D=>?_⟩
   ·have e1:(a[k]'g).1=(b[k]'c).1:=fE D;refine br (fun E=>?_) (fun E=>?_)
    ·have f:=J (fF E)
     conv=>whnf
     first | exact fin false _ _ f rfl | exact finL false _ _ f rfl
    ·have e2:(a[k]'g).2=(b[k]'c).2:=fE E;have f:=M e1 e2;exact⟨⟨k+1,g,f⟩,q,leR [] K L rfl ⟨tv,tv⟩ ⟨cnt s,tv⟩ ⟨Fz.r F,tv⟩⟩
   ·have f:=I (fF D)
    conv=>whnf
    first | exact fin false _ _ f rfl | exact finL false _ _ f rfl
  ·have n:¬(k:Int) < (a.length:Int):=by omega
   have S:decide (a=b)=true:=decide_eq_true (by rw[<-ql (show a.length<=k by omega),T,ql oo]);refine brj n ?_;conv=>whnf
   first | exact fin true _ _ S rfl | exact finL true _ _ S rfl
theorem wu:∀(l:List Kp) (x:Kp),asc l=true->(∀y∈l,y.1 < x.1)->asc (l++[x])=true
 |[],_,_,_=>rfl
 |[a],x,_,h=>by
  show(decide (a.1 < x.1)&&asc [x])=true;rw[decide_eq_true (h a ss)];rfl
 |a::b::r,x,ha,h=>by
  rw[asc,qd]at ha;show(decide (a.1 < b.1)&&asc ((b::r)++[x]))=true;rw[ha.1,wu (b::r) x ha.2 fun y c=>h y (ym _ c)];rfl
theorem ybl:∀k,k < 5->∀i,i < k->prp9.getD i 0 < prp9.getD k 0:=by decide
theorem zg:∀i,i < 5->∀j,j < 6->stp9 i j=[]\/aX (prp9.getD i 0,stp9 i j)=true:=by decide
theorem oT{xs:List Int}(b:∀k,i64 (xs.getD k 0)):∀n,n<=5->∀y∈keep9 xs n,∃i,i < n/\y.1=prp9.getD i 0/\aX y=true/\y.2.length<=2
 |0,_,y,h=>nomatch h
 |n+1,hn,y,h=>by
  rw[keep9,yf]at h;rcases h with h | h
  ·obtain⟨i,h1,a⟩:=oT b n oo y h;exact⟨i,by omega,a⟩
  ·have d:=dP (xs.getD n 0) 6 dd (b n);have h1:=zg n oo (pickI (xs.getD n 0) 6).toNat oo;have a:=w5 n oo (pickI (xs.getD n 0) 6).toNat oo;split at h
   ·cases h
   ·rename_i c;rw[qs]at h;subst h;exact⟨n,by omega,rfl,h1.resolve_left c,a⟩
theorem vp{xs:List Int}(a:∀k,i64 (xs.getD k 0)):∀n,n<=5->asc (keep9 xs n)=true/\(keep9 xs n).length<=n
 |0,_=>⟨rfl,qi 0⟩
 |n+1,hn=>by
  have ih:=vp a n oo;rw[keep9];split
  ·rw[qy];exact⟨ih.1,qbe ih.2⟩
  ·refine⟨wu _ _ ih.1 fun y c=>?_,by rw[qb];exact qcp ih.2 1⟩;obtain⟨i,h1,b,-,-⟩:=oT a n oo y c;rw[b];exact ybl n oo i h1
theorem yP{c d f g:Int}(j:idOk a=true)(k:idOk b=true)(l:i64 c/\i64 d/\i64 e/\i64 f/\i64 g):migOk (made9 a b c d e f g)=true/\short (made9 a b c d e f g).keep/\(made9 a b c d e f g).keep.length < 1000000:=by
 have p:=dP c 9 dd l.1;have n:=vp (qL l) 5 (qi 5);have o:=oT (qL l) 5 (qi 5);refine⟨?_,fun y m=>?_,yt n.2 dd⟩
 ·unfold migOk made9;rw[aI oo oo];simp only[qd];refine⟨n.1,?_,j,k,?_,?_⟩
  ·simp only[idOk,qd,decide_eq_true_eq];omega
  ·cases keep9 [c,d,e,f,g] 5<;>simp
  ·exact qp.2 fun y m=>(o y m).elim fun i h=>h.2.2.1
 ·obtain⟨i,-,-,-,h⟩:=o y m;omega
theorem ybn{w:Int}{s:List UInt8}(h:rasOk w s=true):s.length<=1024:=by
 unfold rasOk at h;simp only[qd,qah,decide_eq_true_eq,beq_iff_eq,inR]at h;rcases h.2 with h2 | h2
 ·rw[h2.2];exact jx _
 ·have a:w*hgt w s<=32*32:=qbr oo oo oo oo;omega
theorem lc{d:Dc}(h:docOk d=true):DcSmall d:=by
 have a:=dN h;exact⟨q8 a.lines dd,q8 a.cells dd,q8 (ybn a.ras) dd⟩
abbrev RunM(M:Mig)(d:Dc):Out->Fz->Prop:=fun o c=>o=.ret (.tup [.agg docZ,.va (.int .i64 90)])\/(∃e a b,runD M.keep d=some e/\o=.ret (.tup [.agg (docS a b e.w e.bits),.va (.int .i64 0)])/\DocAt c a b e)
section
variable {M:Mig} (hm:migOk M=true) (hs:short M.keep) (hl:M.keep.length < 1000000) {d:Dc} (hd:docOk d=true)
include hm hs hl hd
theorem ybu(F:Fz)(i:MLF F)(sk a b:SA)(j:KpsAt F sk M.keep)(g:DocAt F a b d):Fo prog F 38 [.agg (migS M sk),.agg (docS a b d.w d.bits)] (RunM M d):=
 cK (ydq F i sk M a b d j hs hl g (lc hd)) fun o k h=>by
  rcases h with⟨_,h⟩ | ⟨e,a,b,h1,c,f⟩
  ·exact .inl h
  ·unfold runX at h1;rw[if_pos ⟨hm,hd⟩]at h1;exact .inr ⟨e,a,b,h1,c,f⟩
theorem Bt(F:Fz)(n:MLF F)(p:RNDF F)(sk a b c f:SA){e:Dc}(j:runD M.keep d=some e)(q:KpsAt F sk M.keep)(l:DocAt F a b d)(m:DocAt F c f e):
  Fo prog F 21 [.agg (migS M sk),.agg (docS a b d.w d.bits),.agg (docS c f e.w e.bits)] (fun o i=>∃k,o=.ret (.tup [.agg (crtS (makeC M d e) k),.va (.int .i64 0)])/\ClsAt i k (bR M.keep)):=by
 have g:M.keep.all aX=true:=by
  simp only[migOk,qd]at hm;exact hm.2.2.2.2.2
 refine cK (mj F n p sk a b c f M d e q hs hl l m (lc hd) (lc (ru g hd j))) fun o i h=>?_
 rcases h with⟨h,_⟩ | ⟨_,h⟩
 ·exact absurd (h.symm.trans (run_make hm hd j)) ss
 ·exact h
end
theorem ybv{M:Mig}(hm:migOk M=true)(_:short M.keep)(_:M.keep.length < 1000000){d:Dc}(hd:docOk d=true){e:Dc}(a:runD M.keep d=some e):docOk e=true/\cH (makeC M d e) (allB d) (allB e)=true:=by
 have h:=run_make hm hd a;simp only[ep,qd]at h;exact h.2.2
def m7(A:List (List UInt8)):Prop:=∀p:Int,1<=p/\p<=8->∃v,VOK p v/\atV A p=bI p v
theorem uK{d:Dc}(b:docOk d=true):m7 (allB d):=fun p a=>by
 refine⟨bV p d,jT a b,?_⟩;have h:=lU d (p - 1).toNat oo;rw[atV,h,show(((p - 1).toNat:Nat):Int)+1=p by omega,yk,iF a]
theorem wi:∀(l:List Kp) (i:Int),clOk l i=true↔∀(k:Nat) (h:k < l.length),clAt (l[k]'h) (i+k)=true
 |[],i=>by simp[clOk]
 |x::r,i=>by
  rw[clOk,qd,wi r (i+1)];refine⟨fun⟨h1,c⟩ k a=>?_,fun h=>⟨?_,fun k a=>?_⟩⟩
  ·cases k with
   |zero=>rw[show i+((0:Nat):Int)=i by omega];exact h1
   |succ k=>have:=c k (by simpa using a);rw[show i+((k+1:Nat):Int)=i+1+k by omega];exact this
  ·have b:clAt x (i+((0:Nat):Int))=true:=h 0 ss;rw[show i+((0:Nat):Int)=i by omega]at b;exact b
  ·have:=h (k+1) (by simpa using a);rw[show i+1+(k:Int)=i+((k+1:Nat):Int)by omega];exact this
structure CrtP(c:Crt):Prop where
 s:c.src.length=32
 d:c.dst.length=32
 l:1<=c.len/\c.len<=64
 n:c.cl.length=8
 k:∀(k:Nat) (h:k < c.cl.length),clAt (c.cl[k]'h) (1+k)=true
theorem uW{c:Crt}:crtOk c=true↔CrtP c:=by
 simp only[crtOk,qd,decide_eq_true_eq,wi];exact⟨fun⟨h1,b,a,d,e,f⟩=>⟨h1,b,⟨a,d⟩,e,f⟩,fun⟨h1,b,a,d,e⟩=>⟨h1,b,a.1,a.2,d,e⟩⟩
structure ChkP(c:Crt)(A B:List (List UInt8)):Prop where
 ok:crtOk c=true
 a:A.length=8
 b:B.length=8
 s:root8 A=c.src
 d:root8 B=c.dst
 k:∀x∈c.cl,chkAt A B x=true
theorem D3{c:Crt}{A B:List (List UInt8)}:cH c A B=true↔ChkP c A B:=by
 simp only[cH,qd,decide_eq_true_eq,qp];exact⟨fun⟨h1,⟨a,b⟩,d,e,f⟩=>⟨h1,a,b,d,e,f⟩,fun⟨h1,a,b,d,e,f⟩=>⟨h1,⟨a,b⟩,d,e,f⟩⟩
structure Chn(V:List (List (List UInt8)))(C:List Crt):Prop where
 n:V.length=C.length+1
 chk:∀(i:Nat) (h:i < C.length),cH (C[i]'h) (V[i]?.getD []) (V[i+1]?.getD [])=true
 one:∀c∈C,c.len=1
 sh:∀c∈C,short c.cl
 ok:∀A∈V,m7 A
theorem Chn.new{A:List (List UInt8)}(h:m7 A):Chn [A] []:=⟨rfl,fun i h=>absurd h ss,by simp,by simp,fun B a=>by rw[qs]at a;subst a;exact h⟩
theorem Chn.snoc{V:List (List (List UInt8))}{C:List Crt}(h:Chn V C){B:List (List UInt8)}{c:Crt}(f:cH c (V[C.length]?.getD []) B=true)(h1:c.len=1)(j:short c.cl)(d:m7 B):Chn (V++[B]) (C++[c]):=by
 refine⟨by simp[h.n],fun i a=>?_,fun x hx=>?_,fun x hx=>?_,fun x hx=>?_⟩
 ·have g:=h.n;by_cases e:i < C.length
  ·have:=h.chk i e;rw[List.getElem_append_left e,jo oo,jo oo];exact this
  ·have b:i=C.length:=by rw[qb]at a;simp at a;omega
   subst b;rw[List.getElem_append_right (qi _),jo oo,jt oo];simpa[g]using f
 ·rcases yf.1 hx with hx | hx
  ·exact h.one x hx
  ·rw[qs]at hx;subst hx;exact h1
 ·rcases yf.1 hx with hx | hx
  ·exact h.sh x hx
  ·rw[qs]at hx;subst hx;exact j
 ·rcases yf.1 hx with hx | hx
  ·exact h.ok x hx
  ·rw[qs]at hx;subst hx;exact d
theorem uc{α:Type}:∀(n:Nat) (l:List α),n<=l.length->takeN n l=some (l.take n)
 |0,l,_=>rfl
 |n+1,[],h=>by simp at h
 |n+1,x::r,h=>by rw[takeN,uc n r (by simpa using h)];rfl
theorem tZ{α:Type}:∀(l:List α) (o:Nat) (xs:List α),0 < xs.length->(∀j (h:j < xs.length),l[o+j]? =some (xs[j]'h))->dA l o xs.length=some xs
 |l,0,xs,_,h=>by
  have c:xs.length<=l.length:=by
   rcases xs with _ | ⟨x,r⟩
   ·exact jx _
   ·have:=(qg.1 (h r.length ss)).1;simp;omega
  have e:l.take xs.length=xs:=List.ext_getElem (by rw[qk];omega) fun j h1 a=>by
   rw[List.getElem_take];have:=(qg.1 (h j a)).2;simpa using this
  have:dA l 0 xs.length=takeN xs.length l:=by cases l<;>rfl
  rw[this,uc _ _ c,e]
 |[],o+1,xs,h0,h=>by have:=h 0 h0;simp at this
 |y::l,o+1,xs,h0,h=>by
  rw[dA];exact tZ l o xs h0 fun j b=>by have:=h j b;rw[show o+1+j=(o+j)+1 by omega,qa2]at this;exact this
theorem RawB.rdN{B:SB}{zs:List Int}{p:Pl}{K:List SA->Prop}(b:0 < zs.length)(h:∀j (g:j < zs.length),RawB B (i+j) (zs[j]'g))(d:p.e*p.sz+p.o=i)(c:K (zs.map (.int .i64))):rdB B p zs.length K:=by
 cases B with
 |obj o=>
  cases o with
  |cells cs t fr=>
   refine⟨zs.map (.int .i64),⟨qa _,fun a f=>?_,fun ρ _=>⟨t,fr,cs.toList.take i,cs.toList.drop (i+zs.length),?_,?_⟩⟩,c⟩
   ·obtain⟨z,_,rfl⟩:=qz.1 f;trivial
   ·congr 1
    apply qci.1;show cs.toList=_
    have m:((cs.toList.drop i).take zs.length)=(zs.map (SA.int .i64)).map (SA.den ρ):=by
     apply qbc;intro j;rw[qc1,yz];by_cases g:j < zs.length
     ·rw[if_pos g];have k:cs[i+j]? =some (.int .i64 zs[j]):=h j g;rw[qdr,k];simp[g,SA.den]
     ·rw[if_neg g,qam (by simp;omega)]
    rw[<-m,<-qbg,qj,yl,yl]
   ·rw[qk];have:=(jk.1 (show cs[i+0]? =some (.int .i64 zs[0])from h 0 b)).1;rw[qcv,d];omega
  |_=>exact(h 0 b).elim
 |cells t l=>
  simp only[rdB]
  have e:=tZ l i (zs.map (SA.int .i64)) (by simpa using b) fun j g=>by
   rw[yv];exact h j (by simpa using g)
  rw[qa]at e;rw[d,e];exact c
 |arr t sz L room=>exact(h 0 b).elim
def MigR(F:Fz)(y:List SA)(m:Mig):Prop:=∃sk,y=migS m sk/\KpsAt F sk m.keep
theorem MigR.mono{b:Fz}{y:List SA}{x:Mig}(h:MigR F y x)(a:Fz.le F b):MigR b y x:=by
 obtain⟨sk,h1,c⟩:=h;exact⟨sk,h1,KpsAt.up c a⟩
abbrev mY(F:Fz)(a:SA)(l:List Mig):Prop:=SlR F 32 5 (MigR F) a l
def mig10(zs:List Int)(i:Nat):Mig:=made9 (1+i) (2+i) (zs.getD (i*5) 0) (zs.getD (i*5+1) 0) (zs.getD (i*5+2) 0) (zs.getD (i*5+3) 0) (zs.getD (i*5+4) 0)
theorem RawAt.quint{b off:Nat}{zs:List Int}(h:RawAt F b off zs):∃B,∀k:Nat,k*5+4 < zs.length->F b=some B/\∀(p:Pl) (K:List SA->Prop),p.e*p.sz+p.o=off+k*5->
  K [.int .i64 (zs.getD (k*5) 0),.int .i64 (zs.getD (k*5+1) 0),.int .i64 (zs.getD (k*5+2) 0),.int .i64 (zs.getD (k*5+3) 0),.int .i64 (zs.getD (k*5+4) 0)]->rdB B p 5 K:=by
 obtain⟨B,d⟩:=h.rdO1;refine⟨B,fun k n=>⟨(d (k*5) oo).1,fun p K l f=>?_⟩⟩;refine RawB.rdN (i:=off+k*5) (zs:=[zs.getD (k*5) 0,zs.getD (k*5+1) 0,zs.getD (k*5+2) 0,zs.getD (k*5+3) 0,zs.getD (k*5+4) 0]) ss (fun j g=>?_) l f;have m:j < 5:=g;have a:=(d (k*5+j) oo).2;have e:∀i (c:i < zs.length),zs.getD i 0=zs[i]'c:=fun i c=>by simp[c]
 rcases j with _ | _ | _ | _ | _ | j
 ·show RawB B _ (zs.getD (k*5) 0);rw[e _ oo];exact a
 ·show RawB B _ (zs.getD (k*5+1) 0);rw[e _ oo];exact a
 ·show RawB B _ (zs.getD (k*5+2) 0);rw[e _ oo];exact a
 ·show RawB B _ (zs.getD (k*5+3) 0);rw[e _ oo];exact a
 ·show RawB B _ (zs.getD (k*5+4) 0);rw[e _ oo];exact a
 ·omega
theorem iq{k m o:Bool}{c p f d q g e s j l x:Nat}{u w:Int}(h:0 < n):(Ent.one (.cells 27 (caseS k m o c p f d q g e s j i l x u w))).below n:=by
 intro a b;simp only[qh,qq,or_false]at b;rcases b with rfl | rfl | rfl | rfl | rfl
 ·exact .inr h
 ·exact .inr h
 ·trivial
 ·trivial
 ·exact .inr h
def dy(zs:List Int)(n:Nat):List Mig:=(List.range n).map (mig10 zs)
theorem Dy(zs:List Int)(n:Nat):dy zs (n+1)=dy zs n++[mig10 zs n]:=by
 unfold dy;rw[qct,qo];rfl
theorem oz(zs:List Int)(n:Nat):(dy zs n).length=n:=by unfold dy;rw[qa,qcd]
def mkZ5(M:Mig)(a:SA)(h:a.z=true):ZC:=⟨migS M a,fun x b=>by
 simp only[qh,qq,or_false]at b;rcases b with rfl | rfl | rfl | rfl | rfl
 ·rfl
 ·rfl
 ·rfl
 ·rfl
 ·exact h⟩
theorem CM(F:Fz)(n1 n2 Z:Bool)(b1 o1 c1 b2 o2 c2 b3 o3 n c3:Nat)(L:List Stp)(X:List Q3)(r0 r1:Int)(zs:List Int)(h:CaseAt F n1 n2 Z b1 o1 b2 o2 b3 o3 n L X r0 r1 zs):
  Fo prog F 32 [.agg (caseS n1 n2 Z b1 o1 c1 b2 o2 c2 b3 o3 n c3 L.length X.length r0 r1)] (fun o u=>∃sm,o=.ret (.va sm)/\mY u sm (dy zs (min n 6))):=by
 have Y:=h.raw3;have ae:=h.nl3;have ah:=h.len
 have Q:∀i,i64 (zs.getD i 0):=fun i=>by
  rw[yr];by_cases g:i < zs.length
  ·rw[qc g];exact h.i3 _ (qx g)
  ·rw[qam oo];show i64 0;unfold i64;omega
 have hq:=Y.quint;obtain⟨B,hB⟩:=hq;have K:=fun(G:Fz) (k:Nat)=>Bp G (1+k) (2+k) (zs.getD (k*5) 0) (zs.getD (k*5+1) 0) (zs.getD (k*5+2) 0) (zs.getD (k*5+3) 0) (zs.getD (k*5+4) 0) ⟨Q _,Q _,Q _,Q _,Q _⟩
 have ai:=h.s3;clear h;refine foS func32 ?_;conv=>whnf
 refine aH hΘ (X:={ y:Nat×List ZC×Nat×Fz // Fz.le F y.2.2.2/\(y.1<=n/\y.1<=6)/\RowG MigR y.2.2.2 (dy zs y.1) y.2.1 }) (fun y=>[(3,.va (gA 5 2 y.1.2.2.1 y.1.2.1)),(4,.va (.int .i64 y.1.1))]) (jr 5 24 [])
  (fun y=>[(0,.frz y.1.2.2.2),(1,.one (.cells 27 (caseS n1 n2 Z b1 o1 c1 b2 o2 c2 b3 o3 n c3 L.length X.length r0 r1))),(2,gE 32 5 encZ y.1.2.2.1 y.1.2.1)]) 3 (fun y=>6 - y.1.1) ⟨(0,[],0,F),Fz.r F,by omega,rfl,fun i z x h1 _=>nomatch h1⟩
  (fun hH hT=>leI [(2,2)] hH hT rfl ⟨tv,iq oo,bP aD oo _ _ _ _,tv⟩ ⟨rfl,rfl,tv⟩ ⟨Fz.r F,rfl,rfl,tv⟩) ?_
 rintro⟨⟨k,o,co,G⟩,w,hk,c⟩ hH hT;replace w:Fz.le F G:=w;replace hk:k<=n/\k<=6:=hk;replace c:RowG MigR G (dy zs k) o:=c;by_cases g:k < n
 ·have S:(k:Int) < (n:Nat):=by omega
  by_cases g6:k < 6
  ·have I:(k:Int) < 6:=by omega
   have A:6 - (k+1) < 6 - k:=by omega
   have D:k < 4611686018427387904:=by omega
   have V:k+1<=n/\k+1<=6:=⟨g,g6⟩
   have af:Z=false:=by cases Z with | false=>rfl | true=>have:=ae rfl;omega
   have U:=hB k oo;have aa:=w _ _ U.1;have ag:(o3+(k:Int).toNat*5)*1+0=o3+k*5:=by rw[qn];omega
   have q:=K G k;have e1:SA.int .i64 (1+(k:Int))=SA.int .i64 (IntKind.i64.wrap (1+(k:Int))):=by rw[aI oo oo]
   have e2:SA.int .i64 (2+(k:Int))=SA.int .i64 (IntKind.i64.wrap (2+(k:Int))):=by rw[aI oo oo]
   have hM:∃M,made9 (1+k) (2+k) (zs.getD (k*5) 0) (zs.getD (k*5+1) 0) (zs.getD (k*5+2) 0) (zs.getD (k*5+3) 0) (zs.getD (k*5+4) 0)=M:=⟨_,rfl⟩
   have O:∀z:ZC,∀f:Fz,Fz.le G f->MigR f z.1 (mig10 zs k)->RowG MigR f (dy zs (k+1)) (o++[z]):=fun z f a Q=>by
    rw[Dy];exact(RowG.mono (R:=MigR) (fun h l=>MigR.mono h l) c a).snoc Q
   have ad:mig10 zs k=made9 (1+k) (2+k) (zs.getD (k*5) 0) (zs.getD (k*5+1) 0) (zs.getD (k*5+2) 0) (zs.getD (k*5+3) 0) (zs.getD (k*5+4) 0):=rfl;obtain⟨M,hM⟩:=hM;rw[hM]at q;rw[ad,hM]at O;have p:o.length=k:=c.1.trans (oz zs k);rcases o with _ | ⟨T,e⟩
   all_goals
    refine⟨fun _=>?_,fun h=>absurd S (oe h)⟩;refine bri I ⟨af,⟨by omega,S⟩,_,aa,?_⟩;refine U.2 _ _ ag ?_;refine useFo q rfl ⟨e1,e2,rfl,tv⟩ rfl ?_;rintro _ f l2 ⟨sk,rfl,W⟩;have E:=W;obtain⟨kn,kb,ke,kc,kL,kr,rfl,-,-,-,-⟩:=W;refine⟨nb rfl,[migS M (.slice kn 0 kb ke 2 M.keep.length kc)],rfl,?_⟩;conv=>whnf
    first
    |refine⟨rfl,rfl,by show 1*56<=140737488355328;omega,fun c' ab=>?_⟩
    |refine⟨rfl,rfl,by simp,rfl,by show(e.length+1+1)*56<=140737488355328;have h9:e.length+1=k:=p;omega,fun c' ab=>?_⟩
    conv=>whnf
    first
    |exact⟨⟨(k+1,[]++[mkZ5 M (.slice kn 0 kb ke 2 M.keep.length kc) rfl],c',f),Fz.t w l2,V,O _ f l2 ⟨_,rfl,E⟩⟩,A,leR [(2,4)] hH hT rfl ⟨tv,iq oo,bP aD oo _ _ _ _,tv⟩ ⟨by(conv=>whnf);exact⟨rfl,rfl,rfl,.inr ⟨rfl,rfl,rfl,rfl⟩⟩,cnt D,tv⟩ ⟨Fz.r f,rfl,cQ (μ:=sig [(2,4)]) aD (fun k=>rfl) (aZ _ (by rw[qo];rfl)),tv⟩⟩
    |exact⟨⟨(k+1,(T::e)++[mkZ5 M (.slice kn 0 kb ke 2 M.keep.length kc) rfl],c',f),Fz.t w l2,V,O _ f l2 ⟨_,rfl,E⟩⟩,A,leR [(2,4)] hH hT rfl ⟨tv,iq oo,bP aD oo _ _ _ _,tv⟩ ⟨ed (μ:=sig [(2,4)]) (i:=2) (j:=4) rfl 5 c' _ (T::e) (mkZ5 M (.slice kn 0 kb ke 2 M.keep.length kc) rfl) rfl,cnt D,tv⟩ ⟨Fz.r f,rfl,cQ (μ:=sig [(2,4)]) aD (fun k=>rfl) (aZ _ (by rw[qo];rfl)),tv⟩⟩
  ·have I:¬(k:Int) < 6:=by omega
   have s:min n 6=k:=by omega
   have d:RowG MigR G (dy zs (min n 6)) o:=by rw[s];exact c
   have p:(dy zs (min n 6)).length=o.length:=d.1.symm;have m:=fun(f:Fz) (a:Fz.le G f) (b:Nat) (hb:f b=some (.arr 32 5 (o.map encZ) co))=>(RowG.mono (R:=MigR) (fun h l=>MigR.mono h l) d a).sl (cap:=co) hb
   rw[p]at m;rcases o with _ | ⟨T,e⟩
   ·have:=c.1;rw[oz]at this;simp at this;omega
   ·refine⟨fun _=>?_,fun h=>absurd S (oe h)⟩;refine brj I ?_;refine cD 2 (fun _=>.arr 32 5 ((T::e).map encZ) co) rfl rfl rfl (fun _ _=>by exact dt (μ:=resP _) aD (fun k=>rfl) rfl _ _ _) (fun _ _=>dv aD oo _ _ _ _) ?_;intro b' u a J;exact endFo (.ret (.va (.slice false 0 (b' 0) 0 5 (e.length+1) co))) u rfl (Fz.t w a) (Fz.r u) ⟨_,rfl,m u a _ (J 0 ⟨rfl,rfl⟩)⟩ ⟨rfl,rfl,rfl,.inr ⟨rfl,rfl,rfl,rfl⟩⟩ rfl
 ·have S:¬(k:Int) < (n:Nat):=by omega
  have s:min n 6=k:=by omega
  have d:RowG MigR G (dy zs (min n 6)) o:=by rw[s];exact c
  have p:(dy zs (min n 6)).length=o.length:=d.1.symm;have m:=fun(f:Fz) (a:Fz.le G f) (b:Nat) (hb:f b=some (.arr 32 5 (o.map encZ) co))=>(RowG.mono (R:=MigR) (fun h l=>MigR.mono h l) d a).sl (cap:=co) hb
  rw[p]at m;rcases o with _ | ⟨T,e⟩
  ·have ac:mY G (.slice true 0 0 0 5 0 0) (dy zs (min n 6)):=by rw[ji p];exact SlR.nil
   refine⟨fun h=>absurd (od h) S,fun _=>?_⟩;exact endFo (.ret (.va (.slice true 0 0 0 5 0 0))) G rfl w (Fz.r G) ⟨_,rfl,ac⟩ ⟨rfl,rfl,rfl⟩ rfl
  ·refine⟨fun h=>absurd (od h) S,fun _=>?_⟩;refine cD 2 (fun _=>.arr 32 5 ((T::e).map encZ) co) rfl rfl rfl (fun _ _=>by exact dt (μ:=resP _) aD (fun k=>rfl) rfl _ _ _) (fun _ _=>dv aD oo _ _ _ _) ?_;intro b' u a J;exact endFo (.ret (.va (.slice false 0 (b' 0) 0 5 (e.length+1) co))) u rfl (Fz.t w a) (Fz.r u) ⟨_,rfl,m u a _ (J 0 ⟨rfl,rfl⟩)⟩ ⟨rfl,rfl,rfl,.inr ⟨rfl,rfl,rfl,rfl⟩⟩ rfl
