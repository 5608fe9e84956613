import Derived.Test.YtfnkamphhpldcaaGreatDoorK36
import Derived.Test.YtfnkamphhpldcaaGreatDoorK37
import Derived.Test.YtfnkamphhpldcaaGreatDoorK39
import Derived.Test.YtfnkamphhpldcaaGreatDoorK22
import Derived.Test.YtfnkamphhpldcaaGreatDoorK16
set_option maxHeartbeats 64000000
namespace Go.Proofs.YtfnkamphhpldcaaGreatDoor
open Go Sx Tryz
set_option maxRecDepth 100000
theorem pf(c n:Int)(a:i64 c)(b:0 < n):Pu prog 47 [.va (.int .i64 c),.va (.int .i64 n)] (.va (.int .i64 (pickI c n))):=by
 intro F;unfold i64 at a;refine foS func47 ?_;refine br (fun g=>?_) (fun g=>?_)
 ·refine⟨by omega,?_⟩;refine endPu rfl (Fz.r F) (oi ?_) rfl;simp at g;rw[aF (n:=c+1) oo oo,aF (n:=0 - (c+1)) oo oo,pickI,if_pos g]
  congr 1;omega
 ·refine⟨by omega,?_⟩;refine endPu rfl (Fz.r F) (oi ?_) rfl;simp at g;rw[pickI,if_neg oo]
def tbl9:List (List (List Stp)):=[[[],[(1,0)],[(2,0)],[(1,0),(2,0)],[(6,0)],[]],[[],[(4,3)],[(4,0)],[(6,0)],[],[(4,6)]],[[],[(3,10)],[(3,100)],[(6,0)],[],[]],[[],[],[],[(6,0)],[],[]],[[],[(5,0)],[(5,0),(5,0)],[(6,0)],[],[]]]
def prp9:List Int:=[1,2,3,4,7]
def stp9(i:Nat)(j:Nat):List Stp:=(tbl9.getD i []).getD j []
def kN(F:Fz)(c:SA)(l:List Stp):Prop:=(l=[]/\c=.nilsl)\/(0 < l.length/\∃b,c=.slice false 0 b 0 2 l.length l.length/\F b=some (.arr 56 2 (l.map enc) l.length))
def RowAt(F:Fz)(c:SA)(r:List (List Stp)):Prop:=∃b R,c=.slice false 0 b 0 1 6 6/\F b=some (.arr 50 1 R 6)/\∀j,j < 6->∃s,R[j]? =some [s]/\kN F s (r.getD j [])
def TblAt(F:Fz)(b:Nat):Prop:=∃R,F b=some (.arr 99 1 R 5)/\∀i,i < 5->∃s,R[i]? =some [s]/\RowAt F s (tbl9.getD i [])
variable {F:Fz}
theorem kN.mono{d:Fz}{c:SA}{l:List Stp}(h:kN F c l)(a:Fz.le F d):kN d c l:=by
 rcases h with h | ⟨h,b,h1,e⟩
 ·exact .inl h
 ·exact .inr ⟨h,b,h1,a _ _ e⟩
theorem TblAt.mono{c:Fz}{b:Nat}(h:TblAt F b)(a:Fz.le F c):TblAt c b:=by
 obtain⟨R,h1,e⟩:=h;refine⟨R,a _ _ h1,fun i o=>?_⟩;obtain⟨s,f,b,d,g,k,l⟩:=e i o;refine⟨s,f,b,d,g,a _ _ k,fun j p=>?_⟩;obtain⟨s,m,n⟩:=l j p;exact⟨s,m,n.mono a⟩
variable {c n:Nat}
theorem yg7{b J K L O d f g l m M e h k o:Nat}(p:F b=some (.arr 56 2 [[.int .i64 6,.int .i64 0]] 1))(Q:F J=some (.arr 56 2 [[.int .i64 1,.int .i64 0]] 1))(R:F K=some (.arr 56 2 [[.int .i64 2,.int .i64 0]] 1))(S:F L=some (.arr 56 2 [[.int .i64 1,.int .i64 0],[.int .i64 2,.int .i64 0]] 2))(U:F O=some (.arr 56 2 [[.int .i64 4,.int .i64 3]] 1))(s:F c=some (.arr 56 2 [[.int .i64 4,.int .i64 0]] 1))(u:F d=some (.arr 56 2 [[.int .i64 4,.int .i64 6]] 1))(x:F f=some (.arr 56 2 [[.int .i64 3,.int .i64 10]] 1))(y:F g=some (.arr 56 2 [[.int .i64 3,.int .i64 100]] 1))(D:F l=some (.arr 56 2 [[.int .i64 5,.int .i64 0]] 1))(E:F m=some (.arr 56 2 [[.int .i64 5,.int .i64 0],[.int .i64 5,.int .i64 0]] 2))(T:F M=some (.arr 50 1 [[.nilsl],[.slice false 0 J 0 2 1 1],[.slice false 0 K 0 2 1 1],[.slice false 0 L 0 2 2 2],[.slice false 0 b 0 2 1 1],[.nilsl]] 6))(w:F e=some (.arr 50 1 [[.nilsl],[.slice false 0 O 0 2 1 1],[.slice false 0 c 0 2 1 1],[.slice false 0 b 0 2 1 1],[.nilsl],[.slice false 0 d 0 2 1 1]] 6))(A:F h=some (.arr 50 1 [[.nilsl],[.slice false 0 f 0 2 1 1],[.slice false 0 g 0 2 1 1],[.slice false 0 b 0 2 1 1],[.nilsl],[.nilsl]] 6))(B:F k=some (.arr 50 1 [[.nilsl],[.nilsl],[.nilsl],[.slice false 0 b 0 2 1 1],[.nilsl],[.nilsl]] 6))(G:F n=some (.arr 50 1 [[.nilsl],[.slice false 0 l 0 2 1 1],[.slice false 0 m 0 2 2 2],[.slice false 0 b 0 2 1 1],[.nilsl],[.nilsl]] 6))(I:F o=some (.arr 99 1 [[.slice false 0 M 0 1 6 6],[.slice false 0 e 0 1 6 6],[.slice false 0 h 0 1 6 6],[.slice false 0 k 0 1 6 6],[.slice false 0 n 0 1 6 6]] 5)):TblAt F o:=by
 refine⟨_,I,fun i V=>?_⟩;have a:i=0\/i=1\/i=2\/i=3\/i=4:=by omega
 rcases a with rfl | rfl | rfl | rfl | rfl
 ·refine⟨_,rfl,_,_,rfl,T,fun j q=>?_⟩;have a:j=0\/j=1\/j=2\/j=3\/j=4\/j=5:=by omega
  rcases a with rfl | rfl | rfl | rfl | rfl | rfl
  ·exact⟨_,rfl,.inl ⟨rfl,rfl⟩⟩
  ·exact⟨_,rfl,.inr ⟨by decide,_,rfl,Q⟩⟩
  ·exact⟨_,rfl,.inr ⟨by decide,_,rfl,R⟩⟩
  ·exact⟨_,rfl,.inr ⟨by decide,_,rfl,S⟩⟩
  ·exact⟨_,rfl,.inr ⟨by decide,_,rfl,p⟩⟩
  ·exact⟨_,rfl,.inl ⟨rfl,rfl⟩⟩
 ·refine⟨_,rfl,_,_,rfl,w,fun j q=>?_⟩;have a:j=0\/j=1\/j=2\/j=3\/j=4\/j=5:=by omega
  rcases a with rfl | rfl | rfl | rfl | rfl | rfl
  ·exact⟨_,rfl,.inl ⟨rfl,rfl⟩⟩
  ·exact⟨_,rfl,.inr ⟨by decide,_,rfl,U⟩⟩
  ·exact⟨_,rfl,.inr ⟨by decide,_,rfl,s⟩⟩
  ·exact⟨_,rfl,.inr ⟨by decide,_,rfl,p⟩⟩
  ·exact⟨_,rfl,.inl ⟨rfl,rfl⟩⟩
  ·exact⟨_,rfl,.inr ⟨by decide,_,rfl,u⟩⟩
 ·refine⟨_,rfl,_,_,rfl,A,fun j q=>?_⟩;have a:j=0\/j=1\/j=2\/j=3\/j=4\/j=5:=by omega
  rcases a with rfl | rfl | rfl | rfl | rfl | rfl
  ·exact⟨_,rfl,.inl ⟨rfl,rfl⟩⟩
  ·exact⟨_,rfl,.inr ⟨by decide,_,rfl,x⟩⟩
  ·exact⟨_,rfl,.inr ⟨by decide,_,rfl,y⟩⟩
  ·exact⟨_,rfl,.inr ⟨by decide,_,rfl,p⟩⟩
  ·exact⟨_,rfl,.inl ⟨rfl,rfl⟩⟩
  ·exact⟨_,rfl,.inl ⟨rfl,rfl⟩⟩
 ·refine⟨_,rfl,_,_,rfl,B,fun j q=>?_⟩;have a:j=0\/j=1\/j=2\/j=3\/j=4\/j=5:=by omega
  rcases a with rfl | rfl | rfl | rfl | rfl | rfl
  ·exact⟨_,rfl,.inl ⟨rfl,rfl⟩⟩
  ·exact⟨_,rfl,.inl ⟨rfl,rfl⟩⟩
  ·exact⟨_,rfl,.inl ⟨rfl,rfl⟩⟩
  ·exact⟨_,rfl,.inr ⟨by decide,_,rfl,p⟩⟩
  ·exact⟨_,rfl,.inl ⟨rfl,rfl⟩⟩
  ·exact⟨_,rfl,.inl ⟨rfl,rfl⟩⟩
 ·refine⟨_,rfl,_,_,rfl,G,fun j q=>?_⟩;have a:j=0\/j=1\/j=2\/j=3\/j=4\/j=5:=by omega
  rcases a with rfl | rfl | rfl | rfl | rfl | rfl
  ·exact⟨_,rfl,.inl ⟨rfl,rfl⟩⟩
  ·exact⟨_,rfl,.inr ⟨by decide,_,rfl,D⟩⟩
  ·exact⟨_,rfl,.inr ⟨by decide,_,rfl,E⟩⟩
  ·exact⟨_,rfl,.inr ⟨by decide,_,rfl,p⟩⟩
  ·exact⟨_,rfl,.inl ⟨rfl,rfl⟩⟩
  ·exact⟨_,rfl,.inl ⟨rfl,rfl⟩⟩
abbrev box9(a b c d e:Int):Ent:=.one (.cells 28 [.int .i64 a,.int .i64 b,.int .i64 c,.int .i64 d,.int .i64 e])
variable {a b e:Int}
theorem lv{c d:Int}:(box9 a b c d e).below n:=(SB.bB_ok rfl:SB.below n (.cells 28 [.int .i64 a,.int .i64 b,.int .i64 c,.int .i64 d,.int .i64 e]))
variable {o:List ZC}{i:Nat}
theorem lD{z:Int}(h:i < n):(Ent.one (.cells 32 [.int .i64 z,.int .i64 a,.int .i64 b,.lit false,gA 2 i c o])).below n:=by
 intro t d;simp only[qi,qp,or_false]at d;rcases d with rfl | rfl | rfl | rfl | rfl
 ·trivial
 ·trivial
 ·trivial
 ·trivial
 ·exact fE h _ _ _
def keep9(a:List Int):Nat->List Kp
 |0=>[]
 |i+1=>keep9 a i++(if stp9 i (pickI (a.getD i 0) 6).toNat=[]then []else [(prp9.getD i 0,stp9 i (pickI (a.getD i 0) 6).toNat)])
def RowL(G:Fz)(l:List Kp)(o:List ZC):Prop:=o.length=l.length/\∀(i:Nat) (z:ZC) (x:Kp),o[i]? =some z->l[i]? =some x->KpR G z.1 x
variable {G:Fz}
theorem RowL.nil:RowL G [] []:=⟨rfl,fun i z x h=>by simp at h⟩
theorem RowL.mono{b:Fz}{l:List Kp}(h:RowL G l o)(a:Fz.le G b):RowL b l o:=⟨h.1,fun i z x h1 c=>(h.2 i z x h1 c).mono a⟩
theorem RowL.snoc{l:List Kp}{x:Kp}{z:ZC}(h:RowL G l o)(c:KpR G z.1 x):RowL G (l++[x]) (o++[z]):=by
 refine⟨by rw[qb,qb,h.1];rfl,fun i y w h1 a=>?_⟩;rcases qcj i o.length with hi | hi
 ·rw[jj hi]at h1;rw[jj (by rw[<-h.1];exact hi)]at a;exact h.2 i y w h1 a
 ·rw[jq hi]at h1;rw[jq (by rw[<-h.1];exact hi)]at a;rw[<-h.1]at a;cases b:i - o.length with
  |zero=>
   rw[b]at h1 a;cases h1;cases a;exact c
  |succ j=>
   rw[b]at h1;simp at h1
theorem rc{c d:Int}(h:i64 a/\i64 b/\i64 c/\i64 d/\i64 e)(k:Nat):i64 ([a,b,c,d,e].getD k 0):=by
 obtain⟨f,h1,g,i,j⟩:=h
 match k with
 |0=>exact f
 |1=>exact h1
 |2=>exact g
 |3=>exact i
 |4=>exact j
 |n+5=>exact(⟨by decide,by decide⟩:i64 0)
theorem yhd(a b c d e:Int){k:Nat}(h:k < 5):dm [SA.int .i64 a,.int .i64 b,.int .i64 c,.int .i64 d,.int .i64 e] (((k:Nat):Int).toNat*1) 1=some [.int .i64 ([a,b,c,d,e].getD k 0)]:=by
 have f:k=0\/k=1\/k=2\/k=3\/k=4:=by omega
 rcases f with rfl | rfl | rfl | rfl | rfl<;>rfl
theorem yea{k:Nat}(h:k < 5):[[SA.int .i64 1],[.int .i64 2],[.int .i64 3],[.int .i64 4],[.int .i64 7]][0+((k:Nat):Int).toNat]? =some [.int .i64 (prp9.getD k 0)]:=by
 have a:k=0\/k=1\/k=2\/k=3\/k=4:=by omega
 rcases a with rfl | rfl | rfl | rfl | rfl<;>rfl
theorem xI:∀i,i < 5->∀j,j < 6->(stp9 i j).length<=2:=by decide
theorem ygs{b:Nat}{d f h i:Int}(A:i64 d/\i64 e/\i64 f/\i64 h/\i64 i)(x:TblAt G b){k:Nat}(g:k < 5):∃(J:Int) (p:List Stp) (n:SA) (R:List (List SA)) (br:Nat) (m:List (List SA)),
  (∀F,Fo prog F 47 [.va (.int .i64 ([d,e,f,h,i].getD k 0)),.va (.int .i64 6)] (fun o u=>o=.ret (.va (.int .i64 J))/\u=F))/\0<=J/\J < 6/\p.length<=2/\
  keep9 [d,e,f,h,i] (k+1)=keep9 [d,e,f,h,i] k++(if p=[]then []else [(prp9.getD k 0,p)])/\G b=some (.arr 99 1 R 5)/\R[0+(k:Int).toNat]? =some [.slice false 0 br 0 1 6 6]/\
  G br=some (.arr 50 1 m 6)/\m[0+J.toNat]? =some [n]/\kN G n p:=by
 have l:=rc A k;have j:=dY ([d,e,f,h,i].getD k 0) 6 dd l;obtain⟨R,w,c⟩:=x;obtain⟨B,s,br,m,rfl,hb,y⟩:=c k g;obtain⟨n,q,a⟩:=y (pickI ([d,e,f,h,i].getD k 0) 6).toNat oo;exact⟨_,stp9 k (pickI ([d,e,f,h,i].getD k 0) 6).toNat,n,R,br,m,fun F=>pf _ 6 l dd F,j.1,j.2,xI k g _ oo,rfl,w,by rw[qg,qz];exact s,hb,by rw[qz];exact q,a⟩
theorem nS{μ:Mu}{z:Int}{A:SA}(d:A=(gA 2 i c o).ren μ):SB.cells 32 [.int .i64 z,.int .i64 a,.int .i64 b,.lit false,A]=SB.ren μ (.cells 32 [.int .i64 z,.int .i64 a,.int .i64 b,.lit false,gA 2 i c o]):=by subst d;rfl
theorem A6(h:Hp)(l:List Stp)(c:Nat):SB.ren (resP h) (.arr 56 2 (l.map enc) c)=.arr 56 2 (l.map enc) c:=by
 show SB.arr 56 2 ((l.map enc).map (List.map (SA.ren (resP h)))) c=_;rw[rp]
theorem DU(l:List Stp)(c:Nat):SB.below 1 (.arr 56 2 (l.map enc) c):=by
 intro r b t a;obtain⟨x,_,rfl⟩:=jk.1 b;simp only[enc,qi,qp,or_false]at a;rcases a with rfl | rfl<;>trivial
theorem sw{h:Hp}(a:∀k,resP h 0 k=(0,k)){z:Nat}(b:resP h i 0=(0,z))(l:List ZC)(p:Int)(n c c':Nat):SB.ren (resP h) (.arr 96 2 (l.map encZ++[[.int .i64 p,.slice false i 0 0 2 n c]]) c')=.arr 96 2 (l.map encZ++[[.int .i64 p,.slice false 0 z 0 2 n c]]) c':=by
 show SB.arr 96 2 ((l.map encZ++([[.int .i64 p,.slice false i 0 0 2 n c]]:List (List SA))).map (List.map (SA.ren (resP h)))) c'=_;rw[qq,ycc aQ a];show SB.arr 96 2 (l.map encZ++[[.int .i64 p,.slice false (resP h i 0).1 (resP h i 0).2 0 2 n c]]) c'=_;rw[b]
theorem vT(b:0 < n)(l:List ZC)(x:ZC)(c:Nat):SB.below n (.arr 96 2 (l.map encZ++[encZ x]) c):=by
 have:=c7 (n:=n) (e:=encZ) aQ b 96 2 c (l++[x]);have a:SB.below n (.arr 96 2 ((l++[x]).map encZ) c):=this;rw[qq]at a;exact a
theorem ygb{z:Nat}{p:Int}{l:List Stp}(h:G z=some (.arr 56 2 (l.map enc) c)):KpR G [.int .i64 p,.slice false 0 z 0 2 (0+(l.map enc).length) c] (p,l):=by
 refine⟨_,rfl,false,z,0,c,_,c,by rw[qz,qa],by simp,fun _=>h,by rw[qa];exact qci (qz _),?_⟩;rw[y5,qk (by rw[qa];exact qj _)]
variable {α:Type}{l:List α}
theorem ye2(h:l.length=n):List.take n (List.drop 0 l)=l:=by
 subst h;exact yv
theorem tk9{t:TypeId}{l:List SA}{p:Pl}{K:List SA->Prop}{x:List SA}(h:dm l (p.e*p.sz+p.o) 1=some x)(a:K x):rdB (.cells t l) p 1 K:=by
 simp only[rdB];rw[h];exact a
def made9(a b c d e f g:Int):Mig:=⟨IntKind.i64.wrap (1+pickI c 9),a,b,(keep9 [c,d,e,f,g] 5).isEmpty&&decide (pickI (c.tdiv 6) 2=0),keep9 [c,d,e,f,g] 5⟩
theorem ydw{i a b:SA}{c:Bool}(ρ:Rho)(e:Ending)(h:(Out.ret (.agg [i,a,b,.bool c,.nilsl])).rel ρ e):(Out.ret (.agg [i,a,b,.lit c,.slice true 0 0 0 2 0 0])).rel ρ e:=h
theorem ydv{i a b:SA}{c:Bool}(h:(Out.ret (.agg [i,a,b,.bool c,.nilsl])).below n):(Out.ret (.agg [i,a,b,.lit c,.slice true 0 0 0 2 0 0])).below n:=by
 intro t d;simp only[qi,qp,or_false]at d;rcases d with rfl | rfl | rfl | rfl | rfl
 ·exact h _ ss
 ·exact h _ ss
 ·exact h _ ss
 ·trivial
 ·exact .inl rfl
theorem fin9n{c d f g:Int}(h:RowL G (keep9 [c,d,e,f,g] 5) []):∃sk,Out.ret (SV.agg [.int .i64 (IntKind.i64.wrap (1+pickI c 9)),.int .i64 a,.int .i64 b,.lit (decide (pickI (c.tdiv 6) 2=0)),.slice true 0 0 0 2 0 0])=.ret (.agg (migS (made9 a b c d e f g) sk))/\KpsAt G sk (made9 a b c d e f g).keep:=by
 have i:keep9 [c,d,e,f,g] 5=[]:=q5 h.1.symm;refine⟨.slice true 0 0 0 2 0 0,by unfold made9;rw[i];rfl,?_⟩;show KpsAt G _ (keep9 [c,d,e,f,g] 5);rw[i];exact SlR.nil
theorem fin9c{d f g j k:Int}{l:ZC}{c:List ZC}{m co:Nat}(h:RowL G (keep9 [d,f,g,j,k] 5) (l::c))(hb:G m=some (.arr 96 2 ((l::c).map encZ) co)):∃sk,Out.ret (SV.agg [.int .i64 (IntKind.i64.wrap (1+pickI d 9)),.int .i64 a,.int .i64 b,.lit false,.slice false 0 m 0 2 (c.length+1) co])=.ret (.agg (migS (made9 a b d f g j k) sk))/\KpsAt G sk (made9 a b d f g j k).keep:=by
 have e:c.length+1=(keep9 [d,f,g,j,k] 5).length:=h.1;obtain⟨K,p⟩:∃K,keep9 [d,f,g,j,k] 5=K:=⟨_,rfl⟩
 unfold made9;rw[p]at e h ⊢;rcases K with _ | ⟨q,s⟩
 ·cases e
 refine⟨_,rfl,?_⟩;show KpsAt G _ (q::s);refine⟨false,m,0,co,_,co,by rw[e],fun h=>(nomatch h),fun _=>hb,by rw[qa];exact qci ((qz _).trans e.symm),fun i x o=>?_⟩
 have n:i < (l::c).length:=by
  have:=(qh.1 o).1;rw[<-e]at this;exact this
 rw[qz];exact⟨encZ (l::c)[i],by rw[qu,qc n];rfl,h.2 i _ x (qc n) o⟩
theorem Cv(F:Fz)(a b:Int)(h Z x2 x3 x4:Int)(hx:i64 h/\i64 Z/\i64 x2/\i64 x3/\i64 x4):
  Fo prog F 13 [.va (.int .i64 a),.va (.int .i64 b),.agg [.int .i64 h,.int .i64 Z,.int .i64 x2,.int .i64 x3,.int .i64 x4]] (fun o F'=>∃sk,o=.ret (.agg (migS (made9 a b h Z x2 x3 x4) sk))/\KpsAt F' sk (made9 a b h Z x2 x3 x4).keep):=by
 have bh:=fun F=>pf h 9 hx.1 dd F
 have bg:=fun F=>pf (h.tdiv 6) 2 (i5 hx.1) dd F
 have a7:h.tdiv 6=IntKind.i64.wrap (h.tdiv 6):=by
  have:=i5 hx.1;unfold i64 at this;exact(aF oo oo).symm
 refine foS func13 ?_;refine⟨⟨by decide,by decide⟩,?_⟩;refine usePt (bh F) ?_;refine dh 4 (fun _=>.arr 56 2 [[.int .i64 6,.int .i64 0]] 1) ?_;intro z4 G4 u4 ap;refine dh 5 (fun _=>.arr 56 2 [[.int .i64 1,.int .i64 0]] 1) ?_;intro z5 G5 u5 aq;refine dh 6 (fun _=>.arr 56 2 [[.int .i64 2,.int .i64 0]] 1) ?_;intro z6 G6 u6 ar;refine dh 7 (fun _=>.arr 56 2 [[.int .i64 1,.int .i64 0],[.int .i64 2,.int .i64 0]] 2) ?_;intro z7 G7 u7 au;refine dh 9 (fun _=>.arr 56 2 [[.int .i64 4,.int .i64 3]] 1) ?_;intro z9 G9 u9 aw;refine dh 10 (fun _=>.arr 56 2 [[.int .i64 4,.int .i64 0]] 1) ?_;intro bx ca bk K;refine dh 11 (fun _=>.arr 56 2 [[.int .i64 4,.int .i64 6]] 1) ?_;intro bz cb bl L;refine dh 13 (fun _=>.arr 56 2 [[.int .i64 3,.int .i64 10]] 1) ?_;intro b1 cd bn O;refine dh 14 (fun _=>.arr 56 2 [[.int .i64 3,.int .i64 100]] 1) ?_;intro b2 ce bo Q;refine dh 17 (fun _=>.arr 56 2 [[.int .i64 5,.int .i64 0]] 1) ?_;intro b5 ch bs U;refine dh 18 (fun _=>.arr 56 2 [[.int .i64 5,.int .i64 0],[.int .i64 5,.int .i64 0]] 2) ?_;intro b6 ci bt V;refine dh 8 (fun _=>.arr 50 1 [[.nilsl],[.slice false 0 (z5 0) 0 2 1 1],[.slice false 0 (z6 0) 0 2 1 1],[.slice false 0 (z7 0) 0 2 2 2],[.slice false 0 (z4 0) 0 2 1 1],[.nilsl]] 6) ?_;intro z8 G8 u8 av;refine dh 12 (fun _=>.arr 50 1 [[.nilsl],[.slice false 0 (z9 0) 0 2 1 1],[.slice false 0 (bx 0) 0 2 1 1],[.slice false 0 (z4 0) 0 2 1 1],[.nilsl],[.slice false 0 (bz 0) 0 2 1 1]] 6) ?_;intro b0 cc bm M;refine dh 15 (fun _=>.arr 50 1 [[.nilsl],[.slice false 0 (b1 0) 0 2 1 1],[.slice false 0 (b2 0) 0 2 1 1],[.slice false 0 (z4 0) 0 2 1 1],[.nilsl],[.nilsl]] 6) ?_
 intro b3 cf bp S;refine dh 16 (fun _=>.arr 50 1 [[.nilsl],[.nilsl],[.nilsl],[.slice false 0 (z4 0) 0 2 1 1],[.nilsl],[.nilsl]] 6) ?_;intro b4 cg bq T;refine dh 19 (fun _=>.arr 50 1 [[.nilsl],[.slice false 0 (b5 0) 0 2 1 1],[.slice false 0 (b6 0) 0 2 2 2],[.slice false 0 (z4 0) 0 2 1 1],[.nilsl],[.nilsl]] 6) ?_;intro b7 ck bu W;refine dh 20 (fun _=>.arr 99 1 [[.slice false 0 (z8 0) 0 1 6 6],[.slice false 0 (b0 0) 0 1 6 6],[.slice false 0 (b3 0) 0 1 6 6],[.slice false 0 (b4 0) 0 1 6 6],[.slice false 0 (b7 0) 0 1 6 6]] 5) ?_;intro b8 u bw Y;have bj:=Fz.r u;have a6:=Fz.t bw bj;have a3:=Fz.t bu a6;have a2:=Fz.t bq a3;have az:=Fz.t bp a2;have l8:=Fz.t bm az;have a5:=Fz.t u8 l8;have a4:=Fz.t bt a5;have a1:=Fz.t bs a4;have a0:=Fz.t bo a1;have ay:=Fz.t bn a0;have ax:=Fz.t bl ay;have l9:=Fz.t bk ax;have l7:=Fz.t u9 l9;have l6:=Fz.t u7 l7;have l5:=Fz.t u6 l6;have l4:=Fz.t u5 l5;have hT:=yg7 (l4 _ _ (ap 0 rfl)) (l5 _ _ (aq 0 rfl)) (l6 _ _ (ar 0 rfl)) (l7 _ _ (au 0 rfl)) (l9 _ _ (aw 0 rfl)) (ax _ _ (K 0 rfl)) (ay _ _ (L 0 rfl)) (a0 _ _ (O 0 rfl)) (a1 _ _ (Q 0 rfl)) (a4 _ _ (U 0 rfl)) (a5 _ _ (V 0 rfl)) (l8 _ _ (av 0 rfl)) (az _ _ (M 0 rfl)) (a2 _ _ (S 0 rfl)) (a3 _ _ (T 0 rfl)) (a6 _ _ (W 0 rfl)) (Y 0 rfl);refine resT 9 (.va (.slice false 0 (b8 0) 0 1 5 5)) rfl rfl (.inr (show(0:Nat) < 21 by decide)) ?_;have lF:=Fz.t u4 l4;clear ap aq ar au aw K L O Q U V av M S T W Y
 refine Cs hΘ (X:={ y:Nat×List ZC×Nat×Fz // y.1<=5/\Fz.le u y.2.2.2/\RowL y.2.2.2 (keep9 [h,Z,x2,x3,x4] y.1) y.2.1/\y.2.1.length<=y.1 }) (fun y=>[(10,.va (.int .i64 y.1.1))]) (11::12::jr 55 31 [])
  (fun y=>[(0,.frz y.1.2.2.2),(1,box9 h Z x2 x3 x4),(3,.one (.cells 32 [.int .i64 (IntKind.i64.wrap (1+pickI h 9)),.int .i64 a,.int .i64 b,.lit false,gA 2 21 y.1.2.2.1 y.1.2.1])),(21,gE 96 2 encZ y.1.2.2.1 y.1.2.1)]) 22 (fun y=>5 - y.1.1) ⟨(0,[],0,u),js _,Fz.r _,RowL.nil,qj _⟩
  (fun hH hT=>leI [(21,21)] hH hT rfl ⟨tv,lv,lD oo,c7 aQ oo _ _ _ _,tv⟩ ⟨rfl,tv⟩ ⟨Fz.r u,rfl,rfl,rfl,tv⟩) ?_
 rintro⟨⟨k,o,co,G⟩,hk,E,d,q⟩ hH aa;replace hk:k<=5:=hk;replace E:Fz.le u G:=E;replace d:RowL G (keep9 [h,Z,x2,x3,x4] k) o:=d;replace q:o.length<=k:=q;by_cases g:k < 5
 ·have w:(k:Int) < 5:=by omega
  have x:5 - (k+1) < 5 - k:=by omega
  have A:k < 4611686018427387904:=by omega
  have al:=yea g;have an:=yhd h Z x2 x3 x4 g;have bi:=ygs hx (hT.mono E) g;obtain⟨J,st,cj,R,cl,R',ak,af,ag,b9,e,hR,am,ad,ae,c⟩:=bi;refine Or.elim c (fun c=>?_) (fun c=>?_)
  ·obtain⟨rfl,rfl⟩:=c;rw[if_pos rfl,qx]at e;refine bri w ⟨rfl,⟨jy k,w⟩,_,al,?_⟩;refine dwS (lk [0,1,2,3,4,5,6] (.alt 7 (lk [8,9,10] .done) .nil)) [1] ?_;refine⟨rfl,⟨jy k,w⟩,rfl,_,hR,_,am,⟨jy k,w⟩,rfl,?_⟩;refine tk9 (t:=28) (p:=⟨0,0,(k:Int).toNat,1,0⟩) an ?_;refine usePt (ak G) ?_;refine⟨Fz.r G,rfl,rfl,⟨af,ag⟩,rfl,_,ad,_,ae,brd dd ?_⟩;exact qK ⟨⟨(k+1,o,co,G),g,E,by rw[e];exact d,qbg q⟩,x,leR [(21,21)] hH aa rfl ⟨tv,lv,lD oo,c7 aQ oo _ _ _ _,tv⟩ ⟨cnt A,tv⟩ ⟨Fz.r G,rfl,nS (go (μ:=sig [(21,21)]) (i:=21) (j:=21) rfl o),ej (μ:=sig [(21,21)]) aQ (fun k=>rfl) (aV _ _ _ _),tv⟩⟩
  ·obtain⟨ai,cm,rfl,bb⟩:=c;have aj:¬st=[]:=qbi.1 ai;have bf:(0:Int) < (st.length:Int):=by omega
   rw[if_neg aj]at e;rcases st with _ | ⟨s0,s⟩
   ·exact absurd rfl aj
   have hX:=ye2 (l:=(s0::s).map enc) (n:=(s0::s).length) (qa _);have a9:(0+((s0::s).map enc).length)*16<=140737488355328:=by rw[qa];omega
   have a8:0+(s0::s).length<=((s0::s).map enc).length:=by rw[qa];omega
   have I:∀n,n<=k->(n+1)*32<=140737488355328:=fun n hn=>by omega
   rcases o with _ | ⟨o0,B⟩
   all_goals
    refine bri w ⟨rfl,⟨jy k,w⟩,_,al,?_⟩;refine dwS (lk [0,1,2,3,4,5,6] (.alt 7 (lk [8,9,10] .done) .nil)) [1] ?_;refine⟨rfl,⟨jy k,w⟩,rfl,_,hR,_,am,⟨jy k,w⟩,rfl,?_⟩;refine tk9 (t:=28) (p:=⟨0,0,(k:Int).toNat,1,0⟩) an ?_;refine usePt (ak G) ?_;refine⟨Fz.r G,rfl,rfl,⟨af,ag⟩,rfl,_,ad,_,ae,bri bf ?_⟩;refine dwS (lk [0,1,2,4] (.alt 3 (.alt 5 (.alt 6 (.alt 7 (.alt 8 (.look 9 (.last 10 .done)) .nil) .nil) .nil) .nil) .nil)) [3] ?_;refine⟨rfl,Fz.r G,rfl,_,_,_,bb,a8,_,hX,rfl,rfl,rfl,a9,fun D cn=>?_⟩;refine⟨Fz.r G,rfl,Fz.r G,rfl,Fz.r G,rfl,nb rfl,[[.int .i64 (prp9.getD k 0),.slice false 24 0 0 2 (0+((s0::s).map enc).length) D]],rfl,?_⟩;conv=>whnf
    first
     |refine⟨rfl,rfl,by simp,rfl,I _ q,fun c' bc=>?_⟩
     |(refine⟨rfl,rfl,?_⟩;(conv=>whnf);refine⟨I 0 (js _),fun c' bc=>?_⟩)
    refine⟨Fz.r G,rfl,?_⟩;refine DD 24 (fun _=>.arr 56 2 ((s0::s).map enc) D) rfl rfl rfl (fun _ _=>A6 _ _ _) (fun _ _=>DU _ _) ?_;intro m ac ab ao
    first
     |refine w5 26 _ rfl (sw (fun _=>rfl) (i:=24) (z:=m 0) rfl (o0::B) (prp9.getD k 0) (0+((s0::s).map enc).length) D c') (vT (show 0 < 27 by decide) (o0::B) (mkZ _ (.slice false 0 (m 0) 0 2 _ D) rfl) _) ?_
     |refine w5 26 _ rfl (sw (fun _=>rfl) (i:=24) (z:=m 0) rfl [] (prp9.getD k 0) (0+((s0::s).map enc).length) D c') (vT (show 0 < 27 by decide) [] (mkZ _ (.slice false 0 (m 0) 0 2 _ D) rfl) _) ?_
    have be:=ygb (p:=prp9.getD k 0) (ao 0 rfl);have f:=(d.mono ab).snoc (z:=mkZ (prp9.getD k 0) (.slice false 0 (m 0) 0 2 (0+((s0::s).map enc).length) D) rfl) be;rw[<-e]at f
    first
     |exact qK ⟨⟨(k+1,(o0::B)++[mkZ (prp9.getD k 0) (.slice false 0 (m 0) 0 2 (0+((s0::s).map enc).length) D) rfl],c',ac),g,Fz.t E ab,f,by rw[qb];exact qcu q 1⟩,x,leR [(21,26)] hH aa rfl ⟨tv,lv,lD oo,c7 aQ oo _ _ _ _,tv⟩ ⟨cnt A,tv⟩ ⟨Fz.r _,rfl,nS (mW (μ:=sig [(21,26)]) rfl rfl),ej (μ:=sig [(21,26)]) aQ (fun k=>rfl) (bC _ (by rw[qq];rfl)),tv⟩⟩
     |exact qK ⟨⟨(k+1,[]++[mkZ (prp9.getD k 0) (.slice false 0 (m 0) 0 2 (0+((s0::s).map enc).length) D) rfl],c',ac),g,Fz.t E ab,f,by rw[qb];exact qcu q 1⟩,x,leR [(21,26)] hH aa rfl ⟨tv,lv,lD oo,c7 aQ oo _ _ _ _,tv⟩ ⟨cnt A,tv⟩ ⟨Fz.r _,rfl,nS (mW (μ:=sig [(21,26)]) rfl rfl),ej (μ:=sig [(21,26)]) aQ (fun k=>rfl) (bC _ (by rw[qq];rfl)),tv⟩⟩
 ·have w:¬(k:Int) < 5:=by omega
  have bd:k=5:=by omega
  subst bd;rcases o with _ | ⟨o0,B⟩
  ·refine brj w ?_;refine gae ss ⟨⟨by decide,by decide⟩,by decide,?_⟩;refine usePu (bg G) rfl ⟨oi a7,rfl,tv⟩ rfl ?_;refine relE (.ret (.agg [.int .i64 (IntKind.i64.wrap (1+pickI h 9)),.int .i64 a,.int .i64 b,.lit (decide (pickI (h.tdiv 6) 2=0)),.slice true 0 0 0 2 0 0])) ydw ydv ?_;exact endFs _ (Fz.t lF E) (fin9n d)
  ·refine brj w ⟨fun g=>absurd g (by simp;try omega),fun _=>?_⟩;refine cu 21 (fun _=>.arr 96 2 ((o0::B).map encZ) co) rfl rfl rfl (fun _ _=>by exact dW (μ:=resP _) aQ (fun k=>rfl) rfl _ _ _) (fun _ _=>dZ aQ oo _ _ _ _) ?_;intro b' F' ah ba;exact endFs _ (Fz.t (Fz.t lF E) ah) (fin9c (d.mono ah) (ba 0 ⟨rfl,rfl⟩))
theorem wP:∀(l:List Kp) (x:Kp),asc l=true->(∀y∈l,y.1 < x.1)->asc (l++[x])=true
 |[],_,_,_=>rfl
 |[a],x,_,h=>by
  show(decide (a.1 < x.1)&&asc [x])=true;rw[decide_eq_true (h a ss)];rfl
 |a::b::r,x,ha,h=>by
  rw[asc,qd]at ha;show(decide (a.1 < b.1)&&asc ((b::r)++[x]))=true;rw[ha.1,wP (b::r) x ha.2 fun y c=>h y (yj _ c)];rfl
theorem yeb:∀k,k < 5->∀i,i < k->prp9.getD i 0 < prp9.getD k 0:=by decide
theorem zW:∀i,i < 5->∀j,j < 6->stp9 i j=[]\/aZ (prp9.getD i 0,stp9 i j)=true:=by decide
theorem oV{a:List Int}(c:∀k,i64 (a.getD k 0)):∀n,n<=5->∀y∈keep9 a n,∃i,i < n/\y.1=prp9.getD i 0/\aZ y=true/\y.2.length<=2
 |0,_,y,h=>nomatch h
 |n+1,hn,y,h=>by
  rw[keep9,yd]at h;rcases h with h | h
  ·obtain⟨i,h1,b⟩:=oV c n oo y h;exact⟨i,by omega,b⟩
  ·have e:=dY (a.getD n 0) 6 dd (c n);have h1:=zW n oo (pickI (a.getD n 0) 6).toNat oo;have b:=xI n oo (pickI (a.getD n 0) 6).toNat oo;split at h
   ·cases h
   ·rename_i d;rw[qs]at h;subst h;exact⟨n,by omega,rfl,h1.resolve_left d,b⟩
theorem vj{a:List Int}(b:∀k,i64 (a.getD k 0)):∀n,n<=5->asc (keep9 a n)=true/\(keep9 a n).length<=n
 |0,_=>⟨rfl,qj 0⟩
 |n+1,hn=>by
  have ih:=vj b n oo;rw[keep9];split
  ·rw[qx];exact⟨ih.1,qbg ih.2⟩
  ·refine⟨wP _ _ ih.1 fun y d=>?_,by rw[qb];exact qcu ih.2 1⟩;obtain⟨i,h1,c,-,-⟩:=oV b n oo y d;rw[c];exact yeb n oo i h1
theorem Ak{c d f g:Int}(j:idOk a=true)(k:idOk b=true)(l:i64 c/\i64 d/\i64 e/\i64 f/\i64 g):migOk (made9 a b c d e f g)=true/\short (made9 a b c d e f g).keep/\(made9 a b c d e f g).keep.length < 1000000:=by
 have p:=dY c 9 dd l.1;have n:=vj (rc l) 5 (qj 5);have o:=oV (rc l) 5 (qj 5);refine⟨?_,fun y m=>?_,yq n.2 dd⟩
 ·unfold migOk made9;rw[aF oo oo];simp only[qd];refine⟨n.1,?_,j,k,?_,?_⟩
  ·simp only[idOk,qd,decide_eq_true_eq];omega
  ·cases keep9 [c,d,e,f,g] 5<;>simp
  ·exact qo.2 fun y m=>(o y m).elim fun i h=>h.2.2.1
 ·obtain⟨i,-,-,-,h⟩:=o y m;omega
theorem yed{w:Int}{s:List UInt8}(h:rasOk w s=true):s.length<=1024:=by
 unfold rasOk at h;simp only[qd,qai,decide_eq_true_eq,beq_iff_eq,inR]at h;rcases h.2 with h2 | h2
 ·rw[h2.2];exact js _
 ·have a:w*hgt w s<=32*32:=qbb oo oo oo oo;omega
theorem lj{d:Dc}(h:docOk d=true):DcSmall d:=by
 have a:=dM h;exact⟨jm a.lines dd,jm a.cells dd,jm (yed a.ras) dd⟩
abbrev RunM(M:Mig)(d:Dc):Out->Fz->Prop:=fun o c=>o=.ret (.tup [.agg docZ,.va (.int .i64 90)])\/(∃e a b,runD M.keep d=some e/\o=.ret (.tup [.agg (docS a b e.w e.bits),.va (.int .i64 0)])/\DocAt c a b e)
section
variable {M:Mig} (hm:migOk M=true) (hs:short M.keep) (hl:M.keep.length < 1000000) {d:Dc} (hd:docOk d=true)
include hm hs hl hd
theorem yem(F:Fz)(i:MLF F)(sk a b:SA)(j:KpsAt F sk M.keep)(g:DocAt F a b d):Fo prog F 38 [.agg (migS M sk),.agg (docS a b d.w d.bits)] (RunM M d):=
 cP (ygt F i sk M a b d j hs hl g (lj hd)) fun o k h=>by
  rcases h with⟨_,h⟩ | ⟨e,a,b,h1,c,f⟩
  ·exact .inl h
  ·unfold runX at h1;rw[if_pos ⟨hm,hd⟩]at h1;exact .inr ⟨e,a,b,h1,c,f⟩
theorem Cx(F:Fz)(n:MLF F)(p:RNDF F)(sk a b c f:SA){e:Dc}(j:runD M.keep d=some e)(q:KpsAt F sk M.keep)(l:DocAt F a b d)(m:DocAt F c f e):
  Fo prog F 21 [.agg (migS M sk),.agg (docS a b d.w d.bits),.agg (docS c f e.w e.bits)] (fun o i=>∃k,o=.ret (.tup [.agg (crtS (makeC M d e) k),.va (.int .i64 0)])/\ClsAt i k (bQ M.keep)):=by
 have g:M.keep.all aZ=true:=by
  simp only[migOk,qd]at hm;exact hm.2.2.2.2.2
 refine cP (mZ F n p sk a b c f M d e q hs hl l m (lj hd) (lj (sA g hd j))) fun o i h=>?_
 rcases h with⟨h,_⟩ | ⟨_,h⟩
 ·exact absurd (h.symm.trans (run_make hm hd j)) ss
 ·exact h
end
theorem yen{M:Mig}(hm:migOk M=true)(_:short M.keep)(_:M.keep.length < 1000000){d:Dc}(hd:docOk d=true){e:Dc}(a:runD M.keep d=some e):docOk e=true/\bJ (makeC M d e) (allB d) (allB e)=true:=by
 have h:=run_make hm hd a;simp only[eE,qd]at h;exact h.2.2
def ii(A:List (List UInt8)):Prop:=∀p:Int,1<=p/\p<=8->∃v,VOK p v/\atV A p=bE p v
theorem uY{d:Dc}(b:docOk d=true):ii (allB d):=fun p a=>by
 refine⟨bU p d,jZ a b,?_⟩;have h:=mi d (p - 1).toNat oo;rw[atV,h,show(((p - 1).toNat:Nat):Int)+1=p by omega,yh,iH a]
theorem yge(t:List Stp):normS ([(6,0)]++t)=[(6,0)]:=by rw[normS,if_neg (by simp[sel])]
theorem ygf(t:List Stp):normS (t++[(6,0)])=[(6,0)]:=by rw[normS,if_neg (by simp[sel])]
variable {A B:List (List UInt8)}
theorem BD{C:List (List UInt8)}{p:Int}{s t:List Stp}(l:1<=p/\p<=8)(k:ii A)(a:aM p s=true)(e:aM p t=true)(h1:chkAt A B (p,s)=true)(i:chkAt B C (p,t)=true):
  chkAt A C (p,normS (s++t))=true:=by
 by_cases f:s=[(6,0)]
 ·subst f;rw[yge];simp[chkAt]
 by_cases g:t=[(6,0)]
 ·subst g;rw[ygf];simp[chkAt]
 obtain⟨v,b,j⟩:=k p l
 have c:bE p (runS s v)=atV B p:=by
  simp only[chkAt,j,jJ a b]at h1;simpa[f]using h1
 have d:bE p (runS t (runS s v))=atV C p:=by
  simp only[chkAt,<-c,jJ e (yb5 a b)]at i;simpa[g]using i
 have h:cQ p (normS (s++t)) (atV A p)=(atV C p,0):=by rw[j,jJ (compV a e) b,yat a e b,d]
 simp[chkAt,h]
theorem wG:∀(l:List Kp) (i:Int),clOk l i=true↔∀(k:Nat) (h:k < l.length),clAt (l[k]'h) (i+k)=true
 |[],i=>by simp[clOk]
 |x::r,i=>by
  rw[clOk,qd,wG r (i+1)];refine⟨fun⟨h1,c⟩ k a=>?_,fun h=>⟨?_,fun k a=>?_⟩⟩
  ·cases k with
   |zero=>rw[show i+((0:Nat):Int)=i by omega];exact h1
   |succ k=>have:=c k (by simpa using a);rw[show i+((k+1:Nat):Int)=i+1+k by omega];exact this
  ·have b:clAt x (i+((0:Nat):Int))=true:=h 0 ss;rw[show i+((0:Nat):Int)=i by omega]at b;exact b
  ·have:=h (k+1) (by simpa using a);rw[show i+1+(k:Int)=i+((k+1:Nat):Int)by omega];exact this
theorem rI{x y:Kp}{i:Int}(b:clAt x i=true)(c:clAt y i=true):dv x y=(i,normS (x.2++y.2))/\clAt (dv x y) i=true:=by
 obtain⟨p,s⟩:=x;obtain⟨q,t⟩:=y;simp only[clAt,qd,decide_eq_true_eq]at b c;obtain⟨rfl,h1,d⟩:=b;obtain⟨rfl,a,f⟩:=c
 have e:dv (q,s) (q,t)=(q,normS (s++t)):=by
  show(q,(compR q s t).1)=_;rw[compR,if_pos ⟨h1,a⟩]
 refine⟨e,?_⟩;rw[e];simp only[clAt,qd,decide_eq_true_eq];exact⟨tv,compV h1 a,v2 _⟩
structure CrtP(c:Crt):Prop where
 s:c.src.length=32
 d:c.dst.length=32
 l:1<=c.len/\c.len<=64
 n:c.cl.length=8
 k:∀(k:Nat) (h:k < c.cl.length),clAt (c.cl[k]'h) (1+k)=true
theorem iy{c:Crt}:crtOk c=true↔CrtP c:=by
 simp only[crtOk,qd,decide_eq_true_eq,wG];exact⟨fun⟨h1,b,a,d,e,f⟩=>⟨h1,b,⟨a,d⟩,e,f⟩,fun⟨h1,b,a,d,e⟩=>⟨h1,b,a.1,a.2,d,e⟩⟩
theorem rK{a b:Crt}(c:crtOk a=true)(hb:crtOk b=true)(g:a.len+b.len<=64):crtOk (joinC a b)=true:=by
 rw[iy]at*;refine⟨c.s,hb.d,⟨?_,g⟩,?_,fun k h=>?_⟩
 ·show 1<=a.len+b.len;have:=c.l;have:=hb.l;omega
 ·show(List.zipWith dv a.cl b.cl).length=8;rw[qax,c.n,hb.n];rfl
 ·have e:k < (List.zipWith dv a.cl b.cl).length:=h;have f:k < 8:=by rw[qax,c.n,hb.n]at e;exact e
  show clAt ((List.zipWith dv a.cl b.cl)[k]'e) _=true;rw[qbz];exact(rI (c.k k (c.n▸f)) (hb.k k (hb.n▸f))).2
structure ChkP(c:Crt)(A B:List (List UInt8)):Prop where
 ok:crtOk c=true
 a:A.length=8
 b:B.length=8
 s:root8 A=c.src
 d:root8 B=c.dst
 k:∀x∈c.cl,chkAt A B x=true
theorem iv{c:Crt}:bJ c A B=true↔ChkP c A B:=by
 simp only[bJ,qd,decide_eq_true_eq,qo];exact⟨fun⟨h1,⟨a,b⟩,d,e,f⟩=>⟨h1,a,b,d,e,f⟩,fun⟨h1,a,b,d,e,f⟩=>⟨h1,⟨a,b⟩,d,e,f⟩⟩
theorem tU{a b:Crt}:c8 a b=true↔a.dst=b.src/\crtOk b=true/\a.len+b.len<=64:=by
 simp only[c8,qd,decide_eq_true_eq]
theorem BE{a b:Crt}{C:List (List UInt8)}(o:ii A)(h1:bJ a A B=true)(c:bJ b B C=true)(i:a.len+b.len<=64):c8 a b=true/\bJ (joinC a b) A C=true:=by
 rw[iv]at h1 c;refine⟨tU.2 ⟨h1.d.symm.trans c.s,c.ok,i⟩,?_⟩;rw[iv];refine⟨rK h1.ok c.ok i,h1.a,c.b,h1.s,c.d,fun x g=>?_⟩;have f:=iy.1 h1.ok;have hb:=iy.1 c.ok;obtain⟨k,u,rfl⟩:=qb0.1 g;have h:k < (List.zipWith dv a.cl b.cl).length:=u;have e:k < 8:=by rw[qax,f.n,hb.n]at h;exact h
 show chkAt A C ((List.zipWith dv a.cl b.cl)[k]'h)=true;rw[qbz,(rI (f.k k (f.n▸e)) (hb.k k (hb.n▸e))).1];have g:=f.k k (f.n▸e);have j:=hb.k k (hb.n▸e);have l:=h1.k _ (qt (f.n▸e));have m:=c.k _ (qt (hb.n▸e));generalize a.cl[k]'(f.n▸e)=x at*;generalize b.cl[k]'(hb.n▸e)=y at*;obtain⟨p,s⟩:=x;obtain⟨q,t⟩:=y;simp only[clAt,qd,decide_eq_true_eq]at g j;obtain⟨rfl,w,-⟩:=g;obtain⟨rfl,D,-⟩:=j;exact BD oo o w D l m
structure Chn(V:List (List (List UInt8)))(C:List Crt):Prop where
 n:V.length=C.length+1
 chk:∀(i:Nat) (h:i < C.length),bJ (C[i]'h) (V[i]?.getD []) (V[i+1]?.getD [])=true
 one:∀c∈C,c.len=1
 sh:∀c∈C,short c.cl
 ok:∀A∈V,ii A
theorem Chn.new(h:ii A):Chn [A] []:=⟨rfl,fun i h=>absurd h ss,by simp,by simp,fun B a=>by rw[qs]at a;subst a;exact h⟩
variable {V:List (List (List UInt8))}
theorem Chn.snoc{C:List Crt}(h:Chn V C){c:Crt}(f:bJ c (V[C.length]?.getD []) B=true)(h1:c.len=1)(j:short c.cl)(d:ii B):Chn (V++[B]) (C++[c]):=by
 refine⟨by simp[h.n],fun i a=>?_,fun x hx=>?_,fun x hx=>?_,fun x hx=>?_⟩
 ·have g:=h.n;by_cases e:i < C.length
  ·have:=h.chk i e;rw[List.getElem_append_left e,jj oo,jj oo];exact this
  ·have b:i=C.length:=by rw[qb]at a;simp at a;omega
   subst b;rw[List.getElem_append_right (qj _),jj oo,jq oo];simpa[g]using f
 ·rcases yd.1 hx with hx | hx
  ·exact h.one x hx
  ·rw[qs]at hx;subst hx;exact h1
 ·rcases yd.1 hx with hx | hx
  ·exact h.sh x hx
  ·rw[qs]at hx;subst hx;exact j
 ·rcases yd.1 hx with hx | hx
  ·exact h.ok x hx
  ·rw[qs]at hx;subst hx;exact d
theorem Chn.tail{c:Crt}{r:List Crt}(h:Chn (A::V) (c::r)):Chn V r:=
 ⟨by simpa using h.n,fun i b=>h.chk (i+1) (by simpa using b),fun x a=>h.one x (by simp[a]),fun x a=>h.sh x (by simp[a]),fun x a=>h.ok x (by simp[a])⟩
theorem xg:∀(r:List Crt) (a:Crt) (A B:List (List UInt8)) (V:List (List (List UInt8))),ii A->bJ a A B=true->Chn (B::V) r->a.len+r.length<=64->
  ∃x,foldS a r=some x/\bJ x A ((B::V)[r.length]?.getD [])=true/\x.len=a.len+r.length
 |[],a,A,B,V,_,ha,h,_=>⟨a,rfl,ha,(Int.add_zero _).symm⟩
 |c::r,a,A,B,[],_,_,h,_=>absurd h.n ss
 |c::r,a,A,B,D::V,hA,ha,h,hl=>by
  have g:bJ c B D=true:=h.chk 0 ss;have h1:c.len=1:=h.one c ss;rw[qf]at hl;have b:=BE hA ha g oo;obtain⟨x,d,e,f⟩:=xg r (joinC a c) A D V hA b.2 h.tail (by show a.len+c.len+_<=64;omega);refine⟨x,?_,by simpa using e,?_⟩
  ·rw[foldS,if_pos b.1];exact d
  ·rw[f,qf];show a.len+c.len+_=_;omega
theorem Dm{C:List Crt}(h:Chn V C)(b:C≠[])(g:C.length<=64):∃x,du C=some x/\bJ x (V[0]?.getD []) (V[C.length]?.getD [])=true/\x.len=C.length:=by
 match C,V,h,b with
 |c::r,[A],h,_=>exact absurd h.n ss
 |c::r,A::B::V,h,_=>
  have a:bJ c A B=true:=h.chk 0 ss;have h1:c.len=1:=h.one c ss;rw[qf]at g;obtain⟨x,d,e,f⟩:=xg r c A B V (h.ok A ss) a h.tail oo;refine⟨x,?_,by simpa using e,by rw[f,h1,qf];omega⟩;rw[du,if_pos (iv.1 a).ok];exact d
theorem uS{α:Type}:∀(n:Nat) (l:List α),n<=l.length->takeN n l=some (l.take n)
 |0,l,_=>rfl
 |n+1,[],h=>by simp at h
 |n+1,x::r,h=>by rw[takeN,uS n r (by simpa using h)];rfl
theorem uQ{α:Type}:∀(l:List α) (o:Nat) (a:List α),0 < a.length->(∀j (h:j < a.length),l[o+j]? =some (a[j]'h))->dm l o a.length=some a
 |l,0,a,_,h=>by
  have d:a.length<=l.length:=by
   rcases a with _ | ⟨x,r⟩
   ·exact js _
   ·have:=(qh.1 (h r.length ss)).1;simp;omega
  have e:l.take a.length=a:=List.ext_getElem (by rw[qn];omega) fun j h1 b=>by
   rw[List.getElem_take];have:=(qh.1 (h j b)).2;simpa using this
  have:dm l 0 a.length=takeN a.length l:=by cases l<;>rfl
  rw[this,uS _ _ d,e]
 |[],o+1,a,h0,h=>by have:=h 0 h0;simp at this
 |y::l,o+1,a,h0,h=>by
  rw[dm];exact uQ l o a h0 fun j c=>by have:=h j c;rw[show o+1+j=(o+j)+1 by omega,qbj]at this;exact this
theorem RawB.rdN{B:SB}{zs:List Int}{p:Pl}{K:List SA->Prop}(b:0 < zs.length)(h:∀j (g:j < zs.length),RawB B (i+j) (zs[j]'g))(d:p.e*p.sz+p.o=i)(c:K (zs.map (.int .i64))):rdB B p zs.length K:=by
 cases B with
 |obj o=>
  cases o with
  |cells cs t fr=>
   refine⟨zs.map (.int .i64),⟨qa _,fun a f=>?_,fun ρ=>⟨t,fr,cs.toList.take i,cs.toList.drop (i+zs.length),?_,?_⟩⟩,c⟩
   ·obtain⟨z,_,rfl⟩:=jk.1 f;trivial
   ·congr 1
    apply qdf.1;show cs.toList=_
    have m:((cs.toList.drop i).take zs.length)=(zs.map (SA.int .i64)).map (SA.den ρ):=by
     apply qbe;intro j;rw[List.getElem?_take,qab];by_cases g:j < zs.length
     ·rw[if_pos g];have k:cs[i+j]? =some (.int .i64 zs[j]):=h j g;rw[Array.getElem?_toList,k];simp[g,SA.den]
     ·rw[if_neg g,qad (by simp;omega)]
    rw[<-m,<-qdy,ql,yw,yw]
   ·rw[qn];have:=(jp.1 (show cs[i+0]? =some (.int .i64 zs[0])from h 0 b)).1;rw[qd1,d];omega
  |_=>exact(h 0 b).elim
 |cells t l=>
  simp only[rdB]
  have e:=uQ l i (zs.map (SA.int .i64)) (by simpa using b) fun j g=>by
   rw[yr];exact h j (by simpa using g)
  rw[qa]at e;rw[d,e];exact c
 |arr t sz L room=>exact(h 0 b).elim
def MigR(F:Fz)(y:List SA)(m:Mig):Prop:=∃sk,y=migS m sk/\KpsAt F sk m.keep
theorem MigR.mono{b:Fz}{y:List SA}{x:Mig}(h:MigR F y x)(a:Fz.le F b):MigR b y x:=by
 obtain⟨sk,h1,c⟩:=h;exact⟨sk,h1,KpsAt.up c a⟩
abbrev ns(F:Fz)(a:SA)(l:List Mig):Prop:=SlR F 32 5 (MigR F) a l
def RowG{α:Type}(R:Fz->List SA->α->Prop)(G:Fz)(l:List α)(o:List ZC):Prop:=o.length=l.length/\∀(i:Nat) (z:ZC) (x:α),o[i]? =some z->l[i]? =some x->R G z.1 x
variable {R:Fz->List SA->α->Prop}
theorem RowG.snoc(h:RowG R G l o){x:α}{z:ZC}(c:R G z.1 x):RowG R G (l++[x]) (o++[z]):=by
 refine⟨by simp[h.1],fun i e d h1 a=>?_⟩;by_cases g:i < o.length
 ·rw[jj g]at h1;rw[jj (h.1▸g)]at a;exact h.2 i e d h1 a
 ·have b:i=o.length:=by
   have:=(qh.1 h1).1;simp at this;omega
  subst b;rw[jq (qj _),qdo]at h1;rw[jq (by rw[h.1];exact qj _),h.1,qdo]at a;cases h1;cases a;exact c
theorem RowG.sl(h:RowG R G l o){t sz b a cap:Nat}(e:G b=some (.arr t sz (o.map encZ) a)):SlR G t sz (R G) (.slice false 0 b 0 sz l.length cap) l:=
 SlR.new e (by rw[qa];exact h.1) fun k x d=>by
  have c:k < o.length:=h.1▸(qh.1 d).1;exact⟨_,by rw[qu,qc c];rfl,h.2 k _ x (qc c) d⟩
theorem RowG.mono(e:∀{F b:Fz} {y:List SA} {x:α},R F y x->Fz.le F b->R b y x){c:Fz}(h:RowG R G l o)(a:Fz.le G c):RowG R c l o:=
 ⟨h.1,fun i z x h1 d=>e (h.2 i z x h1 d) a⟩
def mig10(zs:List Int)(i:Nat):Mig:=made9 (1+i) (2+i) (zs.getD (i*5) 0) (zs.getD (i*5+1) 0) (zs.getD (i*5+2) 0) (zs.getD (i*5+3) 0) (zs.getD (i*5+4) 0)
theorem RawAt.quint{b a:Nat}{zs:List Int}(h:RawAt F b a zs):∃B,∀k:Nat,k*5+4 < zs.length->F b=some B/\∀(p:Pl) (K:List SA->Prop),p.e*p.sz+p.o=a+k*5->
  K [.int .i64 (zs.getD (k*5) 0),.int .i64 (zs.getD (k*5+1) 0),.int .i64 (zs.getD (k*5+2) 0),.int .i64 (zs.getD (k*5+3) 0),.int .i64 (zs.getD (k*5+4) 0)]->rdB B p 5 K:=by
 obtain⟨B,f⟩:=h.rdO1;refine⟨B,fun k q=>⟨(f (k*5) oo).1,fun p K m l=>?_⟩⟩;refine RawB.rdN (i:=a+k*5) (zs:=[zs.getD (k*5) 0,zs.getD (k*5+1) 0,zs.getD (k*5+2) 0,zs.getD (k*5+3) 0,zs.getD (k*5+4) 0]) ss (fun j g=>?_) m l;have n:j < 5:=g;have c:=(f (k*5+j) oo).2;have e:∀i (d:i < zs.length),zs.getD i 0=zs[i]'d:=fun i d=>by simp[d]
 rcases j with _ | _ | _ | _ | _ | j
 ·show RawB B _ (zs.getD (k*5) 0);rw[e _ oo];exact c
 ·show RawB B _ (zs.getD (k*5+1) 0);rw[e _ oo];exact c
 ·show RawB B _ (zs.getD (k*5+2) 0);rw[e _ oo];exact c
 ·show RawB B _ (zs.getD (k*5+3) 0);rw[e _ oo];exact c
 ·show RawB B _ (zs.getD (k*5+4) 0);rw[e _ oo];exact c
 ·omega
theorem ip{k m o:Bool}{p f d q g e s j l x:Nat}{u w:Int}(h:0 < n):(Ent.one (.cells 27 (caseS k m o c p f d q g e s j i l x u w))).below n:=by
 intro a b;simp only[qi,qp,or_false]at b;rcases b with rfl | rfl | rfl | rfl | rfl
 ·exact .inr h
 ·exact .inr h
 ·trivial
 ·trivial
 ·exact .inr h
def dq(zs:List Int)(n:Nat):List Mig:=(List.range n).map (mig10 zs)
theorem DK(zs:List Int)(n:Nat):dq zs (n+1)=dq zs n++[mig10 zs n]:=by
 unfold dq;rw[qay,qq];rfl
theorem oK(zs:List Int)(n:Nat):(dq zs n).length=n:=by unfold dq;rw[qa,List.length_range]
def mkZ5(M:Mig)(a:SA)(h:a.z=true):ZC:=⟨migS M a,fun x b=>by
 simp only[qi,qp,or_false]at b;rcases b with rfl | rfl | rfl | rfl | rfl
 ·rfl
 ·rfl
 ·rfl
 ·rfl
 ·exact h⟩
theorem CX(F:Fz)(n1 n2 Z:Bool)(b1 o1 c1 b2 o2 c2 b3 o3 n c3:Nat)(L:List Stp)(X:List Q3)(r0 r1:Int)(zs:List Int)(h:CaseAt F n1 n2 Z b1 o1 b2 o2 b3 o3 n L X r0 r1 zs):
  Fo prog F 32 [.agg (caseS n1 n2 Z b1 o1 c1 b2 o2 c2 b3 o3 n c3 L.length X.length r0 r1)] (fun o u=>∃sm,o=.ret (.va sm)/\ns u sm (dq zs (min n 6))):=by
 have Y:=h.raw3;have ae:=h.nl3;have ah:=h.len
 have Q:∀i,i64 (zs.getD i 0):=fun i=>by
  rw[yp];by_cases g:i < zs.length
  ·rw[qc g];exact h.i3 _ (qt g)
  ·rw[qad oo];show i64 0;unfold i64;omega
 have hq:=Y.quint;obtain⟨B,hB⟩:=hq;have K:=fun(G:Fz) (k:Nat)=>Cv G (1+k) (2+k) (zs.getD (k*5) 0) (zs.getD (k*5+1) 0) (zs.getD (k*5+2) 0) (zs.getD (k*5+3) 0) (zs.getD (k*5+4) 0) ⟨Q _,Q _,Q _,Q _,Q _⟩
 have ai:=h.s3;clear h;refine foS func32 ?_;conv=>whnf
 refine aI hΘ (X:={ y:Nat×List ZC×Nat×Fz // Fz.le F y.2.2.2/\(y.1<=n/\y.1<=6)/\RowG MigR y.2.2.2 (dq zs y.1) y.2.1 }) (fun y=>[(3,.va (gA 5 2 y.1.2.2.1 y.1.2.1)),(4,.va (.int .i64 y.1.1))]) (jr 5 24 [])
  (fun y=>[(0,.frz y.1.2.2.2),(1,.one (.cells 27 (caseS n1 n2 Z b1 o1 c1 b2 o2 c2 b3 o3 n c3 L.length X.length r0 r1))),(2,gE 32 5 encZ y.1.2.2.1 y.1.2.1)]) 3 (fun y=>6 - y.1.1) ⟨(0,[],0,F),Fz.r F,by omega,rfl,fun i z x h1 _=>nomatch h1⟩
  (fun hH hT=>leI [(2,2)] hH hT rfl ⟨tv,ip oo,c7 aQ oo _ _ _ _,tv⟩ ⟨rfl,rfl,tv⟩ ⟨Fz.r F,rfl,rfl,tv⟩) ?_
 rintro⟨⟨k,o,co,G⟩,w,hk,c⟩ hH hT;replace w:Fz.le F G:=w;replace hk:k<=n/\k<=6:=hk;replace c:RowG MigR G (dq zs k) o:=c;by_cases g:k < n
 ·have S:(k:Int) < (n:Nat):=by omega
  by_cases g6:k < 6
  ·have I:(k:Int) < 6:=by omega
   have A:6 - (k+1) < 6 - k:=by omega
   have D:k < 4611686018427387904:=by omega
   have V:k+1<=n/\k+1<=6:=⟨g,g6⟩
   have af:Z=false:=by cases Z with | false=>rfl | true=>have:=ae rfl;omega
   have U:=hB k oo;have aa:=w _ _ U.1;have ag:(o3+(k:Int).toNat*5)*1+0=o3+k*5:=by rw[qg];omega
   have q:=K G k;have e1:SA.int .i64 (1+(k:Int))=SA.int .i64 (IntKind.i64.wrap (1+(k:Int))):=by rw[aF oo oo]
   have e2:SA.int .i64 (2+(k:Int))=SA.int .i64 (IntKind.i64.wrap (2+(k:Int))):=by rw[aF oo oo]
   have hM:∃M,made9 (1+k) (2+k) (zs.getD (k*5) 0) (zs.getD (k*5+1) 0) (zs.getD (k*5+2) 0) (zs.getD (k*5+3) 0) (zs.getD (k*5+4) 0)=M:=⟨_,rfl⟩
   have O:∀z:ZC,∀f:Fz,Fz.le G f->MigR f z.1 (mig10 zs k)->RowG MigR f (dq zs (k+1)) (o++[z]):=fun z f a Q=>by
    rw[DK];exact(RowG.mono (R:=MigR) (fun h l=>MigR.mono h l) c a).snoc Q
   have ad:mig10 zs k=made9 (1+k) (2+k) (zs.getD (k*5) 0) (zs.getD (k*5+1) 0) (zs.getD (k*5+2) 0) (zs.getD (k*5+3) 0) (zs.getD (k*5+4) 0):=rfl;obtain⟨M,hM⟩:=hM;rw[hM]at q;rw[ad,hM]at O;have p:o.length=k:=c.1.trans (oK zs k);rcases o with _ | ⟨T,e⟩
   all_goals
    refine⟨fun _=>?_,fun h=>absurd S (oe h)⟩;refine bri I ⟨af,⟨by omega,S⟩,_,aa,?_⟩;refine U.2 _ _ ag ?_;refine useFo q rfl ⟨e1,e2,rfl,tv⟩ rfl ?_;rintro _ f l2 ⟨sk,rfl,W⟩;have E:=W;obtain⟨kn,kb,ke,kc,kL,kr,rfl,-,-,-,-⟩:=W;refine⟨nb rfl,[migS M (.slice kn 0 kb ke 2 M.keep.length kc)],rfl,?_⟩;conv=>whnf
    first
    |refine⟨rfl,rfl,by show 1*56<=140737488355328;omega,fun c' ab=>?_⟩
    |refine⟨rfl,rfl,by simp,rfl,by show(e.length+1+1)*56<=140737488355328;have h9:e.length+1=k:=p;omega,fun c' ab=>?_⟩
    conv=>whnf
    first
    |exact⟨⟨(k+1,[]++[mkZ5 M (.slice kn 0 kb ke 2 M.keep.length kc) rfl],c',f),Fz.t w l2,V,O _ f l2 ⟨_,rfl,E⟩⟩,A,leR [(2,4)] hH hT rfl ⟨tv,ip oo,c7 aQ oo _ _ _ _,tv⟩ ⟨by(conv=>whnf);exact⟨rfl,rfl,rfl,.inr ⟨rfl,rfl,rfl,rfl⟩⟩,cnt D,tv⟩ ⟨Fz.r f,rfl,ej (μ:=sig [(2,4)]) aQ (fun k=>rfl) (bC _ (by rw[qq];rfl)),tv⟩⟩
    |exact⟨⟨(k+1,(T::e)++[mkZ5 M (.slice kn 0 kb ke 2 M.keep.length kc) rfl],c',f),Fz.t w l2,V,O _ f l2 ⟨_,rfl,E⟩⟩,A,leR [(2,4)] hH hT rfl ⟨tv,ip oo,c7 aQ oo _ _ _ _,tv⟩ ⟨cO (μ:=sig [(2,4)]) (i:=2) (j:=4) rfl 5 c' _ (T::e) (mkZ5 M (.slice kn 0 kb ke 2 M.keep.length kc) rfl) rfl,cnt D,tv⟩ ⟨Fz.r f,rfl,ej (μ:=sig [(2,4)]) aQ (fun k=>rfl) (bC _ (by rw[qq];rfl)),tv⟩⟩
  ·have I:¬(k:Int) < 6:=by omega
   have s:min n 6=k:=by omega
   have d:RowG MigR G (dq zs (min n 6)) o:=by rw[s];exact c
   have p:(dq zs (min n 6)).length=o.length:=d.1.symm;have m:=fun(f:Fz) (a:Fz.le G f) (b:Nat) (hb:f b=some (.arr 32 5 (o.map encZ) co))=>(RowG.mono (R:=MigR) (fun h l=>MigR.mono h l) d a).sl (cap:=co) hb
   rw[p]at m;rcases o with _ | ⟨T,e⟩
   ·have:=c.1;rw[oK]at this;simp at this;omega
   ·refine⟨fun _=>?_,fun h=>absurd S (oe h)⟩;refine brj I ?_;refine cu 2 (fun _=>.arr 32 5 ((T::e).map encZ) co) rfl rfl rfl (fun _ _=>by exact dW (μ:=resP _) aQ (fun k=>rfl) rfl _ _ _) (fun _ _=>dZ aQ oo _ _ _ _) ?_;intro b' u a J;exact endFo (.ret (.va (.slice false 0 (b' 0) 0 5 (e.length+1) co))) u rfl (Fz.t w a) (Fz.r u) ⟨_,rfl,m u a _ (J 0 ⟨rfl,rfl⟩)⟩ ⟨rfl,rfl,rfl,.inr ⟨rfl,rfl,rfl,rfl⟩⟩ rfl
 ·have S:¬(k:Int) < (n:Nat):=by omega
  have s:min n 6=k:=by omega
  have d:RowG MigR G (dq zs (min n 6)) o:=by rw[s];exact c
  have p:(dq zs (min n 6)).length=o.length:=d.1.symm;have m:=fun(f:Fz) (a:Fz.le G f) (b:Nat) (hb:f b=some (.arr 32 5 (o.map encZ) co))=>(RowG.mono (R:=MigR) (fun h l=>MigR.mono h l) d a).sl (cap:=co) hb
  rw[p]at m;rcases o with _ | ⟨T,e⟩
  ·have ac:ns G (.slice true 0 0 0 5 0 0) (dq zs (min n 6)):=by rw[q5 p];exact SlR.nil
   refine⟨fun h=>absurd (od h) S,fun _=>?_⟩;exact endFo (.ret (.va (.slice true 0 0 0 5 0 0))) G rfl w (Fz.r G) ⟨_,rfl,ac⟩ ⟨rfl,rfl,rfl⟩ rfl
  ·refine⟨fun h=>absurd (od h) S,fun _=>?_⟩;refine cu 2 (fun _=>.arr 32 5 ((T::e).map encZ) co) rfl rfl rfl (fun _ _=>by exact dW (μ:=resP _) aQ (fun k=>rfl) rfl _ _ _) (fun _ _=>dZ aQ oo _ _ _ _) ?_;intro b' u a J;exact endFo (.ret (.va (.slice false 0 (b' 0) 0 5 (e.length+1) co))) u rfl (Fz.t w a) (Fz.r u) ⟨_,rfl,m u a _ (J 0 ⟨rfl,rfl⟩)⟩ ⟨rfl,rfl,rfl,.inr ⟨rfl,rfl,rfl,rfl⟩⟩ rfl
