import Derived.Test.YtfnkamphhpldcaaGreatDoorK35
import Derived.Test.YtfnkamphhpldcaaGreatDoorK33
import Derived.Test.YtfnkamphhpldcaaGreatDoorK44
set_option maxHeartbeats 64000000
namespace Go.Proofs.YtfnkamphhpldcaaGreatDoor
open Go Sx Tryz
set_option maxRecDepth 100000
structure RCl where
 p:Int
 a:SA
 st:List Stp
instance:Inhabited RCl:=⟨⟨0,.nilsl,[]⟩⟩
def rclS(x:RCl):List SA:=[.int .i64 x.p,x.a]
def RawSt(F:Fz)(b off:Nat)(a:List Stp):Prop:=∀n,0 < n->n<=a.length->∃B,F b=some B/\rdB B ⟨0,b,off,1,0⟩ (n*2) fun xs=>xs=((a.take n).map enc).flatten
variable {F:Fz}{off:Nat}
theorem RawSt.mono{c:Fz}{b:Nat}{l:List Stp}(h:RawSt F b off l)(a:Fz.le F c):RawSt c b off l:=fun n h1 d=>by
 obtain⟨B,e,f⟩:=h n h1 d;exact⟨B,a _ _ e,f⟩
def RSt(F:Fz)(a:SA)(f:List Stp):Prop:=(∃d,a=.odd d/\f=[])\/∃g b e c,a=.slice g 0 b e 1 f.length c/\(g=true->f=[])/\f.length<=c/\RawSt F b e f
theorem RSt.mono{f:Fz}{a:SA}{l:List Stp}(h:RSt F a l)(d:Fz.le F f):RSt f a l:=by
 rcases h with h | ⟨k,b,e,c,h1,g,i,j⟩
 ·exact .inl h
 ·exact .inr ⟨k,b,e,c,h1,g,i,j.mono d⟩
def fX(F:Fz)(b off:Nat)(a:List RCl):Prop:=∃B,∀k (h:k < a.length),F b=some B/\∀(p:Pl) (K:List SA->Prop),p.e*p.sz+p.o=off+k*2->K (rclS (a[k]'h))->rdB B p 2 K
theorem fX.mono{c:Fz}{b:Nat}{d:List RCl}(h:fX F b off d)(a:Fz.le F c):fX c b off d:=by
 obtain⟨B,e⟩:=h;exact⟨B,fun k h=>⟨a _ _ (e k h).1,(e k h).2⟩⟩
theorem su{cs:Array Value}{t:TypeId}{fr:Nat×Nat}{xs:List SA}(b:0 < xs.length)(d:∀a∈xs,a.below 1)(h:∀ρ:Rho,(∀k,ρ 0 k=k)->∀j,j < xs.length->cs[off+j]? =(xs.map (SA.den ρ))[j]?):RdO (.cells cs t fr) off xs.length xs:=by
 refine⟨rfl,d,fun ρ e=>⟨t,fr,cs.toList.take off,cs.toList.drop (off+xs.length),?_,?_⟩⟩
 ·congr 1
  apply qci.1;show cs.toList=_
  have f:((cs.toList.drop off).take xs.length)=xs.map (SA.den ρ):=by
   apply qbc;intro j;rw[qc1,yz];by_cases g:j < xs.length
   ·rw[if_pos g,qdr,h ρ e j g]
   ·rw[if_neg g,qam (by simp;omega)]
  rw[<-f,<-qbg,qj,yl,yl]
 ·have c:=h (fun _ k=>k) (fun _=>rfl) 0 b;rw[qt,qc b]at c;have:=(jk.1 c).1;rw[qk,qcv];omega
def fewC(cs a:List UInt8)(c:Int)(b:List RCl):Crt:=⟨cs,a,c,(b.take 9).map fun x=>(x.p,x.st.take 66)⟩
abbrev m66(n:Nat):Nat:=(if(66:Int) < (n:Nat)then(66:Int)else(n:Nat)).toNat - 0
theorem nq(n:Nat):m66 n=min n 66:=by
 show(if(66:Int) < (n:Nat)then(66:Int)else(n:Nat)).toNat - 0=_;split<;>omega
theorem yd3{α:Type}(l:List α):l.take (m66 l.length)=l.take 66:=by
 rw[nq];by_cases h:l.length<=66
 ·rw[qaq h,yp,ql h]
 ·rw[Nat.min_eq_right oo]
theorem raw66{b c:Nat}{a:List Stp}(h:RawSt F b off a):m66 a.length=0\/∃B,F b=some B/\rdB B ⟨0,b,if c=0 then off else off+0*2,1,0⟩ (m66 a.length*2) fun xs=>xs=((a.take 66).map enc).flatten:=by
 by_cases d:m66 a.length=0
 ·exact .inl d
 ·rw[show(if c=0 then off else off+0*2)=off by split<;>simp,<-yd3 a];exact .inr (h _ oo (by rw[nq];exact Nat.min_le_left _ _))
def fewF(x:RCl):Kp:=(x.p,x.st.take 66)
theorem r5{G:Fz}{K:Out->Fz->Prop}{cs a:List UInt8}{b:Int}{h:Hp}{nx:Nat}(d:lget h 0=some (.frz G))(c:Fz.le F G)(e:K (.ret (.agg [.str cs,.str a,.int .i64 b,.slice true 0 0 0 2 0 0])) G):Cln 1 (FoK F K) (.ret (.agg [.str cs,.str a,.int .i64 b,.nilsl])) h nx:=by
 have f:resP h 0 0=(0,0):=by simp only[resP,d]
 refine relE (.ret (.agg [.str cs,.str a,.int .i64 b,.slice true 0 0 0 2 0 0])) (fun ρ x h=>h) (fun _=>by simp[Out.below,SV.below,SA.below]) (endFo (.ret (.agg [.str cs,.str a,.int .i64 b,.slice true 0 0 0 2 0 0])) G d c (Fz.r G) e ?_ rfl);show outE _ (.ret (.agg [.str cs,.str a,.int .i64 b,.slice true (resP h 0 0).1 (resP h 0 0).2 0 2 0 0]));rw[f];exact aP _
theorem yal(F:Fz)(cs cd:List UInt8)(cn:Int)(nl:Bool)(b e cap:Nat)(s:List RCl)(ax:nl=true->s=[])(aw:fX F b e s)(a0:∀x∈s,RSt F x.a x.st):
  Fo prog F 18 [.agg [.str cs,.str cd,.int .i64 cn,.slice nl 0 b e 1 s.length cap]] (fun o F'=>∃sk,o=.ret (.agg (crtS (fewC cs cd cn s) sk))/\ClsAt F' sk (fewC cs cd cn s).cl):=by
 obtain⟨B,hB⟩:=aw;show Fo prog F 18 [.agg [.str cs,.str cd,.int .i64 cn,.slice nl 0 b e 1 s.length cap]] (fun o F'=>∃sk,o=.ret (.agg [.str cs,.str cd,.int .i64 cn,sk])/\ClsAt F' sk ((s.take 9).map fewF))
 have cE:∀n,0 < n->(Ent.one (.cells 48 [.str cs,.str cd,.int .i64 cn,.slice nl 0 b e 1 s.length cap])).below n:=fun n hn a ha=>by
  simp only[qh,qq,or_false]at ha;rcases ha with rfl | rfl | rfl | rfl
  ·trivial
  ·trivial
  ·trivial
  ·exact .inr hn
 refine foS func18 ?_;conv=>whnf
 refine mf hΘ (X:={ y:Nat×List ZC×Nat×Fz // (y.1<=s.length/\y.1<=9)/\Fz.le F y.2.2.2/\RowL y.2.2.2 ((s.take y.1).map fewF) y.2.1 }) (fun y=>[(3,.va (gA 2 3 y.1.2.2.1 y.1.2.1)),(4,.va (.int .i64 y.1.1))]) (jr 5 31 [])
  (fun y=>[(0,.frz y.1.2.2.2),(1,.one (.cells 48 [.str cs,.str cd,.int .i64 cn,.slice nl 0 b e 1 s.length cap])),(3,gE 52 2 encZ y.1.2.2.1 y.1.2.1)]) 4 (fun y=>9 - y.1.1) ⟨(0,[],0,F),by omega,Fz.r _,RowL.nil⟩
  (fun hH hT=>leI [(3,3)] hH hT rfl ⟨tv,cE _ oo,bP aD oo _ _ _ _,tv⟩ ⟨rfl,rfl,tv⟩ ⟨Fz.r F,rfl,rfl,tv⟩) ?_
 rintro⟨⟨k,o,co,G⟩,hk,Y,u⟩ hH hT;replace hk:k<=s.length/\k<=9:=hk;replace Y:Fz.le F G:=Y;replace u:RowL G ((s.take k).map fewF) o:=u;have a2:o.length=k:=by have:=u.1;rw[qa,qk]at this;omega
 by_cases g:k < s.length
 ·have U:(k:Int) < (s.length:Int):=by omega
  by_cases g9:k < 9
  ·have Q:(k:Int) < 9:=by omega
   have M:9 - (k+1) < 9 - k:=by omega
   have O:k < 4611686018427387904:=by omega
   have ab:k+1<=s.length/\k+1<=9:=⟨g,g9⟩
   have ac:nl=false:=by cases nl with | false=>rfl | true=>have:=ax rfl;subst this;simp at g
   have L:=hB k g;have aa:=Y _ _ L.1;have ad:(e+(k:Int).toNat*2)*1+0=e+k*2:=by rw[qn];omega
   have hR:=(a0 (s[k]'g) (qx g)).mono Y;have A:(s.take k).map fewF++[fewF (s[k]'g)]=(s.take (k+1)).map fewF:=by rw[qf g,qo];rfl
   have hx:∃x,s[k]'g=x:=⟨_,rfl⟩
   obtain⟨x,hx⟩:=hx;rw[hx]at L hR A;obtain⟨p,a,J⟩:=x;replace L:F b=some B/\∀(pl:Pl) (K:List SA->Prop),pl.e*pl.sz+pl.o=e+k*2->K [.int .i64 p,a]->rdB B pl 2 K:=L;replace hR:RSt G a J:=hR;replace A:(s.take k).map fewF++[(p,J.take 66)]=(s.take (k+1)).map fewF:=A;have aj:o.length<=9:=by omega
   have an:(0+((J.take 66).map enc).length)*16<=140737488355328:=by rw[qa,qk];omega
   have al:∀n,n<=9->(n+1)*32<=140737488355328:=fun n hn=>by omega
   have ak:1*32<=140737488355328:=by decide
   have Z:(0+(([]:List Stp).map enc).length)*16<=140737488355328:=by decide
   rcases hR with⟨d,rfl,rfl⟩ | ⟨a1,sb,se,sc,rfl,az,a3,au⟩
   ·replace A:(s.take k).map fewF++[(p,([]:List Stp))]=(s.take (k+1)).map fewF:=A;rcases o with _ | ⟨T,q⟩
    ·refine⟨fun _=>?_,fun h=>absurd U (oe h)⟩;refine bri Q ⟨ac,⟨by omega,U⟩,_,aa,?_⟩;refine L.2 _ _ ad ?_;refine⟨⟨by decide,by decide⟩,rfl,rfl,rfl,Z,fun m af=>?_⟩;refine⟨nb rfl,[[.int .i64 p,.slice false 6 0 0 2 (0+(([]:List Stp).map enc).length) m]],rfl,rfl,rfl,ak,fun c' ae=>?_⟩;refine eO 6 (fun _=>.arr 56 2 (([]:List Stp).map enc) m) rfl rfl rfl (fun _ _=>rfl) (fun _ _=>eP _ _) ?_;intro w G6 W I;refine eJ 8 _ rfl (fh (fun _=>rfl) (i:=6) (z:=w 0) rfl ([]:List ZC) p (0+(([]:List Stp).map enc).length) m c') (eQ (show 0 < 9 by decide) ([]:List ZC) (mkZ p (.slice false 0 (w 0) 0 2 _ m) rfl) _) ?_;have D:=ig (p:=p) (I 0 rfl);have f:=(u.mono W).snoc (z:=mkZ p (.slice false 0 (w 0) 0 2 (0+(([]:List Stp).map enc).length) m) rfl) D;rw[A]at f;exact dT ⟨⟨(k+1,([]:List ZC)++[mkZ p (.slice false 0 (w 0) 0 2 (0+(([]:List Stp).map enc).length) m) rfl],c',G6),ab,Fz.t Y W,f⟩,M,leR [(3,8)] hH hT rfl ⟨tv,cE _ oo,bP aD oo _ _ _ _,tv⟩ ⟨by(conv=>whnf);exact⟨rfl,rfl,rfl,.inr ⟨rfl,rfl,rfl,rfl⟩⟩,cnt O,tv⟩ ⟨Fz.r _,rfl,cQ (μ:=sig [(3,8)]) aD (fun k=>rfl) (aZ _ (by rw[qo];rfl)),tv⟩⟩
    ·refine⟨fun _=>?_,fun h=>absurd U (oe h)⟩;refine bri Q ⟨ac,⟨by omega,U⟩,_,aa,?_⟩;refine L.2 _ _ ad ?_;refine⟨⟨by decide,by decide⟩,rfl,rfl,rfl,Z,fun m af=>?_⟩;refine⟨nb rfl,[[.int .i64 p,.slice false 6 0 0 2 (0+(([]:List Stp).map enc).length) m]],rfl,rfl,rfl,by simp,rfl,al _ aj,fun c' ae=>?_⟩;refine eO 6 (fun _=>.arr 56 2 (([]:List Stp).map enc) m) rfl rfl rfl (fun _ _=>rfl) (fun _ _=>eP _ _) ?_;intro w G6 W I;refine eJ 8 _ rfl (fh (fun _=>rfl) (i:=6) (z:=w 0) rfl (T::q) p (0+(([]:List Stp).map enc).length) m c') (eQ (show 0 < 9 by decide) (T::q) (mkZ p (.slice false 0 (w 0) 0 2 _ m) rfl) _) ?_;have D:=ig (p:=p) (I 0 rfl);have f:=(u.mono W).snoc (z:=mkZ p (.slice false 0 (w 0) 0 2 (0+(([]:List Stp).map enc).length) m) rfl) D;rw[A]at f;exact dT ⟨⟨(k+1,(T::q)++[mkZ p (.slice false 0 (w 0) 0 2 (0+(([]:List Stp).map enc).length) m) rfl],c',G6),ab,Fz.t Y W,f⟩,M,leR [(3,8)] hH hT rfl ⟨tv,cE _ oo,bP aD oo _ _ _ _,tv⟩ ⟨ed (μ:=sig [(3,8)]) (i:=3) (j:=8) rfl 2 c' _ (T::q) (mkZ p (.slice false 0 (w 0) 0 2 (0+(([]:List Stp).map enc).length) m) rfl) rfl,cnt O,tv⟩ ⟨Fz.r _,rfl,cQ (μ:=sig [(3,8)]) aD (fun k=>rfl) (aZ _ (by rw[qo];rfl)),tv⟩⟩
   ·have am:(0<=if(66:Int) < J.length then 66 else(J.length:Int))/\(if(66:Int) < J.length then 66 else(J.length:Int))<=(sc:Nat):=by split<;>omega
    rcases a1 with _ | _
    rotate_left
    ·have ay:=az rfl;subst ay;replace A:(s.take k).map fewF++[(p,([]:List Stp))]=(s.take (k+1)).map fewF:=A;have ap:(if(66:Int) < (([]:List Stp).length:Nat)then 66 else((([]:List Stp).length:Nat):Int)).toNat - 0=0:=rfl;rcases o with _ | ⟨T,q⟩
     ·refine⟨fun _=>?_,fun h=>absurd U (oe h)⟩;refine bri Q ⟨ac,⟨by omega,U⟩,_,aa,?_⟩;refine L.2 _ _ ad ?_;refine⟨am,ap,rfl,rfl,rfl,Z,fun m af=>?_⟩;refine⟨nb rfl,[[.int .i64 p,.slice false 6 0 0 2 (0+(([]:List Stp).map enc).length) m]],rfl,rfl,rfl,ak,fun c' ae=>?_⟩;refine eO 6 (fun _=>.arr 56 2 (([]:List Stp).map enc) m) rfl rfl rfl (fun _ _=>rfl) (fun _ _=>eP _ _) ?_;intro w G6 W I;refine eJ 8 _ rfl (fh (fun _=>rfl) (i:=6) (z:=w 0) rfl ([]:List ZC) p (0+(([]:List Stp).map enc).length) m c') (eQ (show 0 < 9 by decide) ([]:List ZC) (mkZ p (.slice false 0 (w 0) 0 2 _ m) rfl) _) ?_;have D:=ig (p:=p) (I 0 rfl);have f:=(u.mono W).snoc (z:=mkZ p (.slice false 0 (w 0) 0 2 (0+(([]:List Stp).map enc).length) m) rfl) D;rw[A]at f;exact dT ⟨⟨(k+1,([]:List ZC)++[mkZ p (.slice false 0 (w 0) 0 2 (0+(([]:List Stp).map enc).length) m) rfl],c',G6),ab,Fz.t Y W,f⟩,M,leR [(3,8)] hH hT rfl ⟨tv,cE _ oo,bP aD oo _ _ _ _,tv⟩ ⟨by(conv=>whnf);exact⟨rfl,rfl,rfl,.inr ⟨rfl,rfl,rfl,rfl⟩⟩,cnt O,tv⟩ ⟨Fz.r _,rfl,cQ (μ:=sig [(3,8)]) aD (fun k=>rfl) (aZ _ (by rw[qo];rfl)),tv⟩⟩
     ·refine⟨fun _=>?_,fun h=>absurd U (oe h)⟩;refine bri Q ⟨ac,⟨by omega,U⟩,_,aa,?_⟩;refine L.2 _ _ ad ?_;refine⟨am,ap,rfl,rfl,rfl,Z,fun m af=>?_⟩;refine⟨nb rfl,[[.int .i64 p,.slice false 6 0 0 2 (0+(([]:List Stp).map enc).length) m]],rfl,rfl,rfl,by simp,rfl,al _ aj,fun c' ae=>?_⟩;refine eO 6 (fun _=>.arr 56 2 (([]:List Stp).map enc) m) rfl rfl rfl (fun _ _=>rfl) (fun _ _=>eP _ _) ?_;intro w G6 W I;refine eJ 8 _ rfl (fh (fun _=>rfl) (i:=6) (z:=w 0) rfl (T::q) p (0+(([]:List Stp).map enc).length) m c') (eQ (show 0 < 9 by decide) (T::q) (mkZ p (.slice false 0 (w 0) 0 2 _ m) rfl) _) ?_;have D:=ig (p:=p) (I 0 rfl);have f:=(u.mono W).snoc (z:=mkZ p (.slice false 0 (w 0) 0 2 (0+(([]:List Stp).map enc).length) m) rfl) D;rw[A]at f;exact dT ⟨⟨(k+1,(T::q)++[mkZ p (.slice false 0 (w 0) 0 2 (0+(([]:List Stp).map enc).length) m) rfl],c',G6),ab,Fz.t Y W,f⟩,M,leR [(3,8)] hH hT rfl ⟨tv,cE _ oo,bP aD oo _ _ _ _,tv⟩ ⟨ed (μ:=sig [(3,8)]) (i:=3) (j:=8) rfl 2 c' _ (T::q) (mkZ p (.slice false 0 (w 0) 0 2 (0+(([]:List Stp).map enc).length) m) rfl) rfl,cnt O,tv⟩ ⟨Fz.r _,rfl,cQ (μ:=sig [(3,8)]) aD (fun k=>rfl) (aZ _ (by rw[qo];rfl)),tv⟩⟩
    ·have ar:((J.take 66).map enc).length=m66 J.length:=by rw[qa,qk,nq];omega
     have aq:∀x∈(J.take 66).map enc,x.length=2:=fun x hx=>by obtain⟨y,_,rfl⟩:=qz.1 hx;rfl
     have av:=raw66 (c:=sc) au;rcases o with _ | ⟨T,q⟩
     ·refine⟨fun _=>?_,fun h=>absurd U (oe h)⟩;refine bri Q ⟨ac,⟨by omega,U⟩,_,aa,?_⟩;refine L.2 _ _ ad ?_;refine⟨am,(J.take 66).map enc,ar,aq,av,rfl,rfl,rfl,an,fun m af=>?_⟩;refine⟨nb rfl,[[.int .i64 p,.slice false 6 0 0 2 (0+((J.take 66).map enc).length) m]],rfl,rfl,rfl,ak,fun c' ae=>?_⟩;refine eO 6 (fun _=>.arr 56 2 ((J.take 66).map enc) m) rfl rfl rfl (fun _ _=>gM _ _ _) (fun _ _=>eP _ _) ?_;intro w G6 W I;refine eJ 8 _ rfl (fh (fun _=>rfl) (i:=6) (z:=w 0) rfl ([]:List ZC) p (0+((J.take 66).map enc).length) m c') (eQ (show 0 < 9 by decide) ([]:List ZC) (mkZ p (.slice false 0 (w 0) 0 2 _ m) rfl) _) ?_;have D:=ig (p:=p) (I 0 rfl);have f:=(u.mono W).snoc (z:=mkZ p (.slice false 0 (w 0) 0 2 (0+((J.take 66).map enc).length) m) rfl) D;rw[A]at f;exact dT ⟨⟨(k+1,([]:List ZC)++[mkZ p (.slice false 0 (w 0) 0 2 (0+((J.take 66).map enc).length) m) rfl],c',G6),ab,Fz.t Y W,f⟩,M,leR [(3,8)] hH hT rfl ⟨tv,cE _ oo,bP aD oo _ _ _ _,tv⟩ ⟨by(conv=>whnf);exact⟨rfl,rfl,rfl,.inr ⟨rfl,rfl,rfl,rfl⟩⟩,cnt O,tv⟩ ⟨Fz.r _,rfl,cQ (μ:=sig [(3,8)]) aD (fun k=>rfl) (aZ _ (by rw[qo];rfl)),tv⟩⟩
     ·refine⟨fun _=>?_,fun h=>absurd U (oe h)⟩;refine bri Q ⟨ac,⟨by omega,U⟩,_,aa,?_⟩;refine L.2 _ _ ad ?_;refine⟨am,(J.take 66).map enc,ar,aq,av,rfl,rfl,rfl,an,fun m af=>?_⟩;refine⟨nb rfl,[[.int .i64 p,.slice false 6 0 0 2 (0+((J.take 66).map enc).length) m]],rfl,rfl,rfl,by simp,rfl,al _ aj,fun c' ae=>?_⟩;refine eO 6 (fun _=>.arr 56 2 ((J.take 66).map enc) m) rfl rfl rfl (fun _ _=>gM _ _ _) (fun _ _=>eP _ _) ?_;intro w G6 W I;refine eJ 8 _ rfl (fh (fun _=>rfl) (i:=6) (z:=w 0) rfl (T::q) p (0+((J.take 66).map enc).length) m c') (eQ (show 0 < 9 by decide) (T::q) (mkZ p (.slice false 0 (w 0) 0 2 _ m) rfl) _) ?_;have D:=ig (p:=p) (I 0 rfl);have f:=(u.mono W).snoc (z:=mkZ p (.slice false 0 (w 0) 0 2 (0+((J.take 66).map enc).length) m) rfl) D;rw[A]at f;exact dT ⟨⟨(k+1,(T::q)++[mkZ p (.slice false 0 (w 0) 0 2 (0+((J.take 66).map enc).length) m) rfl],c',G6),ab,Fz.t Y W,f⟩,M,leR [(3,8)] hH hT rfl ⟨tv,cE _ oo,bP aD oo _ _ _ _,tv⟩ ⟨ed (μ:=sig [(3,8)]) (i:=3) (j:=8) rfl 2 c' _ (T::q) (mkZ p (.slice false 0 (w 0) 0 2 (0+((J.take 66).map enc).length) m) rfl) rfl,cnt O,tv⟩ ⟨Fz.r _,rfl,cQ (μ:=sig [(3,8)]) aD (fun k=>rfl) (aZ _ (by rw[qo];rfl)),tv⟩⟩
  ·have Q:¬(k:Int) < 9:=by omega
   have ag:s.take k=s.take 9:=by rw[show k=9 by omega]
   have E:RowL G ((s.take 9).map fewF) o:=by rw[<-ag];exact u
   have ai:((s.take 9).map fewF).length=o.length:=E.1.symm;have V:=fun(G2:Fz) (S:Fz.le G G2) (b:Nat) (hb:G2 b=some (.arr 52 2 (o.map encZ) co))=>RowG.sl (R:=KpR) (cap:=co) (RowG.mono (R:=KpR) (fun h l=>h.mono l) E S) hb
   rw[ai]at V;rcases o with _ | ⟨T,q⟩
   ·have ah:(s.take 9).map fewF=[]:=ji ai;rw[ah];refine⟨fun _=>?_,fun h=>absurd U (oe h)⟩;refine brj Q ?_;exact r5 rfl Y ⟨_,rfl,SlR.nil⟩
   ·refine⟨fun _=>?_,fun h=>absurd U (oe h)⟩;refine brj Q ?_;refine cD 3 (fun _=>.arr 52 2 ((T::q).map encZ) co) rfl rfl rfl (fun _ _=>by exact dt (μ:=resP _) aD (fun k=>rfl) rfl _ _ _) (fun _ _=>dv aD oo _ _ _ _) ?_;intro b' F' S ao;exact endFs (.ret (.agg [.str cs,.str cd,.int .i64 cn,.slice false 0 (b' 0) 0 2 (q.length+1) co])) (Fz.t Y S) ⟨_,rfl,V F' S _ (ao 0 ⟨rfl,rfl⟩)⟩
 ·have U:¬(k:Int) < (s.length:Int):=by omega
  have ag:s.take k=s.take 9:=by rw[ql oo,ql oo]
  have E:RowL G ((s.take 9).map fewF) o:=by rw[<-ag];exact u
  have ai:((s.take 9).map fewF).length=o.length:=E.1.symm;have V:=fun(G2:Fz) (S:Fz.le G G2) (b:Nat) (hb:G2 b=some (.arr 52 2 (o.map encZ) co))=>RowG.sl (R:=KpR) (cap:=co) (RowG.mono (R:=KpR) (fun h l=>h.mono l) E S) hb
  rw[ai]at V;rcases o with _ | ⟨T,q⟩
  ·have ah:(s.take 9).map fewF=[]:=ji ai;rw[ah];refine⟨fun h=>absurd (od h) U,fun _=>?_⟩;exact r5 rfl Y ⟨_,rfl,SlR.nil⟩
  ·refine⟨fun h=>absurd (od h) U,fun _=>?_⟩;refine cD 3 (fun _=>.arr 52 2 ((T::q).map encZ) co) rfl rfl rfl (fun _ _=>by exact dt (μ:=resP _) aD (fun k=>rfl) rfl _ _ _) (fun _ _=>dv aD oo _ _ _ _) ?_;intro b' F' S ao;exact endFs (.ret (.agg [.str cs,.str cd,.int .i64 cn,.slice false 0 (b' 0) 0 2 (q.length+1) co])) (Fz.t Y S) ⟨_,rfl,V F' S _ (ao 0 ⟨rfl,rfl⟩)⟩
theorem EX{I:Bool}{b e cap:Nat}{l:List Crt}(h:mX F (.slice I 0 b e 4 l.length cap) l)(Q:I=false):∃(L:List (List SA)) (c:Nat) (o:List ZC),F b=some (.arr 48 4 L c)/\e+l.length<=L.length/\(L.drop e).take l.length=o.map encZ/\RowG CrtR F l o:=by
 obtain⟨R,U,e',B,L,c,h1,p,J,K,O⟩:=h;simp only[SA.slice.injEq]at h1;obtain⟨rfl,-,rfl,rfl,-,-,rfl⟩:=h1
 have A:∀(n:List Crt) (M:List (List SA)),(∀(k:Nat) x,n[k]? =some x->∃y,M[k]? =some y/\CrtR F y x)->∃o:List ZC,M.take n.length=o.map encZ/\RowG CrtR F n o:=by
  intro n
  induction n with
  |nil=>intro M _;exact⟨[],by simp,rfl,fun i z x h=>nomatch h⟩
  |cons k r ih=>
   intro M D;obtain⟨y,s,q⟩:=D 0 k rfl;cases M with
   |nil=>simp at s
   |cons m M'=>
    have w:m=y:=by simpa using s
    subst w
    obtain⟨o,d,f,u⟩:=ih M' (fun i x g=>by
     obtain⟨y,h1,p⟩:=D (i+1) x (by simpa using g);exact⟨y,by simpa using h1,p⟩)
    have G:∀a∈m,a.z=true:=by
     obtain⟨sk,rfl,S,V,X,W,T,Y,rfl,-⟩:=q;intro a E;simp only[qh,qq,or_false]at E;rcases E with rfl | rfl | rfl | rfl<;>rfl
    refine⟨⟨m,G⟩::o,?_,by simp[f],?_⟩
    ·rw[qe,qdy,d];rfl
    ·intro i z x j g;cases i with
     |zero=>
      have h1:(⟨m,G⟩:ZC)=z:=by simpa using j
      have p:k=x:=by simpa using g
      subst h1 p;exact q
     |succ i=>exact u i z x (by simpa using j) (by simpa using g)
 obtain⟨o,d,f⟩:=A l (L.drop e) (fun k x g=>by
  obtain⟨y,s,q⟩:=O k x g;exact⟨y,by rw[yz];exact s,q⟩)
 exact⟨L,c,o,J Q,K,d,f⟩
theorem RowG.cons{α:Type}{R:Fz->List SA->α->Prop}{G:Fz}{l:List α}{o:List ZC}(h:RowG R G l o){x:α}{z:ZC}(b:R G z.1 x):RowG R G (x::l) (z::o):=
 ⟨by simp[h.1],fun i d c h1 a=>by
  cases i with
  |zero=>cases h1;cases a;exact b
  |succ i=>exact h.2 i d c (by simpa using h1) (by simpa using a)⟩
theorem RowG.at{G:Fz}{l:List Crt}{o:List ZC}(h:RowG CrtR G l o){k:Nat}(g:k < l.length):∃sk,(o.map encZ)[0+(k:Int).toNat]? =some (crtS (l[k]'g) sk)/\ClsAt G sk (l[k]'g).cl:=by
 have a:k < o.length:=h.1▸g;obtain⟨sk,e,b⟩:=h.2 k _ _ (qc a) (qc g);refine⟨sk,?_,b⟩;rw[q9,qn,qt,qc a,<-e];rfl
theorem ny(F:Fz){b c:SA}(a:Crt)(f:ClsAt F b a.cl)(g:ClsAt F c a.cl)(d:CrtSm a):
  Fo prog F 28 [.agg (crtS a b),.agg (crtS a c)] (fun o e=>o=.ret (.va (.lit true))/\e=F):=by
 have h:=zN F b c a a f g d.s d.l;rw[show gW a a=true by simp[gW]]at h;exact fk h
theorem fQ:Plain encS:=fun x=>⟨fun μ=>rfl,fun a b=>by
 obtain rfl:=qs.1 b;trivial⟩
theorem AY{c:Crt}(a:crtOk c=true):0 < (encC c).length:=by
 simp only[crtOk,qd,decide_eq_true_eq]at a;have h1:(putSR c.src).1=putI c.src.length++c.src:=by rw[putSR,if_neg oo]
 rw[encC,h1];simp only[qb];omega
theorem yak(cs b:List UInt8)(c:Int)(a:List RCl):CrtSm (fewC cs b c a):=by
 refine⟨fun x d=>?_,?_⟩
 ·obtain⟨y,_,rfl⟩:=qz.1 d;show(y.st.take 66).length < 1000000;rw[qk];omega
 ·show((a.take 9).map _).length < 1000000;rw[qa,qk];omega
def chg(s:List UInt8)(k:Nat)(b:UInt8):List UInt8:=s.take k++[b]++s.drop (k+1)
def TxOk(t:List (List UInt8))(k:Nat):Prop:=t.length<=1+2*k/\∀s∈t,s.length<=300000
theorem TxOk.snoc{t:List (List UInt8)}{k:Nat}(h:TxOk t k){s:List UInt8}(a:s.length<=200000)(i:Nat)(b:UInt8):TxOk (t++[chg s i b,s.take i]) (k+1):=by
 refine⟨by have:=h.1;rw[qb];simp only[qe,qu];omega,fun x hx=>?_⟩;rcases yf.1 hx with hx | hx
 ·exact h.2 x hx
 ·simp only[qh,qq,or_false]at hx;rcases hx with rfl | rfl
  ·simp only[chg,qb,qk,yj,yi];omega
  ·rw[qk];omega
theorem TxOk.up{t:List (List UInt8)}{k:Nat}(h:TxOk t k):TxOk t (k+1):=⟨by have:=h.1;omega,h.2⟩
theorem A1(Z:Fz)(m0:MLF Z)(r0:RNDF Z)(cs cd:List UInt8)(cn:Int)(xl:Bool)(xb xe xc:Nat)(xs:List RCl)(cj:xl=true->xs=[])(ck:fX Z xb xe xs)(cm:∀x∈xs,RSt Z x.a x.st)
  (n1 n2 n3:Bool)(b1 o1 c1 b2 o2 c2 b3 o3 l3 c3 l x:Nat)(q1 q2 Q:Int)(a9:i64 Q)(M:UInt8)(b:List UInt8)
  (ad:∀F1,Fz.le Z F1->Fo prog F1 23 [.agg (caseS n1 n2 n3 b1 o1 c1 b2 o2 c2 b3 o3 l3 c3 l x q1 q2)] mW):
  Fo prog Z 6 [.agg [.str cs,.str cd,.int .i64 cn,.slice xl 0 xb xe 1 xs.length xc],.agg (caseS n1 n2 n3 b1 o1 c1 b2 o2 c2 b3 o3 l3 c3 l x q1 q2),.va (.int .i64 Q),.va (.int .u8 (M.toNat:Int)),.va (.str b)] (fun o _=>o=.ret (.va (.bool true))/\True):=by
 have ay:=ybw Z m0 r0;have ai:=fun F1 (h:Fz.le Z F1)=>yal F1 cs cd cn xl xb xe xc xs cj (ck.mono h) (fun x hx=>(cm x hx).mono h)
 have al:=yak cs cd cn xs;obtain⟨m,bb⟩:∃m,fewC cs cd cn xs=m:=⟨_,rfl⟩
 rw[bb]at ai al;clear bb;have ci:(0<=if(300:Int) < b.length then 300 else(b.length:Int))/\(if(300:Int) < b.length then 300 else(b.length:Int))<=(b.length:Nat):=by split<;>omega
 refine foS func6 ?_;refine useFs ay ?_;rintro _ F1 u1 ⟨rfl,-⟩;refine useFs (ad F1 u1) ?_;rintro _ F2 u2 ⟨sd,sv,sc,D,C,cq,cw,cc,rfl,cx,cz,az,ce,c6,h6,⟨bd,rfl⟩,⟨bv,rfl⟩,⟨nl,bc,rfl⟩,cr⟩;have z2:Fz.le Z F2:=Fz.t u1 u2;have Y:=ce.sm;refine⟨ci,?_⟩;refine useFs (ai F2 z2) ?_;rintro _ F3 u3 ⟨sk,rfl,bl⟩;have bm:=bl;obtain⟨kn,kb,ke,kc,kL,kr,rfl,-,-,-,-⟩:=bl
 have bi:nl=true->C=[]:=fun h=>by
  obtain⟨c7,b',e',cp,L,O,h1,h2,-,-,-⟩:=az;simp only[SA.slice.injEq]at h1;exact h2 (h1.1.symm.trans h)
 have J:nl=false->∃(L:List (List SA)) (O:Nat) (o:List ZC),F3 bc=some (.arr 48 4 L O)/\0+C.length<=L.length/\(L.drop 0).take C.length=o.map encZ/\RowG CrtR F3 C o:=fun h=>by
  obtain⟨L,O,o,r1,r2,r3,r4⟩:=EX az h;exact⟨L,O,o,u3 _ _ r1,r2,r3,RowG.mono (R:=CrtR) (fun h l=>h.mono l) r4 u3⟩
 rcases nl with _ | _
 case' false=>
  have J:=J rfl;obtain⟨RL,RR,o,r1,r2,r3,ar⟩:=J
 case' true=>
  have hC:=bi rfl;have b4:C.length=0:=by rw[hC];rfl
  let o:List ZC:=[]
  have ar:RowG CrtR F3 C o:=by rw[hC];exact⟨rfl,fun i z x h=>nomatch h⟩
 all_goals
  have ch:o.length=C.length:=ar.1;have bk:RowG CrtR F3 (m::C) (mkR (crtS m (.slice kn 0 kb ke 2 m.cl.length kc)) rfl::o):=RowG.cons ar ⟨_,rfl,bm⟩
  have bo:∀x∈m::C,CrtSm x:=fun x hx=>by
   rcases qh.1 hx with rfl | hx
   ·exact al
   ·exact Y x hx
  have bq:(1+(o.map encZ).length)*64<=140737488355328:=by rw[qa];omega
  have c5:(m::C).length=1+(o.map encZ).length:=by rw[qa,ch,qe];omega
  have cu:(m::C).length<=7:=by rw[qe];omega
  have b9:TxOk [(b.take (if(300:Int) < b.length then 300 else(b.length:Int)).toNat).drop 0] 0:=⟨by simp,fun s hs=>by
   obtain rfl:=qs.1 hs;rw[y8,qk];split<;>omega⟩
  conv=>whnf
  first
  |refine⟨_,RL,RR,r1,r2,o.map encZ,r3,?_⟩
  |refine⟨b4,?_⟩
  refine⟨rfl,rfl,rfl,bq,fun c' c4=>?_⟩;refine pU 5 (fun _=>.arr 48 4 ((mkR (crtS m (.slice kn 0 kb ke 2 m.cl.length kc)) rfl::o).map encZ) c') rfl rfl rfl ?hf (fun _ _=>dv aD oo _ _ _ _) ?_
  case hf=>exact fun k _=>dt (μ:=resP _) (e:=encZ) (l:=mkR (crtS m (.slice kn 0 kb ke 2 m.cl.length kc)) rfl::o) (L:=[crtS m (.slice kn 0 kb ke 2 m.cl.length kc)]++o.map encZ) aD (fun k=>rfl) rfl _ _ _
  intro q5 F4 u4 h5;have b5:=h5 0 rfl;have au:=RowG.mono (R:=CrtR) (fun h l=>h.mono l) bk u4;have z4:Fz.le Z F4:=Fz.t z2 (Fz.t u3 u4)
  refine aH hΘ (X:={ y:Nat×List (List UInt8)×Nat×Fz // y.1<=(m::C).length/\Fz.le F4 y.2.2.2/\TxOk ((b.take (if(300:Int) < b.length then 300 else(b.length:Int)).toNat).drop 0::y.2.1) y.1 }) (fun y=>[(16,.va (gA 1 6 y.1.2.2.1 ((b.take (if(300:Int) < b.length then 300 else(b.length:Int)).toNat).drop 0::y.1.2.1))),(53,.va (.int .i64 y.1.1))]) (10::jr 18 8 (jr 54 59 []))
   (fun y=>[(0,.frz y.1.2.2.2),(3,.gone),(6,gE 9 1 encS y.1.2.2.1 ((b.take (if(300:Int) < b.length then 300 else(b.length:Int)).toNat).drop 0::y.1.2.1))]) 7 (fun y=>(m::C).length - y.1.1) ⟨(0,[],1,F4),jx _,Fz.r _,b9⟩
   (fun hH hT=>leI [(6,3)] hH hT rfl ⟨tv,tv,aF fQ _ _ _ _ _,tv⟩ ⟨⟨rfl,rfl,rfl,.inr ⟨rfl,rfl,rfl,rfl⟩⟩,rfl,tv⟩ ⟨Fz.r F4,(show subE (some (.one (.arr 9 1 [[.str ((b.take (if(300:Int) < b.length then 300 else(b.length:Int)).toNat).drop 0)]] 1))) _ from aQ fQ (aZ (l:=[(b.take (if(300:Int) < b.length then 300 else(b.length:Int)).toNat).drop 0]) _ rfl)),tv⟩) ?_
  rintro⟨⟨k,p,ct,G⟩,bh,hG,I⟩ hH hT;replace bh:k<=(m::C).length:=bh;replace hG:Fz.le F4 G:=hG;replace I:TxOk ((b.take (if(300:Int) < b.length then 300 else(b.length:Int)).toNat).drop 0::p) k:=I;by_cases g:k < (m::C).length
  ·have gi:(k:Int) < ((1+(o.map encZ).length:Nat):Int):=by omega
   have ah:(m::C).length - (k+1) < (m::C).length - k:=by omega
   have ak:k < 4611686018427387904:=by omega
   have bg:k+1<=(m::C).length:=g;have ba:=RowG.at au g;obtain⟨sx,hy,j⟩:=ba;have u:=bo _ (qx g);have hx:∃x,(m::C)[k]'g=x:=⟨_,rfl⟩
   obtain⟨x,hx⟩:=hx;rw[hx]at hy j u;clear hx;have hE:=fun d (V:Fz.le G d)=>lz d sx x (KpsAt.up j (Fz.t hG V)) u.s u.l
   have hR:=fun d (V:Fz.le G d)=>DO d sx x (KpsAt.up j (Fz.t hG V)) u.s u.l
   have bp:=j;obtain⟨xn,bx,b0,bz,xL,xR,rfl,-,-,-,-⟩:=j
   have hvx:crtOk x=true\/crtOk x=false:=by
    cases crtOk x
    ·exact .inr rfl
    ·exact .inl rfl
   have a1:=hG _ _ b5;rcases hvx with hvx | hvx
   rotate_left
   ·have aa:=fun d V=>cK (hE d V) fun o F' h=>h.resolve_right fun h=>absurd (h.1.symm.trans hvx) dd
    have ab:=fun d V=>cK (hR d V) fun o F' h=>h.resolve_right fun h=>absurd (h.1.symm.trans hvx) dd
    refine bri gi ⟨rfl,⟨by omega,gi⟩,_,a1,_,hy,?_⟩;refine useFs (aa G (Fz.r G)) ?_;rintro _ d v1 ⟨-,rfl⟩;refine useFs (ab d v1) ?_;rintro _ G2 v2 ⟨-,rfl⟩;refine gae dd ?_;refine brd dd ?_;refine bre dd ?_;exact⟨⟨(k+1,p,ct,G2),bg,Fz.t hG (Fz.t v1 v2),I.up⟩,ah,leR [(6,6)] hH hT rfl ⟨tv,tv,aF fQ _ _ _ _ _,tv⟩ ⟨⟨rfl,rfl,rfl,.inr ⟨rfl,rfl,rfl,rfl⟩⟩,cnt ak,tv⟩ ⟨Fz.r _,aQ fQ (bF _ _ _ _),tv⟩⟩
   ·have aa:=fun d V=>cK (hE d V) fun o F' h=>h.resolve_left fun h=>absurd (h.1.symm.trans hvx) dd
    have ab:=fun d V=>cK (hR d V) fun o F' h=>h.resolve_left fun h=>absurd (h.1.symm.trans hvx) dd
    have an:=wH hvx;have b8:=AY hvx;have a6:=wD hvx;have hS:∃S,encC x=S:=⟨_,rfl⟩
    obtain⟨S,hS⟩:=hS;rw[hS]at aa ab an b8 a6;clear hS;have a0:=fun d=>oN d S (q8 an dd)
    rw[a6]at a0;have bn:=fun(d:Fz) (V:Fz.le G d) sy (h:ClsAt d sy x.cl)=>ny d x (KpsAt.up bp (Fz.t hG V)) h u
    have bj:=fun d=>zF Q (S.length:Int) a9 oo d
    have hK:=dP Q (S.length:Int) oo a9;have b7:∃K:Nat,pickI Q (S.length:Int)=(K:Int)/\K < S.length:=⟨(pickI Q (S.length:Int)).toNat,by omega,by omega⟩
    obtain⟨K,a5,cy⟩:=b7;rw[a5]at bj;have a3:0<=(K:Int)/\(K:Int)<=(S.length:Int):=by omega
    have a4:0<=IntKind.i64.wrap ((K:Int)+1)/\IntKind.i64.wrap ((K:Int)+1)<=(S.length:Int):=by rw[aI oo oo];omega
    clear a5 hK
    have cf:(List.drop 0 (List.take (K:Int).toNat S)).length+[M].length<=9223372036854775807:=by
     rw[y8,qk,yi];omega
    have bu:(IntKind.i64.wrap ((K:Int)+1)).toNat=K+1:=by rw[aI oo oo];omega
    have ca:(List.drop 0 (List.take (K:Int).toNat S)++[M]++List.drop (IntKind.i64.wrap ((K:Int)+1)).toNat (List.take S.length S))=chg S K M:=by rw[bu,yp];rfl
    have cg:((List.drop 0 (List.take (K:Int).toNat S))++[M]).length+(List.drop (IntKind.i64.wrap ((K:Int)+1)).toNat (List.take S.length S)).length<=9223372036854775807:=by
     rw[bu,yp,y8,qb,qk,yj,yi];omega
    have a8:TxOk ((b.take (if(300:Int) < b.length then 300 else(b.length:Int)).toNat).drop 0::(p++[(List.drop 0 (List.take (K:Int).toNat S)++[M]++List.drop (IntKind.i64.wrap ((K:Int)+1)).toNat (List.take S.length S)),(List.drop 0 (List.take (K:Int).toNat S))])) (k+1):=by
     rw[ca];exact I.snoc an K M
    have bs:(p.length+1+2)*16<=140737488355328:=by have:=I.1;simp only[qe]at this;omega
    have aq:(p++[(List.drop 0 (List.take (K:Int).toNat S)++[M]++List.drop (IntKind.i64.wrap ((K:Int)+1)).toNat (List.take S.length S)),(List.drop 0 (List.take (K:Int).toNat S))]).length+1=p.length+1+2:=by rw[qb];rfl
    have av:((b.take (if(300:Int) < b.length then 300 else(b.length:Int)).toNat).drop 0::p).map encS++[[SA.str (List.drop 0 (List.take (K:Int).toNat S)++[M]++List.drop (IntKind.i64.wrap ((K:Int)+1)).toNat (List.take S.length S))],[SA.str (List.drop 0 (List.take (K:Int).toNat S))]]=((b.take (if(300:Int) < b.length then 300 else(b.length:Int)).toNat).drop 0::(p++[(List.drop 0 (List.take (K:Int).toNat S)++[M]++List.drop (IntKind.i64.wrap ((K:Int)+1)).toNat (List.take S.length S)),(List.drop 0 (List.take (K:Int).toNat S))])).map encS:=by
     rw[<-yd,qo];rfl
    refine bri gi ⟨rfl,⟨by omega,gi⟩,_,a1,_,hy,?_⟩;refine useFs (aa G (Fz.r G)) ?_;rintro _ d v1 ⟨-,rfl⟩;refine useFs (ab d v1) ?_;rintro _ G2 v2 ⟨-,rfl⟩;refine gae ss ?_;refine brd dd ?_;refine brd dd ?_;refine useFs (a0 G2) ?_;rintro _ G3 v3 ⟨sy,rfl,E⟩;have bw:=Fz.t v1 (Fz.t v2 v3);have ax:=bn G3 bw sy E;obtain⟨yn,yb,ye,yc,yL,yR,rfl,-,-,-,-⟩:=E;refine gae ss ?_;refine usePs ax ?_;refine usePs (bj G3) ?_;refine dwS (lk [0,1,2,3,4,8,9,10,11,13,14,15] (.alt 5 (.alt 6 (.look 7 (.look 12 (.alt 16 (.alt 17 (.look 18 .done) .nil) .nil))) .nil) .nil)) [] ?_;refine⟨a3,a4,a3,Fz.r _,nb rfl,[[.int .u8 (M.toNat:Int)]],rfl,[M],rfl,Fz.r _,cf,cg,Fz.r _,nb rfl,[[.str (List.drop 0 (List.take (K:Int).toNat S)++[M]++List.drop (IntKind.i64.wrap ((K:Int)+1)).toNat (List.take S.length S))],[.str (List.drop 0 (List.take (K:Int).toNat S))]],rfl,rfl,rfl,by simp,rfl,bs,fun c2 ac=>?_⟩;refine⟨Fz.r _,?_⟩;exact⟨⟨(k+1,p++[(List.drop 0 (List.take (K:Int).toNat S)++[M]++List.drop (IntKind.i64.wrap ((K:Int)+1)).toNat (List.take S.length S)),(List.drop 0 (List.take (K:Int).toNat S))],c2,G3),bg,Fz.t hG bw,a8⟩,ah,leR [(6,11)] hH hT rfl ⟨tv,tv,aF fQ _ _ _ _ _,tv⟩ ⟨⟨rfl,aq,rfl,.inr ⟨rfl,rfl,rfl,rfl⟩⟩,cnt ak,tv⟩ ⟨Fz.r _,aQ fQ (aZ _ av),tv⟩⟩
  ·have gi:¬(k:Int) < ((1+(o.map encZ).length:Nat):Int):=by omega
   have ap:=I.2;have cv:(((b.take (if(300:Int) < b.length then 300 else(b.length:Int)).toNat).drop 0::p)).length < 1000000:=by have:=I.1;omega
   refine brj gi ?_;refine pU 6 (fun _=>.arr 9 1 ((((b.take (if(300:Int) < b.length then 300 else(b.length:Int)).toNat).drop 0::p)).map encS) ct) rfl rfl rfl ?hf (fun _ _=>cF fQ _ _ _ _ _) ?_
   case hf=>exact fun k _=>cY (μ:=resP _) fQ rfl _ _ _
   intro q6 G5 v5 h6;have b6:=h6 0 ⟨rfl,rfl⟩
   refine aH hΘ (X:={ y:Nat×Fz // y.1<=(((b.take (if(300:Int) < b.length then 300 else(b.length:Int)).toNat).drop 0::p)).length/\Fz.le G5 y.2 }) (fun y=>[(26,.va (.int .i64 y.1.1))]) (10::jr 27 6 (jr 113 50 []))
    (fun y=>[(0,.frz y.1.2)]) 7 (fun y=>(((b.take (if(300:Int) < b.length then 300 else(b.length:Int)).toNat).drop 0::p)).length - y.1.1) ⟨(0,G5),jx _,Fz.r _⟩
    (fun hH hT=>leI [] hH hT rfl ⟨tv,tv⟩ ⟨rfl,tv⟩ ⟨Fz.r G5,tv⟩) ?_
   rintro⟨⟨i,G6⟩,hi,q⟩ a2 a7;replace hi:i<=(((b.take (if(300:Int) < b.length then 300 else(b.length:Int)).toNat).drop 0::p)).length:=hi;replace q:Fz.le G5 G6:=q;have A:=q _ _ b6;by_cases T:i < (((b.take (if(300:Int) < b.length then 300 else(b.length:Int)).toNat).drop 0::p)).length
   ·have w:(i:Int) < (((((b.take (if(300:Int) < b.length then 300 else(b.length:Int)).toNat).drop 0::p)).length:Nat):Int):=by omega
    have W:(((b.take (if(300:Int) < b.length then 300 else(b.length:Int)).toNat).drop 0::p)).length - (i+1) < (((b.take (if(300:Int) < b.length then 300 else(b.length:Int)).toNat).drop 0::p)).length - i:=by omega
    have aj:i < 4611686018427387904:=by omega
    have aw:=ap _ (qx T);have am:=qc T
    have U:((((b.take (if(300:Int) < b.length then 300 else(b.length:Int)).toNat).drop 0::p)).map encS)[0+(i:Int).toNat]? =some [.str ((((b.take (if(300:Int) < b.length then 300 else(b.length:Int)).toNat).drop 0::p))[i]'T)]:=by
     rw[q9,qn,qt,am];rfl
    have hs:∃s,(((b.take (if(300:Int) < b.length then 300 else(b.length:Int)).toNat).drop 0::p))[i]'T=s:=⟨_,rfl⟩
    obtain⟨s,hs⟩:=hs;rw[hs]at U aw;clear hs am;have ae:=oN G6 s (q8 aw dd);have af:=fun G=>DK G s (q8 aw dd)
    have be:=D6 s
    have bf:(∃c,decC s=(c,0)/\crtOk c=true/\encC c=s)\/∃e,decC s=(crt0,e)/\(e=10\/e=100):=by
     rcases be with h | h | h
     ·exact .inl h
     ·exact .inr ⟨_,h,.inl rfl⟩
     ·exact .inr ⟨_,h,.inr rfl⟩
    clear be;rcases bf with⟨c,ao,ac,cb⟩ | ⟨e,ao,he⟩
    ·rw[ao]at ae af;have f:CrtSm c:=⟨fun x hx=>yt (jO ac x hx) dd,by rw[(uW.1 ac).n];decide⟩
     have ag:=fun G sk (h:ClsAt G sk c.cl)=>cK (lz G sk c h f.s f.l) fun o F' h=>h.resolve_left fun h=>absurd (h.1.symm.trans ac) dd
     rw[cb]at ag;refine bri w ⟨rfl,⟨by omega,w⟩,_,A,_,U,?_⟩;refine useFs ae ?_;rintro _ G7 v7 ⟨sx,rfl,j⟩;have B:=j;obtain⟨xn,bx,b0,bz,xL,xR,rfl,-,-,-,-⟩:=j;refine⟨rfl,⟨by omega,w⟩,_,v7 _ _ A,_,U,?_⟩;refine useFs (af G7) ?_;rintro _ G8 v8 ⟨sy,rfl,E⟩;have Y:=ny G8 _ (KpsAt.up B v8) E f;obtain⟨yn,yb,ye,yc,yL,yR,rfl,-,-,-,-⟩:=E;refine gae ss ?_;refine usePs Y ?_;refine useFs (ag G8 _ (KpsAt.up B v8)) ?_;rintro _ G9 v9 ⟨-,rfl⟩;refine gae ss ?_;refine gae ss ⟨rfl,⟨by omega,w⟩,_,v9 _ _ (v8 _ _ (v7 _ _ A)),_,U,brd ss ?_⟩;exact⟨⟨(i+1,G9),T,Fz.t q (Fz.t v7 (Fz.t v8 v9))⟩,W,leR [] a2 a7 rfl ⟨tv,tv⟩ ⟨cnt aj,tv⟩ ⟨Fz.r _,tv⟩⟩
    ·rw[ao]at ae af;have f:CrtSm crt0:=⟨(fun x hx=>nomatch hx),by decide⟩
     have ag:=fun G sk (h:ClsAt G sk crt0.cl)=>cK (lz G sk crt0 h f.s f.l) fun o F' h=>h.resolve_right fun h=>absurd h.1 dd
     rcases he with rfl | rfl
     all_goals
      refine bri w ⟨rfl,⟨by omega,w⟩,_,A,_,U,?_⟩;refine useFs ae ?_;rintro _ G7 v7 ⟨sx,rfl,j⟩;have B:=j;obtain⟨xn,bx,b0,bz,xL,xR,rfl,-,-,-,-⟩:=j;refine⟨rfl,⟨by omega,w⟩,_,v7 _ _ A,_,U,?_⟩;refine useFs (af G7) ?_;rintro _ G8 v8 ⟨sy,rfl,E⟩;have Y:=ny G8 _ (KpsAt.up B v8) E f;obtain⟨yn,yb,ye,yc,yL,yR,rfl,-,-,-,-⟩:=E;refine gae ss ?_;refine usePs Y ?_;refine useFs (ag G8 _ (KpsAt.up B v8)) ?_;rintro _ G9 v9 ⟨-,rfl⟩;refine gaf ss ?_;exact⟨⟨(i+1,G9),T,Fz.t q (Fz.t v7 (Fz.t v8 v9))⟩,W,leR [] a2 a7 rfl ⟨tv,tv⟩ ⟨cnt aj,tv⟩ ⟨Fz.r _,tv⟩⟩
   ·have w:¬(i:Int) < (((((b.take (if(300:Int) < b.length then 300 else(b.length:Int)).toNat).drop 0::p)).length:Nat):Int):=by omega
    refine brj w ?_;exact endFs (.ret (.va (.bool true))) (Fz.t z4 (Fz.t hG (Fz.t v5 q))) ⟨rfl,tv⟩
theorem C2(b:Fz)(R:MLF b)(S:RNDF b)(cs O:List UInt8)(Q:Int)(K:Bool)(I J T:Nat)(xs:List RCl)(B:K=true->xs=[])(D:fX b I J xs)(E:∀x∈xs,RSt b x.a x.st)
  (j k l:Bool)(e m u f n w g p i y:Nat)(L:List Stp)(X:List Q3)(q s:Int)(zs:List Int)(h:CaseAt b j k l e m f n g p i L X q s zs)(c:Int)(A:i64 c)(M:UInt8)(d:List UInt8):
  Fo prog b 6 [.agg [.str cs,.str O,.int .i64 Q,.slice K 0 I J 1 xs.length T],.agg (caseS j k l e m u f n w g p i y L.length X.length q s),.va (.int .i64 c),.va (.int .u8 (M.toNat:Int)),.va (.str d)] (fun o _=>o=.ret (.va (.bool true))/\True):=
 A1 b R S cs O Q K I J T xs B D E j k l e m u f n w g p i y L.length X.length q s c A M d fun F1 G=>AL F1 (R.mono G) (S.mono G) j k l e m u f n w g p i y L X q s zs (h.mono G)
