import Derived.Test.YtfnkamphhpldcaaGreatDoorK30
import Derived.Test.YtfnkamphhpldcaaGreatDoorK13
import Derived.Test.YtfnkamphhpldcaaGreatDoorK21
import Derived.Test.YtfnkamphhpldcaaGreatDoorK32
set_option maxHeartbeats 64000000
namespace Go.Proofs.YtfnkamphhpldcaaGreatDoor
open Go Sx Tryz
set_option maxRecDepth 100000
def c8(a b:Crt):Bool:=decide (a.dst=b.src)&&(crtOk b&&decide (a.len+b.len<=64))
def dv(x y:Kp):Kp:=(x.1,(compR x.1 x.2 y.2).1)
def joinC(a b:Crt):Crt:=⟨a.src,b.dst,a.len+b.len,List.zipWith dv a.cl b.cl⟩
def badE:SA:=.ifc 213 (.int .i64 100)
theorem jO1{a b:Crt}(h:(!(a.dst==b.src))=true):c8 a b=false:=by
 have h1:(a.dst==b.src)=false:=by simpa using h
 simp only[c8,beqD h1,jv]
theorem jO2{a b:Crt}(h:(!crtOk b)=true):c8 a b=false:=by
 have h1:crtOk b=false:=by simpa using h
 simp only[c8,h1,jv,yk]
theorem o4{b:Crt}(h:crtOk b=true):1<=b.len/\b.len<=64:=by
 simp only[crtOk,qd,decide_eq_true_eq]at h;exact⟨h.2.2.1,h.2.2.2.1⟩
theorem wH{α:Type}{μ:Mu}{i j c n t:Nat}{L:List α}{x:α}{a b:List UInt8}{w:Int}(d:μ i 0=(j,0))(e:n=L.length+1):SB.cells t [.str a,.str b,.int .i64 w,.slice false j 0 0 2 n c]=SB.ren μ (.cells t [.str a,.str b,.int .i64 w,gA 2 i c (L++[x])]):=by
 subst e;cases L with
 |nil=>simp only[gA,qw,SB.ren,q9,yu,SA.ren,d,qv]
 |cons y r=>simp only[gA,jz,SB.ren,q9,yu,SA.ren,d,qb,qf,qv]
theorem BG(F:Fz)(sa sb:SA)(a b:Crt)(ha:ClsAt F sa a.cl)(hb:ClsAt F sb b.cl)(ad:a.cl.length=8)(al:0<=a.len/\a.len<=1000000)(bi:short a.cl)(au:short b.cl)(bg:b.cl.length < 1000000):
  Fo prog F 70 [.agg (crtS a sa),.agg (crtS b sb)] (fun o K=>
   (c8 a b=false/\o=.ret (.tup [.agg [.str a.src,.str b.dst,.int .i64 (IntKind.i64.wrap (a.len+b.len)),.nilsl],.va badE]))\/
   (c8 a b=true/\∃sc,o=.ret (.tup [.agg (crtS (joinC a b) sc),.va .nilif])/\ClsAt K sc (joinC a b).cl)):=by
 have E:=gP F sb b hb au bg;have e1:=jO1 (a:=a) (b:=b);have e2:=jO2 (a:=a) (b:=b);have am:crtOk b=true->b.cl.length=8:=fun h=>(jK h).1
 have ao:crtOk b=true->1<=b.len/\b.len<=64:=o4;have ai:c8 a b=(decide (a.dst=b.src)&&(crtOk b&&decide (a.len+b.len<=64))):=rfl;obtain⟨v,hv⟩:∃v,crtOk b=v:=⟨_,rfl⟩
 rw[hv]at E e2 am ao ai;clear hv;obtain⟨p,I,nA,d⟩:=a;obtain⟨J,dB,j,e⟩:=b
 have fin:∀(F1:Fz) (h:Hp) (nx:Nat),c8 ⟨p,I,nA,d⟩ ⟨J,dB,j,e⟩=false->lget h 0=some (.frz F1)->Fz.le F F1->Cln 1 (FoK F (fun o K=>
   (c8 ⟨p,I,nA,d⟩ ⟨J,dB,j,e⟩=false/\o=.ret (.tup [.agg [.str p,.str dB,.int .i64 (IntKind.i64.wrap (nA+j)),.nilsl],.va badE]))\/
   (c8 ⟨p,I,nA,d⟩ ⟨J,dB,j,e⟩=true/\∃sc,o=.ret (.tup [.agg (crtS (joinC ⟨p,I,nA,d⟩ ⟨J,dB,j,e⟩) sc),.va .nilif])/\ClsAt K sc (joinC ⟨p,I,nA,d⟩ ⟨J,dB,j,e⟩).cl))) (.ret (.tup [.agg [.str p,.str dB,.int .i64 (IntKind.i64.wrap (nA+j)),.nilsl],.va badE])) h nx:=by
  intro F1 h nx hj h0 q;exact endFo (.ret (.tup [.agg [.str p,.str dB,.int .i64 (IntKind.i64.wrap (nA+j)),.nilsl],.va badE])) F1 h0 q (Fz.r F1) (.inl ⟨hj,rfl⟩) (aO _) rfl
 obtain⟨an,ab,ae,ac,aL,ar,rfl,a1,a2,a3,a4⟩:=ha;obtain⟨bn,bb,be,bc,bL,cc,rfl,b1,b2,b3,b4⟩:=hb
 have hf:∀k (h:k < d.length) (h':k < e.length),(fun k=>dv (d[k]?.getD (0,[])) (e[k]?.getD (0,[]))) k=((d[k]'h).1,(compR (d[k]'h).1 (d[k]'h).2 (e[k]'h').2).1):=fun k h h'=>by
  simp only[qc h,qc h',yh,dv]
 obtain⟨f,ba⟩:∃f:Nat->Kp,f=fun k=>dv (d[k]?.getD (0,[])) (e[k]?.getD (0,[])):=⟨_,rfl⟩
 rw[<-ba]at hf
 let S (c:Nat) (l:List ZC):Ent:=.one (.cells 48 [.str p,.str dB,.int .i64 (IntKind.i64.wrap (nA+j)),gA 2 5 c l])
 have ah:∀(n c:Nat) (l:List ZC),5 < n->(S c l).below n:=fun n c l hn=>by
  intro a ha;simp only[qi,qp,or_false]at ha;rcases ha with rfl | rfl | rfl | rfl
  ·trivial
  ·trivial
  ·trivial
  ·exact fE oo _ _ _
 refine foS func70 ?_;refine⟨fun g1=>?_,fun g1=>?_⟩
 rotate_left
 ·exact fin F _ _ (e1 g1) rfl (Fz.r F)
 refine useFs E ?_;rintro _ F1 l1 rfl;refine⟨fun W=>?_,fun W=>?_⟩
 rotate_left
 ·exact fin F1 _ _ (e2 W) rfl l1
 replace W:v=true:=by simpa using W
 have hn:=ao W;have h8:=am W;replace hn:1<=j/\j<=64:=hn;replace h8:e.length=8:=h8;replace ad:d.length=8:=ad;replace al:0<=nA/\nA<=1000000:=al;have hw:IntKind.i64.wrap (nA+j)=nA+j:=aF oo oo
 have aj:decide (I=J)=true:=by
  have h:(I==J)=true:=by simpa using g1
  exact beqD h
 by_cases g3:nA+j<=64
 ·have hj:c8 ⟨p,I,nA,d⟩ ⟨J,dB,j,e⟩=true:=by rw[ai,aj,W,decide_eq_true g3];rfl
  refine br (fun g=>absurd (od g) (by show¬(64:Int) < IntKind.i64.wrap (nA+j);rw[hw];omega)) (fun _=>?_);conv=>whnf
  refine aI hΘ (X:={ y:Nat×List ZC×Nat×Fz // Fz.le F y.2.2.2/\y.1<=8/\y.2.1.length=y.1/\RowOf y.2.2.2 f y.2.1 }) (fun y=>[(39,.va (.int .i64 y.1.1))]) (7::8::jr 40 26 [])
   (fun y=>[(0,.frz y.1.2.2.2),(1,.one (.cells 48 (crtS ⟨p,I,nA,d⟩ (.slice an 0 ab ae 2 d.length ac)))),(2,.one (.cells 48 (crtS ⟨J,dB,j,e⟩ (.slice bn 0 bb be 2 e.length bc)))),
    (3,.one (.cells 48 [.str [],.str [],.int .i64 0,.nilsl])),(4,S y.1.2.2.1 y.1.2.1),(5,gE 52 2 encZ y.1.2.2.1 y.1.2.1)]) 6 (fun y=>8 - y.1.1) ⟨(0,[],0,F1),l1,by omega,rfl,RowOf.nil⟩
   (fun hH hT=>leI [(5,5)] hH hT rfl ⟨tv,cF _ (.inr oo),cF _ (.inr oo),cF ⟨[],[],0,[]⟩ (sk:=.nilsl) trivial,ah 6 0 [] oo,c7 aQ oo _ _ _ _,tv⟩ ⟨rfl,tv⟩ ⟨Fz.r F1,rfl,rfl,rfl,rfl,rfl,tv⟩) ?_
  rintro⟨⟨k,o,co,G⟩,L,hk,ho,D⟩ hH hT;replace L:Fz.le F G:=L;replace hk:k<=8:=hk;replace ho:o.length=k:=ho;replace D:RowOf G f o:=D;by_cases g:k < 8
  ·have gA:k < d.length:=by omega
   have T:k < e.length:=by omega
   have gi:(k:Int) < (d.length:Int):=by omega
   have ak:(k:Int) < (e.length:Int):=by omega
   have aq:k+1<=8:=g;have Y:8 - (k+1) < 8 - k:=by omega
   have Z:k < 4611686018427387904:=by omega
   have M:=SlR.at a4 gA;obtain⟨y,hy,sx,rfl,a6⟩:=M;have M:=SlR.at b4 T;obtain⟨z,hz,sy,rfl,a7⟩:=M;have O:=Dl G sx sy (d[k]'gA).2 (e[k]'T).2 (d[k]'gA).1 (a6.mono L) (a7.mono L) (bi _ (qt gA)) (au _ (qt T));have U:=SlR.lt a1 gA;have V:=SlR.lt b1 T;have bd:=hf k gA T;have a5:∀(B:Fz) (z:ZC),Fz.le G B->KpR B z.1 ((d[k]'gA).1,(compR (d[k]'gA).1 (d[k]'gA).2 (e[k]'T).2).1)->RowOf B f (o++[z]):=fun B z q hz=>(D.mono q).snoc (by rw[ho,bd];exact hz)
   have aa:∀z:ZC,(o++[z]).length=k+1:=fun z=>by rw[qb,ho];rfl
   obtain⟨bu,bq,bt,bs,bp,bw,rfl,bk,bl,bm,bo⟩:=a6;obtain⟨ca,b7,b9,b8,b6,cb,rfl,bx,bz,b0,b5⟩:=a7;rcases o with _ | ⟨o0,m⟩
   ·refine bri gi ⟨U,⟨by simp,gi⟩,_,L _ _ (a2 U),_,hy,?_⟩;refine dwS (lk [0,2,4,5,6,7,8,9] (.alt 1 (.alt 3 (.alt 10 (lk [11,12,13,14] (.alt 15 .done .nil)) .nil) .nil) (.alt 3 (.alt 1 (.alt 10 (lk [11,12,13,14] (.alt 15 .done .nil)) .nil) .nil) .nil))) [2] ?_;refine⟨rfl,V,⟨by simp,ak⟩,rfl,_,L _ _ (b2 V),_,hz,?_,?_⟩
    all_goals
     refine⟨Fz.r G,rfl,Fz.r G,rfl,?_⟩;refine useFs O ?_;rintro _ B l2 ⟨sc,rfl,Q⟩;have R:=Q;obtain⟨A,s,w,u,az,a0,rfl,av,aw,ax,ay⟩:=Q;refine⟨l2,rfl,Fz.r B,rfl,nb rfl,[[.int .i64 (d[k]'gA).1,.slice A 0 s w 2 (compR (d[k]'gA).1 (d[k]'gA).2 (e[k]'T).2).1.length u]],rfl,rfl,rfl,by show 1*32<=140737488355328;omega,fun c' a9=>?_⟩;exact⟨⟨(k+1,[]++[mkZ (d[k]'gA).1 (.slice A 0 s w 2 (compR (d[k]'gA).1 (d[k]'gA).2 (e[k]'T).2).1.length u) rfl],c',B),Fz.t L l2,aq,aa _,a5 B _ l2 ⟨_,rfl,R⟩⟩,Y,leR [(5,8)] hH hT rfl ⟨tv,cF _ (.inr oo),cF _ (.inr oo),cF ⟨[],[],0,[]⟩ (sk:=.nilsl) trivial,ah 6 c' _ oo,c7 aQ oo _ _ _ _,tv⟩ ⟨cnt Z,tv⟩ ⟨Fz.r B,rfl,rfl,rfl,wH (μ:=sig [(5,8)]) rfl rfl,ej (μ:=sig [(5,8)]) aQ (fun k=>rfl) (bC _ (by rw[qq];rfl)),tv⟩⟩
   ·have bj:(m.length+1+1)*32<=140737488355328:=by
     have h9:m.length+1=k:=ho;omega
    refine bri gi ⟨U,⟨by simp,gi⟩,_,L _ _ (a2 U),_,hy,?_⟩;refine dwS (lk [0,2,4,5,6,7,8,9] (.alt 1 (.alt 3 (.alt 10 (lk [11,12,13,14] (.alt 15 .done .nil)) .nil) .nil) (.alt 3 (.alt 1 (.alt 10 (lk [11,12,13,14] (.alt 15 .done .nil)) .nil) .nil) .nil))) [2] ?_;refine⟨rfl,V,⟨by simp,ak⟩,rfl,_,L _ _ (b2 V),_,hz,?_,?_⟩
    all_goals
     refine⟨Fz.r G,rfl,Fz.r G,rfl,?_⟩;refine useFs O ?_;rintro _ B l2 ⟨sc,rfl,Q⟩;have R:=Q;obtain⟨A,s,w,u,az,a0,rfl,av,aw,ax,ay⟩:=Q;refine⟨l2,rfl,Fz.r B,rfl,nb rfl,[[.int .i64 (d[k]'gA).1,.slice A 0 s w 2 (compR (d[k]'gA).1 (d[k]'gA).2 (e[k]'T).2).1.length u]],rfl,rfl,rfl,by simp,rfl,bj,fun c' a9=>?_⟩;exact⟨⟨(k+1,(o0::m)++[mkZ (d[k]'gA).1 (.slice A 0 s w 2 (compR (d[k]'gA).1 (d[k]'gA).2 (e[k]'T).2).1.length u) rfl],c',B),Fz.t L l2,aq,aa _,a5 B _ l2 ⟨_,rfl,R⟩⟩,Y,leR [(5,8)] hH hT rfl ⟨tv,cF _ (.inr oo),cF _ (.inr oo),cF ⟨[],[],0,[]⟩ (sk:=.nilsl) trivial,ah 6 c' _ oo,c7 aQ oo _ _ _ _,tv⟩ ⟨cnt Z,tv⟩ ⟨Fz.r B,rfl,rfl,rfl,wH (μ:=sig [(5,8)]) rfl rfl,ej (μ:=sig [(5,8)]) aQ (fun k=>rfl) (bC _ (by rw[qq];rfl)),tv⟩⟩
  ·have bf:k=8:=by omega
   have ag:o.length=8:=ho.trans bf;have gi:¬(k:Int) < (d.length:Int):=by omega
   have af:(joinC ⟨p,I,nA,d⟩ ⟨J,dB,j,e⟩).cl.length=8:=by
    show(List.zipWith dv d e).length=8;rw[qax,ad,h8];rfl
   have ap:∀(K:Fz) (b c n:Nat),Fz.le G K->K b=some (.arr 52 2 (o.map encZ) c)->n=8->ClsAt K (.slice false 0 b 0 2 n c) (joinC ⟨p,I,nA,d⟩ ⟨J,dB,j,e⟩).cl:=fun K b c n q hb hn=>by
    have h:=(D.mono q).sl (cap:=c) (l:=(joinC ⟨p,I,nA,d⟩ ⟨J,dB,j,e⟩).cl) hb (by rw[ag,af]) fun i x hx=>by
     have hi:i < 8:=by have:=(qh.1 hx).1;rw[af]at this;exact this
     rw[hf i oo oo];replace hx:(List.zipWith dv d e)[i]? =some x:=hx;rw[List.getElem?_zipWith,qc (show i < d.length by omega),qc (show i < e.length by omega)]at hx;exact(Option.some.inj hx).symm
    rw[af]at h;subst hn;exact h
   rcases o with _ | ⟨o0,m⟩
   ·cases ag
   ·have bh:m.length+1=8:=ag;refine brj gi ?_;refine cu 5 (fun _=>.arr 52 2 ((o0::m).map encZ) co) rfl rfl rfl (fun _ _=>by exact dW (μ:=resP _) aQ (fun k=>rfl) rfl _ _ _) (fun _ _=>dZ aQ oo _ _ _ _) ?_;intro b' K q a8;refine endFo (.ret (.tup [.agg [.str p,.str dB,.int .i64 (nA+j),.slice false 0 (b' 0) 0 2 (m.length+1) co],.va .nilif])) K rfl (Fz.t L q) (Fz.r K) (.inr ⟨hj,_,rfl,ap K _ _ _ q (a8 0 ⟨rfl,rfl⟩) bh⟩) ?_ rfl;exact⟨(by show SC.agg [.str p,.str dB,.int .i64 (nA+j),.slice false 0 (b' 0) 0 2 (m.length+1) co]=SC.agg [.str p,.str dB,.int .i64 (IntKind.i64.wrap (nA+j)),.slice false 0 (b' 0) 0 2 (m.length+1) co];rw[hw]),rfl,tv⟩
 ·have hj:c8 ⟨p,I,nA,d⟩ ⟨J,dB,j,e⟩=false:=by rw[ai,aj,W,decide_eq_false g3];rfl
  refine br (fun _=>?_) (fun g=>absurd (show(64:Int) < IntKind.i64.wrap (nA+j)by rw[hw];omega) (oe g));exact fin F1 _ _ hj rfl l1
def CrtR(F:Fz)(y:List SA)(c:Crt):Prop:=∃sk,y=crtS c sk/\ClsAt F sk c.cl
theorem CrtR.mono{F b:Fz}{y:List SA}{x:Crt}(h:CrtR F y x)(a:Fz.le F b):CrtR b y x:=by
 obtain⟨sk,h1,c⟩:=h;exact⟨sk,h1,KpsAt.up c a⟩
abbrev nq(F:Fz)(a:SA)(l:List Crt):Prop:=SlR F 48 4 (CrtR F) a l
def foldS:Crt->List Crt->Option Crt
 |a,[]=>some a
 |a,b::r=>if c8 a b=true then foldS (joinC a b) r else none
structure Acc(a:Crt):Prop where
 n:a.cl.length=8
 l:0<=a.len/\a.len<=64
 s:short a.cl
theorem Acc.join{a b:Crt}(h:Acc a)(c:c8 a b=true):Acc (joinC a b):=by
 simp only[c8,qd,decide_eq_true_eq]at c;have e:=(jK c.2.1).1;have g:=o4 c.2.1;refine⟨?_,?_,?_⟩
 ·show(List.zipWith dv a.cl b.cl).length=8;rw[qax,h.n,e];rfl
 ·have:=h.l;show 0<=a.len+b.len/\a.len+b.len<=64;omega
 ·intro x f;obtain⟨i,d,rfl⟩:=List.getElem_of_mem (show x∈List.zipWith dv a.cl b.cl from f);rw[qbz];show(compR _ _ _).1.length < _;unfold compR;split
  ·show(normS _).length < _;have:=pb ((a.cl[i]'(by rw[qax]at d;omega)).2++(b.cl[i]'(by rw[qax]at d;omega)).2);omega
  ·simp
theorem Acc.ok{a:Crt}(h:crtOk a=true)(b:short a.cl):Acc a:=⟨(jK h).1,by have:=o4 h;omega,b⟩
theorem BB(F:Fz)(sb j S M:Nat)(L:List (List SA))(f:Crt)(r:List Crt)(hb:F sb=some (.arr 48 4 L M))(hL:∀(k:Nat) x,(f::r)[k]? =some x->∃y,L[j+k]? =some y/\CrtR F y x)(ac:r.length+1<=S)
  (ha:Acc f)(hs:∀c∈r,short c.cl)(hl:∀c∈r,c.cl.length < 1000000)(hr:r.length < 1000000):
  Fo prog F 69 [.va (.slice false 0 sb j 4 (r.length+1) S),.va (.fn (.func 70) [])] (fun o F'=>
   (foldS f r=none/\∃x y n,o=.ret (.tup [.agg [.str x,.str y,.int .i64 n,.nilsl],.va badE]))\/
   (∃c,foldS f r=some c/\∃sk,o=.ret (.tup [.agg (crtS c sk),.va .nilif])/\ClsAt F' sk c.cl)):=by
 have h0:=hL 0 f rfl;obtain⟨y0,aa,ad,rfl,B⟩:=h0;have D:=B;obtain⟨kn,kb,ke,kc,kL,kr,rfl,k1,k2,k3,k4⟩:=B;refine foS func69 ?_;refine⟨rfl,⟨by simp,by simp⟩,_,hb,_,aa,⟨by decide,by omega⟩,?_⟩;conv=>whnf
 refine aI hΘ (X:={ x:Nat×Crt×(Bool×Nat×Nat×Nat)×Fz // Fz.le F x.2.2.2/\x.1<=r.length/\foldS f r=foldS x.2.1 (r.drop x.1)/\Acc x.2.1/\ClsAt x.2.2.2 (.slice x.2.2.1.1 0 x.2.2.1.2.1 x.2.2.1.2.2.1 2 x.2.1.cl.length x.2.2.1.2.2.2) x.2.1.cl }) (fun x=>[(7,.va .nilif),(16,.va (.int .i64 x.1.1))]) (9::jr 17 13 [])
  (fun x=>[(0,.frz x.1.2.2.2),(1,.one (.cells 48 [.str [],.str [],.int .i64 0,.nilsl])),(2,.one (.cells 48 (crtS x.1.2.1 (.slice x.1.2.2.1.1 0 x.1.2.2.1.2.1 x.1.2.2.1.2.2.1 2 x.1.2.1.cl.length x.1.2.2.1.2.2.2))))]) 3 (fun x=>r.length - x.1.1) ⟨(0,f,(kn,kb,ke,kc),F),Fz.r F,by simp,rfl,ha,D⟩
  (fun T U=>leI [] T U rfl ⟨tv,cF ⟨[],[],0,[]⟩ (sk:=.nilsl) trivial,cF _ (.inr oo),tv⟩ ⟨rfl,rfl,tv⟩ ⟨Fz.r F,rfl,rfl,tv⟩) ?_
 rintro⟨⟨k,a,⟨nl,b,e,c⟩,G⟩,m,I,R,d,h⟩ T U;replace m:Fz.le F G:=m;replace I:k<=r.length:=I;replace R:foldS f r=foldS a (r.drop k):=R;replace d:Acc a:=d;replace h:ClsAt G (.slice nl 0 b e 2 a.cl.length c) a.cl:=h;by_cases g:k < r.length
 ·have O:(k:Int) < ((r.length+1 - 1:Nat):Int):=by omega
  have W:(f::r)[k+1]? =some (r[k]'g):=by rw[qbj,qc g]
  have q:=hL (k+1) (r[k]'g) W;obtain⟨y,hy,sk,rfl,K⟩:=q;have i:=qt g;have p:=BG G _ sk a (r[k]'g) h (KpsAt.up K m) d.n (by have:=d.l;omega) d.s (hs _ i) (hl _ i);have A:r.length - (k+1) < r.length - k:=by omega
  have E:k < 4611686018427387904:=by omega
  have J:foldS f r=if c8 a (r[k]'g)=true then foldS (joinC a (r[k]'g)) (r.drop (k+1))else none:=by
   rw[R,ji g];rfl
  have ab:L[(if S=Int.toNat 1 then j else j+Int.toNat 1)+((k:Nat):Int).toNat]? =some (crtS (r[k]'g) sk):=by
   rw[if_neg (by show¬S=1;omega),show j+Int.toNat 1+((k:Nat):Int).toNat=j+(k+1)by show j+1+k=j+(k+1);omega];exact hy
  obtain⟨mn,mb,me,mc,mL,mr,rfl,m1,m2,m3,m4⟩:=K;refine bri O ⟨rfl,⟨by simp,O⟩,_,m _ _ hb,_,ab,?_⟩;refine useFs p ?_;rintro _ G2 l2 (⟨Q,rfl⟩ | ⟨Q,sj,rfl,u⟩)
  ·have hn:foldS f r=none:=by rw[J,if_neg (by rw[Q];simp)]
   exact endFs (.ret (.tup [.agg [.str a.src,.str (r[k]'g).dst,.int .i64 (IntKind.i64.wrap (a.len+(r[k]'g).len)),.nilsl],.va badE])) (Fz.t m l2) (.inl ⟨hn,_,_,_,rfl⟩)
  ·have Z:foldS f r=foldS (joinC a (r[k]'g)) (r.drop (k+1)):=by rw[J,if_pos Q]
   have V:=d.join Q;have w:=u;obtain⟨jn,jb,je,jc,jL,jr,rfl,j1,j2,j3,j4⟩:=u;exact⟨⟨(k+1,joinC a (r[k]'g),(jn,jb,je,jc),G2),Fz.t m l2,g,Z,V,w⟩,A,leR [] T U rfl ⟨tv,cF ⟨[],[],0,[]⟩ (sk:=.nilsl) trivial,cF _ (.inr oo),tv⟩ ⟨rfl,cnt E,tv⟩ ⟨Fz.r G2,rfl,rfl,tv⟩⟩
 ·have O:¬(k:Int) < ((r.length+1 - 1:Nat):Int):=by omega
  have Y:foldS f r=some a:=by rw[R,yg oo];rfl
  refine brj O ?_;exact endFs (.ret (.tup [.agg (crtS a (.slice nl 0 b e 2 a.cl.length c)),.va .nilif])) m (.inr ⟨_,Y,_,rfl,h⟩)
theorem xC{h:Hp}{nx:Nat}{K:Out->Hp->Nat->Prop}{x y:SA}{c d:Value}{b:Bool}(l:∀ρ,x.den ρ=c)(m:∀ρ,y.den ρ=d)
  (g:∀w,Calls prog 135 #[c,d] w fun e f=>e=.returned (.bool b)/\f=w)(i:K (.ret (.va (.bool b))) h nx):za7 prog 135 [.va x,.va y] h nx K:=by
 unfold za7;intro C ρ w vs S a hb;refine⟨Sx.enters_of func135 rfl dd,?_⟩
 match vs,a with
 |[v,u],a=>
  have k:v=c:=by
   have h1:v=x.den ρ:=a.1;rw[h1,l]
  have j:u=d:=by
   have h1:u=y.den ρ:=a.2.1;rw[h1,m]
  subst k j;refine(g w).mono ?_;rintro e f ⟨rfl,rfl⟩;exact⟨.ret (.va (.bool b)),h,nx,ρ,i,⟨_,rfl,rfl⟩,S,fun _ _=>rfl,qj _,tv⟩
theorem BN(F:Fz):Fo prog F 71 [.va .nilif] (fun o a=>o=.ret (.va (.int .i64 0))/\a=F):=by
 refine foS func71 ?_;refine xC (fun _=>rfl) (fun _=>rfl) (ydh _) ?_;refine brd dd ?_;exact endPu rfl (Fz.r F) (aO _) rfl
theorem BM(F:Fz):Fo prog F 71 [.va badE] (fun o a=>o=.ret (.va (.int .i64 100))/\a=F):=by
 refine foS func71 ?_;refine xC (fun _=>rfl) (fun _=>rfl) (is_F 100 10) ?_;refine brd dd ?_;exact endPu rfl (Fz.r F) (aO _) rfl
theorem KpsAt.zrow{F:Fz}{t:Nat}{A:SA}{c:List Kp}(h:SlR F t 2 (KpR F) A c):∃(nil:Bool) (b e cap:Nat) (L:List (List SA)) (d:Nat) (o:List ZC),A=.slice nil 0 b e 2 c.length cap/\(nil=true->c=[])/\(nil=false->F b=some (.arr t 2 L d))/\e+c.length<=L.length/\
  (L.drop e).take c.length=o.map encZ/\o.length=c.length/\∀(i:Nat) (z:ZC) (x:Kp),o[i]? =some z->c[i]? =some x->KpR F z.1 x:=by
 obtain⟨nil,b,e,cap,L,d,h1,n,G,I,J⟩:=h;refine⟨nil,b,e,cap,L,d,?_⟩
 have w:∀(c:List Kp) (M:List (List SA)),(∀(k:Nat) x,c[k]? =some x->∃y,M[k]? =some y/\KpR F y x)->∃o:List ZC,M.take c.length=o.map encZ/\o.length=c.length/\∀(i:Nat) (z:ZC) (x:Kp),o[i]? =some z->c[i]? =some x->KpR F z.1 x:=by
  intro c
  induction c with
  |nil=>intro M _;exact⟨[],by simp,rfl,fun i z x h=>by simp at h⟩
  |cons k r ih=>
   intro M B;obtain⟨y,s,q⟩:=B 0 k rfl;cases M with
   |nil=>simp at s
   |cons m M'=>
    have u:m=y:=by simpa using s
    subst u
    obtain⟨o,f,g,j⟩:=ih M' (fun i x l=>by
     obtain⟨y,h1,n⟩:=B (i+1) x (by simpa using l);exact⟨y,by simpa using h1,n⟩)
    have E:∀a∈m,a.z=true:=by
     obtain⟨A,rfl,K⟩:=q;intro a D;simp only[qi,qp,or_false]at D;rcases D with rfl | rfl
     ·rfl
     ·exact K.z
    refine⟨⟨m,E⟩::o,?_,by simp[g],?_⟩
    ·rw[qf,qd4,f];rfl
    ·intro i z x p l;cases i with
     |zero=>
      have h1:(⟨m,E⟩:ZC)=z:=by simpa using p
      have n:k=x:=by simpa using l
      subst h1 n;exact q
     |succ i=>exact j i z x (by simpa using p) (by simpa using l)
 obtain⟨o,f,g,j⟩:=w c (L.drop e) (fun k x l=>by
  obtain⟨y,s,q⟩:=J k x l;exact⟨y,by rw[qab];exact s,q⟩)
 exact⟨o,h1,n,G,I,f,g,j⟩
theorem zi(F:Fz)(b e c d:Nat)(L:List (List SA))(o:List ZC)(hb:F b=some (.arr 52 2 L d))(j:e+o.length<=L.length)(i:(L.drop e).take o.length=o.map encZ)(f:o.length=8):
  Ct prog 72 [.va (.slice false 0 b e 2 8 c)] F [] 1
   (fun out l m n0=>l=F/\n0=2/\∃c',out=.ret (.va (.slice false 1 0 0 2 8 c'))/\m=[(1,.one (.arr 52 2 (o.map encZ) c'))]):=by
 rw[f]at j i;rcases o with _ | ⟨g,a⟩
 ·cases f
 have p:a.length+1=8:=f;have h:(0+((g::a).map encZ).length)*32<=140737488355328:=by rw[qa,f];decide
 refine ctS func72 ?_;refine brd dd ⟨52,L,d,hb,j,(g::a).map encZ,i,rfl,rfl,rfl,h,fun c' n=>?_⟩;clear n;exact clean [(1,2)] (.ret (.va (.slice false 1 0 0 2 8 c'))) F [(1,.one (.arr 52 2 ((g::a).map encZ) c'))] 2 ⟨Fz.r F,rfl,rfl,c',rfl,rfl⟩ ⟨rfl,(by rw[qa,f]),rfl,.inr ⟨rfl,rfl,rfl,rfl⟩⟩ rfl rfl (Out.bB_ok (o:=.ret (.va (.slice false 1 0 0 2 8 c'))) rfl) ⟨dZ aQ oo 52 2 c' (g::a),tv⟩ ⟨Fz.r F,(dW (μ:=sig [(1,2)]) aQ (fun k=>rfl) rfl _ _ _).symm,tv⟩
def du:List Crt->Option Crt
 |[]=>none
 |c::r=>if crtOk c=true then foldS c r else none
theorem vH:∀{r:List Crt} {a c:Crt},Acc a->foldS a r=some c->Acc c
 |[],a,c,h,hf=>by cases hf;exact h
 |b::r,a,c,h,hf=>by
  rw[foldS]at hf;split at hf
  ·rename_i d;exact vH (h.join d) hf
  ·cases hf
theorem lx(F:Fz)(nl:Bool)(sb se sc:Nat)(l:List Crt)(hl:nq F (.slice nl 0 sb se 4 l.length sc) l)(T:l.length<=sc)(hs:∀c∈l,short c.cl)(ac:∀c∈l,c.cl.length < 1000000)(ab:l.length < 1000000):
  Fo prog F 30 [.va (.slice nl 0 sb se 4 l.length sc)] (fun o m=>
   (du l=none/\o=.ret (.tup [.agg [.str [],.str [],.int .i64 0,.nilsl],.va (.int .i64 100)]))\/
   (∃c,du l=some c/\∃sk,o=.ret (.tup [.agg (crtS c sk),.va (.int .i64 0)])/\ClsAt m sk c.cl)):=by
 have fin:∀(F1:Fz) (h:Hp) (nx:Nat),du l=none->lget h 0=some (.frz F1)->Fz.le F F1->Cln 1 (FoK F (fun o m=>
   (du l=none/\o=.ret (.tup [.agg [.str [],.str [],.int .i64 0,.nilsl],.va (.int .i64 100)]))\/
   (∃c,du l=some c/\∃sk,o=.ret (.tup [.agg (crtS c sk),.va (.int .i64 0)])/\ClsAt m sk c.cl))) (.ret (.tup [.agg [.str [],.str [],.int .i64 0,.nilsl],.va (.int .i64 100)])) h nx:=by
  intro F1 h nx hj h0 d;exact endFo (.ret (.tup [.agg [.str [],.str [],.int .i64 0,.nilsl],.va (.int .i64 100)])) F1 h0 d (Fz.r F1) (.inl ⟨hj,rfl⟩) (aO _) rfl
 obtain⟨bi,b',e',a1,L,ao,ar,l1,l2,l3,l4⟩:=hl;cases ar
 rcases l with _ | ⟨j,r⟩
 ·refine foS func30 ?_;refine gaf dd ?_;exact fin F _ _ rfl rfl (Fz.r F)
 ·have aw:nl=false:=SlR.lt l1 (show 0 < (j::r).length by simp);subst aw;have I:=l2 rfl;have hz:=l4 0 j rfl;obtain⟨y0,an,a0,rfl,Y⟩:=hz;have J:short j.cl:=hs j ss;have a:=gP F a0 j Y J (ac j ss);have f:=fun(hv:crtOk j=true) (F1:Fz) (D:Fz.le F F1)=>BB F1 sb se sc ao L j r (D _ _ I) (fun k x hx=>by obtain⟨y,h1,E⟩:=l4 k x hx;exact⟨y,h1,E.mono D⟩) T (Acc.ok hv J) (fun c M=>hs c (by simp[M])) (fun c M=>ac c (by simp[M])) (by simp at ab;omega)
  obtain⟨kn,kb,ke,kc,kL,kr,rfl,-,-,-,-⟩:=Y
  have ay:crtOk j=true\/crtOk j=false:=by
   cases crtOk j
   ·exact .inr rfl
   ·exact .inl rfl
  rcases ay with hv | hv
  ·rw[hv]at a;have f:=f hv;have B:du (j::r)=foldS j r:=by rw[du,if_pos hv]
   refine foS func30 ?_;refine⟨fun _=>?_,fun g=>absurd g (by simp;omega)⟩;refine⟨rfl,⟨by simp,by simp⟩,_,I,_,an,?_⟩;refine useFs a ?_;rintro _ F1 D rfl;refine brd dd ?_;refine useFs (f F1 D) ?_;rintro _ F2 m2 (⟨hn,x,y,n,rfl⟩ | ⟨c,M,sk,rfl,hk⟩)
   ·refine usePs (BM F2) ?_;exact fin F2 _ _ (B.trans hn) rfl (Fz.t D m2)
   ·have S:=vH (Acc.ok hv J) M;have Q:=S.n;have az:=KpsAt.zrow hk;obtain⟨n',b1,e1,c1,L1,r1,o,rfl,z1,z2,z3,z4,z5,z6⟩:=az;have av:n'=false:=SlR.lt z1 (show 0 < c.cl.length by omega);subst av;have ad:o.length=8:=z5.trans Q;refine use (zi F2 b1 e1 c1 r1 L1 o (z2 rfl) (by rw[z5];exact z3) (by rw[z5];exact z4) ad) [] rfl ⟨⟨rfl,Q.symm,rfl,.inr ⟨rfl,rfl,rfl,rfl⟩⟩,tv⟩ rfl trivial (by simp[SV.below,SA.below]) trivial ?_;rintro bj F3 h0 n0 d ⟨rfl,rfl,c',rfl,rfl⟩;conv=>whnf
    have K:∀i (z:ZC) (x:Kp),o[i]? =some z->c.cl[i]? =some x->KpR F3 z.1 x:=fun i z x h1 E=>z6 i z x h1 E
    refine aI hΘ (X:={ x:Nat×List ZC×Fz // Fz.le F x.2.2/\x.1<=8/\x.2.1.length=8/\∀(i:Nat) (z:ZC) (y:Kp),x.2.1[i]? =some z->c.cl[i]? =some y->KpR x.2.2 z.1 y }) (fun x=>[(35,.va (.int .i64 x.1.1))]) (6::jr 36 15 [])
     (fun x=>[(0,.frz x.1.2.2),(1,.one (.cells 48 [.str [],.str [],.int .i64 0,.nilsl])),(2,.one (.cells 48 (crtS c (.slice false 3 0 0 2 8 c')))),(3,.one (.arr 52 2 (x.1.2.1.map encZ) c'))]) 4 (fun x=>8 - x.1.1) ⟨(0,o,F3),Fz.t D m2,by omega,ad,K⟩
     (fun hH hT=>leI [] hH hT rfl ⟨tv,cF ⟨[],[],0,[]⟩ (sk:=.nilsl) trivial,cF _ (.inr oo),dZ aQ oo 52 2 c' o,tv⟩ ⟨rfl,tv⟩ ⟨Fz.r F3,rfl,rfl,(dW (μ:=tau [] 1 3) aQ (fun k=>rfl) rfl _ _ _).trans (dW (μ:=sig []) aQ (fun k=>rfl) rfl _ _ _).symm,tv⟩) ?_
    rintro⟨⟨k,p,G⟩,hG,aa,q,e⟩ hH hT;replace hG:Fz.le F G:=hG;replace aa:k<=8:=aa;replace q:p.length=8:=q;replace e:∀(i:Nat) (z:ZC) (y:Kp),p[i]? =some z->c.cl[i]? =some y->KpR G z.1 y:=e;by_cases g:k < 8
    ·have O:(k:Int) < 8:=by omega
     have gk:k < p.length:=by omega
     have A:k < c.cl.length:=by omega
     have U:8 - (k+1) < 8 - k:=by omega
     have Z:k < 4611686018427387904:=by omega
     have au:=e k (p[k]'gk) (c.cl[k]'A) (qc gk) (qc A);obtain⟨sx,ax,am⟩:=au
     have hy:(p.map encZ)[0+(k:Int).toNat]? =some [.int .i64 (c.cl[k]'A).1,sx]:=by
      rw[qg,qz,qu,qc gk];exact congrArg some ax
     have af:∀(u:Fz) (z:ZC),Fz.le G u->KpR u z.1 (c.cl[k]'A)->∀(i:Nat) (z':ZC) (y:Kp),(p.set k z)[i]? =some z'->c.cl[i]? =some y->KpR u z'.1 y:=by
      intro u z d hz i z' y h1 E;by_cases W:k=i
      ·subst W;rw[qch gk]at h1;rw[qc A]at E;cases h1
       cases E
       exact hz
      ·rw[qby W]at h1;exact(e i z' y h1 E).mono d
     have ae:∀(z:ZC) (w:List SA),z.1=w->SB.arr 52 2 ((p.map encZ).set (0+(k:Int).toNat) w) c'=(SB.arr 52 2 ((p.set k z).map encZ) c').ren (sig []):=fun z w hw=>by
      rw[dW (μ:=sig []) aQ (fun k=>rfl) rfl,qg,qz,qb4,<-hw];rfl
     have aq:=zB G sx (c.cl[k]'A).2 am (S.s _ (qt A));obtain⟨bg,bd,bf,be,bc,bh,rfl,a8,a9,ba,bb⟩:=am;refine bri O ?_;refine dwS (lk [0,1,2,3,4,5,6,7] (.alt 8 (.alt 9 (.look 10 (.look 11 (.alt 12 .done .nil))) .nil) .nil)) [2] ?_;refine⟨rfl,rfl,rfl,⟨by simp,O⟩,_,hy,Fz.r G,rfl,?_⟩;refine useFs aq ?_;rintro _ u u2 ⟨sn,rfl,ag⟩;have ah:=ag;obtain⟨al,ai,ak,aj,a6,a7,rfl,a2,a3,a4,a5⟩:=ag;refine⟨u2,rfl,rfl,⟨by simp,O⟩,_,hy,Fz.r u,rfl,?_⟩;exact⟨⟨(k+1,p.set k (mkZ (c.cl[k]'A).1 (.slice al 0 ai ak 2 (c.cl[k]'A).2.length aj) rfl),u),Fz.t hG u2,g,by show(p.set k _).length=8;rw[qbp];exact q,af u _ u2 ⟨_,rfl,ah⟩⟩,U,leR [] hH hT rfl ⟨tv,cF ⟨[],[],0,[]⟩ (sk:=.nilsl) trivial,cF _ (.inr oo),dZ aQ oo 52 2 c' _,tv⟩ ⟨cnt Z,tv⟩ ⟨Fz.r u,rfl,rfl,ae _ _ rfl,tv⟩⟩
    ·have O:¬(k:Int) < 8:=by omega
     have V:∀(m:Fz) (b:Nat),Fz.le G m->m b=some (.arr 52 2 (p.map encZ) c')->ClsAt m (.slice false 0 b 0 2 8 c') c.cl:=fun m b d hb=>by
      have h:=SlR.new (F:=m) (t:=52) (sz:=2) (R:=KpR m) (cap:=c') (l:=c.cl) hb (by rw[qa,q,Q]) fun i x hx=>by
       have W:i < p.length:=by rw[q,<-Q];exact(qh.1 hx).1
       exact⟨encZ p[i],by rw[qu,qc W];rfl,(e i p[i] x (qc W) hx).mono d⟩
      rw[Q]at h;exact h
     refine brj O ?_;refine cu 3 (fun _=>.arr 52 2 (p.map encZ) c') rfl rfl rfl (fun _ _=>by exact dW (μ:=resP _) aQ (fun k=>rfl) rfl _ _ _) (fun _ _=>dZ aQ oo _ _ _ _) ?_;intro b' m d ap;exact endFs (.ret (.tup [.agg (crtS c (.slice false 0 (b' 0) 0 2 8 c')),.va (.int .i64 0)])) (Fz.t hG d) (.inr ⟨c,B.trans M,_,rfl,V m _ d (ap 0 rfl)⟩)
  ·rw[hv]at a;have B:du (j::r)=none:=by rw[du,if_neg (by rw[hv];simp)]
   refine foS func30 ?_;refine⟨fun _=>?_,fun g=>absurd g (by simp;omega)⟩;refine⟨rfl,⟨by simp,by simp⟩,_,I,_,an,?_⟩;refine useFs a ?_;rintro _ F1 D rfl;refine bre dd ?_;exact fin F1 _ _ B rfl D
abbrev strE(s:List UInt8):Ent:=.one (.cells 9 [.str s])
theorem fk(n:Nat)(s:List UInt8):(strE s).below n:=fun a b=>by
 simp only[qs]at b;subst b;trivial
theorem CS{l:List Int}{k:Nat}(g:k < l.length):aB (l.take (k+1))=aB (l.take k)++(putIR (l[k]'g)).1:=eX g
theorem yc6(F:Fz)(s:SA)(l:List Int)(out:List UInt8)(A:eb F s l)(O:l.length < 1000000)(Q:out.length<=1000000000):
  Ct prog 77 [.va s,.va (.ptr ⟨1,0,0,0,0⟩)] F [(1,strE out)] 2 (fun o u w n0=>u=F/\n0=2/\o=.ret (.tup [])/\w=[(1,strE (out++aB l))]):=by
 obtain⟨J,E,I,G,D,K,rfl,b,j,B,m⟩:=A;refine ctS func77 ?_;conv=>whnf
 refine aI hΘ (X:={ k:Nat // k<=l.length }) (fun x=>[(9,.va (.int .i64 x.1))]) (4::5::6::jr 10 12 [])
  (fun x=>[(0,.frz F),(1,strE (out++aB (l.take x.1)))]) 2 (fun x=>l.length - x.1) ⟨0,by simp⟩
  (fun h i=>leI [] h i rfl ⟨tv,fk _ _,tv⟩ ⟨rfl,tv⟩ ⟨Fz.r F,by show SB.cells _ [.str out]=SB.cells _ [.str (out++[])];rw[qx],tv⟩) ?_
 rintro⟨k,M⟩ h i;by_cases g:k < l.length
 ·have f:(k:Int) < (l.length:Int):=by omega
  have c:l.length - (k+1) < l.length - k:=by omega
  have d:k < 4611686018427387904:=by omega
  have p:=pfun F (l[k]'g)
  have q:(out++aB (l.take k)).length<=1000000000000:=by
   have y:=fJ dO (l.take k);rw[qn]at y;show(out++((l.take k).map fun n=>(putIR n).1).flatten).length<=_;rw[qb];omega
  have L:=dO (l[k]'g);have e:(out++aB (l.take k)).length+(putIR (l[k]'g)).1.length<=9223372036854775807:=by omega
  have a:out++aB (l.take k)++(putIR (l[k]'g)).1=out++aB (l.take (k+1)):=by rw[CS g,ql]
  refine bri f ⟨Sl.lt b g,⟨by simp,by simpa using g⟩,_,j (Sl.lt b g),_,Sl.at m g,?_⟩;refine usePs (p) ?_;refine⟨e,?_⟩;exact⟨⟨k+1,g⟩,c,leR [] h i rfl ⟨tv,fk _ _,tv⟩ ⟨cnt d,tv⟩ ⟨Fz.r F,by show SB.cells _ [.str _]=SB.cells _ [.str _];rw[a],tv⟩⟩
 ·have f:¬(k:Int) < (l.length:Int):=by omega
  have a:out++aB (l.take k)=out++aB l:=by rw[qk oo]
  refine brj f ?_;exact clean [] (.ret (.tup [])) F [(1,strE (out++aB l))] 2 ⟨Fz.r F,rfl,rfl,rfl,rfl⟩ trivial rfl rfl (Out.bB_ok (o:=.ret (.tup [])) rfl) ⟨fk _ _,tv⟩ ⟨Fz.r F,by show SB.cells _ [.str _]=SB.cells _ [.str _];rw[a],tv⟩
def stpN(s:Stp):List UInt8:=aB [s.1,s.2]
def ff(x:Kp):List UInt8:=aB [(x.2.length:Int)]++(x.2.map stpN).flatten
def encC(c:Crt):List UInt8:=(putSR c.src).1++(putSR c.dst).1++aB [c.len]++(c.cl.map ff).flatten
theorem xJ(s:Stp):(stpN s).length<=18:=dt _
theorem Ef(x:Kp)(h:x.2.length<=64):(ff x).length<=1161:=by
 have h1:=dt [(x.2.length:Int)];have a:=fJ xJ x.2;rw[ff,qb];simp only[qf,qv]at h1;omega
def encP(o:List UInt8)(a:List Stp)(j:Nat):List UInt8:=o++aB [(a.length:Int)]++((a.take j).map stpN).flatten
theorem yfz(o:List UInt8)(a:List Stp):encP o a 0=o++aB [(a.length:Int)]:=by simp[encP]
theorem zF(o:List UInt8)(a:List Stp)(j:Nat)(g:j < a.length):encP o a (j+1)=encP o a j++aB [(a[j]'g).1,(a[j]'g).2]:=by
 rw[encP,eX g,<-ql];rfl
theorem BW(o:List UInt8)(x:Kp):encP o x.2 x.2.length=o++ff x:=by
 rw[encP,yv,ql];rfl
theorem BY(o:List UInt8)(a:List Stp)(j:Nat)(h:a.length<=64):(encP o a j).length<=o.length+1161:=by
 have h1:=dt [(a.length:Int)];have b:=fJ xJ (a.take j);rw[qn]at b;simp only[qf,qv]at h1;simp only[encP,qb];omega
theorem Do{c:Crt}(h:crtOk c=true):∀x∈c.cl,x.2.length<=64:=by
 simp only[crtOk,qd,decide_eq_true_eq]at h
 have a:∀(l:List Kp) (i:Int),clOk l i=true->∀x∈l,x.2.length<=64:=by
  intro l
  induction l with
  |nil=>intro i _ x hx;simp at hx
  |cons y r ih=>
   intro i h x hx;rw[clOk,qd]at h;rcases qi.1 hx with rfl | hx
   ·have:=h.1;simp only[clAt,qd]at this;exact lT this.2.1
   ·exact ih (i+1) h.2 x hx
 exact a c.cl 1 h.2.2.2.2.2
theorem zI(F:Fz)(sk:SA)(c:Crt)(K:ClsAt F sk c.cl)(hs:short c.cl)(hl:c.cl.length < 1000000):
  Fo prog F 34 [.agg (crtS c sk)] (fun o _=>(crtOk c=false/\o=.ret (.tup [.va (.str []),.va (.int .i64 100)]))\/(crtOk c=true/\o=.ret (.tup [.va (.str (encC c)),.va (.int .i64 0)]))):=by
 have e:=gP F sk c K hs hl
 have ap:crtOk c=true\/crtOk c=false:=by
  cases crtOk c
  ·exact .inr rfl
  ·exact .inl rfl
 rcases ap with hv | hv
 rotate_left
 ·rw[hv]at e ⊢;obtain⟨kn,kb,ke,kc,kL,kr,rfl,k1,k2,k3,k4⟩:=K;refine foS func34 ?_;refine useFs e ?_;rintro _ F1 l1 rfl;refine bre dd ?_;exact endFs (.ret (.tup [.va (.str []),.va (.int .i64 100)])) l1 (.inl ⟨rfl,rfl⟩)
 have h8:=(jK hv).1;have w:=Do hv;rw[hv]at e ⊢;obtain⟨src,i,f,b⟩:=c;replace K:ClsAt F sk b:=K;replace h8:b.length=8:=h8;replace w:∀x∈b,x.2.length<=64:=w
 have aq:src.length=32/\i.length=32:=by
  have h:=hv;simp only[crtOk,qd,decide_eq_true_eq]at h;exact⟨h.1,h.2.1⟩
 obtain⟨kn,kb,ke,kc,kL,kr,rfl,k1,k2,k3,k4⟩:=K;have pA:=fun F1=>lh pfun F1 src oo
 have pB:=fun F1=>lh pfun F1 i oo
 have lA:=eH src;have lB:=eH i;have p:=fun F1 sa n (h:eb F1 sa n) (hn:n.length < 1000000) out (ho:out.length<=1000000000)=>yc6 F1 sa n out h hn ho
 show Fo prog F 34 [.agg (crtS ⟨src,i,f,b⟩ (.slice kn 0 kb ke 2 b.length kc))] (fun o F'=>(true=false/\o=.ret (.tup [.va (.str []),.va (.int .i64 100)]))\/(true=true/\o=.ret (.tup [.va (.str ((putSR src).1++(putSR i).1++aB [f]++(b.map ff).flatten)),.va (.int .i64 0)])));obtain⟨A,hA⟩:∃A,(putSR src).1=A:=⟨_,rfl⟩
 obtain⟨B,hB⟩:∃B,(putSR i).1=B:=⟨_,rfl⟩
 rw[hA]at pA lA ⊢;rw[hB]at pB lB ⊢;clear hA hB;obtain⟨O,Q⟩:∃O:Nat->List UInt8,O=fun k=>A++B++aB [f]++((b.take k).map ff).flatten:=⟨_,rfl⟩
 have O0:A++B++aB [f]=O 0:=by rw[Q];simp
 have O8:A++B++aB [f]++(b.map ff).flatten=O 8:=by rw[Q];simp only;rw[qk oo]
 have Os:∀k (g:k < b.length),O (k+1)=O k++ff (b[k]'g):=fun k g=>by
  rw[Q];simp only;rw[eX g,<-ql]
 have Ol:∀k,(O k).length<=200000:=fun k=>by
  have h1:=dt [f]
  have h2:∀l:List Kp,(∀x∈l,x.2.length<=64)->((l.map ff).flatten).length<=1161*l.length:=by
   intro l
   induction l with
   |nil=>intro _;simp
   |cons y r ih=>
    intro h;have h3:=Ef y (h y ss);have h4:=ih fun x hx=>h x (by simp[hx])
    rw[q9,jw,qb,qf];omega
  have h5:=h2 (b.take k) fun x hx=>w x (yf hx)
  rw[qn]at h5;rw[Q];simp only[qb];simp only[qf,qv]at h1;omega
 rw[O8];clear Q O8;refine foS func34 ?_;refine useFs e ?_;rintro _ F1 l1 rfl;refine brd dd ?_;conv=>whnf
 refine rounds hΘ 3 ?_;refine bre dd ⟨⟨by decide,by decide⟩,_,rfl,?_⟩;refine usePs (pA F1) ?_;refine⟨by show 0+A.length<=9223372036854775807;omega,?_⟩;refine bre dd ⟨⟨by decide,by decide⟩,_,rfl,?_⟩;refine usePs (pB F1) ?_;refine⟨by show([]++A).length+B.length<=9223372036854775807;rw[qw];omega,brd dd ?_⟩;refine bM 3 (fun _=>.arr 3 1 ([f].map encI) 1) ?_;intro b2 F2 l2 aj;refine useS (p F2 _ [f] (Sl.new (l:=[f]) (cap:=1) (aj 0 rfl)) ss ([]++A++B) (by rw[qw,qb];omega)) [(1,2)] ⟨fk _ _,tv⟩ ⟨rfl,tv⟩ ?_;rintro E F3 h0 n0 Y ⟨rfl,rfl,rfl,rfl⟩;have m3:=Fz.t l1 l2
 conv=>whnf
 refine aI hΘ (X:={ x:Nat×Fz // Fz.le F x.2/\x.1<=8 }) (fun x=>[(43,.va (.int .i64 x.1.1))]) (11::13::jr 44 25 [])
  (fun x=>[(0,.frz x.1.2),(1,.one (.cells 48 (crtS ⟨src,i,f,b⟩ (.slice kn 0 kb ke 2 b.length kc)))),(2,strE (O x.1.1)),(3,.gone)]) 4 (fun x=>8 - x.1.1) ⟨(0,F3),m3,by omega⟩
  (fun M S=>leI [] M S rfl ⟨tv,cF _ (.inr oo),fk _ _,tv,tv⟩ ⟨rfl,tv⟩ ⟨Fz.r F3,rfl,by show SB.cells _ [.str _]=SB.cells _ [.str _];rw[<-O0,qw],tv⟩) ?_
 rintro⟨⟨k,G⟩,L,W⟩ M S;replace L:Fz.le F G:=L;replace W:k<=8:=W;by_cases g:k < 8
 ·have d:k < b.length:=by omega
  have gi:(k:Int) < (b.length:Int):=by omega
  have T:8 - (k+1) < 8 - k:=by omega
  have V:k < 4611686018427387904:=by omega
  have ad:=w (b[k]'d) (qt d);have a0:=Ol k;have af:=Os k d;have R:=SlR.at k4 d;obtain⟨y,hy,a,rfl,ao⟩:=R;have D:=SlR.lt k1 d;obtain⟨ay,av,ax,aw,au,az,rfl,aa,ab,ar,ac⟩:=ao;refine bri gi ⟨D,⟨by simp,gi⟩,_,L _ _ (k2 D),_,hy,?_⟩;refine bM 5 (fun _=>.arr 3 1 ([(((b[k]'d).2.length:Nat):Int)].map encI) 1) ?_;intro b3 F4 l4 ak;refine useS (p F4 _ [(((b[k]'d).2.length:Nat):Int)] (Sl.new (l:=[(((b[k]'d).2.length:Nat):Int)]) (cap:=1) (ak 0 rfl)) ss (O k) oo) [(1,2)] ⟨fk _ _,tv⟩ ⟨rfl,tv⟩ ?_;rintro E F5 h0 n0 Y ⟨rfl,rfl,rfl,rfl⟩;have m4:=Fz.t L l4
  conv=>whnf
  refine aI hΘ (X:={ x:Nat×Fz // Fz.le F x.2/\x.1<=(b[k]'d).2.length }) (fun x=>[(56,.va (.int .i64 x.1.1))]) (13::jr 57 11 [])
   (fun x=>[(0,.frz x.1.2),(2,strE (encP (O k) (b[k]'d).2 x.1.1))]) 6 (fun x=>(b[k]'d).2.length - x.1.1) ⟨(0,F5),m4,by omega⟩
   (fun M S=>leI [] M S rfl ⟨tv,fk _ _,tv⟩ ⟨rfl,tv⟩ ⟨Fz.r F5,by show SB.cells _ [.str _]=SB.cells _ [.str _];rw[yfz],tv⟩) ?_
  rintro⟨⟨j,G2⟩,m,hj⟩ ae ai;replace m:Fz.le F G2:=m;replace hj:j<=(b[k]'d).2.length:=hj;have a1:=BY (O k) (b[k]'d).2 j ad;by_cases q:j < (b[k]'d).2.length
  ·have u:(j:Int) < (((b[k]'d).2.length:Nat):Int):=by omega
   have J:(b[k]'d).2.length - (j+1) < (b[k]'d).2.length - j:=by omega
   have U:j < 4611686018427387904:=by omega
   have ah:=zF (O k) (b[k]'d).2 j q;have Z:=Sl.lt aa q;have an:=Sl.at ac q;refine bri u ⟨Z,⟨by simp,u⟩,_,m _ _ (ab Z),_,an,?_⟩;refine bM 7 (fun _=>.arr 3 1 ([((b[k]'d).2[j]'q).1,((b[k]'d).2[j]'q).2].map encI) 2) ?_;intro b5 F6 l6 al;refine useS (p F6 _ [((b[k]'d).2[j]'q).1,((b[k]'d).2[j]'q).2] (Sl.new (l:=[((b[k]'d).2[j]'q).1,((b[k]'d).2[j]'q).2]) (cap:=2) (al 0 rfl)) ss (encP (O k) (b[k]'d).2 j) oo) [(1,2)] ⟨fk _ _,tv⟩ ⟨rfl,tv⟩ ?_;rintro E F7 h0 n0 Y ⟨rfl,rfl,rfl,rfl⟩;exact⟨⟨(j+1,F7),Fz.t m l6,q⟩,J,leR [] ae ai rfl ⟨tv,fk _ _,tv⟩ ⟨cnt U,tv⟩ ⟨Fz.r F7,congrArg (fun s=>SB.cells 9 [.str s]) ah.symm,tv⟩⟩
  ·have u:¬(j:Int) < (((b[k]'d).2.length:Nat):Int):=by omega
   have ag:=BW (O k) (b[k]'d);have am:j=(b[k]'d).2.length:=by omega
   have I:encP (O k) (b[k]'d).2 j=O (k+1):=by rw[am,ag,<-af]
   refine brj u ?_;exact⟨⟨(k+1,G2),m,g⟩,T,leRn [_,_,_] [_,_] [] M S rfl ⟨tv,cF _ (.inr oo),fk _ _,tv,tv⟩ ⟨cnt V,tv⟩ ⟨Fz.r G2,rfl,congrArg (fun s=>SB.cells 9 [.str s]) I,tv⟩⟩
 ·have gi:¬(k:Int) < (b.length:Int):=by omega
  have K:k=8:=by omega
  subst K;refine brj gi ?_;exact endFs (.ret (.tup [.va (.str (O 8)),.va (.int .i64 0)])) L (.inr ⟨rfl,rfl⟩)
theorem eP(F:Fz)(b:Bool)(v:Value):Fo prog F 144 [.va (.bool b),.va (.ifc 213 v)] (fun o a=>F=a/\((b=true/\o=.ret (.tup []))\/(b=false/\o=.panic (.iface 213 v)))):=by
 refine foS func144 ?_;refine br (fun g=>?_) (fun g=>?_)
 ·exact endFo (.panic (.iface 213 v)) F rfl (Fz.r F) (Fz.r F) ⟨rfl,.inr ⟨not_t g,rfl⟩⟩ rfl rfl
 ·exact endFs (.ret (.tup [])) (Fz.r F) ⟨rfl,.inl ⟨by simpa using g,rfl⟩⟩
def crd(s:List UInt8)(p:Int):Ent:=.one (.cells 139 [.str s,.int .i64 p])
theorem dj{n:Nat}(s:List UInt8)(p:Int):(crd s p).below n:=(SB.bB_ok rfl:SB.below n (.cells 139 [.str s,.int .i64 p]))
theorem eh(F:Fz)(s:List UInt8)(p n x:Int)(f:s.length<=1000000000000000000)(e:i64 p)(d:getI s p=(n,x,0)):
  Ct prog 143 [.va (.ptr ⟨1,0,0,0,0⟩)] F [(1,crd s p)] 2
   (fun o b c n0=>F=b/\n0=2/\o=.ret (.va (.int .i64 n))/\c=[(1,crd s x)]):=by
 have a:=nF F s p f e;rw[d]at a;refine ctS func143 ?_;refine dwS (lk [0,1,2,3,4,5,6,7] (.alt 8 (lk [9,10,11,12,13,14,15] .done) .nil)) [1] ?_;conv=>whnf
 repeat' ((conv=>whnf);first
  |refine⟨rfl,?_⟩
  |refine⟨Fz.r _,rfl,?_⟩
  |refine⟨Fz.r _,rfl,rfl,?_⟩
  |refine⟨⟨by simp,by simp⟩,?_⟩
  |fail)
 refine usePs (a) ?_;refine⟨Fz.r F,rfl,?_⟩;refine useFt (eP F (decide ((0:Int)=0)) _) ?_;rintro _ _ g ⟨rfl,⟨hb,rfl⟩ | ⟨hb,rfl⟩⟩
 ·exact clean [] (.ret (.va (.int .i64 n))) F [(1,crd s x)] 2 ⟨Fz.r F,rfl,rfl,rfl,rfl⟩ (aO _) rfl rfl trivial ⟨dj s _,tv⟩ ⟨Fz.r F,rfl,tv⟩
 ·exact absurd hb dd
theorem ri(F:Fz)(s:List UInt8)(p x:Int)(t:List UInt8)(f:s.length<=1000000000000000000)(e:i64 p)(d:getS s p=(t,x,0)):
  Ct prog 142 [.va (.ptr ⟨1,0,0,0,0⟩)] F [(1,crd s p)] 2
   (fun o b c n0=>F=b/\n0=2/\o=.ret (.va (.str t))/\c=[(1,crd s x)]):=by
 have a:=o8 F s p f e;rw[d]at a;refine ctS func142 ?_;refine dwS (lk [0,1,2,3,4,5,6,7] (.alt 8 (lk [9,10,11,12,13,14,15] .done) .nil)) [1] ?_;conv=>whnf
 repeat' ((conv=>whnf);first
  |refine⟨rfl,?_⟩
  |refine⟨Fz.r _,rfl,?_⟩
  |refine⟨Fz.r _,rfl,rfl,?_⟩
  |refine⟨⟨by simp,by simp⟩,?_⟩
  |fail)
 refine usePs (a) ?_;refine⟨Fz.r F,rfl,?_⟩;refine useFt (eP F (decide ((0:Int)=0)) _) ?_;rintro _ _ g ⟨rfl,⟨hb,rfl⟩ | ⟨hb,rfl⟩⟩
 ·exact clean [] (.ret (.va (.str t))) F [(1,crd s x)] 2 ⟨Fz.r F,rfl,rfl,rfl,rfl⟩ (aO _) rfl rfl trivial ⟨dj s _,tv⟩ ⟨Fz.r F,rfl,tv⟩
 ·exact absurd hb dd
