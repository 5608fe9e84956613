import Derived.Test.YtfnkamphhpldcaaGreatDoorK30
import Derived.Test.YtfnkamphhpldcaaGreatDoorK13
import Derived.Test.YtfnkamphhpldcaaGreatDoorK21
import Derived.Test.YtfnkamphhpldcaaGreatDoorK32
set_option maxHeartbeats 64000000
namespace Go.Proofs.YtfnkamphhpldcaaGreatDoor
open Go Sx Tryz
set_option maxRecDepth 100000
def dC(a b:Crt):Bool:=decide (a.dst=b.src)&&(crtOk b&&decide (a.len+b.len<=64))
def fo(x y:Kp):Kp:=(x.1,(compR x.1 x.2 y.2).1)
def joinC(a b:Crt):Crt:=⟨a.src,b.dst,a.len+b.len,List.zipWith fo a.cl b.cl⟩
def badE:SA:=.ifc 213 (.int .i64 100)
theorem jO1{a b:Crt}(h:(!(a.dst==b.src))=true):dC a b=false:=by
 have h1:(a.dst==b.src)=false:=by simpa using h
 simp only[dC,beqD h1,jv]
theorem jO2{a b:Crt}(h:(!crtOk b)=true):dC a b=false:=by
 have h1:crtOk b=false:=by simpa using h
 simp only[dC,h1,jv,yq]
theorem oL{b:Crt}(h:crtOk b=true):1<=b.len/\b.len<=64:=by
 simp only[crtOk,qd,decide_eq_true_eq]at h;exact⟨h.2.2.1,h.2.2.2.1⟩
theorem wk{α:Type}{μ:Mu}{i j c n t:Nat}{L:List α}{x:α}{a b:List UInt8}{w:Int}(d:μ i 0=(j,0))(e:n=L.length+1):SB.cells t [.str a,.str b,.int .i64 w,.slice false j 0 0 2 n c]=SB.ren μ (.cells t [.str a,.str b,.int .i64 w,gA 2 i c (L++[x])]):=by
 subst e;cases L with
 |nil=>simp only[gA,qv,SB.ren,qw,yy,SA.ren,d,qu]
 |cons y r=>simp only[gA,yd,SB.ren,qw,yy,SA.ren,d,qb,qe,qu]
theorem AN(F:Fz)(sa sb:SA)(a b:Crt)(ha:ClsAt F sa a.cl)(hb:ClsAt F sb b.cl)(ad:a.cl.length=8)(al:0<=a.len/\a.len<=1000000)(bi:short a.cl)(au:short b.cl)(bg:b.cl.length < 1000000):
  Fo prog F 70 [.agg (crtS a sa),.agg (crtS b sb)] (fun o K=>
   (dC a b=false/\o=.ret (.tup [.agg [.str a.src,.str b.dst,.int .i64 (IntKind.i64.wrap (a.len+b.len)),.nilsl],.va badE]))\/
   (dC a b=true/\∃sc,o=.ret (.tup [.agg (crtS (joinC a b) sc),.va .nilif])/\ClsAt K sc (joinC a b).cl)):=by
 have E:=gG F sb b hb au bg;have e1:=jO1 (a:=a) (b:=b);have e2:=jO2 (a:=a) (b:=b);have am:crtOk b=true->b.cl.length=8:=fun h=>(iu h).1
 have ao:crtOk b=true->1<=b.len/\b.len<=64:=oL;have ai:dC a b=(decide (a.dst=b.src)&&(crtOk b&&decide (a.len+b.len<=64))):=rfl;obtain⟨v,hv⟩:∃v,crtOk b=v:=⟨_,rfl⟩
 rw[hv]at E e2 am ao ai;clear hv;obtain⟨p,I,nA,d⟩:=a;obtain⟨J,dB,j,e⟩:=b
 have fin:∀(F1:Fz) (h:Hp) (nx:Nat),dC ⟨p,I,nA,d⟩ ⟨J,dB,j,e⟩=false->lget h 0=some (.frz F1)->Fz.le F F1->Cln 1 (FoK F (fun o K=>
   (dC ⟨p,I,nA,d⟩ ⟨J,dB,j,e⟩=false/\o=.ret (.tup [.agg [.str p,.str dB,.int .i64 (IntKind.i64.wrap (nA+j)),.nilsl],.va badE]))\/
   (dC ⟨p,I,nA,d⟩ ⟨J,dB,j,e⟩=true/\∃sc,o=.ret (.tup [.agg (crtS (joinC ⟨p,I,nA,d⟩ ⟨J,dB,j,e⟩) sc),.va .nilif])/\ClsAt K sc (joinC ⟨p,I,nA,d⟩ ⟨J,dB,j,e⟩).cl))) (.ret (.tup [.agg [.str p,.str dB,.int .i64 (IntKind.i64.wrap (nA+j)),.nilsl],.va badE])) h nx:=by
  intro F1 h nx hj h0 q;exact endFo (.ret (.tup [.agg [.str p,.str dB,.int .i64 (IntKind.i64.wrap (nA+j)),.nilsl],.va badE])) F1 h0 q (Fz.r F1) (.inl ⟨hj,rfl⟩) (aP _) rfl
 obtain⟨an,ab,ae,ac,aL,ar,rfl,a1,a2,a3,a4⟩:=ha;obtain⟨bn,bb,be,bc,bL,cc,rfl,b1,b2,b3,b4⟩:=hb
 have hf:∀k (h:k < d.length) (h':k < e.length),(fun k=>fo (d[k]?.getD (0,[])) (e[k]?.getD (0,[]))) k=((d[k]'h).1,(compR (d[k]'h).1 (d[k]'h).2 (e[k]'h').2).1):=fun k h h'=>by
  simp only[qc h,qc h',yk,fo]
 obtain⟨f,ba⟩:∃f:Nat->Kp,f=fun k=>fo (d[k]?.getD (0,[])) (e[k]?.getD (0,[])):=⟨_,rfl⟩
 rw[<-ba]at hf
 let S (c:Nat) (l:List ZC):Ent:=.one (.cells 48 [.str p,.str dB,.int .i64 (IntKind.i64.wrap (nA+j)),gA 2 5 c l])
 have ah:∀(n c:Nat) (l:List ZC),5 < n->(S c l).below n:=fun n c l hn=>by
  intro a ha;simp only[qh,qq,or_false]at ha;rcases ha with rfl | rfl | rfl | rfl
  ·trivial
  ·trivial
  ·trivial
  ·exact e9 oo _ _ _
 refine foS func70 ?_;refine⟨fun g1=>?_,fun g1=>?_⟩
 rotate_left
 ·exact fin F _ _ (e1 g1) rfl (Fz.r F)
 refine useFs E ?_;rintro _ F1 l1 rfl;refine⟨fun W=>?_,fun W=>?_⟩
 rotate_left
 ·exact fin F1 _ _ (e2 W) rfl l1
 replace W:v=true:=by simpa using W
 have hn:=ao W;have h8:=am W;replace hn:1<=j/\j<=64:=hn;replace h8:e.length=8:=h8;replace ad:d.length=8:=ad;replace al:0<=nA/\nA<=1000000:=al;have hw:IntKind.i64.wrap (nA+j)=nA+j:=aI oo oo
 have aj:decide (I=J)=true:=by
  have h:(I==J)=true:=by simpa using g1
  exact beqD h
 by_cases g3:nA+j<=64
 ·have hj:dC ⟨p,I,nA,d⟩ ⟨J,dB,j,e⟩=true:=by rw[ai,aj,W,decide_eq_true g3];rfl
  refine br (fun g=>absurd (od g) (by show¬(64:Int) < IntKind.i64.wrap (nA+j);rw[hw];omega)) (fun _=>?_);conv=>whnf
  refine aH hΘ (X:={ y:Nat×List ZC×Nat×Fz // Fz.le F y.2.2.2/\y.1<=8/\y.2.1.length=y.1/\RowOf y.2.2.2 f y.2.1 }) (fun y=>[(39,.va (.int .i64 y.1.1))]) (7::8::jr 40 26 [])
   (fun y=>[(0,.frz y.1.2.2.2),(1,.one (.cells 48 (crtS ⟨p,I,nA,d⟩ (.slice an 0 ab ae 2 d.length ac)))),(2,.one (.cells 48 (crtS ⟨J,dB,j,e⟩ (.slice bn 0 bb be 2 e.length bc)))),
    (3,.one (.cells 48 [.str [],.str [],.int .i64 0,.nilsl])),(4,S y.1.2.2.1 y.1.2.1),(5,gE 52 2 encZ y.1.2.2.1 y.1.2.1)]) 6 (fun y=>8 - y.1.1) ⟨(0,[],0,F1),l1,by omega,rfl,RowOf.nil⟩
   (fun hH hT=>leI [(5,5)] hH hT rfl ⟨tv,cR _ (.inr oo),cR _ (.inr oo),cR ⟨[],[],0,[]⟩ (sk:=.nilsl) trivial,ah 6 0 [] oo,bP aD oo _ _ _ _,tv⟩ ⟨rfl,tv⟩ ⟨Fz.r F1,rfl,rfl,rfl,rfl,rfl,tv⟩) ?_
  rintro⟨⟨k,o,co,G⟩,L,hk,ho,D⟩ hH hT;replace L:Fz.le F G:=L;replace hk:k<=8:=hk;replace ho:o.length=k:=ho;replace D:RowOf G f o:=D;by_cases g:k < 8
  ·have gA:k < d.length:=by omega
   have T:k < e.length:=by omega
   have gi:(k:Int) < (d.length:Int):=by omega
   have ak:(k:Int) < (e.length:Int):=by omega
   have aq:k+1<=8:=g;have Y:8 - (k+1) < 8 - k:=by omega
   have Z:k < 4611686018427387904:=by omega
   have M:=SlR.at a4 gA;obtain⟨y,hy,sx,rfl,a6⟩:=M;have M:=SlR.at b4 T;obtain⟨z,hz,sy,rfl,a7⟩:=M;have O:=Dr G sx sy (d[k]'gA).2 (e[k]'T).2 (d[k]'gA).1 (a6.mono L) (a7.mono L) (bi _ (qx gA)) (au _ (qx T));have U:=SlR.lt a1 gA;have V:=SlR.lt b1 T;have bd:=hf k gA T;have a5:∀(B:Fz) (z:ZC),Fz.le G B->KpR B z.1 ((d[k]'gA).1,(compR (d[k]'gA).1 (d[k]'gA).2 (e[k]'T).2).1)->RowOf B f (o++[z]):=fun B z q hz=>(D.mono q).snoc (by rw[ho,bd];exact hz)
   have aa:∀z:ZC,(o++[z]).length=k+1:=fun z=>by rw[qb,ho];rfl
   obtain⟨bu,bq,bt,bs,bp,bw,rfl,bk,bl,bm,bo⟩:=a6;obtain⟨ca,b7,b9,b8,b6,cb,rfl,bx,bz,b0,b5⟩:=a7;rcases o with _ | ⟨o0,m⟩
   ·refine bri gi ⟨U,⟨by simp,gi⟩,_,L _ _ (a2 U),_,hy,?_⟩;refine dwS (lk [0,2,4,5,6,7,8,9] (.alt 1 (.alt 3 (.alt 10 (lk [11,12,13,14] (.alt 15 .done .nil)) .nil) .nil) (.alt 3 (.alt 1 (.alt 10 (lk [11,12,13,14] (.alt 15 .done .nil)) .nil) .nil) .nil))) [2] ?_;refine⟨rfl,V,⟨by simp,ak⟩,rfl,_,L _ _ (b2 V),_,hz,?_,?_⟩
    all_goals
     refine⟨Fz.r G,rfl,Fz.r G,rfl,?_⟩;refine useFs O ?_;rintro _ B l2 ⟨sc,rfl,Q⟩;have R:=Q;obtain⟨A,s,w,u,az,a0,rfl,av,aw,ax,ay⟩:=Q;refine⟨l2,rfl,Fz.r B,rfl,nb rfl,[[.int .i64 (d[k]'gA).1,.slice A 0 s w 2 (compR (d[k]'gA).1 (d[k]'gA).2 (e[k]'T).2).1.length u]],rfl,rfl,rfl,by show 1*32<=140737488355328;omega,fun c' a9=>?_⟩;exact⟨⟨(k+1,[]++[mkZ (d[k]'gA).1 (.slice A 0 s w 2 (compR (d[k]'gA).1 (d[k]'gA).2 (e[k]'T).2).1.length u) rfl],c',B),Fz.t L l2,aq,aa _,a5 B _ l2 ⟨_,rfl,R⟩⟩,Y,leR [(5,8)] hH hT rfl ⟨tv,cR _ (.inr oo),cR _ (.inr oo),cR ⟨[],[],0,[]⟩ (sk:=.nilsl) trivial,ah 6 c' _ oo,bP aD oo _ _ _ _,tv⟩ ⟨cnt Z,tv⟩ ⟨Fz.r B,rfl,rfl,rfl,wk (μ:=sig [(5,8)]) rfl rfl,cQ (μ:=sig [(5,8)]) aD (fun k=>rfl) (aZ _ (by rw[qo];rfl)),tv⟩⟩
   ·have bj:(m.length+1+1)*32<=140737488355328:=by
     have h9:m.length+1=k:=ho;omega
    refine bri gi ⟨U,⟨by simp,gi⟩,_,L _ _ (a2 U),_,hy,?_⟩;refine dwS (lk [0,2,4,5,6,7,8,9] (.alt 1 (.alt 3 (.alt 10 (lk [11,12,13,14] (.alt 15 .done .nil)) .nil) .nil) (.alt 3 (.alt 1 (.alt 10 (lk [11,12,13,14] (.alt 15 .done .nil)) .nil) .nil) .nil))) [2] ?_;refine⟨rfl,V,⟨by simp,ak⟩,rfl,_,L _ _ (b2 V),_,hz,?_,?_⟩
    all_goals
     refine⟨Fz.r G,rfl,Fz.r G,rfl,?_⟩;refine useFs O ?_;rintro _ B l2 ⟨sc,rfl,Q⟩;have R:=Q;obtain⟨A,s,w,u,az,a0,rfl,av,aw,ax,ay⟩:=Q;refine⟨l2,rfl,Fz.r B,rfl,nb rfl,[[.int .i64 (d[k]'gA).1,.slice A 0 s w 2 (compR (d[k]'gA).1 (d[k]'gA).2 (e[k]'T).2).1.length u]],rfl,rfl,rfl,by simp,rfl,bj,fun c' a9=>?_⟩;exact⟨⟨(k+1,(o0::m)++[mkZ (d[k]'gA).1 (.slice A 0 s w 2 (compR (d[k]'gA).1 (d[k]'gA).2 (e[k]'T).2).1.length u) rfl],c',B),Fz.t L l2,aq,aa _,a5 B _ l2 ⟨_,rfl,R⟩⟩,Y,leR [(5,8)] hH hT rfl ⟨tv,cR _ (.inr oo),cR _ (.inr oo),cR ⟨[],[],0,[]⟩ (sk:=.nilsl) trivial,ah 6 c' _ oo,bP aD oo _ _ _ _,tv⟩ ⟨cnt Z,tv⟩ ⟨Fz.r B,rfl,rfl,rfl,wk (μ:=sig [(5,8)]) rfl rfl,cQ (μ:=sig [(5,8)]) aD (fun k=>rfl) (aZ _ (by rw[qo];rfl)),tv⟩⟩
  ·have bf:k=8:=by omega
   have ag:o.length=8:=ho.trans bf;have gi:¬(k:Int) < (d.length:Int):=by omega
   have af:(joinC ⟨p,I,nA,d⟩ ⟨J,dB,j,e⟩).cl.length=8:=by
    show(List.zipWith fo d e).length=8;rw[qb1,ad,h8];rfl
   have ap:∀(K:Fz) (b c n:Nat),Fz.le G K->K b=some (.arr 52 2 (o.map encZ) c)->n=8->ClsAt K (.slice false 0 b 0 2 n c) (joinC ⟨p,I,nA,d⟩ ⟨J,dB,j,e⟩).cl:=fun K b c n q hb hn=>by
    have h:=(D.mono q).sl (cap:=c) (l:=(joinC ⟨p,I,nA,d⟩ ⟨J,dB,j,e⟩).cl) hb (by rw[ag,af]) fun i x hx=>by
     have hi:i < 8:=by have:=(qg.1 hx).1;rw[af]at this;exact this
     rw[hf i oo oo];replace hx:(List.zipWith fo d e)[i]? =some x:=hx;rw[List.getElem?_zipWith,qc (show i < d.length by omega),qc (show i < e.length by omega)]at hx;exact(Option.some.inj hx).symm
    rw[af]at h;subst hn;exact h
   rcases o with _ | ⟨o0,m⟩
   ·cases ag
   ·have bh:m.length+1=8:=ag;refine brj gi ?_;refine cD 5 (fun _=>.arr 52 2 ((o0::m).map encZ) co) rfl rfl rfl (fun _ _=>by exact dt (μ:=resP _) aD (fun k=>rfl) rfl _ _ _) (fun _ _=>dv aD oo _ _ _ _) ?_;intro b' K q a8;refine endFo (.ret (.tup [.agg [.str p,.str dB,.int .i64 (nA+j),.slice false 0 (b' 0) 0 2 (m.length+1) co],.va .nilif])) K rfl (Fz.t L q) (Fz.r K) (.inr ⟨hj,_,rfl,ap K _ _ _ q (a8 0 ⟨rfl,rfl⟩) bh⟩) ?_ rfl;exact⟨(by show SC.agg [.str p,.str dB,.int .i64 (nA+j),.slice false 0 (b' 0) 0 2 (m.length+1) co]=SC.agg [.str p,.str dB,.int .i64 (IntKind.i64.wrap (nA+j)),.slice false 0 (b' 0) 0 2 (m.length+1) co];rw[hw]),rfl,tv⟩
 ·have hj:dC ⟨p,I,nA,d⟩ ⟨J,dB,j,e⟩=false:=by rw[ai,aj,W,decide_eq_false g3];rfl
  refine br (fun _=>?_) (fun g=>absurd (show(64:Int) < IntKind.i64.wrap (nA+j)by rw[hw];omega) (oe g));exact fin F1 _ _ hj rfl l1
def CrtR(F:Fz)(y:List SA)(c:Crt):Prop:=∃sk,y=crtS c sk/\ClsAt F sk c.cl
theorem CrtR.mono{F b:Fz}{y:List SA}{x:Crt}(h:CrtR F y x)(a:Fz.le F b):CrtR b y x:=by
 obtain⟨sk,h1,c⟩:=h;exact⟨sk,h1,KpsAt.up c a⟩
abbrev mX(F:Fz)(a:SA)(l:List Crt):Prop:=SlR F 48 4 (CrtR F) a l
def foldS:Crt->List Crt->Option Crt
 |a,[]=>some a
 |a,b::r=>if dC a b=true then foldS (joinC a b) r else none
structure Acc(a:Crt):Prop where
 n:a.cl.length=8
 l:0<=a.len/\a.len<=64
 s:short a.cl
theorem Acc.join{a b:Crt}(h:Acc a)(c:dC a b=true):Acc (joinC a b):=by
 simp only[dC,qd,decide_eq_true_eq]at c;have e:=(iu c.2.1).1;have g:=oL c.2.1;refine⟨?_,?_,?_⟩
 ·show(List.zipWith fo a.cl b.cl).length=8;rw[qb1,h.n,e];rfl
 ·have:=h.l;show 0<=a.len+b.len/\a.len+b.len<=64;omega
 ·intro x f;obtain⟨i,d,rfl⟩:=List.getElem_of_mem (show x∈List.zipWith fo a.cl b.cl from f);rw[List.getElem_zipWith];show(compR _ _ _).1.length < _;unfold compR;split
  ·show(normS _).length < _;have:=vG ((a.cl[i]'(by rw[qb1]at d;omega)).2++(b.cl[i]'(by rw[qb1]at d;omega)).2);omega
  ·simp
theorem Acc.ok{a:Crt}(h:crtOk a=true)(b:short a.cl):Acc a:=⟨(iu h).1,by have:=oL h;omega,b⟩
theorem AK(F:Fz)(sb j S M:Nat)(L:List (List SA))(f:Crt)(r:List Crt)(hb:F sb=some (.arr 48 4 L M))(hL:∀(k:Nat) x,(f::r)[k]? =some x->∃y,L[j+k]? =some y/\CrtR F y x)(ac:r.length+1<=S)
  (ha:Acc f)(hs:∀c∈r,short c.cl)(hl:∀c∈r,c.cl.length < 1000000)(hr:r.length < 1000000):
  Fo prog F 69 [.va (.slice false 0 sb j 4 (r.length+1) S),.va (.fn (.func 70) [])] (fun o F'=>
   (foldS f r=none/\∃x y n,o=.ret (.tup [.agg [.str x,.str y,.int .i64 n,.nilsl],.va badE]))\/
   (∃c,foldS f r=some c/\∃sk,o=.ret (.tup [.agg (crtS c sk),.va .nilif])/\ClsAt F' sk c.cl)):=by
 have h0:=hL 0 f rfl;obtain⟨y0,aa,ad,rfl,B⟩:=h0;have D:=B;obtain⟨kn,kb,ke,kc,kL,kr,rfl,k1,k2,k3,k4⟩:=B;refine foS func69 ?_;refine⟨rfl,⟨by simp,by simp⟩,_,hb,_,aa,⟨by decide,by omega⟩,?_⟩;conv=>whnf
 refine aH hΘ (X:={ x:Nat×Crt×(Bool×Nat×Nat×Nat)×Fz // Fz.le F x.2.2.2/\x.1<=r.length/\foldS f r=foldS x.2.1 (r.drop x.1)/\Acc x.2.1/\ClsAt x.2.2.2 (.slice x.2.2.1.1 0 x.2.2.1.2.1 x.2.2.1.2.2.1 2 x.2.1.cl.length x.2.2.1.2.2.2) x.2.1.cl }) (fun x=>[(7,.va .nilif),(16,.va (.int .i64 x.1.1))]) (9::jr 17 13 [])
  (fun x=>[(0,.frz x.1.2.2.2),(1,.one (.cells 48 [.str [],.str [],.int .i64 0,.nilsl])),(2,.one (.cells 48 (crtS x.1.2.1 (.slice x.1.2.2.1.1 0 x.1.2.2.1.2.1 x.1.2.2.1.2.2.1 2 x.1.2.1.cl.length x.1.2.2.1.2.2.2))))]) 3 (fun x=>r.length - x.1.1) ⟨(0,f,(kn,kb,ke,kc),F),Fz.r F,by simp,rfl,ha,D⟩
  (fun T U=>leI [] T U rfl ⟨tv,cR ⟨[],[],0,[]⟩ (sk:=.nilsl) trivial,cR _ (.inr oo),tv⟩ ⟨rfl,rfl,tv⟩ ⟨Fz.r F,rfl,rfl,tv⟩) ?_
 rintro⟨⟨k,a,⟨nl,b,e,c⟩,G⟩,m,I,R,d,h⟩ T U;replace m:Fz.le F G:=m;replace I:k<=r.length:=I;replace R:foldS f r=foldS a (r.drop k):=R;replace d:Acc a:=d;replace h:ClsAt G (.slice nl 0 b e 2 a.cl.length c) a.cl:=h;by_cases g:k < r.length
 ·have O:(k:Int) < ((r.length+1 - 1:Nat):Int):=by omega
  have W:(f::r)[k+1]? =some (r[k]'g):=by rw[qa2,qc g]
  have q:=hL (k+1) (r[k]'g) W;obtain⟨y,hy,sk,rfl,K⟩:=q;have i:=qx g;have p:=AN G _ sk a (r[k]'g) h (KpsAt.up K m) d.n (by have:=d.l;omega) d.s (hs _ i) (hl _ i);have A:r.length - (k+1) < r.length - k:=by omega
  have E:k < 4611686018427387904:=by omega
  have J:foldS f r=if dC a (r[k]'g)=true then foldS (joinC a (r[k]'g)) (r.drop (k+1))else none:=by
   rw[R,jj g];rfl
  have ab:L[(if S=Int.toNat 1 then j else j+Int.toNat 1)+((k:Nat):Int).toNat]? =some (crtS (r[k]'g) sk):=by
   rw[if_neg (by show¬S=1;omega),show j+Int.toNat 1+((k:Nat):Int).toNat=j+(k+1)by show j+1+k=j+(k+1);omega];exact hy
  obtain⟨mn,mb,me,mc,mL,mr,rfl,m1,m2,m3,m4⟩:=K;refine bri O ⟨rfl,⟨by simp,O⟩,_,m _ _ hb,_,ab,?_⟩;refine useFs p ?_;rintro _ G2 l2 (⟨Q,rfl⟩ | ⟨Q,sj,rfl,u⟩)
  ·have hn:foldS f r=none:=by rw[J,if_neg (by rw[Q];simp)]
   exact endFs (.ret (.tup [.agg [.str a.src,.str (r[k]'g).dst,.int .i64 (IntKind.i64.wrap (a.len+(r[k]'g).len)),.nilsl],.va badE])) (Fz.t m l2) (.inl ⟨hn,_,_,_,rfl⟩)
  ·have Z:foldS f r=foldS (joinC a (r[k]'g)) (r.drop (k+1)):=by rw[J,if_pos Q]
   have V:=d.join Q;have w:=u;obtain⟨jn,jb,je,jc,jL,jr,rfl,j1,j2,j3,j4⟩:=u;exact⟨⟨(k+1,joinC a (r[k]'g),(jn,jb,je,jc),G2),Fz.t m l2,g,Z,V,w⟩,A,leR [] T U rfl ⟨tv,cR ⟨[],[],0,[]⟩ (sk:=.nilsl) trivial,cR _ (.inr oo),tv⟩ ⟨rfl,cnt E,tv⟩ ⟨Fz.r G2,rfl,rfl,tv⟩⟩
 ·have O:¬(k:Int) < ((r.length+1 - 1:Nat):Int):=by omega
  have Y:foldS f r=some a:=by rw[R,yg oo];rfl
  refine brj O ?_;exact endFs (.ret (.tup [.agg (crtS a (.slice nl 0 b e 2 a.cl.length c)),.va .nilif])) m (.inr ⟨_,Y,_,rfl,h⟩)
theorem pa{h:Hp}{nx:Nat}{K:Out->Hp->Nat->Prop}{x y:SA}{c d:Value}{b:Bool}(l:∀ρ,x.den ρ=c)(m:∀ρ,y.den ρ=d)
  (g:∀w,Calls prog 135 #[c,d] w fun e f=>e=.returned (.bool b)/\f=w)(i:K (.ret (.va (.bool b))) h nx):za6 prog 135 [.va x,.va y] h nx K:=by
 unfold za6;intro C ρ w vs S a n;refine⟨Sx.enters_of func135 rfl dd,?_⟩
 match vs,a with
 |[v,u],a=>
  have k:v=c:=by
   have h1:v=x.den ρ:=a.1;rw[h1,l]
  have j:u=d:=by
   have h1:u=y.den ρ:=a.2.1;rw[h1,m]
  subst k j;refine(g w).mono ?_;rintro e f ⟨rfl,rfl⟩;exact⟨.ret (.va (.bool b)),h,nx,ρ,i,⟨_,rfl,rfl⟩,S,fun _ _=>rfl,qi _,tv⟩
theorem AQ(F:Fz):Fo prog F 71 [.va .nilif] (fun o a=>o=.ret (.va (.int .i64 0))/\a=F):=by
 refine foS func71 ?_;refine pa (fun _=>rfl) (fun _=>rfl) (yat _) ?_;refine brd dd ?_;exact endPu rfl (Fz.r F) (aP _) rfl
theorem wj(F:Fz):Fo prog F 71 [.va badE] (fun o a=>o=.ret (.va (.int .i64 100))/\a=F):=by
 refine foS func71 ?_;refine pa (fun _=>rfl) (fun _=>rfl) (is_F 100 10) ?_;refine brd dd ?_;exact endPu rfl (Fz.r F) (aP _) rfl
theorem KpsAt.zrow{F:Fz}{t:Nat}{A:SA}{c:List Kp}(h:SlR F t 2 (KpR F) A c):∃(nil:Bool) (b e cap:Nat) (L:List (List SA)) (d:Nat) (o:List ZC),A=.slice nil 0 b e 2 c.length cap/\(nil=true->c=[])/\(nil=false->F b=some (.arr t 2 L d))/\e+c.length<=L.length/\
  (L.drop e).take c.length=o.map encZ/\o.length=c.length/\∀(i:Nat) (z:ZC) (x:Kp),o[i]? =some z->c[i]? =some x->KpR F z.1 x:=by
 obtain⟨nil,b,e,cap,L,d,h1,n,G,I,J⟩:=h;refine⟨nil,b,e,cap,L,d,?_⟩
 have w:∀(c:List Kp) (M:List (List SA)),(∀(k:Nat) x,c[k]? =some x->∃y,M[k]? =some y/\KpR F y x)->∃o:List ZC,M.take c.length=o.map encZ/\o.length=c.length/\∀(i:Nat) (z:ZC) (x:Kp),o[i]? =some z->c[i]? =some x->KpR F z.1 x:=by
  intro c
  induction c with
  |nil=>intro M _;exact⟨[],by simp,rfl,fun i z x h=>by simp at h⟩
  |cons k r ih=>
   intro M B;obtain⟨y,s,q⟩:=B 0 k rfl;cases M with
   |nil=>simp at s
   |cons m M'=>
    have u:m=y:=by simpa using s
    subst u
    obtain⟨o,f,g,j⟩:=ih M' (fun i x l=>by
     obtain⟨y,h1,n⟩:=B (i+1) x (by simpa using l);exact⟨y,by simpa using h1,n⟩)
    have E:∀a∈m,a.z=true:=by
     obtain⟨A,rfl,K⟩:=q;intro a D;simp only[qh,qq,or_false]at D;rcases D with rfl | rfl
     ·rfl
     ·exact K.z
    refine⟨⟨m,E⟩::o,?_,by simp[g],?_⟩
    ·rw[qe,qdy,f];rfl
    ·intro i z x p l;cases i with
     |zero=>
      have h1:(⟨m,E⟩:ZC)=z:=by simpa using p
      have n:k=x:=by simpa using l
      subst h1 n;exact q
     |succ i=>exact j i z x (by simpa using p) (by simpa using l)
 obtain⟨o,f,g,j⟩:=w c (L.drop e) (fun k x l=>by
  obtain⟨y,s,q⟩:=J k x l;exact⟨y,by rw[yz];exact s,q⟩)
 exact⟨o,h1,n,G,I,f,g,j⟩
theorem EF(F:Fz)(b e c d:Nat)(L:List (List SA))(o:List ZC)(n:F b=some (.arr 52 2 L d))(j:e+o.length<=L.length)(i:(L.drop e).take o.length=o.map encZ)(f:o.length=8):
  Ct prog 72 [.va (.slice false 0 b e 2 8 c)] F [] 1
   (fun out l m n0=>l=F/\n0=2/\∃c',out=.ret (.va (.slice false 1 0 0 2 8 c'))/\m=[(1,.one (.arr 52 2 (o.map encZ) c'))]):=by
 rw[f]at j i;rcases o with _ | ⟨g,a⟩
 ·cases f
 have q:a.length+1=8:=f;have h:(0+((g::a).map encZ).length)*32<=140737488355328:=by rw[qa,f];decide
 refine ctS func72 ?_;refine brd dd ⟨52,L,d,n,j,(g::a).map encZ,i,rfl,rfl,rfl,h,fun c' p=>?_⟩;clear p;exact clean [(1,2)] (.ret (.va (.slice false 1 0 0 2 8 c'))) F [(1,.one (.arr 52 2 ((g::a).map encZ) c'))] 2 ⟨Fz.r F,rfl,rfl,c',rfl,rfl⟩ ⟨rfl,(by rw[qa,f]),rfl,.inr ⟨rfl,rfl,rfl,rfl⟩⟩ rfl rfl (Out.bB_ok (o:=.ret (.va (.slice false 1 0 0 2 8 c'))) rfl) ⟨dv aD oo 52 2 c' (g::a),tv⟩ ⟨Fz.r F,(dt (μ:=sig [(1,2)]) aD (fun k=>rfl) rfl _ _ _).symm,tv⟩
def ey:List Crt->Option Crt
 |[]=>none
 |c::r=>if crtOk c=true then foldS c r else none
theorem vg:∀{r:List Crt} {a c:Crt},Acc a->foldS a r=some c->Acc c
 |[],a,c,h,hf=>by cases hf;exact h
 |b::r,a,c,h,hf=>by
  rw[foldS]at hf;split at hf
  ·rename_i d;exact vg (h.join d) hf
  ·cases hf
theorem ot(F:Fz)(nl:Bool)(sb se sc:Nat)(l:List Crt)(hl:mX F (.slice nl 0 sb se 4 l.length sc) l)(T:l.length<=sc)(hs:∀c∈l,short c.cl)(ac:∀c∈l,c.cl.length < 1000000)(ab:l.length < 1000000):
  Fo prog F 30 [.va (.slice nl 0 sb se 4 l.length sc)] (fun o m=>
   (ey l=none/\o=.ret (.tup [.agg [.str [],.str [],.int .i64 0,.nilsl],.va (.int .i64 100)]))\/
   (∃c,ey l=some c/\∃sk,o=.ret (.tup [.agg (crtS c sk),.va (.int .i64 0)])/\ClsAt m sk c.cl)):=by
 have fin:∀(F1:Fz) (h:Hp) (nx:Nat),ey l=none->lget h 0=some (.frz F1)->Fz.le F F1->Cln 1 (FoK F (fun o m=>
   (ey l=none/\o=.ret (.tup [.agg [.str [],.str [],.int .i64 0,.nilsl],.va (.int .i64 100)]))\/
   (∃c,ey l=some c/\∃sk,o=.ret (.tup [.agg (crtS c sk),.va (.int .i64 0)])/\ClsAt m sk c.cl))) (.ret (.tup [.agg [.str [],.str [],.int .i64 0,.nilsl],.va (.int .i64 100)])) h nx:=by
  intro F1 h nx hj h0 d;exact endFo (.ret (.tup [.agg [.str [],.str [],.int .i64 0,.nilsl],.va (.int .i64 100)])) F1 h0 d (Fz.r F1) (.inl ⟨hj,rfl⟩) (aP _) rfl
 obtain⟨bi,b',e',a1,L,ao,ar,l1,l2,l3,l4⟩:=hl;cases ar
 rcases l with _ | ⟨j,r⟩
 ·refine foS func30 ?_;refine gaf dd ?_;exact fin F _ _ rfl rfl (Fz.r F)
 ·have aw:nl=false:=SlR.lt l1 (show 0 < (j::r).length by simp);subst aw;have I:=l2 rfl;have hz:=l4 0 j rfl;obtain⟨y0,an,a0,rfl,Y⟩:=hz;have J:short j.cl:=hs j ss;have a:=gG F a0 j Y J (ac j ss);have f:=fun(hv:crtOk j=true) (F1:Fz) (D:Fz.le F F1)=>AK F1 sb se sc ao L j r (D _ _ I) (fun k x hx=>by obtain⟨y,h1,E⟩:=l4 k x hx;exact⟨y,h1,E.mono D⟩) T (Acc.ok hv J) (fun c M=>hs c (by simp[M])) (fun c M=>ac c (by simp[M])) (by simp at ab;omega)
  obtain⟨kn,kb,ke,kc,kL,kr,rfl,-,-,-,-⟩:=Y
  have ay:crtOk j=true\/crtOk j=false:=by
   cases crtOk j
   ·exact .inr rfl
   ·exact .inl rfl
  rcases ay with hv | hv
  ·rw[hv]at a;have f:=f hv;have B:ey (j::r)=foldS j r:=by rw[ey,if_pos hv]
   refine foS func30 ?_;refine⟨fun _=>?_,fun g=>absurd g (by simp;omega)⟩;refine⟨rfl,⟨by simp,by simp⟩,_,I,_,an,?_⟩;refine useFs a ?_;rintro _ F1 D rfl;refine brd dd ?_;refine useFs (f F1 D) ?_;rintro _ F2 m2 (⟨hn,x,y,n,rfl⟩ | ⟨c,M,sk,rfl,hk⟩)
   ·refine usePs (wj F2) ?_;exact fin F2 _ _ (B.trans hn) rfl (Fz.t D m2)
   ·have S:=vg (Acc.ok hv J) M;have Q:=S.n;have az:=KpsAt.zrow hk;obtain⟨n',b1,e1,c1,L1,r1,o,rfl,z1,z2,z3,z4,z5,z6⟩:=az;have av:n'=false:=SlR.lt z1 (show 0 < c.cl.length by omega);subst av;have ad:o.length=8:=z5.trans Q;refine use (EF F2 b1 e1 c1 r1 L1 o (z2 rfl) (by rw[z5];exact z3) (by rw[z5];exact z4) ad) [] rfl ⟨⟨rfl,Q.symm,rfl,.inr ⟨rfl,rfl,rfl,rfl⟩⟩,tv⟩ rfl trivial (by simp[SV.below,SA.below]) trivial ?_;rintro bj F3 h0 n0 d ⟨rfl,rfl,c',rfl,rfl⟩;conv=>whnf
    have K:∀i (z:ZC) (x:Kp),o[i]? =some z->c.cl[i]? =some x->KpR F3 z.1 x:=fun i z x h1 E=>z6 i z x h1 E
    refine aH hΘ (X:={ x:Nat×List ZC×Fz // Fz.le F x.2.2/\x.1<=8/\x.2.1.length=8/\∀(i:Nat) (z:ZC) (y:Kp),x.2.1[i]? =some z->c.cl[i]? =some y->KpR x.2.2 z.1 y }) (fun x=>[(35,.va (.int .i64 x.1.1))]) (6::jr 36 15 [])
     (fun x=>[(0,.frz x.1.2.2),(1,.one (.cells 48 [.str [],.str [],.int .i64 0,.nilsl])),(2,.one (.cells 48 (crtS c (.slice false 3 0 0 2 8 c')))),(3,.one (.arr 52 2 (x.1.2.1.map encZ) c'))]) 4 (fun x=>8 - x.1.1) ⟨(0,o,F3),Fz.t D m2,by omega,ad,K⟩
     (fun hH hT=>leI [] hH hT rfl ⟨tv,cR ⟨[],[],0,[]⟩ (sk:=.nilsl) trivial,cR _ (.inr oo),dv aD oo 52 2 c' o,tv⟩ ⟨rfl,tv⟩ ⟨Fz.r F3,rfl,rfl,(dt (μ:=tau [] 1 3) aD (fun k=>rfl) rfl _ _ _).trans (dt (μ:=sig []) aD (fun k=>rfl) rfl _ _ _).symm,tv⟩) ?_
    rintro⟨⟨k,p,G⟩,hG,aa,q,e⟩ hH hT;replace hG:Fz.le F G:=hG;replace aa:k<=8:=aa;replace q:p.length=8:=q;replace e:∀(i:Nat) (z:ZC) (y:Kp),p[i]? =some z->c.cl[i]? =some y->KpR G z.1 y:=e;by_cases g:k < 8
    ·have O:(k:Int) < 8:=by omega
     have gk:k < p.length:=by omega
     have A:k < c.cl.length:=by omega
     have U:8 - (k+1) < 8 - k:=by omega
     have Z:k < 4611686018427387904:=by omega
     have au:=e k (p[k]'gk) (c.cl[k]'A) (qc gk) (qc A);obtain⟨sx,ax,am⟩:=au
     have hy:(p.map encZ)[0+(k:Int).toNat]? =some [.int .i64 (c.cl[k]'A).1,sx]:=by
      rw[qn,q9,qt,qc gk];exact congrArg some ax
     have af:∀(u:Fz) (z:ZC),Fz.le G u->KpR u z.1 (c.cl[k]'A)->∀(i:Nat) (z':ZC) (y:Kp),(p.set k z)[i]? =some z'->c.cl[i]? =some y->KpR u z'.1 y:=by
      intro u z d hz i z' y h1 E;by_cases W:k=i
      ·subst W;rw[qcc gk]at h1;rw[qc A]at E;cases h1
       cases E
       exact hz
      ·rw[qbu W]at h1;exact(e i z' y h1 E).mono d
     have ae:∀(z:ZC) (w:List SA),z.1=w->SB.arr 52 2 ((p.map encZ).set (0+(k:Int).toNat) w) c'=(SB.arr 52 2 ((p.set k z).map encZ) c').ren (sig []):=fun z w hw=>by
      rw[dt (μ:=sig []) aD (fun k=>rfl) rfl,qn,q9,qbw,<-hw];rfl
     have aq:=ES G sx (c.cl[k]'A).2 am (S.s _ (qx A));obtain⟨bg,bd,bf,be,bc,bh,rfl,a8,a9,ba,bb⟩:=am;refine bri O ?_;refine dwS (lk [0,1,2,3,4,5,6,7] (.alt 8 (.alt 9 (.look 10 (.look 11 (.alt 12 .done .nil))) .nil) .nil)) [2] ?_;refine⟨rfl,rfl,rfl,⟨by simp,O⟩,_,hy,Fz.r G,rfl,?_⟩;refine useFs aq ?_;rintro _ u u2 ⟨sn,rfl,ag⟩;have ah:=ag;obtain⟨al,ai,ak,aj,a6,a7,rfl,a2,a3,a4,a5⟩:=ag;refine⟨u2,rfl,rfl,⟨by simp,O⟩,_,hy,Fz.r u,rfl,?_⟩;exact⟨⟨(k+1,p.set k (mkZ (c.cl[k]'A).1 (.slice al 0 ai ak 2 (c.cl[k]'A).2.length aj) rfl),u),Fz.t hG u2,g,by show(p.set k _).length=8;rw[qbm];exact q,af u _ u2 ⟨_,rfl,ah⟩⟩,U,leR [] hH hT rfl ⟨tv,cR ⟨[],[],0,[]⟩ (sk:=.nilsl) trivial,cR _ (.inr oo),dv aD oo 52 2 c' _,tv⟩ ⟨cnt Z,tv⟩ ⟨Fz.r u,rfl,rfl,ae _ _ rfl,tv⟩⟩
    ·have O:¬(k:Int) < 8:=by omega
     have V:∀(m:Fz) (b:Nat),Fz.le G m->m b=some (.arr 52 2 (p.map encZ) c')->ClsAt m (.slice false 0 b 0 2 8 c') c.cl:=fun m b d hb=>by
      have h:=SlR.new (F:=m) (t:=52) (sz:=2) (R:=KpR m) (cap:=c') (l:=c.cl) hb (by rw[qa,q,Q]) fun i x hx=>by
       have W:i < p.length:=by rw[q,<-Q];exact(qg.1 hx).1
       exact⟨encZ p[i],by rw[qt,qc W];rfl,(e i p[i] x (qc W) hx).mono d⟩
      rw[Q]at h;exact h
     refine brj O ?_;refine cD 3 (fun _=>.arr 52 2 (p.map encZ) c') rfl rfl rfl (fun _ _=>by exact dt (μ:=resP _) aD (fun k=>rfl) rfl _ _ _) (fun _ _=>dv aD oo _ _ _ _) ?_;intro b' m d ap;exact endFs (.ret (.tup [.agg (crtS c (.slice false 0 (b' 0) 0 2 8 c')),.va (.int .i64 0)])) (Fz.t hG d) (.inr ⟨c,B.trans M,_,rfl,V m _ d (ap 0 rfl)⟩)
  ·rw[hv]at a;have B:ey (j::r)=none:=by rw[ey,if_neg (by rw[hv];simp)]
   refine foS func30 ?_;refine⟨fun _=>?_,fun g=>absurd g (by simp;omega)⟩;refine⟨rfl,⟨by simp,by simp⟩,_,I,_,an,?_⟩;refine useFs a ?_;rintro _ F1 D rfl;refine bre dd ?_;exact fin F1 _ _ B rfl D
abbrev strE(s:List UInt8):Ent:=.one (.cells 9 [.str s])
theorem eZ(n:Nat)(s:List UInt8):(strE s).below n:=fun a b=>by
 simp only[qs]at b;subst b;trivial
theorem CU{l:List Int}{k:Nat}(g:k < l.length):aA (l.take (k+1))=aA (l.take k)++(putIR (l[k]'g)).1:=eN g
theorem yah(F:Fz)(s:SA)(l:List Int)(out:List UInt8)(A:dX F s l)(O:l.length < 1000000)(Q:out.length<=1000000000):
  Ct prog 77 [.va s,.va (.ptr ⟨1,0,0,0,0⟩)] F [(1,strE out)] 2 (fun o u w n0=>u=F/\n0=2/\o=.ret (.tup [])/\w=[(1,strE (out++aA l))]):=by
 obtain⟨J,E,I,G,D,K,rfl,b,j,B,m⟩:=A;refine ctS func77 ?_;conv=>whnf
 refine aH hΘ (X:={ k:Nat // k<=l.length }) (fun x=>[(9,.va (.int .i64 x.1))]) (4::5::6::jr 10 12 [])
  (fun x=>[(0,.frz F),(1,strE (out++aA (l.take x.1)))]) 2 (fun x=>l.length - x.1) ⟨0,by simp⟩
  (fun h i=>leI [] h i rfl ⟨tv,eZ _ _,tv⟩ ⟨rfl,tv⟩ ⟨Fz.r F,by show SB.cells _ [.str out]=SB.cells _ [.str (out++[])];rw[qy],tv⟩) ?_
 rintro⟨k,M⟩ h i;by_cases g:k < l.length
 ·have f:(k:Int) < (l.length:Int):=by omega
  have c:l.length - (k+1) < l.length - k:=by omega
  have d:k < 4611686018427387904:=by omega
  have p:=pfun F (l[k]'g)
  have q:(out++aA (l.take k)).length<=1000000000000:=by
   have y:=gP er (l.take k);rw[qk]at y;show(out++((l.take k).map fun n=>(putIR n).1).flatten).length<=_;rw[qb];omega
  have L:=er (l[k]'g);have e:(out++aA (l.take k)).length+(putIR (l[k]'g)).1.length<=9223372036854775807:=by omega
  have a:out++aA (l.take k)++(putIR (l[k]'g)).1=out++aA (l.take (k+1)):=by rw[CU g,qj]
  refine bri f ⟨Sl.lt b g,⟨by simp,by simpa using g⟩,_,j (Sl.lt b g),_,Sl.at m g,?_⟩;refine usePs (p) ?_;refine⟨e,?_⟩;exact⟨⟨k+1,g⟩,c,leR [] h i rfl ⟨tv,eZ _ _,tv⟩ ⟨cnt d,tv⟩ ⟨Fz.r F,by show SB.cells _ [.str _]=SB.cells _ [.str _];rw[a],tv⟩⟩
 ·have f:¬(k:Int) < (l.length:Int):=by omega
  have a:out++aA (l.take k)=out++aA l:=by rw[ql oo]
  refine brj f ?_;exact clean [] (.ret (.tup [])) F [(1,strE (out++aA l))] 2 ⟨Fz.r F,rfl,rfl,rfl,rfl⟩ trivial rfl rfl (Out.bB_ok (o:=.ret (.tup [])) rfl) ⟨eZ _ _,tv⟩ ⟨Fz.r F,by show SB.cells _ [.str _]=SB.cells _ [.str _];rw[a],tv⟩
def stpN(s:Stp):List UInt8:=aA [s.1,s.2]
def dq(x:Kp):List UInt8:=aA [(x.2.length:Int)]++(x.2.map stpN).flatten
def encC(c:Crt):List UInt8:=(putSR c.src).1++(putSR c.dst).1++aA [c.len]++(c.cl.map dq).flatten
theorem w7(s:Stp):(stpN s).length<=18:=du _
theorem oq(x:Kp)(h:x.2.length<=64):(dq x).length<=1161:=by
 have h1:=du [(x.2.length:Int)];have a:=gP w7 x.2;rw[dq,qb];simp only[qe,qu]at h1;omega
def encP(o:List UInt8)(a:List Stp)(j:Nat):List UInt8:=o++aA [(a.length:Int)]++((a.take j).map stpN).flatten
theorem rY(o:List UInt8)(a:List Stp):encP o a 0=o++aA [(a.length:Int)]:=by simp[encP]
theorem vd(o:List UInt8)(a:List Stp)(j:Nat)(g:j < a.length):encP o a (j+1)=encP o a j++aA [(a[j]'g).1,(a[j]'g).2]:=by
 rw[encP,eN g,<-qj];rfl
theorem wI(o:List UInt8)(x:Kp):encP o x.2 x.2.length=o++dq x:=by
 rw[encP,yp,qj];rfl
theorem wJ(o:List UInt8)(a:List Stp)(j:Nat)(h:a.length<=64):(encP o a j).length<=o.length+1161:=by
 have h1:=du [(a.length:Int)];have b:=gP w7 (a.take j);rw[qk]at b;simp only[qe,qu]at h1;simp only[encP,qb];omega
theorem jO{c:Crt}(h:crtOk c=true):∀x∈c.cl,x.2.length<=64:=by
 simp only[crtOk,qd,decide_eq_true_eq]at h
 have a:∀(l:List Kp) (i:Int),clOk l i=true->∀x∈l,x.2.length<=64:=by
  intro l
  induction l with
  |nil=>intro i _ x hx;simp at hx
  |cons y r ih=>
   intro i h x hx;rw[clOk,qd]at h;rcases qh.1 hx with rfl | hx
   ·have:=h.1;simp only[clAt,qd]at this;exact lL this.2.1
   ·exact ih (i+1) h.2 x hx
 exact a c.cl 1 h.2.2.2.2.2
theorem lz(F:Fz)(sk:SA)(c:Crt)(J:ClsAt F sk c.cl)(hs:short c.cl)(hl:c.cl.length < 1000000):
  Fo prog F 34 [.agg (crtS c sk)] (fun o _=>(crtOk c=false/\o=.ret (.tup [.va (.str []),.va (.int .i64 100)]))\/(crtOk c=true/\o=.ret (.tup [.va (.str (encC c)),.va (.int .i64 0)]))):=by
 have e:=gG F sk c J hs hl
 have ao:crtOk c=true\/crtOk c=false:=by
  cases crtOk c
  ·exact .inr rfl
  ·exact .inl rfl
 rcases ao with hv | hv
 rotate_left
 ·rw[hv]at e ⊢;obtain⟨kn,kb,ke,kc,kL,kr,rfl,k1,k2,k3,k4⟩:=J;refine foS func34 ?_;refine useFs e ?_;rintro _ F1 l1 rfl;refine bre dd ?_;exact endFs (.ret (.tup [.va (.str []),.va (.int .i64 100)])) l1 (.inl ⟨rfl,rfl⟩)
 have h8:=(iu hv).1;have u:=jO hv;rw[hv]at e ⊢;obtain⟨src,f,len,b⟩:=c;replace J:ClsAt F sk b:=J;replace h8:b.length=8:=h8;replace u:∀x∈b,x.2.length<=64:=u
 have ap:src.length=32/\f.length=32:=by
  have h:=hv;simp only[crtOk,qd,decide_eq_true_eq]at h;exact⟨h.1,h.2.1⟩
 obtain⟨kn,kb,ke,kc,kL,kr,rfl,k1,k2,k3,k4⟩:=J;have pA:=fun F1=>kY pfun F1 src oo
 have pB:=fun F1=>kY pfun F1 f oo
 have lA:=ek src;have lB:=ek f;have m:=fun F1 sa n (h:dX F1 sa n) (hn:n.length < 1000000) out (ho:out.length<=1000000000)=>yah F1 sa n out h hn ho
 show Fo prog F 34 [.agg (crtS ⟨src,f,len,b⟩ (.slice kn 0 kb ke 2 b.length kc))] (fun o F'=>(true=false/\o=.ret (.tup [.va (.str []),.va (.int .i64 100)]))\/(true=true/\o=.ret (.tup [.va (.str ((putSR src).1++(putSR f).1++aA [len]++(b.map dq).flatten)),.va (.int .i64 0)])));obtain⟨A,hA⟩:∃A,(putSR src).1=A:=⟨_,rfl⟩
 obtain⟨B,hB⟩:∃B,(putSR f).1=B:=⟨_,rfl⟩
 rw[hA]at pA lA ⊢;rw[hB]at pB lB ⊢;clear hA hB;obtain⟨O,M⟩:∃O:Nat->List UInt8,O=fun k=>A++B++aA [len]++((b.take k).map dq).flatten:=⟨_,rfl⟩
 have O0:A++B++aA [len]=O 0:=by rw[M];simp
 have O8:A++B++aA [len]++(b.map dq).flatten=O 8:=by rw[M];simp only;rw[ql oo]
 have Os:∀k (g:k < b.length),O (k+1)=O k++dq (b[k]'g):=fun k g=>by
  rw[M];simp only;rw[eN g,<-qj]
 have Ol:∀k,(O k).length<=200000:=fun k=>by
  have h1:=du [len]
  have h2:∀l:List Kp,(∀x∈l,x.2.length<=64)->((l.map dq).flatten).length<=1161*l.length:=by
   intro l
   induction l with
   |nil=>intro _;simp
   |cons y r ih=>
    intro h;have h3:=oq y (h y ss);have h4:=ih fun x hx=>h x (by simp[hx])
    rw[qw,jm,qb,qe];omega
  have h5:=h2 (b.take k) fun x hx=>u x (yh hx)
  rw[qk]at h5;rw[M];simp only[qb];simp only[qe,qu]at h1;omega
 rw[O8];clear M O8;refine foS func34 ?_;refine useFs e ?_;rintro _ F1 l1 rfl;refine brd dd ?_;conv=>whnf
 refine rounds hΘ 3 ?_;refine bre dd ⟨⟨by decide,by decide⟩,_,rfl,?_⟩;refine usePs (pA F1) ?_;refine⟨by show 0+A.length<=9223372036854775807;omega,?_⟩;refine bre dd ⟨⟨by decide,by decide⟩,_,rfl,?_⟩;refine usePs (pB F1) ?_;refine⟨by show([]++A).length+B.length<=9223372036854775807;rw[qv];omega,brd dd ?_⟩;refine bS 3 (fun _=>.arr 3 1 ([len].map encI) 1) ?_;intro b2 F2 l2 ai;refine useS (m F2 _ [len] (Sl.new (l:=[len]) (cap:=1) (ai 0 rfl)) ss ([]++A++B) (by rw[qv,qb];omega)) [(1,2)] ⟨eZ _ _,tv⟩ ⟨rfl,tv⟩ ?_;rintro D F3 h0 n0 W ⟨rfl,rfl,rfl,rfl⟩;have m3:=Fz.t l1 l2
 conv=>whnf
 refine aH hΘ (X:={ x:Nat×Fz // Fz.le F x.2/\x.1<=8 }) (fun x=>[(43,.va (.int .i64 x.1.1))]) (11::13::jr 44 25 [])
  (fun x=>[(0,.frz x.1.2),(1,.one (.cells 48 (crtS ⟨src,f,len,b⟩ (.slice kn 0 kb ke 2 b.length kc)))),(2,strE (O x.1.1)),(3,.gone)]) 4 (fun x=>8 - x.1.1) ⟨(0,F3),m3,by omega⟩
  (fun L R=>leI [] L R rfl ⟨tv,cR _ (.inr oo),eZ _ _,tv,tv⟩ ⟨rfl,tv⟩ ⟨Fz.r F3,rfl,by show SB.cells _ [.str _]=SB.cells _ [.str _];rw[<-O0,qv],tv⟩) ?_
 rintro⟨⟨k,G⟩,K,V⟩ L R;replace K:Fz.le F G:=K;replace V:k<=8:=V;by_cases g:k < 8
 ·have d:k < b.length:=by omega
  have gi:(k:Int) < (b.length:Int):=by omega
  have S:8 - (k+1) < 8 - k:=by omega
  have U:k < 4611686018427387904:=by omega
  have ac:=u (b[k]'d) (qx d);have az:=Ol k;have ae:=Os k d;have Q:=SlR.at k4 d;obtain⟨y,hy,a,rfl,an⟩:=Q;have w:=SlR.lt k1 d;obtain⟨ax,au,aw,av,ar,ay,rfl,Z,aa,aq,ab⟩:=an;refine bri gi ⟨w,⟨by simp,gi⟩,_,K _ _ (k2 w),_,hy,?_⟩;refine bS 5 (fun _=>.arr 3 1 ([(((b[k]'d).2.length:Nat):Int)].map encI) 1) ?_;intro b3 F4 l4 aj;refine useS (m F4 _ [(((b[k]'d).2.length:Nat):Int)] (Sl.new (l:=[(((b[k]'d).2.length:Nat):Int)]) (cap:=1) (aj 0 rfl)) ss (O k) oo) [(1,2)] ⟨eZ _ _,tv⟩ ⟨rfl,tv⟩ ?_;rintro D F5 h0 n0 W ⟨rfl,rfl,rfl,rfl⟩;have m4:=Fz.t K l4
  conv=>whnf
  refine aH hΘ (X:={ x:Nat×Fz // Fz.le F x.2/\x.1<=(b[k]'d).2.length }) (fun x=>[(56,.va (.int .i64 x.1.1))]) (13::jr 57 11 [])
   (fun x=>[(0,.frz x.1.2),(2,strE (encP (O k) (b[k]'d).2 x.1.1))]) 6 (fun x=>(b[k]'d).2.length - x.1.1) ⟨(0,F5),m4,by omega⟩
   (fun L R=>leI [] L R rfl ⟨tv,eZ _ _,tv⟩ ⟨rfl,tv⟩ ⟨Fz.r F5,by show SB.cells _ [.str _]=SB.cells _ [.str _];rw[rY],tv⟩) ?_
  rintro⟨⟨j,G2⟩,i,hj⟩ ad ah;replace i:Fz.le F G2:=i;replace hj:j<=(b[k]'d).2.length:=hj;have a0:=wJ (O k) (b[k]'d).2 j ac;by_cases p:j < (b[k]'d).2.length
  ·have q:(j:Int) < (((b[k]'d).2.length:Nat):Int):=by omega
   have I:(b[k]'d).2.length - (j+1) < (b[k]'d).2.length - j:=by omega
   have T:j < 4611686018427387904:=by omega
   have ag:=vd (O k) (b[k]'d).2 j p;have Y:=Sl.lt Z p;have am:=Sl.at ab p;refine bri q ⟨Y,⟨by simp,q⟩,_,i _ _ (aa Y),_,am,?_⟩;refine bS 7 (fun _=>.arr 3 1 ([((b[k]'d).2[j]'p).1,((b[k]'d).2[j]'p).2].map encI) 2) ?_;intro b5 F6 l6 ak;refine useS (m F6 _ [((b[k]'d).2[j]'p).1,((b[k]'d).2[j]'p).2] (Sl.new (l:=[((b[k]'d).2[j]'p).1,((b[k]'d).2[j]'p).2]) (cap:=2) (ak 0 rfl)) ss (encP (O k) (b[k]'d).2 j) oo) [(1,2)] ⟨eZ _ _,tv⟩ ⟨rfl,tv⟩ ?_;rintro D F7 h0 n0 W ⟨rfl,rfl,rfl,rfl⟩;exact⟨⟨(j+1,F7),Fz.t i l6,p⟩,I,leR [] ad ah rfl ⟨tv,eZ _ _,tv⟩ ⟨cnt T,tv⟩ ⟨Fz.r F7,congrArg (fun s=>SB.cells 9 [.str s]) ag.symm,tv⟩⟩
  ·have q:¬(j:Int) < (((b[k]'d).2.length:Nat):Int):=by omega
   have af:=wI (O k) (b[k]'d);have al:j=(b[k]'d).2.length:=by omega
   have E:encP (O k) (b[k]'d).2 j=O (k+1):=by rw[al,af,<-ae]
   refine brj q ?_;exact⟨⟨(k+1,G2),i,g⟩,S,leRn [_,_,_] [_,_] [] L R rfl ⟨tv,cR _ (.inr oo),eZ _ _,tv,tv⟩ ⟨cnt U,tv⟩ ⟨Fz.r G2,rfl,congrArg (fun s=>SB.cells 9 [.str s]) E,tv⟩⟩
 ·have gi:¬(k:Int) < (b.length:Int):=by omega
  have J:k=8:=by omega
  subst J;refine brj gi ?_;exact endFs (.ret (.tup [.va (.str (O 8)),.va (.int .i64 0)])) K (.inr ⟨rfl,rfl⟩)
theorem gN(F:Fz)(b:Bool)(v:Value):Fo prog F 144 [.va (.bool b),.va (.ifc 213 v)] (fun o a=>F=a/\((b=true/\o=.ret (.tup []))\/(b=false/\o=.panic (.iface 213 v)))):=by
 refine foS func144 ?_;refine br (fun g=>?_) (fun g=>?_)
 ·exact endFo (.panic (.iface 213 v)) F rfl (Fz.r F) (Fz.r F) ⟨rfl,.inr ⟨not_t g,rfl⟩⟩ rfl rfl
 ·exact endFs (.ret (.tup [])) (Fz.r F) ⟨rfl,.inl ⟨by simpa using g,rfl⟩⟩
def crd(s:List UInt8)(p:Int):Ent:=.one (.cells 139 [.str s,.int .i64 p])
theorem dI{n:Nat}(s:List UInt8)(p:Int):(crd s p).below n:=(SB.bB_ok rfl:SB.below n (.cells 139 [.str s,.int .i64 p]))
