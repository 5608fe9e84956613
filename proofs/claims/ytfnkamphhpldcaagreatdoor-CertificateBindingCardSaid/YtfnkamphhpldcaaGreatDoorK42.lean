import Derived.Test.YtfnkamphhpldcaaGreatDoorK41
import Derived.Test.YtfnkamphhpldcaaGreatDoorK37
set_option maxHeartbeats 64000000
namespace Go.Proofs.YtfnkamphhpldcaaGreatDoor
open Go Sx
set_option maxRecDepth 100000
theorem mix2{x a b:Nat}(c:x < 4294967296):bXor .u32 (rot x a:Nat) (rot x b:Nat)=((mix x [a,b] 0:Nat):Int):=by
 rw[xor32 (zrn x a c) (zrn x b c)];show _=(((0^^^rot x a)^^^rot x b:Nat):Int);rw[Nat.zero_xor]
theorem mix3{x a b c:Nat}(d:x < 4294967296):bXor .u32 (bXor .u32 (rot x a:Nat) (rot x b:Nat)) (rot x c:Nat)=((mix x [a,b,c] 0:Nat):Int):=by
 rw[mix2 d,xor32 (zq0 x d _ _ (by decide)) (zrn x c d)];rfl
theorem sz4{α:Type}{c:α}{r:List α}{k:Nat}(h:(c::r).length=k)(a:k<=100):(r.length+1+1)*4<=140737488355328:=
 q5 (qan 4 (show r.length+1+1<=101 by rw[qf]at h;omega)) (by decide)
theorem wr8{t c:Nat}{a b d e f g h k:Int}{v:W8}(i:a=v.a)(j:b=v.b)(l:d=v.c)(m:e=v.d)(n:f=v.e)(o:g=v.f)(p:h=v.g)(q:k=v.h):
  SB.arr t 1 [[SA.int .u32 a],[SA.int .u32 b],[SA.int .u32 d],[SA.int .u32 e],[SA.int .u32 f],[SA.int .u32 g],[SA.int .u32 h],[SA.int .u32 k]] c=SB.arr t 1 ((wl v).map encW) c:=by
 subst i j l m n o p q;rfl
theorem z7f(v u:W8)(i:Nat)(q:i < 8):∃x y,((wl v)[i]? =some x/\(wl u)[i]? =some y)/\∃z,z=(x+y) % 4294967296/\(wl (add8 v u)).take i++[z]=(wl (add8 v u)).take (i+1):=by
 have p:i=0\/i=1\/i=2\/i=3\/i=4\/i=5\/i=6\/i=7:=by omega
 obtain⟨a,b,c,d,e,f,g,h⟩:=v;obtain⟨j,k,c',l,e',m,n,o⟩:=u;rcases p with rfl | rfl | rfl | rfl | rfl | rfl | rfl | rfl
 ·exact⟨a,j,⟨rfl,rfl⟩,_,rfl,rfl⟩
 ·exact⟨b,k,⟨rfl,rfl⟩,_,rfl,rfl⟩
 ·exact⟨c,c',⟨rfl,rfl⟩,_,rfl,rfl⟩
 ·exact⟨d,l,⟨rfl,rfl⟩,_,rfl,rfl⟩
 ·exact⟨e,e',⟨rfl,rfl⟩,_,rfl,rfl⟩
 ·exact⟨f,m,⟨rfl,rfl⟩,_,rfl,rfl⟩
 ·exact⟨g,n,⟨rfl,rfl⟩,_,rfl,rfl⟩
 ·exact⟨h,o,⟨rfl,rfl⟩,_,rfl,rfl⟩
theorem yap(F:Fz)(sh sb:SA)(v:W8)(l:List UInt8)(R:Sl F 231 1 encW sh (wl v))(hb:Sl F 5 1 encB sb l)(hl:l.length=64)(hv:v.Ok):
  Fo Tryz.prog F 155 [.va sh,.va sb] (fun o F'=>∃b c,o=.ret (.va (.slice false 0 b 0 1 8 c))/\F' b=some (.arr 231 1 ((wl (zfg l v)).map encW) c)/\8<=c):=by
 obtain⟨bn,bb,be,bc,bL,bw,rfl,b1,b2,b3,b4⟩:=hb;have al:=fun F1=>zp5 F1
 obtain⟨hn,bx,he,q,hL,hr,rfl,h1,h2,h3,h4⟩:=R;obtain rfl:hn=false:=by cases hn with | false=>rfl | true=>exact absurd (h1 rfl) (by simp[wl])
 replace h2:=h2 rfl;refine fo_of hΘ Tryz.func155 rfl (by decide) _ _ rfl rfl rfl ?_;conv=>whnf
 refine zam hΘ (X:={ y:Nat×List Nat×Nat // y.1<=16/\y.2.1=zbm l y.1/\y.2.1.length<=y.2.2 }) (fun y=>[(5,.va (gA 1 1 y.1.2.2 y.1.2.1)),(6,.va (.int .i64 y.1.1))]) (jr 19 40 [])
  (fun y=>[(0,.frz F),(1,gE 231 1 encW y.1.2.2 y.1.2.1)]) 2 (fun y=>16 - y.1.1) ⟨(0,[],0),jo _,rfl,qg 0⟩
  (fun D E=>leI [(1,1)] D E rfl ⟨tv,zai zcm _ _ _ _ _,tv⟩ ⟨rfl,rfl,tv⟩ ⟨Fz.r F,rfl,tv⟩) ?_
 rintro⟨⟨k,o,c⟩,hk,O,W⟩ D E;replace hk:k<=16:=hk;replace O:o=zbm l k:=O;replace W:o.length<=c:=W;have I:o.length=k:=by rw[O];simp
 by_cases g:k < 16
 ·have s:(k:Int) < 16:=by omega
  have m:16 - (k+1) < 16 - k:=by omega
  have aa:k < 4611686018427387904:=by omega
  have e0:IntKind.i64.wrap (4*(k:Int))=((4*k+0:Nat):Int):=by rw[zaj (by omega) (by omega)];omega
  have e1:IntKind.i64.wrap (IntKind.i64.wrap (4*(k:Int))+1)=((4*k+1:Nat):Int):=by rw[e0,zaj (by omega) (by omega)];omega
  have e2:IntKind.i64.wrap (IntKind.i64.wrap (4*(k:Int))+2)=((4*k+2:Nat):Int):=by rw[e0,zaj (by omega) (by omega)];omega
  have e3:IntKind.i64.wrap (IntKind.i64.wrap (4*(k:Int))+3)=((4*k+3:Nat):Int):=by rw[e0,zaj (by omega) (by omega)];omega
  have g0:4*k+0 < l.length:=by omega
  have g1:4*k+1 < l.length:=by omega
  have g2:4*k+2 < l.length:=by omega
  have J:4*k+3 < l.length:=by omega
  have hw:=wordI l k l[4*k+0].toNat l[4*k+1].toNat l[4*k+2].toNat l[4*k+3].toNat (qa3 _) (qa3 _) (qa3 _) (qa3 _)
  have aw:(l[4*k+0].toNat*16777216+l[4*k+1].toNat*65536+l[4*k+2].toNat*256+l[4*k+3].toNat:Nat)=word l k:=by
   unfold word;rw[qc g1,qc g2,qc J,show l[4*k]? =some l[4*k+0]from qc g0];rfl
  rw[aw]at hw;have G:o++[word l k]=zbm l (k+1):=by rw[O,zbm,zbm,qb4,qq];rfl
  have ap:k<=100:=by omega
  clear O aw;rcases o with _ | ⟨V,p⟩
  all_goals
   refine bri s ?_;refine drawP hΘ mixed (lk [0,1,2,3,4,5,6,7,8,9,10,11,12,13,14,15,16,17,18,19,20,21,22,23,24,25,26,27,28,29,30,31,32,33] (.alt 34 (.alt 35 (.look 36 .done) .nil) .nil)) [] (by kernel_rfl) ⟨Sl.lt b1 g0,⟨by rw[e0];omega,by rw[e0];omega⟩,rfl,_,b2 (Sl.lt b1 g0),encB l[4*k+0],(by rw[e0];exact Sl.at b4 g0),by decide,Sl.lt b1 g1,⟨by rw[e1];omega,by rw[e1];omega⟩,rfl,_,b2 (Sl.lt b1 g1),encB l[4*k+1],(by rw[e1];exact Sl.at b4 g1),by decide,Sl.lt b1 g2,⟨by rw[e2];omega,by rw[e2];omega⟩,rfl,_,b2 (Sl.lt b1 g2),encB l[4*k+2],(by rw[e2];exact Sl.at b4 g2),by decide,Sl.lt b1 J,⟨by rw[e3];omega,by rw[e3];omega⟩,rfl,_,b2 (Sl.lt b1 J),encB l[4*k+3],(by rw[e3];exact Sl.at b4 J),?_⟩;conv=>whnf
   skip
   skip
   refine⟨Fz.r F,nb rfl,[encW (word l k)],(by show[[SA.int .u32 _]]=_;exact congrArg (fun z=>[[SA.int .u32 z]]) hw),?_⟩;conv=>whnf
   first
   |refine⟨rfl,rfl,nb rfl,fun c' q=>?_⟩
   |refine⟨rfl,rfl,by simp,rfl,sz4 I ap,fun c' q=>?_⟩
   conv=>whnf
   try (refine⟨Fz.r F,?_⟩)
   (conv=>whnf)
   first
   |exact⟨⟨(k+1,[]++[word l k],c'),g,G,by simpa using q⟩,m,leR [(1,3)] D E rfl ⟨tv,zai zcm _ _ _ _ _,tv⟩ ⟨zeb (μ:=sig [(1,3)]) (i:=1) (j:=3) rfl 1 c' _ [] (word l k) rfl,cnt aa,tv⟩ ⟨Fz.r F,zau zcm (zbp _ (by simp)),tv⟩⟩
   |exact⟨⟨(k+1,(V::p)++[word l k],c'),g,G,by simpa using q⟩,m,leR [(1,3)] D E rfl ⟨tv,zai zcm _ _ _ _ _,tv⟩ ⟨zeb (μ:=sig [(1,3)]) (i:=1) (j:=3) rfl 1 c' _ (V::p) (word l k) rfl,cnt aa,tv⟩ ⟨Fz.r F,zau zcm (zbp _ (by simp)),tv⟩⟩
 ·have s:¬(k:Int) < 16:=by omega
  have bf:k=16:=by omega
  subst bf;rcases o with _ | ⟨V,p⟩
  ·cases I
  have U:p.length+1=16:=I;refine brj s ?_;refine oneW 1 (b:=.arr 231 1 ((V::p).map encW) c) rfl ?_
  refine zam hΘ (X:={ y:Nat×List Nat×Nat // (16<=y.1/\y.1<=64)/\y.2.1=grow (y.1 - 16) (zbm l 16)/\y.2.1.length<=y.2.2 }) (fun y=>[(5,.va (.slice false 2 0 0 1 y.1.1 y.1.2.2)),(7,.va (.int .i64 y.1.1))]) (8::9::jr 59 62 [])
   (fun y=>[(0,.frz F),(1,.gone),(2,.one (.arr 231 1 (y.1.2.1.map encW) y.1.2.2))]) 3 (fun y=>64 - y.1.1) ⟨(16,V::p,c),⟨qg 16,show 16<=64 by decide⟩,O,W⟩
   (fun D E=>leI [(2,1)] D E rfl ⟨tv,tv,zat zcm 231 1 3 c (V::p),tv⟩ ⟨⟨rfl,U.symm,rfl,.inr ⟨rfl,rfl,rfl,rfl⟩⟩,rfl,tv⟩ ⟨Fz.r F,(zcc zcm rfl 231 1 _ c).symm,tv⟩) ?_
  rintro⟨⟨i,A,c⟩,⟨ae,am⟩,hA,W⟩ D E;replace ae:16<=i:=ae;replace am:i<=64:=am;replace hA:A=grow (i - 16) (zbm l 16):=hA;replace W:A.length<=c:=W;have B:A.length=i:=by rw[hA,zkd];simp;omega
  have ac:=zod (i - 16) (zbm l 16) (zsw l 16);rw[<-hA]at ac;by_cases g:i < 64
  ·have s:(i:Int) < 64:=by omega
   have hb:∀j:Nat,j < i->at0 A j < 4294967296:=fun j hj=>ac _ (zi5 (by rw[B];exact hj))
   have G:=nxtI A i B hb ae;have a4:A++[nxt A]=grow (i+1 - 16) (zbm l 16):=by rw[hA,<-zk4,show i - 16+1=i+1 - 16 by omega]
   have ah:IntKind.i64.wrap ((i:Int) - 15)=((i - 15:Nat):Int):=by rw[zaj (by omega) (by omega)];omega
   have e2:IntKind.i64.wrap ((i:Int) - 2)=((i - 2:Nat):Int):=by rw[zaj (by omega) (by omega)];omega
   have ai:IntKind.i64.wrap ((i:Int) - 16)=((i - 16:Nat):Int):=by rw[zaj (by omega) (by omega)];omega
   have e7:IntKind.i64.wrap ((i:Int) - 7)=((i - 7:Nat):Int):=by rw[zaj (by omega) (by omega)];omega
   have K:∀(z:Int) (j:Nat),z=(j:Int)->j < i->(A.map encW)[0+z.toNat]? =some (encW (at0 A j)):=fun z j hz hj=>by
    rw[hz,qv,qk,qs,qc (by rw[B];exact hj)];simp[at0,B,hj]
   have ay:=K _ _ ah (by omega);have r2:=K _ _ e2 (by omega);have bu:=K _ _ ai (by omega);have r7:=K _ _ e7 (by omega);have ax:0<=IntKind.i64.wrap ((i:Int) - 15)/\IntKind.i64.wrap ((i:Int) - 15) < (i:Nat):=by rw[ah];omega
   have q2:0<=IntKind.i64.wrap ((i:Int) - 2)/\IntKind.i64.wrap ((i:Int) - 2) < (i:Nat):=by rw[e2];omega
   have bt:0<=IntKind.i64.wrap ((i:Int) - 16)/\IntKind.i64.wrap ((i:Int) - 16) < (i:Nat):=by rw[ai];omega
   have q7:0<=IntKind.i64.wrap ((i:Int) - 7)/\IntKind.i64.wrap ((i:Int) - 7) < (i:Nat):=by rw[e7];omega
   have ar:IntKind.u32.wrap (IntKind.u32.wrap (IntKind.u32.wrap ((at0 A (i - 16):Nat)+bXor .u32 (bXor .u32 (rot (at0 A (i - 15)) 7:Nat) (rot (at0 A (i - 15)) 18:Nat)) (shrI .u32 (at0 A (i - 15):Nat) 3))+(at0 A (i - 7):Nat))+bXor .u32 (bXor .u32 (rot (at0 A (i - 2)) 17:Nat) (rot (at0 A (i - 2)) 19:Nat)) (shrI .u32 (at0 A (i - 2):Nat) 10))=((nxt A:Nat):Int):=by
    rw[mix2 (hb _ (by omega)),mix2 (hb _ (by omega))];exact G
   have au:∀c',SB.arr 231 1 (A.map encW++[encW (nxt A)]) c'=SB.arr 231 1 ((A++[nxt A]).map encW) c':=fun c'=>by simp
   have a2:∀c',i+1<=c'->(A++[nxt A]).length<=c':=fun c' h=>by rw[qb,B];exact h
   have m:64 - (i+1) < 64 - i:=by omega
   have M:i < 4611686018427387904:=by omega
   have bi:i=(A.map encW).length:=by rw[qa,B]
   have bj:(i+1)*4<=140737488355328:=by omega
   have a7:16<=i+1/\i+1<=64:=by omega
   have ag:=fun n Y h1=>zo6 F (at0 A (i - 15)) n (hb _ (by omega)) Y h1
   have c2:=fun n Y h1=>zo6 F (at0 A (i - 2)) n (hb _ (by omega)) Y h1
   refine bri s ?_;refine drawP hΘ mixed (lk [0,1,2,3,4,6,7,8,9,10,13,14,15,16,17,18] (.alt 5 (.alt 11 (lk [12,19,20] .done) .nil) .nil)) [2] (by kernel_rfl) ?_;conv=>whnf
   repeat' ((conv=>whnf);first
    |refine⟨rfl,ax,?_⟩
    |refine⟨rfl,?_⟩
    |refine⟨_,ay,?_⟩
    |refine⟨by decide,?_⟩
    |fail)
   refine usePu (ag 7 (by decide) (by decide)) rfl ⟨rfl,rfl,tv⟩ rfl ?_
   repeat' ((conv=>whnf);first
    |refine⟨rfl,ax,?_⟩
    |refine⟨Fz.r F,rfl,?_⟩
    |refine⟨rfl,?_⟩
    |refine⟨_,ay,?_⟩
    |refine⟨by decide,?_⟩
    |fail)
   refine usePu (ag 18 (by decide) (by decide)) rfl ⟨rfl,rfl,tv⟩ rfl ?_
   repeat' ((conv=>whnf);first
    |refine⟨Fz.r F,rfl,?_⟩
    |refine⟨rfl,?_⟩
    |refine⟨by decide,?_⟩
    |fail)
   refine drawP hΘ mixed (lk [0,1,2,3,4,6,7,8,9,10,13,14,15,16,17,18] (.alt 5 (.alt 11 (lk [12,19,20] .done) .nil) .nil)) [2] (by kernel_rfl) ?_;conv=>whnf
   repeat' ((conv=>whnf);first
    |refine⟨rfl,q2,?_⟩
    |refine⟨rfl,?_⟩
    |refine⟨_,r2,?_⟩
    |refine⟨by decide,?_⟩
    |fail)
   refine usePu (c2 17 (by decide) (by decide)) rfl ⟨rfl,rfl,tv⟩ rfl ?_
   repeat' ((conv=>whnf);first
    |refine⟨Fz.r F,rfl,?_⟩
    |refine⟨rfl,?_⟩
    |refine⟨by decide,?_⟩
    |fail)
   refine usePu (c2 19 (by decide) (by decide)) rfl ⟨rfl,rfl,tv⟩ rfl ?_
   repeat' ((conv=>whnf);first
    |refine⟨Fz.r F,rfl,?_⟩
    |refine⟨rfl,?_⟩
    |refine⟨by decide,?_⟩
    |fail)
   refine drawP hΘ mixed (lk [0,1,2,3,4,6,8,9,10,11,14] (.alt 5 (.look 7 (.alt 12 (.look 13 (.look 15 (.alt 16 (.alt 17 (.look 18 .done) .nil) .nil))) .nil)) (.alt 12 (.alt 5 (lk [7,13,15] (.alt 16 (.alt 17 (.look 18 .done) .nil) .nil)) .nil) .nil))) [] (by kernel_rfl) ?_;conv=>whnf
   repeat' ((conv=>whnf);first
    |refine⟨rfl,bt,?_⟩
    |refine⟨rfl,q7,?_⟩
    |fail)
   refine⟨?_,?_⟩
   all_goals
    repeat' ((conv=>whnf);first
     |refine⟨_,bu,?_⟩
     |refine⟨_,r7,?_⟩
     |refine⟨Fz.r F,?_⟩
     |fail)
    refine⟨nb rfl,[encW (nxt A)],(by show[[SA.int .u32 _]]=_;exact congrArg (fun z=>[[SA.int .u32 z]]) ar),rfl,bi,rfl,bj,fun c' q=>?_⟩;conv=>whnf
    try (refine⟨Fz.r F,?_⟩)
    (conv=>whnf)
    exact⟨⟨(i+1,A++[nxt A],c'),a7,a4,a2 c' q⟩,m,leR [(2,4)] D E rfl ⟨tv,tv,zat zcm 231 1 3 c' (A++[nxt A]),tv⟩ ⟨⟨rfl,rfl,rfl,.inr ⟨rfl,rfl,rfl,rfl⟩⟩,cnt M,tv⟩ ⟨Fz.r F,(au c').trans (zcc zcm (L:=(A++[nxt A]).map encW) rfl 231 1 _ c').symm,tv⟩⟩
  ·have s:¬(i:Int) < 64:=by omega
   have an:i=64:=by omega
   subst an;have bk:A=sched l:=hA;refine brj s ?_;refine useFo (al F) rfl trivial rfl ?_;rintro _ F1 u1 ⟨kb,rfl,bg⟩;refine⟨231,hL,hr,u1 _ _ h2,h3,(wl v).map encW,h4,rfl,rfl,nb rfl,fun cv a3=>?_⟩;conv=>whnf
   refine zam hΘ (X:={ y:Nat×W8×Nat // y.1<=64/\y.2.1=zfm ((konst.zip A).take y.1) v/\y.2.1.Ok/\8<=y.2.2 }) (fun y=>[(11,.va (.slice false 4 0 0 1 8 y.1.2.2)),(12,.va (.int .i64 y.1.1))]) (13::14::15::16::jr 125 96 [])
    (fun y=>[(0,.frz F1),(3,.gone),(4,.one (.arr 231 1 ((wl y.1.2.1).map encW) y.1.2.2))]) 5 (fun y=>64 - y.1.1) ⟨(0,v,cv),jo _,rfl,hv,a3⟩
    (fun D E=>leI [(4,3)] D E rfl ⟨tv,tv,zat zcm 231 1 5 cv (wl v),tv⟩ ⟨⟨rfl,rfl,rfl,.inr ⟨rfl,rfl,rfl,rfl⟩⟩,rfl,tv⟩ ⟨Fz.r F1,(zcc zcm (L:=(wl v).map encW) rfl 231 1 _ cv).symm,tv⟩) ?_
   rintro⟨⟨j,⟨a,b,S,d,e,f,J,R⟩,cV⟩,hj,hV,Z,ak⟩ D E;replace hj:j<=64:=hj;replace hV:(⟨a,b,S,d,e,f,J,R⟩:W8)=zfm ((konst.zip A).take j) v:=hV;replace Z:W8.Ok ⟨a,b,S,d,e,f,J,R⟩:=Z;replace ak:8<=cV:=ak;by_cases gj:j < 64
   ·have s:(j:Int) < 64:=by omega
    have bd:(j:Int) < ((64:Nat):Int):=s
    have bh:(konst.map encW)[0+((j:Nat):Int).toNat]? =some (encW (at0 konst j)):=by
     rw[qv,qk,qs];unfold at0;rw[qc (by rw[zcy];omega)];rfl
    have a1:(A.map encW)[0+((j:Nat):Int).toNat]? =some (encW (at0 A j)):=by
     rw[qv,qk,qs];unfold at0;rw[qc (by omega)];rfl
    have aq:at0 konst j < 4294967296:=zvc _ (zi5 (by rw[zcy];omega));have av:at0 A j < 4294967296:=ac _ (zi5 (by omega));have ab:=stepA Z aq av;have ad:=stepE Z aq av;simp only[<-mix3 Z.e,<-mix3 Z.a]at ab ad
    have T:step8 (at0 konst j) (at0 A j) ⟨a,b,S,d,e,f,J,R⟩=zfm ((konst.zip A).take (j+1)) v:=by
     have bq:j < (konst.zip A).length:=by rw[qab,zcy,B];omega
     rw[qe bq,zl9,qci,<-hV];unfold at0;rw[qc (by rw[zcy];omega),qc (by omega)];rfl
    have Q:∃w,step8 (at0 konst j) (at0 A j) ⟨a,b,S,d,e,f,J,R⟩=w:=⟨_,rfl⟩
    obtain⟨w,Q⟩:=Q;have bl:w.Ok:=Q▸zv9 Z;have w1:(a:Int)=w.b/\(b:Int)=w.c/\(S:Int)=w.d/\(e:Int)=w.f/\(f:Int)=w.g/\(J:Int)=w.h:=by rw[<-Q];exact⟨rfl,rfl,rfl,rfl,rfl,rfl⟩
    obtain⟨w1,w2,w3,w5,w6,w7⟩:=w1;rw[Q]at ab ad T;clear Q;have ce:=fun n Y h1=>zo6 F1 e n Z.e Y h1
    have ca:=fun n Y h1=>zo6 F1 a n Z.a Y h1
    have m:64 - (j+1) < 64 - j:=by omega
    have ao:j < 4611686018427387904:=by omega
    have ba:(0:Int)<=(j:Int):=js j;refine bri s ⟨rfl,⟨by decide,by decide⟩,_,rfl,rfl,⟨by decide,by decide⟩,_,rfl,?_⟩;refine drawP hΘ mixed (lk [0,1,2,3,5,8,12,13,14,15,16,17,18,19,20,21,22,23,25,26,27,28,30,31,32,33] (.alt 4 (.alt 6 (.look 7 (.alt 9 (lk [10,11,24,29,34,35] .done) .nil)) .nil) .nil)) [2,4] (by kernel_rfl) ?_;conv=>whnf
    repeat' ((conv=>whnf);first
     |refine⟨rfl,⟨by decide,by decide⟩,?_⟩
     |refine⟨rfl,⟨ba,bd⟩,?_⟩
     |refine⟨rfl,?_⟩
     |refine⟨_,bg,?_⟩
     |refine⟨_,bh,?_⟩
     |refine⟨_,a1,?_⟩
     |refine⟨_,rfl,?_⟩
     |fail)
    refine usePu (ce 6 (by decide) (by decide)) rfl ⟨rfl,rfl,tv⟩ rfl ⟨Fz.r F1,rfl,rfl,?_⟩;refine usePu (ce 11 (by decide) (by decide)) rfl ⟨rfl,rfl,tv⟩ rfl ⟨Fz.r F1,rfl,rfl,?_⟩;refine usePu (ce 25 (by decide) (by decide)) rfl ⟨rfl,rfl,tv⟩ rfl ⟨Fz.r F1,rfl,rfl,?_⟩;refine drawP hΘ mixed (lk [0,2,5,8,9,10,11,12,13,14,15,16,17,18,19,20,21,22,23,24,25,26] (.alt 1 (.alt 3 (.look 4 (.alt 6 (lk [7,27,28] .done) .nil)) .nil) .nil)) [4] (by kernel_rfl) ?_;conv=>whnf
    repeat' ((conv=>whnf);first
     |refine⟨rfl,⟨by decide,by decide⟩,?_⟩
     |refine⟨rfl,?_⟩
     |refine⟨_,rfl,?_⟩
     |fail)
    refine usePu (ca 2 (by decide) (by decide)) rfl ⟨rfl,rfl,tv⟩ rfl ⟨Fz.r F1,rfl,?_⟩;refine usePu (ca 13 (by decide) (by decide)) rfl ⟨rfl,rfl,tv⟩ rfl ⟨Fz.r F1,rfl,?_⟩;refine usePu (ca 22 (by decide) (by decide)) rfl ⟨rfl,rfl,tv⟩ rfl ⟨Fz.r F1,rfl,?_⟩;refine drawP hΘ mixed (lk [0,1,2,3,4,5,6,7,8,9,10,11,12,13,14,15,16,17,18,19,20,21] (.alt 22 (.look 23 .done) .nil)) [4] (by kernel_rfl) ?_;conv=>whnf
    repeat' ((conv=>whnf);first
     |refine⟨rfl,⟨by decide,by decide⟩,?_⟩
     |refine⟨rfl,?_⟩
     |refine⟨_,rfl,?_⟩
     |fail)
    refine⟨Fz.r F1,rfl,?_⟩;exact⟨⟨(j+1,w,8),gj,T,bl,qg 8⟩,m,leR [(4,5)] D E rfl ⟨tv,tv,zat zcm 231 1 5 8 (wl w),tv⟩ ⟨⟨rfl,rfl,rfl,.inr ⟨rfl,rfl,rfl,rfl⟩⟩,cnt ao,tv⟩ ⟨Fz.r F1,(wr8 ab w1 w2 w3 ad w5 w6 w7).trans (zcc zcm (L:=(wl w).map encW) rfl 231 1 _ 8).symm,tv⟩⟩
   ·have s:¬(j:Int) < 64:=by omega
    have a9:j=64:=by omega
    subst a9;have hU:∃u:W8,u=⟨a,b,S,d,e,f,J,R⟩:=⟨_,rfl⟩
    have hB:zfg l v=add8 v ⟨a,b,S,d,e,f,J,R⟩:=by
     rw[qi (by rw[qab,zcy,B];omega)]at hV;rw[zfg,hV,bk]
    refine brj s ?_;conv=>whnf
    refine zam hΘ (X:={ y:Nat×List Nat×Nat // y.1<=8/\y.2.1=(wl (add8 v ⟨a,b,S,d,e,f,J,R⟩)).take y.1/\y.2.1.length<=y.2.2 }) (fun y=>[(17,.va (gA 1 5 y.1.2.2 y.1.2.1)),(18,.va (.int .i64 y.1.1))]) (jr 221 16 [])
     (fun y=>[(0,.frz F1),(5,gE 231 1 encW y.1.2.2 y.1.2.1)]) 6 (fun y=>8 - y.1.1) ⟨(0,[],0),jo _,rfl,qg 0⟩
     (fun D E=>leI [(5,5)] D E rfl ⟨tv,zai zcm _ _ _ _ _,tv⟩ ⟨rfl,rfl,tv⟩ ⟨Fz.r F1,rfl,tv⟩) ?_
    rintro⟨⟨i,o,c⟩,hi,O,W⟩ D E;replace hi:i<=8:=hi;replace O:o=(wl (add8 v ⟨a,b,S,d,e,f,J,R⟩)).take i:=O;replace W:o.length<=c:=W;have I:o.length=i:=by rw[O,qj];show min i 8=i;omega
    by_cases g:i < 8
    ·have s:(i:Int) < 8:=by omega
     have a8:(i:Int) < ((8:Nat):Int):=s;have a6:(0:Int)<=(i:Int):=js i;have az:=u1 _ _ h2;have aj:=z7f v ⟨a,b,S,d,e,f,J,R⟩ i g;obtain⟨x,y,⟨hx,hy⟩,z,hz,G⟩:=aj;rw[<-O]at G
     have bm:hL[he+((i:Nat):Int).toNat]? =some (encW x):=by
      have Y:=Sl.at h4 (k:=i) (show i < (wl v).length from g);rw[qc (show i < (wl v).length from g)]at hx;rw[Y,Option.some.inj hx]
     have bo:((wl ⟨a,b,S,d,e,f,J,R⟩).map encW)[0+((i:Nat):Int).toNat]? =some (encW y):=by
      rw[qv,qk,qs,hy];rfl
     have bs:IntKind.u32.wrap ((x:Int)+(y:Int))=((z:Nat):Int):=by rw[hz,add32]
     have m:8 - (i+1) < 8 - i:=by omega
     have M:i < 4611686018427387904:=by omega
     have af:i<=100:=by omega
     clear O hB hx hy hz;rcases o with _ | ⟨V,p⟩
     all_goals
      refine bri s ?_;refine drawP hΘ mixed (lk [0,1,2,3,4,5,6,7,8,9] (.alt 10 (.alt 11 (.look 12 .done) .nil) .nil)) [4] (by kernel_rfl) ?_;conv=>whnf
      repeat' ((conv=>whnf);first
       |refine⟨rfl,⟨a6,a8⟩,?_⟩
       |refine⟨rfl,?_⟩
       |refine⟨_,az,?_⟩
       |refine⟨_,bm,?_⟩
       |refine⟨_,bo,?_⟩
       |refine⟨_,rfl,?_⟩
       |fail)
      try (refine⟨Fz.r F1,rfl,?_⟩)
      (conv=>whnf)
      refine⟨nb rfl,[encW z],(by show[[SA.int .u32 _]]=_;exact congrArg (fun z=>[[SA.int .u32 z]]) bs),?_⟩;conv=>whnf
      first
      |refine⟨rfl,rfl,nb rfl,fun c' q=>?_⟩
      |refine⟨rfl,rfl,by simp,rfl,sz4 I af,fun c' q=>?_⟩
      conv=>whnf
      try (refine⟨Fz.r F1,rfl,?_⟩)
      (conv=>whnf)
      first
      |exact⟨⟨(i+1,[]++[z],c'),g,G,by simpa using q⟩,m,leR [(5,7)] D E rfl ⟨tv,zai zcm _ _ _ _ _,tv⟩ ⟨zeb (μ:=sig [(5,7)]) (i:=5) (j:=7) rfl 1 c' _ [] z rfl,cnt M,tv⟩ ⟨Fz.r F1,zau zcm (zbp _ (by simp)),tv⟩⟩
      |exact⟨⟨(i+1,(V::p)++[z],c'),g,G,by simpa using q⟩,m,leR [(5,7)] D E rfl ⟨tv,zai zcm _ _ _ _ _,tv⟩ ⟨zeb (μ:=sig [(5,7)]) (i:=5) (j:=7) rfl 1 c' _ (V::p) z rfl,cnt M,tv⟩ ⟨Fz.r F1,zau zcm (zbp _ (by simp)),tv⟩⟩
    ·have s:¬(i:Int) < 8:=by omega
     have a5:i=8:=by omega
     subst a5;have a0:o=wl (zfg l v):=by rw[O,hB,qi (qg 8)]
     clear O hB;rcases o with _ | ⟨V,p⟩
     ·cases I
     have U:p.length+1=8:=I;refine brj s ?_;refine zbc 5 (fun _=>.arr 231 1 ((V::p).map encW) c) rfl rfl rfl (fun _ _=>zcc zcm rfl _ _ _ _) (fun _ _=>zat zcm _ _ _ _ _) ?_;intro z F2 u2 bp;exact endFo (.ret (.va (.slice false 0 (z 0) 0 1 8 c))) F2 rfl (Fz.t u1 u2) (Fz.r F2) ⟨z 0,c,rfl,by rw[<-a0];exact bp 0 (by simp[gE,Ent.has]),by rw[<-I];exact W⟩ ⟨rfl,U.symm,rfl,.inr ⟨rfl,rfl,rfl,rfl⟩⟩ rfl
theorem z8g{α:Type}{μ:Mu}{i j:Nat}(h:μ i 0=(j,0))(sz c n:Nat)(L:List α)(a:L≠[])(b:n=L.length):atomE ((gA sz i c L).ren μ) (SA.slice false j 0 0 sz n c):=by
 subst b;cases L with
 |nil=>exact absurd rfl a
 |cons y r=>simp only[gA,SA.ren,h];exact⟨rfl,by simp,rfl,.inr ⟨rfl,rfl,rfl,rfl⟩⟩
theorem sz4b{α:Type}{c:α}{r:List α}{k:Nat}(h:(c::r).length=4*k)(a:k<=100):(r.length+1+4)*1<=140737488355328:=
 q5 (qan 1 (show r.length+1+4<=404 by rw[qf]at h;omega)) (by decide)
theorem zo7(F:Fz)(s:List UInt8)(hs:s.length<=1000000000000):Fo Tryz.prog F 98 [.va (.str s)] (fun o _=>o=.ret (.va (.str (sumS s)))):=by
 have hz:=zjt s.length;obtain⟨m,hm⟩:∃m,s.length+1+padZ s.length+8=64*m:=⟨(s.length+1+padZ s.length+8) / 64,by omega⟩
 have ab:(padded s).length=64*m:=by rw[zil,zic s (qg 8)];exact hm
 have ap:m < 100000000000:=by omega
 have K:sumS s=zeu (zbj m (padded s) init8):=by
  unfold sumS;rw[ab,qda m (by decide)]
 have he:=ya7 F s hs;rw[K];generalize hP:padded s=P at*;clear hz hm hP K;refine fo_of hΘ Tryz.func98 rfl (by decide) _ _ rfl rfl rfl ?_;refine useFo he rfl ⟨rfl,tv⟩ rfl ?_;rintro _ F1 u1 ⟨pb,pc,rfl,ah,aq⟩;refine zch 1 (fun _=>.arr 231 1 ((wl init8).map encW) 8) rfl rfl rfl (fun _ _=>rfl) (fun _ _=>SB.bB_ok rfl) ?_;intro z O u2 hz;refine resT 3 (.va (.slice false 0 (z 0) 0 1 8 8)) rfl rfl (SV.bB_ok rfl) ?_;have ar:W8.Ok init8:=zk9
 refine zam hΘ (X:={ y:Nat×W8×Nat×Nat×Fz // y.1<=m/\y.2.1=zbj y.1 P init8/\y.2.1.Ok/\y.2.2.2.2 y.2.2.1=some (.arr 231 1 ((wl y.2.1).map encW) y.2.2.2.1)/\Fz.le O y.2.2.2.2 }) (fun y=>[(3,.va (.slice false 0 y.1.2.2.1 0 1 8 y.1.2.2.2.1)),(5,.va (.int .i64 ((64*y.1.1:Nat):Int)))]) (jr 11 13 [])
  (fun y=>[(0,.frz y.1.2.2.2.2)]) 2 (fun y=>m - y.1.1) ⟨(0,init8,z 0,8,O),jo _,(zgv _ _).symm,zk9,hz 0 rfl,Fz.r O⟩
  (fun D E=>leI [] D E rfl ⟨tv,tv⟩ ⟨⟨rfl,rfl,rfl,.inr ⟨rfl,rfl,rfl,rfl⟩⟩,rfl,tv⟩ ⟨Fz.r O,tv⟩) ?_
 rintro⟨⟨k,v,hb,R,G⟩,hk,hV,hO,Z,n⟩ D E;replace hk:k<=m:=hk;replace hV:v=zbj k P init8:=hV;replace hO:v.Ok:=hO;replace Z:G hb=some (.arr 231 1 ((wl v).map encW) R):=Z;replace n:Fz.le O G:=n;by_cases g:k < m
 ·have B:((64*k:Nat):Int) < (P.length:Nat):=by omega
  have d:((P.drop (64*k)).take 64).length=64:=by rw[qj,yd];omega
  have ak:∀c,Sl G 5 1 encB (.slice false 0 pb (64*k) 1 64 c) ((P.drop (64*k)).take 64):=fun c=>by
   refine⟨false,pb,64*k,c,P.map encB,pc,by rw[d],(fun h=>by cases h),fun _=>n _ _ (u2 _ _ ah),by rw[d,qa];omega,?_⟩;rw[d,qb2,qc8]
  have am:Sl G 231 1 encW (.slice false 0 hb 0 1 8 R) (wl v):=Sl.new (l:=wl v) Z;have f:=fun c=>yap G _ _ v _ am (ak c) d hO
  have w:zfg ((P.drop (64*k)).take 64) v=zbj (k+1) P init8:=by rw[zgu,hV]
  rw[w]at f;have u:IntKind.i64.wrap (((64*k:Nat):Int)+64)=((64*k+64:Nat):Int):=by rw[zaj (by omega) (by omega)];omega
  have aa:IntKind.i64.wrap (((64*k:Nat):Int)+64)=((64*(k+1):Nat):Int):=by rw[u];omega
  have a:m - (k+1) < m - k:=by omega
  have ai:0<=IntKind.i64.wrap (((64*k:Nat):Int)+64)/\IntKind.i64.wrap (((64*k:Nat):Int)+64)<=(pc:Int):=by rw[u];omega
  have aj:0<=((64*k:Nat):Int)/\((64*k:Nat):Int)<=IntKind.i64.wrap (((64*k:Nat):Int)+64):=by rw[u];omega
  have W:64=(IntKind.i64.wrap (((64*k:Nat):Int)+64)).toNat - (((64*k:Nat):Int)).toNat:=by rw[u];omega
  have al:64*k=if pc=(((64*k:Nat):Int)).toNat then 0 else 0+(((64*k:Nat):Int)).toNat:=by rw[if_neg (by omega)];omega
  have ag:=zi7 (k+1) P init8 zk9;refine bri B ⟨ai,aj,?_⟩;refine useFo (f _) rfl ⟨⟨rfl,rfl,rfl,.inr ⟨rfl,rfl,rfl,rfl⟩⟩,⟨rfl,W,rfl,.inr ⟨rfl,rfl,al,rfl⟩⟩,tv⟩ rfl ?_;rintro _ G2 l2 ⟨Q,c2,rfl,ac,ao⟩;exact⟨⟨(k+1,zbj (k+1) P init8,Q,c2,G2),g,rfl,ag,ac,Fz.t n l2⟩,a,leR [] D E rfl ⟨tv,tv⟩ ⟨⟨rfl,rfl,rfl,.inr ⟨rfl,rfl,rfl,rfl⟩⟩,eu aa.symm,tv⟩ ⟨Fz.r G2,tv⟩⟩
 ·have B:¬((64*k:Nat):Int) < (P.length:Nat):=by omega
  have af:k=m:=by omega
  subst af;refine brj B ?_;conv=>whnf
  refine zam hΘ (X:={ y:Nat×List UInt8×Nat // y.1<=8/\y.2.1=preB v y.1/\y.2.1.length<=y.2.2 }) (fun y=>[(6,.va (gA 1 2 y.1.2.2 y.1.2.1)),(7,.va (.int .i64 y.1.1))]) (jr 24 30 [])
   (fun y=>[(0,.frz G),(2,gE 5 1 encB y.1.2.2 y.1.2.1)]) 3 (fun y=>8 - y.1.1) ⟨(0,[],0),jo _,rfl,qg 0⟩
   (fun D E=>leI [(2,2)] D E rfl ⟨tv,zai zab _ _ _ _ _,tv⟩ ⟨rfl,rfl,tv⟩ ⟨Fz.r G,rfl,tv⟩) ?_
  rintro⟨⟨i,o,c⟩,hi,M,R⟩ D E;replace hi:i<=8:=hi;replace M:o=preB v i:=M;replace R:o.length<=c:=R;have q:o.length=4*i:=by rw[M];exact zox v hi
  by_cases g:i < 8
  ·have B:(i:Int) < 8:=by omega
   have U:(i:Int) < ((8:Nat):Int):=B;have T:(0:Int)<=(i:Int):=js i;have Y:∃x,x=at0 (wl v) i:=⟨_,rfl⟩
   obtain⟨x,Y⟩:=Y
   have an:((wl v).map encW)[0+((i:Nat):Int).toNat]? =some (encW x):=by
    rw[qv,qk,qs,Y];unfold at0;rw[qc (show i < (wl v).length from g)];rfl
   have b0:=byteI x 24 (by omega);have b1:=byteI x 16 (by omega);have Q:=byteI x 8 (by omega)
   have b3:IntKind.u8.wrap (x:Int)=((UInt8.ofNat x).toNat:Int):=by
    rw[qau];show(x:Int) % 256=_;omega
   rw[show 2^24=16777216 from rfl]at b0;rw[show 2^16=65536 from rfl]at b1;rw[show 2^8=256 from rfl]at Q
   have ad:[[SA.int .u8 (IntKind.u8.wrap (shrI .u32 (x:Int) (24:Nat)))],[SA.int .u8 (IntKind.u8.wrap (shrI .u32 (x:Int) (16:Nat)))],[SA.int .u8 (IntKind.u8.wrap (shrI .u32 (x:Int) (8:Nat)))],[SA.int .u8 (IntKind.u8.wrap (x:Int))]]=(be4 x).map encB:=by
    rw[b0,b1,Q,b3];rfl
   have w:o++be4 x=preB v (i+1):=by rw[M,Y,zrg v g]
   have a:8 - (i+1) < 8 - i:=by omega
   have J:i < 4611686018427387904:=by omega
   have L:i<=100:=by omega
   clear M b0 b1 Q b3 Y;rcases o with _ | ⟨o0,A⟩
   all_goals
    refine bri B ?_;refine drawP hΘ mixed (lk [0,1,2,3,4,5,6,7,8,9,10,11,12,13,14,15,16,17,18,19,20,21,22,23] (.alt 24 (.alt 25 (.look 26 .done) .nil) .nil)) [] (by kernel_rfl) ?_;conv=>whnf
    repeat' ((conv=>whnf);first
     |refine⟨rfl,⟨T,U⟩,?_⟩
     |refine⟨⟨T,U⟩,?_⟩
     |refine⟨rfl,?_⟩
     |refine⟨_,Z,?_⟩
     |refine⟨_,an,?_⟩
     |refine⟨by decide,?_⟩
     |refine⟨Fz.r G,?_⟩
     |fail)
    try (refine⟨Fz.r G,?_⟩)
    (conv=>whnf)
    refine⟨nb rfl,(be4 x).map encB,ad,?_⟩;conv=>whnf
    first
    |refine⟨rfl,rfl,nb rfl,fun c' e=>?_⟩
    |refine⟨rfl,rfl,by simp,rfl,sz4b q L,fun c' e=>?_⟩
    conv=>whnf
    try (refine⟨Fz.r G,?_⟩)
    (conv=>whnf)
    first
    |exact⟨⟨(i+1,(o0::A)++be4 x,c'),g,w,(by first | simpa[be4]using e | (simp[be4]at e ⊢;omega))⟩,a,leR [(2,4)] D E rfl ⟨tv,zai zab _ _ _ _ _,tv⟩ ⟨z8g (μ:=sig [(2,4)]) (i:=2) (j:=4) rfl 1 c' _ ((o0::A)++be4 x) (by simp) (by simp[be4]),cnt J,tv⟩ ⟨Fz.r G,zau zab (zbp _ (by simp)),tv⟩⟩
    |exact⟨⟨(i+1,[]++be4 x,c'),g,w,(by first | simpa[be4]using e | (simp[be4]at e ⊢;omega))⟩,a,leR [(2,4)] D E rfl ⟨tv,zai zab _ _ _ _ _,tv⟩ ⟨⟨rfl,rfl,rfl,.inr ⟨rfl,rfl,rfl,rfl⟩⟩,cnt J,tv⟩ ⟨Fz.r G,zau zab (zbp _ (by first | simp;done | rfl)),tv⟩⟩
  ·have B:¬(i:Int) < 8:=by omega
   have ae:i=8:=by omega
   subst ae;have I:o=zeu v:=by rw[M,zvq]
   have S:List.take 32 (List.drop 0 (o.map encB))=(zeu v).map fun b=>[SA.int .u8 b.toNat]:=by
    rw[yz,qi (by rw[qa,q];exact qg 32),I];rfl
   have p:0+32<=(o.map encB).length:=by rw[qa,q];exact qg 32
   clear M I;rcases o with _ | ⟨o0,A⟩
   ·cases q
   have V:A.length+1=32:=q;refine brj B ?_;conv=>whnf
   rw[<-V]at S p;refine⟨rfl,p,_,rfl,zeu v,S,?_⟩;exact endFo (.ret (.va (.str (zeu v)))) G rfl (Fz.t u1 (Fz.t u2 n)) (Fz.r G) (by rw[hV]) (zah _) rfl
theorem z4z(F:Fz)(s:List UInt8)(b:s.length<=900000000000):Fo Tryz.prog F 156 [.va (.str s)] (fun o _=>o=.ret (.va (.str (leafS s)))):=by
 have h:=zo7 F (0::s) (by rw[qf];omega);refine fo_of hΘ Tryz.func156 rfl (by decide) _ _ rfl rfl rfl ?_;refine⟨(by show 1+s.length<=_;omega),?_⟩;refine useFo h rfl ⟨rfl,tv⟩ rfl ?_;rintro _ F1 a rfl;exact endFo (.ret (.va (.str (leafS s)))) F1 rfl a (Fz.r F1) rfl (zah _) rfl
theorem zvt(F:Fz)(a b:List UInt8)(d:a.length+b.length<=900000000000):Fo Tryz.prog F 157 [.va (.str a),.va (.str b)] (fun o _=>o=.ret (.va (.str (nodeS a b)))):=by
 have h:=zo7 F (1::(a++b)) (by rw[qf,qb];omega);refine fo_of hΘ Tryz.func157 rfl (by decide) _ _ rfl rfl rfl ?_;refine⟨(by show 1+a.length<=_;omega),(by show([1]++a).length+b.length<=_;rw[qb,yh];omega),?_⟩;refine useFo h rfl ⟨rfl,tv⟩ rfl ?_;rintro _ F1 c rfl;exact endFo (.ret (.va (.str (nodeS a b)))) F1 rfl c (Fz.r F1) rfl (zah _) rfl
theorem zs2(F:Fz)(n:Nat)(p:n=2\/n=4\/n=8):Fo Tryz.prog F 99 [.va (.int .i64 n)] (fun o f=>o=.ret (.va (.int .i64 (n / 2:Nat)))/\f=F):=by
 refine fo_of hΘ Tryz.func99 rfl (by decide) _ _ rfl rfl rfl ?_;conv=>whnf
 refine zam hΘ (X:={ k:Nat // (k=1\/k=2\/k=4)/\2*k<=n }) (fun k=>[(3,.va (.int .i64 k.1))]) [4,5,6,7,8,9,10]
  (fun _=>[(0,.frz F)]) 1 (fun k=>n - k.1) ⟨1,.inl rfl,by omega⟩
  (fun b c=>leI [] b c rfl ⟨tv,tv⟩ ⟨rfl,tv⟩ ⟨Fz.r F,tv⟩) ?_
 rintro⟨k,m,l⟩ b c;have e:IntKind.i64.wrap ((n:Int) - (k:Int))=((n - k:Nat):Int):=by rw[zaj (by omega) (by omega)];omega
 by_cases g:k < n - k
 ·have a:(k:Int) < IntKind.i64.wrap ((n:Int) - (k:Int)):=by rw[e];omega
  have h:IntKind.i64.wrap (2*(k:Int))=((2*k:Nat):Int):=by rw[zaj (by omega) (by omega)];omega
  have i:(2*k=1\/2*k=2\/2*k=4)/\2*(2*k)<=n:=by omega
  have j:n - 2*k < n - k:=by omega
  refine bri a ?_;exact⟨⟨2*k,i⟩,j,leR [] b c rfl ⟨tv,tv⟩ ⟨eu h.symm,tv⟩ ⟨Fz.r F,tv⟩⟩
 ·have a:¬(k:Int) < IntKind.i64.wrap ((n:Int) - (k:Int)):=by rw[e];omega
  have d:n / 2=k:=by omega
  subst d;refine brj a ?_;exact endPu rfl (Fz.r F) rfl rfl
def SS(F:Fz)(b e c:Nat)(l:List (List UInt8)):Prop:=∃L a,F b=some (.arr 9 1 L a)/\e+l.length<=L.length/\(L.drop e).take l.length=l.map encS/\l.length<=c/\∀x∈l,x.length<=900000000000
def rootT:Nat->List (List UInt8)->List UInt8
 |0,l=>leafS (at1 l)
 |d+1,l=>nodeS (rootT d (l.take (2^d))) (rootT d (l.drop (2^d)))
where at1:List (List UInt8)->List UInt8
 |[]=>[]
 |x::_=>x
theorem zdn:∀d l,(rootT d l).length=32
 |0,_=>rfl
 |_+1,_=>rfl
theorem zlx(F:Fz)(b e c:Nat)(l:List (List UInt8))(g:l.length=1)(i:SS F b e c l):Fo Tryz.prog F 100 [.va (.slice false 0 b e 1 1 c)] (fun o _=>o=.ret (.va (.str (rootT 0 l)))):=by
 obtain⟨L,a,h1,n,d,p,f⟩:=i
 obtain⟨x,rfl⟩:∃x,l=[x]:=by
  match l,g with
  |[x],_=>exact⟨x,rfl⟩
 have j:L[e+((0:Nat):Int).toNat]? =some (encS x):=Sl.at (l:=[x]) d (k:=0) yv;have h:=z4z F x (f x (by simp));refine fo_of hΘ Tryz.func100 rfl (by decide) _ _ rfl rfl rfl ?_;refine br (fun h=>absurd (od h) (by decide)) (fun _=>?_);refine bri rfl ?_
 repeat' ((conv=>whnf);first
  |refine⟨rfl,⟨by decide,by decide⟩,?_⟩
  |refine⟨⟨by decide,by decide⟩,?_⟩
  |refine⟨_,h1,?_⟩
  |refine⟨_,j,?_⟩
  |fail)
 refine useFo h rfl ⟨rfl,tv⟩ rfl ?_;rintro _ F1 m rfl;exact endFo (.ret (.va (.str (leafS x)))) F1 rfl m (Fz.r F1) rfl (zah _) rfl
theorem SS.take{F:Fz}{b e c m:Nat}{l:List (List UInt8)}(h:SS F b e c l)(i:m<=l.length):SS F b e c (l.take m):=by
 obtain⟨L,d,h1,k,f,n,g⟩:=h;have a:(l.take m).length=m:=by rw[qj];omega
 refine⟨L,d,h1,by rw[a];omega,?_,by rw[a];omega,fun x j=>g x (jx j)⟩;rw[a,qb2,<-f,qa1,qal i]
theorem SS.drop{F:Fz}{b e c m:Nat}{l:List (List UInt8)}(h:SS F b e c l)(n:m<=l.length):SS F b (e+m) (c - m) (l.drop m):=by
 obtain⟨L,d,h1,j,f,k,g⟩:=h;have a:(l.drop m).length=l.length - m:=yd;refine⟨L,d,h1,by rw[a];omega,?_,by rw[a];omega,fun x i=>g x (y9 i)⟩;rw[a,qc8,<-f,List.drop_take,qcv]
theorem SS.mono{F f:Fz}{b e c:Nat}{l:List (List UInt8)}(h:SS F b e c l)(d:Fz.le F f):SS f b e c l:=by
 obtain⟨L,a,h1,h⟩:=h;exact⟨L,a,d _ _ h1,h⟩
theorem zly(F:Fz)(b e c:Nat)(l:List (List UInt8))(B:l.length=2)(j:SS F b e c l):Fo Tryz.prog F 100 [.va (.slice false 0 b e 1 2 c)] (fun o _=>o=.ret (.va (.str (rootT 1 l)))):=by
 have u:=zlx F b e c (l.take 1) (by rw[qj];omega) (j.take (by omega));have w:=fun a le=>zlx a b (e+1) (c - 1) (l.drop 1) (by rw[yd];omega) ((j.drop (by omega)).mono le)
 have y:=fun a=>zvt a (rootT 0 (l.take 1)) (rootT 0 (l.drop 1)) (by rw[zdn,zdn];decide)
 have A:2<=c:=by obtain⟨_,_,_,_,_,h,_⟩:=j;omega
 have g:e=if c=0 then e else e+0:=by rw[if_neg (by omega)];rfl
 have i:e+1=if c=1 then e else e+1:=by rw[if_neg (by omega)]
 have n:(0:Int)<=1/\(1:Int)<=(c:Int):=by omega
 have d:(0:Int)<=2/\(2:Int)<=(c:Int):=by omega
 have f:(0:Int)<=1/\(1:Int)<=2:=by omega
 have x:Fo Tryz.prog F 99 [.va (.int .i64 2)] (fun o a=>o=.ret (.va (.int .i64 1))/\a=F):=zs2 F 2 (.inl rfl);refine fo_of hΘ Tryz.func100 rfl (by decide) _ _ rfl rfl rfl ?_;refine br (fun h=>absurd (od h) (by decide)) (fun _=>?_);refine br (fun h=>absurd (od h) (by decide)) (fun _=>?_);refine usePu x rfl ⟨rfl,tv⟩ rfl ?_;refine drawP hΘ mixed (lk [0,1,2,4,5,6] (.alt 3 (.alt 7 (.alt 8 (.look 9 .done) .nil) .nil) .nil)) [] (by kernel_rfl) ?_;conv=>whnf
 repeat' ((conv=>whnf);first
  |refine⟨n,?_⟩
  |refine⟨d,?_⟩
  |refine⟨f,?_⟩
  |fail)
 refine useFo u rfl ⟨⟨rfl,rfl,rfl,.inr ⟨rfl,rfl,g,rfl⟩⟩,tv⟩ rfl ?_;rintro _ F1 k rfl;refine⟨k,?_⟩
 repeat' ((conv=>whnf);first
  |refine⟨n,?_⟩
  |refine⟨d,?_⟩
  |refine⟨f,?_⟩
  |fail)
 refine useFo (w F1 k) rfl ⟨⟨rfl,rfl,rfl,.inr ⟨rfl,rfl,i,rfl⟩⟩,tv⟩ rfl ?_;rintro _ s p rfl;refine⟨p,?_⟩;refine useFo (y s) rfl ⟨rfl,rfl,tv⟩ rfl ?_;rintro _ m q rfl;refine⟨q,?_⟩;exact endFo (.ret (.va (.str (rootT 1 l)))) m rfl (Fz.t k (Fz.t p q)) (Fz.r m) rfl (zah _) rfl
theorem z0y(F:Fz)(b e c:Nat)(l:List (List UInt8))(B:l.length=4)(j:SS F b e c l):Fo Tryz.prog F 100 [.va (.slice false 0 b e 1 4 c)] (fun o _=>o=.ret (.va (.str (rootT 2 l)))):=by
 have u:=zly F b e c (l.take 2) (by rw[qj];omega) (j.take (by omega));have w:=fun a le=>zly a b (e+2) (c - 2) (l.drop 2) (by rw[yd];omega) ((j.drop (by omega)).mono le)
 have y:=fun a=>zvt a (rootT 1 (l.take 2)) (rootT 1 (l.drop 2)) (by rw[zdn,zdn];decide)
 have A:4<=c:=by obtain⟨_,_,_,_,_,h,_⟩:=j;omega
 have g:e=if c=0 then e else e+0:=by rw[if_neg (by omega)];rfl
 have i:e+2=if c=2 then e else e+2:=by rw[if_neg (by omega)]
 have n:(0:Int)<=2/\(2:Int)<=(c:Int):=by omega
 have d:(0:Int)<=4/\(4:Int)<=(c:Int):=by omega
 have f:(0:Int)<=2/\(2:Int)<=4:=by omega
 have x:Fo Tryz.prog F 99 [.va (.int .i64 4)] (fun o a=>o=.ret (.va (.int .i64 2))/\a=F):=zs2 F 4 (.inr (.inl rfl));refine fo_of hΘ Tryz.func100 rfl (by decide) _ _ rfl rfl rfl ?_;refine br (fun h=>absurd (od h) (by decide)) (fun _=>?_);refine br (fun h=>absurd (od h) (by decide)) (fun _=>?_);refine usePu x rfl ⟨rfl,tv⟩ rfl ?_;refine drawP hΘ mixed (lk [0,1,2,4,5,6] (.alt 3 (.alt 7 (.alt 8 (.look 9 .done) .nil) .nil) .nil)) [] (by kernel_rfl) ?_;conv=>whnf
 repeat' ((conv=>whnf);first
  |refine⟨n,?_⟩
  |refine⟨d,?_⟩
  |refine⟨f,?_⟩
  |fail)
 refine useFo u rfl ⟨⟨rfl,rfl,rfl,.inr ⟨rfl,rfl,g,rfl⟩⟩,tv⟩ rfl ?_;rintro _ F1 k rfl;refine⟨k,?_⟩
 repeat' ((conv=>whnf);first
  |refine⟨n,?_⟩
  |refine⟨d,?_⟩
  |refine⟨f,?_⟩
  |fail)
 refine useFo (w F1 k) rfl ⟨⟨rfl,rfl,rfl,.inr ⟨rfl,rfl,i,rfl⟩⟩,tv⟩ rfl ?_;rintro _ s p rfl;refine⟨p,?_⟩;refine useFo (y s) rfl ⟨rfl,rfl,tv⟩ rfl ?_;rintro _ m q rfl;refine⟨q,?_⟩;exact endFo (.ret (.va (.str (rootT 2 l)))) m rfl (Fz.t k (Fz.t p q)) (Fz.r m) rfl (zah _) rfl
def hashT:Nat->List (List UInt8)->List (List UInt8)
 |0,l=>[0::rootT.at1 l]
 |d+1,l=>hashT d (l.take (2^d))++hashT d (l.drop (2^d))++[1::(rootT d (l.take (2^d))++rootT d (l.drop (2^d)))]
theorem zfu:∀d l,(hashT d l).length=2^(d+1) - 1
 |0,_=>rfl
 |d+1,l=>by
  have h1:=zfu d;have a:1<=2^d:=Nat.one_le_two_pow;rw[hashT,qb,qb,h1,h1,yh,qba 2 (d+1),qba 2 d];omega
theorem z3r(d:Nat)(l:List (List UInt8)):hashT d l≠[]:=fun h=>by
 have:=zfu d l;have a:2<=2^(d+1):=by have:1<=2^d:=Nat.one_le_two_pow;rw[qba];omega
 rw[h]at this;simp at this;omega
theorem zkg:∀(d:Nat) (l:List (List UInt8)),(∀x∈l,x.length<=900000000000)->∀y∈hashT d l,y.length<=1000000000000
 |0,l,h,y,hy=>by
  have hy:y=0::rootT.at1 l:=qp.1 hy;subst hy;rcases l with _ | ⟨x,r⟩
  ·decide
  ·have:=h x (by simp);show x.length+1<=_;omega
 |d+1,l,h,y,hy=>by
  rcases yj.1 hy with hy | hy
  ·rcases yj.1 hy with hy | hy
   ·exact zkg d _ (fun x a=>h x (jx a)) y hy
   ·exact zkg d _ (fun x a=>h x (y9 a)) y hy
  ·rw[qp]at hy;rw[hy,qf,qb,zdn,zdn];decide
def hashK(R:List (List UInt8)):Out->Fz->List (Nat×Ent)->Nat->Prop:=fun o _ h n=>∃a,n=2/\o=.ret (.va (.slice false 1 0 0 1 R.length a))/\h=[(1,.one (.arr 9 1 (R.map encS) a))]/\R.length<=a
theorem z3q(F:Fz)(b e c:Nat)(l:List (List UInt8))(g:l.length=1)(i:SS F b e c l):Ct Tryz.prog 42 [.va (.slice false 0 b e 1 1 c)] F [] 1 (hashK (hashT 0 l)):=by
 obtain⟨L,a,h1,n,d,o,f⟩:=i
 obtain⟨x,rfl⟩:∃x,l=[x]:=by
  match l,g with
  |[x],_=>exact⟨x,rfl⟩
 have j:L[e+((0:Nat):Int).toNat]? =some (encS x):=Sl.at (l:=[x]) d (k:=0) yv;have m:x.length<=900000000000:=f x (by simp);refine ct_of hΘ Tryz.func42 rfl (by decide) _ _ rfl rfl rfl ?_;refine br (fun h=>absurd (od h) (by decide)) (fun _=>?_);refine bri rfl ?_
 repeat' ((conv=>whnf);first
  |refine⟨rfl,⟨by decide,by decide⟩,?_⟩
  |refine⟨⟨by decide,by decide⟩,?_⟩
  |refine⟨_,h1,?_⟩
  |refine⟨_,j,?_⟩
  |fail)
 refine⟨(by show 1+x.length<=_;omega),?_⟩;exact clean [(1,1)] (.ret (.va (.slice false 1 0 0 1 1 1))) F [(1,.one (.arr 9 1 [encS (0::x)] 1))] 2 ⟨Fz.r F,1,rfl,rfl,rfl,qg 1⟩ ⟨rfl,rfl,rfl,.inr ⟨rfl,rfl,rfl,rfl⟩⟩ rfl rfl (Out.bB_ok rfl) ⟨zat zav 9 1 2 1 [0::x],tv⟩ ⟨Fz.r F,rfl,tv⟩
theorem zh9(μ:Mu)(R:List (List UInt8)):(R.map encS).map (List.map (SA.ren μ))=R.map encS:=by rw[ji];rfl
theorem zof{d m n:Nat}(hm:m=1\/m=2\/m=4)(hn:n=2*m)(h2:2^d=m)
  (hH:∀(F:Fz) (b e c:Nat) (l:List (List UInt8)),l.length=m->SS F b e c l->Ct Tryz.prog 42 [.va (.slice false 0 b e 1 m c)] F [] 1 (hashK (hashT d l)))
  (hR:∀(F:Fz) (b e c:Nat) (l:List (List UInt8)),l.length=m->SS F b e c l->Fo Tryz.prog F 100 [.va (.slice false 0 b e 1 m c)] (fun o _=>o=.ret (.va (.str (rootT d l)))))
  (F:Fz)(b e c:Nat)(l:List (List UInt8))(hl:l.length=n)(A:SS F b e c l):Ct Tryz.prog 42 [.va (.slice false 0 b e 1 n c)] F [] 1 (hashK (hashT (d+1) l)):=by
 have hA:=hH F b e c (l.take m) (by rw[qj];omega) (A.take (by omega));have hB:=fun x le=>hH x b (e+m) (c - m) (l.drop m) (by rw[yd];omega) ((A.drop (by omega)).mono le)
 have hC:=fun x le=>hR x b e c (l.take m) (by rw[qj];omega) ((A.take (by omega)).mono le)
 have hD:=fun x le=>hR x b (e+m) (c - m) (l.drop m) (by rw[yd];omega) ((A.drop (by omega)).mono le)
 have ah:n<=c:=by obtain⟨_,_,_,_,_,h,_⟩:=A;omega
 have I:e=if c=0 then e else e+0:=by rw[if_neg (by omega)];rfl
 have J:e+m=if c=m then e else e+m:=by rw[if_neg (by omega)]
 have T:(0:Int)<=(m:Int)/\(m:Int)<=(c:Int):=by omega
 have p:(0:Int)<=(n:Int)/\(n:Int)<=(c:Int):=by omega
 have q:(0:Int)<=(m:Int)/\(m:Int)<=(n:Int):=by omega
 have M:m=n - m:=by omega
 have Y:¬(n:Int)=0:=by omega
 have Z:¬(n:Int)=1:=by omega
 have hL:Fo Tryz.prog F 99 [.va (.int .i64 n)] (fun o x=>o=.ret (.va (.int .i64 m))/\x=F):=by
  have h:=zs2 F n (by omega);rw[show n / 2=m by omega]at h;exact h
 have hT:hashT (d+1) l=hashT d (l.take m)++hashT d (l.drop m)++[1::(rootT d (l.take m)++rootT d (l.drop m))]:=by rw[hashT,h2]
 have L:=zfu d (l.take m);have y:=zfu d (l.drop m);rw[qba,h2]at L y;have aa:=zdn d (l.take m);have ab:=zdn d (l.drop m);rw[hT];obtain⟨g,W⟩:∃R,hashT d (l.take m)=R:=⟨_,rfl⟩
 obtain⟨RB,X⟩:∃R,hashT d (l.drop m)=R:=⟨_,rfl⟩
 obtain⟨i,ad⟩:∃R,rootT d (l.take m)=R:=⟨_,rfl⟩
 obtain⟨s,ae⟩:∃R,rootT d (l.drop m)=R:=⟨_,rfl⟩
 rw[W]at hA L ⊢;rw[ad]at hC aa ⊢;rw[ae]at hD ab ⊢;rw[X]at hB y ⊢;clear hT A;rcases RB with _ | ⟨a,f⟩
 ·exfalso;rw[qu]at y;omega
 have hX:∀μ:Mu,List.take (a::f).length (List.drop 0 (((a::f).map encS).map (List.map (SA.ren μ))))=(a::f).map encS:=fun μ=>by
  rw[yz,zh9];exact qi (by rw[qa];exact qg _)
 have ac:(g.length+((a::f).map encS).length)*16<=140737488355328:=by rw[qa];omega
 have V:∀μ:Mu,g.length+((a::f).map encS).length=(((g.map encS).map (List.map (SA.ren μ)))++(a::f).map encS).length:=fun μ=>by rw[zh9,qb,qa,qa]
 have O:(g.length+((a::f).map encS).length+1)*16<=140737488355328:=by rw[qa];omega
 have w:(g++(a::f)++[1::(i++s)]).length=g.length+((a::f).map encS).length+1:=by rw[qb,qb,qa];rfl
 have K:∀{k:Nat},g.length+((a::f).map encS).length+1<=k->(g++(a::f)++[1::(i++s)]).length<=k:=fun h=>by rw[w];exact h
 have u:∀(μ μ':Mu) (U:Nat),SB.arr 9 1 (((g++(a::f)++[1::(i++s)]).map encS).map (List.map (SA.ren μ'))) U=SB.arr 9 1 (((g.map encS).map (List.map (SA.ren μ)))++(a::f).map encS++[encS (1::(i++s))]) U:=fun μ μ' U=>by rw[zh9,zh9,qq,qq];rfl
 refine ct_of hΘ Tryz.func42 rfl (by decide) _ _ rfl rfl rfl ?_;refine brj Y ?_;refine brj Z ?_;refine usePu hL rfl ⟨rfl,tv⟩ rfl ?_;refine drawP hΘ mixed (lk [0,1,2,4,5,6] (.alt 3 (.alt 7 (.alt 8 (.look 9 .done) .nil) .nil) .nil)) [] (by kernel_rfl) ?_;conv=>whnf
 repeat' ((conv=>whnf);first
  |refine⟨T,?_⟩
  |refine⟨p,?_⟩
  |refine⟨q,?_⟩
  |fail)
 refine use hA [] rfl ⟨⟨rfl,rfl,rfl,.inr ⟨rfl,rfl,I,rfl⟩⟩,tv⟩ rfl trivial (by simp[SV.below,SA.below]) trivial ?_;rintro _ F1 _ _ B ⟨c1,rfl,rfl,rfl,ag⟩;refine⟨B,?_⟩
 repeat' ((conv=>whnf);first
  |refine⟨T,?_⟩
  |refine⟨p,?_⟩
  |refine⟨q,?_⟩
  |fail)
 refine use (hB F1 B) [] rfl ⟨⟨rfl,M,rfl,.inr ⟨rfl,rfl,J,rfl⟩⟩,tv⟩ rfl trivial (by simp[SV.below,SA.below]) trivial ?_;rintro _ F2 _ _ D ⟨c2,rfl,rfl,rfl,ai⟩;refine⟨D,(by rw[qa,qa];omega),(a::f).map encS,hX _,rfl,(by rw[qa,qa]),rfl,ac,fun c' af=>?_⟩
 first
 |refine⟨Fz.r F2,?_⟩
 |refine⟨D,?_⟩
 |refine⟨Fz.t B D,?_⟩
 refine drawP hΘ mixed (lk [0,1,2,3,6,7,8] (.alt 4 (.look 5 (.alt 9 (.look 10 (.alt 11 (.alt 12 (.look 13 .done) .nil) .nil)) .nil)) .nil)) [] (by kernel_rfl) ?_;conv=>whnf
 repeat' ((conv=>whnf);first
  |refine⟨T,?_⟩
  |refine⟨p,?_⟩
  |refine⟨q,?_⟩
  |fail)
 refine useFo (hC F2 (Fz.t B D)) rfl ⟨⟨rfl,rfl,rfl,.inr ⟨rfl,rfl,I,rfl⟩⟩,tv⟩ rfl ?_;rintro _ F3 Q rfl;refine⟨Q,(by show 1+i.length<=_;omega),?_⟩
 repeat' ((conv=>whnf);first
  |refine⟨T,?_⟩
  |refine⟨p,?_⟩
  |refine⟨q,?_⟩
  |fail)
 refine useFo (hD F3 (Fz.t B (Fz.t D Q))) rfl ⟨⟨rfl,M,rfl,.inr ⟨rfl,rfl,J,rfl⟩⟩,tv⟩ rfl ?_;rintro _ S E rfl;refine⟨E,(by show([1]++i).length+s.length<=_;rw[qb,yh];omega),?_⟩
 first
 |refine⟨Fz.r S,?_⟩
 |refine⟨E,?_⟩
 |refine⟨Fz.t Q E,?_⟩
 refine⟨nb rfl,[encS (1::(i++s))],rfl,rfl,V _,rfl,O,fun j G=>?_⟩;conv=>whnf
 first
 |refine⟨Fz.r S,?_⟩
 |refine⟨E,?_⟩
 |refine⟨Fz.t Q E,?_⟩
 exact clean [(1,5)] (.ret (.va (.slice false 1 0 0 1 (g++(a::f)++[1::(i++s)]).length j))) S [(1,.one (.arr 9 1 ((g++(a::f)++[1::(i++s)]).map encS) j))] 2 ⟨Fz.t B (Fz.t D (Fz.t Q E)),j,rfl,rfl,rfl,K G⟩ ⟨rfl,w,rfl,.inr ⟨rfl,rfl,rfl,rfl⟩⟩ rfl rfl (Out.bB_ok rfl) ⟨zat zav 9 1 2 j (g++(a::f)++[1::(i++s)]),tv⟩ ⟨Fz.r S,(by first | exact u _ _ _ | exact(u _ _ _).symm),tv⟩
theorem zkf(F:Fz)(b e c:Nat)(l:List (List UInt8))(a:l.length=8)(f:SS F b e c l):Ct Tryz.prog 42 [.va (.slice false 0 b e 1 8 c)] F [] 1 (hashK (hashT 3 l)):=
 zof (d:=2) (m:=4) (.inr (.inr rfl)) rfl rfl (zof (d:=1) (m:=2) (.inr (.inl rfl)) rfl rfl (zof (d:=0) (m:=1) (.inl rfl) rfl rfl z3q zlx) zly) z0y F b e c l a f
theorem z0w{l:List (List UInt8)}(h:l.length=8):root8 l=rootT 3 l:=by
 match l,h with
 |[_,_,_,_,_,_,_,_],_=>rfl
theorem zku:∀(d:Nat) (a b:List (List UInt8)),a.length=2^d->b.length=2^d->rootT d a=rootT d b->a=b\/∃x∈hashT d a,∃y∈hashT d b,x≠y/\sumS x=sumS y
 |0,a,b,ha,hb,h=>by
  obtain⟨x,rfl⟩:=qdd.1 (ha.trans (qdf 2));obtain⟨y,rfl⟩:=qdd.1 (hb.trans (qdf 2));by_cases g:x=y
  ·exact .inl (by rw[g])
  ·exact .inr ⟨0::x,qp.2 rfl,0::y,qp.2 rfl,fun e=>g (List.cons.inj e).2,h⟩
 |d+1,a,b,ha,hb,h=>by
  have n:2^(d+1)=2^d+2^d:=by rw[qba];omega
  have j:=zku d (a.take (2^d)) (b.take (2^d)) (by rw[qj];omega) (by rw[qj];omega);have k:=zku d (a.drop (2^d)) (b.drop (2^d)) (by rw[yd];omega) (by rw[yd];omega);by_cases g:rootT d (a.take (2^d))=rootT d (b.take (2^d))/\rootT d (a.drop (2^d))=rootT d (b.drop (2^d))
  ·rcases j g.1 with l | ⟨x,f,y,i,c⟩
   ·rcases k g.2 with m | ⟨x,f,y,i,c⟩
    ·exact .inl (by rw[<-yl (2^d) a,l,m,yl])
    ·exact .inr ⟨x,by simp[hashT,f],y,by simp[hashT,i],c⟩
   ·exact .inr ⟨x,by simp[hashT,f],y,by simp[hashT,i],c⟩
  ·exact .inr ⟨_,qar _ (qp.2 rfl),_,qar _ (qp.2 rfl),fun e=>g (List.append_inj (List.cons.inj e).2 (by rw[zdn,zdn])),h⟩
def collS(a b:List (List UInt8)):Bool:=a.any fun x=>b.any fun y=>!(x==y)&&sumS x==sumS y
theorem bind8{a b:List (List UInt8)}(c:a.length=8)(d:b.length=8)(h:root8 a=root8 b):a=b\/collS (hashT 3 a) (hashT 3 b)=true:=by
 rw[z0w c,z0w d]at h;rcases zku 3 a b c d h with h | ⟨x,g,y,i,e,f⟩
 ·exact .inl h
 ·refine .inr (qch.2 ⟨x,g,qch.2 ⟨y,i,?_⟩⟩);rw[f];simp[e]
