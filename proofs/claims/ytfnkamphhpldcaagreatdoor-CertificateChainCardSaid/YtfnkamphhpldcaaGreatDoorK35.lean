import Derived.Test.YtfnkamphhpldcaaGreatDoorK34
import Derived.Test.YtfnkamphhpldcaaGreatDoorK10
set_option maxHeartbeats 64000000
namespace Go.Proofs.YtfnkamphhpldcaaGreatDoor
open Go Sx Tryz
set_option maxRecDepth 100000
structure Ex(A B:Crt)(xs xd:List UInt8)(vA vC:List (List UInt8))(E:List UInt8):Prop where
 al:A.len=1
 mkA:∀F,MLF F->RNDF F->∀sk b1 b2,KpsAt F sk mg1.keep->LnAt F b1 [84,111,32,32,66,101] 5->LnAt F b2 [116,111,32,32,98,101] 5->Fo prog F 21 [.agg (migS mg1 sk),.agg (dS b1),.agg (dS b2)] (fun o F'=>∃sc,o=.ret (.tup [.agg (crtS A sc),.va (.int .i64 0)])/\ClsAt F' sc A.cl)
 mkF:∀F,MLF F->RNDF F->∀sk b1 b2,KpsAt F sk mg1.keep->LnAt F b1 [84,111,32,32,66,101] 5->LnAt F b2 [116,111,32,98,101] 5->Fo prog F 21 [.agg (migS mg1 sk),.agg (dS b1),.agg (dS b2)] (fun o _=>o=.ret (.tup [.agg zC,.va (.int .i64 100)]))
 mkB:∀F,MLF F->RNDF F->∀sk b1 b2,KpsAt F sk mg2.keep->LnAt F b1 [116,111,32,32,98,101] 5->LnAt F b2 [116,111,32,98,101] 0->Fo prog F 21 [.agg (migS mg2 sk),.agg (dS b1),.agg (dS b2)] (fun o F'=>∃sc,o=.ret (.tup [.agg (crtS B sc),.va (.int .i64 0)])/\ClsAt F' sc B.cl)
 cX:∀F b sa sb,ClsAt F sa A.cl->ClsAt F sb B.cl->F b=some (.arr 48 4 [crtS A sa,crtS B sb] 2)->Fo prog F 30 [.va (.slice false 0 b 0 4 2 2)] (fun o F'=>∃sk,o=.ret (.tup [.agg (crtS ⟨xs,xd,2,exCl⟩ sk),.va (.int .i64 0)])/\ClsAt F' sk exCl)
 cN:∀F b sa sb,ClsAt F sa A.cl->ClsAt F sb B.cl->F b=some (.arr 48 4 [crtS B sb,crtS A sa] 2)->Fo prog F 30 [.va (.slice false 0 b 0 4 2 2)] (fun o _=>o=.ret (.tup [.agg zC,.va (.int .i64 100)]))
 all1:∀F b,LnAt F b [84,111,32,32,66,101] 5->Fo prog F 14 [.agg (dS b)] (fun o F'=>∃b c,o=.ret (.tup [.va (.slice false 0 b 0 1 8 c),.va (.int .i64 0)])/\F' b=some (.arr 9 1 (vA.map encS) c))
 all3:∀F b,LnAt F b [116,111,32,98,101] 0->Fo prog F 14 [.agg (dS b)] (fun o F'=>∃b c,o=.ret (.tup [.va (.slice false 0 b 0 1 8 c),.va (.int .i64 0)])/\F' b=some (.arr 9 1 (vC.map encS) c))
 enc:∀F sk,ClsAt F sk exCl->Fo prog F 34 [.agg (crtS ⟨xs,xd,2,exCl⟩ sk)] (fun o _=>o=.ret (.tup [.va (.str E),.va (.int .i64 0)]))
 dec:∀F,Fo prog F 36 [.va (.str E)] (fun o F'=>∃sk,o=.ret (.tup [.agg (crtS ⟨xs,xd,2,exCl⟩ sk),.va (.int .i64 0)])/\ClsAt F' sk exCl)
 k1:∀F,MLF F->RNDF F->∀sk b1 c1 b3 c3,ClsAt F sk exCl->F b1=some (.arr 9 1 (vA.map encS) c1)->F b3=some (.arr 9 1 (vC.map encS) c3)->Fo prog F 22 [.agg (crtS ⟨xs,xd,2,exCl⟩ sk),.va (.slice false 0 b1 0 1 8 c1),.va (.slice false 0 b3 0 1 8 c3)] (fun o _=>o=.ret (.va (.lit true))/\True)
 k2:∀F,MLF F->RNDF F->∀sk b1 c1 b3 c3,ClsAt F sk exCl->F b1=some (.arr 9 1 (vA.map encS) c1)->F b3=some (.arr 9 1 (vC.map encS) c3)->Fo prog F 22 [.agg (crtS ⟨xs,xd,2,exCl⟩ sk),.va (.slice false 0 b3 0 1 8 c3),.va (.slice false 0 b1 0 1 8 c1)] (fun o _=>o=.ret (.va (.lit false))/\True)
 s1:∀F s t,ClsAt F s exCl->ClsAt F t exCl->Fo prog F 27 [.agg (crtS ⟨xs,xd,2,exCl⟩ s),.agg (crtS ⟨xs,xd,2,exCl⟩ t)] (fun o F'=>o=.ret (.va (.lit true))/\F'=F)
 s2:∀F s t,ClsAt F s A.cl->ClsAt F t B.cl->Fo prog F 27 [.agg (crtS A s),.agg (crtS B t)] (fun o F'=>o=.ret (.va (.lit false))/\F'=F)
 vX:∀F s,ClsAt F s exCl->Fo prog F 25 [.agg (crtS ⟨xs,xd,2,exCl⟩ s)] (fun o _=>o=.ret (.va (.lit true))/\True)
 v0:∀F,Fo prog F 25 [.agg [.str [],.str [],.int .i64 0,.slice true 0 0 0 2 0 0]] (fun o _=>o=.ret (.va (.lit false))/\True)
theorem DB(A B:Crt)(xs xd:List UInt8)(vA vC:List (List UInt8))(E:List UInt8)(ex:Ex A B xs xd vA vC E)(F0:Fz)(m0:MLF F0)(r0:RNDF F0):Fo prog F0 12 [] (fun o _=>o=.ret (.va (.bool true))/\True):=by
 obtain⟨S,bd,bf,mkB,cX,cN,all1,all3,ad,aq,k1,k2,s1,s2,vX,v0⟩:=ex;obtain⟨As,Ad,An,y⟩:=A;obtain⟨Bs,Bd,Bn,D⟩:=B;replace S:An=1:=S;subst S;refine foS func12 ?_;refine dh 1 (fun _=>.arr 56 2 ([(1,0)].map enc) 1) ?_;intro p1 F1 l1 ag;refine dh 4 (fun _=>.arr 56 2 ([(2,0)].map enc) 1) ?_;intro p4 F4 l4 ai;refine dh 5 (fun _=>.arr 56 2 ([(6,0)].map enc) 1) ?_;intro p5 F5 l5 aj;refine dh 2 (fun _=>.arr 96 2 [[.int .i64 1,.slice false 0 (p1 0) 0 2 1 1]] 1) ?_;intro p2 F2 l2 ah;refine dh 6 (fun _=>.arr 96 2 [[.int .i64 1,.slice false 0 (p4 0) 0 2 1 1],[.int .i64 2,.slice false 0 (p5 0) 0 2 1 1]] 2) ?_;intro p6 I l6 ak
 have K1:KpsAt I (.slice false 0 (p2 0) 0 2 1 1) mg1.keep:=SlR.new (l:=mg1.keep) (l6 _ _ (ah 0 rfl)) rfl fun k x d=>by
  match k,d with
  |0,d=>cases d;exact⟨_,rfl,_,rfl,Sl.new (l:=[(1,0)]) (l6 _ _ (l2 _ _ (l5 _ _ (l4 _ _ (ag 0 rfl)))))⟩
  |k+1,d=>cases d
 have K2:KpsAt I (.slice false 0 (p6 0) 0 2 2 2) mg2.keep:=SlR.new (l:=mg2.keep) (ak 0 rfl) rfl fun k x d=>by
  match k,d with
  |0,d=>cases d;exact⟨_,rfl,_,rfl,Sl.new (l:=[(2,0)]) (l6 _ _ (l2 _ _ (l5 _ _ (ai 0 rfl))))⟩
  |1,d=>cases d;exact⟨_,rfl,_,rfl,Sl.new (l:=[(6,0)]) (l6 _ _ (l2 _ _ (aj 0 rfl)))⟩
  |k+2,d=>cases d
 have q6:Fz.le F0 I:=Fz.t l1 (Fz.t l4 (Fz.t l5 (Fz.t l2 l6)));have m6:=m0.mono q6;have r6:=r0.mono q6;clear ag ai aj ah ak l1 l4 l5 l2 l6
 refine cutJ (X:={ x:Fz×(Bool×Nat×Nat×Nat) // Fz.le I x.1/\ClsAt x.1 (.slice x.2.1 0 x.2.2.1 x.2.2.2.1 2 y.length x.2.2.2.2) y }) I (fun x=>[(3,.va (.ptr ⟨8,0,0,0,0⟩)),(4,.va (.int .i64 0))]) [37,38,39,40,41,42,43] (fun x=>[(0,.frz x.1.1),(8,.one (.cells 48 (crtS ⟨As,Ad,1,y⟩ (.slice x.1.2.1 0 x.1.2.2.1 x.1.2.2.2.1 2 y.length x.1.2.2.2.2))))]) 9
  (fun h i=>leI [] h i rfl ⟨tv,tv⟩ trivial ⟨Fz.r I,tv⟩) (fun h i=>?draws3) ?rest3
 case draws3=>
  refine dwS (.look 0 (.alt 1 (.alt 2 (.alt 3 (lk [4,5,6] (.alt 7 (.alt 8 (.look 9 .done) .nil) .nil)) (.alt 7 (.alt 3 (lk [4,5,6] (.alt 8 (.look 9 .done) .nil)) .nil) .nil)) (.alt 7 (.alt 2 (.alt 3 (lk [4,5,6] (.alt 8 (.look 9 .done) .nil)) .nil) .nil) .nil)) (.alt 7 (.alt 1 (.alt 2 (.alt 3 (lk [4,5,6] (.alt 8 (.look 9 .done) .nil)) .nil) .nil) .nil) .nil))) [3] ?_;refine⟨rfl,?_,?_⟩
  all_goals
   conv=>whnf
   first | (refine⟨Fz.r _,rfl,?_⟩;(conv=>whnf)) | skip
   refine useFs (fZ I [84,111,32,32,66,101] 5) ?_;rintro _ G1 b ⟨R,rfl,a⟩;refine⟨b,rfl,?_⟩;conv=>whnf
   first | refine⟨?_,?_⟩ | skip
  all_goals
   conv=>whnf
   first | (refine⟨Fz.r _,rfl,?_⟩;(conv=>whnf)) | skip
   refine useFs (fZ G1 [116,111,32,32,98,101] 5) ?_;rintro _ G2 c ⟨e2,rfl,j⟩;refine⟨c,rfl,?_⟩;conv=>whnf
   first | refine⟨?_,?_⟩ | skip
  all_goals
   conv=>whnf
   first | (refine⟨Fz.r _,rfl,?_⟩;(conv=>whnf)) | skip
   have u:=Fz.t b c;have m:=bd G2 (m6.mono u) (r6.mono u) _ R e2 (KpsAt.up K1 u) (c _ _ a) j;refine useFs m ?_;rintro _ M s ⟨sc,rfl,p⟩;have q:=p;obtain⟨cn,cb,ce,cc,cL,cr,rfl,-,-,-,-⟩:=p;refine⟨s,rfl,?_⟩
   repeat((conv=>whnf);refine⟨Fz.r _,rfl,?_⟩)
   exact⟨rfl,⟨(M,(cn,cb,ce,cc)),Fz.t b (Fz.t c s),q⟩,leR [(8,8)] h i rfl ⟨tv,cF _ (.inr oo),tv⟩ ⟨rfl,rfl,tv⟩ ⟨Fz.r M,rfl,tv⟩⟩
 case rest3=>
  rintro⟨⟨G,an,ab,ae,ac⟩,W,hA⟩;replace W:Fz.le I G:=W;replace hA:ClsAt G (.slice an 0 ab ae 2 y.length ac) y:=hA;have mG:=m6.mono W;have rG:=r6.mono W;have ao:=KpsAt.up K1 W;have ap:=KpsAt.up K2 W
  conv=>whnf
  refine cutJ (X:={ x:Fz // Fz.le G x }) G (fun x=>[(5,.va (.ptr ⟨9,0,0,0,0⟩)),(6,.va (.int .i64 100))]) [44,45,46,47,48,49,50] (fun x=>[(0,.frz x.1),(9,.one (.cells 48 zC))]) 10
   (fun h i=>leI [] h i rfl ⟨tv,tv⟩ trivial ⟨Fz.r G,tv⟩) (fun h i=>?draws4) ?rest4
  case draws4=>
   refine dwS (.look 0 (.alt 1 (.alt 2 (.alt 3 (lk [4,5,6] (.alt 7 (.alt 8 (.look 9 .done) .nil) .nil)) (.alt 7 (.alt 3 (lk [4,5,6] (.alt 8 (.look 9 .done) .nil)) .nil) .nil)) (.alt 7 (.alt 2 (.alt 3 (lk [4,5,6] (.alt 8 (.look 9 .done) .nil)) .nil) .nil) .nil)) (.alt 7 (.alt 1 (.alt 2 (.alt 3 (lk [4,5,6] (.alt 8 (.look 9 .done) .nil)) .nil) .nil) .nil) .nil))) [3] ?_;refine⟨rfl,?_,?_⟩
   all_goals
    conv=>whnf
    first | (refine⟨Fz.r _,rfl,?_⟩;(conv=>whnf)) | skip
    refine useFs (fZ G [84,111,32,32,66,101] 5) ?_;rintro _ G1 b ⟨R,rfl,a⟩;refine⟨b,rfl,?_⟩;conv=>whnf
    first | refine⟨?_,?_⟩ | skip
   all_goals
    conv=>whnf
    first | (refine⟨Fz.r _,rfl,?_⟩;(conv=>whnf)) | skip
    refine useFs (fZ G1 [116,111,32,98,101] 5) ?_;rintro _ G2 c ⟨e2,rfl,j⟩;refine⟨c,rfl,?_⟩;conv=>whnf
    first | refine⟨?_,?_⟩ | skip
   all_goals
    conv=>whnf
    first | (refine⟨Fz.r _,rfl,?_⟩;(conv=>whnf)) | skip
    have u:=Fz.t b c;have m:=bf G2 (mG.mono u) (rG.mono u) _ R e2 (KpsAt.up ao u) (c _ _ a) j;refine useFs m ?_;rintro _ M s rfl;refine⟨s,rfl,?_⟩
    repeat((conv=>whnf);refine⟨Fz.r _,rfl,?_⟩)
    exact⟨rfl,⟨M,Fz.t b (Fz.t c s)⟩,leR [(9,9)] h i rfl ⟨tv,cF ⟨[],[],0,[]⟩ (sk:=.nilsl) trivial,tv⟩ ⟨rfl,rfl,tv⟩ ⟨Fz.r M,rfl,tv⟩⟩
  case rest4=>
   rintro⟨H,Y⟩;replace Y:Fz.le G H:=Y;have mH:=mG.mono Y;have rH:=rG.mono Y;have aa:=KpsAt.up ap Y;have ar:=KpsAt.up hA Y
   conv=>whnf
   refine cutJ (X:={ x:Fz×(Bool×Nat×Nat×Nat) // Fz.le H x.1/\ClsAt x.1 (.slice x.2.1 0 x.2.2.1 x.2.2.2.1 2 D.length x.2.2.2.2) D }) H (fun x=>[(7,.va (.ptr ⟨10,0,0,0,0⟩)),(8,.va (.int .i64 0))]) [51,52,53,54,55,56,57] (fun x=>[(0,.frz x.1.1),(10,.one (.cells 48 (crtS ⟨Bs,Bd,Bn,D⟩ (.slice x.1.2.1 0 x.1.2.2.1 x.1.2.2.2.1 2 D.length x.1.2.2.2.2))))]) 11
    (fun h i=>leI [] h i rfl ⟨tv,tv⟩ trivial ⟨Fz.r H,tv⟩) (fun h i=>?draws5) ?rest5
   case draws5=>
    refine dwS (.look 0 (.alt 1 (.alt 2 (.alt 3 (lk [4,5,6] (.alt 7 (.alt 8 (.look 9 .done) .nil) .nil)) (.alt 7 (.alt 3 (lk [4,5,6] (.alt 8 (.look 9 .done) .nil)) .nil) .nil)) (.alt 7 (.alt 2 (.alt 3 (lk [4,5,6] (.alt 8 (.look 9 .done) .nil)) .nil) .nil) .nil)) (.alt 7 (.alt 1 (.alt 2 (.alt 3 (lk [4,5,6] (.alt 8 (.look 9 .done) .nil)) .nil) .nil) .nil) .nil))) [7] ?_;refine⟨rfl,?_,?_⟩
    all_goals
     conv=>whnf
     first | (refine⟨Fz.r _,rfl,?_⟩;(conv=>whnf)) | skip
     refine useFs (fZ H [116,111,32,32,98,101] 5) ?_;rintro _ G1 b ⟨R,rfl,a⟩;refine⟨b,rfl,?_⟩;conv=>whnf
     first | refine⟨?_,?_⟩ | skip
    all_goals
     conv=>whnf
     first | (refine⟨Fz.r _,rfl,?_⟩;(conv=>whnf)) | skip
     refine useFs (fZ G1 [116,111,32,98,101] 0) ?_;rintro _ G2 c ⟨e2,rfl,j⟩;refine⟨c,rfl,?_⟩;conv=>whnf
     first | refine⟨?_,?_⟩ | skip
    all_goals
     conv=>whnf
     first | (refine⟨Fz.r _,rfl,?_⟩;(conv=>whnf)) | skip
     have u:=Fz.t b c;have m:=mkB G2 (mH.mono u) (rH.mono u) _ R e2 (KpsAt.up aa u) (c _ _ a) j;refine useFs m ?_;rintro _ M s ⟨sc,rfl,p⟩;have q:=p;obtain⟨cn,cb,ce,cc,cL,cr,rfl,-,-,-,-⟩:=p;refine⟨s,rfl,?_⟩
     repeat((conv=>whnf);refine⟨Fz.r _,rfl,?_⟩)
     exact⟨rfl,⟨(M,(cn,cb,ce,cc)),Fz.t b (Fz.t c s),q⟩,leR [(10,10)] h i rfl ⟨tv,cF _ (.inr oo),tv⟩ ⟨rfl,rfl,tv⟩ ⟨Fz.r M,rfl,tv⟩⟩
   case rest5=>
    rintro⟨⟨J,bn,bb,be,bc⟩,w3,hB⟩;replace w3:Fz.le H J:=w3;replace hB:ClsAt J (.slice bn 0 bb be 2 D.length bc) D:=hB;have mJ:=mH.mono w3;have rJ:=rH.mono w3;have T:=KpsAt.up ar w3;refine bM 11 (fun _=>.arr 48 4 [crtS ⟨As,Ad,1,y⟩ (.slice an 0 ab ae 2 y.length ac),crtS ⟨Bs,Bd,Bn,D⟩ (.slice bn 0 bb be 2 D.length bc)] 2) ?_;intro b1 J1 j1 aw;refine useFs (cX J1 (b1 0) _ _ (KpsAt.up T j1) (KpsAt.up hB j1) (aw 0 rfl)) ?_;rintro _ J2 j2 ⟨xk,rfl,hX⟩;have av:=hX;obtain⟨xn,xb,xe,xc,xL,xr,rfl,x1,x2,x3,x4⟩:=hX;refine bM 13 (fun _=>.arr 48 4 [crtS ⟨Bs,Bd,Bn,D⟩ (.slice bn 0 bb be 2 D.length bc),crtS ⟨As,Ad,1,y⟩ (.slice an 0 ab ae 2 y.length ac)] 2) ?_;intro b2 J3 j3 ax;have a3:=Fz.t j1 (Fz.t j2 j3);refine useFs (cN J3 (b2 0) _ _ (KpsAt.up T a3) (KpsAt.up hB a3) (ax 0 rfl)) ?_;rintro _ J4 j4 rfl;refine useFt (ycu J4) ?_;rintro _ J5 j5 rfl;refine useFs (fZ J5 [84,111,32,32,66,101] 5) ?_;rintro _ J6 j6 ⟨R,rfl,a⟩;refine useFs (all1 J6 R a) ?_;rintro _ J7 j7 ⟨b,v1,rfl,a1⟩;refine useFs (fZ J7 [116,111,32,98,101] 0) ?_;rintro _ J8 j8 ⟨e3,rfl,az⟩;refine useFs (all3 J8 e3 az) ?_;rintro _ J9 j9 ⟨s,v3,rfl,a2⟩;refine gae dd ?_;refine gae dd ?_;refine gae dd ?_;refine brd dd ?_;conv=>whnf
    have Z:Fz.le J2 J9:=Fz.t j3 (Fz.t j4 (Fz.t j5 (Fz.t j6 (Fz.t j7 (Fz.t j8 j9)))));have af:=KpsAt.up av Z;refine useFs (ad J9 _ af) ?_;rintro _ Ja ja rfl;refine useFs (aq Ja) ?_;rintro _ Jb jb ⟨dk,rfl,hD⟩;have au:=hD;obtain⟨dn,db,de,dc,dL,dr,rfl,-,-,-,-⟩:=hD;have a7:=x4 0 _ rfl;have a8:=x4 1 _ rfl;have a9:=x4 7 _ rfl;obtain⟨y0,a4,s0,rfl,al⟩:=a7;obtain⟨y1,a5,cl,rfl,am⟩:=a8;obtain⟨y7,a6,s7,rfl,a0⟩:=a9;have e:xn=false:=SlR.lt x1 (show 0 < exCl.length by decide);have w:Fz.le J2 Jb:=Fz.t Z (Fz.t ja jb);have q0:=al.mono w;have q1:=am.mono w;obtain⟨bp,bl,bo,bm,bk,bq,rfl,bg,bh,bi,bj⟩:=al;obtain⟨b6,bz,b5,b0,bx,b7,rfl,bs,bt,bu,bw⟩:=am;obtain⟨cj,cg,ci,ch,cf,ck,rfl,b8,b9,ca,cd⟩:=a0;refine⟨e,by decide,_,w _ _ (x2 e),_,a4,?_⟩;refine bM 17 (fun _=>.arr 56 2 ([(1,0),(2,0)].map enc) 2) ?_;intro b3 Jc jc ay;refine usePs (sameT Jc _ _ [(1,0),(2,0)] (q0.mono jc) (Sl.new (l:=[(1,0),(2,0)]) (cap:=2) (ay 0 rfl)) dd) ?_;refine⟨e,by decide,_,jc _ _ (w _ _ (x2 e)),_,a5,?_⟩;refine bM 18 (fun _=>.arr 56 2 ([(6,0)].map enc) 1) ?_;intro b4 Jd jd hb4;refine usePs (sameT Jd _ _ [(6,0)] ((q1.mono jc).mono jd) (Sl.new (l:=[(6,0)]) (cap:=1) (hb4 0 rfl)) dd) ?_;refine⟨e,by decide,_,jd _ _ (jc _ _ (w _ _ (x2 e))),_,a6,?_⟩;conv=>whnf
    repeat
     refine gae dd ?_;conv=>whnf
    refine⟨fun _=>?_,fun g=>absurd g (by show¬(decide ((1:Int)=1)=false);decide)⟩;refine⟨fun _=>?_,fun g=>absurd g (by show¬(decide ((2:Int)=2)=false);decide)⟩;conv=>whnf
    repeat
     refine gae dd ?_;conv=>whnf
    have f:Fz.le J9 Jd:=Fz.t ja (Fz.t jb (Fz.t jc jd));have U:Fz.le J J9:=Fz.t j1 (Fz.t j2 Z);have mD:=(mJ.mono U).mono f;have rD:=(rJ.mono U).mono f;have K:=KpsAt.up af f;have O:=f _ _ (j9 _ _ (j8 _ _ a1));have Q:=f _ _ a2;refine useFs (k1 Jd mD rD _ b v1 s v3 K O Q) ?_;rintro _ Je je ⟨rfl,-⟩;refine useFs (k2 Je (mD.mono je) (rD.mono je) _ b v1 s v3 (KpsAt.up K je) (je _ _ O) (je _ _ Q)) ?_;rintro _ Jf jf ⟨rfl,-⟩;conv=>whnf
    repeat
     refine gae dd ?_;conv=>whnf
    have L:=Fz.t je jf;refine usePs (s1 Jf _ _ (KpsAt.up K L) (KpsAt.up au (Fz.t jc (Fz.t jd L)))) ?_;conv=>whnf
    repeat
     refine gae dd ?_;conv=>whnf
    have V:=Fz.t U (Fz.t f L);refine usePs (s2 Jf _ _ (KpsAt.up T V) (KpsAt.up hB V)) ?_;conv=>whnf
    repeat
     refine gae dd ?_;conv=>whnf
    refine useFs (vX Jf _ (KpsAt.up K L)) ?_;rintro _ Jg jg ⟨rfl,-⟩;conv=>whnf
    repeat
     refine gae dd ?_;conv=>whnf
    refine ych (args':=[.agg zC']) zSwap (fun n _=>yhe n) ?_;refine useFs (v0 Jg) ?_;rintro _ Jh jh ⟨rfl,-⟩;conv=>whnf
    have ba:Fz.le I Jh:=Fz.t W (Fz.t Y (Fz.t w3 (Fz.t V (Fz.t jg jh))));exact endFo (.ret (.va (.bool true))) Jh rfl (Fz.t q6 ba) (Fz.r Jh) ⟨rfl,tv⟩ rfl rfl
theorem Aq:short ([]:List Kp):=fun x a=>by simp at a
theorem lU{F:Fz}{b c:Nat}{l:List (List UInt8)}(h:F b=some (.arr 9 1 (l.map encS) c))(a:l.length=8):Sl F 9 1 encS (.slice false 0 b 0 1 8 c) l:=by
 have:=Sl.new (enc:=encS) (cap:=c) h;rw[a]at this;exact this
theorem yeu:Ex cA cB (root8 (allB d1)) (root8 (allB d3)) (allB d1) (allB d3) (encC cX)where
 al:=rfl
 mkA:=ygk
 mkF:=ygm
 mkB:=ygl
 cX:=ycw
 cN:=ycv
 all1:=fun F b h=>yQ F b _ _ h doc1
 all3:=fun F b h=>yQ F b _ _ h doc3
 enc:=fun F sk a=>cP (zI F sk cX a kp (by show exCl.length < 1000000;decide)) fun o d h=>by
  rcases h with⟨h,_⟩ | ⟨_,h⟩
  ·exact absurd (h.symm.trans cX_ok) ss
  ·exact h
 dec:=fun F=>by
  have n:crtOk ⟨root8 valA,root8 valC,2,exCl⟩=true:=by rw[<-all1,<-all3];exact cX_ok
  have h:=yW F (encC cX) (root8 valA) (root8 valC) rdl n rd1 rd2 rd3 rd4;rw[<-all1,<-all3]at h;exact h
 k1:=fun F f g sk j l k m a h1 e=>by
  have h:=lW F f g sk _ _ cX (allB d1) (allB d3) a kp (by show exCl.length < 1000000;decide) (lU h1 (ez _)) (lU e (ez _)) (fi doc1) (fi doc3);rw[chk1]at h;exact fy (cP h fun o d h=>⟨h,tv⟩)
 k2:=fun F f g sk j l k m a h1 e=>by
  have h:=lW F f g sk _ _ cX (allB d3) (allB d1) a kp (by show exCl.length < 1000000;decide) (lU e (ez _)) (lU h1 (ez _)) (fi doc3) (fi doc1);rw[chk2]at h;exact fy (cP h fun o d h=>⟨h,tv⟩)
 s1:=fun F s t c i=>by
  have h:=wI F s t cX cX c i kp (by show exCl.length < 1000000;decide);rw[sameX]at h;exact fy h
 s2:=fun F s t c i=>by
  have h:=wI F s t cA cB c i pp nK;rw[ygv]at h;exact fy h
 vX:=fun F s c=>by
  have h:=gP F s cX c kp (by show exCl.length < 1000000;decide);rw[cX_ok]at h;exact fy (cP h fun o d h=>⟨h,tv⟩)
 v0:=fun F=>by
  have h:=gP F (.slice true 0 0 0 2 0 0) ⟨[],[],0,[]⟩ SlR.nil Aq (by show 0 < 1000000;decide);rw[show crtOk ⟨[],[],0,[]⟩=false by decide]at h;exact fy (cP h fun o d h=>⟨h,tv⟩)
theorem AY(a:Fz)(b:MLF a)(c:RNDF a):Fo prog a 12 [] (fun o _=>o=.ret (.va (.bool true))/\True):=
 DB cA cB _ _ _ _ _ yeu a b c
theorem yer(a:Fz)(b:MLF a)(c:RNDF a):Fo prog a 12 [] (fun o _=>o=.ret (.va (.lit true))/\True):=
 fy (AY a b c)
theorem aG:Plain encN:=fun x=>⟨fun μ=>rfl,fun a b=>by
 simp only[encN,qi,qp,or_false]at b;rcases b with rfl | rfl<;>trivial⟩
theorem fs(c n:Int)(a:i64 c)(b:0 < n):Pu prog 105 [.va (.int .i64 c),.va (.int .i64 n)] (.va (.int .i64 (pickI c n))):=by
 intro F;unfold i64 at a;refine foS func105 ?_;refine br (fun g=>?_) (fun g=>?_)
 ·refine⟨by omega,?_⟩;refine endPu rfl (Fz.r F) (oi ?_) rfl;simp at g;rw[aF (n:=c+1) oo oo,aF (n:=0 - (c+1)) oo oo,pickI,if_pos g]
  congr 1;omega
 ·refine⟨by omega,?_⟩;refine endPu rfl (Fz.r F) (oi ?_) rfl;simp at g;rw[pickI,if_neg oo]
def chB:List UInt8:=[97,66,32,99,32,68]
def mkT:Nat->Int->List UInt8->List UInt8
 |0,_,s=>s
 |f+1,n,s=>if 0 < n then mkT f (n.tdiv 6) (s++[chB[(n.tmod 6).toNat]?.getD 97])else s
theorem yby:∀(f:Nat) (n:Int) (s:List UInt8),s.any badC=false->(mkT f n s).any badC=false/\(mkT f n s).length<=s.length+f
 |0,_,s,h=>⟨h,qj _⟩
 |f+1,n,s,h=>by
  rw[mkT];split
  ·have a:badC (chB[(n.tmod 6).toNat]?.getD 97)=false:=by
    have h1:∀x∈chB,badC x=false:=by decide
    cases b:chB[(n.tmod 6).toNat]? with
    |none=>decide
    |some x=>exact h1 x (yx b)
   have ih:=yby f (n.tdiv 6) (s++[chB[(n.tmod 6).toNat]?.getD 97]) (by rw[List.any_append,h];simp[a]);refine⟨ih.1,jm ih.2 ?_⟩;rw[qb];simp;omega
  ·exact⟨h,by omega⟩
def mkLn(x:Stp):DLn:=(mkT 8 (pickI x.1 1000000) [],pickI x.2 8)
theorem ydx{x:Stp}(a:i64 x.2):dlnOk (mkLn x)=true:=by
 have h:=yby 8 (pickI x.1 1000000) [] rfl;have c:=dY x.2 8 dd a;have b:(mkT 8 (pickI x.1 1000000) []).length<=80:=jm h.2 dd;show((decide ((mkT 8 (pickI x.1 1000000) []).length<=80)&& !(mkT 8 (pickI x.1 1000000) []).any badC)&&inR (pickI x.2 8) 0 7)=true;rw[h.1,decide_eq_true b,inR,decide_eq_true (show 0<=pickI x.2 8 by omega),decide_eq_true (show pickI x.2 8<=7 by omega)];rfl
abbrev Q3:=Int×Int×Int
def cellOf(k:Int)(x:Q3):Cel:=
 if pickI x.1 3=0 then⟨k.tdiv 5,k.tmod 5,true,0,pickI x.2.1 (k.tdiv 5+1),pickI x.2.2 (k.tmod 5+1)⟩
 else⟨k.tdiv 5,k.tmod 5,false,pickI x.2.1 201 - 100,0,0⟩
def mkC:List Q3->Int->List Cel->List Cel
 |[],_,o=>o
 |x::r,k,o=>if k < 25 then mkC r (k+1+pickI (x.1.tdiv 3) 3) (o++[cellOf k x])else o
theorem zl{k:Int}(b:0<=k)(e:k < 25){x:Q3}(a:i64 x.2.1/\i64 x.2.2):celOk (cellOf k x)=true/\(cellOf k x).row*5+(cellOf k x).col=k/\0<=(cellOf k x).col/\(cellOf k x).col<=4:=by
 have c:k.tdiv 5=k / 5:=jo b;have d:k.tmod 5=k % 5:=y4 b;unfold cellOf;rw[c,d];split
 ·have f:=dY x.2.1 (k / 5+1) oo a.1;have g:=dY x.2.2 (k % 5+1) oo a.2;refine⟨?_,by show k / 5*5+k % 5=k;omega,by show 0<=k % 5;omega,by show k % 5<=4;omega⟩;simp only[celOk,inR,if_true,decide_true,yz,qd,decide_eq_true_eq];omega
 ·have f:=dY x.2.1 201 dd a.1;refine⟨?_,by show k / 5*5+k % 5=k;omega,by show 0<=k % 5;omega,by show k % 5<=4;omega⟩;simp only[celOk,inR,jx,if_false,decide_true,qdb,qd,decide_eq_true_eq];omega
theorem nD{x:Int}(h:i64 x):i64 (x.tdiv 3):=by
 unfold i64 at*;rcases Int.le_total 0 x with h0 | h0
 ·rw[jo h0];omega
 ·have e:x.tdiv 3= -((-x).tdiv 3):=by rw[qd6,Int.neg_neg]
  rw[e,jo oo];omega
theorem i5{x:Int}(h:i64 x):i64 (x.tdiv 6):=by
 unfold i64 at*;rcases Int.le_total 0 x with h0 | h0
 ·rw[jo h0];omega
 ·have e:x.tdiv 6= -((-x).tdiv 6):=by rw[qd6,Int.neg_neg]
  rw[e,jo oo];omega
structure CInv(k:Int)(o:List Cel):Prop where
 k0:0<=k
 asc:ascF o=true
 last:∀l a,o=l++[a]->a.row*5+a.col < k/\0<=a.col/\a.col<=4
 ok:∀c∈o,celOk c=true
 len:(o.length:Int)<=k/\o.length<=25
theorem ygh{a b:Cel}(h:a.row*5+a.col < b.row*5+b.col)(e:0<=a.col/\a.col<=4)(hb:0<=b.col/\b.col<=4):ltC a b=true:=by
 unfold ltC;by_cases h1:a.row < b.row
 ·simp[h1]
 ·have c:a.row=b.row:=by omega
  have d:a.col < b.col:=by omega
  simp[c,d]
theorem CInv.push{k j:Int}{o:List Cel}(h:CInv k o)(b:k < 25){x:Q3}(i:i64 x.2.1/\i64 x.2.2)(m:0<=j):CInv (k+1+j) (o++[cellOf k x]):=by
 have d:=zl h.k0 b i;refine⟨by have:=h.k0;omega,?_,?_,?_,?_⟩
 ·rcases List.eq_nil_or_concat o with rfl | ⟨l,a,e⟩
  ·rfl
  ·rw[List.concat_eq_append]at e;subst e;have g:=h.last l a rfl;rw[ql];show ascF (l++[a,cellOf k x])=true;rw[oY,h.asc,ygh oo g.2 d.2.2];rfl
 ·intro l a e;have h1:=List.append_inj_right' e rfl;have f:cellOf k x=a:=by simpa using h1
  rw[<-f];omega
 ·intro c hcm;rcases yd.1 hcm with hcm | hcm
  ·exact h.ok c hcm
  ·have:c=cellOf k x:=by simpa using hcm
   rw[this];exact d.1
 ·have:=h.len;rw[qb];simp only[qf,qv];omega
theorem rO:∀(l:List Q3) (k:Int) (o:List Cel),(∀x∈l,i64 x.2.1/\i64 x.2.2)->(∀x∈l,i64 x.1)->CInv k o->∃d,CInv d (mkC l k o)
 |[],k,o,_,_,h=>⟨k,h⟩
 |x::r,k,o,hx,hx1,h=>by
  rw[mkC];split
  ·rename_i a;have h1:=hx1 x ss;have c:=dY (x.1.tdiv 3) 3 dd (nD h1);exact rO r _ _ (fun y b=>hx y (by simp[b])) (fun y b=>hx1 y (by simp[b])) (h.push a (hx x ss) c.1)
  ·exact⟨k,h⟩
def mkB(t n:Nat):List UInt8:=(List.range t).map fun i=>UInt8.ofNat (48+n / 2^i % 2)
def madeD(l:List Stp)(x:List Q3)(a b:Int):Dc:=
 ⟨(l.take 6).map mkLn,mkC x 0 [],pickI a 6,mkB (pickI a 6*(1+pickI (a.tdiv 6) 4)).toNat (pickI b 1048576).toNat⟩
theorem CB(t n:Nat):(mkB t n).all bitK=true:=by
 rw[qo];intro b hb;obtain⟨i,_,rfl⟩:=jk.1 hb;rcases Nat.mod_two_eq_zero_or_one (n / 2^i)with h | h
 ·rw[h];rfl
 ·rw[h];rfl
theorem qR(t n:Nat):(mkB t n).length=t:=by simp[mkB]
theorem Cw{l:List Stp}{x:List Q3}{i d:Int}(G:∀y∈l,i64 y.2)(K:∀y∈x,i64 y.2.1/\i64 y.2.2)(u:∀y∈x,i64 y.1)(A:i64 i):docOk (madeD l x i d)=true/\DcSmall (madeD l x i d):=by
 obtain⟨k,o⟩:=rO x 0 [] K u ⟨by omega,rfl,fun l a e=>by simp at e,fun c o=>by simp at o,by simp⟩;have B:=dY i 6 dd A;have hh:=dY (i.tdiv 6) 4 dd (i5 A);have I:((l.take 6).map mkLn).length<=6:=by rw[qa,qn];omega
 have s:((l.take 6).map mkLn).all dlnOk=true:=by
  rw[qo];intro y L;obtain⟨z,M,rfl⟩:=jk.1 L;exact ydx (G z (yf M))
 have q:(mkC x 0 []).all celOk=true:=by rw[qo];exact o.ok
 obtain⟨w,n⟩:∃w,pickI i 6=w:=⟨_,rfl⟩
 obtain⟨h,m⟩:∃h,pickI (i.tdiv 6) 4=h:=⟨_,rfl⟩
 have p:rasOk w (mkB (w*(1+h)).toNat (pickI d 1048576).toNat)=true:=by
  rw[n]at B;rw[m]at hh;have b:=CB (w*(1+h)).toNat (pickI d 1048576).toNat;have j:=qR (w*(1+h)).toNat (pickI d 1048576).toNat;have g:inR w 0 32=true:=by rw[inR,decide_eq_true (show 0<=w by omega),decide_eq_true (show w<=32 by omega)];rfl
  by_cases e:w=0
  ·subst e;rw[rasOk,g,b];simp[mkB]
  ·have J:0<=w*(1+h):=qcg oo oo;have f:((mkB (w*(1+h)).toNat (pickI d 1048576).toNat).length:Int)=w*(1+h):=by rw[j];exact qaw J
   have E:hgt w (mkB (w*(1+h)).toNat (pickI d 1048576).toNat)=1+h:=by
    rw[hgt,if_neg oo,f,qdc _ e]
   rw[rasOk,g,b,E,f,decide_eq_true (show 0 < w by omega),decide_eq_true rfl,inR,decide_eq_true (show 1<=1+h by omega),decide_eq_true (show 1+h<=32 by omega)];simp
 have D:madeD l x i d=⟨(l.take 6).map mkLn,mkC x 0 [],w,mkB (w*(1+h)).toNat (pickI d 1048576).toNat⟩:=by rw[madeD,n,m]
 rw[D];refine⟨?_,⟨by show((l.take 6).map mkLn).length<=1000;omega,by show(mkC x 0 []).length<=1000;have:=o.len;omega,?_⟩⟩
 ·show(((((decide (((l.take 6).map mkLn).length<=64)&&decide ((mkC x 0 []).length<=64))&&ascF (mkC x 0 []))&&((l.take 6).map mkLn).all dlnOk)&&(mkC x 0 []).all celOk)&&rasOk w _)=true;rw[s,q,o.asc,p,decide_eq_true (show((l.take 6).map mkLn).length<=64 by omega),decide_eq_true (show(mkC x 0 []).length<=64 by have:=o.len;omega)];rfl
 ·show(mkB (w*(1+h)).toNat (pickI d 1048576).toNat).length<=70000;rw[qR];rw[n]at B;rw[m]at hh;have:w*(1+h)<=5*4:=qbb oo oo oo oo;omega
theorem yef{b:Array Value}{t:TypeId}{d:Nat×Nat}{i:Nat}{z:Int}(h:b[i]? =some (.int .i64 z)):RdO (.cells b t d) i 1 [.int .i64 z]:=by
 refine⟨rfl,fun a e=>?_,fun ρ=>⟨t,d,b.toList.take i,b.toList.drop (i+1),?_,?_⟩⟩
 ·simp at e;subst e;trivial
 ·have f:=(jp.1 h).1;have j:b[i]=.int .i64 z:=(jp.1 h).2
  congr 1
  apply qdf.1;have k:i < b.toList.length:=by simpa using f
  have c:b.toList=b.toList.take i++b.toList[i]::b.toList.drop (i+1):=by
   rw[<-ji k,yw]
  have g:b.toList[i]=.int .i64 z:=by simpa using j
  rw[g]at c;simpa[SA.den]using c
 ·have f:=(jp.1 h).1;rw[qn,qd1];omega
theorem RawB.rd1{B:SB}{i:Nat}{z:Int}{p:Pl}{K:List SA->Prop}(h:RawB B i z)(b:p.e*p.sz+p.o=i)(a:K [.int .i64 z]):rdB B p 1 K:=by
 cases B with
 |obj o=>
  cases o with
  |cells cs t fr=>exact⟨_,by rw[b];exact yef h,a⟩
  |_=>exact h.elim
 |cells t l=>
  simp only[rdB];rw[b,tG l i _ h];exact a
 |arr t sz L room=>exact h.elim
theorem RawAt.rdO1{F:Fz}{b a:Nat}{zs:List Int}(h:RawAt F b a zs):∃B,∀(k:Nat) (g:k < zs.length),F b=some B/\RawB B (a+k) zs[k]:=by
 rcases h with h | ⟨B,h1,c⟩
 ·exact⟨.cells 0 [],fun k g=>by subst h;simp at g⟩
 ·exact⟨B,fun k g=>⟨h1,c k g⟩⟩
theorem xA:∀(l:List Stp) (k:Nat),(ints2 l)[k*2]? =(l[k]?).map (·.1)/\(ints2 l)[k*2+1]? =(l[k]?).map (·.2)
 |[],k=>by simp[ints2]
 |q::r,0=>⟨rfl,rfl⟩
 |q::r,k+1=>by
  have h:=xA r k;have e:(k+1)*2=k*2+2:=by omega
  rw[e];exact h
def ints3(x:List Q3):List Int:=(x.map fun q=>[q.1,q.2.1,q.2.2]).flatten
theorem vR:∀l:List Q3,(ints3 l).length=l.length*3
 |[]=>rfl
 |q::r=>by
  have:=vR r;show(q.1::q.2.1::q.2.2::ints3 r).length=_;simp only[qf];omega
theorem xB:∀(l:List Q3) (k:Nat),(ints3 l)[k*3]? =(l[k]?).map (·.1)/\(ints3 l)[k*3+1]? =(l[k]?).map (·.2.1)/\(ints3 l)[k*3+2]? =(l[k]?).map (·.2.2)
 |[],k=>by simp[ints3]
 |q::r,0=>⟨rfl,rfl,rfl⟩
 |q::r,k+1=>by
  have h:=xB r k;have e:(k+1)*3=k*3+3:=by omega
  rw[e];exact h
theorem RawAt.pair{F:Fz}{b a:Nat}{x:List Stp}(h:RawAt F b a (ints2 x)):∃B,∀(k:Nat) (g:k < x.length),F b=some B/\RawB B (a+k*2) (x[k]'g).1/\RawB B (a+k*2+1) (x[k]'g).2:=by
 obtain⟨B,e⟩:=h.rdO1;refine⟨B,fun k g=>?_⟩;have f:=vQ x;obtain⟨a0,d⟩:=xA x k;rw[qc g]at a0 d;have c:=e (k*2) oo;have h1:=e (k*2+1) oo;rw[(qh.1 a0).2]at c;rw[(qh.1 d).2]at h1;exact⟨c.1,c.2,by rw[qbs];exact h1.2⟩
theorem RawAt.triple{F:Fz}{b a:Nat}{x:List Q3}(h:RawAt F b a (ints3 x)):∃B,∀(k:Nat) (g:k < x.length),F b=some B/\RawB B (a+k*3) (x[k]'g).1/\RawB B (a+k*3+1) (x[k]'g).2.1/\RawB B (a+k*3+2) (x[k]'g).2.2:=by
 obtain⟨B,d⟩:=h.rdO1;refine⟨B,fun k g=>?_⟩;have j:=vR x;obtain⟨a0,e,f⟩:=xB x k;rw[qc g]at a0 e f;have c:=d (k*3) oo;have h1:=d (k*3+1) oo;have i:=d (k*3+2) oo;rw[(qh.1 a0).2]at c;rw[(qh.1 e).2]at h1;rw[(qh.1 f).2]at i;exact⟨c.1,c.2,by rw[qbs];exact h1.2,by rw[qbs];exact i.2⟩
