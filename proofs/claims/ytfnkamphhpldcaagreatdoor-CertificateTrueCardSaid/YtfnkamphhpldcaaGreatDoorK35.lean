import Derived.Test.YtfnkamphhpldcaaGreatDoorK34
import Derived.Test.YtfnkamphhpldcaaGreatDoorK10
set_option maxHeartbeats 64000000
namespace Go.Proofs.YtfnkamphhpldcaaGreatDoor
open Go Sx
set_option maxRecDepth 100000
structure Ex(A B:Crt)(xs xd:List UInt8)(vA vC:List (List UInt8))(E:List UInt8):Prop where
 al:A.len=1
 mkA:∀F,MLF F->RNDF F->∀sk b1 b2,KpsAt F sk mg1.keep->LnAt F b1 [84,111,32,32,66,101] 5->LnAt F b2 [116,111,32,32,98,101] 5->Fo Tryz.prog F 21 [.agg (migS mg1 sk),.agg (dS b1),.agg (dS b2)] (fun o F'=>∃sc,o=.ret (.tup [.agg (crtS A sc),.va (.int .i64 0)])/\ClsAt F' sc A.cl)
 mkF:∀F,MLF F->RNDF F->∀sk b1 b2,KpsAt F sk mg1.keep->LnAt F b1 [84,111,32,32,66,101] 5->LnAt F b2 [116,111,32,98,101] 5->Fo Tryz.prog F 21 [.agg (migS mg1 sk),.agg (dS b1),.agg (dS b2)] (fun o _=>o=.ret (.tup [.agg zC,.va (.int .i64 100)]))
 mkB:∀F,MLF F->RNDF F->∀sk b1 b2,KpsAt F sk mg2.keep->LnAt F b1 [116,111,32,32,98,101] 5->LnAt F b2 [116,111,32,98,101] 0->Fo Tryz.prog F 21 [.agg (migS mg2 sk),.agg (dS b1),.agg (dS b2)] (fun o F'=>∃sc,o=.ret (.tup [.agg (crtS B sc),.va (.int .i64 0)])/\ClsAt F' sc B.cl)
 cX:∀F b sa sb,ClsAt F sa A.cl->ClsAt F sb B.cl->F b=some (.arr 48 4 [crtS A sa,crtS B sb] 2)->Fo Tryz.prog F 30 [.va (.slice false 0 b 0 4 2 2)] (fun o F'=>∃sk,o=.ret (.tup [.agg (crtS ⟨xs,xd,2,exCl⟩ sk),.va (.int .i64 0)])/\ClsAt F' sk exCl)
 cN:∀F b sa sb,ClsAt F sa A.cl->ClsAt F sb B.cl->F b=some (.arr 48 4 [crtS B sb,crtS A sa] 2)->Fo Tryz.prog F 30 [.va (.slice false 0 b 0 4 2 2)] (fun o _=>o=.ret (.tup [.agg zC,.va (.int .i64 100)]))
 all1:∀F b,LnAt F b [84,111,32,32,66,101] 5->Fo Tryz.prog F 14 [.agg (dS b)] (fun o F'=>∃b c,o=.ret (.tup [.va (.slice false 0 b 0 1 8 c),.va (.int .i64 0)])/\F' b=some (.arr 9 1 (vA.map encS) c))
 all3:∀F b,LnAt F b [116,111,32,98,101] 0->Fo Tryz.prog F 14 [.agg (dS b)] (fun o F'=>∃b c,o=.ret (.tup [.va (.slice false 0 b 0 1 8 c),.va (.int .i64 0)])/\F' b=some (.arr 9 1 (vC.map encS) c))
 enc:∀F sk,ClsAt F sk exCl->Fo Tryz.prog F 34 [.agg (crtS ⟨xs,xd,2,exCl⟩ sk)] (fun o _=>o=.ret (.tup [.va (.str E),.va (.int .i64 0)]))
 dec:∀F,Fo Tryz.prog F 36 [.va (.str E)] (fun o F'=>∃sk,o=.ret (.tup [.agg (crtS ⟨xs,xd,2,exCl⟩ sk),.va (.int .i64 0)])/\ClsAt F' sk exCl)
 k1:∀F,MLF F->RNDF F->∀sk b1 c1 b3 c3,ClsAt F sk exCl->F b1=some (.arr 9 1 (vA.map encS) c1)->F b3=some (.arr 9 1 (vC.map encS) c3)->Fo Tryz.prog F 22 [.agg (crtS ⟨xs,xd,2,exCl⟩ sk),.va (.slice false 0 b1 0 1 8 c1),.va (.slice false 0 b3 0 1 8 c3)] (fun o _=>o=.ret (.va (.lit true))/\True)
 k2:∀F,MLF F->RNDF F->∀sk b1 c1 b3 c3,ClsAt F sk exCl->F b1=some (.arr 9 1 (vA.map encS) c1)->F b3=some (.arr 9 1 (vC.map encS) c3)->Fo Tryz.prog F 22 [.agg (crtS ⟨xs,xd,2,exCl⟩ sk),.va (.slice false 0 b3 0 1 8 c3),.va (.slice false 0 b1 0 1 8 c1)] (fun o _=>o=.ret (.va (.lit false))/\True)
 s1:∀F s t,ClsAt F s exCl->ClsAt F t exCl->Fo Tryz.prog F 27 [.agg (crtS ⟨xs,xd,2,exCl⟩ s),.agg (crtS ⟨xs,xd,2,exCl⟩ t)] (fun o F'=>o=.ret (.va (.lit true))/\F'=F)
 s2:∀F s t,ClsAt F s A.cl->ClsAt F t B.cl->Fo Tryz.prog F 27 [.agg (crtS A s),.agg (crtS B t)] (fun o F'=>o=.ret (.va (.lit false))/\F'=F)
 vX:∀F s,ClsAt F s exCl->Fo Tryz.prog F 25 [.agg (crtS ⟨xs,xd,2,exCl⟩ s)] (fun o _=>o=.ret (.va (.lit true))/\True)
 v0:∀F,Fo Tryz.prog F 25 [.agg [.str [],.str [],.int .i64 0,.slice true 0 0 0 2 0 0]] (fun o _=>o=.ret (.va (.lit false))/\True)
theorem ztg(A B:Crt)(xs xd:List UInt8)(vA vC:List (List UInt8))(E:List UInt8)(ex:Ex A B xs xd vA vC E)(F0:Fz)(m0:MLF F0)(r0:RNDF F0):Fo Tryz.prog F0 12 [] (fun o _=>o=.ret (.va (.bool true))/\True):=by
 obtain⟨ah,Z,aa,mkB,cX,cN,all1,all3,am,az,k1,k2,s1,s2,vX,v0⟩:=ex;obtain⟨As,Ad,An,T⟩:=A;obtain⟨Bs,Bd,Bn,U⟩:=B;replace ah:An=1:=ah;subst ah;refine foS Tryz.func12 ?_;refine zcc 1 (fun _=>.arr 56 2 ([(1,0)].map enc) 1) ?_;intro p1 F1 l1 ap;refine zcc 4 (fun _=>.arr 56 2 ([(2,0)].map enc) 1) ?_;intro p4 F4 l4 ar;refine zcc 5 (fun _=>.arr 56 2 ([(6,0)].map enc) 1) ?_;intro p5 F5 l5 au;refine zcc 2 (fun _=>.arr 96 2 [[.int .i64 1,.slice false 0 (p1 0) 0 2 1 1]] 1) ?_;intro p2 F2 l2 aq;refine zcc 6 (fun _=>.arr 96 2 [[.int .i64 1,.slice false 0 (p4 0) 0 2 1 1],[.int .i64 2,.slice false 0 (p5 0) 0 2 1 1]] 2) ?_;intro p6 V l6 av
 have K1:KpsAt V (.slice false 0 (p2 0) 0 2 1 1) mg1.keep:=SlR.new (l:=mg1.keep) (l6 _ _ (aq 0 rfl)) rfl fun k x O=>by
  match k,O with
  |0,O=>cases O;exact⟨_,rfl,_,rfl,Sl.new (l:=[(1,0)]) (l6 _ _ (l2 _ _ (l5 _ _ (l4 _ _ (ap 0 rfl)))))⟩
  |k+1,O=>cases O
 have K2:KpsAt V (.slice false 0 (p6 0) 0 2 2 2) mg2.keep:=SlR.new (l:=mg2.keep) (av 0 rfl) rfl fun k x O=>by
  match k,O with
  |0,O=>cases O;exact⟨_,rfl,_,rfl,Sl.new (l:=[(2,0)]) (l6 _ _ (l2 _ _ (l5 _ _ (ar 0 rfl))))⟩
  |1,O=>cases O;exact⟨_,rfl,_,rfl,Sl.new (l:=[(6,0)]) (l6 _ _ (l2 _ _ (au 0 rfl)))⟩
  |k+2,O=>cases O
 have q6:Fz.le F0 V:=Fz.t l1 (Fz.t l4 (Fz.t l5 (Fz.t l2 l6)));have m6:=m0.mono q6;have r6:=r0.mono q6;clear ap ar au aq av l1 l4 l5 l2 l6
 refine cutJ (X:={ x:Fz×(Bool×Nat×Nat×Nat) // Fz.le V x.1/\ClsAt x.1 (.slice x.2.1 0 x.2.2.1 x.2.2.2.1 2 T.length x.2.2.2.2) T }) V (fun x=>[(3,.va (.ptr ⟨8,0,0,0,0⟩)),(4,.va (.int .i64 0))]) [37,38,39,40,41,42,43] (fun x=>[(0,.frz x.1.1),(8,.one (.cells 48 (crtS ⟨As,Ad,1,T⟩ (.slice x.1.2.1 0 x.1.2.2.1 x.1.2.2.2.1 2 T.length x.1.2.2.2.2))))]) 9
  (fun s u=>leI [] s u rfl ⟨tv,tv⟩ trivial ⟨Fz.r V,tv⟩) (fun s u=>?draws3) ?rest3
 case draws3=>
  refine dwS (.look 0 (.alt 1 (.alt 2 (.alt 3 (lk [4,5,6] (.alt 7 (.alt 8 (.look 9 .done) .nil) .nil)) (.alt 7 (.alt 3 (lk [4,5,6] (.alt 8 (.look 9 .done) .nil)) .nil) .nil)) (.alt 7 (.alt 2 (.alt 3 (lk [4,5,6] (.alt 8 (.look 9 .done) .nil)) .nil) .nil) .nil)) (.alt 7 (.alt 1 (.alt 2 (.alt 3 (lk [4,5,6] (.alt 8 (.look 9 .done) .nil)) .nil) .nil) .nil) .nil))) [3] ?_;refine⟨rfl,?_,?_⟩
  ·refine useFs (zb5 V [84,111,32,32,66,101] 5) ?_;rintro _ L i ⟨w,rfl,h⟩;refine⟨i,rfl,?_,?_⟩
   ·refine useFs (zb5 L [116,111,32,32,98,101] 5) ?_;rintro _ p a ⟨q,rfl,f⟩;refine⟨a,rfl,?_,?_⟩
    ·conv=>whnf
     have e:=Fz.t i a;have b:=Z p (m6.mono e) (r6.mono e) _ w q (KpsAt.up K1 e) (a _ _ h) f;refine useFs b ?_;rintro _ m j ⟨sc,rfl,c⟩;have d:=c;obtain⟨K,y,I,D,cL,cr,rfl,-,-,-,-⟩:=c;refine⟨j,rfl,?_⟩;conv=>whnf
     refine⟨Fz.r _,rfl,Fz.r _,rfl,?_⟩;exact⟨rfl,⟨(m,(K,y,I,D)),Fz.t i (Fz.t a j),d⟩,leR [(8,8)] s u rfl ⟨tv,zan _ (.inr (by omega)),tv⟩ ⟨rfl,rfl,tv⟩ ⟨Fz.r m,rfl,tv⟩⟩
    ·refine⟨Fz.r _,rfl,?_⟩;conv=>whnf
     conv=>whnf
     have e:=Fz.t i a;have b:=Z p (m6.mono e) (r6.mono e) _ w q (KpsAt.up K1 e) (a _ _ h) f;refine useFs b ?_;rintro _ m j ⟨sc,rfl,c⟩;have d:=c;obtain⟨K,y,I,D,cL,cr,rfl,-,-,-,-⟩:=c;refine⟨j,rfl,Fz.r _,rfl,?_⟩;exact⟨rfl,⟨(m,(K,y,I,D)),Fz.t i (Fz.t a j),d⟩,leR [(8,8)] s u rfl ⟨tv,zan _ (.inr (by omega)),tv⟩ ⟨rfl,rfl,tv⟩ ⟨Fz.r m,rfl,tv⟩⟩
   ·refine⟨Fz.r _,rfl,?_⟩;conv=>whnf
    refine useFs (zb5 L [116,111,32,32,98,101] 5) ?_;rintro _ p a ⟨q,rfl,f⟩;refine⟨a,rfl,?_⟩;conv=>whnf
    conv=>whnf
    have e:=Fz.t i a;have b:=Z p (m6.mono e) (r6.mono e) _ w q (KpsAt.up K1 e) (a _ _ h) f;refine useFs b ?_;rintro _ m j ⟨sc,rfl,c⟩;have d:=c;obtain⟨K,y,I,D,cL,cr,rfl,-,-,-,-⟩:=c;refine⟨j,rfl,Fz.r _,rfl,?_⟩;exact⟨rfl,⟨(m,(K,y,I,D)),Fz.t i (Fz.t a j),d⟩,leR [(8,8)] s u rfl ⟨tv,zan _ (.inr (by omega)),tv⟩ ⟨rfl,rfl,tv⟩ ⟨Fz.r m,rfl,tv⟩⟩
  ·refine⟨Fz.r _,rfl,?_⟩;conv=>whnf
   refine useFs (zb5 V [84,111,32,32,66,101] 5) ?_;rintro _ L i ⟨w,rfl,h⟩;refine⟨i,rfl,?_⟩;conv=>whnf
   refine useFs (zb5 L [116,111,32,32,98,101] 5) ?_;rintro _ p a ⟨q,rfl,f⟩;refine⟨a,rfl,?_⟩;conv=>whnf
   conv=>whnf
   have e:=Fz.t i a;have b:=Z p (m6.mono e) (r6.mono e) _ w q (KpsAt.up K1 e) (a _ _ h) f;refine useFs b ?_;rintro _ m j ⟨sc,rfl,c⟩;have d:=c;obtain⟨K,y,I,D,cL,cr,rfl,-,-,-,-⟩:=c;refine⟨j,rfl,Fz.r _,rfl,?_⟩;exact⟨rfl,⟨(m,(K,y,I,D)),Fz.t i (Fz.t a j),d⟩,leR [(8,8)] s u rfl ⟨tv,zan _ (.inr (by omega)),tv⟩ ⟨rfl,rfl,tv⟩ ⟨Fz.r m,rfl,tv⟩⟩
 case rest3=>
  rintro⟨⟨G,an,ab,ae,ac⟩,w1,hA⟩;replace w1:Fz.le V G:=w1;replace hA:ClsAt G (.slice an 0 ab ae 2 T.length ac) T:=hA;have mG:=m6.mono w1;have rG:=r6.mono w1;have W:=KpsAt.up K1 w1;have ay:=KpsAt.up K2 w1
  conv=>whnf
  refine cutJ (X:={ x:Fz // Fz.le G x }) G (fun x=>[(5,.va (.ptr ⟨9,0,0,0,0⟩)),(6,.va (.int .i64 100))]) [44,45,46,47,48,49,50] (fun x=>[(0,.frz x.1),(9,.one (.cells 48 zC))]) 10
   (fun s u=>leI [] s u rfl ⟨tv,tv⟩ trivial ⟨Fz.r G,tv⟩) (fun s u=>?draws4) ?rest4
  case draws4=>
   refine dwS (.look 0 (.alt 1 (.alt 2 (.alt 3 (lk [4,5,6] (.alt 7 (.alt 8 (.look 9 .done) .nil) .nil)) (.alt 7 (.alt 3 (lk [4,5,6] (.alt 8 (.look 9 .done) .nil)) .nil) .nil)) (.alt 7 (.alt 2 (.alt 3 (lk [4,5,6] (.alt 8 (.look 9 .done) .nil)) .nil) .nil) .nil)) (.alt 7 (.alt 1 (.alt 2 (.alt 3 (lk [4,5,6] (.alt 8 (.look 9 .done) .nil)) .nil) .nil) .nil) .nil))) [3] ?_;refine⟨rfl,?_,?_⟩
   ·refine useFs (zb5 G [84,111,32,32,66,101] 5) ?_;rintro _ L i ⟨w,rfl,h⟩;refine⟨i,rfl,?_,?_⟩
    ·refine useFs (zb5 L [116,111,32,98,101] 5) ?_;rintro _ p a ⟨q,rfl,f⟩;refine⟨a,rfl,?_,?_⟩
     ·conv=>whnf
      have e:=Fz.t i a;have b:=aa p (mG.mono e) (rG.mono e) _ w q (KpsAt.up W e) (a _ _ h) f;refine useFs b ?_;rintro _ m j rfl;refine⟨j,rfl,?_⟩;conv=>whnf
      refine⟨Fz.r _,rfl,Fz.r _,rfl,?_⟩;exact⟨rfl,⟨m,Fz.t i (Fz.t a j)⟩,leR [(9,9)] s u rfl ⟨tv,zan ⟨[],[],0,[]⟩ (sk:=.nilsl) trivial,tv⟩ ⟨rfl,rfl,tv⟩ ⟨Fz.r m,rfl,tv⟩⟩
     ·refine⟨Fz.r _,rfl,?_⟩;conv=>whnf
      conv=>whnf
      have e:=Fz.t i a;have b:=aa p (mG.mono e) (rG.mono e) _ w q (KpsAt.up W e) (a _ _ h) f;refine useFs b ?_;rintro _ m j rfl;refine⟨j,rfl,Fz.r _,rfl,?_⟩;exact⟨rfl,⟨m,Fz.t i (Fz.t a j)⟩,leR [(9,9)] s u rfl ⟨tv,zan ⟨[],[],0,[]⟩ (sk:=.nilsl) trivial,tv⟩ ⟨rfl,rfl,tv⟩ ⟨Fz.r m,rfl,tv⟩⟩
    ·refine⟨Fz.r _,rfl,?_⟩;conv=>whnf
     refine useFs (zb5 L [116,111,32,98,101] 5) ?_;rintro _ p a ⟨q,rfl,f⟩;refine⟨a,rfl,?_⟩;conv=>whnf
     conv=>whnf
     have e:=Fz.t i a;have b:=aa p (mG.mono e) (rG.mono e) _ w q (KpsAt.up W e) (a _ _ h) f;refine useFs b ?_;rintro _ m j rfl;refine⟨j,rfl,Fz.r _,rfl,?_⟩;exact⟨rfl,⟨m,Fz.t i (Fz.t a j)⟩,leR [(9,9)] s u rfl ⟨tv,zan ⟨[],[],0,[]⟩ (sk:=.nilsl) trivial,tv⟩ ⟨rfl,rfl,tv⟩ ⟨Fz.r m,rfl,tv⟩⟩
   ·refine⟨Fz.r _,rfl,?_⟩;conv=>whnf
    refine useFs (zb5 G [84,111,32,32,66,101] 5) ?_;rintro _ L i ⟨w,rfl,h⟩;refine⟨i,rfl,?_⟩;conv=>whnf
    refine useFs (zb5 L [116,111,32,98,101] 5) ?_;rintro _ p a ⟨q,rfl,f⟩;refine⟨a,rfl,?_⟩;conv=>whnf
    conv=>whnf
    have e:=Fz.t i a;have b:=aa p (mG.mono e) (rG.mono e) _ w q (KpsAt.up W e) (a _ _ h) f;refine useFs b ?_;rintro _ m j rfl;refine⟨j,rfl,Fz.r _,rfl,?_⟩;exact⟨rfl,⟨m,Fz.t i (Fz.t a j)⟩,leR [(9,9)] s u rfl ⟨tv,zan ⟨[],[],0,[]⟩ (sk:=.nilsl) trivial,tv⟩ ⟨rfl,rfl,tv⟩ ⟨Fz.r m,rfl,tv⟩⟩
  case rest4=>
   rintro⟨H,w2⟩;replace w2:Fz.le G H:=w2;have mH:=mG.mono w2;have rH:=rG.mono w2;have M:=KpsAt.up ay w2;have a0:=KpsAt.up hA w2
   conv=>whnf
   refine cutJ (X:={ x:Fz×(Bool×Nat×Nat×Nat) // Fz.le H x.1/\ClsAt x.1 (.slice x.2.1 0 x.2.2.1 x.2.2.2.1 2 U.length x.2.2.2.2) U }) H (fun x=>[(7,.va (.ptr ⟨10,0,0,0,0⟩)),(8,.va (.int .i64 0))]) [51,52,53,54,55,56,57] (fun x=>[(0,.frz x.1.1),(10,.one (.cells 48 (crtS ⟨Bs,Bd,Bn,U⟩ (.slice x.1.2.1 0 x.1.2.2.1 x.1.2.2.2.1 2 U.length x.1.2.2.2.2))))]) 11
    (fun s u=>leI [] s u rfl ⟨tv,tv⟩ trivial ⟨Fz.r H,tv⟩) (fun s u=>?draws5) ?rest5
   case draws5=>
    refine dwS (.look 0 (.alt 1 (.alt 2 (.alt 3 (lk [4,5,6] (.alt 7 (.alt 8 (.look 9 .done) .nil) .nil)) (.alt 7 (.alt 3 (lk [4,5,6] (.alt 8 (.look 9 .done) .nil)) .nil) .nil)) (.alt 7 (.alt 2 (.alt 3 (lk [4,5,6] (.alt 8 (.look 9 .done) .nil)) .nil) .nil) .nil)) (.alt 7 (.alt 1 (.alt 2 (.alt 3 (lk [4,5,6] (.alt 8 (.look 9 .done) .nil)) .nil) .nil) .nil) .nil))) [7] ?_;refine⟨rfl,?_,?_⟩
    ·refine useFs (zb5 H [116,111,32,32,98,101] 5) ?_;rintro _ L i ⟨w,rfl,h⟩;refine⟨i,rfl,?_,?_⟩
     ·refine useFs (zb5 L [116,111,32,98,101] 0) ?_;rintro _ p a ⟨q,rfl,f⟩;refine⟨a,rfl,?_,?_⟩
      ·conv=>whnf
       have e:=Fz.t i a;have b:=mkB p (mH.mono e) (rH.mono e) _ w q (KpsAt.up M e) (a _ _ h) f;refine useFs b ?_;rintro _ m j ⟨sc,rfl,c⟩;have d:=c;obtain⟨K,y,I,D,cL,cr,rfl,-,-,-,-⟩:=c;refine⟨j,rfl,?_⟩;conv=>whnf
       refine⟨Fz.r _,rfl,Fz.r _,rfl,?_⟩;exact⟨rfl,⟨(m,(K,y,I,D)),Fz.t i (Fz.t a j),d⟩,leR [(10,10)] s u rfl ⟨tv,zan _ (.inr (by omega)),tv⟩ ⟨rfl,rfl,tv⟩ ⟨Fz.r m,rfl,tv⟩⟩
      ·refine⟨Fz.r _,rfl,?_⟩;conv=>whnf
       conv=>whnf
       have e:=Fz.t i a;have b:=mkB p (mH.mono e) (rH.mono e) _ w q (KpsAt.up M e) (a _ _ h) f;refine useFs b ?_;rintro _ m j ⟨sc,rfl,c⟩;have d:=c;obtain⟨K,y,I,D,cL,cr,rfl,-,-,-,-⟩:=c;refine⟨j,rfl,Fz.r _,rfl,?_⟩;exact⟨rfl,⟨(m,(K,y,I,D)),Fz.t i (Fz.t a j),d⟩,leR [(10,10)] s u rfl ⟨tv,zan _ (.inr (by omega)),tv⟩ ⟨rfl,rfl,tv⟩ ⟨Fz.r m,rfl,tv⟩⟩
     ·refine⟨Fz.r _,rfl,?_⟩;conv=>whnf
      refine useFs (zb5 L [116,111,32,98,101] 0) ?_;rintro _ p a ⟨q,rfl,f⟩;refine⟨a,rfl,?_⟩;conv=>whnf
      conv=>whnf
      have e:=Fz.t i a;have b:=mkB p (mH.mono e) (rH.mono e) _ w q (KpsAt.up M e) (a _ _ h) f;refine useFs b ?_;rintro _ m j ⟨sc,rfl,c⟩;have d:=c;obtain⟨K,y,I,D,cL,cr,rfl,-,-,-,-⟩:=c;refine⟨j,rfl,Fz.r _,rfl,?_⟩;exact⟨rfl,⟨(m,(K,y,I,D)),Fz.t i (Fz.t a j),d⟩,leR [(10,10)] s u rfl ⟨tv,zan _ (.inr (by omega)),tv⟩ ⟨rfl,rfl,tv⟩ ⟨Fz.r m,rfl,tv⟩⟩
    ·refine⟨Fz.r _,rfl,?_⟩;conv=>whnf
     refine useFs (zb5 H [116,111,32,32,98,101] 5) ?_;rintro _ L i ⟨w,rfl,h⟩;refine⟨i,rfl,?_⟩;conv=>whnf
     refine useFs (zb5 L [116,111,32,98,101] 0) ?_;rintro _ p a ⟨q,rfl,f⟩;refine⟨a,rfl,?_⟩;conv=>whnf
     conv=>whnf
     have e:=Fz.t i a;have b:=mkB p (mH.mono e) (rH.mono e) _ w q (KpsAt.up M e) (a _ _ h) f;refine useFs b ?_;rintro _ m j ⟨sc,rfl,c⟩;have d:=c;obtain⟨K,y,I,D,cL,cr,rfl,-,-,-,-⟩:=c;refine⟨j,rfl,Fz.r _,rfl,?_⟩;exact⟨rfl,⟨(m,(K,y,I,D)),Fz.t i (Fz.t a j),d⟩,leR [(10,10)] s u rfl ⟨tv,zan _ (.inr (by omega)),tv⟩ ⟨rfl,rfl,tv⟩ ⟨Fz.r m,rfl,tv⟩⟩
   case rest5=>
    rintro⟨⟨J,bn,bb,be,bc⟩,w3,hB⟩;replace w3:Fz.le H J:=w3;replace hB:ClsAt J (.slice bn 0 bb be 2 U.length bc) U:=hB;have mJ:=mH.mono w3;have rJ:=rH.mono w3;have ai:=KpsAt.up a0 w3;refine zat 11 (fun _=>.arr 48 4 [crtS ⟨As,Ad,1,T⟩ (.slice an 0 ab ae 2 T.length ac),crtS ⟨Bs,Bd,Bn,U⟩ (.slice bn 0 bb be 2 U.length bc)] 2) ?_;intro b1 J1 j1 a4;refine useFs (cX J1 (b1 0) _ _ (KpsAt.up ai j1) (KpsAt.up hB j1) (a4 0 rfl)) ?_;rintro _ J2 j2 ⟨xk,rfl,hX⟩;have a2:=hX;obtain⟨xn,xb,xe,xc,xL,xr,rfl,x1,x2,x3,x4⟩:=hX;refine zat 13 (fun _=>.arr 48 4 [crtS ⟨Bs,Bd,Bn,U⟩ (.slice bn 0 bb be 2 U.length bc),crtS ⟨As,Ad,1,T⟩ (.slice an 0 ab ae 2 T.length ac)] 2) ?_;intro b2 J3 j3 a5;have a3:=Fz.t j1 (Fz.t j2 j3);refine useFs (cN J3 (b2 0) _ _ (KpsAt.up ai a3) (KpsAt.up hB a3) (a5 0 rfl)) ?_;rintro _ J4 j4 rfl;refine useFt (z9s J4) ?_;rintro _ J5 j5 rfl;refine useFs (zb5 J5 [84,111,32,32,66,101] 5) ?_;rintro _ J6 j6 ⟨w,rfl,h⟩;refine useFs (all1 J6 w h) ?_;rintro _ J7 j7 ⟨i,v1,rfl,a9⟩;refine useFs (zb5 J7 [116,111,32,98,101] 0) ?_;rintro _ J8 j8 ⟨e3,rfl,a7⟩;refine useFs (all3 J8 e3 a7) ?_;rintro _ J9 j9 ⟨j,v3,rfl,ba⟩;refine gae (by decide) ?_;refine gae (by decide) ?_;refine gae (by decide) ?_;refine brd (by decide) ?_;conv=>whnf
    have al:Fz.le J2 J9:=Fz.t j3 (Fz.t j4 (Fz.t j5 (Fz.t j6 (Fz.t j7 (Fz.t j8 j9)))));have ao:=KpsAt.up a2 al;refine useFs (am J9 _ ao) ?_;rintro _ Ja ja rfl;refine useFs (az Ja) ?_;rintro _ Jb jb ⟨dk,rfl,hD⟩;have a1:=hD;obtain⟨dn,db,de,dc,dL,dr,rfl,-,-,-,-⟩:=hD;have bh:=x4 0 _ rfl;have bi:=x4 1 _ rfl;have bj:=x4 7 _ rfl;obtain⟨y0,bd,s0,rfl,aw⟩:=bh;obtain⟨y1,bf,cu,rfl,ax⟩:=bi;obtain⟨y7,bg,s7,rfl,a8⟩:=bj;have Q:xn=false:=SlR.lt x1 (show 0 < exCl.length by decide);have S:Fz.le J2 Jb:=Fz.t al (Fz.t ja jb);have q0:=aw.mono S;have q1:=ax.mono S;obtain⟨bw,bs,bu,bt,bq,bx,rfl,bl,bm,bo,bp⟩:=aw;obtain⟨cd,b8,ca,b9,b7,cf,rfl,bz,b0,b5,b6⟩:=ax;obtain⟨cq,cl,cp,cm,ck,cs,rfl,cg,ch,ci,cj⟩:=a8;refine⟨Q,by decide,_,S _ _ (x2 Q),_,bd,?_⟩;refine zat 17 (fun _=>.arr 56 2 ([(1,0),(2,0)].map enc) 2) ?_;intro b3 Jc jc a6;refine usePs (sameT Jc _ _ [(1,0),(2,0)] (q0.mono jc) (Sl.new (l:=[(1,0),(2,0)]) (cap:=2) (a6 0 rfl)) (by decide)) ?_;refine⟨Q,by decide,_,jc _ _ (S _ _ (x2 Q)),_,bf,?_⟩;refine zat 18 (fun _=>.arr 56 2 ([(6,0)].map enc) 1) ?_;intro b4 Jd jd hb4;refine usePs (sameT Jd _ _ [(6,0)] ((q1.mono jc).mono jd) (Sl.new (l:=[(6,0)]) (cap:=1) (hb4 0 rfl)) (by decide)) ?_;refine⟨Q,by decide,_,jd _ _ (jc _ _ (S _ _ (x2 Q))),_,bg,?_⟩;conv=>whnf
    repeat
     refine gae (by decide) ?_;conv=>whnf
    refine⟨fun _=>?_,fun g=>absurd g (by show¬(decide ((1:Int)=1)=false);decide)⟩;refine⟨fun _=>?_,fun g=>absurd g (by show¬(decide ((2:Int)=2)=false);decide)⟩;conv=>whnf
    repeat
     refine gae (by decide) ?_;conv=>whnf
    have R:Fz.le J9 Jd:=Fz.t ja (Fz.t jb (Fz.t jc jd));have aj:Fz.le J J9:=Fz.t j1 (Fz.t j2 al);have mD:=(mJ.mono aj).mono R;have rD:=(rJ.mono aj).mono R;have Y:=KpsAt.up ao R;have af:=R _ _ (j9 _ _ (j8 _ _ a9));have ag:=R _ _ ba;refine useFs (k1 Jd mD rD _ i v1 j v3 Y af ag) ?_;rintro _ Je je ⟨rfl,-⟩;refine useFs (k2 Je (mD.mono je) (rD.mono je) _ i v1 j v3 (KpsAt.up Y je) (je _ _ af) (je _ _ ag)) ?_;rintro _ Jf jf ⟨rfl,-⟩;conv=>whnf
    repeat
     refine gae (by decide) ?_;conv=>whnf
    have ad:=Fz.t je jf;refine usePs (s1 Jf _ _ (KpsAt.up Y ad) (KpsAt.up a1 (Fz.t jc (Fz.t jd ad)))) ?_;conv=>whnf
    repeat
     refine gae (by decide) ?_;conv=>whnf
    have ak:=Fz.t aj (Fz.t R ad);refine usePs (s2 Jf _ _ (KpsAt.up ai ak) (KpsAt.up hB ak)) ?_;conv=>whnf
    repeat
     refine gae (by decide) ?_;conv=>whnf
    refine useFs (vX Jf _ (KpsAt.up Y ad)) ?_;rintro _ Jg jg ⟨rfl,-⟩;conv=>whnf
    repeat
     refine gae (by decide) ?_;conv=>whnf
    refine z9f (args':=[.agg zC']) zSwap (fun n _=>ydr n) ?_;refine useFs (v0 Jg) ?_;rintro _ Jh jh ⟨rfl,-⟩;conv=>whnf
    have bk:Fz.le V Jh:=Fz.t w1 (Fz.t w2 (Fz.t w3 (Fz.t ak (Fz.t jg jh))));exact endFo (.ret (.va (.bool true))) Jh rfl (Fz.t q6 bk) (Fz.r Jh) ⟨rfl,tv⟩ rfl rfl
theorem z0x:short ([]:List Kp):=fun x a=>by simp at a
theorem zki{F:Fz}{b c:Nat}{l:List (List UInt8)}(h:F b=some (.arr 9 1 (l.map encS) c))(a:l.length=8):Sl F 9 1 encS (.slice false 0 b 0 1 8 c) l:=by
 have:=Sl.new (enc:=encS) (cap:=c) h;rw[a]at this;exact this
theorem ybc:Ex cA cB (root8 (allB d1)) (root8 (allB d3)) (allB d1) (allB d3) (encC cX)where
 al:=rfl
 mkA:=yc1
 mkF:=yc3
 mkB:=yc2
 cX:=z9u
 cN:=z9t
 all1:=fun F b h=>zyd F b _ _ h doc1
 all3:=fun F b h=>zyd F b _ _ h doc3
 enc:=fun F sk a=>zcn (zzl F sk cX a zin (by show exCl.length < 1000000;decide)) fun o d h=>by
  rcases h with⟨h,_⟩ | ⟨_,h⟩
  ·exact absurd (h.symm.trans cX_ok) (by simp)
  ·exact h
 dec:=fun F=>by
  have n:crtOk ⟨root8 valA,root8 valC,2,exCl⟩=true:=by rw[<-all1,<-all3];exact cX_ok
  have h:=zzc F (encC cX) (root8 valA) (root8 valC) rdl n rd1 rd2 rd3 rd4;rw[<-all1,<-all3]at h;exact h
 k1:=fun F f g sk j l k m a h1 e=>by
  have h:=zio F f g sk _ _ cX (allB d1) (allB d3) a zin (by show exCl.length < 1000000;decide) (zki h1 (zch _)) (zki e (zch _)) (zcd doc1) (zcd doc3);rw[chk1]at h;exact zh0 (zcn h fun o d h=>⟨h,tv⟩)
 k2:=fun F f g sk j l k m a h1 e=>by
  have h:=zio F f g sk _ _ cX (allB d3) (allB d1) a zin (by show exCl.length < 1000000;decide) (zki e (zch _)) (zki h1 (zch _)) (zcd doc3) (zcd doc1);rw[chk2]at h;exact zh0 (zcn h fun o d h=>⟨h,tv⟩)
 s1:=fun F s t c i=>by
  have h:=zt6 F s t cX cX c i zin (by show exCl.length < 1000000;decide);rw[sameX]at h;exact zh0 h
 s2:=fun F s t c i=>by
  have h:=zt6 F s t cA cB c i zn7 zyo;rw[yc9]at h;exact zh0 h
 vX:=fun F s c=>by
  have h:=zfi F s cX c zin (by show exCl.length < 1000000;decide);rw[cX_ok]at h;exact zh0 (zcn h fun o d h=>⟨h,tv⟩)
 v0:=fun F=>by
  have h:=zfi F (.slice true 0 0 0 2 0 0) ⟨[],[],0,[]⟩ SlR.nil z0x (by show 0 < 1000000;decide);rw[show crtOk ⟨[],[],0,[]⟩=false by decide]at h;exact zh0 (zcn h fun o d h=>⟨h,tv⟩)
theorem z2q(a:Fz)(b:MLF a)(c:RNDF a):Fo Tryz.prog a 12 [] (fun o _=>o=.ret (.va (.bool true))/\True):=
 ztg cA cB _ _ _ _ _ ybc a b c
theorem ybb(a:Fz)(b:MLF a)(c:RNDF a):Fo Tryz.prog a 12 [] (fun o _=>o=.ret (.va (.lit true))/\True):=
 zh0 (z2q a b c)
theorem zdz:Plain encN:=fun x=>⟨fun μ=>rfl,fun a b=>by
 simp only[encN,qn,qy,or_false]at b;rcases b with rfl | rfl<;>trivial⟩
theorem zdv(c n:Int)(a:i64 c)(b:0 < n):Pu Tryz.prog 105 [.va (.int .i64 c),.va (.int .i64 n)] (.va (.int .i64 (pickI c n))):=by
 intro F;unfold i64 at a;refine foS Tryz.func105 ?_;refine br (fun g=>?_) (fun g=>?_)
 ·refine⟨by omega,?_⟩;refine endPu rfl (Fz.r F) (oi ?_) rfl;simp at g;rw[zah (n:=c+1) (by omega) (by omega),zah (n:=0 - (c+1)) (by omega) (by omega),pickI,if_pos g]
  congr 1;omega
 ·refine⟨by omega,?_⟩;refine endPu rfl (Fz.r F) (oi ?_) rfl;simp at g;rw[pickI,if_neg (by omega)]
def chB:List UInt8:=[97,66,32,99,32,68]
def mkT:Nat->Int->List UInt8->List UInt8
 |0,_,s=>s
 |f+1,n,s=>if 0 < n then mkT f (n.tdiv 6) (s++[chB[(n.tmod 6).toNat]?.getD 97])else s
theorem z8s:∀(f:Nat) (n:Int) (s:List UInt8),s.any badC=false->(mkT f n s).any badC=false/\(mkT f n s).length<=s.length+f
 |0,_,s,h=>⟨h,qi _⟩
 |f+1,n,s,h=>by
  rw[mkT];split
  ·have a:badC (chB[(n.tmod 6).toNat]?.getD 97)=false:=by
    have h1:∀x∈chB,badC x=false:=by decide
    cases b:chB[(n.tmod 6).toNat]? with
    |none=>decide
    |some x=>exact h1 x (yr b)
   have ih:=z8s f (n.tdiv 6) (s++[chB[(n.tmod 6).toNat]?.getD 97]) (by rw[List.any_append,h];simp[a]);refine⟨ih.1,q8 ih.2 ?_⟩;rw[qd];simp;omega
  ·exact⟨h,by omega⟩
def mkLn(x:Stp):DLn:=(mkT 8 (pickI x.1 1000000) [],pickI x.2 8)
theorem yan{x:Stp}(a:i64 x.2):dlnOk (mkLn x)=true:=by
 have h:=z8s 8 (pickI x.1 1000000) [] rfl;have c:=zc1 x.2 8 (by decide) a;have b:(mkT 8 (pickI x.1 1000000) []).length<=80:=q8 h.2 (by decide);show((decide ((mkT 8 (pickI x.1 1000000) []).length<=80)&& !(mkT 8 (pickI x.1 1000000) []).any badC)&&inR (pickI x.2 8) 0 7)=true;rw[h.1,decide_eq_true b,inR,decide_eq_true (show 0<=pickI x.2 8 by omega),decide_eq_true (show pickI x.2 8<=7 by omega)];rfl
abbrev Q3:=Int×Int×Int
def cellOf(k:Int)(x:Q3):Cel:=
 if pickI x.1 3=0 then⟨k.tdiv 5,k.tmod 5,true,0,pickI x.2.1 (k.tdiv 5+1),pickI x.2.2 (k.tmod 5+1)⟩
 else⟨k.tdiv 5,k.tmod 5,false,pickI x.2.1 201 - 100,0,0⟩
def mkC:List Q3->Int->List Cel->List Cel
 |[],_,o=>o
 |x::r,k,o=>if k < 25 then mkC r (k+1+pickI (x.1.tdiv 3) 3) (o++[cellOf k x])else o
theorem zyr{k:Int}(b:0<=k)(e:k < 25){x:Q3}(a:i64 x.2.1/\i64 x.2.2):celOk (cellOf k x)=true/\(cellOf k x).row*5+(cellOf k x).col=k/\0<=(cellOf k x).col/\(cellOf k x).col<=4:=by
 have c:k.tdiv 5=k / 5:=ji b;have d:k.tmod 5=k % 5:=yz b;unfold cellOf;rw[c,d];split
 ·have f:=zc1 x.2.1 (k / 5+1) (by omega) a.1;have g:=zc1 x.2.2 (k % 5+1) (by omega) a.2;refine⟨?_,by show k / 5*5+k % 5=k;omega,by show 0<=k % 5;omega,by show k % 5<=4;omega⟩;simp only[celOk,inR,if_true,decide_true,yq,qg,decide_eq_true_eq];omega
 ·have f:=zc1 x.2.1 201 (by decide) a.1;refine⟨?_,by show k / 5*5+k % 5=k;omega,by show 0<=k % 5;omega,by show k % 5<=4;omega⟩;simp only[celOk,inR,jw,if_false,decide_true,qcl,qg,decide_eq_true_eq];omega
theorem zur{x:Int}(h:i64 x):i64 (x.tdiv 3):=by
 unfold i64 at*;rcases Int.le_total 0 x with h0 | h0
 ·rw[ji h0];omega
 ·have e:x.tdiv 3= -((-x).tdiv 3):=by rw[qdq,Int.neg_neg]
  rw[e,ji (by omega)];omega
theorem zm5{x:Int}(h:i64 x):i64 (x.tdiv 6):=by
 unfold i64 at*;rcases Int.le_total 0 x with h0 | h0
 ·rw[ji h0];omega
 ·have e:x.tdiv 6= -((-x).tdiv 6):=by rw[qdq,Int.neg_neg]
  rw[e,ji (by omega)];omega
structure CInv(k:Int)(o:List Cel):Prop where
 k0:0<=k
 asc:ascF o=true
 last:∀l a,o=l++[a]->a.row*5+a.col < k/\0<=a.col/\a.col<=4
 ok:∀c∈o,celOk c=true
 len:(o.length:Int)<=k/\o.length<=25
theorem ycy{a b:Cel}(h:a.row*5+a.col < b.row*5+b.col)(e:0<=a.col/\a.col<=4)(hb:0<=b.col/\b.col<=4):ltC a b=true:=by
 unfold ltC;by_cases h1:a.row < b.row
 ·simp[h1]
 ·have c:a.row=b.row:=by omega
  have d:a.col < b.col:=by omega
  simp[c,d]
theorem CInv.push{k j:Int}{o:List Cel}(h:CInv k o)(b:k < 25){x:Q3}(i:i64 x.2.1/\i64 x.2.2)(m:0<=j):CInv (k+1+j) (o++[cellOf k x]):=by
 have d:=zyr h.k0 b i;refine⟨by have:=h.k0;omega,?_,?_,?_,?_⟩
 ·rcases List.eq_nil_or_concat o with rfl | ⟨l,a,e⟩
  ·rfl
  ·rw[List.concat_eq_append]at e;subst e;have g:=h.last l a rfl;rw[qp];show ascF (l++[a,cellOf k x])=true;rw[zky,h.asc,ycy (by omega) g.2 d.2.2];rfl
 ·intro l a e;have h1:=List.append_inj_right' e rfl;have f:cellOf k x=a:=by simpa using h1
  rw[<-f];omega
 ·intro c hcm;rcases yk.1 hcm with hcm | hcm
  ·exact h.ok c hcm
  ·have:c=cellOf k x:=by simpa using hcm
   rw[this];exact d.1
 ·have:=h.len;rw[qd];simp only[qj,qu];omega
theorem z0u:∀(l:List Q3) (k:Int) (o:List Cel),(∀x∈l,i64 x.2.1/\i64 x.2.2)->(∀x∈l,i64 x.1)->CInv k o->∃d,CInv d (mkC l k o)
 |[],k,o,_,_,h=>⟨k,h⟩
 |x::r,k,o,hx,hx1,h=>by
  rw[mkC];split
  ·rename_i a;have h1:=hx1 x (by simp);have c:=zc1 (x.1.tdiv 3) 3 (by decide) (zur h1);exact z0u r _ _ (fun y b=>hx y (by simp[b])) (fun y b=>hx1 y (by simp[b])) (h.push a (hx x (by simp)) c.1)
  ·exact⟨k,h⟩
def mkB(t n:Nat):List UInt8:=(List.range t).map fun i=>UInt8.ofNat (48+n / 2^i % 2)
def madeD(l:List Stp)(x:List Q3)(a b:Int):Dc:=
 ⟨(l.take 6).map mkLn,mkC x 0 [],pickI a 6,mkB (pickI a 6*(1+pickI (a.tdiv 6) 4)).toNat (pickI b 1048576).toNat⟩
theorem z6b(t n:Nat):(mkB t n).all bitK=true:=by
 rw[qq];intro b hb;obtain⟨i,_,rfl⟩:=jj.1 hb;rcases Nat.mod_two_eq_zero_or_one (n / 2^i)with h | h
 ·rw[h];rfl
 ·rw[h];rfl
theorem zs3(t n:Nat):(mkB t n).length=t:=by simp[mkB]
theorem z5y{l:List Stp}{x:List Q3}{i d:Int}(G:∀y∈l,i64 y.2)(K:∀y∈x,i64 y.2.1/\i64 y.2.2)(u:∀y∈x,i64 y.1)(A:i64 i):docOk (madeD l x i d)=true/\DcSmall (madeD l x i d):=by
 obtain⟨k,o⟩:=z0u x 0 [] K u ⟨by omega,rfl,fun l a e=>by simp at e,fun c o=>by simp at o,by simp⟩;have B:=zc1 i 6 (by decide) A;have hh:=zc1 (i.tdiv 6) 4 (by decide) (zm5 A);have I:((l.take 6).map mkLn).length<=6:=by rw[qe,qo];omega
 have s:((l.take 6).map mkLn).all dlnOk=true:=by
  rw[qq];intro y L;obtain⟨z,M,rfl⟩:=jj.1 L;exact yan (G z (yd M))
 have q:(mkC x 0 []).all celOk=true:=by rw[qq];exact o.ok
 obtain⟨w,n⟩:∃w,pickI i 6=w:=⟨_,rfl⟩
 obtain⟨h,m⟩:∃h,pickI (i.tdiv 6) 4=h:=⟨_,rfl⟩
 have p:rasOk w (mkB (w*(1+h)).toNat (pickI d 1048576).toNat)=true:=by
  rw[n]at B;rw[m]at hh;have b:=z6b (w*(1+h)).toNat (pickI d 1048576).toNat;have j:=zs3 (w*(1+h)).toNat (pickI d 1048576).toNat;have g:inR w 0 32=true:=by rw[inR,decide_eq_true (show 0<=w by omega),decide_eq_true (show w<=32 by omega)];rfl
  by_cases e:w=0
  ·subst e;rw[rasOk,g,b];simp[mkB]
  ·have J:0<=w*(1+h):=qcd (by omega) (by omega);have f:((mkB (w*(1+h)).toNat (pickI d 1048576).toNat).length:Int)=w*(1+h):=by rw[j];exact yx J
   have E:hgt w (mkB (w*(1+h)).toNat (pickI d 1048576).toNat)=1+h:=by
    rw[hgt,if_neg (by omega),f,Int.mul_tdiv_cancel_left _ e]
   rw[rasOk,g,b,E,f,decide_eq_true (show 0 < w by omega),decide_eq_true rfl,inR,decide_eq_true (show 1<=1+h by omega),decide_eq_true (show 1+h<=32 by omega)];simp
 have D:madeD l x i d=⟨(l.take 6).map mkLn,mkC x 0 [],w,mkB (w*(1+h)).toNat (pickI d 1048576).toNat⟩:=by rw[madeD,n,m]
 rw[D];refine⟨?_,⟨by show((l.take 6).map mkLn).length<=1000;omega,by show(mkC x 0 []).length<=1000;have:=o.len;omega,?_⟩⟩
 ·show(((((decide (((l.take 6).map mkLn).length<=64)&&decide ((mkC x 0 []).length<=64))&&ascF (mkC x 0 []))&&((l.take 6).map mkLn).all dlnOk)&&(mkC x 0 []).all celOk)&&rasOk w _)=true;rw[s,q,o.asc,p,decide_eq_true (show((l.take 6).map mkLn).length<=64 by omega),decide_eq_true (show(mkC x 0 []).length<=64 by have:=o.len;omega)];rfl
 ·show(mkB (w*(1+h)).toNat (pickI d 1048576).toNat).length<=70000;rw[zs3];rw[n]at B;rw[m]at hh;have:w*(1+h)<=5*4:=qbh (by omega) (by omega) (by omega) (by omega);omega
theorem ya4{b:Array Value}{t:TypeId}{d:Nat×Nat}{i:Nat}{z:Int}(h:b[i]? =some (.int .i64 z)):RdO (.cells b t d) i 1 [.int .i64 z]:=by
 refine⟨rfl,fun a e=>?_,fun ρ=>⟨t,d,b.toList.take i,b.toList.drop (i+1),?_,?_⟩⟩
 ·simp at e;subst e;trivial
 ·have f:=(jp.1 h).1;have j:b[i]=.int .i64 z:=(jp.1 h).2
  congr 1
  apply Array.toList_inj.1;have k:i < b.toList.length:=by simpa using f
  have c:b.toList=b.toList.take i++b.toList[i]::b.toList.drop (i+1):=by
   rw[<-jk k,y9]
  have g:b.toList[i]=.int .i64 z:=by simpa using j
  rw[g]at c;simpa[SA.den]using c
 ·have f:=(jp.1 h).1;rw[qo,Array.length_toList];omega
theorem RawB.rd1{B:SB}{i:Nat}{z:Int}{p:Pl}{K:List SA->Prop}(h:RawB B i z)(b:p.e*p.sz+p.o=i)(a:K [.int .i64 z]):rdB B p 1 K:=by
 cases B with
 |obj o=>
  cases o with
  |cells cs t fr=>exact⟨_,by rw[b];exact ya4 h,a⟩
  |_=>exact h.elim
 |cells t l=>
  simp only[rdB];rw[b,zmd l i _ h];exact a
 |arr t sz L room=>exact h.elim
theorem RawAt.rdO1{F:Fz}{b a:Nat}{c:List Int}(h:RawAt F b a c):∃B,∀(k:Nat) (g:k < c.length),F b=some B/\RawB B (a+k) c[k]:=by
 rcases h with h | ⟨B,h1,d⟩
 ·exact⟨.cells 0 [],fun k g=>by subst h;simp at g⟩
 ·exact⟨B,fun k g=>⟨h1,d k g⟩⟩
theorem zuy:∀(l:List Stp) (k:Nat),(ints2 l)[k*2]? =(l[k]?).map (·.1)/\(ints2 l)[k*2+1]? =(l[k]?).map (·.2)
 |[],k=>by simp[ints2]
 |q::r,0=>⟨rfl,rfl⟩
 |q::r,k+1=>by
  have h:=zuy r k;have e:(k+1)*2=k*2+2:=by omega
  rw[e];exact h
def ints3(x:List Q3):List Int:=(x.map fun q=>[q.1,q.2.1,q.2.2]).flatten
theorem zqk:∀l:List Q3,(ints3 l).length=l.length*3
 |[]=>rfl
 |q::r=>by
  have:=zqk r;show(q.1::q.2.1::q.2.2::ints3 r).length=_;simp only[qj];omega
theorem zuz:∀(l:List Q3) (k:Nat),(ints3 l)[k*3]? =(l[k]?).map (·.1)/\(ints3 l)[k*3+1]? =(l[k]?).map (·.2.1)/\(ints3 l)[k*3+2]? =(l[k]?).map (·.2.2)
 |[],k=>by simp[ints3]
 |q::r,0=>⟨rfl,rfl,rfl⟩
 |q::r,k+1=>by
  have h:=zuz r k;have e:(k+1)*3=k*3+3:=by omega
  rw[e];exact h
theorem RawAt.pair{F:Fz}{b a:Nat}{x:List Stp}(h:RawAt F b a (ints2 x)):∃B,∀(k:Nat) (g:k < x.length),F b=some B/\RawB B (a+k*2) (x[k]'g).1/\RawB B (a+k*2+1) (x[k]'g).2:=by
 obtain⟨B,f⟩:=h.rdO1;refine⟨B,fun k g=>?_⟩;have i:=zqj x;obtain⟨d,e⟩:=zuy x k;rw[qa g]at d e;have c:=f (k*2) (by omega);have h1:=f (k*2+1) (by omega);rw[(ql.1 d).2]at c;rw[(ql.1 e).2]at h1;exact⟨c.1,c.2,by rw[qbr];exact h1.2⟩
theorem RawAt.triple{F:Fz}{b a:Nat}{x:List Q3}(h:RawAt F b a (ints3 x)):∃B,∀(k:Nat) (g:k < x.length),F b=some B/\RawB B (a+k*3) (x[k]'g).1/\RawB B (a+k*3+1) (x[k]'g).2.1/\RawB B (a+k*3+2) (x[k]'g).2.2:=by
 obtain⟨B,d⟩:=h.rdO1;refine⟨B,fun k g=>?_⟩;have l:=zqk x;obtain⟨e,f,i⟩:=zuz x k;rw[qa g]at e f i;have c:=d (k*3) (by omega);have h1:=d (k*3+1) (by omega);have j:=d (k*3+2) (by omega);rw[(ql.1 e).2]at c;rw[(ql.1 f).2]at h1;rw[(ql.1 i).2]at j;exact⟨c.1,c.2,by rw[qbr];exact h1.2,by rw[qbr];exact j.2⟩
