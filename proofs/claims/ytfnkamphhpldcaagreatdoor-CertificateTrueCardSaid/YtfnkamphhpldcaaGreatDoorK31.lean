import Derived.Test.YtfnkamphhpldcaaGreatDoorK29
import Derived.Test.YtfnkamphhpldcaaGreatDoorK30
import Derived.Test.YtfnkamphhpldcaaGreatDoorK25
import Derived.Test.YtfnkamphhpldcaaGreatDoorK26
import Derived.Test.YtfnkamphhpldcaaGreatDoorK23
set_option maxHeartbeats 64000000
namespace Go.Proofs.YtfnkamphhpldcaaGreatDoor
open Go Sx
set_option maxRecDepth 100000
theorem zha{P:Program}{f:FuncId}{args:List SV}{h:Hp}{nx:Nat}{K:Out->Hp->Nat->Prop}(i:Nat)(h1:(Nat.ble (i+1) nx&& !Nat.beq i 0)=true)(c:za5 P f args (lput h i .gone) nx K):za5 P f args h nx K:=by
 unfold za5 at*;intro C ρ w vs S d hb;simp only[qg,qar]at h1;have b:i < nx:=nb h1.1;have a:i≠0:=fun h=>by rw[h]at h1;exact absurd h1.2 (by decide)
 exact c C ρ w vs (S.forget b a) d hb
theorem zdj{n:Int}(h:-4611686018427387903<=n/\n<=4611686018427387903)(l:List Int):zad (n::l)≠[]:=by
 rw[zad,jm,jy,zkr h];intro h;exact zjv n (qdb.1 h).1
theorem zml{α:Type}{a b:List α}(h:a≠[]):a++b≠[]:=fun c=>h (qdb.1 c).1
theorem zfz{p:Int}{d:Dc}(g:docOk d=true):propB p d≠[]:=by
 obtain⟨k,f,j,h,c,a⟩:=zc7 g;obtain⟨l,m,n,o⟩:=zlw a;have e:∀b,(d.cells.filter (keepQ b)).length<=64:=fun b=>q8 (qak _ _) f
 have h1:=e true;have i:=e false;unfold propB;split
 ·exact zml (zdj (by omega) _)
 split
 ·exact zml (zdj (by omega) _)
 split
 ·exact zml (zdj (by omega) _)
 split
 ·exact zml (zdj (by omega) _)
 split
 ·exact zml (zdj (by omega) _)
 split
 ·exact zdj (by omega) _
 split
 ·exact zml (zdj (by omega) _)
 ·exact zdj (by omega) _
def pAns(p:Int)(d:Dc):Out:=.ret (.tup [.va (.str (if docOk d=true then propB p d else [])),.va (.int .i64 (if docOk d=true then 0 else 60))])
theorem zi1{p:Int}{d:Dc}(h:docOk d=true):pAns p d=.ret (.tup [.va (.str (propB p d)),.va (.int .i64 0)]):=by rw[pAns,if_pos h,if_pos h]
theorem zi0{p:Int}{d:Dc}(h:docOk d=false):pAns p d=.ret (.tup [.va (.str []),.va (.int .i64 60)]):=by rw[pAns,h];rfl
theorem z6o(X:PFun)(F:Fz)(y:Bool)(n u q:Nat)(D:Bool)(A B f:Nat)(d:Dc)(E:Sl F 148 2 encN (.slice y 0 n u 2 d.lines.length q) d.lines)(hb:Sl F 151 6 encK (.slice D 0 A B 6 d.cells.length f) d.cells)
  (M:d.lines.length<=1000)(S:d.cells.length<=1000)(U:d.bits.length<=70000)(_:d.cells.length<=f):
  Fo Tryz.prog F 48 [.agg (docS (.slice y 0 n u 2 d.lines.length q) (.slice D 0 A B 6 d.cells.length f) d.w d.bits),.va (.int .i64 1)] (fun o _=>o=pAns 1 d):=by
 have m:=zd9 F _ _ d E hb M S U;have e:=zi1 (p:=1) (d:=d);have l:=zi0 (p:=1) (d:=d);have c:=zfz (p:=1) (d:=d);have Q:propB 1 d=ptext d.lines:=rfl
 have G:docOk d=true->∀x∈d.lines,x.1.length<=1000000:=fun J x G=>by
  have:=(zc7 J).ln x G;unfold dlnOk at this;simp only[qg,decide_eq_true_eq]at this;omega
 have a:=ze3 (p:=1) (d:=d);have b:=fun J:docOk d=true=>yb8 X F y n u q D A B d.cells.length f d.lines d.w d.bits E M (G J)
 rw[<-Q]at b;clear G Q U M S;obtain⟨T,R⟩:∃T,propB 1 d=T:=⟨_,rfl⟩
 rw[R]at b e c a;clear R;obtain⟨L,K,w,s⟩:=d;replace E:Sl F 148 2 encN (.slice y 0 n u 2 L.length q) L:=E;replace hb:Sl F 151 6 encK (.slice D 0 A B 6 K.length f) K:=hb;obtain⟨v,hv⟩:∃v,docOk ⟨L,K,w,s⟩=v:=⟨_,rfl⟩
 rw[hv]at m e l c b a
 have g:∀(z:Out) (F1:Fz) (h:Hp) (nx:Nat),pAns 1 ⟨L,K,w,s⟩=z->(∀μ,z.ren μ=z)->z.z=true->Fz.le F F1->lget h 0=some (.frz F1)->Cln 1 (FoK F fun o W=>o=pAns 1 ⟨L,K,w,s⟩) z h nx:=by
  intro z F1 h nx hz Y O j I;subst hz;exact endFo (pAns 1 ⟨L,K,w,s⟩) F1 I j (Fz.r F1) rfl (by rw[Y];exact zal _) O
 refine foS Tryz.func48 ?_;refine use (zf0 F) [] rfl trivial rfl trivial (by simp) trivial ?_;rintro _ F0 I n0 j ⟨rfl,rfl,rfl,rfl⟩;refine bre (by decide) ?_;refine usePs m ?_;rcases v with _ | _
 ·refine bre (by decide) ?_;exact g _ F _ _ (l rfl) (fun _=>rfl) rfl (Fz.r F) rfl
 ·refine brd (by decide) ?_;refine zha 2 rfl ?_;refine use (b rfl) [(1,3),(2,2)] rfl ⟨rfl,rfl,tv⟩ rfl ⟨zar _ (by omega) (by omega) _ _,zab zaa _ _ _ _ _,tv⟩ (by simp[SV.below,SC.below,SA.below]) ⟨rfl,rfl,tv⟩ ?_;rintro V F1 I n0 k ⟨rfl,rfl,u1,c1,Z,rfl⟩;refine zf3 (c rfl) (a rfl) rfl (ze4 (by rfl) (by rfl) _ _) rfl (zg0 zaa _ _ _ _ _) ?_;intro o';exact g _ F1 _ _ (e rfl) (fun _=>rfl) rfl k rfl
theorem z6p(X:PFun)(F:Fz)(y:Bool)(n u q:Nat)(D:Bool)(A B f:Nat)(d:Dc)(E:Sl F 148 2 encN (.slice y 0 n u 2 d.lines.length q) d.lines)(hb:Sl F 151 6 encK (.slice D 0 A B 6 d.cells.length f) d.cells)
  (I:d.lines.length<=1000)(R:d.cells.length<=1000)(U:d.bits.length<=70000)(_:d.cells.length<=f):
  Fo Tryz.prog F 48 [.agg (docS (.slice y 0 n u 2 d.lines.length q) (.slice D 0 A B 6 d.cells.length f) d.w d.bits),.va (.int .i64 2)] (fun o _=>o=pAns 2 d):=by
 have m:=zd9 F _ _ d E hb I R U;have e:=zi1 (p:=2) (d:=d);have l:=zi0 (p:=2) (d:=d);have c:=zfz (p:=2) (d:=d);have O:propB 2 d=pmot d.lines:=rfl
 have J:docOk d=true->∀x∈d.lines,x.1.length<=1000000:=fun S x J=>by
  have:=(zc7 S).ln x J;unfold dlnOk at this;simp only[qg,decide_eq_true_eq]at this;omega
 have a:=ze3 (p:=2) (d:=d);have b:=fun S:docOk d=true=>yb9 X F y n u q D A B d.cells.length f d.lines d.w d.bits E I
 rw[<-O]at b;clear J O U I R;obtain⟨T,Q⟩:∃T,propB 2 d=T:=⟨_,rfl⟩
 rw[Q]at b e c a;clear Q;obtain⟨L,K,w,s⟩:=d;replace E:Sl F 148 2 encN (.slice y 0 n u 2 L.length q) L:=E;replace hb:Sl F 151 6 encK (.slice D 0 A B 6 K.length f) K:=hb;obtain⟨v,hv⟩:∃v,docOk ⟨L,K,w,s⟩=v:=⟨_,rfl⟩
 rw[hv]at m e l c b a
 have g:∀(z:Out) (F1:Fz) (h:Hp) (nx:Nat),pAns 2 ⟨L,K,w,s⟩=z->(∀μ,z.ren μ=z)->z.z=true->Fz.le F F1->lget h 0=some (.frz F1)->Cln 1 (FoK F fun o W=>o=pAns 2 ⟨L,K,w,s⟩) z h nx:=by
  intro z F1 h nx hz Y M j G;subst hz;exact endFo (pAns 2 ⟨L,K,w,s⟩) F1 G j (Fz.r F1) rfl (by rw[Y];exact zal _) M
 refine foS Tryz.func48 ?_;refine use (zf0 F) [] rfl trivial rfl trivial (by simp) trivial ?_;rintro _ F0 G n0 j ⟨rfl,rfl,rfl,rfl⟩;refine brd (by decide) ?_;(conv=>whnf);refine bre (by decide) ?_;refine usePs m ?_;rcases v with _ | _
 ·refine bre (by decide) ?_;exact g _ F _ _ (l rfl) (fun _=>rfl) rfl (Fz.r F) rfl
 ·refine brd (by decide) ?_;refine zha 2 rfl ?_;refine use (b rfl) [(1,3),(2,2)] rfl ⟨rfl,rfl,tv⟩ rfl ⟨zar _ (by omega) (by omega) _ _,zab zaa _ _ _ _ _,tv⟩ (by simp[SV.below,SC.below,SA.below]) ⟨rfl,rfl,tv⟩ ?_;rintro V F1 G n0 k ⟨rfl,rfl,u1,c1,Z,rfl⟩;refine zf3 (c rfl) (a rfl) rfl (ze4 (by rfl) (by rfl) _ _) rfl (zg0 zaa _ _ _ _ _) ?_;intro o';exact g _ F1 _ _ (e rfl) (fun _=>rfl) rfl k rfl
theorem z6q(X:PFun)(F:Fz)(y:Bool)(n u q:Nat)(D:Bool)(A B f:Nat)(d:Dc)(G:Sl F 148 2 encN (.slice y 0 n u 2 d.lines.length q) d.lines)(hb:Sl F 151 6 encK (.slice D 0 A B 6 d.cells.length f) d.cells)
  (S:d.lines.length<=1000)(I:d.cells.length<=1000)(U:d.bits.length<=70000)(_:d.cells.length<=f):
  Fo Tryz.prog F 48 [.agg (docS (.slice y 0 n u 2 d.lines.length q) (.slice D 0 A B 6 d.cells.length f) d.w d.bits),.va (.int .i64 3)] (fun o _=>o=pAns 3 d):=by
 have m:=zd9 F _ _ d G hb S I U;have e:=zi1 (p:=3) (d:=d);have l:=zi0 (p:=3) (d:=d);have c:=zfz (p:=3) (d:=d);have O:propB 3 d=zdt false d.cells:=rfl
 have J:docOk d=true->∀x∈d.lines,x.1.length<=1000000:=fun R x J=>by
  have:=(zc7 R).ln x J;unfold dlnOk at this;simp only[qg,decide_eq_true_eq]at this;omega
 have a:=ze3 (p:=3) (d:=d);have b:=fun R:docOk d=true=>yca X F y n u d.lines.length q D A B f d.cells d.w d.bits hb I
 rw[<-O]at b;clear J O U S I;obtain⟨T,Q⟩:∃T,propB 3 d=T:=⟨_,rfl⟩
 rw[Q]at b e c a;clear Q;obtain⟨L,K,w,s⟩:=d;replace G:Sl F 148 2 encN (.slice y 0 n u 2 L.length q) L:=G;replace hb:Sl F 151 6 encK (.slice D 0 A B 6 K.length f) K:=hb;obtain⟨v,hv⟩:∃v,docOk ⟨L,K,w,s⟩=v:=⟨_,rfl⟩
 rw[hv]at m e l c b a
 have g:∀(z:Out) (F1:Fz) (h:Hp) (nx:Nat),pAns 3 ⟨L,K,w,s⟩=z->(∀μ,z.ren μ=z)->z.z=true->Fz.le F F1->lget h 0=some (.frz F1)->Cln 1 (FoK F fun o W=>o=pAns 3 ⟨L,K,w,s⟩) z h nx:=by
  intro z F1 h nx hz Y M j E;subst hz;exact endFo (pAns 3 ⟨L,K,w,s⟩) F1 E j (Fz.r F1) rfl (by rw[Y];exact zal _) M
 refine foS Tryz.func48 ?_;refine use (zf0 F) [] rfl trivial rfl trivial (by simp) trivial ?_;rintro _ F0 E n0 j ⟨rfl,rfl,rfl,rfl⟩;refine brd (by decide) ?_;(conv=>whnf);refine brd (by decide) ?_;(conv=>whnf);refine bre (by decide) ?_;refine usePs m ?_;rcases v with _ | _
 ·refine bre (by decide) ?_;exact g _ F _ _ (l rfl) (fun _=>rfl) rfl (Fz.r F) rfl
 ·refine brd (by decide) ?_;refine zha 2 rfl ?_;refine use (b rfl) [(1,3),(2,2)] rfl ⟨rfl,rfl,tv⟩ rfl ⟨zar _ (by omega) (by omega) _ _,zab zaa _ _ _ _ _,tv⟩ (by simp[SV.below,SC.below,SA.below]) ⟨rfl,rfl,tv⟩ ?_;rintro V F1 E n0 k ⟨rfl,rfl,u1,c1,Z,rfl⟩;refine zf3 (c rfl) (a rfl) rfl (ze4 (by rfl) (by rfl) _ _) rfl (zg0 zaa _ _ _ _ _) ?_;intro o';exact g _ F1 _ _ (e rfl) (fun _=>rfl) rfl k rfl
theorem z6r(X:PFun)(F:Fz)(y:Bool)(n u q:Nat)(D:Bool)(A B f:Nat)(d:Dc)(G:Sl F 148 2 encN (.slice y 0 n u 2 d.lines.length q) d.lines)(hb:Sl F 151 6 encK (.slice D 0 A B 6 d.cells.length f) d.cells)
  (S:d.lines.length<=1000)(I:d.cells.length<=1000)(U:d.bits.length<=70000)(_:d.cells.length<=f):
  Fo Tryz.prog F 48 [.agg (docS (.slice y 0 n u 2 d.lines.length q) (.slice D 0 A B 6 d.cells.length f) d.w d.bits),.va (.int .i64 4)] (fun o _=>o=pAns 4 d):=by
 have m:=zd9 F _ _ d G hb S I U;have e:=zi1 (p:=4) (d:=d);have l:=zi0 (p:=4) (d:=d);have c:=zfz (p:=4) (d:=d);have O:propB 4 d=zdt true d.cells:=rfl
 have J:docOk d=true->∀x∈d.lines,x.1.length<=1000000:=fun R x J=>by
  have:=(zc7 R).ln x J;unfold dlnOk at this;simp only[qg,decide_eq_true_eq]at this;omega
 have a:=ze3 (p:=4) (d:=d);have b:=fun R:docOk d=true=>ycb X F y n u d.lines.length q D A B f d.cells d.w d.bits hb I
 rw[<-O]at b;clear J O U S I;obtain⟨T,Q⟩:∃T,propB 4 d=T:=⟨_,rfl⟩
 rw[Q]at b e c a;clear Q;obtain⟨L,K,w,s⟩:=d;replace G:Sl F 148 2 encN (.slice y 0 n u 2 L.length q) L:=G;replace hb:Sl F 151 6 encK (.slice D 0 A B 6 K.length f) K:=hb;obtain⟨v,hv⟩:∃v,docOk ⟨L,K,w,s⟩=v:=⟨_,rfl⟩
 rw[hv]at m e l c b a
 have g:∀(z:Out) (F1:Fz) (h:Hp) (nx:Nat),pAns 4 ⟨L,K,w,s⟩=z->(∀μ,z.ren μ=z)->z.z=true->Fz.le F F1->lget h 0=some (.frz F1)->Cln 1 (FoK F fun o W=>o=pAns 4 ⟨L,K,w,s⟩) z h nx:=by
  intro z F1 h nx hz Y M j E;subst hz;exact endFo (pAns 4 ⟨L,K,w,s⟩) F1 E j (Fz.r F1) rfl (by rw[Y];exact zal _) M
 refine foS Tryz.func48 ?_;refine use (zf0 F) [] rfl trivial rfl trivial (by simp) trivial ?_;rintro _ F0 E n0 j ⟨rfl,rfl,rfl,rfl⟩;refine brd (by decide) ?_;(conv=>whnf);refine brd (by decide) ?_;(conv=>whnf);refine brd (by decide) ?_;(conv=>whnf);refine bre (by decide) ?_;refine usePs m ?_;rcases v with _ | _
 ·refine bre (by decide) ?_;exact g _ F _ _ (l rfl) (fun _=>rfl) rfl (Fz.r F) rfl
 ·refine brd (by decide) ?_;refine zha 2 rfl ?_;refine use (b rfl) [(1,3),(2,2)] rfl ⟨rfl,rfl,tv⟩ rfl ⟨zar _ (by omega) (by omega) _ _,zab zaa _ _ _ _ _,tv⟩ (by simp[SV.below,SC.below,SA.below]) ⟨rfl,rfl,tv⟩ ?_;rintro V F1 E n0 k ⟨rfl,rfl,u1,c1,Z,rfl⟩;refine zf3 (c rfl) (a rfl) rfl (ze4 (by rfl) (by rfl) _ _) rfl (zg0 zaa _ _ _ _ _) ?_;intro o';exact g _ F1 _ _ (e rfl) (fun _=>rfl) rfl k rfl
theorem z6s(X:PFun)(F:Fz)(y:Bool)(n u q:Nat)(D:Bool)(A B g:Nat)(d:Dc)(G:Sl F 148 2 encN (.slice y 0 n u 2 d.lines.length q) d.lines)(hb:Sl F 151 6 encK (.slice D 0 A B 6 d.cells.length g) d.cells)
  (S:d.lines.length<=1000)(I:d.cells.length<=1000)(U:d.bits.length<=70000)(c:d.cells.length<=g):
  Fo Tryz.prog F 48 [.agg (docS (.slice y 0 n u 2 d.lines.length q) (.slice D 0 A B 6 d.cells.length g) d.w d.bits),.va (.int .i64 5)] (fun o _=>o=pAns 5 d):=by
 have m:=zd9 F _ _ d G hb S I U;have f:=zi1 (p:=5) (d:=d);have l:=zi0 (p:=5) (d:=d);have e:=zfz (p:=5) (d:=d);have O:propB 5 d=pvals d.cells:=rfl
 have J:docOk d=true->∀x∈d.lines,x.1.length<=1000000:=fun R x J=>by
  have:=(zc7 R).ln x J;unfold dlnOk at this;simp only[qg,decide_eq_true_eq]at this;omega
 have a:=ze3 (p:=5) (d:=d);have b:=fun R:docOk d=true=>ycc X F y n u d.lines.length q D A B g d.cells d.w d.bits hb I c
 rw[<-O]at b;clear J O U S I c;obtain⟨T,Q⟩:∃T,propB 5 d=T:=⟨_,rfl⟩
 rw[Q]at b f e a;clear Q;obtain⟨L,K,w,s⟩:=d;replace G:Sl F 148 2 encN (.slice y 0 n u 2 L.length q) L:=G;replace hb:Sl F 151 6 encK (.slice D 0 A B 6 K.length g) K:=hb;obtain⟨v,hv⟩:∃v,docOk ⟨L,K,w,s⟩=v:=⟨_,rfl⟩
 rw[hv]at m f l e b a
 have i:∀(z:Out) (F1:Fz) (h:Hp) (nx:Nat),pAns 5 ⟨L,K,w,s⟩=z->(∀μ,z.ren μ=z)->z.z=true->Fz.le F F1->lget h 0=some (.frz F1)->Cln 1 (FoK F fun o W=>o=pAns 5 ⟨L,K,w,s⟩) z h nx:=by
  intro z F1 h nx hz Y M j E;subst hz;exact endFo (pAns 5 ⟨L,K,w,s⟩) F1 E j (Fz.r F1) rfl (by rw[Y];exact zal _) M
 refine foS Tryz.func48 ?_;refine use (zf0 F) [] rfl trivial rfl trivial (by simp) trivial ?_;rintro _ F0 E n0 j ⟨rfl,rfl,rfl,rfl⟩;refine brd (by decide) ?_;(conv=>whnf);refine brd (by decide) ?_;(conv=>whnf);refine brd (by decide) ?_;(conv=>whnf);refine brd (by decide) ?_;(conv=>whnf);refine bre (by decide) ?_;refine usePs m ?_;rcases v with _ | _
 ·refine bre (by decide) ?_;exact i _ F _ _ (l rfl) (fun _=>rfl) rfl (Fz.r F) rfl
 ·refine brd (by decide) ?_;refine zha 2 rfl ?_;refine use (b rfl) [(1,3),(2,2)] rfl ⟨rfl,rfl,tv⟩ rfl ⟨zar _ (by omega) (by omega) _ _,zab zaa _ _ _ _ _,tv⟩ (by simp[SV.below,SC.below,SA.below]) ⟨rfl,rfl,tv⟩ ?_;rintro V F1 E n0 k ⟨rfl,rfl,u1,c1,Z,rfl⟩;refine zf3 (e rfl) (a rfl) rfl (ze4 (by rfl) (by rfl) _ _) rfl (zg0 zaa _ _ _ _ _) ?_;intro o';exact i _ F1 _ _ (f rfl) (fun _=>rfl) rfl k rfl
theorem z6t(X:PFun)(F:Fz)(y:Bool)(n u q:Nat)(D:Bool)(A B f:Nat)(d:Dc)(G:Sl F 148 2 encN (.slice y 0 n u 2 d.lines.length q) d.lines)(hb:Sl F 151 6 encK (.slice D 0 A B 6 d.cells.length f) d.cells)
  (S:d.lines.length<=1000)(Q:d.cells.length<=1000)(U:d.bits.length<=70000)(_:d.cells.length<=f):
  Fo Tryz.prog F 48 [.agg (docS (.slice y 0 n u 2 d.lines.length q) (.slice D 0 A B 6 d.cells.length f) d.w d.bits),.va (.int .i64 6)] (fun o _=>o=pAns 6 d):=by
 have m:=zd9 F _ _ d G hb S Q U;have e:=zi1 (p:=6) (d:=d);have l:=zi0 (p:=6) (d:=d);have c:=zfz (p:=6) (d:=d);have M:propB 6 d=zad [d.w,hgt d.w d.bits]:=rfl
 have I:docOk d=true->∀x∈d.lines,x.1.length<=1000000:=fun R x I=>by
  have:=(zc7 R).ln x I;unfold dlnOk at this;simp only[qg,decide_eq_true_eq]at this;omega
 have a:=ze3 (p:=6) (d:=d);have b:=fun R:docOk d=true=>ycd X F y n u d.lines.length q D A B d.cells.length f d.w d.bits (by omega)
 rw[<-M]at b;clear I M U S Q;obtain⟨T,O⟩:∃T,propB 6 d=T:=⟨_,rfl⟩
 rw[O]at b e c a;clear O;obtain⟨L,K,w,s⟩:=d;replace G:Sl F 148 2 encN (.slice y 0 n u 2 L.length q) L:=G;replace hb:Sl F 151 6 encK (.slice D 0 A B 6 K.length f) K:=hb;obtain⟨v,hv⟩:∃v,docOk ⟨L,K,w,s⟩=v:=⟨_,rfl⟩
 rw[hv]at m e l c b a
 have g:∀(z:Out) (F1:Fz) (h:Hp) (nx:Nat),pAns 6 ⟨L,K,w,s⟩=z->(∀μ,z.ren μ=z)->z.z=true->Fz.le F F1->lget h 0=some (.frz F1)->Cln 1 (FoK F fun o W=>o=pAns 6 ⟨L,K,w,s⟩) z h nx:=by
  intro z F1 h nx hz Y J j E;subst hz;exact endFo (pAns 6 ⟨L,K,w,s⟩) F1 E j (Fz.r F1) rfl (by rw[Y];exact zal _) J
 refine foS Tryz.func48 ?_;refine use (zf0 F) [] rfl trivial rfl trivial (by simp) trivial ?_;rintro _ F0 E n0 j ⟨rfl,rfl,rfl,rfl⟩;refine brd (by decide) ?_;(conv=>whnf);refine brd (by decide) ?_;(conv=>whnf);refine brd (by decide) ?_;(conv=>whnf);refine brd (by decide) ?_;(conv=>whnf);refine brd (by decide) ?_;(conv=>whnf);refine bre (by decide) ?_;refine usePs m ?_;rcases v with _ | _
 ·refine bre (by decide) ?_;exact g _ F _ _ (l rfl) (fun _=>rfl) rfl (Fz.r F) rfl
 ·refine brd (by decide) ?_;refine zha 2 rfl ?_;refine use (b rfl) [(1,3),(2,2)] rfl ⟨rfl,rfl,tv⟩ rfl ⟨zar _ (by omega) (by omega) _ _,zab zaa _ _ _ _ _,tv⟩ (by simp[SV.below,SC.below,SA.below]) ⟨rfl,rfl,tv⟩ ?_;rintro V F1 E n0 k ⟨rfl,rfl,u1,c1,Z,rfl⟩;refine zf3 (c rfl) (a rfl) rfl (ze4 (by rfl) (by rfl) _ _) rfl (zg0 zaa _ _ _ _ _) ?_;intro o';exact g _ F1 _ _ (e rfl) (fun _=>rfl) rfl k rfl
theorem z6u(X:PFun)(F:Fz)(y:Bool)(n u q:Nat)(D:Bool)(A B f:Nat)(d:Dc)(G:Sl F 148 2 encN (.slice y 0 n u 2 d.lines.length q) d.lines)(hb:Sl F 151 6 encK (.slice D 0 A B 6 d.cells.length f) d.cells)
  (S:d.lines.length<=1000)(Q:d.cells.length<=1000)(U:d.bits.length<=70000)(_:d.cells.length<=f):
  Fo Tryz.prog F 48 [.agg (docS (.slice y 0 n u 2 d.lines.length q) (.slice D 0 A B 6 d.cells.length f) d.w d.bits),.va (.int .i64 7)] (fun o _=>o=pAns 7 d):=by
 have m:=zd9 F _ _ d G hb S Q U;have e:=zi1 (p:=7) (d:=d);have l:=zi0 (p:=7) (d:=d);have c:=zfz (p:=7) (d:=d);have M:propB 7 d=zad [d.w,hgt d.w d.bits]++(putSR d.bits).1:=rfl
 have I:docOk d=true->∀x∈d.lines,x.1.length<=1000000:=fun R x I=>by
  have:=(zc7 R).ln x I;unfold dlnOk at this;simp only[qg,decide_eq_true_eq]at this;omega
 have a:=ze3 (p:=7) (d:=d);have b:=fun R:docOk d=true=>yce X F y n u d.lines.length q D A B d.cells.length f d.w d.bits (by omega)
 rw[<-M]at b;clear I M U S Q;obtain⟨T,O⟩:∃T,propB 7 d=T:=⟨_,rfl⟩
 rw[O]at b e c a;clear O;obtain⟨L,K,w,s⟩:=d;replace G:Sl F 148 2 encN (.slice y 0 n u 2 L.length q) L:=G;replace hb:Sl F 151 6 encK (.slice D 0 A B 6 K.length f) K:=hb;obtain⟨v,hv⟩:∃v,docOk ⟨L,K,w,s⟩=v:=⟨_,rfl⟩
 rw[hv]at m e l c b a
 have g:∀(z:Out) (F1:Fz) (h:Hp) (nx:Nat),pAns 7 ⟨L,K,w,s⟩=z->(∀μ,z.ren μ=z)->z.z=true->Fz.le F F1->lget h 0=some (.frz F1)->Cln 1 (FoK F fun o W=>o=pAns 7 ⟨L,K,w,s⟩) z h nx:=by
  intro z F1 h nx hz Y J j E;subst hz;exact endFo (pAns 7 ⟨L,K,w,s⟩) F1 E j (Fz.r F1) rfl (by rw[Y];exact zal _) J
 refine foS Tryz.func48 ?_;refine use (zf0 F) [] rfl trivial rfl trivial (by simp) trivial ?_;rintro _ F0 E n0 j ⟨rfl,rfl,rfl,rfl⟩;refine brd (by decide) ?_;(conv=>whnf);refine brd (by decide) ?_;(conv=>whnf);refine brd (by decide) ?_;(conv=>whnf);refine brd (by decide) ?_;(conv=>whnf);refine brd (by decide) ?_;(conv=>whnf);refine brd (by decide) ?_;(conv=>whnf);refine bre (by decide) ?_;refine usePs m ?_;rcases v with _ | _
 ·refine bre (by decide) ?_;exact g _ F _ _ (l rfl) (fun _=>rfl) rfl (Fz.r F) rfl
 ·refine brd (by decide) ?_;refine zha 2 rfl ?_;refine use (b rfl) [(1,3),(2,2)] rfl ⟨rfl,rfl,tv⟩ rfl ⟨zar _ (by omega) (by omega) _ _,zab zaa _ _ _ _ _,tv⟩ (by simp[SV.below,SC.below,SA.below]) ⟨rfl,rfl,tv⟩ ?_;rintro V F1 E n0 k ⟨rfl,rfl,u1,c1,Z,rfl⟩;refine zf3 (c rfl) (a rfl) rfl (ze4 (by rfl) (by rfl) _ _) rfl (zg0 zaa _ _ _ _ _) ?_;intro o';exact g _ F1 _ _ (e rfl) (fun _=>rfl) rfl k rfl
theorem z6v(X:PFun)(F:Fz)(y:Bool)(n u q:Nat)(D:Bool)(A B f:Nat)(d:Dc)(G:Sl F 148 2 encN (.slice y 0 n u 2 d.lines.length q) d.lines)(hb:Sl F 151 6 encK (.slice D 0 A B 6 d.cells.length f) d.cells)
  (S:d.lines.length<=1000)(Q:d.cells.length<=1000)(U:d.bits.length<=70000)(_:d.cells.length<=f):
  Fo Tryz.prog F 48 [.agg (docS (.slice y 0 n u 2 d.lines.length q) (.slice D 0 A B 6 d.cells.length f) d.w d.bits),.va (.int .i64 8)] (fun o _=>o=pAns 8 d):=by
 have m:=zd9 F _ _ d G hb S Q U;have e:=zi1 (p:=8) (d:=d);have l:=zi0 (p:=8) (d:=d);have c:=zfz (p:=8) (d:=d);have M:propB 8 d=zad [(d.lines.length:Int),(d.cells.length:Int)]:=rfl
 have I:docOk d=true->∀x∈d.lines,x.1.length<=1000000:=fun R x I=>by
  have:=(zc7 R).ln x I;unfold dlnOk at this;simp only[qg,decide_eq_true_eq]at this;omega
 have a:=ze3 (p:=8) (d:=d);have b:=fun R:docOk d=true=>ycf X F y n u d.lines.length q D A B d.cells.length f d.w d.bits
 rw[<-M]at b;clear I M U S Q;obtain⟨T,O⟩:∃T,propB 8 d=T:=⟨_,rfl⟩
 rw[O]at b e c a;clear O;obtain⟨L,K,w,s⟩:=d;replace G:Sl F 148 2 encN (.slice y 0 n u 2 L.length q) L:=G;replace hb:Sl F 151 6 encK (.slice D 0 A B 6 K.length f) K:=hb;obtain⟨v,hv⟩:∃v,docOk ⟨L,K,w,s⟩=v:=⟨_,rfl⟩
 rw[hv]at m e l c b a
 have g:∀(z:Out) (F1:Fz) (h:Hp) (nx:Nat),pAns 8 ⟨L,K,w,s⟩=z->(∀μ,z.ren μ=z)->z.z=true->Fz.le F F1->lget h 0=some (.frz F1)->Cln 1 (FoK F fun o W=>o=pAns 8 ⟨L,K,w,s⟩) z h nx:=by
  intro z F1 h nx hz Y J j E;subst hz;exact endFo (pAns 8 ⟨L,K,w,s⟩) F1 E j (Fz.r F1) rfl (by rw[Y];exact zal _) J
 refine foS Tryz.func48 ?_;refine use (zf0 F) [] rfl trivial rfl trivial (by simp) trivial ?_;rintro _ F0 E n0 j ⟨rfl,rfl,rfl,rfl⟩;refine brd (by decide) ?_;(conv=>whnf);refine brd (by decide) ?_;(conv=>whnf);refine brd (by decide) ?_;(conv=>whnf);refine brd (by decide) ?_;(conv=>whnf);refine brd (by decide) ?_;(conv=>whnf);refine brd (by decide) ?_;(conv=>whnf);refine brd (by decide) ?_;(conv=>whnf);refine bre (by decide) ?_;refine usePs m ?_;rcases v with _ | _
 ·refine bre (by decide) ?_;exact g _ F _ _ (l rfl) (fun _=>rfl) rfl (Fz.r F) rfl
 ·refine brd (by decide) ?_;refine zha 2 rfl ?_;refine use (b rfl) [(1,3),(2,2)] rfl ⟨rfl,rfl,tv⟩ rfl ⟨zar _ (by omega) (by omega) _ _,zab zaa _ _ _ _ _,tv⟩ (by simp[SV.below,SC.below,SA.below]) ⟨rfl,rfl,tv⟩ ?_;rintro V F1 E n0 k ⟨rfl,rfl,u1,c1,Z,rfl⟩;refine zf3 (c rfl) (a rfl) rfl (ze4 (by rfl) (by rfl) _ _) rfl (zg0 zaa _ _ _ _ _) ?_;intro o';exact g _ F1 _ _ (e rfl) (fun _=>rfl) rfl k rfl
theorem yay(k:PFun)(F:Fz)(g:Bool)(c f e:Nat)(j:Bool)(h i b:Nat)(d:Dc)(l:Sl F 148 2 encN (.slice g 0 c f 2 d.lines.length e) d.lines)(hb:Sl F 151 6 encK (.slice j 0 h i 6 d.cells.length b) d.cells)
  (n:d.lines.length<=1000)(m:d.cells.length<=1000)(q:d.bits.length<=70000)(a:d.cells.length<=b)(p:Int)(x:1<=p/\p<=8):
  Fo Tryz.prog F 48 [.agg (docS (.slice g 0 c f 2 d.lines.length e) (.slice j 0 h i 6 d.cells.length b) d.w d.bits),.va (.int .i64 p)] (fun o _=>o=pAns p d):=by
 have s:p=1\/p=2\/p=3\/p=4\/p=5\/p=6\/p=7\/p=8:=by omega
 rcases s with rfl | rfl | rfl | rfl | rfl | rfl | rfl | rfl
 ·exact z6o k F g c f e j h i b d l hb n m q a
 ·exact z6p k F g c f e j h i b d l hb n m q a
 ·exact z6q k F g c f e j h i b d l hb n m q a
 ·exact z6r k F g c f e j h i b d l hb n m q a
 ·exact z6s k F g c f e j h i b d l hb n m q a
 ·exact z6t k F g c f e j h i b d l hb n m q a
 ·exact z6u k F g c f e j h i b d l hb n m q a
 ·exact z6v k F g c f e j h i b d l hb n m q a
def allB(d:Dc):List (List UInt8):=(List.range 8).map fun k:Nat=>propB ((k:Int)+1) d
theorem zch(d:Dc):(allB d).length=8:=by simp[allB]
theorem ztu(d:Dc)(k:Nat)(h:k < 8):(allB d)[k]? =some (propB ((k:Int)+1) d):=by simp[allB,h]
theorem zfy{n:Nat}{a b:SA}{w:Int}{s:List UInt8}(c:a.below n)(hb:b.below n):(Ent.one (.cells 41 (docS a b w s))).below n:=zep (w:=w) (s:=s) c hb
theorem zer:Plain encS:=fun x=>⟨fun μ=>rfl,fun a b=>by simp only[encS,qz]at b;subst b;trivial⟩
abbrev z8o(a b:SA)(w:Int)(s:List UInt8):Ent:=.one (.cells 41 (docS a b w s))
theorem z9d(hP:PFun)(F:Fz)(U:Bool)(R T S:Nat)(Y:Bool)(V W J:Nat)(d:Dc)(ha:Sl F 148 2 encN (.slice U 0 R T 2 d.lines.length S) d.lines)(hb:Sl F 151 6 encK (.slice Y 0 V W 6 d.cells.length J) d.cells)
  (hl:d.lines.length<=1000)(hc:d.cells.length<=1000)(hs:d.bits.length<=70000)(m:d.cells.length<=J):
  Fo Tryz.prog F 14 [.agg (docS (.slice U 0 R T 2 d.lines.length S) (.slice Y 0 V W 6 d.cells.length J) d.w d.bits)] (fun o F'=>(docOk d=false/\o=.ret (.tup [.va .nilsl,.va (.int .i64 60)]))\/
   (docOk d=true/\∃b c,o=.ret (.tup [.va (.slice false 0 b 0 1 8 c),.va (.int .i64 0)])/\F' b=some (.arr 9 1 ((allB d).map encS) c)/\8<=c)):=by
 have ag:=fun F1 (l1:Fz.le F F1)=>yay hP F1 U R T S Y V W J d (ha.mono l1) (hb.mono l1) hl hc hs m
 have ah:=fun p=>zi1 (p:=p) (d:=d)
 have af:=fun p=>zi0 (p:=p) (d:=d)
 have f:=zch d;have hgt:=ztu d;obtain⟨A,hA⟩:∃A,allB d=A:=⟨_,rfl⟩
 rw[hA]at f hgt ⊢;clear hA ha hb hl hc hs m;obtain⟨L,K,w,s⟩:=d;obtain⟨v,hv⟩:∃v,docOk ⟨L,K,w,s⟩=v:=⟨_,rfl⟩
 rw[hv]at ah af ⊢;clear hv;rcases v with _ | _
 ·have a:=ag F (Fz.r F) 1 (by omega);rw[af 1 rfl]at a;refine foS Tryz.func14 ?_;conv=>whnf
  refine zak hΘ (X:={ k:Nat // k=0 }) (fun k=>[(4,.va .nilsl),(8,.va (.int .i64 k.1))]) (2::3::5::6::7::jr 9 17 [])
   (fun y=>[(0,.frz F),(1,z8o (.slice U 0 R T 2 L.length S) (.slice Y 0 V W 6 K.length J) w s)]) 2 (fun k=>0) ⟨0,rfl⟩
   (fun u x=>leI [] u x rfl ⟨tv,zfy (.inr (by omega)) (.inr (by omega)),tv⟩ ⟨rfl,rfl,tv⟩ ⟨Fz.r F,rfl,tv⟩) ?_
  rintro⟨k,rfl⟩ u x;refine br (fun _=>?_) (fun q=>absurd q (by decide));refine useFs a ?_;rintro _ F1 l1 rfl;refine br (fun _=>?_) (fun q=>absurd q (by decide));exact endFs (.ret (.tup [.va .nilsl,.va (.int .i64 60)])) l1 (.inl ⟨rfl,rfl⟩)
 ·refine foS Tryz.func14 ?_;conv=>whnf
  refine zak hΘ (X:={ y:Nat×List (List UInt8)×Nat×Fz // Fz.le F y.2.2.2/\y.1<=8/\y.2.1=A.take y.1/\y.2.1.length<=y.2.2.1 }) (fun y=>[(4,.va (gA 1 2 y.1.2.2.1 y.1.2.1)),(8,.va (.int .i64 y.1.1))]) (2::3::5::6::7::jr 9 17 [])
   (fun y=>[(0,.frz y.1.2.2.2),(1,z8o (.slice U 0 R T 2 L.length S) (.slice Y 0 V W 6 K.length J) w s),(2,gE 9 1 encS y.1.2.2.1 y.1.2.1)]) 3 (fun y=>8 - y.1.1) ⟨(0,[],0,F),Fz.r F,by omega,by simp,qi 0⟩
   (fun u x=>leI [(2,2)] u x rfl ⟨tv,zfy (.inr (by omega)) (.inr (by omega)),zab zer _ _ _ _ _,tv⟩ ⟨rfl,rfl,tv⟩ ⟨Fz.r F,rfl,rfl,tv⟩) ?_
  rintro⟨⟨k,o,co,G⟩,M,hk,O,D⟩ u x;replace M:Fz.le F G:=M;replace hk:k<=8:=hk;replace O:o=A.take k:=O;replace D:o.length<=co:=D;by_cases g:k < 8
  ·have l:(k:Int) < 8:=by omega
   have Z:k+1<=8:=g;have n:8 - (k+1) < 8 - k:=by omega
   have h:k < 4611686018427387904:=by omega
   have hw:SA.int .i64 ((k:Int)+1)=SA.int .i64 (IntKind.i64.wrap ((k:Int)+1)):=cnt h;have am:∃t,propB ((k:Int)+1) ⟨L,K,w,s⟩=t:=⟨_,rfl⟩
   obtain⟨t,ht⟩:=am;have a:=ag G M ((k:Int)+1) (by omega);rw[ah ((k:Int)+1) rfl,ht]at a
   have ad:o++[t]=A.take (k+1):=by
    have aa:k < A.length:=by omega
    rw[qf aa,O];have:=hgt k g;rw[qa aa,ht]at this;rw[Option.some.inj this]
   have I:o.length=k:=by rw[O,qo];omega
   clear ht O;rcases o with _ | ⟨o0,e⟩
   ·refine bri l ?_;refine useFo a rfl ⟨rfl,hw,tv⟩ rfl ?_;rintro _ Q l2 rfl;refine br (fun q=>absurd q (by decide)) (fun _=>?_);refine⟨nb rfl,[encS t],rfl,rfl,rfl,by show 1*16<=140737488355328;omega,fun c' B=>?_⟩;exact⟨⟨(k+1,[]++[t],c',Q),Fz.t M l2,Z,ad,by simpa using B⟩,n,leR [(2,4)] u x rfl ⟨tv,zfy (.inr (by omega)) (.inr (by omega)),zab zer _ _ _ _ _,tv⟩ ⟨by(conv=>whnf);exact⟨rfl,rfl,rfl,.inr ⟨rfl,rfl,rfl,rfl⟩⟩,cnt h,tv⟩ ⟨Fz.r Q,rfl,zaj zer (za3 _ (by simp)),tv⟩⟩
   ·have al:(e.length+1+1)*16<=140737488355328:=by
     have h9:e.length+1=k:=I;omega
    refine bri l ?_;refine useFo a rfl ⟨rfl,hw,tv⟩ rfl ?_;rintro _ Q l2 rfl;refine br (fun q=>absurd q (by decide)) (fun _=>?_);refine⟨nb rfl,[encS t],rfl,rfl,rfl,by simp,rfl,al,fun c' B=>?_⟩;exact⟨⟨(k+1,(o0::e)++[t],c',Q),Fz.t M l2,Z,ad,by simpa using B⟩,n,leR [(2,4)] u x rfl ⟨tv,zfy (.inr (by omega)) (.inr (by omega)),zab zer _ _ _ _ _,tv⟩ ⟨zdh (μ:=sig [(2,4)]) (i:=2) (j:=4) rfl 1 c' _ (o0::e) t rfl,cnt h,tv⟩ ⟨Fz.r Q,rfl,zaj zer (za3 _ (by simp)),tv⟩⟩
  ·have l:¬(k:Int) < 8:=by omega
   have aj:k=8:=by omega
   have E:o=A:=by rw[O,aj,qh (by omega)]
   rcases o with _ | ⟨o0,e⟩
   ·rw[<-E]at f;cases f
   ·have I:e.length+1=8:=by rw[<-E]at f;exact f
    refine brj l ?_;refine zck 2 (fun _=>.arr 9 1 ((o0::e).map encS) co) rfl rfl rfl (fun _ _=>by exact zcy zer rfl _ _ _ _) (fun _ _=>zbj zer _ _ _ _ _) ?_;intro b' F' ak ai;refine endFo (.ret (.tup [.va (.slice false 0 (b' 0) 0 1 8 co),.va (.int .i64 0)])) F' rfl (Fz.t M ak) (Fz.r F') (.inr ⟨rfl,_,_,rfl,by rw[<-E];exact ai 0 ⟨rfl,rfl⟩,by have h9:e.length+1<=co:=D;omega⟩) ?_ rfl;exact⟨⟨rfl,I.symm,rfl,.inr ⟨rfl,rfl,rfl,rfl⟩⟩,rfl,tv⟩
theorem yb1(s:PFun)(F:Fz)(j:Bool)(f i g:Nat)(m:Bool)(k l e:Nat)(d:Dc)(u:Sl F 148 2 encN (.slice j 0 f i 2 d.lines.length g) d.lines)(hb:Sl F 151 6 encK (.slice m 0 k l 6 d.cells.length e) d.cells)
  (y:d.lines.length<=1000)(x:d.cells.length<=1000)(A:d.bits.length<=70000)(a:d.cells.length<=e):
  Fo Tryz.prog F 14 [.agg (docS (.slice j 0 f i 2 d.lines.length g) (.slice m 0 k l 6 d.cells.length e) d.w d.bits)] (fun o n=>(docOk d=false/\o=.ret (.tup [.va .nilsl,.va (.int .i64 60)]))\/
   (docOk d=true/\∃b c,o=.ret (.tup [.va (.slice false 0 b 0 1 8 c),.va (.int .i64 0)])/\n b=some (.arr 9 1 ((allB d).map encS) c))):=
 zcn (z9d s F j f i g m k l e d u hb y x A a) fun _ _ h=>h.imp id fun⟨h1,b,c,p,q,_⟩=>⟨h1,b,c,p,q⟩
def DocAt(F:Fz)(a b:SA)(d:Dc):Prop:=
 ∃(h:Bool) (e g f:Nat) (k:Bool) (i j c:Nat),a=.slice h 0 e g 2 d.lines.length f/\b=.slice k 0 i j 6 d.cells.length c/\Sl F 148 2 encN a d.lines/\Sl F 151 6 encK b d.cells/\d.cells.length<=c
theorem DocAt.mono{F e:Fz}{a b:SA}{d:Dc}(h:DocAt F a b d)(c:Fz.le F e):DocAt e a b d:=by
 obtain⟨j,f,i,g,n,k,m,l,h1,o,p,q,s⟩:=h;exact⟨j,f,i,g,n,k,m,l,h1,o,p.mono c,q.mono c,s⟩
structure DcSmall(d:Dc):Prop where
 l:d.lines.length<=1000
 c:d.cells.length<=1000
 b:d.bits.length<=70000
theorem zn1(F:Fz)(a b:SA)(d:Dc)(h:DocAt F a b d)(e:DcSmall d):
  Fo Tryz.prog F 14 [.agg (docS a b d.w d.bits)] (fun o f=>(docOk d=false/\o=.ret (.tup [.va .nilsl,.va (.int .i64 60)]))\/
   (docOk d=true/\∃b c,o=.ret (.tup [.va (.slice false 0 b 0 1 8 c),.va (.int .i64 0)])/\f b=some (.arr 9 1 ((allB d).map encS) c))):=by
 obtain⟨k,g,j,i,q,m,p,n,rfl,rfl,s,u,x⟩:=h;exact yb1 pfun F k g j i q m p n d s u e.l e.c e.b x
theorem zcd{d:Dc}(b:docOk d=true):∀s∈allB d,s.length<=900000000000:=by
 intro s f;obtain⟨k,c,rfl⟩:=jj.1 f;have e:k < 8:=qcy.1 c;have a:1<=(k:Int)+1/\(k:Int)+1<=8:=by omega
 show(propB ((k:Int)+1) d).length<=_;rw[zvi a];have:=zx3 (p:=(k:Int)+1) (zzr a (zp4 a b));omega
theorem zf5{F:Fz}{b c:Nat}{d:Dc}(h:F b=some (.arr 9 1 ((allB d).map encS) c)):Sl F 9 1 encS (.slice false 0 b 0 1 8 c) (allB d):=by
 have:=Sl.new (enc:=encS) (cap:=c) h;rw[zch]at this;exact this
theorem zj6{ks:List Kp}(a:short ks)(p:Int):(zbu ks p).length < 1000000:=by
 unfold zbu;split
 ·decide
 ·split
  ·exact zmc a _
  ·exact zmc a _
theorem ze7{ks:List Kp}(a:short ks):short (za8 ks):=by
 intro x b;obtain⟨k,_,rfl⟩:=jj.1 b;exact zj6 a _
def makeC(m:Mig)(d e:Dc):Crt:=⟨root8 (allB d),root8 (allB e),1,za8 m.keep⟩
def zd5(m:Mig)(d e:Dc):Bool:=migOk m&&(docOk d&&(docOk e&&zcw (makeC m d e) (allB d) (allB e)))
theorem zot(F:Fz)(hM:MLF F)(R:RNDF F)(sk J L K x:SA)(m:Mig)(d e:Dc)(X:KpsAt F sk m.keep)(Y:short m.keep)(hl:m.keep.length < 1000000)(h:DocAt F J L d)(a:DocAt F K x e)(T:DcSmall d)(U:DcSmall e):
  Fo Tryz.prog F 21 [.agg (migS m sk),.agg (docS J L d.w d.bits),.agg (docS K x e.w e.bits)] (fun o F'=>
   (zd5 m d e=false/\o=.ret (.tup [.agg [.str [],.str [],.int .i64 0,.nilsl],.va (.int .i64 100)]))\/
   (zd5 m d e=true/\∃sc,o=.ret (.tup [.agg (crtS (makeC m d e) sc),.va (.int .i64 0)])/\ClsAt F' sc (za8 m.keep))):=by
 have n:=zy2 F sk m X Y hl;have l:=fun F1 (g:Fz.le F F1)=>zn1 F1 J L d (h.mono g) T
 have f:=fun F1 (g:Fz.le F F1)=>zn1 F1 K x e (a.mono g) U
 obtain⟨id,src,q,k,ks⟩:=m;obtain⟨kn,kb,ke,kc,kL,kr,rfl,k1,k2,k3,k4⟩:=X;obtain⟨ag,aa,ae,ac,ao,ai,am,ak,rfl,rfl,-,-,-⟩:=h;obtain⟨ah,ab,af,ad,ap,aj,an,al,rfl,rfl,-,-,-⟩:=a;refine foS Tryz.func21 ?_;refine useFs n ?_;rintro _ F1 g (⟨p,rfl⟩ | ⟨p,b,c,rfl,S⟩)
 ·refine useFs (l F1 g) ?_;rintro _ u i (⟨h,rfl⟩ | ⟨h,x,c2,rfl,Q⟩)
  ·refine useFs (f u (Fz.t g i)) ?_;rintro _ D j (⟨a,rfl⟩ | ⟨a,M,O,rfl,y⟩)
   ·conv=>whnf
    repeat
     first
      |refine gaf (by decide) ?_
       conv=>whnf
      |refine gae (by decide) ?_
       conv=>whnf
      |refine brd (by decide) ?_
       conv=>whnf
      |refine bre (by decide) ?_
       conv=>whnf
    exact endFs (.ret (.tup [.agg [.str [],.str [],.int .i64 0,.nilsl],.va (.int .i64 100)])) (Fz.t g (Fz.t i j)) (.inl ⟨by simp only[zd5,p,h,a,q9,jz],rfl⟩)
   ·conv=>whnf
    repeat
     first
      |refine gaf (by decide) ?_
       conv=>whnf
      |refine gae (by decide) ?_
       conv=>whnf
      |refine brd (by decide) ?_
       conv=>whnf
      |refine bre (by decide) ?_
       conv=>whnf
    exact endFs (.ret (.tup [.agg [.str [],.str [],.int .i64 0,.nilsl],.va (.int .i64 100)])) (Fz.t g (Fz.t i j)) (.inl ⟨by simp only[zd5,p,h,a,q9,jz],rfl⟩)
  ·refine useFs (f u (Fz.t g i)) ?_;rintro _ D j (⟨a,rfl⟩ | ⟨a,M,O,rfl,y⟩)
   ·conv=>whnf
    repeat
     first
      |refine gaf (by decide) ?_
       conv=>whnf
      |refine gae (by decide) ?_
       conv=>whnf
      |refine brd (by decide) ?_
       conv=>whnf
      |refine bre (by decide) ?_
       conv=>whnf
    exact endFs (.ret (.tup [.agg [.str [],.str [],.int .i64 0,.nilsl],.va (.int .i64 100)])) (Fz.t g (Fz.t i j)) (.inl ⟨by simp only[zd5,p,h,a,q9,jz],rfl⟩)
   ·conv=>whnf
    repeat
     first
      |refine gaf (by decide) ?_
       conv=>whnf
      |refine gae (by decide) ?_
       conv=>whnf
      |refine brd (by decide) ?_
       conv=>whnf
      |refine bre (by decide) ?_
       conv=>whnf
    exact endFs (.ret (.tup [.agg [.str [],.str [],.int .i64 0,.nilsl],.va (.int .i64 100)])) (Fz.t g (Fz.t i j)) (.inl ⟨by simp only[zd5,p,h,a,q9],rfl⟩)
 ·refine useFs (l F1 g) ?_;rintro _ u i (⟨h,rfl⟩ | ⟨h,x,c2,rfl,Q⟩)
  ·refine useFs (f u (Fz.t g i)) ?_;rintro _ D j (⟨a,rfl⟩ | ⟨a,M,O,rfl,y⟩)
   ·conv=>whnf
    repeat
     first
      |refine gaf (by decide) ?_
       conv=>whnf
      |refine gae (by decide) ?_
       conv=>whnf
      |refine brd (by decide) ?_
       conv=>whnf
      |refine bre (by decide) ?_
       conv=>whnf
    exact endFs (.ret (.tup [.agg [.str [],.str [],.int .i64 0,.nilsl],.va (.int .i64 100)])) (Fz.t g (Fz.t i j)) (.inl ⟨by simp only[zd5,p,h,a,q9,jz],rfl⟩)
   ·conv=>whnf
    repeat
     first
      |refine gaf (by decide) ?_
       conv=>whnf
      |refine gae (by decide) ?_
       conv=>whnf
      |refine brd (by decide) ?_
       conv=>whnf
      |refine bre (by decide) ?_
       conv=>whnf
    exact endFs (.ret (.tup [.agg [.str [],.str [],.int .i64 0,.nilsl],.va (.int .i64 100)])) (Fz.t g (Fz.t i j)) (.inl ⟨by simp only[zd5,p,h,a,q9,jz],rfl⟩)
  ·refine useFs (f u (Fz.t g i)) ?_;rintro _ D j (⟨a,rfl⟩ | ⟨a,M,O,rfl,y⟩)
   ·conv=>whnf
    repeat
     first
      |refine gaf (by decide) ?_
       conv=>whnf
      |refine gae (by decide) ?_
       conv=>whnf
      |refine brd (by decide) ?_
       conv=>whnf
      |refine bre (by decide) ?_
       conv=>whnf
    exact endFs (.ret (.tup [.agg [.str [],.str [],.int .i64 0,.nilsl],.va (.int .i64 100)])) (Fz.t g (Fz.t i j)) (.inl ⟨by simp only[zd5,p,h,a,q9,jz],rfl⟩)
   ·conv=>whnf
    repeat
     first
      |refine gaf (by decide) ?_
       conv=>whnf
      |refine gae (by decide) ?_
       conv=>whnf
      |refine brd (by decide) ?_
       conv=>whnf
      |refine bre (by decide) ?_
       conv=>whnf
    refine useFs (zhn D (R.mono (Fz.t g (Fz.t i j))) _ (allB d) (zf5 (j _ _ Q)) (zch d) (zcd h)) ?_;rintro _ F4 B rfl;have Z:=Fz.t g (Fz.t i (Fz.t j B));refine useFs (zhn F4 (R.mono Z) _ (allB e) (zf5 (B _ _ y)) (zch e) (zcd a)) ?_;rintro _ F5 E rfl;have I:=Fz.t Z E;have W:=KpsAt.up S (Fz.t i (Fz.t j (Fz.t B E)));have s:=zio F5 (hM.mono I) (R.mono I) _ _ _ (makeC ⟨id,src,q,k,ks⟩ d e) (allB d) (allB e) W (ze7 Y) (by show(za8 ks).length < _;rw[zdf];decide) (zf5 (E _ _ (B _ _ (j _ _ Q)))) (zf5 (E _ _ (B _ _ y))) (zcd h) (zcd a)
    have V:zcw (makeC ⟨id,src,q,k,ks⟩ d e) (allB d) (allB e)=true\/zcw (makeC ⟨id,src,q,k,ks⟩ d e) (allB d) (allB e)=false:=by
     cases zcw (makeC ⟨id,src,q,k,ks⟩ d e) (allB d) (allB e)
     ·exact .inr rfl
     ·exact .inl rfl
    refine Or.elim V (fun A=>?_) (fun A=>?_)
    ·rw[A]at s;refine useFs s ?_;rintro _ F6 G rfl;refine brd (by decide) ?_;exact endFs (.ret (.tup [.agg [.str (root8 (allB d)),.str (root8 (allB e)),.int .i64 1,.slice false 0 b 0 2 8 c],.va (.int .i64 0)])) (Fz.t I G) (.inr ⟨by simp only[zd5,p,h,a,A,yq],_,rfl,KpsAt.up W G⟩)
    ·rw[A]at s;refine useFs s ?_;rintro _ F6 G rfl;refine bre (by decide) ?_;exact endFs (.ret (.tup [.agg [.str [],.str [],.int .i64 0,.nilsl],.va (.int .i64 100)])) (Fz.t I G) (.inl ⟨by simp only[zd5,p,h,a,A,yq],rfl⟩)
end Go.Proofs.YtfnkamphhpldcaaGreatDoor
namespace Sx
open Go Go.RowKit
section
variable {P:Program} {Θ:Tys} {C:Ctx} {ρ:Rho} {st:St} {a:Act} {w:World} {Q:SE->St->Prop}
theorem z8k{x y:Code}(h:WP P x st fun e b=>(match e with
  |.normal=>WP P y b Q
  |.ret=>Q .ret b
  |.exit id=>Q (.exit id) b
  |.panic v=>Q (.panic v) b)):WP P (.seq x y) st Q:=by
 unfold WP at h ⊢;intro C ρ a w D;refine wp_seq (wp_mono (h C ρ a w D) ?_);rintro e g j ⟨i,b,f,d,rfl,c⟩;cases i with
 |normal=>exact d C f g j c
 |ret=>exact⟨.ret,b,f,d,rfl,c⟩
 |exit id=>exact⟨.exit id,b,f,d,rfl,c⟩
 |panic v=>exact⟨.panic v,b,f,d,rfl,c⟩
theorem zx9(hΘ:Θ.Ok P){id:Nat}{i j:Oper}{x:Operand}{ts:Array TypeId}(E:i.guard=none)(m:j.op=.defer ⟨.value x,#[],ts⟩)(G:j.guard=none)(l:j.dst=none)
  (h1:sop P Θ st.t i.op st.h st.nx (fun v h nx=>setd i.dst v { st with h:=h,nx:=nx } fun g=>∃f caps,ev g.t x=.va (.fn (.func f) caps)/\Q .normal { g with d:=(.clo f,caps.map SA.ptr)::g.d }) (fun v h nx=>Q (.panic v) { st with h:=h,nx:=nx })):
  WP P (.region id #[i,j] false) st Q:=by
 unfold WP;intro C ρ a w D;refine wp_region_list ?_;have J:Region.wanted i (yielded #[i,j] a.tmps)=true:=by simp[Region.wanted,E]
 show wpList P #[i,j] (Up C Q) [i,j] a w;unfold wpList;rw[if_pos J];left;refine zjd (zja hΘ h1 D) ?_ ?_
 ·rintro S R ⟨v,sv,V,O,k,rfl,W,Y,hb,o,_,_⟩;obtain⟨g,⟨f,caps,B,I⟩,c⟩:=zjx W o Y hb;have K:Region.wanted j (yielded #[i,j] (a.put i.dst v).tmps)=true:=by simp[Region.wanted,G]
  unfold wpList;rw[if_pos K];left;have L:=za6 c x;rw[B]at L;have M:(a.put i.dst v).eval x=.func (.func f) #[] (caps.map fun p=>Value.pointer (some (p.addr k))).toArray:=L.1
  have n:(execOp (a.put i.dst v).eval j).run P R=.ok (.defer (defOf k (.clo f,caps.map SA.ptr))) R:=by
   obtain⟨T,Z,type,pos,q,guard⟩:=j;simp only at m;subst m;have U:(caps.map SA.ptr).map (SA.den k)=caps.map fun p=>Value.pointer (some (p.addr k)):=by rw[yg];rfl
   simp[execOp,resolve,M,Deferred.ofValue,defOf,defV,U]
  simp only[Oper.wp,n,Oper.upon];refine⟨.normal,_,k,I,rfl,?_⟩;rw[l]
  have A:∀y∈(Dk.clo f,caps.map SA.ptr)::g.d,∀b∈y.2,b.below g.nx:=by
   intro y hy;rcases qn.1 hy with rfl | hy
   ·intro b s;obtain⟨p,X,rfl⟩:=jj.1 s;exact L.2 p X
   ·exact c.dw y hy
  have u:defOf k (Dk.clo f,caps.map SA.ptr)::(a.put i.dst v).defers=((Dk.clo f,caps.map SA.ptr)::g.d).map (defOf k):=by rw[c.df];rfl
  exact{ sat:=c.sat,nt:=c.nt,tm:=c.tm,tw:=c.tw,n0:=c.n0,df:=u,dw:=A }
 ·rintro e S R ⟨v,V,O,k,rfl,I,o⟩;exact⟨.panic v,_,k,I,rfl,o⟩
def endQK(P:Program)(Θ:Tys)(b:List ResultVar)(K:Out->Hp->Nat->Prop):SE->St->Prop:=fun e st=>
 match e with
 |.normal=>(match st.d with
  |(.clo f,asl)::r=>r=[]/\DefWP P f asl st.h st.nx none fun h nx=>sres Θ { st with h:=h,nx:=nx } b fun v=>K (.ret v) h nx
  |_=>False)
 |.ret=>(match st.d with
  |(.clo f,asl)::r=>r=[]/\DefWP P f asl st.h st.nx none fun h nx=>sres Θ { st with h:=h,nx:=nx } b fun v=>K (.ret v) h nx
  |_=>False)
 |.panic _=>False
 |.exit _=>False
theorem zne(hΘ:Θ.Ok P){fn:Func}{st:St}{A:List ResultVar}(s:fn.results.toList=A){K:Out->Hp->Nat->Prop}{R:Ending->World->Prop}(m:Option Value){f:FuncId}{b:List SA}{r:List (Dk×List SA)}
  (S:st.d=(.clo f,b)::r)(U:r=[])(D:Den C ρ st a w)
  (y:DefWP P f b st.h st.nx m fun h nx=>sres Θ { st with h:=h,nx:=nx } A fun v=>K (.ret v) h nx)
  (M:∀v sv q c p o,K (.ret sv) q c->sv.rel p v->sv.below c->Sat C p q c o->(∀i,i < st.nx->p i=ρ i)->st.nx<=c->R (.returned v) o):
  Leaves P fn a.tmps R a.defers (zqz m) w:=by
 have k:=D.df;have l:=D.dw;subst U;rw[S]at k l;rw[k];unfold DefWP at y;obtain⟨g,O⟩:=y C ρ w D.sat (l (.clo f,b) (by simp));unfold Enters at g;refine⟨by cases m<;>simp[zqz],.func f,(b.map (SA.den ρ)).toArray,f,(b.map (SA.den ρ)).toArray,rfl,?_,?_⟩
 ·have G:(#[]:Array Value)++(b.map (SA.den ρ)).toArray=(b.map (SA.den ρ)).toArray:=by simp
  simp only[defOf,defV,invoke,G,g]
 ·refine O.mono ?_;rintro e u o ⟨v,q,c,p,rfl,V,T,x,j,n⟩;have E:=D.heap x j n;obtain⟨B,sv,h1,I,J,L⟩:=zgk (fn:=fn) hΘ E (by rw[s];exact T);show Leaves P fn a.tmps R [] (settle u) o;rw[V];exact⟨B,h1,M B sv q c p o L I J x j n⟩
theorem z4i(hΘ:Θ.Ok P){f:FuncId}{fn:Func}{c:Code}{args:List SV}{h:Hp}{nx:Nat}{K:Out->Hp->Nat->Prop}(W:P.funcs[f]? =some fn)(hb:fn.body=some c)(hn:(fn.name== "runtime.NumGoroutine")=false)
  (nt:Nat)(Z:List ResultVar)(ac:fn.ntmps=nt)(E:fn.results.toList=Z)(hl:Nat.ble args.length nt=true)
  (Y:WP P c ⟨[ze2 0 args],h,nx,nx,nt,[]⟩ (endQK P Θ Z K)):za5 P f args h nx K:=by
 unfold za5;intro C ρ w vs S j R;refine⟨enters_of W hb hn,?_⟩;unfold WP at Y
 let x:Ctx:={ C with ρ0:=ρ,n0:=nx }
 have S1:Sat x ρ h nx w:={ S with anch:=fun _ _ _=>rfl,n0:=qi _,n1:=S.pos }
 have X:=zi4 j;have ab:=nb hl
 have D:Den x ρ ⟨[ze2 0 args],h,nx,nx,nt,[]⟩ { tmps:=vs.toArray++Array.replicate (fn.ntmps - vs.toArray.size) undef,defers:=[] } w:=by
  refine{ sat:=S1,nt:=?_,tm:=?_,tw:=?_,n0:=rfl,df:=rfl,dw:=by simp }
  ·simp;omega
  ·intro n s l;simp only[lget]at l;split at l
   ·rename_i v U;cases l
    obtain⟨u,_,g,h3,_⟩:=zdn (nx:=nx) args vs 0 n s j U;simp only[qa7]at g;refine⟨u,?_,h3⟩;rw[qa9 (by simpa using(ql.1 g).1)];simpa using g
   ·simp at l
  ·intro n s l;simp only[lget]at l;split at l
   ·rename_i v U;cases l
    obtain⟨u,_,_,_,h4⟩:=zdn (nx:=nx) args vs 0 n s j U;exact R s h4
   ·simp at l
 refine calls_of_wp_defers W hb (wp_mono (Y x ρ _ w D) ?_);rintro e a' w' ⟨se,G,I,d,rfl,L⟩
 have y:∀{o:Rho} {g:Hp} {b:Nat} {q:World},Sat x o g b q->Sat C o g b q:=fun p=>{ p with
  anch:=fun i J k=>by rw[p.anch i (yy J S.n0) k];exact S.anch i J k
  n0:=q8 S.n0 p.n0
  n1:=S.n1 }
 have A:∀v sv g b o q,K (.ret sv) g b->sv.rel o v->sv.below b->Sat x o g b q->(∀i,i < G.nx->o i=I i)->G.nx<=b->
   ∃out V m I,K out V m/\out.rel I (Ending.returned v)/\Sat C I V m q/\(∀i,i < nx->I i=ρ i)/\nx<=m/\(match out with | .ret s=>s.below m | .panic _=>True):=by
  intro v sv g b o q hk hr O p aa B;exact⟨.ret sv,g,b,o,hk,⟨v,rfl,hr⟩,y p,fun i J=>funext fun k=>p.anch i J k,q8 L.sat.n0 B,O⟩
 cases se with
 |normal=>
  simp only[endQK]at d;split at d
  ·rename_i f2 M r T;exact zne hΘ E none T d.1 L d.2 A
  ·exact d.elim
 |ret=>
  simp only[endQK]at d;split at d
  ·rename_i f2 M r T;exact zne hΘ E none T d.1 L d.2 A
  ·exact d.elim
 |panic v=>exact d.elim
 |exit id=>exact d.elim
end
end Sx
namespace Sx
open Go
variable {P:Program} {C:Ctx} {ρ:Rho} {h:Hp} {nx:Nat} {w:World}
theorem Sat.swap(s:Sat C ρ h nx w){i:Nat}{b n:SB}(q:lget h i=some (.one b))(B:∀ρ o,b.ok ρ o->n.ok ρ o)(m:n.below nx):Sat C ρ (lput h i (.one n)) nx w:=by
 have A:=s.ne0 q rfl
 have g:∀j k,St.owns (lput h i (.one n)) j k->St.owns h j k:=by
  rintro j k ⟨x,f,l⟩;by_cases e:j=i
  ·subst e;rw[zae]at f;cases f;exact⟨_,q,l⟩
  ·rw[zac _ _ _ _ e]at f;exact⟨_,f,l⟩
 exact{ s with
  lt:=fun j x f=>by
   by_cases e:j=i
   ·subst e;exact s.lt _ _ q
   ·rw[zac _ _ _ _ e]at f;exact s.lt _ _ f
  blk:=fun j x f k l=>by
   by_cases e:j=i
   ·subst e;rw[zae]at f;cases f
    obtain⟨o,h1,y⟩:=s.blk _ _ q k l;exact⟨o,h1,B _ _ y⟩
   ·rw[zac _ _ _ _ e]at f;exact s.blk _ _ f k l
  wf:=fun j x f k l=>by
   by_cases e:j=i
   ·subst e;rw[zae]at f;cases f
    exact m
   ·rw[zac _ _ _ _ e]at f;exact s.wf _ _ f k l
  inj:=fun a b c d h1 y=>s.inj a b c d (g _ _ h1) (g _ _ y)
  own:=fun a b h1=>s.own a b (g _ _ h1)
  fz:=by rw[zac _ _ _ _ (Ne.symm A)];exact s.fz
  only:=fun j F p=>by
   by_cases e:j=i
   ·subst e;rw[zae]at p;cases p
   ·rw[zac _ _ _ _ e]at p;exact s.only _ _ p
  lnk:=fun j b u=>by
   by_cases e:j=i
   ·subst e;rw[zae]at u;cases u
   ·rw[zac _ _ _ _ e]at u;exact s.lnk _ _ u }
theorem swapC{f:FuncId}{args:List SV}{K:Out->Hp->Nat->Prop}(i:Nat){b:SB}(c:SB)(e:lget h i=some (.one b))(d:∀ρ o,b.ok ρ o->c.ok ρ o)(a:c.below nx)(g:za5 P f args (lput h i (.one c)) nx K):za5 P f args h nx K:=by
 unfold za5 at*;intro C ρ w vs S j hb;exact g C ρ w vs (S.swap e d a) j hb
theorem zyg{t sz a:Nat}{L c:List (List SA)}(d:c.length=L.length)(h1:∀x∈c,x.length=sz)(i:∀ρ,c.flatten.map (SA.den ρ)=L.flatten.map (SA.den ρ))(ρ:Rho)(o:Obj)(h:(SB.arr t sz L a).ok ρ o):(SB.arr t sz c a).ok ρ o:=by
 obtain⟨j,e,b,f,g⟩:=h;exact⟨h1,by rw[d];exact e,b,by rw[d];exact f,by rw[i];exact g⟩
theorem z9f{f:FuncId}{args args':List SV}{K:Out->Hp->Nat->Prop}(c:∀ρ vs,relL ρ args vs->relL ρ args' vs)(hb:∀n,(∀s∈args,s.below n)->∀s∈args',s.below n)(b:za5 P f args' h nx K):za5 P f args h nx K:=by
 unfold za5 at*;intro C ρ w vs S h1 a;exact b C ρ w vs S (c ρ vs h1) (hb nx a)
theorem zow{n:Nat}{a:Out->Fz->List (Nat×Ent)->Nat->Prop}{out out':Out}(d:∀ρ e,out.rel ρ e->out'.rel ρ e)(hb:out'.below nx)(b:Cln n a out' h nx):Cln n a out h nx:=by
 unfold Cln at*;intro C ρ w e c S h1 f;exact b C ρ w e c S (d ρ e h1) hb
end Sx
namespace Go.Proofs.YtfnkamphhpldcaaGreatDoor
open Go Sx
set_option maxRecDepth 100000
def exD(t:List UInt8)(m:Int):Dc:=⟨[(t,m)],[],0,[]⟩
theorem zfk(t:List UInt8)(m:Int):DcSmall (exD t m):=⟨by show 1<=1000;decide,by show 0<=1000;decide,by show 0<=70000;decide⟩
theorem exAt{F:Fz}{b:Nat}{t:List UInt8}{m:Int}(h:F b=some (.arr 148 2 ([(t,m)].map encN) 1)):DocAt F (.slice false 0 b 0 2 1 1) (.slice true 0 0 0 6 0 0) (exD t m):=
 ⟨false,b,0,1,true,0,0,0,rfl,rfl,Sl.new (l:=[(t,m)]) h,Sl.nil,qi _⟩
theorem zb5(F:Fz)(t:List UInt8)(m:Int):
  Fo Tryz.prog F 45 [.va (.str t),.va (.int .i64 m)] (fun o d=>∃b,o=.ret (.agg (docS (.slice false 0 b 0 2 1 1) (.slice true 0 0 0 6 0 0) 0 []))/\d b=some (.arr 148 2 ([(t,m)].map encN) 1)):=by
 refine foS Tryz.func45 ?_;refine zdp 2 (fun _=>.arr 148 2 ([(t,m)].map encN) 1) ?_;intro b d c a;refine zow (out':=.ret (.agg (docS (.slice false 2 0 0 2 1 1) (.slice true 0 0 0 6 0 0) 0 []))) (fun _ _ h=>h) (Out.bB_ok rfl) ?_;exact endFs (.ret (.agg (docS (.slice false 0 (b 0) 0 2 1 1) (.slice true 0 0 0 6 0 0) 0 []))) c ⟨_,rfl,a 0 rfl⟩
