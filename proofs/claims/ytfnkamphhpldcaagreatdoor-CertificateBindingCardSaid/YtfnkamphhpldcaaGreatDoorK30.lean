import Derived.Test.YtfnkamphhpldcaaGreatDoorK28
import Derived.Test.YtfnkamphhpldcaaGreatDoorK29
import Derived.Test.YtfnkamphhpldcaaGreatDoorK25
import Derived.Test.YtfnkamphhpldcaaGreatDoorK26
import Derived.Test.YtfnkamphhpldcaaGreatDoorK23
set_option maxHeartbeats 64000000
namespace Go.Proofs.YtfnkamphhpldcaaGreatDoor
open Go Sx
set_option maxRecDepth 100000
theorem zg0{P:Program}{f:FuncId}{args:List SV}{h:Hp}{nx:Nat}{K:Out->Hp->Nat->Prop}(i:Nat)(h1:(Nat.ble (i+1) nx&& !Nat.beq i 0)=true)(d:zbg P f args (lput h i .gone) nx K):zbg P f args h nx K:=by
 unfold zbg at*;intro C ρ w vs S e b;simp only[qd,qao]at h1;have c:i < nx:=nb h1.1;have a:i≠0:=fun h=>by rw[h]at h1;exact absurd h1.2 (by decide)
 exact d C ρ w vs (S.forget c a) e b
theorem zc7{n:Int}(h:-4611686018427387903<=n/\n<=4611686018427387903)(l:List Int):zae (n::l)≠[]:=by
 rw[zae,q8,jy,zem h];intro h;exact zjk n (qdc.1 h).1
theorem zmj{α:Type}{a b:List α}(h:a≠[]):a++b≠[]:=fun c=>h (qdc.1 c).1
theorem zfj{p:Int}{d:Dc}(g:docOk d=true):propB p d≠[]:=by
 obtain⟨k,f,j,h,c,a⟩:=zbk g;obtain⟨l,m,n,o⟩:=zio a;have e:∀b,(d.cells.filter (keepQ b)).length<=64:=fun b=>q5 (qae _ _) f
 have h1:=e true;have i:=e false;unfold propB;split
 ·exact zmj (zc7 (by omega) _)
 split
 ·exact zmj (zc7 (by omega) _)
 split
 ·exact zmj (zc7 (by omega) _)
 split
 ·exact zmj (zc7 (by omega) _)
 split
 ·exact zmj (zc7 (by omega) _)
 split
 ·exact zc7 (by omega) _
 split
 ·exact zmj (zc7 (by omega) _)
 ·exact zc7 (by omega) _
def pAns(p:Int)(d:Dc):Out:=.ret (.tup [.va (.str (if docOk d=true then propB p d else [])),.va (.int .i64 (if docOk d=true then 0 else 60))])
theorem zik{p:Int}{d:Dc}(h:docOk d=true):pAns p d=.ret (.tup [.va (.str (propB p d)),.va (.int .i64 0)]):=by rw[pAns,if_pos h,if_pos h]
theorem zij{p:Int}{d:Dc}(h:docOk d=false):pAns p d=.ret (.tup [.va (.str []),.va (.int .i64 60)]):=by rw[pAns,h];rfl
theorem z4p(X:PFun)(F:Fz)(u:Bool)(m q n:Nat)(B:Bool)(y A f:Nat)(d:Dc)(D:Sl F 148 2 encN (.slice u 0 m q 2 d.lines.length n) d.lines)(I:Sl F 151 6 encK (.slice B 0 y A 6 d.cells.length f) d.cells)
  (M:d.lines.length<=1000)(S:d.cells.length<=1000)(U:d.bits.length<=70000)(_:d.cells.length<=f):
  Fo Tryz.prog F 48 [.agg (docS (.slice u 0 m q 2 d.lines.length n) (.slice B 0 y A 6 d.cells.length f) d.w d.bits),.va (.int .i64 1)] (fun o _=>o=pAns 1 d):=by
 have l:=zc4 F _ _ d D I M S U;have e:=zik (p:=1) (d:=d);have k:=zij (p:=1) (d:=d);have c:=zfj (p:=1) (d:=d);have Q:propB 1 d=ptext d.lines:=rfl
 have E:docOk d=true->∀x∈d.lines,x.1.length<=1000000:=fun J x E=>by
  have:=(zbk J).ln x E;unfold dlnOk at this;simp only[qd,decide_eq_true_eq]at this;omega
 have a:=zc0 (p:=1) (d:=d);have b:=fun J:docOk d=true=>yas X F u m q n B y A d.cells.length f d.lines d.w d.bits D M (E J)
 rw[<-Q]at b;clear E Q U M S;obtain⟨T,R⟩:∃T,propB 1 d=T:=⟨_,rfl⟩
 rw[R]at b e c a;clear R;obtain⟨L,K,w,s⟩:=d;replace D:Sl F 148 2 encN (.slice u 0 m q 2 L.length n) L:=D;replace I:Sl F 151 6 encK (.slice B 0 y A 6 K.length f) K:=I;obtain⟨v,hv⟩:∃v,docOk ⟨L,K,w,s⟩=v:=⟨_,rfl⟩
 rw[hv]at l e k c b a
 have fin:∀(z:Out) (F1:Fz) (h:Hp) (nx:Nat),pAns 1 ⟨L,K,w,s⟩=z->(∀μ,z.ren μ=z)->z.z=true->Fz.le F F1->lget h 0=some (.frz F1)->Cln 1 (FoK F fun o W=>o=pAns 1 ⟨L,K,w,s⟩) z h nx:=by
  intro z F1 h nx hz Y O i G;subst hz;exact endFo (pAns 1 ⟨L,K,w,s⟩) F1 G i (Fz.r F1) rfl (by rw[Y];exact zah _) O
 refine fo_of hΘ Tryz.func48 rfl (by decide) _ _ rfl rfl rfl ?_;refine use (zfk F) [] rfl trivial rfl trivial (by simp) trivial ?_;rintro _ F0 G n0 i ⟨rfl,rfl,rfl,rfl⟩;refine bre (by decide) ?_;refine usePu l rfl (zaa _) rfl ?_;rcases v with _ | _
 ·refine bre (by decide) ?_;exact fin _ F _ _ (k rfl) (fun _=>rfl) rfl (Fz.r F) rfl
 ·refine brd (by decide) ?_;refine zg0 2 rfl ?_;refine use (b rfl) [(1,3),(2,2)] rfl ⟨rfl,rfl,tv⟩ rfl ⟨zas _ (by omega) (by omega) _ _,zai zab _ _ _ _ _,tv⟩ (by simp[SV.below,SC.below,SA.below]) ⟨rfl,rfl,tv⟩ ?_;rintro V F1 G n0 j ⟨rfl,rfl,u1,c1,Z,rfl⟩;refine zfn (c rfl) (a rfl) rfl (zes (by rfl) (by rfl) _ _) rfl (zgq zab _ _ _ _ _) ?_;intro o';exact fin _ F1 _ _ (e rfl) (fun _=>rfl) rfl j rfl
theorem z4q(X:PFun)(F:Fz)(u:Bool)(m q n:Nat)(B:Bool)(y A f:Nat)(d:Dc)(D:Sl F 148 2 encN (.slice u 0 m q 2 d.lines.length n) d.lines)(G:Sl F 151 6 encK (.slice B 0 y A 6 d.cells.length f) d.cells)
  (I:d.lines.length<=1000)(R:d.cells.length<=1000)(U:d.bits.length<=70000)(_:d.cells.length<=f):
  Fo Tryz.prog F 48 [.agg (docS (.slice u 0 m q 2 d.lines.length n) (.slice B 0 y A 6 d.cells.length f) d.w d.bits),.va (.int .i64 2)] (fun o _=>o=pAns 2 d):=by
 have l:=zc4 F _ _ d D G I R U;have e:=zik (p:=2) (d:=d);have k:=zij (p:=2) (d:=d);have c:=zfj (p:=2) (d:=d);have O:propB 2 d=pmot d.lines:=rfl
 have J:docOk d=true->∀x∈d.lines,x.1.length<=1000000:=fun S x J=>by
  have:=(zbk S).ln x J;unfold dlnOk at this;simp only[qd,decide_eq_true_eq]at this;omega
 have a:=zc0 (p:=2) (d:=d);have b:=fun S:docOk d=true=>yat X F u m q n B y A d.cells.length f d.lines d.w d.bits D I
 rw[<-O]at b;clear J O U I R;obtain⟨T,Q⟩:∃T,propB 2 d=T:=⟨_,rfl⟩
 rw[Q]at b e c a;clear Q;obtain⟨L,K,w,s⟩:=d;replace D:Sl F 148 2 encN (.slice u 0 m q 2 L.length n) L:=D;replace G:Sl F 151 6 encK (.slice B 0 y A 6 K.length f) K:=G;obtain⟨v,hv⟩:∃v,docOk ⟨L,K,w,s⟩=v:=⟨_,rfl⟩
 rw[hv]at l e k c b a
 have fin:∀(z:Out) (F1:Fz) (h:Hp) (nx:Nat),pAns 2 ⟨L,K,w,s⟩=z->(∀μ,z.ren μ=z)->z.z=true->Fz.le F F1->lget h 0=some (.frz F1)->Cln 1 (FoK F fun o W=>o=pAns 2 ⟨L,K,w,s⟩) z h nx:=by
  intro z F1 h nx hz Y M i E;subst hz;exact endFo (pAns 2 ⟨L,K,w,s⟩) F1 E i (Fz.r F1) rfl (by rw[Y];exact zah _) M
 refine fo_of hΘ Tryz.func48 rfl (by decide) _ _ rfl rfl rfl ?_;refine use (zfk F) [] rfl trivial rfl trivial (by simp) trivial ?_;rintro _ F0 E n0 i ⟨rfl,rfl,rfl,rfl⟩;refine brd (by decide) ?_;(conv=>whnf);refine bre (by decide) ?_;refine usePu l rfl (zaa _) rfl ?_;rcases v with _ | _
 ·refine bre (by decide) ?_;exact fin _ F _ _ (k rfl) (fun _=>rfl) rfl (Fz.r F) rfl
 ·refine brd (by decide) ?_;refine zg0 2 rfl ?_;refine use (b rfl) [(1,3),(2,2)] rfl ⟨rfl,rfl,tv⟩ rfl ⟨zas _ (by omega) (by omega) _ _,zai zab _ _ _ _ _,tv⟩ (by simp[SV.below,SC.below,SA.below]) ⟨rfl,rfl,tv⟩ ?_;rintro V F1 E n0 j ⟨rfl,rfl,u1,c1,Z,rfl⟩;refine zfn (c rfl) (a rfl) rfl (zes (by rfl) (by rfl) _ _) rfl (zgq zab _ _ _ _ _) ?_;intro o';exact fin _ F1 _ _ (e rfl) (fun _=>rfl) rfl j rfl
theorem z4r(X:PFun)(F:Fz)(u:Bool)(m q n:Nat)(B:Bool)(y A f:Nat)(d:Dc)(G:Sl F 148 2 encN (.slice u 0 m q 2 d.lines.length n) d.lines)(D:Sl F 151 6 encK (.slice B 0 y A 6 d.cells.length f) d.cells)
  (S:d.lines.length<=1000)(I:d.cells.length<=1000)(U:d.bits.length<=70000)(_:d.cells.length<=f):
  Fo Tryz.prog F 48 [.agg (docS (.slice u 0 m q 2 d.lines.length n) (.slice B 0 y A 6 d.cells.length f) d.w d.bits),.va (.int .i64 3)] (fun o _=>o=pAns 3 d):=by
 have l:=zc4 F _ _ d G D S I U;have e:=zik (p:=3) (d:=d);have k:=zij (p:=3) (d:=d);have c:=zfj (p:=3) (d:=d);have O:propB 3 d=zcs false d.cells:=rfl
 have J:docOk d=true->∀x∈d.lines,x.1.length<=1000000:=fun R x J=>by
  have:=(zbk R).ln x J;unfold dlnOk at this;simp only[qd,decide_eq_true_eq]at this;omega
 have a:=zc0 (p:=3) (d:=d);have b:=fun R:docOk d=true=>yau X F u m q d.lines.length n B y A f d.cells d.w d.bits D I
 rw[<-O]at b;clear J O U S I;obtain⟨T,Q⟩:∃T,propB 3 d=T:=⟨_,rfl⟩
 rw[Q]at b e c a;clear Q;obtain⟨L,K,w,s⟩:=d;replace G:Sl F 148 2 encN (.slice u 0 m q 2 L.length n) L:=G;replace D:Sl F 151 6 encK (.slice B 0 y A 6 K.length f) K:=D;obtain⟨v,hv⟩:∃v,docOk ⟨L,K,w,s⟩=v:=⟨_,rfl⟩
 rw[hv]at l e k c b a
 have fin:∀(z:Out) (F1:Fz) (h:Hp) (nx:Nat),pAns 3 ⟨L,K,w,s⟩=z->(∀μ,z.ren μ=z)->z.z=true->Fz.le F F1->lget h 0=some (.frz F1)->Cln 1 (FoK F fun o W=>o=pAns 3 ⟨L,K,w,s⟩) z h nx:=by
  intro z F1 h nx hz Y M i E;subst hz;exact endFo (pAns 3 ⟨L,K,w,s⟩) F1 E i (Fz.r F1) rfl (by rw[Y];exact zah _) M
 refine fo_of hΘ Tryz.func48 rfl (by decide) _ _ rfl rfl rfl ?_;refine use (zfk F) [] rfl trivial rfl trivial (by simp) trivial ?_;rintro _ F0 E n0 i ⟨rfl,rfl,rfl,rfl⟩;refine brd (by decide) ?_;(conv=>whnf);refine brd (by decide) ?_;(conv=>whnf);refine bre (by decide) ?_;refine usePu l rfl (zaa _) rfl ?_;rcases v with _ | _
 ·refine bre (by decide) ?_;exact fin _ F _ _ (k rfl) (fun _=>rfl) rfl (Fz.r F) rfl
 ·refine brd (by decide) ?_;refine zg0 2 rfl ?_;refine use (b rfl) [(1,3),(2,2)] rfl ⟨rfl,rfl,tv⟩ rfl ⟨zas _ (by omega) (by omega) _ _,zai zab _ _ _ _ _,tv⟩ (by simp[SV.below,SC.below,SA.below]) ⟨rfl,rfl,tv⟩ ?_;rintro V F1 E n0 j ⟨rfl,rfl,u1,c1,Z,rfl⟩;refine zfn (c rfl) (a rfl) rfl (zes (by rfl) (by rfl) _ _) rfl (zgq zab _ _ _ _ _) ?_;intro o';exact fin _ F1 _ _ (e rfl) (fun _=>rfl) rfl j rfl
theorem z4s(X:PFun)(F:Fz)(u:Bool)(m q n:Nat)(B:Bool)(y A f:Nat)(d:Dc)(G:Sl F 148 2 encN (.slice u 0 m q 2 d.lines.length n) d.lines)(D:Sl F 151 6 encK (.slice B 0 y A 6 d.cells.length f) d.cells)
  (S:d.lines.length<=1000)(I:d.cells.length<=1000)(U:d.bits.length<=70000)(_:d.cells.length<=f):
  Fo Tryz.prog F 48 [.agg (docS (.slice u 0 m q 2 d.lines.length n) (.slice B 0 y A 6 d.cells.length f) d.w d.bits),.va (.int .i64 4)] (fun o _=>o=pAns 4 d):=by
 have l:=zc4 F _ _ d G D S I U;have e:=zik (p:=4) (d:=d);have k:=zij (p:=4) (d:=d);have c:=zfj (p:=4) (d:=d);have O:propB 4 d=zcs true d.cells:=rfl
 have J:docOk d=true->∀x∈d.lines,x.1.length<=1000000:=fun R x J=>by
  have:=(zbk R).ln x J;unfold dlnOk at this;simp only[qd,decide_eq_true_eq]at this;omega
 have a:=zc0 (p:=4) (d:=d);have b:=fun R:docOk d=true=>yav X F u m q d.lines.length n B y A f d.cells d.w d.bits D I
 rw[<-O]at b;clear J O U S I;obtain⟨T,Q⟩:∃T,propB 4 d=T:=⟨_,rfl⟩
 rw[Q]at b e c a;clear Q;obtain⟨L,K,w,s⟩:=d;replace G:Sl F 148 2 encN (.slice u 0 m q 2 L.length n) L:=G;replace D:Sl F 151 6 encK (.slice B 0 y A 6 K.length f) K:=D;obtain⟨v,hv⟩:∃v,docOk ⟨L,K,w,s⟩=v:=⟨_,rfl⟩
 rw[hv]at l e k c b a
 have fin:∀(z:Out) (F1:Fz) (h:Hp) (nx:Nat),pAns 4 ⟨L,K,w,s⟩=z->(∀μ,z.ren μ=z)->z.z=true->Fz.le F F1->lget h 0=some (.frz F1)->Cln 1 (FoK F fun o W=>o=pAns 4 ⟨L,K,w,s⟩) z h nx:=by
  intro z F1 h nx hz Y M i E;subst hz;exact endFo (pAns 4 ⟨L,K,w,s⟩) F1 E i (Fz.r F1) rfl (by rw[Y];exact zah _) M
 refine fo_of hΘ Tryz.func48 rfl (by decide) _ _ rfl rfl rfl ?_;refine use (zfk F) [] rfl trivial rfl trivial (by simp) trivial ?_;rintro _ F0 E n0 i ⟨rfl,rfl,rfl,rfl⟩;refine brd (by decide) ?_;(conv=>whnf);refine brd (by decide) ?_;(conv=>whnf);refine brd (by decide) ?_;(conv=>whnf);refine bre (by decide) ?_;refine usePu l rfl (zaa _) rfl ?_;rcases v with _ | _
 ·refine bre (by decide) ?_;exact fin _ F _ _ (k rfl) (fun _=>rfl) rfl (Fz.r F) rfl
 ·refine brd (by decide) ?_;refine zg0 2 rfl ?_;refine use (b rfl) [(1,3),(2,2)] rfl ⟨rfl,rfl,tv⟩ rfl ⟨zas _ (by omega) (by omega) _ _,zai zab _ _ _ _ _,tv⟩ (by simp[SV.below,SC.below,SA.below]) ⟨rfl,rfl,tv⟩ ?_;rintro V F1 E n0 j ⟨rfl,rfl,u1,c1,Z,rfl⟩;refine zfn (c rfl) (a rfl) rfl (zes (by rfl) (by rfl) _ _) rfl (zgq zab _ _ _ _ _) ?_;intro o';exact fin _ F1 _ _ (e rfl) (fun _=>rfl) rfl j rfl
theorem z4t(X:PFun)(F:Fz)(u:Bool)(m q n:Nat)(B:Bool)(y A g:Nat)(d:Dc)(G:Sl F 148 2 encN (.slice u 0 m q 2 d.lines.length n) d.lines)(D:Sl F 151 6 encK (.slice B 0 y A 6 d.cells.length g) d.cells)
  (S:d.lines.length<=1000)(I:d.cells.length<=1000)(U:d.bits.length<=70000)(c:d.cells.length<=g):
  Fo Tryz.prog F 48 [.agg (docS (.slice u 0 m q 2 d.lines.length n) (.slice B 0 y A 6 d.cells.length g) d.w d.bits),.va (.int .i64 5)] (fun o _=>o=pAns 5 d):=by
 have l:=zc4 F _ _ d G D S I U;have f:=zik (p:=5) (d:=d);have k:=zij (p:=5) (d:=d);have e:=zfj (p:=5) (d:=d);have O:propB 5 d=pvals d.cells:=rfl
 have J:docOk d=true->∀x∈d.lines,x.1.length<=1000000:=fun R x J=>by
  have:=(zbk R).ln x J;unfold dlnOk at this;simp only[qd,decide_eq_true_eq]at this;omega
 have a:=zc0 (p:=5) (d:=d);have b:=fun R:docOk d=true=>yaw X F u m q d.lines.length n B y A g d.cells d.w d.bits D I c
 rw[<-O]at b;clear J O U S I c;obtain⟨T,Q⟩:∃T,propB 5 d=T:=⟨_,rfl⟩
 rw[Q]at b f e a;clear Q;obtain⟨L,K,w,s⟩:=d;replace G:Sl F 148 2 encN (.slice u 0 m q 2 L.length n) L:=G;replace D:Sl F 151 6 encK (.slice B 0 y A 6 K.length g) K:=D;obtain⟨v,hv⟩:∃v,docOk ⟨L,K,w,s⟩=v:=⟨_,rfl⟩
 rw[hv]at l f k e b a
 have fin:∀(z:Out) (F1:Fz) (h:Hp) (nx:Nat),pAns 5 ⟨L,K,w,s⟩=z->(∀μ,z.ren μ=z)->z.z=true->Fz.le F F1->lget h 0=some (.frz F1)->Cln 1 (FoK F fun o W=>o=pAns 5 ⟨L,K,w,s⟩) z h nx:=by
  intro z F1 h nx hz Y M i E;subst hz;exact endFo (pAns 5 ⟨L,K,w,s⟩) F1 E i (Fz.r F1) rfl (by rw[Y];exact zah _) M
 refine fo_of hΘ Tryz.func48 rfl (by decide) _ _ rfl rfl rfl ?_;refine use (zfk F) [] rfl trivial rfl trivial (by simp) trivial ?_;rintro _ F0 E n0 i ⟨rfl,rfl,rfl,rfl⟩;refine brd (by decide) ?_;(conv=>whnf);refine brd (by decide) ?_;(conv=>whnf);refine brd (by decide) ?_;(conv=>whnf);refine brd (by decide) ?_;(conv=>whnf);refine bre (by decide) ?_;refine usePu l rfl (zaa _) rfl ?_;rcases v with _ | _
 ·refine bre (by decide) ?_;exact fin _ F _ _ (k rfl) (fun _=>rfl) rfl (Fz.r F) rfl
 ·refine brd (by decide) ?_;refine zg0 2 rfl ?_;refine use (b rfl) [(1,3),(2,2)] rfl ⟨rfl,rfl,tv⟩ rfl ⟨zas _ (by omega) (by omega) _ _,zai zab _ _ _ _ _,tv⟩ (by simp[SV.below,SC.below,SA.below]) ⟨rfl,rfl,tv⟩ ?_;rintro V F1 E n0 j ⟨rfl,rfl,u1,c1,Z,rfl⟩;refine zfn (e rfl) (a rfl) rfl (zes (by rfl) (by rfl) _ _) rfl (zgq zab _ _ _ _ _) ?_;intro o';exact fin _ F1 _ _ (f rfl) (fun _=>rfl) rfl j rfl
theorem z4u(X:PFun)(F:Fz)(u:Bool)(m q n:Nat)(B:Bool)(y A f:Nat)(d:Dc)(E:Sl F 148 2 encN (.slice u 0 m q 2 d.lines.length n) d.lines)(G:Sl F 151 6 encK (.slice B 0 y A 6 d.cells.length f) d.cells)
  (S:d.lines.length<=1000)(Q:d.cells.length<=1000)(U:d.bits.length<=70000)(_:d.cells.length<=f):
  Fo Tryz.prog F 48 [.agg (docS (.slice u 0 m q 2 d.lines.length n) (.slice B 0 y A 6 d.cells.length f) d.w d.bits),.va (.int .i64 6)] (fun o _=>o=pAns 6 d):=by
 have l:=zc4 F _ _ d E G S Q U;have e:=zik (p:=6) (d:=d);have k:=zij (p:=6) (d:=d);have c:=zfj (p:=6) (d:=d);have M:propB 6 d=zae [d.w,hgt d.w d.bits]:=rfl
 have I:docOk d=true->∀x∈d.lines,x.1.length<=1000000:=fun R x I=>by
  have:=(zbk R).ln x I;unfold dlnOk at this;simp only[qd,decide_eq_true_eq]at this;omega
 have a:=zc0 (p:=6) (d:=d);have b:=fun R:docOk d=true=>yax X F u m q d.lines.length n B y A d.cells.length f d.w d.bits (by omega)
 rw[<-M]at b;clear I M U S Q;obtain⟨T,O⟩:∃T,propB 6 d=T:=⟨_,rfl⟩
 rw[O]at b e c a;clear O;obtain⟨L,K,w,s⟩:=d;replace E:Sl F 148 2 encN (.slice u 0 m q 2 L.length n) L:=E;replace G:Sl F 151 6 encK (.slice B 0 y A 6 K.length f) K:=G;obtain⟨v,hv⟩:∃v,docOk ⟨L,K,w,s⟩=v:=⟨_,rfl⟩
 rw[hv]at l e k c b a
 have fin:∀(z:Out) (F1:Fz) (h:Hp) (nx:Nat),pAns 6 ⟨L,K,w,s⟩=z->(∀μ,z.ren μ=z)->z.z=true->Fz.le F F1->lget h 0=some (.frz F1)->Cln 1 (FoK F fun o W=>o=pAns 6 ⟨L,K,w,s⟩) z h nx:=by
  intro z F1 h nx hz Y J i D;subst hz;exact endFo (pAns 6 ⟨L,K,w,s⟩) F1 D i (Fz.r F1) rfl (by rw[Y];exact zah _) J
 refine fo_of hΘ Tryz.func48 rfl (by decide) _ _ rfl rfl rfl ?_;refine use (zfk F) [] rfl trivial rfl trivial (by simp) trivial ?_;rintro _ F0 D n0 i ⟨rfl,rfl,rfl,rfl⟩;refine brd (by decide) ?_;(conv=>whnf);refine brd (by decide) ?_;(conv=>whnf);refine brd (by decide) ?_;(conv=>whnf);refine brd (by decide) ?_;(conv=>whnf);refine brd (by decide) ?_;(conv=>whnf);refine bre (by decide) ?_;refine usePu l rfl (zaa _) rfl ?_;rcases v with _ | _
 ·refine bre (by decide) ?_;exact fin _ F _ _ (k rfl) (fun _=>rfl) rfl (Fz.r F) rfl
 ·refine brd (by decide) ?_;refine zg0 2 rfl ?_;refine use (b rfl) [(1,3),(2,2)] rfl ⟨rfl,rfl,tv⟩ rfl ⟨zas _ (by omega) (by omega) _ _,zai zab _ _ _ _ _,tv⟩ (by simp[SV.below,SC.below,SA.below]) ⟨rfl,rfl,tv⟩ ?_;rintro V F1 D n0 j ⟨rfl,rfl,u1,c1,Z,rfl⟩;refine zfn (c rfl) (a rfl) rfl (zes (by rfl) (by rfl) _ _) rfl (zgq zab _ _ _ _ _) ?_;intro o';exact fin _ F1 _ _ (e rfl) (fun _=>rfl) rfl j rfl
theorem z4v(X:PFun)(F:Fz)(u:Bool)(m q n:Nat)(B:Bool)(y A f:Nat)(d:Dc)(E:Sl F 148 2 encN (.slice u 0 m q 2 d.lines.length n) d.lines)(G:Sl F 151 6 encK (.slice B 0 y A 6 d.cells.length f) d.cells)
  (S:d.lines.length<=1000)(Q:d.cells.length<=1000)(U:d.bits.length<=70000)(_:d.cells.length<=f):
  Fo Tryz.prog F 48 [.agg (docS (.slice u 0 m q 2 d.lines.length n) (.slice B 0 y A 6 d.cells.length f) d.w d.bits),.va (.int .i64 7)] (fun o _=>o=pAns 7 d):=by
 have l:=zc4 F _ _ d E G S Q U;have e:=zik (p:=7) (d:=d);have k:=zij (p:=7) (d:=d);have c:=zfj (p:=7) (d:=d);have M:propB 7 d=zae [d.w,hgt d.w d.bits]++(putSR d.bits).1:=rfl
 have I:docOk d=true->∀x∈d.lines,x.1.length<=1000000:=fun R x I=>by
  have:=(zbk R).ln x I;unfold dlnOk at this;simp only[qd,decide_eq_true_eq]at this;omega
 have a:=zc0 (p:=7) (d:=d);have b:=fun R:docOk d=true=>yay X F u m q d.lines.length n B y A d.cells.length f d.w d.bits (by omega)
 rw[<-M]at b;clear I M U S Q;obtain⟨T,O⟩:∃T,propB 7 d=T:=⟨_,rfl⟩
 rw[O]at b e c a;clear O;obtain⟨L,K,w,s⟩:=d;replace E:Sl F 148 2 encN (.slice u 0 m q 2 L.length n) L:=E;replace G:Sl F 151 6 encK (.slice B 0 y A 6 K.length f) K:=G;obtain⟨v,hv⟩:∃v,docOk ⟨L,K,w,s⟩=v:=⟨_,rfl⟩
 rw[hv]at l e k c b a
 have fin:∀(z:Out) (F1:Fz) (h:Hp) (nx:Nat),pAns 7 ⟨L,K,w,s⟩=z->(∀μ,z.ren μ=z)->z.z=true->Fz.le F F1->lget h 0=some (.frz F1)->Cln 1 (FoK F fun o W=>o=pAns 7 ⟨L,K,w,s⟩) z h nx:=by
  intro z F1 h nx hz Y J i D;subst hz;exact endFo (pAns 7 ⟨L,K,w,s⟩) F1 D i (Fz.r F1) rfl (by rw[Y];exact zah _) J
 refine fo_of hΘ Tryz.func48 rfl (by decide) _ _ rfl rfl rfl ?_;refine use (zfk F) [] rfl trivial rfl trivial (by simp) trivial ?_;rintro _ F0 D n0 i ⟨rfl,rfl,rfl,rfl⟩;refine brd (by decide) ?_;(conv=>whnf);refine brd (by decide) ?_;(conv=>whnf);refine brd (by decide) ?_;(conv=>whnf);refine brd (by decide) ?_;(conv=>whnf);refine brd (by decide) ?_;(conv=>whnf);refine brd (by decide) ?_;(conv=>whnf);refine bre (by decide) ?_;refine usePu l rfl (zaa _) rfl ?_;rcases v with _ | _
 ·refine bre (by decide) ?_;exact fin _ F _ _ (k rfl) (fun _=>rfl) rfl (Fz.r F) rfl
 ·refine brd (by decide) ?_;refine zg0 2 rfl ?_;refine use (b rfl) [(1,3),(2,2)] rfl ⟨rfl,rfl,tv⟩ rfl ⟨zas _ (by omega) (by omega) _ _,zai zab _ _ _ _ _,tv⟩ (by simp[SV.below,SC.below,SA.below]) ⟨rfl,rfl,tv⟩ ?_;rintro V F1 D n0 j ⟨rfl,rfl,u1,c1,Z,rfl⟩;refine zfn (c rfl) (a rfl) rfl (zes (by rfl) (by rfl) _ _) rfl (zgq zab _ _ _ _ _) ?_;intro o';exact fin _ F1 _ _ (e rfl) (fun _=>rfl) rfl j rfl
theorem z4w(X:PFun)(F:Fz)(u:Bool)(m q n:Nat)(B:Bool)(y A f:Nat)(d:Dc)(E:Sl F 148 2 encN (.slice u 0 m q 2 d.lines.length n) d.lines)(G:Sl F 151 6 encK (.slice B 0 y A 6 d.cells.length f) d.cells)
  (S:d.lines.length<=1000)(Q:d.cells.length<=1000)(U:d.bits.length<=70000)(_:d.cells.length<=f):
  Fo Tryz.prog F 48 [.agg (docS (.slice u 0 m q 2 d.lines.length n) (.slice B 0 y A 6 d.cells.length f) d.w d.bits),.va (.int .i64 8)] (fun o _=>o=pAns 8 d):=by
 have l:=zc4 F _ _ d E G S Q U;have e:=zik (p:=8) (d:=d);have k:=zij (p:=8) (d:=d);have c:=zfj (p:=8) (d:=d);have M:propB 8 d=zae [(d.lines.length:Int),(d.cells.length:Int)]:=rfl
 have I:docOk d=true->∀x∈d.lines,x.1.length<=1000000:=fun R x I=>by
  have:=(zbk R).ln x I;unfold dlnOk at this;simp only[qd,decide_eq_true_eq]at this;omega
 have a:=zc0 (p:=8) (d:=d);have b:=fun R:docOk d=true=>yaz X F u m q d.lines.length n B y A d.cells.length f d.w d.bits
 rw[<-M]at b;clear I M U S Q;obtain⟨T,O⟩:∃T,propB 8 d=T:=⟨_,rfl⟩
 rw[O]at b e c a;clear O;obtain⟨L,K,w,s⟩:=d;replace E:Sl F 148 2 encN (.slice u 0 m q 2 L.length n) L:=E;replace G:Sl F 151 6 encK (.slice B 0 y A 6 K.length f) K:=G;obtain⟨v,hv⟩:∃v,docOk ⟨L,K,w,s⟩=v:=⟨_,rfl⟩
 rw[hv]at l e k c b a
 have fin:∀(z:Out) (F1:Fz) (h:Hp) (nx:Nat),pAns 8 ⟨L,K,w,s⟩=z->(∀μ,z.ren μ=z)->z.z=true->Fz.le F F1->lget h 0=some (.frz F1)->Cln 1 (FoK F fun o W=>o=pAns 8 ⟨L,K,w,s⟩) z h nx:=by
  intro z F1 h nx hz Y J i D;subst hz;exact endFo (pAns 8 ⟨L,K,w,s⟩) F1 D i (Fz.r F1) rfl (by rw[Y];exact zah _) J
 refine fo_of hΘ Tryz.func48 rfl (by decide) _ _ rfl rfl rfl ?_;refine use (zfk F) [] rfl trivial rfl trivial (by simp) trivial ?_;rintro _ F0 D n0 i ⟨rfl,rfl,rfl,rfl⟩;refine brd (by decide) ?_;(conv=>whnf);refine brd (by decide) ?_;(conv=>whnf);refine brd (by decide) ?_;(conv=>whnf);refine brd (by decide) ?_;(conv=>whnf);refine brd (by decide) ?_;(conv=>whnf);refine brd (by decide) ?_;(conv=>whnf);refine brd (by decide) ?_;(conv=>whnf);refine bre (by decide) ?_;refine usePu l rfl (zaa _) rfl ?_;rcases v with _ | _
 ·refine bre (by decide) ?_;exact fin _ F _ _ (k rfl) (fun _=>rfl) rfl (Fz.r F) rfl
 ·refine brd (by decide) ?_;refine zg0 2 rfl ?_;refine use (b rfl) [(1,3),(2,2)] rfl ⟨rfl,rfl,tv⟩ rfl ⟨zas _ (by omega) (by omega) _ _,zai zab _ _ _ _ _,tv⟩ (by simp[SV.below,SC.below,SA.below]) ⟨rfl,rfl,tv⟩ ?_;rintro V F1 D n0 j ⟨rfl,rfl,u1,c1,Z,rfl⟩;refine zfn (c rfl) (a rfl) rfl (zes (by rfl) (by rfl) _ _) rfl (zgq zab _ _ _ _ _) ?_;intro o';exact fin _ F1 _ _ (e rfl) (fun _=>rfl) rfl j rfl
theorem z0l(k:PFun)(F:Fz)(g:Bool)(c f e:Nat)(j:Bool)(h i b:Nat)(d:Dc)(l:Sl F 148 2 encN (.slice g 0 c f 2 d.lines.length e) d.lines)(m:Sl F 151 6 encK (.slice j 0 h i 6 d.cells.length b) d.cells)
  (q:d.lines.length<=1000)(n:d.cells.length<=1000)(s:d.bits.length<=70000)(a:d.cells.length<=b)(p:Int)(y:1<=p/\p<=8):
  Fo Tryz.prog F 48 [.agg (docS (.slice g 0 c f 2 d.lines.length e) (.slice j 0 h i 6 d.cells.length b) d.w d.bits),.va (.int .i64 p)] (fun o _=>o=pAns p d):=by
 have u:p=1\/p=2\/p=3\/p=4\/p=5\/p=6\/p=7\/p=8:=by omega
 rcases u with rfl | rfl | rfl | rfl | rfl | rfl | rfl | rfl
 ·exact z4p k F g c f e j h i b d l m q n s a
 ·exact z4q k F g c f e j h i b d l m q n s a
 ·exact z4r k F g c f e j h i b d l m q n s a
 ·exact z4s k F g c f e j h i b d l m q n s a
 ·exact z4t k F g c f e j h i b d l m q n s a
 ·exact z4u k F g c f e j h i b d l m q n s a
 ·exact z4v k F g c f e j h i b d l m q n s a
 ·exact z4w k F g c f e j h i b d l m q n s a
def allB(d:Dc):List (List UInt8):=(List.range 8).map fun k:Nat=>propB ((k:Int)+1) d
theorem zc5(d:Dc):(allB d).length=8:=by simp[allB]
theorem zj6(d:Dc)(k:Nat)(h:k < 8):(allB d)[k]? =some (propB ((k:Int)+1) d):=by simp[allB,h]
theorem zfh{n:Nat}{a b:SA}{w:Int}{s:List UInt8}(c:a.below n)(d:b.below n):(Ent.one (.cells 41 (docS a b w s))).below n:=zee (w:=w) (s:=s) c d
theorem zav:Plain encS:=fun x=>⟨fun μ=>rfl,fun a b=>by simp only[encS,qp]at b;subst b;trivial⟩
abbrev z6m(a b:SA)(w:Int)(s:List UInt8):Ent:=.one (.cells 41 (docS a b w s))
theorem zxs(hP:PFun)(F:Fz)(U:Bool)(R T S:Nat)(Y:Bool)(V W J:Nat)(d:Dc)(ha:Sl F 148 2 encN (.slice U 0 R T 2 d.lines.length S) d.lines)(hb:Sl F 151 6 encK (.slice Y 0 V W 6 d.cells.length J) d.cells)
  (hl:d.lines.length<=1000)(hc:d.cells.length<=1000)(hs:d.bits.length<=70000)(m:d.cells.length<=J):
  Fo Tryz.prog F 14 [.agg (docS (.slice U 0 R T 2 d.lines.length S) (.slice Y 0 V W 6 d.cells.length J) d.w d.bits)] (fun o F'=>(docOk d=false/\o=.ret (.tup [.va .nilsl,.va (.int .i64 60)]))\/
   (docOk d=true/\∃b c,o=.ret (.tup [.va (.slice false 0 b 0 1 8 c),.va (.int .i64 0)])/\F' b=some (.arr 9 1 ((allB d).map encS) c)/\8<=c)):=by
 have ag:=fun F1 (l1:Fz.le F F1)=>z0l hP F1 U R T S Y V W J d (ha.mono l1) (hb.mono l1) hl hc hs m
 have ah:=fun p=>zik (p:=p) (d:=d)
 have af:=fun p=>zij (p:=p) (d:=d)
 have f:=zc5 d;have hgt:=zj6 d;obtain⟨A,hA⟩:∃A,allB d=A:=⟨_,rfl⟩
 rw[hA]at f hgt ⊢;clear hA ha hb hl hc hs m;obtain⟨L,K,w,s⟩:=d;obtain⟨v,hv⟩:∃v,docOk ⟨L,K,w,s⟩=v:=⟨_,rfl⟩
 rw[hv]at ah af ⊢;clear hv;rcases v with _ | _
 ·have a:=ag F (Fz.r F) 1 (by omega);rw[af 1 rfl]at a;refine fo_of hΘ Tryz.func14 rfl (by decide) _ _ rfl rfl rfl ?_;conv=>whnf
  refine zam hΘ (X:={ k:Nat // k=0 }) (fun k=>[(4,.va .nilsl),(8,.va (.int .i64 k.1))]) (2::3::5::6::7::jr 9 17 [])
   (fun y=>[(0,.frz F),(1,z6m (.slice U 0 R T 2 L.length S) (.slice Y 0 V W 6 K.length J) w s)]) 2 (fun k=>0) ⟨0,rfl⟩
   (fun u x=>leI [] u x rfl ⟨tv,zfh (.inr (by omega)) (.inr (by omega)),tv⟩ ⟨rfl,rfl,tv⟩ ⟨Fz.r F,rfl,tv⟩) ?_
  rintro⟨k,rfl⟩ u x;refine br (fun _=>?_) (fun q=>absurd q (by decide));refine useFo a rfl (zaa _) rfl ?_;rintro _ F1 l1 rfl;refine br (fun _=>?_) (fun q=>absurd q (by decide));exact endFo (.ret (.tup [.va .nilsl,.va (.int .i64 60)])) F1 rfl l1 (Fz.r F1) (.inl ⟨rfl,rfl⟩) (zah _) rfl
 ·refine fo_of hΘ Tryz.func14 rfl (by decide) _ _ rfl rfl rfl ?_;conv=>whnf
  refine zam hΘ (X:={ y:Nat×List (List UInt8)×Nat×Fz // Fz.le F y.2.2.2/\y.1<=8/\y.2.1=A.take y.1/\y.2.1.length<=y.2.2.1 }) (fun y=>[(4,.va (gA 1 2 y.1.2.2.1 y.1.2.1)),(8,.va (.int .i64 y.1.1))]) (2::3::5::6::7::jr 9 17 [])
   (fun y=>[(0,.frz y.1.2.2.2),(1,z6m (.slice U 0 R T 2 L.length S) (.slice Y 0 V W 6 K.length J) w s),(2,gE 9 1 encS y.1.2.2.1 y.1.2.1)]) 3 (fun y=>8 - y.1.1) ⟨(0,[],0,F),Fz.r F,by omega,by simp,qg 0⟩
   (fun u x=>leI [(2,2)] u x rfl ⟨tv,zfh (.inr (by omega)) (.inr (by omega)),zai zav _ _ _ _ _,tv⟩ ⟨rfl,rfl,tv⟩ ⟨Fz.r F,rfl,rfl,tv⟩) ?_
  rintro⟨⟨k,o,co,G⟩,M,hk,O,D⟩ u x;replace M:Fz.le F G:=M;replace hk:k<=8:=hk;replace O:o=A.take k:=O;replace D:o.length<=co:=D;by_cases g:k < 8
  ·have l:(k:Int) < 8:=by omega
   have Z:k+1<=8:=g;have n:8 - (k+1) < 8 - k:=by omega
   have h:k < 4611686018427387904:=by omega
   have hw:SA.int .i64 ((k:Int)+1)=SA.int .i64 (IntKind.i64.wrap ((k:Int)+1)):=cnt h;have am:∃t,propB ((k:Int)+1) ⟨L,K,w,s⟩=t:=⟨_,rfl⟩
   obtain⟨t,ht⟩:=am;have a:=ag G M ((k:Int)+1) (by omega);rw[ah ((k:Int)+1) rfl,ht]at a
   have ad:o++[t]=A.take (k+1):=by
    have aa:k < A.length:=by omega
    rw[qe aa,O];have:=hgt k g;rw[qc aa,ht]at this;rw[Option.some.inj this]
   have I:o.length=k:=by rw[O,qj];omega
   clear ht O;rcases o with _ | ⟨o0,e⟩
   ·refine bri l ?_;refine useFo a rfl ⟨rfl,hw,tv⟩ rfl ?_;rintro _ Q l2 rfl;refine br (fun q=>absurd q (by decide)) (fun _=>?_);refine⟨nb rfl,[encS t],rfl,rfl,rfl,by show 1*16<=140737488355328;omega,fun c' B=>?_⟩;exact⟨⟨(k+1,[]++[t],c',Q),Fz.t M l2,Z,ad,by simpa using B⟩,n,leR [(2,4)] u x rfl ⟨tv,zfh (.inr (by omega)) (.inr (by omega)),zai zav _ _ _ _ _,tv⟩ ⟨by(conv=>whnf);exact⟨rfl,rfl,rfl,.inr ⟨rfl,rfl,rfl,rfl⟩⟩,cnt h,tv⟩ ⟨Fz.r Q,rfl,zau zav (zbp _ (by simp)),tv⟩⟩
   ·have al:(e.length+1+1)*16<=140737488355328:=by
     have h9:e.length+1=k:=I;omega
    refine bri l ?_;refine useFo a rfl ⟨rfl,hw,tv⟩ rfl ?_;rintro _ Q l2 rfl;refine br (fun q=>absurd q (by decide)) (fun _=>?_);refine⟨nb rfl,[encS t],rfl,rfl,rfl,by simp,rfl,al,fun c' B=>?_⟩;exact⟨⟨(k+1,(o0::e)++[t],c',Q),Fz.t M l2,Z,ad,by simpa using B⟩,n,leR [(2,4)] u x rfl ⟨tv,zfh (.inr (by omega)) (.inr (by omega)),zai zav _ _ _ _ _,tv⟩ ⟨zeb (μ:=sig [(2,4)]) (i:=2) (j:=4) rfl 1 c' _ (o0::e) t rfl,cnt h,tv⟩ ⟨Fz.r Q,rfl,zau zav (zbp _ (by simp)),tv⟩⟩
  ·have l:¬(k:Int) < 8:=by omega
   have aj:k=8:=by omega
   have E:o=A:=by rw[O,aj,qi (by omega)]
   rcases o with _ | ⟨o0,e⟩
   ·rw[<-E]at f;cases f
   ·have I:e.length+1=8:=by rw[<-E]at f;exact f
    refine brj l ?_;refine zbc 2 (fun _=>.arr 9 1 ((o0::e).map encS) co) rfl rfl rfl (fun _ _=>by exact zcc zav rfl _ _ _ _) (fun _ _=>zat zav _ _ _ _ _) ?_;intro b' F' ak ai;refine endFo (.ret (.tup [.va (.slice false 0 (b' 0) 0 1 8 co),.va (.int .i64 0)])) F' rfl (Fz.t M ak) (Fz.r F') (.inr ⟨rfl,_,_,rfl,by rw[<-E];exact ai 0 ⟨rfl,rfl⟩,by have h9:e.length+1<=co:=D;omega⟩) ?_ rfl;exact⟨⟨rfl,I.symm,rfl,.inr ⟨rfl,rfl,rfl,rfl⟩⟩,rfl,tv⟩
theorem yai(s:PFun)(F:Fz)(j:Bool)(f i g:Nat)(m:Bool)(k l e:Nat)(d:Dc)(u:Sl F 148 2 encN (.slice j 0 f i 2 d.lines.length g) d.lines)(x:Sl F 151 6 encK (.slice m 0 k l 6 d.cells.length e) d.cells)
  (A:d.lines.length<=1000)(y:d.cells.length<=1000)(B:d.bits.length<=70000)(a:d.cells.length<=e):
  Fo Tryz.prog F 14 [.agg (docS (.slice j 0 f i 2 d.lines.length g) (.slice m 0 k l 6 d.cells.length e) d.w d.bits)] (fun o n=>(docOk d=false/\o=.ret (.tup [.va .nilsl,.va (.int .i64 60)]))\/
   (docOk d=true/\∃b c,o=.ret (.tup [.va (.slice false 0 b 0 1 8 c),.va (.int .i64 0)])/\n b=some (.arr 9 1 ((allB d).map encS) c))):=
 zcb (zxs s F j f i g m k l e d u x A y B a) fun _ _ h=>h.imp id fun⟨h1,b,c,p,q,_⟩=>⟨h1,b,c,p,q⟩
def DocAt(F:Fz)(a b:SA)(d:Dc):Prop:=
 ∃(h:Bool) (e g f:Nat) (k:Bool) (i j c:Nat),a=.slice h 0 e g 2 d.lines.length f/\b=.slice k 0 i j 6 d.cells.length c/\Sl F 148 2 encN a d.lines/\Sl F 151 6 encK b d.cells/\d.cells.length<=c
theorem DocAt.mono{F e:Fz}{a b:SA}{d:Dc}(h:DocAt F a b d)(c:Fz.le F e):DocAt e a b d:=by
 obtain⟨j,f,i,g,n,k,m,l,h1,o,p,q,s⟩:=h;exact⟨j,f,i,g,n,k,m,l,h1,o,p.mono c,q.mono c,s⟩
structure DcSmall(d:Dc):Prop where
 l:d.lines.length<=1000
 c:d.cells.length<=1000
 b:d.bits.length<=70000
theorem zr8(F:Fz)(a b:SA)(d:Dc)(h:DocAt F a b d)(e:DcSmall d):
  Fo Tryz.prog F 14 [.agg (docS a b d.w d.bits)] (fun o f=>(docOk d=false/\o=.ret (.tup [.va .nilsl,.va (.int .i64 60)]))\/
   (docOk d=true/\∃b c,o=.ret (.tup [.va (.slice false 0 b 0 1 8 c),.va (.int .i64 0)])/\f b=some (.arr 9 1 ((allB d).map encS) c))):=by
 obtain⟨k,g,j,i,q,m,p,n,rfl,rfl,s,u,x⟩:=h;exact yai pfun F k g j i q m p n d s u e.l e.c e.b x
theorem z1y(F:Fz)(a b:SA)(d:Dc)(h:DocAt F a b d)(e:DcSmall d):
  Fo Tryz.prog F 14 [.agg (docS a b d.w d.bits)] (fun o f=>(docOk d=false/\o=.ret (.tup [.va .nilsl,.va (.int .i64 60)]))\/
   (docOk d=true/\∃b c,o=.ret (.tup [.va (.slice false 0 b 0 1 8 c),.va (.int .i64 0)])/\f b=some (.arr 9 1 ((allB d).map encS) c)/\8<=c)):=by
 obtain⟨k,g,j,i,q,m,p,n,rfl,rfl,s,u,x⟩:=h;exact zxs pfun F k g j i q m p n d s u e.l e.c e.b x
theorem zc1{d:Dc}(b:docOk d=true):∀s∈allB d,s.length<=900000000000:=by
 intro s f;obtain⟨k,c,rfl⟩:=jj.1 f;have e:k < 8:=qcy.1 c;have a:1<=(k:Int)+1/\(k:Int)+1<=8:=by omega
 show(propB ((k:Int)+1) d).length<=_;rw[zhg a];have:=zxl (p:=(k:Int)+1) (zy5 a (zgy a b));omega
theorem znu{F:Fz}{b c:Nat}{d:Dc}(h:F b=some (.arr 9 1 ((allB d).map encS) c)):Sl F 9 1 encS (.slice false 0 b 0 1 8 c) (allB d):=by
 have:=Sl.new (enc:=encS) (cap:=c) h;rw[zc5]at this;exact this
theorem zp2{b:List Kp}(a:short b)(p:Int):(zbw b p).length < 1000000:=by
 unfold zbw;split
 ·decide
 ·split
  ·exact zhz a _
  ·exact zhz a _
theorem zev{a:List Kp}(b:short a):short (zbi a):=by
 intro x c;obtain⟨k,_,rfl⟩:=jj.1 c;exact zp2 b _
def makeC(m:Mig)(d e:Dc):Crt:=⟨root8 (allB d),root8 (allB e),1,zbi m.keep⟩
def zdz(m:Mig)(d e:Dc):Bool:=migOk m&&(docOk d&&(docOk e&&zb8 (makeC m d e) (allB d) (allB e)))
theorem zol(F:Fz)(hM:MLF F)(T:RNDF F)(sk L O M A:SA)(m:Mig)(d e:Dc)(Z:KpsAt F sk m.keep)(hs:short m.keep)(hl:m.keep.length < 1000000)(i:DocAt F L O d)(a:DocAt F M A e)(V:DcSmall d)(W:DcSmall e):
  Fo Tryz.prog F 21 [.agg (migS m sk),.agg (docS L O d.w d.bits),.agg (docS M A e.w e.bits)] (fun o F'=>
   (zdz m d e=false/\o=.ret (.tup [.agg [.str [],.str [],.int .i64 0,.nilsl],.va (.int .i64 100)]))\/
   (zdz m d e=true/\∃sc,o=.ret (.tup [.agg (crtS (makeC m d e) sc),.va (.int .i64 0)])/\ClsAt F' sc (zbi m.keep))):=by
 have p:=zyf F sk m Z hs hl;have n:=fun F1 (g:Fz.le F F1)=>zr8 F1 L O d (i.mono g) V
 have f:=fun F1 (g:Fz.le F F1)=>zr8 F1 M A e (a.mono g) W
 obtain⟨id,src,s,l,E⟩:=m;obtain⟨kn,kb,ke,kc,kL,kr,rfl,k1,k2,k3,k4⟩:=Z;obtain⟨ag,aa,ae,ac,ao,ai,am,ak,rfl,rfl,-,-,-⟩:=i;obtain⟨ah,ab,af,ad,ap,aj,an,al,rfl,rfl,-,-,-⟩:=a;refine fo_of hΘ Tryz.func21 rfl (by decide) _ _ rfl rfl rfl ?_;refine useFo p rfl (zaa _) rfl ?_;rintro _ F1 g (⟨q,rfl⟩ | ⟨q,b,c,rfl,U⟩)
 ·refine useFo (n F1 g) rfl (zaa _) rfl ?_;rintro _ x j (⟨i,rfl⟩ | ⟨i,A,c2,rfl,S⟩)
  ·refine useFo (f x (Fz.t g j)) rfl (zaa _) rfl ?_;rintro _ h k (⟨a,rfl⟩ | ⟨a,Q,R,rfl,B⟩)
   ·conv=>whnf
    repeat
     first
      |refine gaf (by decide) ?_
       conv=>whnf
      |refine gae (by decide) ?_
       conv=>whnf
      |refine brd (by decide) ?_
       conv=>whnf
      |refine bre (by decide) ?_
       conv=>whnf
    exact endFo (.ret (.tup [.agg [.str [],.str [],.int .i64 0,.nilsl],.va (.int .i64 100)])) h rfl (Fz.t g (Fz.t j k)) (Fz.r h) (.inl ⟨by simp only[zdz,q,i,a,jm,jz],rfl⟩) (zah _) rfl
   ·conv=>whnf
    repeat
     first
      |refine gaf (by decide) ?_
       conv=>whnf
      |refine gae (by decide) ?_
       conv=>whnf
      |refine brd (by decide) ?_
       conv=>whnf
      |refine bre (by decide) ?_
       conv=>whnf
    exact endFo (.ret (.tup [.agg [.str [],.str [],.int .i64 0,.nilsl],.va (.int .i64 100)])) h rfl (Fz.t g (Fz.t j k)) (Fz.r h) (.inl ⟨by simp only[zdz,q,i,a,jm,jz],rfl⟩) (zah _) rfl
  ·refine useFo (f x (Fz.t g j)) rfl (zaa _) rfl ?_;rintro _ h k (⟨a,rfl⟩ | ⟨a,Q,R,rfl,B⟩)
   ·conv=>whnf
    repeat
     first
      |refine gaf (by decide) ?_
       conv=>whnf
      |refine gae (by decide) ?_
       conv=>whnf
      |refine brd (by decide) ?_
       conv=>whnf
      |refine bre (by decide) ?_
       conv=>whnf
    exact endFo (.ret (.tup [.agg [.str [],.str [],.int .i64 0,.nilsl],.va (.int .i64 100)])) h rfl (Fz.t g (Fz.t j k)) (Fz.r h) (.inl ⟨by simp only[zdz,q,i,a,jm,jz],rfl⟩) (zah _) rfl
   ·conv=>whnf
    repeat
     first
      |refine gaf (by decide) ?_
       conv=>whnf
      |refine gae (by decide) ?_
       conv=>whnf
      |refine brd (by decide) ?_
       conv=>whnf
      |refine bre (by decide) ?_
       conv=>whnf
    exact endFo (.ret (.tup [.agg [.str [],.str [],.int .i64 0,.nilsl],.va (.int .i64 100)])) h rfl (Fz.t g (Fz.t j k)) (Fz.r h) (.inl ⟨by simp only[zdz,q,i,a,jm],rfl⟩) (zah _) rfl
 ·refine useFo (n F1 g) rfl (zaa _) rfl ?_;rintro _ x j (⟨i,rfl⟩ | ⟨i,A,c2,rfl,S⟩)
  ·refine useFo (f x (Fz.t g j)) rfl (zaa _) rfl ?_;rintro _ h k (⟨a,rfl⟩ | ⟨a,Q,R,rfl,B⟩)
   ·conv=>whnf
    repeat
     first
      |refine gaf (by decide) ?_
       conv=>whnf
      |refine gae (by decide) ?_
       conv=>whnf
      |refine brd (by decide) ?_
       conv=>whnf
      |refine bre (by decide) ?_
       conv=>whnf
    exact endFo (.ret (.tup [.agg [.str [],.str [],.int .i64 0,.nilsl],.va (.int .i64 100)])) h rfl (Fz.t g (Fz.t j k)) (Fz.r h) (.inl ⟨by simp only[zdz,q,i,a,jm,jz],rfl⟩) (zah _) rfl
   ·conv=>whnf
    repeat
     first
      |refine gaf (by decide) ?_
       conv=>whnf
      |refine gae (by decide) ?_
       conv=>whnf
      |refine brd (by decide) ?_
       conv=>whnf
      |refine bre (by decide) ?_
       conv=>whnf
    exact endFo (.ret (.tup [.agg [.str [],.str [],.int .i64 0,.nilsl],.va (.int .i64 100)])) h rfl (Fz.t g (Fz.t j k)) (Fz.r h) (.inl ⟨by simp only[zdz,q,i,a,jm,jz],rfl⟩) (zah _) rfl
  ·refine useFo (f x (Fz.t g j)) rfl (zaa _) rfl ?_;rintro _ h k (⟨a,rfl⟩ | ⟨a,Q,R,rfl,B⟩)
   ·conv=>whnf
    repeat
     first
      |refine gaf (by decide) ?_
       conv=>whnf
      |refine gae (by decide) ?_
       conv=>whnf
      |refine brd (by decide) ?_
       conv=>whnf
      |refine bre (by decide) ?_
       conv=>whnf
    exact endFo (.ret (.tup [.agg [.str [],.str [],.int .i64 0,.nilsl],.va (.int .i64 100)])) h rfl (Fz.t g (Fz.t j k)) (Fz.r h) (.inl ⟨by simp only[zdz,q,i,a,jm,jz],rfl⟩) (zah _) rfl
   ·conv=>whnf
    repeat
     first
      |refine gaf (by decide) ?_
       conv=>whnf
      |refine gae (by decide) ?_
       conv=>whnf
      |refine brd (by decide) ?_
       conv=>whnf
      |refine bre (by decide) ?_
       conv=>whnf
    refine useFo (zj8 h (T.mono (Fz.t g (Fz.t j k))) _ (allB d) (znu (k _ _ S)) (zc5 d) (zc1 i)) rfl (zaa _) rfl ?_;rintro _ F4 G rfl;have m4:=Fz.t g (Fz.t j (Fz.t k G));refine useFo (zj8 F4 (T.mono m4) _ (allB e) (znu (G _ _ B)) (zc5 e) (zc1 a)) rfl (zaa _) rfl ?_;rintro _ F5 I rfl;have K:=Fz.t m4 I;have Y:=KpsAt.up U (Fz.t j (Fz.t k (Fz.t G I)));have u:=zh5 F5 (hM.mono K) (T.mono K) _ _ _ (makeC ⟨id,src,s,l,E⟩ d e) (allB d) (allB e) Y (zev hs) (by show(zbi E).length < _;rw[zds];decide) (znu (I _ _ (G _ _ (k _ _ S)))) (znu (I _ _ (G _ _ B))) (zc1 i) (zc1 a)
    have X:zb8 (makeC ⟨id,src,s,l,E⟩ d e) (allB d) (allB e)=true\/zb8 (makeC ⟨id,src,s,l,E⟩ d e) (allB d) (allB e)=false:=by
     cases zb8 (makeC ⟨id,src,s,l,E⟩ d e) (allB d) (allB e)
     ·exact .inr rfl
     ·exact .inl rfl
    refine Or.elim X (fun D=>?_) (fun D=>?_)
    ·rw[D]at u;refine useFo u rfl (zaa _) rfl ?_;rintro _ y J rfl;refine brd (by decide) ?_;exact endFo (.ret (.tup [.agg [.str (root8 (allB d)),.str (root8 (allB e)),.int .i64 1,.slice false 0 b 0 2 8 c],.va (.int .i64 0)])) y rfl (Fz.t K J) (Fz.r y) (.inr ⟨by simp only[zdz,q,i,a,D,qac],_,rfl,KpsAt.up Y J⟩) (zah _) rfl
    ·rw[D]at u;refine useFo u rfl (zaa _) rfl ?_;rintro _ y J rfl;refine bre (by decide) ?_;exact endFo (.ret (.tup [.agg [.str [],.str [],.int .i64 0,.nilsl],.va (.int .i64 100)])) y rfl (Fz.t K J) (Fz.r y) (.inl ⟨by simp only[zdz,q,i,a,D,qac],rfl⟩) (zah _) rfl
end Go.Proofs.YtfnkamphhpldcaaGreatDoor
namespace Sx
open Go Go.RowKit
section
variable {P:Program} {Θ:Tys} {C:Ctx} {ρ:Rho} {st:St} {a:Act} {w:World} {Q:SE->St->Prop}
theorem z6g{x y:Code}(h:WP P x st fun e b=>(match e with
  |.normal=>WP P y b Q
  |.ret=>Q .ret b
  |.exit id=>Q (.exit id) b
  |.panic v=>Q (.panic v) b)):WP P (.seq x y) st Q:=by
 unfold WP at h ⊢;intro C ρ a w D;refine wp_seq (wp_mono (h C ρ a w D) ?_);rintro e g j ⟨i,b,f,d,rfl,c⟩;cases i with
 |normal=>exact d C f g j c
 |ret=>exact⟨.ret,b,f,d,rfl,c⟩
 |exit id=>exact⟨.exit id,b,f,d,rfl,c⟩
 |panic v=>exact⟨.panic v,b,f,d,rfl,c⟩
theorem zxo(hΘ:Θ.Ok P){id:Nat}{i j:Oper}{x:Operand}{ts:Array TypeId}(E:i.guard=none)(m:j.op=.defer ⟨.value x,#[],ts⟩)(G:j.guard=none)(l:j.dst=none)
  (h1:sop P Θ st.t i.op st.h st.nx (fun v h nx=>setd i.dst v { st with h:=h,nx:=nx } fun g=>∃f caps,ev g.t x=.va (.fn (.func f) caps)/\Q .normal { g with d:=(.clo f,caps.map SA.ptr)::g.d }) (fun v h nx=>Q (.panic v) { st with h:=h,nx:=nx })):
  WP P (.region id #[i,j] false) st Q:=by
 unfold WP;intro C ρ a w D;refine wp_region_list ?_;have J:Region.wanted i (yielded #[i,j] a.tmps)=true:=by simp[Region.wanted,E]
 show wpList P #[i,j] (Up C Q) [i,j] a w;unfold wpList;rw[if_pos J];left;refine ziz (ziv hΘ h1 D) ?_ ?_
 ·rintro S R ⟨v,sv,V,O,k,rfl,X,Z,W,o,_,_⟩;obtain⟨g,⟨f,caps,B,I⟩,c⟩:=zjm X o Z W;have K:Region.wanted j (yielded #[i,j] (a.put i.dst v).tmps)=true:=by simp[Region.wanted,G]
  unfold wpList;rw[if_pos K];left;have L:=za7 c x;rw[B]at L;have M:(a.put i.dst v).eval x=.func (.func f) #[] (caps.map fun p=>Value.pointer (some (p.addr k))).toArray:=L.1
  have n:(execOp (a.put i.dst v).eval j).run P R=.ok (.defer (defOf k (.clo f,caps.map SA.ptr))) R:=by
   obtain⟨T,op,type,pos,q,guard⟩:=j;simp only at m;subst m;have U:(caps.map SA.ptr).map (SA.den k)=caps.map fun p=>Value.pointer (some (p.addr k)):=by rw[ji];rfl
   simp[execOp,resolve,M,Deferred.ofValue,defOf,defV,U]
  simp only[Oper.wp,n,Oper.upon];refine⟨.normal,_,k,I,rfl,?_⟩;rw[l]
  have A:∀y∈(Dk.clo f,caps.map SA.ptr)::g.d,∀b∈y.2,b.below g.nx:=by
   intro y hy;rcases ql.1 hy with rfl | hy
   ·intro b s;obtain⟨p,Y,rfl⟩:=jj.1 s;exact L.2 p Y
   ·exact c.dw y hy
  have u:defOf k (Dk.clo f,caps.map SA.ptr)::(a.put i.dst v).defers=((Dk.clo f,caps.map SA.ptr)::g.d).map (defOf k):=by rw[c.df];rfl
  exact{ sat:=c.sat,nt:=c.nt,tm:=c.tm,tw:=c.tw,n0:=c.n0,df:=u,dw:=A }
 ·rintro e S R ⟨v,V,O,k,rfl,I,o⟩;exact⟨.panic v,_,k,I,rfl,o⟩
def endQK(P:Program)(Θ:Tys)(b:List ResultVar)(K:Out->Hp->Nat->Prop):SE->St->Prop:=fun e st=>
 match e with
 |.normal=>(match st.d with
  |(.clo f,asl)::r=>r=[]/\DefWP P f asl st.h st.nx none fun h nx=>sres Θ { st with h:=h,nx:=nx } b fun v=>K (.ret v) h nx
  |_=>False)
 |.ret=>(match st.d with
  |(.clo f,asl)::r=>r=[]/\DefWP P f asl st.h st.nx none fun h nx=>sres Θ { st with h:=h,nx:=nx } b fun v=>K (.ret v) h nx
  |_=>False)
 |.panic _=>False
 |.exit _=>False
theorem zm7(hΘ:Θ.Ok P){fn:Func}{st:St}{A:List ResultVar}(s:fn.results.toList=A){K:Out->Hp->Nat->Prop}{R:Ending->World->Prop}(m:Option Value){f:FuncId}{b:List SA}{r:List (Dk×List SA)}
  (S:st.d=(.clo f,b)::r)(U:r=[])(D:Den C ρ st a w)
  (y:DefWP P f b st.h st.nx m fun h nx=>sres Θ { st with h:=h,nx:=nx } A fun v=>K (.ret v) h nx)
  (M:∀v sv q c p o,K (.ret sv) q c->sv.rel p v->sv.below c->Sat C p q c o->(∀i,i < st.nx->p i=ρ i)->st.nx<=c->R (.returned v) o):
  Leaves P fn a.tmps R a.defers (zq2 m) w:=by
 have k:=D.df;have l:=D.dw;subst U;rw[S]at k l;rw[k];unfold DefWP at y;obtain⟨g,O⟩:=y C ρ w D.sat (l (.clo f,b) (by simp));unfold Enters at g;refine⟨by cases m<;>simp[zq2],.func f,(b.map (SA.den ρ)).toArray,f,(b.map (SA.den ρ)).toArray,rfl,?_,?_⟩
 ·have G:(#[]:Array Value)++(b.map (SA.den ρ)).toArray=(b.map (SA.den ρ)).toArray:=by simp
  simp only[defOf,defV,invoke,G,g]
 ·refine O.mono ?_;rintro e u o ⟨v,q,c,p,rfl,V,T,x,j,n⟩;have E:=D.heap x j n;obtain⟨B,sv,h1,I,J,L⟩:=zf6 (fn:=fn) hΘ E (by rw[s];exact T);show Leaves P fn a.tmps R [] (settle u) o;rw[V];exact⟨B,h1,M B sv q c p o L I J x j n⟩
theorem z2h(hΘ:Θ.Ok P){f:FuncId}{fn:Func}{c:Code}{args:List SV}{h:Hp}{nx:Nat}{K:Out->Hp->Nat->Prop}(W:P.funcs[f]? =some fn)(V:fn.body=some c)(hn:(fn.name== "runtime.NumGoroutine")=false)
  (nt:Nat)(Z:List ResultVar)(ac:fn.ntmps=nt)(B:fn.results.toList=Z)(hl:Nat.ble args.length nt=true)
  (Y:WP P c ⟨[ze1 0 args],h,nx,nx,nt,[]⟩ (endQK P Θ Z K)):zbg P f args h nx K:=by
 unfold zbg;intro C ρ w vs S j O;refine⟨enters_of W V hn,?_⟩;unfold WP at Y
 let x:Ctx:={ C with ρ0:=ρ,n0:=nx }
 have S1:Sat x ρ h nx w:={ S with anch:=fun _ _ _=>rfl,n0:=qg _,n1:=S.pos }
 have X:=zir j;have ab:=nb hl
 have D:Den x ρ ⟨[ze1 0 args],h,nx,nx,nt,[]⟩ { tmps:=vs.toArray++Array.replicate (fn.ntmps - vs.toArray.size) undef,defers:=[] } w:=by
  refine{ sat:=S1,nt:=?_,tm:=?_,tw:=?_,n0:=rfl,df:=rfl,dw:=by simp }
  ·simp;omega
  ·intro n s l;simp only[lget]at l;split at l
   ·rename_i v T;cases l
    obtain⟨u,_,g,h3,_⟩:=zdb (nx:=nx) args vs 0 n s j T;simp only[qay]at g;refine⟨u,?_,h3⟩;rw[qaz (by simpa using(qh.1 g).1)];simpa using g
   ·simp at l
  ·intro n s l;simp only[lget]at l;split at l
   ·rename_i v T;cases l
    obtain⟨u,_,_,_,h4⟩:=zdb (nx:=nx) args vs 0 n s j T;exact O s h4
   ·simp at l
 refine calls_of_wp_defers W V (wp_mono (Y x ρ _ w D) ?_);rintro e a' w' ⟨se,E,G,d,rfl,J⟩
 have y:∀{o:Rho} {g:Hp} {b:Nat} {q:World},Sat x o g b q->Sat C o g b q:=fun p=>{ p with
  anch:=fun i I k=>by rw[p.anch i (y4 I S.n0) k];exact S.anch i I k
  n0:=q5 S.n0 p.n0
  n1:=S.n1 }
 have fin:∀v sv g b o q,K (.ret sv) g b->sv.rel o v->sv.below b->Sat x o g b q->(∀i,i < E.nx->o i=G i)->E.nx<=b->
   ∃out U m G,K out U m/\out.rel G (Ending.returned v)/\Sat C G U m q/\(∀i,i < nx->G i=ρ i)/\nx<=m/\(match out with | .ret s=>s.below m | .panic _=>True):=by
  intro v sv g b o q hk hr M p aa A;exact⟨.ret sv,g,b,o,hk,⟨v,rfl,hr⟩,y p,fun i I=>funext fun k=>p.anch i I k,q5 J.sat.n0 A,M⟩
 cases se with
 |normal=>
  simp only[endQK]at d;split at d
  ·rename_i f2 L r R;exact zm7 hΘ B none R d.1 J d.2 fin
  ·exact d.elim
 |ret=>
  simp only[endQK]at d;split at d
  ·rename_i f2 L r R;exact zm7 hΘ B none R d.1 J d.2 fin
  ·exact d.elim
 |panic v=>exact d.elim
 |exit id=>exact d.elim
end
end Sx
