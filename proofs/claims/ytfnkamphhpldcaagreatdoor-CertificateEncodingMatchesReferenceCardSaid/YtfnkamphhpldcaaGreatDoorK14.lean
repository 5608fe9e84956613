import Derived.Test.YtfnkamphhpldcaaGreatDoorK09
set_option maxHeartbeats 64000000
namespace Go.Proofs.YtfnkamphhpldcaaGreatDoor
open Go Sx Tryz
set_option maxRecDepth 100000
def idx(v:Int):List Int->Nat->Int
 |[],_=>-1
 |x::r,n=>if v=x then n else idx v r (n+1)
theorem Bf(v:Int)(l:List Int)(k:Nat)(h:k < l.length):idx v (l.drop k) k=if v=l[k]then(k:Int)else idx v (l.drop (k+1)) (k+1):=by
 rw[jj h];rfl
theorem Bh(F:Fz)(m:SA)(l:List Int)(v:Int)(p:dX F m l)(D:l.length < 1000000):
  Fo prog F 233 [.va m,.va (.int .i64 v)] (fun o d=>o=.ret (.va (.int .i64 (idx v l 0)))/\d=F):=by
 obtain⟨nil,w,A,y,u,E,rfl,c,i,q,j⟩:=p
 have fin:∀(x:Int) (h:Hp) (nx:Nat),x=idx v l 0->lget h 0=some (.frz F)->
   Cln 1 (FoK F fun o d=>o=.ret (.va (.int .i64 (idx v l 0)))/\d=F) (.ret (.va (.int .i64 x))) h nx:=by
  intro x h nx s n;exact endPu n (Fz.r F) (by rw[s];rfl) rfl
 refine foS func233 ?_;conv=>whnf
 refine aH hΘ (X:={ k:Nat // k<=l.length/\idx v l 0=idx v (l.drop k) k }) (fun k=>[(8,.va (.int .i64 k.1))]) (5::jr 9 10 []) (fz fun _=>F) 1 (fun k=>l.length - k.1) ⟨0,by simp⟩
  (fun e f=>le0 e f rfl (Fz.r F) rfl ⟨rfl,tv⟩) ?_
 rintro⟨k,B,b⟩ e f;refine br (fun g=>?_) (fun g=>?_)
 ·have g:k < l.length:=by simpa using g
  refine⟨Sl.lt c g,⟨by simp,by simpa using g⟩,_,i (Sl.lt c g),_,Sl.at j g,?_⟩;conv=>whnf
  rw[Bf v l k g]at b;refine br (fun a=>?_) (fun a=>?_)
  ·refine fin _ _ _ ?_ rfl;have a:v=l[k]:=by simpa using a
   exact(b.trans (if_pos a)).symm
  ·conv=>whnf
   have a:¬v=l[k]:=by simpa using a
   rw[if_neg a]at b;exact⟨⟨k+1,by omega,b⟩,by show l.length - (k+1) < l.length - k;omega,lr0 e f rfl (Fz.r F) rfl ⟨cnt oo,tv⟩⟩
 ·refine fin _ _ _ ?_ rfl;have g:¬k < l.length:=by simpa using g
  rw[yg oo]at b;exact b.symm
theorem ir(F:Fz)(a:SA)(l:List Int)(v:Int)(b:dX F a l)(i:l.length < 1000000):
  Fo prog F 181 [.va a,.va (.int .i64 v)] (fun o c=>o=.ret (.va (.bool (decide (0<=idx v l 0))))/\c=F):=by
 have h:=Bh F a l v b i;obtain⟨nil,k,n,m,j,p,rfl,d,e,f,g⟩:=b;refine foS func181 ?_;refine usePt h ?_;exact endPu rfl (Fz.r F) rfl rfl
theorem ob{a b:Bool}(h:a=b):outE (.ret (.va (.bool a))) (.ret (.va (.bool b))):=by rw[h];exact aP _
theorem oi{k:IntKind}{a b:Int}(h:a=b):outE (.ret (.va (.int k a))) (.ret (.va (.int k b))):=by rw[h];exact aP _
theorem useP{P:Program}{F:Fz}{f:FuncId}{a args:List SV}{v:SV}{H:Hp}{c:Nat}{K:Out->Hp->Nat->Prop}(g:Pu P f a v)(d:lget H 0=some (.frz F))(b:argsE a (dQ (resP H) args))(e:(a.all SV.z)=true)
    (h:K (.ret v) (lput H 0 (.frz F)) c):za6 P f args H c K:=usePu (g F) d b e h
theorem fv(n b a:Int):Pu prog 178 [.va (.int .i64 n),.va (.int .i64 b),.va (.int .i64 a)] (.va (.bool (decide (b<=n)&&decide (n<=a)))):=by
  intro F;refine foS func178 ?_;refine⟨fun g=>?_,fun g=>?_⟩
  · conv=>whnf
    refine endPu rfl (Fz.r F) (ob ?_) rfl;rw[g,qab]
  · conv=>whnf
    refine endPu rfl (Fz.r F) (ob ?_) rfl;rw[g,jv]
theorem mM(n:Int):Pu prog 186 [.va (.int .i64 n)] (.va (.bool (decide (n=0)))):=by
  intro F;refine foS func186 ?_;exact endPu rfl (Fz.r F) rfl rfl
theorem zh(n:Int):Pu prog 190 [.va (.int .i64 n)] (.va (.bool (decide (n=10)||decide (n=100)||decide (n=1000)))):=by
  intro F;refine foS func190 ?_;refine⟨fun g=>?_,fun g=>?_⟩
  · conv=>whnf
    refine⟨fun a=>?_,fun a=>?_⟩
    · conv=>whnf
      refine endPu rfl (Fz.r F) (ob ?_) rfl;rw[g,a,qa6,qa6]
    · conv=>whnf
      refine endPu rfl (Fz.r F) (ob ?_) rfl;rw[g,a];rfl
  · conv=>whnf
    refine endPu rfl (Fz.r F) (ob ?_) rfl;rw[g];rfl
theorem zi(n:Int):Pu prog 192 [.va (.int .i64 n)] (.va (.bool (decide (0<=n)&&decide (n<=6)))):=by
  intro F;refine foS func192 ?_;refine usePs (fv n 0 6 F) ?_;exact endPu rfl (Fz.r F) rfl rfl
abbrev fp(b:Nat):Pl:=⟨0,b,0,0,0⟩
theorem mw(F:Fz)(g:Nat):Fo prog F 187 [.va (.fn (.func g) [])] (fun o a=>∃b,o=.ret (.va (.fn (.func 246) [fp b]))/\a b=some (.cells 262 [.fn (.func g) []])):=by
  refine foS func187 ?_;refine dZ 1 (fun _=>.cells 262 [.fn (.func g) []]) ?_;intro b a c d;exact endFo (.ret (.va (.fn (.func 246) [fp (b 0)]))) a rfl c (Fz.r a) ⟨b 0,rfl,d 0 rfl⟩ rfl rfl
def im(b:Nat->Nat):List SA:=
  [.nilsl,.nilfn,.nilfn,
   .slice false 0 (b 0) 0 1 1 1,.fn (.func 186) [],.fn (.func 246) [fp (b 6)],
   .slice false 0 (b 1) 0 1 1 1,.fn (.func 186) [],.fn (.func 246) [fp (b 7)],
   .slice false 0 (b 2) 0 1 2 2,.fn (.func 190) [],.fn (.func 246) [fp (b 8)],
   .slice false 0 (b 3) 0 1 1 1,.fn (.func 192) [],.fn (.func 246) [fp (b 9)],
   .slice false 0 (b 4) 0 1 2 2,.fn (.func 186) [],.fn (.func 194) [],
   .slice false 0 (b 5) 0 1 8 8,.fn (.func 186) [],.fn (.func 195) []]
def eI(l:List Int):SB:=.arr 3 1 (l.map encI) l.length
def eF(g:Nat):SB:=.cells 262 [.fn (.func g) []]
structure KindsAt(F:Fz)(b:Nat->Nat):Prop where
  h0:F (b 0)=some (eI [1])
  h1:F (b 1)=some (eI [1])
  h2:F (b 2)=some (eI [3,5])
  h3:F (b 3)=some (eI [2])
  h4:F (b 4)=some (eI [6,7])
  h5:F (b 5)=some (eI [1,2,3,4,5,6,7,8])
  h6:F (b 6)=some (eF 188)
  h7:F (b 7)=some (eF 189)
  h8:F (b 8)=some (eF 191)
  h9:F (b 9)=some (eF 193)
theorem KindsAt.mono{F c:Fz}{b:Nat->Nat}(h:KindsAt F b)(a:Fz.le F c):KindsAt c b:=
  ⟨a _ _ h.h0,a _ _ h.h1,a _ _ h.h2,a _ _ h.h3,a _ _ h.h4,a _ _ h.h5,a _ _ h.h6,a _ _ h.h7,a _ _ h.h8,a _ _ h.h9⟩
theorem wy(F:Fz):Fo prog F 130 [] (fun o y=>∃b,o=.ret (.agg (im b))/\KindsAt y b):=by
  refine foS func130 ?_;refine useFs (mw F 188) ?_;rintro _ F1 l1 ⟨I,rfl,U⟩;refine useFs (mw F1 189) ?_;rintro _ A k ⟨J,rfl,V⟩;refine useFs (mw A 191) ?_;rintro _ D l ⟨K,rfl,W⟩;refine useFs (mw D 193) ?_;rintro _ F4 m ⟨L,rfl,X⟩;refine dZ 2 (fun _=>eI [1]) ?_;intro M G0 p Y;refine dZ 3 (fun _=>eI [1]) ?_;intro O G1 q Z;refine dZ 4 (fun _=>eI [3,5]) ?_;intro Q G2 s k2;refine dZ 5 (fun _=>eI [2]) ?_;intro R G3 u k3;refine dZ 6 (fun _=>eI [6,7]) ?_;intro S G4 w k4;refine dZ 7 (fun _=>eI [1,2,3,4,5,6,7,8]) ?_;intro T E x k5;refine endFo (.ret (.agg (im fun n=>match n with | 0=>M 0 | 1=>O 0 | 2=>Q 0 | 3=>R 0 | 4=>S 0 | 5=>T 0 | 6=>I | 7=>J | 8=>K | _=>L))) E rfl ?_ (Fz.r _) ⟨_,rfl,?_⟩ rfl rfl
  · exact fun b B h=>x _ _ (w _ _ (u _ _ (s _ _ (q _ _ (p _ _ (m _ _ (l _ _ (k _ _ (l1 _ _ h)))))))))
  · have a:=x;have c:=Fz.t w a;have d:=Fz.t u c;have e:=Fz.t s d;have f:=Fz.t q e;have g:=Fz.t p f
    have i:=Fz.t m g;have j:=Fz.t l i;have G:=Fz.t k j;exact⟨f _ _ (Y 0 rfl),e _ _ (Z 0 rfl),d _ _ (k2 0 rfl),c _ _ (k3 0 rfl),a _ _ (k4 0 rfl),k5 0 rfl,G _ _ U,j _ _ V,i _ _ W,g _ _ X⟩
theorem not_t{b:Bool}(h:(!b)=true):b=false:=by cases b<;>simp_all
def props(k:Int):List Int:=
 if k=1 then [1]else if k=2 then [1]else if k=3 then [3,5]else if k=4 then [2]else if k=5 then [6,7]else [1,2,3,4,5,6,7,8]
def numOk(k n:Int):Bool:=
 if k=3 then decide (n=10)||decide (n=100)||decide (n=1000)else if k=4 then decide (0<=n)&&decide (n<=6)else decide (n=0)
def bA(p:Int)(s:Stp):Bool:=(decide (1<=s.1)&&decide (s.1<=6))&&(decide (0<=idx p (props s.1) 0)&&numOk s.1 s.2)
theorem iV{F:Fz}{b:Nat}(l:List Int)(h:F b=some (eI l)):dX F (.slice false 0 b 0 1 l.length l.length) l:=Sl.new h
theorem Ah(F:Fz)(f i:Nat)(b:Nat->Nat)(p k n:Int)(a:F f=some (.cells 206 (im b)))(c:KindsAt F b)(d:F i=some (.cells 3 [.int .i64 p])):
  Fo prog F 180 [.agg [.int .i64 k,.int .i64 n],.va (.ptr (fp f)),.va (.ptr (fp i))] (fun o e=>o=.ret (.va (.bool (!bA p (k,n))))/\e=F):=by
 refine foS func180 ?_;refine draS [(0,true),(1,true),(2,false),(3,true),(4,true),(5,true),(6,true),(7,true),(8,true),(9,true),(10,true),(11,false),(12,true),(13,true),(14,true),(15,true),(16,true),(17,true),(18,true),(19,true),(20,true),(21,true),(22,false),(23,true),(24,true),(25,true)] [1] ?_;refine⟨rfl,?_⟩;refine usePs (fv k 1 6 F) ?_;refine⟨Fz.r F,rfl,?_⟩;conv=>whnf
 have fin:∀(v:Bool) (h:Hp) (nx:Nat),(!bA p (k,n))=v->lget h 0=some (.frz F)->Cln 1 (FoK F fun o e=>o=.ret (.va (.bool (!bA p (k,n))))/\e=F) (.ret (.va (.bool v))) h nx:=by
  intro v h nx q l;exact endPu l (Fz.r F) (ob q) rfl
 refine⟨fun g=>?_,fun g=>?_⟩
 ·have j:(decide (1<=k)&&decide (k<=6))=true:=by simpa using g
  have m:k=1\/k=2\/k=3\/k=4\/k=5\/k=6:=by simp at j;omega
  clear g j;rcases m with rfl | rfl | rfl | rfl | rfl | rfl
  ·refine⟨rfl,by decide,rfl,_,a,rfl,_,d,?_⟩;refine usePs (ir F _ [1] p (iV _ c.h0) dd) ?_;refine⟨Fz.r F,rfl,fun g=>?_,fun g=>?_⟩
   ·refine⟨rfl,by decide,rfl,_,a,rfl,?_⟩;refine usePs (mM n F) ?_;refine⟨Fz.r F,rfl,?_⟩;refine fin _ _ _ ?_ rfl;have g:decide (0<=idx p [1] 0)=true:=by simpa using g
    simp[bA,props,numOk,g]
   ·refine fin _ _ _ ?_ rfl;have g:decide (0<=idx p [1] 0)=false:=by simpa using g
    simp[bA,props,g]
  ·refine⟨rfl,by decide,rfl,_,a,rfl,_,d,?_⟩;refine usePs (ir F _ [1] p (iV _ c.h1) dd) ?_;refine⟨Fz.r F,rfl,fun g=>?_,fun g=>?_⟩
   ·refine⟨rfl,by decide,rfl,_,a,rfl,?_⟩;refine usePs (mM n F) ?_;refine⟨Fz.r F,rfl,?_⟩;refine fin _ _ _ ?_ rfl;have g:decide (0<=idx p [1] 0)=true:=by simpa using g
    simp[bA,props,numOk,g]
   ·refine fin _ _ _ ?_ rfl;have g:decide (0<=idx p [1] 0)=false:=by simpa using g
    simp[bA,props,g]
  ·refine⟨rfl,by decide,rfl,_,a,rfl,_,d,?_⟩;refine usePs (ir F _ [3,5] p (iV _ c.h2) dd) ?_;refine⟨Fz.r F,rfl,fun g=>?_,fun g=>?_⟩
   ·refine⟨rfl,by decide,rfl,_,a,rfl,?_⟩;refine usePs (zh n F) ?_;refine⟨Fz.r F,rfl,?_⟩;refine fin _ _ _ ?_ rfl;have g:decide (0<=idx p [3,5] 0)=true:=by simpa using g
    simp[bA,props,numOk,g]
   ·refine fin _ _ _ ?_ rfl;have g:decide (0<=idx p [3,5] 0)=false:=by simpa using g
    simp[bA,props,g]
  ·refine⟨rfl,by decide,rfl,_,a,rfl,_,d,?_⟩;refine usePs (ir F _ [2] p (iV _ c.h3) dd) ?_;refine⟨Fz.r F,rfl,fun g=>?_,fun g=>?_⟩
   ·refine⟨rfl,by decide,rfl,_,a,rfl,?_⟩;refine usePs (zi n F) ?_;refine⟨Fz.r F,rfl,?_⟩;refine fin _ _ _ ?_ rfl;have g:decide (0<=idx p [2] 0)=true:=by simpa using g
    simp[bA,props,numOk,g]
   ·refine fin _ _ _ ?_ rfl;have g:decide (0<=idx p [2] 0)=false:=by simpa using g
    simp[bA,props,g]
  ·refine⟨rfl,by decide,rfl,_,a,rfl,_,d,?_⟩;refine usePs (ir F _ [6,7] p (iV _ c.h4) dd) ?_;refine⟨Fz.r F,rfl,fun g=>?_,fun g=>?_⟩
   ·refine⟨rfl,by decide,rfl,_,a,rfl,?_⟩;refine usePs (mM n F) ?_;refine⟨Fz.r F,rfl,?_⟩;refine fin _ _ _ ?_ rfl;have g:decide (0<=idx p [6,7] 0)=true:=by simpa using g
    simp[bA,props,numOk,g]
   ·refine fin _ _ _ ?_ rfl;have g:decide (0<=idx p [6,7] 0)=false:=by simpa using g
    simp[bA,props,g]
  ·refine⟨rfl,by decide,rfl,_,a,rfl,_,d,?_⟩;refine usePs (ir F _ [1,2,3,4,5,6,7,8] p (iV _ c.h5) dd) ?_;refine⟨Fz.r F,rfl,fun g=>?_,fun g=>?_⟩
   ·refine⟨rfl,by decide,rfl,_,a,rfl,?_⟩;refine usePs (mM n F) ?_;refine⟨Fz.r F,rfl,?_⟩;refine fin _ _ _ ?_ rfl;have g:decide (0<=idx p [1,2,3,4,5,6,7,8] 0)=true:=by simpa using g
    simp[bA,props,numOk,g]
   ·refine fin _ _ _ ?_ rfl;have g:decide (0<=idx p [1,2,3,4,5,6,7,8] 0)=false:=by simpa using g
    simp[bA,props,g]
 ·refine fin _ _ _ ?_ rfl;have g:(decide (1<=k)&&decide (k<=6))=false:=not_t g;simp only[bA,g,jv,Bool.not_false]
def idxF(p:Int):List Stp->Nat->Int
 |[],_=>-1
 |x::r,n=>if bA p x=false then n else idxF p r (n+1)
theorem yX(p:Int)(l:List Stp)(k:Nat)(h:k < l.length):idxF p (l.drop k) k=if bA p l[k]=false then(k:Int)else idxF p (l.drop (k+1)) (k+1):=by
 rw[jj h];rfl
theorem wT(p:Int):∀(l:List Stp) (n:Nat),(0<=idxF p l n)↔l.all (bA p)=false
 |[],n=>by simp[idxF]
 |x::r,n=>by
  simp only[idxF,qb4];split
  ·rename_i h;simp[h]
  ·rename_i h;have:bA p x=true:=by simpa using h
   rw[wT p r (n+1),this];simp
theorem C0(F:Fz)(u:SA)(l:List Stp)(f i:Nat)(b:Nat->Nat)(p:Int)(D:aW F u l)(O:l.length < 1000000)(A:F f=some (.cells 206 (im b)))(y:KindsAt F b)(B:F i=some (.cells 3 [.int .i64 p])):
  Fo prog F 232 [.va u,.va (.fn (.func 180) [fp f,fp i])] (fun o e=>o=.ret (.va (.int .i64 (idxF p l 0)))/\e=F):=by
 obtain⟨nil,J,L,K,I,Q,rfl,d,n,E,q⟩:=D
 have fin:∀(x:Int) (h:Hp) (nx:Nat),idxF p l 0=x->lget h 0=some (.frz F)->
   Cln 1 (FoK F fun o e=>o=.ret (.va (.int .i64 (idxF p l 0)))/\e=F) (.ret (.va (.int .i64 x))) h nx:=by
  intro x h nx G w;exact endPu w (Fz.r F) (oi G) rfl
 refine foS func232 ?_;conv=>whnf
 refine aH hΘ (X:={ k:Nat // k<=l.length/\idxF p l 0=idxF p (l.drop k) k }) (fun k=>[(8,.va (.int .i64 k.1))]) (5::jr 9 10 []) (fz fun _=>F) 1 (fun k=>l.length - k.1) ⟨0,by simp⟩
  (fun j m=>le0 j m rfl (Fz.r F) rfl ⟨rfl,tv⟩) ?_
 rintro⟨k,M,c⟩ j m;refine br (fun g=>?_) (fun g=>?_)
 ·have g:k < l.length:=by simpa using g
  refine⟨Sl.lt d g,⟨by simp,by simpa using g⟩,_,n (Sl.lt d g),_,Sl.at q g,?_⟩;refine usePs (Ah F f i b p l[k].1 l[k].2 A y B) ?_;conv=>whnf
  rw[yX p l k g]at c;refine br (fun a=>?_) (fun a=>?_)
  ·conv=>whnf
   have a:bA p l[k]=false:=not_t a;exact fin _ _ _ (c.trans (if_pos a)) rfl
  ·conv=>whnf
   have a:¬bA p l[k]=false:=by
    intro h;have s:(!bA p l[k])=false:=a;rw[h]at s;cases s
   rw[if_neg a]at c;exact⟨⟨k+1,by omega,c⟩,by show l.length - (k+1) < l.length - k;omega,lr0 j m rfl (Fz.r F) rfl ⟨cnt oo,tv⟩⟩
 ·conv=>whnf
  have g:¬k < l.length:=by simpa using g
  rw[yg oo]at c;exact fin _ _ _ c rfl
theorem CG(F:Fz)(d:SA)(l:List Stp)(a c:Nat)(b:Nat->Nat)(p:Int)(e:aW F d l)(u:l.length < 1000000)(j:F a=some (.cells 206 (im b)))(i:KindsAt F b)(k:F c=some (.cells 3 [.int .i64 p])):
  Fo prog F 179 [.va d,.va (.fn (.func 180) [fp a,fp c])] (fun o f=>o=.ret (.va (.bool (!l.all (bA p))))/\f=F):=by
 have h:=C0 F d l a c b p e u j i k;obtain⟨nil,x,A,y,w,D,rfl,m,n,q,s⟩:=e;refine foS func179 ?_;refine usePs h ?_;refine endPu rfl (Fz.r F) (ob ?_) rfl;have:=wT p l 0;cases h:l.all (bA p)with
 |true=>rw[h]at this;simp;have B:¬(0<=idxF p l 0):=fun g=>by have:=this.1 g;cases this
        omega
 |false=>rw[h]at this;simp;exact this.2 rfl
def aN(p:Int)(l:List Stp):Bool:=(decide (1<=p)&&decide (p<=8))&&(decide (l.length<=64)&&l.all (bA p))
theorem lT(F:Fz)(m:SA)(l:List Stp)(p:Int)(q:aW F m l)(G:l.length < 1000000):
  Fo prog F 128 [.va (.int .i64 p),.va m] (fun o d=>o=.ret (.va (.bool (aN p l)))/\d=F):=by
 have h:=fun d (c:Fz.le F d) i j b=>CG d m l i j b p (q.mono c) G
 obtain⟨nil,L,O,M,K,Q,rfl,A,B,D,E⟩:=q
 have fin:∀(F1:Fz) (x:Bool) (h:Hp) (nx:Nat),aN p l=x->lget h 0=some (.frz F1)->Fz.le F F1->
   Cln 1 (FoK F fun o d=>o=.ret (.va (.bool (aN p l)))/\d=F) (.ret (.va (.bool x))) h nx:=by
  intro F1 x h nx I s c;exact endPu s c (ob I) rfl
 refine foS func128 ?_;refine useFs (wy F) ?_;rintro _ F1 e ⟨b,rfl,u⟩;refine usePs (fv p 1 8 F1) ?_;refine⟨fun g=>?_,fun g=>?_⟩
 ·refine⟨fun a=>?_,fun a=>?_⟩
  ·refine bS 1 (fun _=>.cells 3 [.int .i64 p]) ?_;intro j J k y;refine bS 2 (fun _=>.cells 206 (im b)) ?_;intro i n f w;refine usePs (h n (Fz.t e (Fz.t k f)) (i 0) (j 0) b (w 0 rfl) (u.mono (Fz.t k f)) (f _ _ (y 0 rfl))) ?_;refine fin n _ _ _ ?_ rfl (Fz.t e (Fz.t k f));have a:decide (l.length<=64)=true:=by simp at a ⊢;omega
   simp[aN,g,a]
  ·refine fin F1 _ _ _ ?_ rfl e;have a:decide (l.length<=64)=false:=by simp at a ⊢;omega
   simp only[aN,a,jv,yq]
 ·refine fin F1 _ _ _ ?_ rfl e;simp only[aN,g,jv]
theorem tV(n b a:Int):Pu prog 116 [.va (.int .i64 n),.va (.int .i64 b),.va (.int .i64 a)] (.va (.bool (decide (b<=n)&&decide (n<=a)))):=by
 intro F;refine foS func116 ?_;refine⟨fun g=>?_,fun g=>?_⟩
 ·refine endPu rfl (Fz.r F) (ob ?_) rfl;simp at g;simp[g]
 ·refine endPu rfl (Fz.r F) (ob ?_) rfl;simp at g;simp;omega
theorem DP(p:Int):Pu prog 117 [.va (.int .i64 p)] (.va (.bool (decide (p=3)||decide (p=5)))):=by
 intro F;refine foS func117 ?_;refine⟨fun g=>?_,fun g=>?_⟩
 ·refine endPu rfl (Fz.r F) (ob ?_) rfl;rw[g,qa6]
 ·refine endPu rfl (Fz.r F) (ob ?_) rfl;rw[g,Bool.true_or]
def pickI(c n:Int):Int:=(if c < 0 then -(c+1)else c).tmod n
def i64(c:Int):Prop:=-9223372036854775808<=c/\c<=9223372036854775807
theorem dP(c n:Int)(a:0 < n)(b:i64 c):0<=pickI c n/\pickI c n < n:=by
 unfold pickI;unfold i64 at b;split
 ·exact⟨qcs _ oo,qb9 _ a⟩
 ·exact⟨qcs _ oo,qb9 _ a⟩
theorem idx1(p:Int):decide (0<=idx p [1] 0)=decide (p=1):=by
 unfold idx;by_cases h:p=1<;>simp[h,idx]
theorem idx2(p:Int):decide (0<=idx p [2] 0)=decide (p=2):=by
 unfold idx;by_cases h:p=2<;>simp[h,idx]
theorem idx35(p:Int):decide (0<=idx p [3,5] 0)=(decide (p=3)||decide (p=5)):=by
 by_cases h:p=3
 ·simp[idx,h]
 ·by_cases a:p=5
  ·simp[idx,a]
  ·simp[idx,h,a]
theorem idx67(p:Int):decide (0<=idx p [6,7] 0)=(decide (p=6)||decide (p=7)):=by
 by_cases h:p=6
 ·simp[idx,h]
 ·by_cases a:p=7
  ·simp[idx,a]
  ·simp[idx,h,a]
theorem idx18(p:Int)(h:1<=p/\p<=8):decide (0<=idx p [1,2,3,4,5,6,7,8] 0)=true:=by
 have:p=1\/p=2\/p=3\/p=4\/p=5\/p=6\/p=7\/p=8:=by omega
 rcases this with rfl | rfl | rfl | rfl | rfl | rfl | rfl | rfl<;>decide
theorem ych{α:Type}(f:α->Bool)(l:List α)(k:Nat)(g:k < l.length)(h:f l[k]=false):l.all f=false:=
 List.all_eq_false.2 ⟨l[k],qx g,by simp[h]⟩
theorem Cx{α:Type}(f:α->Bool)(l:List α)(k:Nat)(g:k < l.length)(a:(l.take k).all f=true)(h:f l[k]=true):(l.take (k+1)).all f=true:=by
 rw[qf g,List.all_append,a];simp[h]
theorem zR(F:Fz)(B:SA)(l:List Stp)(p:Int)(E:aW F B l)(O:l.length < 1000000):
  Fo prog F 53 [.va (.int .i64 p),.va B] (fun o q=>o=.ret (.va (.bool (aN p l)))/\q=F):=by
 obtain⟨nil,J,L,K,I,Q,rfl,a,c,u,d⟩:=E
 have fin:∀(x:Bool) (h:Hp) (nx:Nat),aN p l=x->lget h 0=some (.frz F)->
   Cln 1 (FoK F fun o q=>o=.ret (.va (.bool (aN p l)))/\q=F) (.ret (.va (.bool x))) h nx:=by
  intro x h nx G D;exact endPu D (Fz.r F) (ob G) rfl
 refine foS func53 ?_;refine usePs (tV p 1 8 F) ?_;refine⟨fun g=>?_,fun g=>?_⟩
 ·refine br (fun s=>?_) (fun s=>?_)
  ·refine fin _ _ _ ?_ rfl;simp at s;simp[aN];omega
  ·conv=>whnf
   have w:1<=p/\p<=8:=by simpa using g
   have e:l.length<=64:=by simp at s;omega
   have y:aN p l=l.all (bA p):=by simp[aN,w,e]
   refine aH hΘ (X:={ k:Nat // k<=l.length/\(l.take k).all (bA p)=true }) (fun k=>[(5,.va (.int .i64 k.1))]) (6::7::jr 16 67 []) (fz fun _=>F) 1 (fun k=>l.length - k.1) ⟨0,by simp⟩
    (fun j m=>le0 j m rfl (Fz.r F) rfl ⟨rfl,tv⟩) ?_
   rintro⟨k,M,n⟩ j m;refine br (fun i=>?_) (fun i=>?_)
   ·have g:k < l.length:=by simpa using i
    clear i;have A:=ych (bA p) l k g;have f:=Cx (bA p) l k g n;have b:=Sl.at d g;refine⟨Sl.lt a g,⟨by simp,by simpa using g⟩,_,c (Sl.lt a g),_,b,Sl.lt a g,⟨by simp,by simpa using g⟩,_,c (Sl.lt a g),_,b,?_⟩
    repeat' ((conv=>whnf);first
     |with_reducible refine br (fun _=>?_) (fun _=>?_)
     |with_reducible refine⟨fun _=>?_,fun _=>?_⟩
     |refine useP (tV _ _ _) rfl (jQ _) rfl ?_
     |refine useP (DP _) rfl (jQ _) rfl ?_)
    all_goals(conv=>whnf)
    all_goals first
     |(refine fin _ _ _ (y.trans (A ?_)) rfl)
     |(refine⟨⟨k+1,by omega,f ?_⟩,by show l.length - (k+1) < l.length - k;omega,lr0 j m rfl (Fz.r F) rfl ⟨cnt oo,tv⟩⟩)
     |skip
    all_goals clear j m A f fin
    all_goals clear a c u d b n y
    all_goals simp_all[bA,props,numOk,idx1,idx2,idx35,idx67,idx18]
    all_goals omega
   ·refine fin _ _ _ ?_ rfl;have g:¬k < l.length:=by simpa using i
    rw[ql oo]at n;rw[y,n]
 ·refine fin _ _ _ ?_ rfl;have g:(decide (1<=p)&&decide (p<=8))=false:=not_t g;simp only[aN,g,jv]
def mn(l:List Int):Int:=match l with
 |[]=>0
 |x::r=>r.foldl (fun m x=>if x < m then x else m) x
def mx(l:List Int):Int:=match l with
 |[]=>0
 |x::r=>r.foldl (fun m x=>if x>m then x else m) x
theorem qC(l:List Int)(x:Int):mn (l++[x])=if l=[]then x else if x < mn l then x else mn l:=by
 cases l with
 |nil=>simp[mn]
 |cons a r=>simp only[mn,yd,qbd,qai,qbt];rw[if_neg (show¬(a::r=[])by simp)];rfl
theorem qD(l:List Int)(x:Int):mx (l++[x])=if l=[]then x else if x>mx l then x else mx l:=by
 cases l with
 |nil=>simp[mx]
 |cons a r=>simp only[mx,yd,qbd,qai,qbt];rw[if_neg (show¬(a::r=[])by simp)];rfl
theorem rF{α:Type}{l:List α}{k:Nat}(h1:1<=k)(a:k<=l.length):¬l.take k=[]:=by
 intro h;have:=congrArg List.length h;rw[qk]at this;simp only[qu]at this;omega
theorem ei{k:IntKind}{a b:Int}(h:a=b):SA.int k a=SA.int k b:=by rw[h]
theorem ydg(F:Fz)(i:SA)(l:List Int)(m:dX F i l)(A:l.length < 1000000)(b:0 < l.length):
  Fo prog F 199 [.va i] (fun o j=>o=.ret (.va (.int .i64 (mx l)))/\j=F):=by
 obtain⟨w,q,u,s,p,x,rfl,a,c,n,d⟩:=m;refine foS func199 ?_;refine br (fun g=>?_) (fun g=>?_)
 ·simp at g;omega
 ·refine⟨Sl.lt a b,⟨by simp,by simpa using b⟩,_,c (Sl.lt a b),_,Sl.at d b,?_⟩;conv=>whnf
  have h1:mx (l.take 1)=l[0]:=by
   rw[qf b];simp[mx]
  refine aH hΘ (X:={ k:Nat // 1<=k/\k<=l.length }) (fun k=>[(3,.va (.int .i64 (mx (l.take k.1)))),(4,.va (.int .i64 k.1))]) (jr 12 12 []) (fz fun _=>F) 1 (fun k=>l.length - k.1) ⟨1,by omega⟩
   (fun e f=>le0 e f rfl (Fz.r F) rfl ⟨ei h1,rfl,tv⟩) ?_
  rintro⟨k,h,y⟩ e f;refine br (fun g=>?_) (fun g=>?_)
  ·have g:k < l.length:=by simpa using g
   refine⟨Sl.lt a g,⟨by simp,by simpa using g⟩,_,c (Sl.lt a g),_,Sl.at d g,⟨k+1,by omega,by omega⟩,by show l.length - (k+1) < l.length - k;omega,lr0 e f rfl (Fz.r F) rfl ⟨ei ?_,cnt oo,tv⟩⟩;show mx (l.take (k+1))=_;rw[qf g,qD,if_neg (rF h y)]
  ·conv=>whnf
   have g:¬k < l.length:=by simpa using g
   refine endPu rfl (Fz.r F) (oi ?_) rfl;show mx l=mx (l.take k);rw[ql oo]
theorem ydh(F:Fz)(i:SA)(l:List Int)(m:dX F i l)(A:l.length < 1000000)(b:0 < l.length):
  Fo prog F 200 [.va i] (fun o j=>o=.ret (.va (.int .i64 (mn l)))/\j=F):=by
 obtain⟨w,q,u,s,p,x,rfl,a,c,n,d⟩:=m;refine foS func200 ?_;refine br (fun g=>?_) (fun g=>?_)
 ·simp at g;omega
 ·refine⟨Sl.lt a b,⟨by simp,by simpa using b⟩,_,c (Sl.lt a b),_,Sl.at d b,?_⟩;conv=>whnf
  have h1:mn (l.take 1)=l[0]:=by
   rw[qf b];simp[mn]
  refine aH hΘ (X:={ k:Nat // 1<=k/\k<=l.length }) (fun k=>[(3,.va (.int .i64 (mn (l.take k.1)))),(4,.va (.int .i64 k.1))]) (jr 12 12 []) (fz fun _=>F) 1 (fun k=>l.length - k.1) ⟨1,by omega⟩
   (fun e f=>le0 e f rfl (Fz.r F) rfl ⟨ei h1,rfl,tv⟩) ?_
  rintro⟨k,h,y⟩ e f;refine br (fun g=>?_) (fun g=>?_)
  ·have g:k < l.length:=by simpa using g
   refine⟨Sl.lt a g,⟨by simp,by simpa using g⟩,_,c (Sl.lt a g),_,Sl.at d g,⟨k+1,by omega,by omega⟩,by show l.length - (k+1) < l.length - k;omega,lr0 e f rfl (Fz.r F) rfl ⟨ei ?_,cnt oo,tv⟩⟩;show mn (l.take (k+1))=_;rw[qf g,qC,if_neg (rF h y)]
  ·conv=>whnf
   have g:¬k < l.length:=by simpa using g
   refine endPu rfl (Fz.r F) (oi ?_) rfl;show mn l=mn (l.take k);rw[ql oo]
theorem kp(F:Fz)(u w:SA)(a b:List Stp)(A:aW F u a)(L:aW F w b)(Z:a.length < 1000000):
  Fo prog F 63 [.va u,.va w] (fun o i=>o=.ret (.va (.bool (decide (a=b))))/\i=F):=by
 obtain⟨J,E,I,G,D,K,rfl,e,m,B,n⟩:=A;obtain⟨T,Q,S,R,O,U,rfl,f,p,M,q⟩:=L
 have fin:∀(v:Bool) (h:Hp) (nx:Nat),v=decide (a=b)->lget h 0=some (.frz F)->
   Cln 1 (FoK F fun o i=>o=.ret (.va (.bool (decide (a=b))))/\i=F) (.ret (.va (.bool v))) h nx:=by
  intro v h nx V x;exact endPu x (Fz.r F) (by rw[V];rfl) rfl
 refine foS func63 ?_;refine br (fun g=>?_) (fun g=>?_)
 ·refine fin _ _ _ ?_ rfl;have:¬a=b:=by rintro rfl;simp at g
  simp[this]
 ·have W:a.length=b.length:=neq_f g
  conv=>whnf
  refine aH hΘ (X:={ k:Nat // k<=a.length/\a.take k=b.take k }) (fun k=>[(13,.va (.int .i64 k.1))]) (4::5::jr 14 12 []) (fz fun _=>F) 1 (fun k=>a.length - k.1) ⟨0,by simp⟩
   (fun j l=>le0 j l rfl (Fz.r F) rfl ⟨rfl,tv⟩) ?_
  rintro⟨k,Y,s⟩ j l;refine br (fun g=>?_) (fun g=>?_)
  ·have g:k < a.length:=by simpa using g
   have d:k < b.length:=by omega
   refine draS [(0,true),(1,true),(2,true),(3,true),(4,true),(5,true),(6,true),(7,true),(8,true)] [] ?_;refine⟨Sl.lt e g,⟨by simp,by simpa using g⟩,rfl,_,m (Sl.lt e g),_,Sl.at n g,Sl.lt f d,⟨by simp,by simpa using d⟩,rfl,_,p (Sl.lt f d),_,Sl.at q d,_,agg50 _ _ _ _,?_⟩;refine br (fun c=>?_) (fun c=>?_)
   ·refine fin _ _ _ ?_ rfl;have:¬a=b:=by rintro rfl;simp at c
    simp[this]
   ·refine⟨⟨k+1,by omega,?_⟩,by show a.length - (k+1) < a.length - k;omega,lr0 j l rfl (Fz.r F) rfl ⟨cnt oo,tv⟩⟩
    have y:a[k]=b[k]:=by
     simp at c;exact Prod.ext c.1 c.2
    rw[qf g,qf d,s,y]
  ·refine fin _ _ _ ?_ rfl;have g:¬k < a.length:=by simpa using g
   have h1:a=b:=by
    rw[ql oo,ql oo]at s;exact s
   simp[h1]
def sel(κ:Int)(l:List Stp):List Int:=(l.filter fun s=>decide (s.1=κ)).map (·.2)
theorem ry(κ:Int)(l:List Stp)(k:Nat)(g:k < l.length)(h:l[k].1=κ):sel κ (l.take (k+1))=sel κ (l.take k)++[l[k].2]:=by
 rw[qf g,sel,qc0,qo];simp[sel,h]
theorem sD(κ:Int)(l:List Stp)(k:Nat)(g:k < l.length)(h:¬l[k].1=κ):sel κ (l.take (k+1))=sel κ (l.take k):=by
 rw[qf g,sel,qc0,qo];simp[sel,h]
theorem nC(κ:Int)(l:List Stp):(sel κ l).length<=l.length:=by
 unfold sel;rw[qa];exact qan _ _
theorem AR(F:Fz)(n:SA)(l:List Stp)(κ:Int)(q:aW F n l)(E:l.length < 1000000):
  Fo prog F 133 [.va n,.va (.int .i64 κ)] (fun o p=>o=.ret (.tup [.va (.int .i64 (sel κ l).length),.va (.int .i64 (mn (sel κ l))),.va (.int .i64 (mx (sel κ l)))])/\p=F):=by
 obtain⟨y,u,x,w,s,A,rfl,a,b,h,c⟩:=q;refine foS func133 ?_;conv=>whnf
 refine aH hΘ (X:={ k:Nat // k<=l.length }) (fun k=>[(7,.va (.int .i64 (sel κ (l.take k.1)).length)),(8,.va (.int .i64 (mn (sel κ (l.take k.1))))),(9,.va (.int .i64 (mx (sel κ (l.take k.1))))),(10,.va (.int .i64 k.1))]) (jr 11 47 []) (fz fun _=>F) 1 (fun k=>l.length - k.1) ⟨0,by simp⟩
  (fun e f=>le0 e f rfl (Fz.r F) rfl ⟨rfl,rfl,rfl,rfl,tv⟩) ?_
 rintro⟨k,D⟩ e f;refine br (fun d=>?_) (fun d=>?_)
 ·have g:k < l.length:=by simpa using d
  clear d;have B:=nC κ (l.take k);have j:(l.take k).length=k:=by simp;omega
  repeat' ((conv=>whnf);first
   |with_reducible refine br (fun _=>?_) (fun _=>?_)
   |with_reducible refine⟨fun _=>?_,fun _=>?_⟩
   |refine⟨Sl.lt a g,⟨by simp,by simpa using g⟩,?_⟩
   |refine⟨_,b (Sl.lt a g),?_⟩
   |refine⟨_,Sl.at c g,?_⟩)
  all_goals(conv=>whnf)
  all_goals refine⟨⟨k+1,by omega⟩,by show l.length - (k+1) < l.length - k;omega,lr0 e f rfl (Fz.r F) rfl ⟨ei ?_,ei ?_,ei ?_,cnt oo,tv⟩⟩
  all_goals clear e f
  all_goals clear a b h c
  all_goals by_cases m:l[k].1=κ
  all_goals first
   |(have i:=ry κ l k g m)
   |(have i:=sD κ l k g m)
  all_goals(dsimp only;rw[i])
  all_goals(try (exfalso;simp_all;done))
  all_goals first
   |(rw[aI oo oo];simp;done)
   |(rw[qC];simp_all;done)
   |(rw[qD];simp_all;done)
   |(rw[qC];simp_all;omega)
   |(rw[qD];simp_all;omega)
 ·conv=>whnf
  have g:¬k < l.length:=by simpa using d
  refine endPu rfl (Fz.r F) ?_ rfl;show outE (.ret (.tup [.va (.int .i64 (sel κ l).length),.va (.int .i64 (mn (sel κ l))),.va (.int .i64 (mx (sel κ l)))])) (.ret (.tup [.va (.int .i64 (sel κ (l.take k)).length),.va (.int .i64 (mn (sel κ (l.take k)))),.va (.int .i64 (mx (sel κ (l.take k))))]));rw[ql oo];exact aP _
theorem wadd(a b:Nat)(h:a < 1000000)(c:b < 1000000):IntKind.i64.wrap ((a:Int)+(b:Int))=((a+b:Nat):Int):=by rw[aI oo oo];omega
abbrev mZ(F:Fz)(sl:SA)(b:List (List Stp)):Prop:=SlR F 50 1 (fun y x=>∃a,y=[a]/\aW F a x) sl b
theorem EV(F:Fz)(sl:SA)(d:List (List Stp))(Z:mZ F sl d)(hn:d.length < 1000)(hl:d.flatten.length < 1000000):
  Fo prog F 198 [.va sl] (fun o J=>∃U,o=.ret (.va U)/\aW J U d.flatten):=by
 obtain⟨sn,sb,se,aa,sL,sr,rfl,s,R,s3,S⟩:=Z;refine foS func198 ?_;conv=>whnf
 refine aH hΘ (X:={ k:Nat // k<=d.length }) (fun k=>[(3,.va (.int .i64 (d.take k.1).flatten.length)),(11,.va (.int .i64 k.1))]) (5::jr 12 11 []) (fz fun _=>F) 1 (fun k=>d.length - k.1) ⟨0,by simp⟩
  (fun h i=>le0 h i rfl (Fz.r F) rfl ⟨rfl,rfl,tv⟩) ?_
 rintro⟨k,L⟩ h i;refine br (fun g=>?_) (fun g=>?_)
 ·have g:k < d.length:=by simpa using g
  conv=>whnf
  have f:=SlR.at S g;obtain⟨y,I,a,rfl,u⟩:=f;obtain⟨m,A,D,B,w,E,rfl,p,j,l,q⟩:=u;have f1:=ij d k;have f2:=ij d (k+1);rw[jC g,qb]at f2;refine⟨SlR.lt s g,⟨by simp,by simpa using g⟩,_,R (SlR.lt s g),_,I,?_⟩;conv=>whnf
  have T:=wadd (d.take k).flatten.length d[k].length oo oo;refine br (fun g=>absurd g ?_) (fun _=>?_)
  ·rw[T];simp;omega
  refine⟨⟨k+1,by omega⟩,by show d.length - (k+1) < d.length - k;omega,lr0 h i rfl (Fz.r F) rfl ⟨ei ?_,cnt oo,tv⟩⟩;rw[jC g,qb];exact T.symm
 ·have g:k=d.length:=by have:¬k < d.length:=by simpa using g
                        omega
  have M:(d.take k).flatten=d.flatten:=by rw[ql oo]
  have G:(d.take k).flatten.length=d.flatten.length:=by rw[M]
  have K:IntKind.i64.wrap (((d.take k).flatten.length:Int) - IntKind.i64.wrap (0 - 0))=d.flatten.length:=by
   rw[aI (n:=0 - 0) oo oo,G,aI oo oo];omega
  refine g8 hΘ func251 rfl dd _ _ rfl rfl rfl (ec hΘ _ _ _ ?_);refine brd ss ?_;refine br (fun g=>?_) (fun g=>?_)
  ·have gp:0 < d.flatten.length:=by rw[K]at g;simpa using g
   refine⟨⟨by decide,by decide⟩,rfl,rfl,by rw[K];omega,by rw[K];show(d.flatten.length:Int)*(16:Int)<=140737488355328;omega,fun c hc=>?_⟩;refine⟨⟨by decide,by simp⟩,?_⟩;conv=>whnf
   refine aH hΘ (X:={ x:Nat×Nat // x.1<=d.length }) (fun x=>[(6,.va (.slice false 2 0 0 2 (d.take x.1.1).flatten.length x.1.2)),(27,.va (.int .i64 x.1.1))]) (8::jr 28 7 [])
    (fun x=>[(0,.frz F),(1,.gone),(2,.one (.arr 56 2 ((d.take x.1.1).flatten.map enc) x.1.2))]) 3 (fun x=>d.length - x.1.1) ⟨(0,c),by simp⟩
    (fun h i=>leI [(2,1)] h i rfl ⟨tv,tv,fJ _ _ 0,tv⟩ ⟨⟨rfl,rfl,rfl,.inr ⟨rfl,rfl,by split<;>rfl,rfl⟩⟩,rfl,tv⟩ ⟨Fz.r F,rfl,tv⟩) ?_
   rintro⟨⟨k,c⟩,L⟩ h i;replace L:k<=d.length:=L;refine br (fun g=>?_) (fun g=>?_)
   ·have g:k < d.length:=by simpa using g
    conv=>whnf
    have f:=SlR.at S g;obtain⟨y,I,a,rfl,u⟩:=f;obtain⟨m,A,D,B,w,E,rfl,p,j,l,q⟩:=u;refine⟨SlR.lt s g,⟨by simp,by simpa using g⟩,_,R (SlR.lt s g),_,I,?_⟩;have f1:=ij d k;have f2:=ij d (k+1);have f3:=jC g;rw[f3,qb]at f2
    have step:∀(X:List (List SA)) (c':Nat),X=d[k].map enc->(SB.arr 56 2 ((d.take k).flatten.map enc++X) c')=SB.ren (sig [(2,3)]) (.arr 56 2 ((d.take (k+1)).flatten.map enc) c'):=by
     intro X c' V;rw[gO,f3,qo,V]
    rcases m with _ | _
    ·refine⟨_,_,_,j rfl,l,_,q,rfl,(qa _).symm,rfl,by simp only[qa];show _*16<=_;omega,fun c' O=>?_⟩;refine⟨⟨(k+1,c'),by show k+1<=d.length;omega⟩,by show d.length - (k+1) < d.length - k;omega,leR [(2,3)] h i rfl ⟨tv,tv,fJ _ _ 0,tv⟩ ⟨⟨rfl,?_,rfl,.inr ⟨rfl,rfl,rfl,rfl⟩⟩,cnt oo,tv⟩ ⟨Fz.r F,step _ _ rfl,tv⟩⟩;show(d.take (k+1)).flatten.length=(d.take k).flatten.length+(d[k].map enc).length;rw[qa,f3,qb]
    ·have e:d[k]=[]:=p rfl;refine⟨by rw[e];rfl,rfl,(qa _).symm,rfl,by show _*16<=_;simp only[qu,qap];omega,fun c' O=>?_⟩;refine⟨⟨(k+1,c'),by show k+1<=d.length;omega⟩,by show d.length - (k+1) < d.length - k;omega,leR [(2,3)] h i rfl ⟨tv,tv,fJ _ _ 0,tv⟩ ⟨⟨rfl,?_,rfl,.inr ⟨rfl,rfl,rfl,rfl⟩⟩,cnt oo,tv⟩ ⟨Fz.r F,step _ _ (by rw[e];rfl),tv⟩⟩;show(d.take (k+1)).flatten.length=(d.take k).flatten.length+0;rw[f3,qb,e];rfl
   ·have Y:k=d.length:=by have:¬k < d.length:=by simpa using g
                          omega
    have M:(d.take k).flatten=d.flatten:=by rw[ql oo]
    refine cD 2 (fun _=>.arr 56 2 (d.flatten.map enc) c) rfl rfl rfl (fun _ _=>?_) (fun _ _=>fJ _ _ _) ?_
    ·refine(gO _ (d.take k).flatten c).trans ?_;rw[M]
    intro b J Q W;refine endFo (.ret (.va (.slice false 0 (b 0) 0 2 d.flatten.length c))) J rfl Q (Fz.r J) ⟨_,rfl,Sl.new (W 0 rfl)⟩ ?_ rfl;exact⟨rfl,by show d.flatten.length=(d.take k).flatten.length;rw[M],rfl,.inr ⟨rfl,rfl,rfl,rfl⟩⟩
  ·have gp:d.flatten=[]:=y6.1 (by rw[K]at g;simp only[decide_eq_false_iff_not]at g;omega)
   conv=>whnf
   refine aH hΘ (X:={ k:Nat // k<=d.length }) (fun k=>[(6,.va .nilsl),(27,.va (.int .i64 k.1))]) (8::jr 28 7 []) (fz fun _=>F) 1 (fun k=>d.length - k.1) ⟨0,by simp⟩
    (fun h i=>le0 h i rfl (Fz.r F) rfl ⟨rfl,rfl,tv⟩) ?_
   rintro⟨k,L⟩ h i;refine br (fun g=>?_) (fun g=>?_)
   ·have g:k < d.length:=by simpa using g
    have e:d[k]=[]:=by
     have:=List.flatten_eq_nil_iff.1 gp d[k] (qx g);exact this
    conv=>whnf
    have f:=SlR.at S g;obtain⟨y,I,a,rfl,u⟩:=f;obtain⟨m,A,D,B,w,E,rfl,p,j,l,q⟩:=u;refine⟨SlR.lt s g,⟨by simp,by simpa using g⟩,_,R (SlR.lt s g),_,I,?_⟩;rcases m with _ | _
    ·refine⟨_,_,_,j rfl,l,[],by rw[e];rfl,rfl,rfl,?_⟩;exact⟨⟨k+1,by omega⟩,by show d.length - (k+1) < d.length - k;omega,lr0 h i rfl (Fz.r F) rfl ⟨rfl,cnt oo,tv⟩⟩
    ·refine⟨by rw[e];rfl,rfl,rfl,?_⟩;exact⟨⟨k+1,by omega⟩,by show d.length - (k+1) < d.length - k;omega,lr0 h i rfl (Fz.r F) rfl ⟨rfl,cnt oo,tv⟩⟩
   ·exact endFo (.ret (.va (.slice true 0 0 0 2 0 0))) F rfl (Fz.r F) (Fz.r F) ⟨_,rfl,by rw[gp];exact Sl.nil⟩ ⟨rfl,rfl,rfl⟩ rfl
