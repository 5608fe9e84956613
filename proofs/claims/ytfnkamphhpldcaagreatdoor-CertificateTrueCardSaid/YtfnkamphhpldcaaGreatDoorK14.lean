import Derived.Test.YtfnkamphhpldcaaGreatDoorK09
set_option maxHeartbeats 64000000
namespace Go.Proofs.YtfnkamphhpldcaaGreatDoor
open Go Sx
set_option maxRecDepth 100000
def idx(v:Int):List Int->Nat->Int
 |[],_=>-1
 |x::r,n=>if v=x then n else idx v r (n+1)
theorem z5n(v:Int)(l:List Int)(k:Nat)(h:k < l.length):idx v (l.drop k) k=if v=l[k]then(k:Int)else idx v (l.drop (k+1)) (k+1):=by
 rw[jk h];rfl
theorem z5p(F:Fz)(n:SA)(l:List Int)(v:Int)(q:ze5 F n l)(E:l.length < 1000000):
  Fo Tryz.prog F 233 [.va n,.va (.int .i64 v)] (fun o e=>o=.ret (.va (.int .i64 (idx v l 0)))/\e=F):=by
 obtain⟨nil,y,B,A,w,G,rfl,d,j,s,m⟩:=q
 have c:∀(x:Int) (h:Hp) (nx:Nat),x=idx v l 0->lget h 0=some (.frz F)->
   Cln 1 (FoK F fun o e=>o=.ret (.va (.int .i64 (idx v l 0)))/\e=F) (.ret (.va (.int .i64 x))) h nx:=by
  intro x h nx u p;exact endPu p (Fz.r F) (by rw[u];rfl) rfl
 refine foS Tryz.func233 ?_;conv=>whnf
 refine zak hΘ (X:={ k:Nat // k<=l.length/\idx v l 0=idx v (l.drop k) k }) (fun k=>[(8,.va (.int .i64 k.1))]) (5::jr 9 10 []) (fz fun _=>F) 1 (fun k=>l.length - k.1) ⟨0,by simp⟩
  (fun f i=>le0 f i rfl (Fz.r F) rfl ⟨rfl,tv⟩) ?_
 rintro⟨k,D,b⟩ f i;refine br (fun g=>?_) (fun g=>?_)
 ·have g:k < l.length:=by simpa using g
  refine⟨Sl.lt d g,⟨by simp,by simpa using g⟩,_,j (Sl.lt d g),_,Sl.at m g,?_⟩;conv=>whnf
  rw[z5n v l k g]at b;refine br (fun a=>?_) (fun a=>?_)
  ·refine c _ _ _ ?_ rfl;have a:v=l[k]:=by simpa using a
   exact(b.trans (if_pos a)).symm
  ·conv=>whnf
   have a:¬v=l[k]:=by simpa using a
   rw[if_neg a]at b;exact⟨⟨k+1,by omega,b⟩,by show l.length - (k+1) < l.length - k;omega,lr0 f i rfl (Fz.r F) rfl ⟨cnt (by omega),tv⟩⟩
 ·refine c _ _ _ ?_ rfl;have g:¬k < l.length:=by simpa using g
  rw[yf (by omega)]at b;exact b.symm
theorem zeo(F:Fz)(a:SA)(l:List Int)(v:Int)(b:ze5 F a l)(i:l.length < 1000000):
  Fo Tryz.prog F 181 [.va a,.va (.int .i64 v)] (fun o c=>o=.ret (.va (.bool (decide (0<=idx v l 0))))/\c=F):=by
 have h:=z5p F a l v b i;obtain⟨nil,k,n,m,j,p,rfl,d,e,f,g⟩:=b;refine foS Tryz.func181 ?_;refine usePt h ?_;exact endPu rfl (Fz.r F) rfl rfl
theorem ob{a b:Bool}(h:a=b):outE (.ret (.va (.bool a))) (.ret (.va (.bool b))):=by rw[h];exact zal _
theorem oi{k:IntKind}{a b:Int}(h:a=b):outE (.ret (.va (.int k a))) (.ret (.va (.int k b))):=by rw[h];exact zal _
theorem useP{P:Program}{F:Fz}{f:FuncId}{a args:List SV}{v:SV}{H:Hp}{c:Nat}{K:Out->Hp->Nat->Prop}(e:Pu P f a v)(d:lget H 0=some (.frz F))(b:argsE a (zdd (resP H) args))(hb:(a.all SV.z)=true)
    (g:K (.ret v) (lput H 0 (.frz F)) c):za5 P f args H c K:=usePu (e F) d b hb g
theorem zeh(n b a:Int):Pu Tryz.prog 178 [.va (.int .i64 n),.va (.int .i64 b),.va (.int .i64 a)] (.va (.bool (decide (b<=n)&&decide (n<=a)))):=by
  intro F;refine foS Tryz.func178 ?_;refine⟨fun g=>?_,fun g=>?_⟩
  · conv=>whnf
    refine endPu rfl (Fz.r F) (ob ?_) rfl;rw[g,yq]
  · conv=>whnf
    refine endPu rfl (Fz.r F) (ob ?_) rfl;rw[g,q9]
theorem zou(n:Int):Pu Tryz.prog 186 [.va (.int .i64 n)] (.va (.bool (decide (n=0)))):=by
  intro F;refine foS Tryz.func186 ?_;exact endPu rfl (Fz.r F) rfl rfl
theorem z0d(n:Int):Pu Tryz.prog 190 [.va (.int .i64 n)] (.va (.bool (decide (n=10)||decide (n=100)||decide (n=1000)))):=by
  intro F;refine foS Tryz.func190 ?_;refine⟨fun g=>?_,fun g=>?_⟩
  · conv=>whnf
    refine⟨fun a=>?_,fun a=>?_⟩
    · conv=>whnf
      refine endPu rfl (Fz.r F) (ob ?_) rfl;rw[g,a,qa8,qa8]
    · conv=>whnf
      refine endPu rfl (Fz.r F) (ob ?_) rfl;rw[g,a];rfl
  · conv=>whnf
    refine endPu rfl (Fz.r F) (ob ?_) rfl;rw[g];rfl
theorem z0e(n:Int):Pu Tryz.prog 192 [.va (.int .i64 n)] (.va (.bool (decide (0<=n)&&decide (n<=6)))):=by
  intro F;refine foS Tryz.func192 ?_;refine usePs (zeh n 0 6 F) ?_;exact endPu rfl (Fz.r F) rfl rfl
abbrev fp(b:Nat):Pl:=⟨0,b,0,0,0⟩
theorem zog(F:Fz)(g:Nat):Fo Tryz.prog F 187 [.va (.fn (.func g) [])] (fun o a=>∃b,o=.ret (.va (.fn (.func 246) [fp b]))/\a b=some (.cells 262 [.fn (.func g) []])):=by
  refine foS Tryz.func187 ?_;refine zdp 1 (fun _=>.cells 262 [.fn (.func g) []]) ?_;intro b a c hb;exact endFo (.ret (.va (.fn (.func 246) [fp (b 0)]))) a rfl c (Fz.r a) ⟨b 0,rfl,hb 0 rfl⟩ rfl rfl
def zfd(b:Nat->Nat):List SA:=
  [.nilsl,.nilfn,.nilfn,
   .slice false 0 (b 0) 0 1 1 1,.fn (.func 186) [],.fn (.func 246) [fp (b 6)],
   .slice false 0 (b 1) 0 1 1 1,.fn (.func 186) [],.fn (.func 246) [fp (b 7)],
   .slice false 0 (b 2) 0 1 2 2,.fn (.func 190) [],.fn (.func 246) [fp (b 8)],
   .slice false 0 (b 3) 0 1 1 1,.fn (.func 192) [],.fn (.func 246) [fp (b 9)],
   .slice false 0 (b 4) 0 1 2 2,.fn (.func 186) [],.fn (.func 194) [],
   .slice false 0 (b 5) 0 1 8 8,.fn (.func 186) [],.fn (.func 195) []]
def eI(l:List Int):SB:=.arr 3 1 (l.map encI) l.length
def eF(g:Nat):SB:=.cells 262 [.fn (.func g) []]
structure KindsAt(F:Fz)(b:Nat->Nat):Prop where
  h0:F (b 0)=some (eI [1])
  h1:F (b 1)=some (eI [1])
  h2:F (b 2)=some (eI [3,5])
  h3:F (b 3)=some (eI [2])
  h4:F (b 4)=some (eI [6,7])
  h5:F (b 5)=some (eI [1,2,3,4,5,6,7,8])
  h6:F (b 6)=some (eF 188)
  h7:F (b 7)=some (eF 189)
  h8:F (b 8)=some (eF 191)
  h9:F (b 9)=some (eF 193)
theorem KindsAt.mono{F c:Fz}{b:Nat->Nat}(h:KindsAt F b)(a:Fz.le F c):KindsAt c b:=
  ⟨a _ _ h.h0,a _ _ h.h1,a _ _ h.h2,a _ _ h.h3,a _ _ h.h4,a _ _ h.h5,a _ _ h.h6,a _ _ h.h7,a _ _ h.h8,a _ _ h.h9⟩
theorem zu4(F:Fz):Fo Tryz.prog F 130 [] (fun o y=>∃b,o=.ret (.agg (zfd b))/\KindsAt y b):=by
  refine foS Tryz.func130 ?_;refine useFs (zog F 188) ?_;rintro _ F1 l1 ⟨I,rfl,U⟩;refine useFs (zog F1 189) ?_;rintro _ A k ⟨J,rfl,V⟩;refine useFs (zog A 191) ?_;rintro _ D l ⟨K,rfl,W⟩;refine useFs (zog D 193) ?_;rintro _ F4 m ⟨L,rfl,X⟩;refine zdp 2 (fun _=>eI [1]) ?_;intro M G0 p Y;refine zdp 3 (fun _=>eI [1]) ?_;intro O G1 q Z;refine zdp 4 (fun _=>eI [3,5]) ?_;intro Q G2 s k2;refine zdp 5 (fun _=>eI [2]) ?_;intro R G3 u k3;refine zdp 6 (fun _=>eI [6,7]) ?_;intro S G4 w k4;refine zdp 7 (fun _=>eI [1,2,3,4,5,6,7,8]) ?_;intro T E x k5;refine endFo (.ret (.agg (zfd fun n=>match n with | 0=>M 0 | 1=>O 0 | 2=>Q 0 | 3=>R 0 | 4=>S 0 | 5=>T 0 | 6=>I | 7=>J | 8=>K | _=>L))) E rfl ?_ (Fz.r _) ⟨_,rfl,?_⟩ rfl rfl
  · exact fun b B h=>x _ _ (w _ _ (u _ _ (s _ _ (q _ _ (p _ _ (m _ _ (l _ _ (k _ _ (l1 _ _ h)))))))))
  · have a:=x;have c:=Fz.t w a;have d:=Fz.t u c;have e:=Fz.t s d;have f:=Fz.t q e;have g:=Fz.t p f
    have i:=Fz.t m g;have j:=Fz.t l i;have G:=Fz.t k j;exact⟨f _ _ (Y 0 rfl),e _ _ (Z 0 rfl),d _ _ (k2 0 rfl),c _ _ (k3 0 rfl),a _ _ (k4 0 rfl),k5 0 rfl,G _ _ U,j _ _ V,i _ _ W,g _ _ X⟩
theorem not_t{b:Bool}(h:(!b)=true):b=false:=by cases b<;>simp_all
def props(k:Int):List Int:=
 if k=1 then [1]else if k=2 then [1]else if k=3 then [3,5]else if k=4 then [2]else if k=5 then [6,7]else [1,2,3,4,5,6,7,8]
def numOk(k n:Int):Bool:=
 if k=3 then decide (n=10)||decide (n=100)||decide (n=1000)else if k=4 then decide (0<=n)&&decide (n<=6)else decide (n=0)
def zbl(p:Int)(s:Stp):Bool:=(decide (1<=s.1)&&decide (s.1<=6))&&(decide (0<=idx p (props s.1) 0)&&numOk s.1 s.2)
theorem zjr{F:Fz}{b:Nat}(l:List Int)(h:F b=some (eI l)):ze5 F (.slice false 0 b 0 1 l.length l.length) l:=Sl.new h
theorem z3m(F:Fz)(i j:Nat)(b:Nat->Nat)(p k n:Int)(c:F i=some (.cells 206 (zfd b)))(d:KindsAt F b)(e:F j=some (.cells 3 [.int .i64 p])):
  Fo Tryz.prog F 180 [.agg [.int .i64 k,.int .i64 n],.va (.ptr (fp i)),.va (.ptr (fp j))] (fun o f=>o=.ret (.va (.bool (!zbl p (k,n))))/\f=F):=by
 refine foS Tryz.func180 ?_;refine draS [(0,true),(1,true),(2,false),(3,true),(4,true),(5,true),(6,true),(7,true),(8,true),(9,true),(10,true),(11,false),(12,true),(13,true),(14,true),(15,true),(16,true),(17,true),(18,true),(19,true),(20,true),(21,true),(22,false),(23,true),(24,true),(25,true)] [1] ?_;refine⟨rfl,?_⟩;refine usePs (zeh k 1 6 F) ?_;refine⟨Fz.r F,rfl,?_⟩;conv=>whnf
 have a:∀(v:Bool) (h:Hp) (nx:Nat),(!zbl p (k,n))=v->lget h 0=some (.frz F)->Cln 1 (FoK F fun o f=>o=.ret (.va (.bool (!zbl p (k,n))))/\f=F) (.ret (.va (.bool v))) h nx:=by
  intro v h nx s m;exact endPu m (Fz.r F) (ob s) rfl
 refine⟨fun g=>?_,fun g=>?_⟩
 ·have l:(decide (1<=k)&&decide (k<=6))=true:=by simpa using g
  have q:k=1\/k=2\/k=3\/k=4\/k=5\/k=6:=by simp at l;omega
  clear g l;rcases q with rfl | rfl | rfl | rfl | rfl | rfl
  ·refine⟨rfl,by decide,rfl,_,c,rfl,_,e,?_⟩;refine usePs (zeo F _ [1] p (zjr _ d.h0) (by decide)) ?_;refine⟨Fz.r F,rfl,fun g=>?_,fun g=>?_⟩
   ·refine⟨rfl,by decide,rfl,_,c,rfl,?_⟩;refine usePs (zou n F) ?_;refine⟨Fz.r F,rfl,?_⟩;refine a _ _ _ ?_ rfl;have g:decide (0<=idx p [1] 0)=true:=by simpa using g
    simp[zbl,props,numOk,g]
   ·refine a _ _ _ ?_ rfl;have g:decide (0<=idx p [1] 0)=false:=by simpa using g
    simp[zbl,props,g]
  ·refine⟨rfl,by decide,rfl,_,c,rfl,_,e,?_⟩;refine usePs (zeo F _ [1] p (zjr _ d.h1) (by decide)) ?_;refine⟨Fz.r F,rfl,fun g=>?_,fun g=>?_⟩
   ·refine⟨rfl,by decide,rfl,_,c,rfl,?_⟩;refine usePs (zou n F) ?_;refine⟨Fz.r F,rfl,?_⟩;refine a _ _ _ ?_ rfl;have g:decide (0<=idx p [1] 0)=true:=by simpa using g
    simp[zbl,props,numOk,g]
   ·refine a _ _ _ ?_ rfl;have g:decide (0<=idx p [1] 0)=false:=by simpa using g
    simp[zbl,props,g]
  ·refine⟨rfl,by decide,rfl,_,c,rfl,_,e,?_⟩;refine usePs (zeo F _ [3,5] p (zjr _ d.h2) (by decide)) ?_;refine⟨Fz.r F,rfl,fun g=>?_,fun g=>?_⟩
   ·refine⟨rfl,by decide,rfl,_,c,rfl,?_⟩;refine usePs (z0d n F) ?_;refine⟨Fz.r F,rfl,?_⟩;refine a _ _ _ ?_ rfl;have g:decide (0<=idx p [3,5] 0)=true:=by simpa using g
    simp[zbl,props,numOk,g]
   ·refine a _ _ _ ?_ rfl;have g:decide (0<=idx p [3,5] 0)=false:=by simpa using g
    simp[zbl,props,g]
  ·refine⟨rfl,by decide,rfl,_,c,rfl,_,e,?_⟩;refine usePs (zeo F _ [2] p (zjr _ d.h3) (by decide)) ?_;refine⟨Fz.r F,rfl,fun g=>?_,fun g=>?_⟩
   ·refine⟨rfl,by decide,rfl,_,c,rfl,?_⟩;refine usePs (z0e n F) ?_;refine⟨Fz.r F,rfl,?_⟩;refine a _ _ _ ?_ rfl;have g:decide (0<=idx p [2] 0)=true:=by simpa using g
    simp[zbl,props,numOk,g]
   ·refine a _ _ _ ?_ rfl;have g:decide (0<=idx p [2] 0)=false:=by simpa using g
    simp[zbl,props,g]
  ·refine⟨rfl,by decide,rfl,_,c,rfl,_,e,?_⟩;refine usePs (zeo F _ [6,7] p (zjr _ d.h4) (by decide)) ?_;refine⟨Fz.r F,rfl,fun g=>?_,fun g=>?_⟩
   ·refine⟨rfl,by decide,rfl,_,c,rfl,?_⟩;refine usePs (zou n F) ?_;refine⟨Fz.r F,rfl,?_⟩;refine a _ _ _ ?_ rfl;have g:decide (0<=idx p [6,7] 0)=true:=by simpa using g
    simp[zbl,props,numOk,g]
   ·refine a _ _ _ ?_ rfl;have g:decide (0<=idx p [6,7] 0)=false:=by simpa using g
    simp[zbl,props,g]
  ·refine⟨rfl,by decide,rfl,_,c,rfl,_,e,?_⟩;refine usePs (zeo F _ [1,2,3,4,5,6,7,8] p (zjr _ d.h5) (by decide)) ?_;refine⟨Fz.r F,rfl,fun g=>?_,fun g=>?_⟩
   ·refine⟨rfl,by decide,rfl,_,c,rfl,?_⟩;refine usePs (zou n F) ?_;refine⟨Fz.r F,rfl,?_⟩;refine a _ _ _ ?_ rfl;have g:decide (0<=idx p [1,2,3,4,5,6,7,8] 0)=true:=by simpa using g
    simp[zbl,props,numOk,g]
   ·refine a _ _ _ ?_ rfl;have g:decide (0<=idx p [1,2,3,4,5,6,7,8] 0)=false:=by simpa using g
    simp[zbl,props,g]
 ·refine a _ _ _ ?_ rfl;have g:(decide (1<=k)&&decide (k<=6))=false:=not_t g;simp only[zbl,g,q9,Bool.not_false]
def idxF(p:Int):List Stp->Nat->Int
 |[],_=>-1
 |x::r,n=>if zbl p x=false then n else idxF p r (n+1)
theorem zz4(p:Int)(l:List Stp)(k:Nat)(h:k < l.length):idxF p (l.drop k) k=if zbl p l[k]=false then(k:Int)else idxF p (l.drop (k+1)) (k+1):=by
 rw[jk h];rfl
theorem zus(p:Int):∀(l:List Stp) (n:Nat),(0<=idxF p l n)↔l.all (zbl p)=false
 |[],n=>by simp[idxF]
 |x::r,n=>by
  simp only[idxF,qbq];split
  ·rename_i h;simp[h]
  ·rename_i h;have:zbl p x=true:=by simpa using h
   rw[zus p r (n+1),this];simp
theorem zqi(F:Fz)(w:SA)(l:List Stp)(i j:Nat)(b:Nat->Nat)(p:Int)(E:zay F w l)(Q:l.length < 1000000)(B:F i=some (.cells 206 (zfd b)))(A:KindsAt F b)(D:F j=some (.cells 3 [.int .i64 p])):
  Fo Tryz.prog F 232 [.va w,.va (.fn (.func 180) [fp i,fp j])] (fun o f=>o=.ret (.va (.int .i64 (idxF p l 0)))/\f=F):=by
 obtain⟨nil,K,M,L,J,R,rfl,e,q,G,s⟩:=E
 have d:∀(x:Int) (h:Hp) (nx:Nat),idxF p l 0=x->lget h 0=some (.frz F)->
   Cln 1 (FoK F fun o f=>o=.ret (.va (.int .i64 (idxF p l 0)))/\f=F) (.ret (.va (.int .i64 x))) h nx:=by
  intro x h nx I y;exact endPu y (Fz.r F) (oi I) rfl
 refine foS Tryz.func232 ?_;conv=>whnf
 refine zak hΘ (X:={ k:Nat // k<=l.length/\idxF p l 0=idxF p (l.drop k) k }) (fun k=>[(8,.va (.int .i64 k.1))]) (5::jr 9 10 []) (fz fun _=>F) 1 (fun k=>l.length - k.1) ⟨0,by simp⟩
  (fun m n=>le0 m n rfl (Fz.r F) rfl ⟨rfl,tv⟩) ?_
 rintro⟨k,O,c⟩ m n;refine br (fun g=>?_) (fun g=>?_)
 ·have g:k < l.length:=by simpa using g
  refine⟨Sl.lt e g,⟨by simp,by simpa using g⟩,_,q (Sl.lt e g),_,Sl.at s g,?_⟩;refine usePs (z3m F i j b p l[k].1 l[k].2 B A D) ?_;conv=>whnf
  rw[zz4 p l k g]at c;refine br (fun a=>?_) (fun a=>?_)
  ·conv=>whnf
   have a:zbl p l[k]=false:=not_t a;exact d _ _ _ (c.trans (if_pos a)) rfl
  ·conv=>whnf
   have a:¬zbl p l[k]=false:=by
    intro h;have u:(!zbl p l[k])=false:=a;rw[h]at u;cases u
   rw[if_neg a]at c;exact⟨⟨k+1,by omega,c⟩,by show l.length - (k+1) < l.length - k;omega,lr0 m n rfl (Fz.r F) rfl ⟨cnt (by omega),tv⟩⟩
 ·conv=>whnf
  have g:¬k < l.length:=by simpa using g
  rw[yf (by omega)]at c;exact d _ _ _ c rfl
theorem zk3(F:Fz)(d:SA)(l:List Stp)(a c:Nat)(b:Nat->Nat)(p:Int)(e:zay F d l)(u:l.length < 1000000)(j:F a=some (.cells 206 (zfd b)))(i:KindsAt F b)(k:F c=some (.cells 3 [.int .i64 p])):
  Fo Tryz.prog F 179 [.va d,.va (.fn (.func 180) [fp a,fp c])] (fun o f=>o=.ret (.va (.bool (!l.all (zbl p))))/\f=F):=by
 have h:=zqi F d l a c b p e u j i k;obtain⟨nil,x,A,y,w,D,rfl,m,n,q,s⟩:=e;refine foS Tryz.func179 ?_;refine usePs h ?_;refine endPu rfl (Fz.r F) (ob ?_) rfl;have:=zus p l 0;cases h:l.all (zbl p)with
 |true=>rw[h]at this;simp;have B:¬(0<=idxF p l 0):=fun g=>by have:=this.1 g;cases this
        omega
 |false=>rw[h]at this;simp;exact this.2 rfl
def za2(p:Int)(l:List Stp):Bool:=(decide (1<=p)&&decide (p<=8))&&(decide (l.length<=64)&&l.all (zbl p))
theorem zkv(F:Fz)(n:SA)(l:List Stp)(p:Int)(s:zay F n l)(I:l.length < 1000000):
  Fo Tryz.prog F 128 [.va (.int .i64 p),.va n] (fun o e=>o=.ret (.va (.bool (za2 p l)))/\e=F):=by
 have h:=fun e (d:Fz.le F e) j k b=>zk3 e n l j k b p (s.mono d) I
 obtain⟨nil,M,Q,O,L,R,rfl,B,D,E,G⟩:=s
 have a:∀(F1:Fz) (x:Bool) (h:Hp) (nx:Nat),za2 p l=x->lget h 0=some (.frz F1)->Fz.le F F1->
   Cln 1 (FoK F fun o e=>o=.ret (.va (.bool (za2 p l)))/\e=F) (.ret (.va (.bool x))) h nx:=by
  intro F1 x h nx J u d;exact endPu u d (ob J) rfl
 refine foS Tryz.func128 ?_;refine useFs (zu4 F) ?_;rintro _ F1 f ⟨b,rfl,w⟩;refine usePs (zeh p 1 8 F1) ?_;refine⟨fun g=>?_,fun g=>?_⟩
 ·refine⟨fun c=>?_,fun c=>?_⟩
  ·refine zat 1 (fun _=>.cells 3 [.int .i64 p]) ?_;intro k K m A;refine zat 2 (fun _=>.cells 206 (zfd b)) ?_;intro j q i y;refine usePs (h q (Fz.t f (Fz.t m i)) (j 0) (k 0) b (y 0 rfl) (w.mono (Fz.t m i)) (i _ _ (A 0 rfl))) ?_;refine a q _ _ _ ?_ rfl (Fz.t f (Fz.t m i));have c:decide (l.length<=64)=true:=by simp at c ⊢;omega
   simp[za2,g,c]
  ·refine a F1 _ _ _ ?_ rfl f;have c:decide (l.length<=64)=false:=by simp at c ⊢;omega
   simp only[za2,c,q9,jz]
 ·refine a F1 _ _ _ ?_ rfl f;simp only[za2,g,q9]
theorem zhw(n b a:Int):Pu Tryz.prog 116 [.va (.int .i64 n),.va (.int .i64 b),.va (.int .i64 a)] (.va (.bool (decide (b<=n)&&decide (n<=a)))):=by
 intro F;refine foS Tryz.func116 ?_;refine⟨fun g=>?_,fun g=>?_⟩
 ·refine endPu rfl (Fz.r F) (ob ?_) rfl;simp at g;simp[g]
 ·refine endPu rfl (Fz.r F) (ob ?_) rfl;simp at g;simp;omega
theorem zxe(p:Int):Pu Tryz.prog 117 [.va (.int .i64 p)] (.va (.bool (decide (p=3)||decide (p=5)))):=by
 intro F;refine foS Tryz.func117 ?_;refine⟨fun g=>?_,fun g=>?_⟩
 ·refine endPu rfl (Fz.r F) (ob ?_) rfl;rw[g,qa8]
 ·refine endPu rfl (Fz.r F) (ob ?_) rfl;rw[g,Bool.true_or]
def pickI(c n:Int):Int:=(if c < 0 then -(c+1)else c).tmod n
def i64(c:Int):Prop:=-9223372036854775808<=c/\c<=9223372036854775807
theorem zc1(c n:Int)(a:0 < n)(b:i64 c):0<=pickI c n/\pickI c n < n:=by
 unfold pickI;unfold i64 at b;split
 ·exact⟨qcs _ (by omega),qca _ a⟩
 ·exact⟨qcs _ (by omega),qca _ a⟩
theorem idx1(p:Int):decide (0<=idx p [1] 0)=decide (p=1):=by
 unfold idx;by_cases h:p=1<;>simp[h,idx]
theorem idx2(p:Int):decide (0<=idx p [2] 0)=decide (p=2):=by
 unfold idx;by_cases h:p=2<;>simp[h,idx]
theorem idx35(p:Int):decide (0<=idx p [3,5] 0)=(decide (p=3)||decide (p=5)):=by
 by_cases h:p=3
 ·simp[idx,h]
 ·by_cases a:p=5
  ·simp[idx,a]
  ·simp[idx,h,a]
theorem idx67(p:Int):decide (0<=idx p [6,7] 0)=(decide (p=6)||decide (p=7)):=by
 by_cases h:p=6
 ·simp[idx,h]
 ·by_cases a:p=7
  ·simp[idx,a]
  ·simp[idx,h,a]
theorem idx18(p:Int)(h:1<=p/\p<=8):decide (0<=idx p [1,2,3,4,5,6,7,8] 0)=true:=by
 have:p=1\/p=2\/p=3\/p=4\/p=5\/p=6\/p=7\/p=8:=by omega
 rcases this with rfl | rfl | rfl | rfl | rfl | rfl | rfl | rfl<;>decide
theorem yb2{α:Type}(f:α->Bool)(l:List α)(k:Nat)(g:k < l.length)(h:f l[k]=false):l.all f=false:=
 qc4.2 ⟨l[k],qw g,by simp[h]⟩
theorem z9e{α:Type}(f:α->Bool)(l:List α)(k:Nat)(g:k < l.length)(a:(l.take k).all f=true)(h:f l[k]=true):(l.take (k+1)).all f=true:=by
 rw[qf g,qb8,a];simp[h]
theorem z2j(F:Fz)(D:SA)(l:List Stp)(p:Int)(G:zay F D l)(Q:l.length < 1000000):
  Fo Tryz.prog F 53 [.va (.int .i64 p),.va D] (fun o s=>o=.ret (.va (.bool (za2 p l)))/\s=F):=by
 obtain⟨nil,K,M,L,J,R,rfl,b,d,w,e⟩:=G
 have a:∀(x:Bool) (h:Hp) (nx:Nat),za2 p l=x->lget h 0=some (.frz F)->
   Cln 1 (FoK F fun o s=>o=.ret (.va (.bool (za2 p l)))/\s=F) (.ret (.va (.bool x))) h nx:=by
  intro x h nx I E;exact endPu E (Fz.r F) (ob I) rfl
 refine foS Tryz.func53 ?_;refine usePs (zhw p 1 8 F) ?_;refine⟨fun g=>?_,fun g=>?_⟩
 ·refine br (fun u=>?_) (fun u=>?_)
  ·refine a _ _ _ ?_ rfl;simp at u;simp[za2];omega
  ·conv=>whnf
   have y:1<=p/\p<=8:=by simpa using g
   have f:l.length<=64:=by simp at u;omega
   have A:za2 p l=l.all (zbl p):=by simp[za2,y,f]
   refine zak hΘ (X:={ k:Nat // k<=l.length/\(l.take k).all (zbl p)=true }) (fun k=>[(5,.va (.int .i64 k.1))]) (6::7::jr 16 67 []) (fz fun _=>F) 1 (fun k=>l.length - k.1) ⟨0,by simp⟩
    (fun m n=>le0 m n rfl (Fz.r F) rfl ⟨rfl,tv⟩) ?_
   rintro⟨k,O,q⟩ m n;refine br (fun j=>?_) (fun j=>?_)
   ·have g:k < l.length:=by simpa using j
    clear j;have B:=yb2 (zbl p) l k g;have i:=z9e (zbl p) l k g q;have c:=Sl.at e g;refine⟨Sl.lt b g,⟨by simp,by simpa using g⟩,_,d (Sl.lt b g),_,c,Sl.lt b g,⟨by simp,by simpa using g⟩,_,d (Sl.lt b g),_,c,?_⟩
    repeat' ((conv=>whnf);first
     |with_reducible refine br (fun _=>?_) (fun _=>?_)
     |with_reducible refine⟨fun _=>?_,fun _=>?_⟩
     |refine useP (zhw _ _ _) rfl (zf8 _) rfl ?_
     |refine useP (zxe _) rfl (zf8 _) rfl ?_)
    all_goals(conv=>whnf)
    all_goals first
     |(refine a _ _ _ (A.trans (B ?_)) rfl)
     |(refine⟨⟨k+1,by omega,i ?_⟩,by show l.length - (k+1) < l.length - k;omega,lr0 m n rfl (Fz.r F) rfl ⟨cnt (by omega),tv⟩⟩)
     |skip
    all_goals clear m n B i a
    all_goals clear b d w e c q A
    all_goals simp_all[zbl,props,numOk,idx1,idx2,idx35,idx67,idx18]
    all_goals omega
   ·refine a _ _ _ ?_ rfl;have g:¬k < l.length:=by simpa using j
    rw[qh (by omega)]at q;rw[A,q]
 ·refine a _ _ _ ?_ rfl;have g:(decide (1<=p)&&decide (p<=8))=false:=not_t g;simp only[za2,g,q9]
def mn(l:List Int):Int:=match l with
 |[]=>0
 |x::r=>r.foldl (fun m x=>if x < m then x else m) x
def mx(l:List Int):Int:=match l with
 |[]=>0
 |x::r=>r.foldl (fun m x=>if x>m then x else m) x
theorem yao(l:List Int)(x:Int):mn (l++[x])=if l=[]then x else if x < mn l then x else mn l:=by
 cases l with
 |nil=>simp[mn]
 |cons a r=>simp only[mn,jt,qa4,qag,qbw];rw[if_neg (show¬(a::r=[])by simp)];rfl
theorem yap(l:List Int)(x:Int):mx (l++[x])=if l=[]then x else if x>mx l then x else mx l:=by
 cases l with
 |nil=>simp[mx]
 |cons a r=>simp only[mx,jt,qa4,qag,qbw];rw[if_neg (show¬(a::r=[])by simp)];rfl
theorem z3g{α:Type}{l:List α}{k:Nat}(h1:1<=k)(a:k<=l.length):¬l.take k=[]:=by
 intro h;have:=congrArg List.length h;rw[qo]at this;simp only[qu]at this;omega
theorem ei{k:IntKind}{a b:Int}(h:a=b):SA.int k a=SA.int k b:=by rw[h]
theorem ycz(F:Fz)(i:SA)(l:List Int)(m:ze5 F i l)(A:l.length < 1000000)(b:0 < l.length):
  Fo Tryz.prog F 199 [.va i] (fun o j=>o=.ret (.va (.int .i64 (mx l)))/\j=F):=by
 obtain⟨w,q,u,s,p,x,rfl,a,c,n,d⟩:=m;refine foS Tryz.func199 ?_;refine br (fun g=>?_) (fun g=>?_)
 ·simp at g;omega
 ·refine⟨Sl.lt a b,⟨by simp,by simpa using b⟩,_,c (Sl.lt a b),_,Sl.at d b,?_⟩;conv=>whnf
  have h1:mx (l.take 1)=l[0]:=by
   rw[qf b];simp[mx]
  refine zak hΘ (X:={ k:Nat // 1<=k/\k<=l.length }) (fun k=>[(3,.va (.int .i64 (mx (l.take k.1)))),(4,.va (.int .i64 k.1))]) (jr 12 12 []) (fz fun _=>F) 1 (fun k=>l.length - k.1) ⟨1,by omega⟩
   (fun e f=>le0 e f rfl (Fz.r F) rfl ⟨ei h1,rfl,tv⟩) ?_
  rintro⟨k,h,y⟩ e f;refine br (fun g=>?_) (fun g=>?_)
  ·have g:k < l.length:=by simpa using g
   refine⟨Sl.lt a g,⟨by simp,by simpa using g⟩,_,c (Sl.lt a g),_,Sl.at d g,⟨k+1,by omega,by omega⟩,by show l.length - (k+1) < l.length - k;omega,lr0 e f rfl (Fz.r F) rfl ⟨ei ?_,cnt (by omega),tv⟩⟩;show mx (l.take (k+1))=_;rw[qf g,yap,if_neg (z3g h y)]
  ·conv=>whnf
   have g:¬k < l.length:=by simpa using g
   refine endPu rfl (Fz.r F) (oi ?_) rfl;show mx l=mx (l.take k);rw[qh (by omega)]
theorem yc0(F:Fz)(i:SA)(l:List Int)(m:ze5 F i l)(A:l.length < 1000000)(b:0 < l.length):
  Fo Tryz.prog F 200 [.va i] (fun o j=>o=.ret (.va (.int .i64 (mn l)))/\j=F):=by
 obtain⟨w,q,u,s,p,x,rfl,a,c,n,d⟩:=m;refine foS Tryz.func200 ?_;refine br (fun g=>?_) (fun g=>?_)
 ·simp at g;omega
 ·refine⟨Sl.lt a b,⟨by simp,by simpa using b⟩,_,c (Sl.lt a b),_,Sl.at d b,?_⟩;conv=>whnf
  have h1:mn (l.take 1)=l[0]:=by
   rw[qf b];simp[mn]
  refine zak hΘ (X:={ k:Nat // 1<=k/\k<=l.length }) (fun k=>[(3,.va (.int .i64 (mn (l.take k.1)))),(4,.va (.int .i64 k.1))]) (jr 12 12 []) (fz fun _=>F) 1 (fun k=>l.length - k.1) ⟨1,by omega⟩
   (fun e f=>le0 e f rfl (Fz.r F) rfl ⟨ei h1,rfl,tv⟩) ?_
  rintro⟨k,h,y⟩ e f;refine br (fun g=>?_) (fun g=>?_)
  ·have g:k < l.length:=by simpa using g
   refine⟨Sl.lt a g,⟨by simp,by simpa using g⟩,_,c (Sl.lt a g),_,Sl.at d g,⟨k+1,by omega,by omega⟩,by show l.length - (k+1) < l.length - k;omega,lr0 e f rfl (Fz.r F) rfl ⟨ei ?_,cnt (by omega),tv⟩⟩;show mn (l.take (k+1))=_;rw[qf g,yao,if_neg (z3g h y)]
  ·conv=>whnf
   have g:¬k < l.length:=by simpa using g
   refine endPu rfl (Fz.r F) (oi ?_) rfl;show mn l=mn (l.take k);rw[qh (by omega)]
theorem zir(F:Fz)(u w:SA)(a b:List Stp)(A:zay F u a)(hb:zay F w b)(Y:a.length < 1000000):
  Fo Tryz.prog F 63 [.va u,.va w] (fun o j=>o=.ret (.va (.bool (decide (a=b))))/\j=F):=by
 obtain⟨J,E,I,G,D,K,rfl,f,n,B,p⟩:=A;obtain⟨S,O,R,Q,M,T,rfl,i,q,L,hb4⟩:=hb
 have c:∀(v:Bool) (h:Hp) (nx:Nat),v=decide (a=b)->lget h 0=some (.frz F)->
   Cln 1 (FoK F fun o j=>o=.ret (.va (.bool (decide (a=b))))/\j=F) (.ret (.va (.bool v))) h nx:=by
  intro v h nx U x;exact endPu x (Fz.r F) (by rw[U];rfl) rfl
 refine foS Tryz.func63 ?_;refine br (fun g=>?_) (fun g=>?_)
 ·refine c _ _ _ ?_ rfl;have:¬a=b:=by rintro rfl;simp at g
  simp[this]
 ·have V:a.length=b.length:=neq_f g
  conv=>whnf
  refine zak hΘ (X:={ k:Nat // k<=a.length/\a.take k=b.take k }) (fun k=>[(13,.va (.int .i64 k.1))]) (4::5::jr 14 12 []) (fz fun _=>F) 1 (fun k=>a.length - k.1) ⟨0,by simp⟩
   (fun l m=>le0 l m rfl (Fz.r F) rfl ⟨rfl,tv⟩) ?_
  rintro⟨k,W,s⟩ l m;refine br (fun g=>?_) (fun g=>?_)
  ·have g:k < a.length:=by simpa using g
   have e:k < b.length:=by omega
   refine draS [(0,true),(1,true),(2,true),(3,true),(4,true),(5,true),(6,true),(7,true),(8,true)] [] ?_;refine⟨Sl.lt f g,⟨by simp,by simpa using g⟩,rfl,_,n (Sl.lt f g),_,Sl.at p g,Sl.lt i e,⟨by simp,by simpa using e⟩,rfl,_,q (Sl.lt i e),_,Sl.at hb4 e,_,agg50 _ _ _ _,?_⟩;refine br (fun d=>?_) (fun d=>?_)
   ·refine c _ _ _ ?_ rfl;have:¬a=b:=by rintro rfl;simp at d
    simp[this]
   ·refine⟨⟨k+1,by omega,?_⟩,by show a.length - (k+1) < a.length - k;omega,lr0 l m rfl (Fz.r F) rfl ⟨cnt (by omega),tv⟩⟩
    have y:a[k]=b[k]:=by
     simp at d;exact Prod.ext d.1 d.2
    rw[qf g,qf e,s,y]
  ·refine c _ _ _ ?_ rfl;have g:¬k < a.length:=by simpa using g
   have h1:a=b:=by
    rw[qh (by omega),qh (by omega)]at s;exact s
   simp[h1]
def sel(κ:Int)(l:List Stp):List Int:=(l.filter fun s=>decide (s.1=κ)).map (·.2)
theorem ybe(κ:Int)(l:List Stp)(k:Nat)(g:k < l.length)(h:l[k].1=κ):sel κ (l.take (k+1))=sel κ (l.take k)++[l[k].2]:=by
 rw[qf g,sel,qcx,qs];simp[sel,h]
theorem ydd(κ:Int)(l:List Stp)(k:Nat)(g:k < l.length)(h:¬l[k].1=κ):sel κ (l.take (k+1))=sel κ (l.take k):=by
 rw[qf g,sel,qcx,qs];simp[sel,h]
theorem ydc(κ:Int)(l:List Stp):(sel κ l).length<=l.length:=by
 unfold sel;rw[qe];exact qak _ _
theorem wadd(a b:Nat)(h:a < 1000000)(c:b < 1000000):IntKind.i64.wrap ((a:Int)+(b:Int))=((a+b:Nat):Int):=by rw[zah (by omega) (by omega)];omega
abbrev zts(F:Fz)(sl:SA)(b:List (List Stp)):Prop:=SlR F 50 1 (fun y x=>∃a,y=[a]/\zay F a x) sl b
theorem zy6(F:Fz)(sl:SA)(d:List (List Stp))(Y:zts F sl d)(hn:d.length < 1000)(hl:d.flatten.length < 1000000):
  Fo Tryz.prog F 198 [.va sl] (fun o J=>∃U,o=.ret (.va U)/\zay J U d.flatten):=by
 obtain⟨sn,sb,se,Z,sL,sr,rfl,s,R,s3,S⟩:=Y;refine foS Tryz.func198 ?_;conv=>whnf
 refine zak hΘ (X:={ k:Nat // k<=d.length }) (fun k=>[(3,.va (.int .i64 (d.take k.1).flatten.length)),(11,.va (.int .i64 k.1))]) (5::jr 12 11 []) (fz fun _=>F) 1 (fun k=>d.length - k.1) ⟨0,by simp⟩
  (fun h i=>le0 h i rfl (Fz.r F) rfl ⟨rfl,rfl,tv⟩) ?_
 rintro⟨k,L⟩ h i;refine br (fun g=>?_) (fun g=>?_)
 ·have g:k < d.length:=by simpa using g
  conv=>whnf
  have f:=SlR.at S g;obtain⟨y,I,a,rfl,u⟩:=f;obtain⟨m,A,D,B,w,E,rfl,p,j,l,q⟩:=u;have f1:=zdm d k;have f2:=zdm d (k+1);rw[zds g,qd]at f2;refine⟨SlR.lt s g,⟨by simp,by simpa using g⟩,_,R (SlR.lt s g),_,I,?_⟩;conv=>whnf
  have T:=wadd (d.take k).flatten.length d[k].length (by omega) (by omega);refine br (fun g=>absurd g ?_) (fun _=>?_)
  ·rw[T];simp;omega
  refine⟨⟨k+1,by omega⟩,by show d.length - (k+1) < d.length - k;omega,lr0 h i rfl (Fz.r F) rfl ⟨ei ?_,cnt (by omega),tv⟩⟩;rw[zds g,qd];exact T.symm
 ·have g:k=d.length:=by have:¬k < d.length:=by simpa using g
                        omega
  have M:(d.take k).flatten=d.flatten:=by rw[qh (by omega)]
  have G:(d.take k).flatten.length=d.flatten.length:=by rw[M]
  have K:IntKind.i64.wrap (((d.take k).flatten.length:Int) - IntKind.i64.wrap (0 - 0))=d.flatten.length:=by
   rw[zah (n:=0 - 0) (by omega) (by omega),G,zah (by omega) (by omega)];omega
  refine zh8 hΘ Tryz.func251 rfl (by decide) _ _ rfl rfl rfl (zc6 hΘ _ _ _ ?_);refine brd (by simp) ?_;refine br (fun g=>?_) (fun g=>?_)
  ·have gp:0 < d.flatten.length:=by rw[K]at g;simpa using g
   refine⟨⟨by decide,by decide⟩,rfl,rfl,by rw[K];omega,by rw[K];show(d.flatten.length:Int)*(16:Int)<=140737488355328;omega,fun c hc=>?_⟩;refine⟨⟨by decide,by simp⟩,?_⟩;conv=>whnf
   refine zak hΘ (X:={ x:Nat×Nat // x.1<=d.length }) (fun x=>[(6,.va (.slice false 2 0 0 2 (d.take x.1.1).flatten.length x.1.2)),(27,.va (.int .i64 x.1.1))]) (8::jr 28 7 [])
    (fun x=>[(0,.frz F),(1,.gone),(2,.one (.arr 56 2 ((d.take x.1.1).flatten.map enc) x.1.2))]) 3 (fun x=>d.length - x.1.1) ⟨(0,c),by simp⟩
    (fun h i=>leI [(2,1)] h i rfl ⟨tv,tv,zeq _ _ 0,tv⟩ ⟨⟨rfl,rfl,rfl,.inr ⟨rfl,rfl,by split<;>rfl,rfl⟩⟩,rfl,tv⟩ ⟨Fz.r F,rfl,tv⟩) ?_
   rintro⟨⟨k,c⟩,L⟩ h i;replace L:k<=d.length:=L;refine br (fun g=>?_) (fun g=>?_)
   ·have g:k < d.length:=by simpa using g
    conv=>whnf
    have f:=SlR.at S g;obtain⟨y,I,a,rfl,u⟩:=f;obtain⟨m,A,D,B,w,E,rfl,p,j,l,q⟩:=u;refine⟨SlR.lt s g,⟨by simp,by simpa using g⟩,_,R (SlR.lt s g),_,I,?_⟩;have f1:=zdm d k;have f2:=zdm d (k+1);have f3:=zds g;rw[f3,qd]at f2
    have step:∀(X:List (List SA)) (c':Nat),X=d[k].map enc->(SB.arr 56 2 ((d.take k).flatten.map enc++X) c')=SB.ren (sig [(2,3)]) (.arr 56 2 ((d.take (k+1)).flatten.map enc) c'):=by
     intro X c' V;rw[zhp,f3,qs,V]
    rcases m with _ | _
    ·refine⟨_,_,_,j rfl,l,_,q,rfl,(qe _).symm,rfl,by simp only[qe];show _*16<=_;omega,fun c' O=>?_⟩;refine⟨⟨(k+1,c'),by show k+1<=d.length;omega⟩,by show d.length - (k+1) < d.length - k;omega,leR [(2,3)] h i rfl ⟨tv,tv,zeq _ _ 0,tv⟩ ⟨⟨rfl,?_,rfl,.inr ⟨rfl,rfl,rfl,rfl⟩⟩,cnt (by omega),tv⟩ ⟨Fz.r F,step _ _ rfl,tv⟩⟩;show(d.take (k+1)).flatten.length=(d.take k).flatten.length+(d[k].map enc).length;rw[qe,f3,qd]
    ·have e:d[k]=[]:=p rfl;refine⟨by rw[e];rfl,rfl,(qe _).symm,rfl,by show _*16<=_;simp only[qu,qau];omega,fun c' O=>?_⟩;refine⟨⟨(k+1,c'),by show k+1<=d.length;omega⟩,by show d.length - (k+1) < d.length - k;omega,leR [(2,3)] h i rfl ⟨tv,tv,zeq _ _ 0,tv⟩ ⟨⟨rfl,?_,rfl,.inr ⟨rfl,rfl,rfl,rfl⟩⟩,cnt (by omega),tv⟩ ⟨Fz.r F,step _ _ (by rw[e];rfl),tv⟩⟩;show(d.take (k+1)).flatten.length=(d.take k).flatten.length+0;rw[f3,qd,e];rfl
   ·have W:k=d.length:=by have:¬k < d.length:=by simpa using g
                          omega
    have M:(d.take k).flatten=d.flatten:=by rw[qh (by omega)]
    refine zck 2 (fun _=>.arr 56 2 (d.flatten.map enc) c) rfl rfl rfl (fun _ _=>?_) (fun _ _=>zeq _ _ _) ?_
    ·refine(zhp _ (d.take k).flatten c).trans ?_;rw[M]
    intro b J Q hb;refine endFo (.ret (.va (.slice false 0 (b 0) 0 2 d.flatten.length c))) J rfl Q (Fz.r J) ⟨_,rfl,Sl.new (hb 0 rfl)⟩ ?_ rfl;exact⟨rfl,by show d.flatten.length=(d.take k).flatten.length;rw[M],rfl,.inr ⟨rfl,rfl,rfl,rfl⟩⟩
  ·have gp:d.flatten=[]:=qao.1 (by rw[K]at g;simp only[decide_eq_false_iff_not]at g;omega)
   conv=>whnf
   refine zak hΘ (X:={ k:Nat // k<=d.length }) (fun k=>[(6,.va .nilsl),(27,.va (.int .i64 k.1))]) (8::jr 28 7 []) (fz fun _=>F) 1 (fun k=>d.length - k.1) ⟨0,by simp⟩
    (fun h i=>le0 h i rfl (Fz.r F) rfl ⟨rfl,rfl,tv⟩) ?_
   rintro⟨k,L⟩ h i;refine br (fun g=>?_) (fun g=>?_)
   ·have g:k < d.length:=by simpa using g
    have e:d[k]=[]:=by
     have:=List.flatten_eq_nil_iff.1 gp d[k] (qw g);exact this
    conv=>whnf
    have f:=SlR.at S g;obtain⟨y,I,a,rfl,u⟩:=f;obtain⟨m,A,D,B,w,E,rfl,p,j,l,q⟩:=u;refine⟨SlR.lt s g,⟨by simp,by simpa using g⟩,_,R (SlR.lt s g),_,I,?_⟩;rcases m with _ | _
    ·refine⟨_,_,_,j rfl,l,[],by rw[e];rfl,rfl,rfl,?_⟩;exact⟨⟨k+1,by omega⟩,by show d.length - (k+1) < d.length - k;omega,lr0 h i rfl (Fz.r F) rfl ⟨rfl,cnt (by omega),tv⟩⟩
    ·refine⟨by rw[e];rfl,rfl,rfl,?_⟩;exact⟨⟨k+1,by omega⟩,by show d.length - (k+1) < d.length - k;omega,lr0 h i rfl (Fz.r F) rfl ⟨rfl,cnt (by omega),tv⟩⟩
   ·exact endFo (.ret (.va (.slice true 0 0 0 2 0 0))) F rfl (Fz.r F) (Fz.r F) ⟨_,rfl,by rw[gp];exact Sl.nil⟩ ⟨rfl,rfl,rfl⟩ rfl
