import Derived.Test.YtfnkamphhpldcaaGreatDoorK42
import Derived.Test.YtfnkamphhpldcaaGreatDoorK16
import Derived.Test.YtfnkamphhpldcaaGreatDoorK41
set_option maxHeartbeats 64000000
namespace Go.Proofs.YtfnkamphhpldcaaGreatDoor
open Go Sx
set_option maxRecDepth 100000
theorem zvx(F:Fz)(y A:SA)(a b:List (List UInt8))(D:Sl F 9 1 encS y a)(O:Sl F 9 1 encS A b)(la:a.length < 1000000):
  Fo Tryz.prog F 40 [.va y,.va A] (fun o d=>o=.ret (.va (.bool (decide (a=b))))/\d=F):=by
 obtain⟨L,I,K,J,G,M,rfl,f,p,E,q⟩:=D;obtain⟨V,S,U,T,R,W,rfl,i,s,Q,u⟩:=O
 have fin:∀(v:Bool) (h:Hp) (nx:Nat),v=decide (a=b)->lget h 0=some (.frz F)->
   Cln 1 (FoK F fun o d=>o=.ret (.va (.bool (decide (a=b))))/\d=F) (.ret (.va (.bool v))) h nx:=by
  intro v h nx x l;exact endPu l (Fz.r F) (by rw[x];rfl) rfl
 have finL:∀(v:Bool) (h:Hp) (nx:Nat),v=decide (a=b)->lget h 0=some (.frz F)->
   Cln 1 (FoK F fun o d=>o=.ret (.va (.bool (decide (a=b))))/\d=F) (.ret (.va (.lit v))) h nx:=by
  intro v h nx x l;exact endPu l (Fz.r F) (by rw[<-x];exact rfl) rfl
 refine fo_of hΘ Tryz.func40 rfl (by decide) _ _ rfl rfl rfl ?_;refine br (fun g=>?_) (fun g=>?_)
 ·conv=>whnf
  have:¬a=b:=by rintro rfl;simp at g
  have c:false=decide (a=b):=by simp[this]
  first | exact fin _ _ _ c rfl | exact finL _ _ _ c rfl
 ·have Y:a.length=b.length:=neq_f g
  conv=>whnf
  refine zam hΘ (X:={ k:Nat // k<=a.length/\a.take k=b.take k }) (fun k=>[(5,.va (.int .i64 k.1))]) (4::jr 11 15 []) (fz fun _=>F) 1 (fun k=>a.length - k.1) ⟨0,by simp⟩
   (fun m n=>le0 m n rfl (Fz.r F) rfl ⟨rfl,tv⟩) ?_
  rintro⟨k,Z,w⟩ m n;refine br (fun g=>?_) (fun g=>?_)
  ·have g:k < a.length:=by simpa using g
   have e:k < b.length:=by omega
   refine drawP hΘ mixed (lk [0,1,2,3,4,5,6,7,8] .done) [] (by kernel_rfl) ⟨Sl.lt f g,⟨by simp,by simpa using g⟩,rfl,_,p (Sl.lt f g),_,Sl.at q g,Sl.lt i e,⟨by simp,by simpa using e⟩,rfl,_,s (Sl.lt i e),_,Sl.at u e,?_⟩;refine br (fun j=>?_) (fun j=>?_)
   ·conv=>whnf
    have:¬a=b:=by rintro rfl;simp at j
    have c:false=decide (a=b):=by simp[this]
    first | exact fin _ _ _ c rfl | exact finL _ _ _ c rfl
   ·refine⟨⟨k+1,by omega,?_⟩,by show a.length - (k+1) < a.length - k;omega,lr0 m n rfl (Fz.r F) rfl ⟨cnt (by omega),tv⟩⟩;have B:a[k]=b[k]:=by simpa using j
    rw[qe g,qe e,w,B]
  ·conv=>whnf
   have g:¬k < a.length:=by simpa using g
   have h1:a=b:=by
    rw[qi (by omega),qi (by omega)]at w;exact w
   have c:true=decide (a=b):=by simp[h1]
   first | exact fin _ _ _ c rfl | exact finL _ _ _ c rfl
theorem znv{α:Type}{l:List α}{f:α->Bool}{k:Nat}(h:k < l.length)(h1:(l.take k).any f=false)(a:f l[k]=false):(l.take (k+1)).any f=false:=by
 rw[qe h,List.any_append,h1];simp[a]
theorem zxt{α:Type}{l:List α}{f:α->Bool}{k:Nat}(h:l.length<=k)(h1:(l.take k).any f=false):l.any f=false:=by rwa[qi h]at h1
theorem z7v(F:Fz)(sa sb:SA)(a b:List (List UInt8))(ha:Sl F 9 1 encS sa a)(hb:Sl F 9 1 encS sb b)(la:a.length < 1000000)(lb:b.length < 1000000)(aj:b≠[])(ap:∀x∈a,x.length<=1000000000000)(aq:∀x∈b,x.length<=1000000000000):
  Fo Tryz.prog F 41 [.va sa,.va sb] (fun o _=>o=.ret (.va (.bool (collS a b)))):=by
 obtain⟨az,aw,ay,ax,av,a0,rfl,B,Z,au,aa⟩:=ha;obtain⟨a6,a3,a5,a4,a2,a7,rfl,D,ab,a1,ac⟩:=hb;have O:=fun(G:Fz) (k:Nat) (g:k < a.length)=>zo7 G a[k] (ap _ (qz g))
 have Q:=fun(G:Fz) (k:Nat) (g:k < b.length)=>zo7 G b[k] (aq _ (qz g))
 have af:∀(i:Nat) (L:i < a.length) (k:Nat) (n:k < b.length),(!(a[i]==b[k]))=true->(sumS a[i]==sumS b[k])=true->collS a b=true:=fun i L k n h1 h2=>
  qch.2 ⟨a[i],qz L,qch.2 ⟨b[k],qz n,by rw[h1,h2];rfl⟩⟩
 refine fo_of hΘ Tryz.func41 rfl (by decide) _ _ rfl rfl rfl ?_;conv=>whnf
 refine zam hΘ (X:={ y:Nat×List (List UInt8)×Nat×Fz // Fz.le F y.2.2.2/\y.1<=b.length/\y.2.1=(b.take y.1).map sumS }) (fun y=>[(5,.va (gA 1 1 y.1.2.2.1 y.1.2.1)),(6,.va (.int .i64 y.1.1))]) (jr 10 14 [])
  (fun y=>[(0,.frz y.1.2.2.2),(1,gE 9 1 encS y.1.2.2.1 y.1.2.1)]) 2 (fun y=>b.length - y.1.1) ⟨(0,[],0,F),Fz.r F,jo _,rfl⟩
  (fun I J=>leI [(1,1)] I J rfl ⟨tv,zai zav _ _ _ _ _,tv⟩ ⟨rfl,rfl,tv⟩ ⟨Fz.r F,rfl,tv⟩) ?_
 rintro⟨⟨k,o,c,G⟩,R,hk,S⟩ I J;replace R:Fz.le F G:=R;replace hk:k<=b.length:=hk;replace S:o=(b.take k).map sumS:=S;have al:o.length=k:=by rw[S,qa,qj];omega
 by_cases g:k < b.length
 ·have L:(k:Int) < (b.length:Nat):=by omega
  have l:b.length - (k+1) < b.length - k:=by omega
  have K:k < 4611686018427387904:=by omega
  have h:=Q G k g
  have ae:o++[sumS b[k]]=(b.take (k+1)).map sumS:=by
   rw[qe g,qq,S];rfl
  have a8:(k+1)*16<=140737488355328:=by omega
  clear S;rcases o with _ | ⟨o0,e⟩
  all_goals
   refine bri L ⟨Sl.lt D g,⟨by omega,L⟩,_,R _ _ (ab (Sl.lt D g)),_,Sl.at ac g,?_⟩;refine useFo h rfl ⟨rfl,tv⟩ rfl ?_;rintro _ m l2 rfl;refine⟨nb rfl,[encS (sumS b[k])],rfl,?_⟩;conv=>whnf
   first
   |refine⟨rfl,rfl,by show 1*16<=140737488355328;omega,fun c' ak=>?_⟩
   |refine⟨rfl,rfl,by simp,rfl,by show(e.length+1+1)*16<=140737488355328;have h9:e.length+1=k:=al;omega,fun c' ak=>?_⟩
   conv=>whnf
   first
   |exact⟨⟨(k+1,[]++[sumS b[k]],c',m),Fz.t R l2,g,ae⟩,l,leR [(1,3)] I J rfl ⟨tv,zai zav _ _ _ _ _,tv⟩ ⟨by(conv=>whnf);exact⟨rfl,rfl,rfl,.inr ⟨rfl,rfl,rfl,rfl⟩⟩,cnt K,tv⟩ ⟨Fz.r m,zau zav (zbp _ (by simp)),tv⟩⟩
   |exact⟨⟨(k+1,(o0::e)++[sumS b[k]],c',m),Fz.t R l2,g,ae⟩,l,leR [(1,3)] I J rfl ⟨tv,zai zav _ _ _ _ _,tv⟩ ⟨zeb (μ:=sig [(1,3)]) (i:=1) (j:=3) rfl 1 c' _ (o0::e) (sumS b[k]) rfl,cnt K,tv⟩ ⟨Fz.r m,zau zav (zbp _ (by simp)),tv⟩⟩
 ·have L:¬(k:Int) < (b.length:Nat):=by omega
  have M:o=b.map sumS:=by rw[S,qi (by omega)]
  rcases o with _ | ⟨o0,e⟩
  ·exact absurd (List.map_eq_nil_iff.1 M.symm) aj
  ·have ai:∀(j:Nat) (g:j < b.length),((o0::e).map encS)[0+(j:Int).toNat]? =some (encS (sumS (b[j]'g))):=fun j g=>by
    rw[M,qv,qk,qs,qs,qc g];rfl
   have ar:e.length+1=b.length:=by have:=congrArg List.length M;rw[qa]at this;exact this
   refine brj L ?_;refine zch 1 (fun _=>.arr 9 1 ((o0::e).map encS) c) rfl rfl rfl (fun _ _=>by exact zcc zav rfl _ _ _ _) (fun _ _=>zat zav _ _ _ _ _) ?_;intro p F1 u1 hp;have am:=hp 0 ⟨rfl,rfl⟩
   refine zam hΘ (X:={ y:Nat×Fz // Fz.le F1 y.2/\y.1<=a.length/\(a.take y.1).any (fun x=>b.any fun y=>!(x==y)&&sumS x==sumS y)=false }) (fun y=>[(7,.va (.int .i64 y.1.1))]) (4::8::9::jr 24 34 []) (fun y=>[(0,.frz y.1.2)]) 2 (fun y=>a.length - y.1.1) ⟨(0,F1),Fz.r F1,jo _,rfl⟩
    (fun I J=>leI [] I J rfl ⟨tv,tv⟩ ⟨rfl,tv⟩ ⟨Fz.r F1,tv⟩) ?_
   rintro⟨⟨i,m⟩,s,hi,E⟩ ag ah;replace s:Fz.le F1 m:=s;replace hi:i<=a.length:=hi;replace E:(a.take i).any (fun x=>b.any fun y=>!(x==y)&&sumS x==sumS y)=false:=E;have f:Fz.le F m:=Fz.t R (Fz.t u1 s);by_cases d:i < a.length
   ·have q:(i:Int) < (a.length:Nat):=by omega
    have h:=O m i d;have l:a.length - (i+1) < a.length - i:=by omega
    have ad:i < 4611686018427387904:=by omega
    refine bri q ⟨Sl.lt B d,⟨by omega,q⟩,_,f _ _ (Z (Sl.lt B d)),_,Sl.at aa d,?_⟩;refine useFo h rfl ⟨rfl,tv⟩ rfl ?_;rintro _ w T rfl;have an:=s _ _ am;have ao:=T _ _ an
    conv=>whnf
    refine zam hΘ (X:={ k:Nat // k<=b.length/\(b.take k).any (fun y=>!(a[i]==y)&&sumS a[i]==sumS y)=false }) (fun k=>[(9,.va (.int .i64 k.1))]) (4::jr 35 23 []) (fun _=>[(0,.frz w)]) 2 (fun k=>b.length - k.1) ⟨0,jo _,rfl⟩
     (fun I J=>leI [] I J rfl ⟨tv,tv⟩ ⟨rfl,tv⟩ ⟨Fz.r w,tv⟩) ?_
    rintro⟨k,hk,hn⟩ W Y;replace hk:k<=b.length:=hk;replace hn:(b.take k).any (fun y=>!(a[i]==y)&&sumS a[i]==sumS y)=false:=hn;by_cases n:k < b.length
    ·have A:(k:Int) < (b.length:Nat):=by omega
     have V:(k:Int) < ((e.length+1:Nat):Int):=by omega
     refine bri A ?_;refine drawP hΘ mixed (lk [0,1,2,3,4,5,6,7,8,9,10,11,12,13,14,15,16] .done) [1] (by kernel_rfl) ⟨Sl.lt B d,⟨by omega,q⟩,rfl,_,T _ _ (f _ _ (Z (Sl.lt B d))),_,Sl.at aa d,Sl.lt D n,⟨by omega,A⟩,rfl,_,T _ _ (f _ _ (ab (Sl.lt D n))),_,Sl.at ac n,fun U=>?_,fun U=>?_⟩
     ·repeat' ((conv=>whnf);first
       |refine⟨fun _=>?_,fun g=>absurd (U.symm.trans g) (by decide)⟩
       |refine⟨rfl,⟨by omega,V⟩,?_⟩
       |refine⟨⟨by omega,V⟩,?_⟩
       |refine⟨rfl,?_⟩
       |refine⟨_,ao,?_⟩
       |refine⟨_,ai k n,?_⟩
       |fail)
      refine br (fun gs=>?_) (fun gs=>?_)
      ·have hc:=af i d k n U gs
       conv=>whnf
       first
       |exact endFo (.ret (.va (.bool (collS a b)))) w rfl (Fz.t f T) (Fz.r w) rfl (ob hc) rfl
       |exact endFo (.ret (.va (.bool (collS a b)))) w rfl (Fz.t f T) (Fz.r w) rfl (by rw[hc];exact rfl) rfl
      ·have u:=znv n hn (by rw[gs,jz]);exact⟨⟨k+1,n,u⟩,(by show b.length - (k+1) < b.length - k;omega),leR [] W Y rfl ⟨tv,tv⟩ ⟨cnt (by omega),tv⟩ ⟨Fz.r w,tv⟩⟩
     ·have u:=znv n hn (by rw[U,jm])
      repeat' ((conv=>whnf);first
       |refine⟨fun g=>absurd (U.symm.trans g) (by decide),fun _=>?_⟩
       |fail)
      exact⟨⟨k+1,n,u⟩,(by show b.length - (k+1) < b.length - k;omega),leR [] W Y rfl ⟨tv,tv⟩ ⟨cnt (by omega),tv⟩ ⟨Fz.r w,tv⟩⟩
    ·have A:¬(k:Int) < (b.length:Nat):=by omega
     have u:=znv d E (zxt (by omega) hn);refine brj A ?_;exact⟨⟨(i+1,w),Fz.t s T,d,u⟩,l,leRn [_,_,_] [_,_] [] ag ah rfl ⟨tv,tv⟩ ⟨cnt ad,tv⟩ ⟨Fz.r w,tv⟩⟩
   ·have q:¬(i:Int) < (a.length:Nat):=by omega
    have hc:collS a b=false:=zxt (by omega) E;refine brj q ?_;conv=>whnf
    first
    |exact endFo (.ret (.va (.bool (collS a b)))) m rfl f (Fz.r m) rfl (ob hc) rfl
    |exact endFo (.ret (.va (.bool (collS a b)))) m rfl f (Fz.r m) rfl (by rw[hc];exact rfl) rfl
def zmi(F:Fz)(b a:Nat)(zs:List (List UInt8)):Prop:=zs=[]\/∃c t d,F b=some (.obj (.cells c t d))/\∀j (h:j < zs.length),c[a+j]? =some (.string ⟨zs[j].toArray⟩)
theorem zmi.rd{F:Fz}{b c:Nat}{zs:List (List UInt8)}(h:zmi F b c zs):∃B,∀(k:Nat) (g:k < zs.length),F b=some B/\∀(p:Pl) (K:List SA->Prop),p.e*p.sz+p.o=c+k->K [.str (zs[k]'g)]->rdB B p 1 K:=by
 rcases h with h | ⟨d,t,m,h1,n⟩
 ·exact⟨.cells 0 [],fun k g=>by subst h;simp at g⟩
 ·refine⟨_,fun k g=>⟨h1,fun p K w q=>⟨_,?_,q⟩⟩⟩;have h:=n k g;rw[w];refine⟨rfl,fun a i=>?_,fun ρ=>⟨t,m,d.toList.take (c+k),d.toList.drop (c+k+1),?_,?_⟩⟩
  ·simp at i;subst i;trivial
  ·have j:=(qw.1 h).1;have s:d[c+k]=.string ⟨zs[k].toArray⟩:=(qw.1 h).2
   congr 1
   apply qce.1;have u:c+k < d.toList.length:=by simpa using j
   have f:d.toList=d.toList.take (c+k)++d.toList[c+k]::d.toList.drop (c+k+1):=by
    rw[<-qy u,yl]
   have l:d.toList[c+k]=.string ⟨zs[k].toArray⟩:=by simpa using s
   rw[l]at f;simpa[SA.den]using f
  ·have j:=(qw.1 h).1;rw[qj,qcq];omega
structure BindP(F:Fz)(nl:Bool)(bv bc:Nat)(LV LC:List (List SA))(rV rC b0 k0 b1 k1:Nat)(kn:Bool)(kb ke kc:Nat)(V0 V1:List (List UInt8))(c:Crt):Prop where
 hv:F bv=some (.arr 34 1 LV rV)
 v0:LV[0+((0:Nat):Int).toNat]? =some [.slice false 0 b0 0 1 8 k0]
 v1:LV[0+((1:Nat):Int).toNat]? =some [.slice false 0 b1 0 1 8 k1]
 hc:F bc=some (.arr 48 4 LC rC)
 c0:LC[0+((0:Nat):Int).toNat]? =some (crtS c (.slice kn 0 kb ke 2 c.cl.length kc))
 n0:nl=false
 cl:ClsAt F (.slice kn 0 kb ke 2 c.cl.length kc) c.cl
 a0:F b0=some (.arr 9 1 (V0.map encS) k0)
 a1:F b1=some (.arr 9 1 (V1.map encS) k1)
 l0:V0.length=8
 l1:V1.length=8
 g0:8<=k0
 g1:8<=k1
 s0:∀s∈V0,s.length<=900000000000
 s1:∀s∈V1,s.length<=900000000000
 chk:zb8 c V0 V1=true
 sm:CrtSm c
theorem zxy{F:Fz}{bv W K V:Nat}{i:Bool}{D:List Dc}{C:List Crt}(Y:z6f F (.slice false 0 bv 0 1 D.length W) (D.map allB))(X:zty F (.slice i 0 K 0 4 C.length V) C)(a:Chn (D.map allB) C)(e:∀d∈D,docOk d=true)(h1:¬C.length=0):
  ∃j LC J I k x l y G A E B Q R c,BindP F i bv K j LC J I k x l y G A E B Q R c/\2<=D.length:=by
 have s:=a.n;rw[qa]at s;obtain⟨vn,vb,ve,O,j,J,h,v1,v2,v3,M⟩:=Y;simp only[SA.slice.injEq]at h;obtain⟨rfl,-,rfl,rfl,-,-,rfl⟩:=h;obtain⟨cn,cb,ce,L,LC,I,h,S,T,c3,U⟩:=X;cases h
 rcases C with _ | ⟨c,C⟩
 ·exact absurd rfl h1
 ·rcases D with _ | ⟨d0,_ | ⟨d1,D⟩⟩
  ·simp at s
  ·simp at s
  ·have b:i=false:=by cases i with | false=>rfl | true=>exact absurd (S rfl) (by simp)
   obtain⟨y0,u,k,x,rfl,p,m⟩:=M 0 _ rfl;obtain⟨y1,w,l,y,rfl,q,o⟩:=M 1 _ rfl;obtain⟨z,Z,sk,rfl,f⟩:=U 0 c rfl;have g:=f;obtain⟨G,A,E,B,kL,kr,rfl,-,-,-,-⟩:=f;exact⟨j,LC,J,I,k,x,l,y,G,A,E,B,allB d0,allB d1,c,⟨v2 rfl,u,w,T b,Z,b,g,p,q,zc5 _,zc5 _,m,o,zc1 (e _ (by simp)),zc1 (e _ (by simp)),a.chk 0 (by simp),a.sm c (by simp)⟩,by simp⟩
theorem BindP.sel{F:Fz}{u:Bool}{bv l:Nat}{b LC:List (List SA)}{y x f i g j:Nat}{q:Bool}{n p o:Nat}{d e:List (List UInt8)}{c:Crt}(h:BindP F u bv l b LC y x f i g j q n p o d e c){w:Int}(A:0<=w/\w < 2):
  ∃(bs k:Nat) (a:List (List UInt8)),b[0+w.toNat]? =some [.slice false 0 bs 0 1 8 k]/\F bs=some (.arr 9 1 (a.map encS) k)/\a.length=8/\∀s∈a,s.length<=900000000000:=by
 have m:w=0\/w=1:=by omega
 rcases m with rfl | rfl
 ·exact⟨f,i,d,h.v0,h.a0,h.l0,h.s0⟩
 ·exact⟨g,j,e,h.v1,h.a1,h.l1,h.s1⟩
theorem ya1{zs o:List (List UInt8)}{j:Nat}(a:o=(zs.take j).map (fun s=>s.take 40)):∀s∈o,s.length<=900000000000:=by
 subst a;intro s b;obtain⟨x,_,rfl⟩:=jj.1 b;exact q5 (qds _ _) (by decide)
theorem z3o{w:Int}(h:i64 w):i64 (w.tdiv 2):=by
 unfold i64 at*;have h1:(w.tdiv 2).natAbs=w.natAbs / 2:=Int.natAbs_tdiv w 2;omega
theorem BindP.mono{F b:Fz}{q:Bool}{bv j:Nat}{d LC:List (List SA)}{u s g k i l:Nat}{p:Bool}{m o n:Nat}{e f:List (List UInt8)}{c:Crt}(h:BindP F q bv j d LC u s g k i l p m o n e f c)(a:Fz.le F b):BindP b q bv j d LC u s g k i l p m o n e f c:=
 { h with hv:=a _ _ h.hv,hc:=a _ _ h.hc,cl:=KpsAt.up h.cl a,a0:=a _ _ h.a0,a1:=a _ _ h.a1 }
theorem BindP.fin0{F:Fz}{q:Bool}{bv i:Nat}{d LC:List (List SA)}{w u e k f l:Nat}{p:Bool}{m o n:Nat}{a b:List (List UInt8)}{c:Crt}(h:BindP F q bv i d LC w u e k f l p m o n a b c){O:List (List UInt8)}(j:O.length=8):zb8 c O b=true->a=O\/collS (hashT 3 a) (hashT 3 O)=true:=fun g=>
 bind8 h.l0 j ((zfs.1 h.chk).s.trans (zfs.1 g).s.symm)
theorem BindP.fin1{F:Fz}{s:Bool}{bv j:Nat}{e LC:List (List SA)}{w u f l i m:Nat}{q:Bool}{n p o:Nat}{b a:List (List UInt8)}{c:Crt}(h:BindP F s bv j e LC w u f l i m q n p o b a c){O:List (List UInt8)}(k:O.length=8):zb8 c b O=true->a=O\/collS (hashT 3 a) (hashT 3 O)=true:=fun g=>
 bind8 h.l1 k ((zfs.1 h.chk).d.trans (zfs.1 g).d.symm)
structure OthP(F:Fz)(b:Nat)(O:List (List UInt8))(k:Nat):Prop where
 at_:F b=some (.arr 9 1 (O.map encS) k)
 l:O.length=8
 c:8<=k
 s:∀s∈O,s.length<=900000000000
theorem OthP.sl{F:Fz}{b:Nat}{O:List (List UInt8)}{k:Nat}(h:OthP F b O k):Sl F 9 1 encS (.slice false 0 b 0 1 8 k) O:=by
 have:=Sl.new (enc:=encS) (cap:=k) h.at_;rw[h.l]at this;exact this
theorem OthP.ss{F:Fz}{b:Nat}{O:List (List UInt8)}{k:Nat}(h:OthP F b O k):SS F b 0 k O:=
 ⟨_,_,h.at_,by rw[qa,qv];exact qg _,by rw[yz,qi (by rw[qa];exact qg _)],by rw[h.l];exact h.c,h.s⟩
theorem OthP.mono{F c:Fz}{b:Nat}{O:List (List UInt8)}{k:Nat}(h:OthP F b O k)(a:Fz.le F c):OthP c b O k:={ h with at_:=a _ _ h.at_ }
theorem yb4{V:List (List UInt8)}{n:Nat}{t:List UInt8}(h:∀s∈V,s.length<=900000000000):∀s∈V.set n (t.take 40),s.length<=900000000000:=fun s a=>by
 rcases qa5 a with a | rfl
 ·exact h s a
 ·exact q5 (qds _ _) (by decide)
theorem min40(n:Nat):(0<=if(40:Int) < n then 40 else(n:Int))/\(if(40:Int) < n then 40 else(n:Int))<=n:=by split<;>omega
theorem cut40(s:List UInt8):([[SA.str (List.drop 0 (List.take (if(40:Int) < s.length then 40 else(s.length:Int)).toNat s))]]:List (List SA))=[encS (s.take 40)]:=by
 show _=[[SA.str (s.take 40)]];rw[yz]
 congr 3
 split
 ·rfl
 ·rw[qk,qi (qg _),qi (by omega)]
theorem z90(V:List (List UInt8))(n:Nat)(s:List UInt8):(([]:List (List SA))++V.map encS).set (0+n) [SA.str (List.drop 0 (List.take (if(40:Int) < s.length then 40 else(s.length:Int)).toNat s))]=(V.set n (s.take 40)).map encS:=by
 have h:=cut40 s;rw[List.cons.injEq]at h;rw[h.1,qx,qv,qbg]
theorem zfi(R:List (List UInt8))(μ μ':Mu)(c:Nat):(SB.arr 9 1 ((R.map encS).map (List.map (SA.ren μ))) c).ren μ'=SB.arr 9 1 (R.map encS) c:=zcc zav (zh9 μ R) _ _ _ _
theorem zui(F:Fz)(e f c d:Nat)(a b:List (List UInt8))(h1:F e=some (.arr 9 1 ((hashT 3 a).map encS) c))(g:F f=some (.arr 9 1 ((hashT 3 b).map encS) d))(i:∀s∈a,s.length<=900000000000)(j:∀s∈b,s.length<=900000000000)(k:collS (hashT 3 a) (hashT 3 b)=true):
  Fo Tryz.prog F 41 [.va (.slice false 0 e 0 1 (hashT 3 a).length c),.va (.slice false 0 f 0 1 (hashT 3 b).length d)] (fun o _=>o=.ret (.va (.lit true))):=by
 have h:=z7v F _ _ (hashT 3 a) (hashT 3 b) (Sl.new (cap:=c) h1) (Sl.new (cap:=d) g) (by rw[zfu];decide) (by rw[zfu];decide) (z3r 3 b) (zkg 3 a i) (zkg 3 b j);rw[k]at h;exact zcb (zhk (R:=fun _=>True) (zcb h fun _ _ h=>⟨h,tv⟩)) fun _ _ h=>h.1
theorem z2v{zs o:List (List UInt8)}{j:Nat}(h:j < zs.length)(a:o=(zs.take j).map (fun s=>s.take 40)):o++[(zs[j]'h).take 40]=(zs.take (j+1)).map (fun s=>s.take 40):=by
 rw[qe h,qq,a];rfl
theorem zpx(F0:Fz)(m0:MLF F0)(r0:RNDF F0)(n1 n2 n3:Bool)(b1 o1 c1 b2 o2 c2 b3 o3 l3 c3 l x:Nat)(q1 q2:Int)(rn:Bool)(rb ro rc:Nat)(zs:List (List UInt8))(bb:zmi F0 rb ro zs)(b7:rn=true->zs=[])(_:zs.length < 9223372036854775808)
  (a:Int)(ax:i64 a)(e:List UInt8)(L:Bool)
  (ac:∀F1,Fz.le F0 F1->Fo Tryz.prog F1 23 [.agg (caseS n1 n2 n3 b1 o1 c1 b2 o2 c2 b3 o3 l3 c3 l x q1 q2)] ztx):
  Fo Tryz.prog F0 10 [.agg (caseS n1 n2 n3 b1 o1 c1 b2 o2 c2 b3 o3 l3 c3 l x q1 q2),.va (.slice rn 0 rb ro 1 zs.length rc),.va (.int .i64 a),.va (.str e),.va (.lit L)] (fun o _=>o=.ret (.va (.bool true))/\True):=by
 have av:=z9w F0 m0 r0;have b6:=bb.rd;have a8:=fun F=>zrc a 2 ax (by decide) F
 have au:=z3o ax;have hq:SA.int .i64 (a.tdiv 2)=SA.int .i64 (IntKind.i64.wrap (a.tdiv 2)):=by unfold i64 at au;rw[zaj (by omega) (by omega)]
 have a9:=fun F=>zrc (a.tdiv 2) 8 au (by decide) F
 have aj:=zcl (a.tdiv 2) 8 (by decide) au;have bz:=min40 e.length;have ca:=cut40 e;have a7:=zcl a 2 (by decide) ax;obtain⟨B,hB⟩:=b6;refine fo_of hΘ Tryz.func10 rfl (by decide) _ _ rfl rfl rfl ?_;refine useFo av rfl (zaa _) rfl ?_;rintro _ F1 u1 ⟨rfl,-⟩;refine useFo (ac F1 u1) rfl (zaa _) rfl ?_;rintro _ I u2 ⟨sd,sv,sc,D,C,cd,cv,cc,rfl,ce,bm,bh,bq,b5,h6,⟨bd,rfl⟩,⟨bv,rfl⟩,⟨nl,bc,rfl⟩,b9⟩;have z2:Fz.le F0 I:=Fz.t u1 u2;by_cases g2:C.length=0
 ·have gi:(C.length:Int)=0:=by omega
  refine gae (by decide) ?_;refine bri gi ?_;exact endFo (.ret (.va (.bool true))) I rfl z2 (Fz.r I) ⟨rfl,tv⟩ (zah _) rfl
 ·have gi:¬(C.length:Int)=0:=by omega
  have g:=zxy bm bh bq b5 g2;obtain⟨LV,LC,rV,rC,p0,k0,p1,k1,kn,kb,ke,kc,V0,V1,c,g,cb⟩:=g;have cf:=hB;have Z:=g.sel a7;have an:(0:Int)<=0/\(0:Int) < (D.length:Nat):=by omega
  have ao:(0:Int)<=1/\(1:Int) < (D.length:Nat):=by omega
  have am:(0:Int)<=0/\(0:Int) < (C.length:Nat):=by omega
  obtain⟨bs,ks,VS,Z,bo,n,b8⟩:=Z;refine gae (by decide) ?_;refine brj gi ?_;conv=>whnf
  refine zam hΘ (X:={ y:Nat×List (List UInt8)×Nat // (y.1<=zs.length/\y.1<=8)/\y.2.1=(zs.take y.1).map (fun s=>s.take 40)/\y.2.1.length<=y.2.2 }) (fun y=>[(16,.va (gA 1 2 y.1.2.2 y.1.2.1)),(17,.va (.int .i64 y.1.1))]) (jr 39 24 [])
   (fun y=>[(0,.frz I),(2,gE 9 1 encS y.1.2.2 y.1.2.1)]) 3 (fun y=>8 - y.1.1) ⟨(0,[],0),⟨jo _,jo _⟩,rfl,qg 0⟩
   (fun hH hT=>leI [(2,2)] hH hT rfl ⟨tv,zai zav _ _ _ _ _,tv⟩ ⟨rfl,rfl,tv⟩ ⟨Fz.r I,rfl,tv⟩) ?_
  rintro⟨⟨j,o,co⟩,hj,ho,ar⟩ hH hT;replace hj:j<=zs.length/\j<=8:=hj;replace ho:o=(zs.take j).map (fun s=>s.take 40):=ho;replace ar:o.length<=co:=ar;have ad:o.length=j:=by rw[ho,qa,qj];omega
  by_cases gz:j < zs.length/\j < 8
  ·have M:(j:Int) < (zs.length:Nat):=by omega
   have ak:(j:Int) < 8:=by omega
   have ag:8 - (j+1) < 8 - j:=by omega
   have ah:j < 4611686018427387904:=by omega
   have a3:j+1<=zs.length/\j+1<=8:=by omega
   have a5:rn=false:=by cases rn with | false=>rfl | true=>have:=b7 rfl;rw[this]at gz;simp at gz
   have al:=hB j gz.1;have ay:=z2 _ _ al.1;have ba:(ro+(j:Int).toNat)*1+0=ro+j:=by rw[qk];omega
   have bg:=cut40 (zs[j]'gz.1);have a4:=min40 (zs[j]'gz.1).length;have a6:=z2v gz.1 ho;clear ho;rcases o with _ | ⟨o0,f⟩
   all_goals
    refine⟨fun _=>?_,fun h=>absurd M (oe h)⟩;refine bri ak ?_;refine drawP hΘ mixed (lk [0,1,2,3,4,5,6,7,8,9,10,11] (.alt 12 (.alt 13 (.look 14 .done) .nil) .nil)) [] (by kernel_rfl) ⟨a5,⟨by omega,M⟩,rfl,_,ay,?_⟩;refine al.2 _ _ ba ?_;refine⟨a5,⟨by omega,M⟩,rfl,_,ay,?_⟩;refine al.2 _ _ ba ?_;refine⟨a4,Fz.r I,nb rfl,[encS ((zs[j]'gz.1).take 40)],bg,?_⟩;conv=>whnf
    first
    |refine⟨rfl,rfl,by show 1*16<=140737488355328;omega,fun c' U=>?_⟩
    |refine⟨rfl,rfl,by simp,rfl,by show(f.length+1+1)*16<=140737488355328;have h9:f.length+1=j:=ad;omega,fun c' U=>?_⟩
    conv=>whnf
    try (refine⟨Fz.r I,?_⟩)
    (conv=>whnf)
    first
    |exact⟨⟨(j+1,[]++[(zs[j]'gz.1).take 40],c'),a3,a6,by simpa using U⟩,ag,leR [(2,4)] hH hT rfl ⟨tv,zai zav _ _ _ _ _,tv⟩ ⟨by(conv=>whnf);exact⟨rfl,rfl,rfl,.inr ⟨rfl,rfl,rfl,rfl⟩⟩,cnt ah,tv⟩ ⟨Fz.r I,zau zav (zbp _ (by simp)),tv⟩⟩
    |exact⟨⟨(j+1,(o0::f)++[(zs[j]'gz.1).take 40],c'),a3,a6,by simpa using U⟩,ag,leR [(2,4)] hH hT rfl ⟨tv,zai zav _ _ _ _ _,tv⟩ ⟨zeb (μ:=sig [(2,4)]) (i:=2) (j:=4) rfl 1 c' _ (o0::f) _ rfl,cnt ah,tv⟩ ⟨Fz.r I,zau zav (zbp _ (by simp)),tv⟩⟩
  ·refine Or.elim (Decidable.em (j=8)) (fun g8=>?A) (fun g8=>?B)
   case' A=>
    have ak:¬(j:Int) < 8:=by omega
    have Y:o.length=8:=by rw[ad,g8]
    have b0:=ya1 ho;clear ho;rcases o with _ | ⟨o0,f⟩
    ·rw[g8]at ad;cases ad
    have m:8=f.length+1:=Y.symm;have ai:¬((f.length+1:Nat):Int) < 8:=by omega
    refine⟨fun _=>?_,fun _=>?_⟩;refine brj ak ?_
    all_goals
     refine brj ai ⟨rfl,an,_,g.hv,_,g.v0,?_⟩;refine drawP hΘ mixed (lk [0,1,2,3,4,5,6] (.alt 7 (.look 8 .done) .nil)) [] (by kernel_rfl) ⟨g.n0,am,rfl,_,g.hc,_,g.c0,rfl,ao,rfl,_,g.hv,_,g.v1,?_⟩;refine zaz 2 (fun _=>.arr 9 1 ((o0::f).map encS) co) rfl rfl rfl (fun _ _=>by exact zcc zav rfl _ _ _ _) (fun _ _=>zat zav _ _ _ _ _) ?_;intro pO G K hO;have hQ:∃O,OthP G (pO 0) O co:=⟨o0::f,hO 0 ⟨rfl,rfl⟩,Y,Y▸ar,b0⟩
   case' B=>
    have M:¬(j:Int) < (zs.length:Nat):=by omega
    have ai:(j:Int) < 8:=by omega
    have b4:(o.length:Int) < 8:=by omega
    clear ho;rcases VS with _ | ⟨w,E⟩
    ·cases n
    have bn:0+8<=((w::E).map encS).length:=by rw[qa,n];decide
    have bw:pickI (a.tdiv 2) 8 < ((0+((w::E).map encS).length:Nat):Int):=by rw[qa,n];exact aj.2
    have aw:∃w0,(([]:List (List SA))++(w::E).map encS)[0+(pickI (a.tdiv 2) 8).toNat]? =some (encS w0):=by
     have bx:(pickI (a.tdiv 2) 8).toNat < (w::E).length:=by rw[n];omega
     exact⟨_,by rw[qx,qv,qs,qc bx];rfl⟩
    obtain⟨w0,aw⟩:=aw;have m:8=0+((w::E).map encS).length:=by rw[qa,n]
    have bp:∀{k:Nat},0+((w::E).map encS).length<=k->8<=k:=fun h=>by rw[qa,n]at h;omega
    have bi:((w::E).set (pickI (a.tdiv 2) 8).toNat (e.take 40)).length=8:=by rw[qa6,n]
    have bj:∀s∈(w::E).set (pickI (a.tdiv 2) 8).toNat (e.take 40),s.length<=900000000000:=yb4 b8;have a2:=z90 (w::E) (pickI (a.tdiv 2) 8).toNat e;have bf:(0+((w::E).map encS).length)*16<=140737488355328:=by rw[qa,n];decide
    have be:List.take 8 (List.drop 0 ((w::E).map encS))=(w::E).map encS:=by rw[yz,qi (by rw[qa,n];decide)]
    rcases o with _ | ⟨o0,f⟩
    all_goals
     refine⟨fun h=>absurd (od h) M,fun _=>?_⟩;refine bri b4 ?_;refine usePu (a8 I) rfl ⟨rfl,rfl,tv⟩ rfl ⟨rfl,⟨by omega,by omega⟩,_,g.hv,_,Z,_,_,_,bo,bn,(w::E).map encS,be,rfl,rfl,rfl,bf,fun co U=>?_⟩;refine drawP hΘ mixed (lk [0,1,2,4,5,6,7,8] (.alt 3 (.look 9 (.last 10 .done)) .nil)) [] (by kernel_rfl) ⟨by decide,bz,?_⟩;conv=>whnf
     try (refine⟨Fz.r I,?_⟩)
     (conv=>whnf)
     refine usePu (a9 I) rfl ⟨(by first | exact rfl | exact hq),rfl,tv⟩ rfl ⟨Fz.r I,rfl,⟨aj.1,bw⟩,_,aw,rfl,an,_,g.hv,_,g.v0,?_⟩;refine drawP hΘ mixed (lk [0,1,2,3,4,5,6] (.alt 7 (.look 8 .done) .nil)) [] (by kernel_rfl) ⟨g.n0,am,rfl,_,g.hc,_,g.c0,rfl,ao,rfl,_,g.hv,_,g.v1,?_⟩;refine zaz 4 (fun _=>.arr 9 1 (((w::E).set (pickI (a.tdiv 2) 8).toNat (e.take 40)).map encS) co) rfl rfl rfl (fun _ _=>by exact zcc zav a2 _ _ _ _) (fun _ _=>zat zav _ _ _ _ _) ?_;intro pO G K hO;have hQ:∃O,OthP G (pO 0) O co:=⟨_,hO 0 rfl,bi,bp U,bj⟩
   all_goals
    obtain⟨O,hQ⟩:=hQ;have mG:=m0.mono (Fz.t z2 K);have rG:=r0.mono (Fz.t z2 K);have b:=g.mono K;have az:=hQ.sl;have bk:=OthP.sl ⟨b.a0,b.l0,b.g0,b.s0⟩;have bl:=OthP.sl ⟨b.a1,b.l1,b.g1,b.s1⟩;have ae:=zh5 G mG rG _ _ _ c O V1 b.cl b.sm.s b.sm.l az bl hQ.s b.s1;have af:=fun G2 (l2:Fz.le G G2)=>zh5 G2 (mG.mono l2) (rG.mono l2) _ _ _ c V0 O (KpsAt.up b.cl l2) b.sm.s b.sm.l (bk.mono l2) (az.mono l2) b.s0 hQ.s
    have V:=b.fin0 hQ.l;have W:=b.fin1 hQ.l;have aa:∃R,zb8 c O V1=R:=⟨_,rfl⟩
    have ab:∃R,zb8 c V0 O=R:=⟨_,rfl⟩
    obtain⟨R0,aa⟩:=aa;obtain⟨R1,ab⟩:=ab;rw[aa]at ae V;rw[ab]at af W;clear aa ab;refine useFo ae rfl ⟨rfl,⟨rfl,m,rfl,.inr ⟨rfl,rfl,rfl,rfl⟩⟩,⟨rfl,rfl,rfl,.inr ⟨rfl,rfl,rfl,rfl⟩⟩,tv⟩ rfl ?_;rintro _ G2 u rfl;conv=>whnf
    first
    |refine⟨Fz.t K u,?_⟩
    |refine⟨Fz.t K u,rfl,?_⟩
    |refine⟨u,?_⟩
    have J:=b.mono u;rcases L with _ | _
    ·have hW:OthP G2 p0 V0 k0:=OthP.mono ⟨b.a0,b.l0,b.g0,b.s0⟩ u;have S:=hQ.mono u;have q:=zvx G2 _ _ V0 O hW.sl S.sl (by rw[hW.l];decide);have hd:∃d,decide (V0=O)=d:=⟨_,rfl⟩
     obtain⟨d,hd⟩:=hd;rw[hd]at q;rcases R0 with _ | _
     ·conv=>whnf
      repeat
       first
       |refine gae (by decide) ?_
       |refine gaf (by decide) ?_
       conv=>whnf
      exact endFo (.ret (.va (.bool true))) G2 rfl (Fz.t z2 (Fz.t K u)) (Fz.r G2) ⟨rfl,tv⟩ (by first | exact zah _ | exact ob (by decide) | exact ob' (by decide) | exact rfl) rfl
     ·rcases d with _ | _
      ·have aq:=(V rfl).resolve_left (oe hd)
       conv=>whnf
       repeat
        first
        |refine gae (by decide) ?_
        |refine gaf (by decide) ?_
        conv=>whnf
       refine useFo q rfl ⟨⟨rfl,rfl,rfl,.inr ⟨rfl,rfl,rfl,rfl⟩⟩,⟨rfl,m,rfl,.inr ⟨rfl,rfl,rfl,rfl⟩⟩,tv⟩ rfl ?_;rintro _ G9 u9 ⟨rfl,-⟩;have p:=hW.mono u9;have T:=S.mono u9
       conv=>whnf
       repeat
        first
        |refine gae (by decide) ?_
        |refine gaf (by decide) ?_
        conv=>whnf
       refine use (zkf G9 p0 0 k0 V0 p.l p.ss) [] rfl ⟨⟨rfl,rfl,rfl,.inr ⟨rfl,rfl,rfl,rfl⟩⟩,tv⟩ rfl trivial (by simp[SV.below,SA.below]) trivial ?_;rintro _ H1 _ _ w1 ⟨e1,rfl,rfl,rfl,bt⟩;have Q:=T.mono w1;refine use (zkf H1 (pO 0) 0 co O Q.l Q.ss) [] rfl ⟨⟨rfl,m,rfl,.inr ⟨rfl,rfl,rfl,rfl⟩⟩,tv⟩ rfl trivial (by simp[SV.below,SA.below]) trivial ?_;rintro _ H2 _ _ w2 ⟨e2,rfl,rfl,rfl,bu⟩;conv=>whnf
       first
       |refine zaz 3 (fun _=>.arr 9 1 ((hashT 3 V0).map encS) e1) rfl rfl rfl (fun _ _=>by exact zfi _ _ _ _) (fun _ _=>zat zav _ _ _ _ _) ?_
       |refine zaz 5 (fun _=>.arr 9 1 ((hashT 3 V0).map encS) e1) rfl rfl rfl (fun _ _=>by exact zfi _ _ _ _) (fun _ _=>zat zav _ _ _ _ _) ?_
       intro x1 H3 w3 h1
       first
       |refine zaz 4 (fun _=>.arr 9 1 ((hashT 3 O).map encS) e2) rfl rfl rfl (fun _ _=>by exact zfi _ _ _ _) (fun _ _=>zat zav _ _ _ _ _) ?_
       |refine zaz 6 (fun _=>.arr 9 1 ((hashT 3 O).map encS) e2) rfl rfl rfl (fun _ _=>by exact zfi _ _ _ _) (fun _ _=>zat zav _ _ _ _ _) ?_
       intro x2 H4 w4 h2;have ap:=zui H4 (x1 0) (x2 0) e1 e2 V0 O (w4 _ _ (h1 0 rfl)) (h2 0 rfl) p.s T.s aq;refine useFo ap rfl ⟨⟨rfl,rfl,rfl,.inr ⟨rfl,rfl,rfl,rfl⟩⟩,⟨rfl,rfl,rfl,.inr ⟨rfl,rfl,rfl,rfl⟩⟩,tv⟩ rfl ?_;rintro _ H5 w5 rfl;conv=>whnf
       repeat
        first
        |refine gae (by decide) ?_
        |refine gaf (by decide) ?_
        conv=>whnf
       exact endFo (.ret (.va (.bool true))) H5 rfl (Fz.t (Fz.t z2 (Fz.t K u)) (Fz.t u9 (Fz.t w1 (Fz.t w2 (Fz.t w3 (Fz.t w4 w5)))))) (Fz.r H5) ⟨rfl,tv⟩ (by first | exact zah _ | exact ob (by decide) | exact ob' (by decide) | exact rfl) rfl
      ·conv=>whnf
       repeat
        first
        |refine gae (by decide) ?_
        |refine gaf (by decide) ?_
        conv=>whnf
       refine useFo q rfl ⟨⟨rfl,rfl,rfl,.inr ⟨rfl,rfl,rfl,rfl⟩⟩,⟨rfl,m,rfl,.inr ⟨rfl,rfl,rfl,rfl⟩⟩,tv⟩ rfl ?_;rintro _ G9 u9 ⟨rfl,-⟩;conv=>whnf
       repeat
        first
        |refine gae (by decide) ?_
        |refine gaf (by decide) ?_
        conv=>whnf
       exact endFo (.ret (.va (.bool true))) G9 rfl (Fz.t (Fz.t z2 (Fz.t K u)) u9) (Fz.r G9) ⟨rfl,tv⟩ (by first | exact zah _ | exact ob (by decide) | exact ob' (by decide) | exact rfl) rfl
    ·refine⟨rfl,ao,_,J.hv,_,J.v1,?_⟩;refine drawP hΘ mixed (lk [0,1,2,3,4,5,6] (.alt 7 (.look 8 .done) .nil)) [] (by kernel_rfl) ⟨g.n0,am,rfl,_,J.hc,_,J.c0,rfl,an,rfl,_,J.hv,_,J.v0,?_⟩;refine useFo (af G2 u) rfl ⟨rfl,⟨rfl,rfl,rfl,.inr ⟨rfl,rfl,rfl,rfl⟩⟩,⟨rfl,m,rfl,.inr ⟨rfl,rfl,rfl,rfl⟩⟩,tv⟩ rfl ?_;rintro _ G3 u3 rfl;refine⟨u3,?_⟩;have hW:OthP G3 p1 V1 k1:=OthP.mono ⟨b.a1,b.l1,b.g1,b.s1⟩ (Fz.t u u3);have S:=hQ.mono (Fz.t u u3);have q:=zvx G3 _ _ V1 O hW.sl S.sl (by rw[hW.l];decide);have hd:∃d,decide (V1=O)=d:=⟨_,rfl⟩
     obtain⟨d,hd⟩:=hd;rw[hd]at q;rcases R1 with _ | _
     ·conv=>whnf
      repeat
       first
       |refine gae (by decide) ?_
       |refine gaf (by decide) ?_
       conv=>whnf
      exact endFo (.ret (.va (.bool true))) G3 rfl (Fz.t z2 (Fz.t K (Fz.t u u3))) (Fz.r G3) ⟨rfl,tv⟩ (by first | exact zah _ | exact ob (by decide) | exact ob' (by decide) | exact rfl) rfl
     ·rcases d with _ | _
      ·have aq:=(W rfl).resolve_left (oe hd)
       conv=>whnf
       repeat
        first
        |refine gae (by decide) ?_
        |refine gaf (by decide) ?_
        conv=>whnf
       refine useFo q rfl ⟨⟨rfl,rfl,rfl,.inr ⟨rfl,rfl,rfl,rfl⟩⟩,⟨rfl,m,rfl,.inr ⟨rfl,rfl,rfl,rfl⟩⟩,tv⟩ rfl ?_;rintro _ G9 u9 ⟨rfl,-⟩;have p:=hW.mono u9;have T:=S.mono u9
       conv=>whnf
       repeat
        first
        |refine gae (by decide) ?_
        |refine gaf (by decide) ?_
        conv=>whnf
       refine use (zkf G9 p1 0 k1 V1 p.l p.ss) [] rfl ⟨⟨rfl,rfl,rfl,.inr ⟨rfl,rfl,rfl,rfl⟩⟩,tv⟩ rfl trivial (by simp[SV.below,SA.below]) trivial ?_;rintro _ H1 _ _ w1 ⟨e1,rfl,rfl,rfl,bt⟩;have Q:=T.mono w1;refine use (zkf H1 (pO 0) 0 co O Q.l Q.ss) [] rfl ⟨⟨rfl,m,rfl,.inr ⟨rfl,rfl,rfl,rfl⟩⟩,tv⟩ rfl trivial (by simp[SV.below,SA.below]) trivial ?_;rintro _ H2 _ _ w2 ⟨e2,rfl,rfl,rfl,bu⟩;conv=>whnf
       first
       |refine zaz 3 (fun _=>.arr 9 1 ((hashT 3 V1).map encS) e1) rfl rfl rfl (fun _ _=>by exact zfi _ _ _ _) (fun _ _=>zat zav _ _ _ _ _) ?_
       |refine zaz 5 (fun _=>.arr 9 1 ((hashT 3 V1).map encS) e1) rfl rfl rfl (fun _ _=>by exact zfi _ _ _ _) (fun _ _=>zat zav _ _ _ _ _) ?_
       intro x1 H3 w3 h1
       first
       |refine zaz 4 (fun _=>.arr 9 1 ((hashT 3 O).map encS) e2) rfl rfl rfl (fun _ _=>by exact zfi _ _ _ _) (fun _ _=>zat zav _ _ _ _ _) ?_
       |refine zaz 6 (fun _=>.arr 9 1 ((hashT 3 O).map encS) e2) rfl rfl rfl (fun _ _=>by exact zfi _ _ _ _) (fun _ _=>zat zav _ _ _ _ _) ?_
       intro x2 H4 w4 h2;have ap:=zui H4 (x1 0) (x2 0) e1 e2 V1 O (w4 _ _ (h1 0 rfl)) (h2 0 rfl) p.s T.s aq;refine useFo ap rfl ⟨⟨rfl,rfl,rfl,.inr ⟨rfl,rfl,rfl,rfl⟩⟩,⟨rfl,rfl,rfl,.inr ⟨rfl,rfl,rfl,rfl⟩⟩,tv⟩ rfl ?_;rintro _ H5 w5 rfl;conv=>whnf
       repeat
        first
        |refine gae (by decide) ?_
        |refine gaf (by decide) ?_
        conv=>whnf
       exact endFo (.ret (.va (.bool true))) H5 rfl (Fz.t (Fz.t z2 (Fz.t K (Fz.t u u3))) (Fz.t u9 (Fz.t w1 (Fz.t w2 (Fz.t w3 (Fz.t w4 w5)))))) (Fz.r H5) ⟨rfl,tv⟩ (by first | exact zah _ | exact ob (by decide) | exact ob' (by decide) | exact rfl) rfl
      ·conv=>whnf
       repeat
        first
        |refine gae (by decide) ?_
        |refine gaf (by decide) ?_
        conv=>whnf
       refine useFo q rfl ⟨⟨rfl,rfl,rfl,.inr ⟨rfl,rfl,rfl,rfl⟩⟩,⟨rfl,m,rfl,.inr ⟨rfl,rfl,rfl,rfl⟩⟩,tv⟩ rfl ?_;rintro _ G9 u9 ⟨rfl,-⟩;conv=>whnf
       repeat
        first
        |refine gae (by decide) ?_
        |refine gaf (by decide) ?_
        conv=>whnf
       exact endFo (.ret (.va (.bool true))) G9 rfl (Fz.t (Fz.t z2 (Fz.t K (Fz.t u u3))) u9) (Fz.r G9) ⟨rfl,tv⟩ (by first | exact zah _ | exact ob (by decide) | exact ob' (by decide) | exact rfl) rfl
theorem zse(d:Fz)(E:MLF d)(G:RNDF d)(j k l:Bool)(e m u f n w g p i x:Nat)(L:List Stp)(X:List Q3)(q s:Int)(zs:List Int)(h:CaseAt d j k l e m f n g p i L X q s zs)(A:Bool)(y B I:Nat)(ss:List (List UInt8))(K:zmi d y B ss)(J:A=true->ss=[])(Q:ss.length<=9223372036854775807)
  (a:Int)(M:i64 a)(c:List UInt8)(b:Bool):
  Fo Tryz.prog d 10 [.agg (caseS j k l e m u f n w g p i x L.length X.length q s),.va (.slice A 0 y B 1 ss.length I),.va (.int .i64 a),.va (.str c),.va (.lit b)] (fun o _=>o=.ret (.va (.bool true))/\True):=
 zpx d E G j k l e m u f n w g p i x L.length X.length q s A y B I ss K J (by omega) a M c b fun F1 D=>z2o F1 (E.mono D) (G.mono D) j k l e m u f n w g p i x L X q s zs (h.mono D)
