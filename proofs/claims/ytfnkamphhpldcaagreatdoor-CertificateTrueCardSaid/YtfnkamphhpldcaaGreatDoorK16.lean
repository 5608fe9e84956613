import Derived.Test.YtfnkamphhpldcaaGreatDoorK15
set_option maxHeartbeats 64000000
namespace Go.Proofs.YtfnkamphhpldcaaGreatDoor
open Go Sx
set_option maxRecDepth 100000
structure Mig where
 id:Int
 src:Int
 dst:Int
 back:Bool
 keep:List Kp
def asc:List Kp->Bool
 |a::b::r=>decide (a.1 < b.1)&&asc (b::r)
 |_=>true
theorem zsd:∀(l:List Kp),asc l=true↔∀i (h:i+1 < l.length),l[i].1 < l[i+1].1
 |[]=>by simp[asc]
 |[a]=>by simp[asc]
 |a::b::r=>by
  rw[asc,qg,zsd (b::r),decide_eq_true_eq];constructor
  ·rintro⟨h1,c⟩ i h;cases i with
   |zero=>exact h1
   |succ i=>exact c i (by simpa using h)
  ·intro h;exact⟨h 0 (by simp),fun i d=>h (i+1) (by simpa using d)⟩
def idOk(n:Int):Bool:=decide (1<=n)&&decide (n<=1000000)
def migOk(m:Mig):Bool:=asc m.keep&&(idOk m.id&&(idOk m.src&&(idOk m.dst&&(!(m.back&&decide (0 < m.keep.length))&&m.keep.all zbo))))
abbrev migS(m:Mig)(sk:SA):List SA:=[.int .i64 m.id,.int .i64 m.src,.int .i64 m.dst,.lit m.back,sk]
theorem zd6{n:Nat}(m:Mig){sk:SA}(h:sk.below n):(Ent.one (.cells 32 (migS m sk))).below n:=by
 intro a b;simp only[qn,qy,or_false]at b;rcases b with rfl | rfl | rfl | rfl | rfl
 ·trivial
 ·trivial
 ·trivial
 ·trivial
 ·exact h
theorem zsw(n:Int)(F:Fz):Fo Tryz.prog F 108 [.va (.int .i64 n)] (fun o a=>o=.ret (.va (.bool (idOk n)))/\a=F):=by
 refine foS Tryz.func108 ?_;refine⟨fun g=>?_,fun g=>?_⟩
 ·exact endPu rfl (Fz.r F) (ob (by show(decide (1<=n)&&decide (n<=1000000))=_;rw[show decide (1<=n)=true from g];rfl)) rfl
 ·exact endPu rfl (Fz.r F) (ob (by show(decide (1<=n)&&decide (n<=1000000))=_;rw[show decide (1<=n)=false from g];rfl)) rfl
theorem mOk0{m:Mig}(h:asc m.keep=false):migOk m=false:=by simp only[migOk,h,q9]
theorem mOk1{m:Mig}(h:idOk m.id=false):migOk m=false:=by simp only[migOk,h,q9,jz]
theorem mOk2{m:Mig}(h:idOk m.src=false):migOk m=false:=by simp only[migOk,h,q9,jz]
theorem mOk3{m:Mig}(h:idOk m.dst=false):migOk m=false:=by simp only[migOk,h,q9,jz]
theorem mOk4{m:Mig}(hb:m.back=true)(h:(!decide ((0:Int) < (m.keep.length:Int)))=false):migOk m=false:=by
 have a:decide (0 < m.keep.length)=true:=by simp at h ⊢;omega
 simp only[migOk,hb,a,qcl,Bool.not_true,q9,jz]
theorem mOkT{m:Mig}(a:asc m.keep=true)(h1:idOk m.id=true)(b:idOk m.src=true)(c:idOk m.dst=true)(h4:m.back=false\/(!decide ((0:Int) < (m.keep.length:Int)))=true):migOk m= !(!m.keep.all zbo):=by
 have d:(!(m.back&&decide (0 < m.keep.length)))=true:=by
  rcases h4 with h4 | h4
  ·rw[h4];rfl
  ·have:decide (0 < m.keep.length)=false:=by simp at h4 ⊢;exact h4
   rw[this];simp
 simp only[migOk,a,h1,b,c,d,yq,Bool.not_not]
theorem z0w(F:Fz)(sk:SA)(m:Mig)(J:KpsAt F sk m.keep)(hs:short m.keep)(hl:m.keep.length < 1000000):
  Fo Tryz.prog F 50 [.agg (migS m sk)] (fun o _=>o=.ret (.va (.bool (migOk m)))):=by
 have c:=z5q F sk m.keep J hs hl;have M:=mOk0 (m:=m);have O:=mOk1 (m:=m);have Q:=mOk2 (m:=m);have R:=mOk3 (m:=m);have S:=mOk4 (m:=m);have T:=mOkT (m:=m);obtain⟨v,hv⟩:∃v,migOk m=v:=⟨_,rfl⟩
 rw[hv]at M O Q R S T ⊢;clear hv;obtain⟨id,src,q,j,ks⟩:=m;replace J:KpsAt F sk ks:=J;replace hl:ks.length < 1000000:=hl;replace c:Fo Tryz.prog F 109 [.va sk,.va (.fn (.func 106) [])] (fun o L=>o=.ret (.va (.bool (!ks.all zbo)))):=c;obtain⟨kn,kb,ke,kc,kL,kr,sf,rfl,k1,K,k3,k4⟩:=KpsAt.open J
 have d:∀(b:Bool) (F1:Fz) (h:Hp) (nx:Nat),v=b->lget h 0=some (.frz F1)->Fz.le F F1->Cln 1 (FoK F fun o L=>o=.ret (.va (.bool v))) (.ret (.va (.bool b))) h nx:=by
  intro b F1 h nx hb U n;exact endFo (.ret (.va (.bool b))) F1 U n (Fz.r F1) (by rw[hb]) rfl rfl
 have finL:∀(b:Bool) (F1:Fz) (h:Hp) (nx:Nat),v=b->lget h 0=some (.frz F1)->Fz.le F F1->Cln 1 (FoK F fun o L=>o=.ret (.va (.bool v))) (.ret (.va (.lit b))) h nx:=by
  intro b F1 h nx hb U n;exact endFo (.ret (.va (.bool b))) F1 U n (Fz.r F1) (by rw[hb]) rfl rfl
 refine foS Tryz.func50 ?_;conv=>whnf
 refine zak hΘ (X:={ k:Nat // (k=0\/k < ks.length)/\∀i (h:i+1 < ks.length),i < k->ks[i].1 < ks[i+1].1 }) (fun x=>[(4,.va (.int .i64 ((x.1+1:Nat):Int)))]) (2::jr 5 21 [])
  (fun x=>[(0,.frz F),(1,.one (.cells 32 (migS ⟨id,src,q,j,ks⟩ (.slice kn 0 kb ke 2 ks.length kc))))]) 2 (fun x=>ks.length - x.1) ⟨0,.inl rfl,fun i h Z=>absurd Z (by omega)⟩
  (fun V W=>leI [] V W rfl ⟨tv,zd6 _ (.inr (by omega)),tv⟩ ⟨rfl,tv⟩ ⟨Fz.r F,rfl,tv⟩) ?_
 rintro⟨k,aa,hp⟩ V W;by_cases g:k+1 < ks.length
 ·have I:((k+1:Nat):Int) < (ks.length:Int):=by omega
  have y:ks.length - (k+1) < ks.length - k:=by omega
  have A:k+1 < 4611686018427387904:=by omega
  have w1:IntKind.i64.wrap (((k+1:Nat):Int) - 1)=(k:Int):=by rw[zah (by omega) (by omega)];omega
  have q0:0<=IntKind.i64.wrap (((k+1:Nat):Int) - 1)/\IntKind.i64.wrap (((k+1:Nat):Int) - 1) < (ks.length:Int):=by rw[w1];omega
  have q1:0<=((k+1:Nat):Int)/\((k+1:Nat):Int) < (ks.length:Int):=by omega
  have f:k < ks.length:=Nat.lt_of_succ_lt g;have D:kL[ke+(IntKind.i64.wrap (((k+1:Nat):Int) - 1)).toNat]? =some [.int .i64 (ks[k]'f).1,sf k]:=by rw[w1];exact(k4 k f).1
  have E:kL[ke+((k+1:Nat):Int).toNat]? =some [.int .i64 (ks[k+1]'g).1,sf (k+1)]:=(k4 (k+1) g).1;have a:=SlR.lt k1 g;by_cases p:(ks[k]'f).1 < (ks[k+1]'g).1
  ·refine bri I ?_;refine dwS (lk [0,1,2,3,4,5,6,7,8,9,10,11,12,13] .done) [1] ?_;refine⟨rfl,a,q0,rfl,_,K a,_,D,rfl,a,q1,rfl,_,K a,_,E,?_⟩;refine br (fun h=>absurd (od h) (by omega)) (fun _=>?_);exact⟨⟨k+1,.inr g,fun i h Z=>(Nat.lt_succ_iff_lt_or_eq.1 Z).elim (hp i h) (fun e=>by subst e;exact p)⟩,y,leR [] V W rfl ⟨tv,zd6 _ (.inr (by omega)),tv⟩ ⟨cnt A,tv⟩ ⟨Fz.r F,rfl,tv⟩⟩
  ·have Y:(ks[k+1]'g).1<=(ks[k]'f).1:=Int.not_lt.1 p
   have B:asc ks=false:=by
    cases ha:asc ks with
    |false=>rfl
    |true=>exact absurd ((zsd ks).1 ha k g) p
   refine bri I ?_;refine dwS (lk [0,1,2,3,4,5,6,7,8,9,10,11,12,13] .done) [1] ?_;refine⟨rfl,a,q0,rfl,_,K a,_,D,rfl,a,q1,rfl,_,K a,_,E,bri Y ?_⟩;conv=>whnf
   first | exact d false F _ _ (M B) rfl (Fz.r F) | exact finL false F _ _ (M B) rfl (Fz.r F)
 ·have I:¬((k+1:Nat):Int) < (ks.length:Int):=by omega
  have l:asc ks=true:=(zsd ks).2 fun i h=>hp i h (by omega)
  refine brj I ?_;refine usePs (zsw id F) ?_;refine⟨fun s=>?_,fun s=>?_⟩
  ·refine usePs (zsw src F) ?_;refine⟨fun u=>?_,fun u=>?_⟩
   ·refine usePs (zsw q F) ?_;refine⟨fun w=>?_,fun w=>?_⟩
    ·rcases j with _ | _
     ·refine useFs c ?_;rintro _ F1 l1 rfl;exact d _ F1 _ _ (T l s u w (.inl rfl)) rfl l1
     ·refine⟨fun G=>?_,fun G=>?_⟩
      ·refine useFs c ?_;rintro _ F1 l1 rfl;exact d _ F1 _ _ (T l s u w (.inr G)) rfl l1
      ·conv=>whnf
       first | exact d false F _ _ (S rfl G) rfl (Fz.r F) | exact finL false F _ _ (S rfl G) rfl (Fz.r F)
    ·conv=>whnf
     first | exact d false F _ _ (R w) rfl (Fz.r F) | exact finL false F _ _ (R w) rfl (Fz.r F)
   ·conv=>whnf
    first | exact d false F _ _ (Q u) rfl (Fz.r F) | exact finL false F _ _ (Q u) rfl (Fz.r F)
  ·conv=>whnf
   first | exact d false F _ _ (O s) rfl (Fz.r F) | exact finL false F _ _ (O s) rfl (Fz.r F)
def zbr(p:Int):List Kp->List Stp
 |[]=>[]
 |k::r=>if k.1=p then k.2 else zbr p r
theorem zr0(p:Int)(l:List Kp)(k:Nat)(h:k < l.length):zbr p (l.drop k)=if(l[k]'h).1=p then(l[k]'h).2 else zbr p (l.drop (k+1)):=by
 rw[jk h];rfl
theorem zmc{ks:List Kp}(a:short ks)(p:Int):(zbr p ks).length < 1000000:=by
 induction ks with
 |nil=>simp[zbr]
 |cons x r ih=>
  rw[zbr];split
  ·exact a x (by simp)
  ·exact ih fun y b=>a y (by simp[b])
theorem znl(F:Fz)(sk:SA)(m:Mig)(p:Int)(I:KpsAt F sk m.keep)(J:short m.keep)(L:m.keep.length < 1000000):
  Fo Tryz.prog F 110 [.agg (migS m sk),.va (.int .i64 p)] (fun o q=>∃f,o=.ret (.va f)/\zay q f (zbr p m.keep)/\capS f):=by
 obtain⟨id,src,i,c,ks⟩:=m;replace I:KpsAt F sk ks:=I;replace L:ks.length < 1000000:=L;replace J:short ks:=J;show Fo Tryz.prog F 110 [.agg (migS ⟨id,src,i,c,ks⟩ sk),.va (.int .i64 p)] (fun o q=>∃f,o=.ret (.va f)/\zay q f (zbr p ks)/\capS f);obtain⟨kn,kb,ke,kc,kL,kr,rfl,k1,O,k3,k4⟩:=I;refine foS Tryz.func110 ?_;conv=>whnf
 refine zak hΘ (X:={ k:Nat // k<=ks.length/\zbr p ks=zbr p (ks.drop k) }) (fun x=>[(11,.va (.int .i64 x.1))]) (4::6::jr 12 11 [])
  (fun x=>[(0,.frz F),(1,.one (.cells 105 (migS ⟨id,src,i,c,ks⟩ (.slice kn 0 kb ke 2 ks.length kc))))]) 2 (fun x=>ks.length - x.1) ⟨0,by simp,by simp⟩
  (fun s u=>leI [] s u rfl ⟨tv,zd6 _ (.inr (by omega)),tv⟩ ⟨rfl,tv⟩ ⟨Fz.r F,rfl,tv⟩) ?_
 rintro⟨k,ag,e⟩ s u;by_cases g:k < ks.length
 ·have h:(k:Int) < (ks.length:Int):=by omega
  have l:ks.length - (k+1) < ks.length - k:=by omega
  have n:k < 4611686018427387904:=by omega
  have hx:=J (ks[k]'g) (qw g);rw[zr0 p ks k g]at e;have j:=SlR.at k4 g;obtain⟨y,M,a,rfl,K⟩:=j;have d:=zmv F a (ks[k]'g).2 K hx;have b:=SlR.lt k1 g;obtain⟨Z,V,Y,W,U,aa,rfl,Q,R,S,T⟩:=K;by_cases gp:(ks[k]'g).1=p
  ·rw[if_pos gp]at e;refine bri h ⟨b,⟨by simp,h⟩,_,O b,_,M,bri gp ?_⟩;refine useFs d ?_;rintro _ F1 l1 ⟨sb,rfl,hb,A⟩;have w:=hb;obtain⟨G,B,E,D,ae,af,rfl,ab,ac,ad,hb4⟩:=hb;exact endFs (.ret (.va (.slice G 0 B E 2 (ks[k]'g).2.length D))) l1 ⟨_,rfl,by rw[e];exact w,A⟩
  ·rw[if_neg gp]at e;refine bri h ⟨b,⟨by simp,h⟩,_,O b,_,M,brj gp ?_⟩;exact⟨⟨k+1,g,e⟩,l,leR [] s u rfl ⟨tv,zd6 _ (.inr (by omega)),tv⟩ ⟨cnt n,tv⟩ ⟨Fz.r F,rfl,tv⟩⟩
 ·have h:¬(k:Int) < (ks.length:Int):=by omega
  rw[yf (by omega)]at e;refine brj h ?_;exact endFo (.ret (.va (.slice true 0 0 0 2 0 0))) F rfl (Fz.r F) (Fz.r F) ⟨_,rfl,by rw[e];exact Sl.nil,qi 0⟩ ⟨rfl,rfl,rfl⟩ rfl
theorem z1e(F:Fz)(sk:SA)(m:Mig)(p:Int)(d:KpsAt F sk m.keep)(f:short m.keep)(e:m.keep.length < 1000000):
  Fo Tryz.prog F 110 [.agg (migS m sk),.va (.int .i64 p)] (fun o b=>∃a,o=.ret (.va a)/\zay b a (zbr p m.keep)):=
 zr9 (znl F sk m p d f e) fun _ _ ⟨a,h1,c,_⟩=>⟨a,h1,c⟩
theorem z7w(F:Fz)(sk:SA)(m:Mig)(p:Int)(b:KpsAt F sk m.keep)(s:short m.keep)(q:m.keep.length < 1000000):
  Fo Tryz.prog F 94 [.agg (migS m sk),.va (.int .i64 p)] (fun o _=>o=.ret (.va (.bool (decide (0 < (zbr p m.keep).length))))):=by
 have h:=z1e F sk m p b s q;obtain⟨id,src,c,a,ks⟩:=m;obtain⟨J,E,I,G,D,K,rfl,x,y,A,B⟩:=b;refine foS Tryz.func94 ?_;refine useFs h ?_;rintro _ F1 u ⟨L,rfl,hb⟩;obtain⟨l,i,k,j,g,n,rfl,d,e,f,hb4⟩:=hb;exact endFo (.ret (.va (.bool (decide (0 < (zbr p ks).length))))) F1 rfl u (Fz.r F1) rfl (ob (by simp)) rfl
def zbu(ks:List Kp)(p:Int):List Stp:=
 if(p=3/\0 < (zbr 4 ks).length)\/(p=5/\0 < (zbr 3 ks).length)then [(6,0)]else if p=6 then zbr 7 ks else zbr p ks
theorem zoa{ks:List Kp}{p q:Int}(h:(p=3/\q=4)\/(p=5/\q=3))(g:decide (0 < (zbr q ks).length)=true):zbu ks p=[(6,0)]:=by
 have g:=od g;rcases h with⟨rfl,rfl⟩ | ⟨rfl,rfl⟩
 ·rw[zbu,if_pos (.inl ⟨rfl,g⟩)]
 ·rw[zbu,if_pos (.inr ⟨rfl,g⟩)]
theorem zob{ks:List Kp}{p q:Int}(h:(p=3/\q=4)\/(p=5/\q=3))(g:decide (0 < (zbr q ks).length)=false):zbu ks p=zbr p ks:=by
 have g:=oe g;rcases h with⟨rfl,rfl⟩ | ⟨rfl,rfl⟩
 ·rw[zbu,if_neg (by rintro(⟨_,h⟩ | ⟨h,_⟩);exact g h;cases h),if_neg (by decide)]
 ·rw[zbu,if_neg (by rintro(⟨h,_⟩ | ⟨_,h⟩);cases h;exact g h),if_neg (by decide)]
theorem zyz{ks:List Kp}:zbu ks 6=zbr 7 ks:=by
 rw[zbu,if_neg (by rintro(⟨h,_⟩ | ⟨h,_⟩)<;>cases h),if_pos rfl]
theorem zy0{ks:List Kp}{p:Int}(a:p≠3)(b:p≠5)(c:p≠6):zbu ks p=zbr p ks:=by
 rw[zbu,if_neg (by rintro(⟨h,_⟩ | ⟨h,_⟩);exact a h;exact b h),if_neg c]
theorem KpsAt.up{F c:Fz}{t:Nat}{a:SA}{l:List Kp}(h:SlR F t 2 (KpR F) a l)(b:Fz.le F c):SlR c t 2 (KpR c) a l:=SlR.mono h b fun _ _ h=>h.mono b
theorem zqx(F:Fz):Fo Tryz.prog F 111 [] (fun o a=>∃e,o=.ret (.va e)/\zay a e [(6,0)]/\capS e):=by
 refine foS Tryz.func111 ?_;refine zdp 1 (fun _=>.arr 56 2 ([(6,0)].map enc) 1) ?_;intro b a d c;exact endFo (.ret (.va (.slice false 0 (b 0) 0 2 1 1))) a rfl d (Fz.r a) ⟨_,rfl,Sl.new (l:=[(6,0)]) (c 0 rfl),qi 1⟩ ⟨rfl,rfl,rfl,.inr ⟨rfl,rfl,rfl,rfl⟩⟩ rfl
theorem zy1(F:Fz)(sk:SA)(m:Mig)(p:Int)(X:KpsAt F sk m.keep)(hs:short m.keep)(hl:m.keep.length < 1000000):
  Fo Tryz.prog F 51 [.agg (migS m sk),.va (.int .i64 p)] (fun o U=>∃b,o=.ret (.agg [.int .i64 p,b])/\zay U b (zbu m.keep p)/\capS b):=by
 have j:=fun F1 (a:Fz.le F F1) q=>znl F1 sk m q (KpsAt.up X a) hs hl
 have T:=fun F1 (a:Fz.le F F1) q=>z7w F1 sk m q (KpsAt.up X a) hs hl
 obtain⟨id,src,ab,aa,ks⟩:=m
 have c:∀(b:SA) (F1:Fz) (h:Hp) (nx:Nat),capS b->zay F1 b (zbu ks p)->lget h 0=some (.frz F1)->Fz.le F F1->outE (.ret (.agg [.int .i64 p,b])) ((Out.ret (.agg [.int .i64 p,b])).ren (resP h))->
   Cln 1 (FoK F fun o U=>∃b,o=.ret (.agg [.int .i64 p,b])/\zay U b (zbu ks p)/\capS b) (.ret (.agg [.int .i64 p,b])) h nx:=by
  intro b F1 h nx W hb h0 Y ho;have hz:=hb.z;exact endFo (.ret (.agg [.int .i64 p,b])) F1 h0 Y (Fz.r F1) ⟨_,rfl,hb,W⟩ ho (by simp[Out.z,SV.z,hz];rfl)
 obtain⟨kn,kb,ke,kc,kL,kr,rfl,k1,k2,k3,k4⟩:=X;by_cases p3:p=3
 ·skip
  subst p3;refine foS Tryz.func51 ?_;refine useFs (j F (Fz.r F) 3) ?_;rintro _ F1 a ⟨sb,rfl,hb,e⟩;have d:=hb;obtain⟨D,y,B,A,x,E,rfl,s,u,w,hb4⟩:=hb;refine gae (by decide) ?_;refine useFs (T F1 a 4) ?_;rintro _ n k rfl;refine br (fun g=>?_) (fun g=>?_)
  ·refine br (fun _=>?_) (fun h=>absurd (h.symm.trans g) (by simp));refine useFs (zqx n) ?_;rintro _ V Z ⟨sc,rfl,l,i⟩;have f:=l;obtain⟨R,M,Q,O,L,S,rfl,G,I,J,K⟩:=l;exact c _ V _ _ i (by rw[zoa (by simp) g];exact f) rfl (Fz.t a (Fz.t k Z)) (zal _)
  ·refine gaf (by decide) ?_;refine brd (by decide) ?_;exact c _ n _ _ e (by rw[zob (by simp) g];exact d.mono k) rfl (Fz.t a k) (zal _)
 by_cases p5:p=5
 ·skip
  subst p5;refine foS Tryz.func51 ?_;refine useFs (j F (Fz.r F) 5) ?_;rintro _ F1 a ⟨sb,rfl,hb,e⟩;have d:=hb;obtain⟨D,y,B,A,x,E,rfl,s,u,w,hb4⟩:=hb;refine gaf (by decide) ?_;refine gae (by decide) ?_;refine useFs (T F1 a 3) ?_;rintro _ n k rfl;refine br (fun g=>?_) (fun g=>?_)
  ·refine useFs (zqx n) ?_;rintro _ V Z ⟨sc,rfl,l,i⟩;have f:=l;obtain⟨R,M,Q,O,L,S,rfl,G,I,J,K⟩:=l;exact c _ V _ _ i (by rw[zoa (by simp) g];exact f) rfl (Fz.t a (Fz.t k Z)) (zal _)
  ·refine brd (by decide) ?_;exact c _ n _ _ e (by rw[zob (by simp) g];exact d.mono k) rfl (Fz.t a k) (zal _)
 by_cases p6:p=6
 ·subst p6;refine foS Tryz.func51 ?_;refine useFs (j F (Fz.r F) 6) ?_;rintro _ F1 a ⟨sb,rfl,hb,e⟩;have d:=hb;obtain⟨D,y,B,A,x,E,rfl,s,u,w,hb4⟩:=hb;refine gaf (by decide) ?_;refine gaf (by decide) ?_;refine bre (by decide) ?_;refine useFs (j F1 a 7) ?_;rintro _ n k ⟨sc,rfl,l,i⟩;have f:=l;obtain⟨R,M,Q,O,L,S,rfl,G,I,J,K⟩:=l;exact c _ n _ _ i (by rw[zyz];exact f) rfl (Fz.t a k) (zal _)
 ·refine foS Tryz.func51 ?_;refine useFs (j F (Fz.r F) p) ?_;rintro _ F1 a ⟨sb,rfl,hb,e⟩;have d:=hb;obtain⟨D,y,B,A,x,E,rfl,s,u,w,hb4⟩:=hb;refine⟨fun g=>absurd (od g) p3,fun _=>?_⟩;refine⟨fun g=>absurd (od g) p5,fun _=>?_⟩;refine brj p6 ?_;exact c _ F1 _ _ e (by rw[zy0 p3 p5 p6];exact d) rfl a (zal _)
def za8(ks:List Kp):List Kp:=(List.range 8).map fun k:Nat=>((k:Int)+1,zbu ks ((k:Int)+1))
theorem zdf(ks:List Kp):(za8 ks).length=8:=by simp[za8]
theorem zk2(ks:List Kp)(k:Nat)(h:k < 8):(za8 ks)[k]? =some ((k:Int)+1,zbu ks ((k:Int)+1)):=by simp[za8,h]
def RowOf(F:Fz)(f:Nat->Kp)(o:List ZC):Prop:=∀i (z:ZC),o[i]? =some z->KpR F z.1 (f i)
theorem RowOf.mono{F b:Fz}{f:Nat->Kp}{o:List ZC}(h:RowOf F f o)(a:Fz.le F b):RowOf b f o:=fun i z c=>(h i z c).mono a
theorem RowOf.nil{F:Fz}{f:Nat->Kp}:RowOf F f []:=fun i z a=>by simp at a
theorem RowOf.snoc{F:Fz}{f:Nat->Kp}{o:List ZC}(h:RowOf F f o){z:ZC}(g:KpR F z.1 (f o.length)):RowOf F f (o++[z]):=fun i y a=>by
 by_cases e:i < o.length
 ·rw[js e]at a;exact h i y a
 ·rw[jx (by omega)]at a
  have d:i - o.length=0:=by
   by_cases h1:i - o.length=0
   ·exact h1
   ·rw[qaj (by simp;omega)]at a;cases a
  rw[d]at a;have c:z=y:=by simpa using a
  have b:i=o.length:=by omega
  rw[<-c,b];exact g
theorem RowOf.sl{F:Fz}{t b a cap:Nat}{f:Nat->Kp}{o:List ZC}{l:List Kp}(h:RowOf F f o)(g:F b=some (.arr t 2 (o.map encZ) a))(d:o.length=l.length)(i:∀k x,l[k]? =some x->x=f k):SlR F t 2 (KpR F) (.slice false 0 b 0 2 l.length cap) l:=
 SlR.new g (by rw[qe,d]) fun k x e=>by
  have c:k < o.length:=by rw[d];exact(ql.1 e).1
  exact⟨encZ o[k],by rw[qt,qa c];rfl,by rw[i k x e];exact h k o[k] (qa c)⟩
def mkZ(p:Int)(a:SA)(h:a.z=true):ZC:=⟨[.int .i64 p,a],fun x b=>by
 simp only[qn,qy,or_false]at b;rcases b with rfl | rfl
 ·rfl
 ·exact h⟩
def zg3(o:List ZC):Prop:=∀z∈o,∃p a,z.1=[.int .i64 p,a]/\capS a
theorem zg3.nil:zg3 []:=fun z h=>absurd h (by simp)
theorem zg3.snoc{o:List ZC}(h:zg3 o){p:Int}{a:SA}{c:a.z=true}(b:capS a):zg3 (o++[mkZ p a c]):=fun z hm=>by
 rcases yk.1 hm with hm | hm
 ·exact h z hm
 ·rw[qz]at hm;subst hm;exact⟨p,a,rfl,b⟩
theorem zmu(F:Fz)(sk:SA)(m:Mig)(S:KpsAt F sk m.keep)(hs:short m.keep)(hl:m.keep.length < 1000000):
  Fo Tryz.prog F 16 [.agg (migS m sk)] (fun o B=>(migOk m=false/\o=.ret (.tup [.va .nilsl,.va (.int .i64 90)]))\/
   (migOk m=true/\∃b c,o=.ret (.tup [.va (.slice false 0 b 0 2 8 c),.va (.int .i64 0)])/\ClsAt B (.slice false 0 b 0 2 8 c) (za8 m.keep)/\8<=c/\∃r:List ZC,B b=some (.arr 52 2 (r.map encZ) c)/\zg3 r/\r.length=8)):=by
 have ak:=fun F1 (l1:Fz.le F F1) q=>zy1 F1 sk m q (KpsAt.up S l1) hs hl
 have M:=z0w F sk m S hs hl;have J:=fun n (h:sk.below n)=>zd6 (n:=n) m h
 obtain⟨id,src,U,D,ks⟩:=m;replace S:KpsAt F sk ks:=S;obtain⟨v,hv⟩:∃v,migOk ⟨id,src,U,D,ks⟩=v:=⟨_,rfl⟩
 rw[hv]at M ⊢;clear hv;obtain⟨kn,kb,ke,kc,kL,kr,rfl,k1,k2,k3,k4⟩:=S;replace J:∀n,0 < n->(Ent.one (.cells 32 (migS ⟨id,src,U,D,ks⟩ (.slice kn 0 kb ke 2 ks.length kc)))).below n:=fun n hn=>J n (.inr hn)
 rcases v with _ | _
 ·refine foS Tryz.func16 ?_;refine useFs M ?_;rintro _ F1 l1 rfl;refine bre (by decide) ?_;exact endFs (.ret (.tup [.va .nilsl,.va (.int .i64 90)])) l1 (.inl ⟨rfl,rfl⟩)
 ·refine foS Tryz.func16 ?_;refine useFs M ?_;rintro _ F1 l1 rfl;refine brd (by decide) ?_;conv=>whnf
  refine zak hΘ (X:={ y:Nat×List ZC×Nat×Fz // Fz.le F y.2.2.2/\y.1<=8/\y.2.1.length=y.1/\RowOf y.2.2.2 (fun k=>((k:Int)+1,zbu ks ((k:Int)+1))) y.2.1/\zg3 y.2.1/\y.2.1.length<=y.2.2.1 }) (fun y=>[(4,.va (gA 2 2 y.1.2.2.1 y.1.2.1)),(9,.va (.int .i64 y.1.1))]) (5::jr 10 11 [])
   (fun y=>[(0,.frz y.1.2.2.2),(1,.one (.cells 32 (migS ⟨id,src,U,D,ks⟩ (.slice kn 0 kb ke 2 ks.length kc)))),(2,gE 52 2 encZ y.1.2.2.1 y.1.2.1)]) 3 (fun y=>8 - y.1.1) ⟨(0,[],0,F1),l1,by omega,rfl,RowOf.nil,zg3.nil,qi 0⟩
   (fun hH hT=>leI [(2,2)] hH hT rfl ⟨tv,J 3 (by omega),zco zbb (by omega) _ _ _ _,tv⟩ ⟨rfl,rfl,tv⟩ ⟨Fz.r F1,rfl,rfl,tv⟩) ?_
  rintro⟨⟨k,o,co,G⟩,Z,S,ho,u,p,Y⟩ hH hT;replace p:zg3 o:=p;replace Y:o.length<=co:=Y;replace Z:Fz.le F G:=Z;replace S:k<=8:=S;replace ho:o.length=k:=ho;replace u:RowOf G (fun k=>((k:Int)+1,zbu ks ((k:Int)+1))) o:=u;by_cases g:k < 8
  ·have O:(k:Int) < 8:=by omega
   have ac:k+1<=8:=g;have R:8 - (k+1) < 8 - k:=by omega
   have I:k < 4611686018427387904:=by omega
   have hw:SA.int .i64 ((k:Int)+1)=SA.int .i64 (IntKind.i64.wrap ((k:Int)+1)):=cnt I;have E:=ak G Z ((k:Int)+1);have ad:∀(A:Fz) (z:ZC),Fz.le G A->KpR A z.1 ((k:Int)+1,zbu ks ((k:Int)+1))->RowOf A (fun k=>((k:Int)+1,zbu ks ((k:Int)+1))) (o++[z]):=fun A z w hz=>(u.mono w).snoc (by rw[ho];exact hz)
   have T:∀z:ZC,(o++[z]).length=k+1:=fun z=>by rw[qd,ho];rfl
   rcases o with _ | ⟨o0,s⟩
   ·refine bri O ?_;refine useFo E rfl ⟨rfl,hw,tv⟩ rfl ?_;rintro _ A l2 ⟨sa,rfl,K,W⟩;have L:=K;obtain⟨f,a,e,d,ai,aj,rfl,ae,af,ag,ah⟩:=K;refine⟨nb rfl,[[.int .i64 ((k:Int)+1),.slice f 0 a e 2 (zbu ks ((k:Int)+1)).length d]],rfl,rfl,rfl,by show 1*32<=140737488355328;omega,fun c' V=>?_⟩;exact⟨⟨(k+1,[]++[mkZ ((k:Int)+1) (.slice f 0 a e 2 (zbu ks ((k:Int)+1)).length d) rfl],c',A),Fz.t Z l2,ac,T _,ad A _ l2 ⟨_,rfl,L⟩,p.snoc W,by simpa using V⟩,R,leR [(2,4)] hH hT rfl ⟨tv,J 3 (by omega),zco zbb (by omega) _ _ _ _,tv⟩ ⟨by(conv=>whnf);exact⟨rfl,rfl,rfl,.inr ⟨rfl,rfl,rfl,rfl⟩⟩,cnt I,tv⟩ ⟨Fz.r A,rfl,zgm (μ:=sig [(2,4)]) zbb (fun k=>rfl) (za3 _ (by rw[qs];rfl)),tv⟩⟩
   ·have an:(s.length+1+1)*32<=140737488355328:=by
     have h9:s.length+1=k:=ho;omega
    refine bri O ?_;refine useFo E rfl ⟨rfl,hw,tv⟩ rfl ?_;rintro _ A l2 ⟨sa,rfl,K,W⟩;have L:=K;obtain⟨f,a,e,d,ai,aj,rfl,ae,af,ag,ah⟩:=K;refine⟨nb rfl,[[.int .i64 ((k:Int)+1),.slice f 0 a e 2 (zbu ks ((k:Int)+1)).length d]],rfl,rfl,rfl,by simp,rfl,an,fun c' V=>?_⟩;exact⟨⟨(k+1,(o0::s)++[mkZ ((k:Int)+1) (.slice f 0 a e 2 (zbu ks ((k:Int)+1)).length d) rfl],c',A),Fz.t Z l2,ac,T _,ad A _ l2 ⟨_,rfl,L⟩,p.snoc W,by simpa using V⟩,R,leR [(2,4)] hH hT rfl ⟨tv,J 3 (by omega),zco zbb (by omega) _ _ _ _,tv⟩ ⟨zdh (μ:=sig [(2,4)]) (i:=2) (j:=4) rfl 2 c' _ (o0::s) (mkZ ((k:Int)+1) (.slice f 0 a e 2 (zbu ks ((k:Int)+1)).length d) rfl) rfl,cnt I,tv⟩ ⟨Fz.r A,rfl,zgm (μ:=sig [(2,4)]) zbb (fun k=>rfl) (za3 _ (by rw[qs];rfl)),tv⟩⟩
  ·have O:¬(k:Int) < 8:=by omega
   have al:k=8:=by omega
   have Q:o.length=8:=ho.trans al
   have ab:∀(B:Fz) (b c:Nat),Fz.le G B->B b=some (.arr 52 2 (o.map encZ) c)->ClsAt B (.slice false 0 b 0 2 8 c) (za8 ks):=fun B b c w hb=>by
    have h:=(u.mono w).sl (cap:=c) (l:=za8 ks) hb (by rw[Q,zdf]) fun i x hx=>by
     have hi:i < 8:=by have:=(ql.1 hx).1;rw[zdf]at this;exact this
     rw[zk2 ks i hi]at hx;exact(Option.some.inj hx).symm
    rw[zdf]at h;exact h
   rcases o with _ | ⟨o0,s⟩
   ·cases Q
   ·have am:s.length+1=8:=Q;refine brj O ?_;refine zck 2 (fun _=>.arr 52 2 ((o0::s).map encZ) co) rfl rfl rfl (fun _ _=>by exact zg2 (μ:=resP _) zbb (fun k=>rfl) rfl _ _ _) (fun _ _=>zdc zbb (by omega) _ _ _ _) ?_;intro b' B w aa;refine endFo (.ret (.tup [.va (.slice false 0 (b' 0) 0 2 8 co),.va (.int .i64 0)])) B rfl (Fz.t Z w) (Fz.r B) (.inr ⟨rfl,_,_,rfl,ab B _ _ w (aa 0 ⟨rfl,rfl⟩),by have h9:s.length+1<=co:=Y;omega,_,aa 0 ⟨rfl,rfl⟩,p,Q⟩) ?_ rfl;exact⟨⟨rfl,am.symm,rfl,.inr ⟨rfl,rfl,rfl,rfl⟩⟩,rfl,tv⟩
theorem zy2(F:Fz)(sk:SA)(m:Mig)(f:KpsAt F sk m.keep)(i:short m.keep)(g:m.keep.length < 1000000):
  Fo Tryz.prog F 16 [.agg (migS m sk)] (fun o a=>(migOk m=false/\o=.ret (.tup [.va .nilsl,.va (.int .i64 90)]))\/
   (migOk m=true/\∃b c,o=.ret (.tup [.va (.slice false 0 b 0 2 8 c),.va (.int .i64 0)])/\ClsAt a (.slice false 0 b 0 2 8 c) (za8 m.keep))):=
 zr9 (zmu F sk m f i g) fun _ _ h=>h.imp id fun⟨h1,b,c,d,e,_⟩=>⟨h1,b,c,d,e⟩
structure Crt where
 src:List UInt8
 dst:List UInt8
 len:Int
 cl:List Kp
abbrev crtS(c:Crt)(sk:SA):List SA:=[.str c.src,.str c.dst,.int .i64 c.len,sk]
theorem zan{n:Nat}(c:Crt){t:Nat}{sk:SA}(h:sk.below n):(Ent.one (.cells t (crtS c sk))).below n:=by
 intro a b;simp only[qn,qy,or_false]at b;rcases b with rfl | rfl | rfl | rfl
 ·trivial
 ·trivial
 ·trivial
 ·exact h
def clAt(x:Kp)(i:Int):Bool:=decide (x.1=i)&&(za2 x.1 x.2&&decide (normS x.2=x.2))
def clOk:List Kp->Int->Bool
 |[],_=>true
 |x::r,i=>clAt x i&&clOk r (i+1)
theorem zyx(l:List Kp)(k:Nat)(i:Int)(h:k < l.length):clOk (l.drop k) i=(clAt (l[k]'h) i&&clOk (l.drop (k+1)) (i+1)):=by
 rw[jk h];rfl
def crtOk(c:Crt):Bool:=decide (c.src.length=32)&&(decide (c.dst.length=32)&&(decide (1<=c.len)&&(decide (c.len<=64)&&(decide (c.cl.length=8)&&clOk c.cl 1))))
theorem clA1{x:Kp}{i j:Int}(a:j=i)(h:(!decide (x.1=j))=true):clAt x i=false:=by
 subst a;have:decide (x.1=j)=false:=by simpa using h
 simp only[clAt,this,q9]
theorem clA2{x:Kp}{i:Int}(h:(!decide ((normR x.1 x.2).2=0))=true):clAt x i=false:=by
 have a:za2 x.1 x.2=false:=by
  cases b:za2 x.1 x.2 with
  |false=>rfl
  |true=>rw[normR,if_pos b]at h;cases h
 simp only[clAt,a,q9,jz]
theorem clA3{x:Kp}{i:Int}(b:(!decide ((normR x.1 x.2).2=0))=false)(h:(!decide ((normR x.1 x.2).1=x.2))=true):clAt x i=false:=by
 have c:=zkn (p:=x.1) (l:=x.2) (by simpa using b);have a:decide ((normR x.1 x.2).1=x.2)=false:=by simpa using h
 rw[c.2]at a;simp only[clAt,a,jz]
theorem clAT{x:Kp}{i j:Int}(e:j=i)(h1:(!decide (x.1=j))=false)(c:(!decide ((normR x.1 x.2).2=0))=false)(h:(!decide ((normR x.1 x.2).1=x.2))=false):clAt x i=true:=by
 subst e;have a:=zkn (p:=x.1) (l:=x.2) (by simpa using c);have b:decide ((normR x.1 x.2).1=x.2)=true:=by simpa using h
 have d:decide (x.1=j)=true:=by simpa using h1
 rw[a.2]at b;simp only[clAt,d,a.1,b,Bool.and_self]
theorem cOk1{c:Crt}(h:(!decide ((c.src.length:Int)=32))=true):crtOk c=false:=by
 have:decide (c.src.length=32)=false:=by simp at h ⊢;omega
 simp only[crtOk,this,q9]
theorem cOk2{c:Crt}(h:(!decide ((c.dst.length:Int)=32))=true):crtOk c=false:=by
 have:decide (c.dst.length=32)=false:=by simp at h ⊢;omega
 simp only[crtOk,this,q9,jz]
theorem cOk3{c:Crt}(h:decide (c.len < 1)=true):crtOk c=false:=by
 have:decide (1<=c.len)=false:=by simp at h ⊢;omega
 simp only[crtOk,this,q9,jz]
theorem cOk4{c:Crt}(h:decide (64 < c.len)=true):crtOk c=false:=by
 have:decide (c.len<=64)=false:=by simp at h ⊢;omega
 simp only[crtOk,this,q9,jz]
theorem cOk5{c:Crt}(h:(!decide ((c.cl.length:Int)=8))=true):crtOk c=false:=by
 have:decide (c.cl.length=8)=false:=by simp at h ⊢;omega
 simp only[crtOk,this,q9,jz]
theorem cOkT{c:Crt}(h1:(!decide ((c.src.length:Int)=32))=false)(g:(!decide ((c.dst.length:Int)=32))=false)(h:decide (c.len < 1)=false)(i:decide (64 < c.len)=false)(j:(!decide ((c.cl.length:Int)=8))=false):crtOk c=clOk c.cl 1:=by
 have a:decide (c.src.length=32)=true:=by simp at h1 ⊢;omega
 have b:decide (c.dst.length=32)=true:=by simp at g ⊢;omega
 have d:decide (1<=c.len)=true:=by simp at h ⊢;omega
 have e:decide (c.len<=64)=true:=by simp at i ⊢;omega
 have f:decide (c.cl.length=8)=true:=by simp at j ⊢;omega
 simp only[crtOk,a,b,d,e,f,yq]
theorem zfi(F:Fz)(sk:SA)(c:Crt)(W:ClsAt F sk c.cl)(Z:short c.cl)(hl:c.cl.length < 1000000):
  Fo Tryz.prog F 25 [.agg (crtS c sk)] (fun o _=>o=.ret (.va (.bool (crtOk c)))):=by
 have e1:=cOk1 (c:=c);have e2:=cOk2 (c:=c);have e3:=cOk3 (c:=c);have e4:=cOk4 (c:=c);have e5:=cOk5 (c:=c);have eT:=cOkT (c:=c);obtain⟨v,hv⟩:∃v,crtOk c=v:=⟨_,rfl⟩
 rw[hv]at e1 e2 e3 e4 e5 eT ⊢;clear hv;obtain⟨src,M,aa,ks⟩:=c;replace W:ClsAt F sk ks:=W;replace Z:short ks:=Z;replace hl:ks.length < 1000000:=hl
 have d:∀(b:Bool) (F1:Fz) (h:Hp) (nx:Nat),v=b->lget h 0=some (.frz F1)->Fz.le F F1->Cln 1 (FoK F fun o F'=>o=.ret (.va (.bool v))) (.ret (.va (.bool b))) h nx:=by
  intro b F1 h nx hb R q;exact endFo (.ret (.va (.bool b))) F1 R q (Fz.r F1) (by rw[hb]) rfl rfl
 have finL:∀(b:Bool) (F1:Fz) (h:Hp) (nx:Nat),v=b->lget h 0=some (.frz F1)->Fz.le F F1->Cln 1 (FoK F fun o F'=>o=.ret (.va (.bool v))) (.ret (.va (.lit b))) h nx:=by
  intro b F1 h nx hb R q;exact endFo (.ret (.va (.bool b))) F1 R q (Fz.r F1) (by rw[hb]) rfl rfl
 obtain⟨kn,kb,ke,kc,kL,kr,rfl,k1,k2,k3,k4⟩:=W;refine foS Tryz.func25 ?_;refine⟨fun m=>?_,fun m=>?_⟩
 rotate_left
 ·exact d false F _ _ (e1 m) rfl (Fz.r F)
 refine⟨fun e=>?_,fun e=>?_⟩
 rotate_left
 ·exact d false F _ _ (e2 e) rfl (Fz.r F)
 refine⟨fun n=>?_,fun n=>?_⟩
 rotate_left
 ·exact d false F _ _ (e3 n) rfl (Fz.r F)
 refine⟨fun O=>?_,fun O=>?_⟩
 rotate_left
 ·exact d false F _ _ (e4 O) rfl (Fz.r F)
 refine br (fun Q=>?_) (fun Q=>?_)
 ·exact d false F _ _ (e5 Q) rfl (Fz.r F)
 conv=>whnf
 have A:=eT m e n O Q
 refine zak hΘ (X:={ x:Nat×Fz // Fz.le F x.2/\x.1<=ks.length/\v=clOk (ks.drop x.1) ((x.1:Int)+1) }) (fun x=>[(36,.va (.int .i64 x.1.1))]) (2::3::4::5::6::jr 37 29 [])
  (fun x=>[(0,.frz x.1.2),(1,.one (.cells 48 (crtS ⟨src,M,aa,ks⟩ (.slice kn 0 kb ke 2 ks.length kc))))]) 2 (fun x=>ks.length - x.1.1) ⟨(0,F),Fz.r F,by simp,A⟩
  (fun S A=>leI [] S A rfl ⟨tv,zan _ (.inr (by omega)),tv⟩ ⟨rfl,tv⟩ ⟨Fz.r F,rfl,tv⟩) ?_
 rintro⟨⟨k,G⟩,f,E,l⟩ S A;replace f:Fz.le F G:=f;replace E:k<=ks.length:=E;replace l:v=clOk (ks.drop k) ((k:Int)+1):=l;by_cases g:k < ks.length
 ·have J:(k:Int) < (ks.length:Int):=by omega
  have B:ks.length - (k+1) < ks.length - k:=by omega
  have D:k < 4611686018427387904:=by omega
  have hw:IntKind.i64.wrap ((k:Int)+1)=(k:Int)+1:=zah (by omega) (by omega);have hx:=Z (ks[k]'g) (qw g);rw[zyx ks k _ g]at l;have s:clAt (ks[k]'g) ((k:Int)+1)=false->v=false:=fun h=>by rw[l,h,q9]
  have Y:clAt (ks[k]'g) ((k:Int)+1)=true->v=clOk (ks.drop (k+1)) (((k+1:Nat):Int)+1):=fun h=>by rw[l,h,yq];rfl
  have w:=SlR.at k4 g;obtain⟨y,hy,a,rfl,T⟩:=w;have p:=znk G a (ks[k]'g).2 (ks[k]'g).1 (T.mono f) hx;have V:=fun F1 (K:Fz.le G F1) sb hb=>zir F1 sb a (normR (ks[k]'g).1 (ks[k]'g).2).1 (ks[k]'g).2 hb ((T.mono f).mono K) (znj _ _)
  have j:=SlR.lt k1 g;have q1:=clA1 (x:=ks[k]'g) hw;have q2:=clA2 (x:=ks[k]'g) (i:=(k:Int)+1);have q3:=clA3 (x:=ks[k]'g) (i:=(k:Int)+1);have qT:=clAT (x:=ks[k]'g) hw;obtain⟨av,aq,au,ar,ap,aw,rfl,al,am,an,ao⟩:=T;refine bri J ⟨j,⟨by simp,J⟩,_,f _ _ (k2 j),_,hy,?_⟩;refine useFs p ?_;rintro _ u K ⟨sc,rfl,I⟩;have U:=V u K sc I;have L:=Fz.t f K;obtain⟨aj,ag,ai,ah,af,ak,rfl,ab,ac,ad,ae⟩:=I;refine⟨fun m=>?_,fun m=>?_⟩
  rotate_left
  ·exact d false u _ _ (s (q1 m)) rfl L
  refine⟨fun e=>?_,fun e=>?_⟩
  rotate_left
  ·exact d false u _ _ (s (q2 e)) rfl L
  refine usePs (U) ?_;refine br (fun n=>?_) (fun n=>?_)
  ·exact d false u _ _ (s (q3 e n)) rfl L
  ·exact⟨⟨(k+1,u),L,g,Y (qT m e n)⟩,B,leR [] S A rfl ⟨tv,zan _ (.inr (by omega)),tv⟩ ⟨cnt D,tv⟩ ⟨Fz.r u,rfl,tv⟩⟩
 ·have J:¬(k:Int) < (ks.length:Int):=by omega
  rw[yf (by omega)]at l;refine brj J ?_;conv=>whnf
  first | exact d true G _ _ l rfl f | exact finL true G _ _ l rfl f
theorem z7m(F:Fz)(g i:SA)(p q:Int)(a b:List Stp)(j:zay F g a)(hb:zay F i b)(R:a.length < 1000000):
  Fo Tryz.prog F 66 [.agg [.int .i64 p,g],.agg [.int .i64 q,i]] (fun o d=>o=.ret (.va (.bool (decide (((p,a):Kp)=(q,b)))))/\d=F):=by
 have f:=zir F g i a b j hb R
 have c:∀(v:Bool) (h:Hp) (nx:Nat),decide (((p,a):Kp)=(q,b))=v->lget h 0=some (.frz F)->Cln 1 (FoK F fun o d=>o=.ret (.va (.bool (decide (((p,a):Kp)=(q,b)))))/\d=F) (.ret (.va (.bool v))) h nx:=by
  intro v h nx Q k;exact endPu k (Fz.r F) (ob Q) rfl
 obtain⟨A,w,y,x,u,B,rfl,l,m,n,s⟩:=j;obtain⟨M,J,L,K,I,O,rfl,D,E,G,hb4⟩:=hb;refine foS Tryz.func66 ?_;refine⟨fun e=>?_,fun e=>?_⟩
 ·refine usePs (f) ?_;exact c _ _ _ (by have h:=od e;subst h;simp) rfl
 ·exact c _ _ _ (by have h:=oe e;simp[h]) rfl
theorem z9p(F:Fz)(A B:SA)(a b:List Kp)(w:ClsAt F A a)(hb:ClsAt F B b)(hs:short a)(la:a.length < 1000000):
  Fo Tryz.prog F 65 [.va A,.va B,.va (.fn (.func 66) [])] (fun o j=>o=.ret (.va (.bool (decide (a=b))))/\j=F):=by
 have f:∀(v:Bool) (h:Hp) (nx:Nat),decide (a=b)=v->lget h 0=some (.frz F)->Cln 1 (FoK F fun o j=>o=.ret (.va (.bool (decide (a=b))))/\j=F) (.ret (.va (.bool v))) h nx:=by
  intro v h nx L G;exact endPu G (Fz.r F) (ob L) rfl
 have finL:∀(v:Bool) (h:Hp) (nx:Nat),decide (a=b)=v->lget h 0=some (.frz F)->Cln 1 (FoK F fun o j=>o=.ret (.va (.bool (decide (a=b))))/\j=F) (.ret (.va (.lit v))) h nx:=by
  intro v h nx L G;exact endPu G (Fz.r F) (by rw[L];exact rfl) rfl
 obtain⟨an,ab,ae,ac,aL,ar,rfl,Q,R,a3,S⟩:=w;obtain⟨bn,bb,be,bc,bL,W,rfl,T,U,b3,V⟩:=hb;refine foS Tryz.func65 ?_;refine br (fun g=>?_) (fun g=>?_)
 ·refine f _ _ _ ?_ rfl;have:¬a=b:=by rintro rfl;simp at g
  simp[this]
 ·have Y:a.length=b.length:=neq_f g
  conv=>whnf
  refine zak hΘ (X:={ k:Nat // k<=a.length/\a.take k=b.take k }) (fun x=>[(17,.va (.int .i64 x.1))]) (6::7::8::9::jr 18 14 []) (fz fun _=>F) 1 (fun x=>a.length - x.1) ⟨0,by simp,rfl⟩
   (fun I J=>leI [] I J rfl ⟨tv,tv⟩ ⟨rfl,tv⟩ ⟨Fz.r F,tv⟩) ?_
  rintro⟨k,az,O⟩ I J;by_cases g:k < a.length
  ·have d:k < b.length:=Y▸g;have u:(k:Int) < (a.length:Int):=by omega
   have E:(k:Int) < (b.length:Int):=by omega
   have m:a.length - (k+1) < a.length - k:=by omega
   have n:k < 4611686018427387904:=by omega
   have hx:=hs (a[k]'g) (qw g);have c:=SlR.at S g;obtain⟨y,hy,A,rfl,w⟩:=c;have c:=SlR.at V d;obtain⟨z,hz,B,rfl,hb⟩:=c;have i:=z7m F A B (a[k]'g).1 (b[k]'d).1 (a[k]'g).2 (b[k]'d).2 w hb hx;have p:=SlR.lt Q g;have q:=SlR.lt T d;have K:a[k]'g=b[k]'d->a.take (k+1)=b.take (k+1):=fun h=>by rw[qf g,qf d,O,h]
   have l:¬a[k]'g=b[k]'d->decide (a=b)=false:=fun h=>decide_eq_false fun e=>h (by subst e;rfl)
   obtain⟨ak,ah,aj,ai,ag,al,rfl,Z,aa,ad,af⟩:=w;obtain⟨ax,au,aw,av,aq,ay,rfl,am,ao,ap,hb4⟩:=hb;refine bri u ⟨p,⟨by simp,u⟩,_,R p,_,hy,q,⟨by simp,E⟩,_,U q,_,hz,?_⟩;refine usePs (i) ?_;refine br (fun D=>?_) (fun D=>?_)
   ·conv=>whnf
    have s:(!decide (a[k]'g=b[k]'d))=true:=D
    first | exact f false _ _ (l (by simpa using s)) rfl | exact finL false _ _ (l (by simpa using s)) rfl
   ·conv=>whnf
    have s:(!decide (a[k]'g=b[k]'d))=false:=D;exact⟨⟨k+1,g,K (by simpa using s)⟩,m,leR [] I J rfl ⟨tv,tv⟩ ⟨cnt n,tv⟩ ⟨Fz.r F,tv⟩⟩
  ·have u:¬(k:Int) < (a.length:Int):=by omega
   have M:decide (a=b)=true:=decide_eq_true (by rw[<-qh (show a.length<=k by omega),O,qh (by omega)]);refine brj u ?_;conv=>whnf
   first | exact f true _ _ M rfl | exact finL true _ _ M rfl
theorem beqD{s t:List UInt8}{x:Bool}(h:(s==t)=x):decide (s=t)=x:=by rw[<-h,qcq];simp
def zod(a b:Crt):Bool:=decide (a.src=b.src)&&(decide (a.dst=b.dst)&&(decide (a.len=b.len)&&decide (a.cl=b.cl)))
theorem zt6(F:Fz)(m n:SA)(a b:Crt)(u:ClsAt F m a.cl)(hb:ClsAt F n b.cl)(y:short a.cl)(B:a.cl.length < 1000000):
  Fo Tryz.prog F 27 [.agg (crtS a m),.agg (crtS b n)] (fun o e=>o=.ret (.va (.bool (zod a b)))/\e=F):=by
 have c:=z9p F m n a.cl b.cl u hb y B;obtain⟨i,d1,f,k⟩:=a;obtain⟨j,d2,g,l⟩:=b;replace c:Fo Tryz.prog F 65 [.va m,.va n,.va (.fn (.func 66) [])] (fun o e=>o=.ret (.va (.bool (decide (k=l))))/\e=F):=c;show Fo Tryz.prog F 27 [.agg (crtS ⟨i,d1,f,k⟩ m),.agg (crtS ⟨j,d2,g,l⟩ n)] (fun o e=>o=.ret (.va (.bool (decide (i=j)&&(decide (d1=d2)&&(decide (f=g)&&decide (k=l))))))/\e=F)
 have d:∀(v:Bool) (h:Hp) (nx:Nat),(decide (i=j)&&(decide (d1=d2)&&(decide (f=g)&&decide (k=l))))=v->lget h 0=some (.frz F)->Cln 1 (FoK F fun o e=>o=.ret (.va (.bool (decide (i=j)&&(decide (d1=d2)&&(decide (f=g)&&decide (k=l))))))/\e=F) (.ret (.va (.bool v))) h nx:=by
  intro v h nx A x;exact endPu x (Fz.r F) (ob A) rfl
 obtain⟨J,E,I,G,D,K,rfl,-,-,-,-⟩:=u;obtain⟨R,M,Q,O,L,w,rfl,-,-,-,-⟩:=hb;refine foS Tryz.func27 ?_;refine⟨fun p=>?_,fun p=>?_⟩
 rotate_left
 ·exact d false _ _ (by rw[show decide (i=j)=false from beqD p];rfl) rfl
 refine⟨fun q=>?_,fun q=>?_⟩
 rotate_left
 ·exact d false _ _ (by rw[show decide (d1=d2)=false from beqD q];simp) rfl
 refine⟨fun s=>?_,fun s=>?_⟩
 rotate_left
 ·exact d false _ _ (by rw[show decide (f=g)=false from s];simp) rfl
 refine usePs (c) ?_;exact d _ _ _ (by rw[show decide (i=j)=true from beqD p,show decide (d1=d2)=true from beqD q,show decide (f=g)=true from s];rfl) rfl
