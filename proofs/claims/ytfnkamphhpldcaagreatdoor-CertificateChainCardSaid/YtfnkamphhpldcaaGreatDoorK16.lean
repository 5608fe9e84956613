import Derived.Test.YtfnkamphhpldcaaGreatDoorK15
set_option maxHeartbeats 64000000
namespace Go.Proofs.YtfnkamphhpldcaaGreatDoor
open Go Sx Tryz
set_option maxRecDepth 100000
structure Mig where
 id:Int
 src:Int
 dst:Int
 back:Bool
 keep:List Kp
def asc:List Kp->Bool
 |a::b::r=>decide (a.1 < b.1)&&asc (b::r)
 |_=>true
theorem qE:∀(l:List Kp),asc l=true↔∀i (h:i+1 < l.length),l[i].1 < l[i+1].1
 |[]=>by simp[asc]
 |[a]=>by simp[asc]
 |a::b::r=>by
  rw[asc,qd,qE (b::r),decide_eq_true_eq];constructor
  ·rintro⟨h1,c⟩ i h;cases i with
   |zero=>exact h1
   |succ i=>exact c i (by simpa using h)
  ·intro h;exact⟨h 0 ss,fun i d=>h (i+1) (by simpa using d)⟩
def idOk(n:Int):Bool:=decide (1<=n)&&decide (n<=1000000)
def migOk(m:Mig):Bool:=asc m.keep&&(idOk m.id&&(idOk m.src&&(idOk m.dst&&(!(m.back&&decide (0 < m.keep.length))&&m.keep.all aZ))))
abbrev migS(m:Mig)(sk:SA):List SA:=[.int .i64 m.id,.int .i64 m.src,.int .i64 m.dst,.lit m.back,sk]
theorem jO{n:Nat}(m:Mig){sk:SA}(h:sk.below n):(Ent.one (.cells 32 (migS m sk))).below n:=by
 intro a b;simp only[qi,qp,or_false]at b;rcases b with rfl | rfl | rfl | rfl | rfl
 ·trivial
 ·trivial
 ·trivial
 ·trivial
 ·exact h
theorem qO(n:Int)(F:Fz):Fo prog F 108 [.va (.int .i64 n)] (fun o a=>o=.ret (.va (.bool (idOk n)))/\a=F):=by
 refine foS func108 ?_;refine⟨fun g=>?_,fun g=>?_⟩
 ·exact endPu rfl (Fz.r F) (ob (by show(decide (1<=n)&&decide (n<=1000000))=_;rw[show decide (1<=n)=true from g];rfl)) rfl
 ·exact endPu rfl (Fz.r F) (ob (by show(decide (1<=n)&&decide (n<=1000000))=_;rw[show decide (1<=n)=false from g];rfl)) rfl
variable {m:Mig}
theorem mOk0(h:asc m.keep=false):migOk m=false:=by simp only[migOk,h,jv]
theorem mOk1(h:idOk m.id=false):migOk m=false:=by simp only[migOk,h,jv,yk]
theorem mOk2(h:idOk m.src=false):migOk m=false:=by simp only[migOk,h,jv,yk]
theorem mOk3(h:idOk m.dst=false):migOk m=false:=by simp only[migOk,h,jv,yk]
theorem mOk4(hb:m.back=true)(h:(!decide ((0:Int) < (m.keep.length:Int)))=false):migOk m=false:=by
 have a:decide (0 < m.keep.length)=true:=by simp at h ⊢;omega
 simp only[migOk,hb,a,qdb,Bool.not_true,jv,yk]
theorem mOkT(a:asc m.keep=true)(h1:idOk m.id=true)(b:idOk m.src=true)(c:idOk m.dst=true)(h4:m.back=false\/(!decide ((0:Int) < (m.keep.length:Int)))=true):migOk m= !(!m.keep.all aZ):=by
 have d:(!(m.back&&decide (0 < m.keep.length)))=true:=by
  rcases h4 with h4 | h4
  ·rw[h4];rfl
  ·have:decide (0 < m.keep.length)=false:=by simp at h4 ⊢;exact h4
   rw[this];simp
 simp only[migOk,a,h1,b,c,d,yz,Bool.not_not]
theorem vZ(F:Fz)(sk:SA)(m:Mig)(J:KpsAt F sk m.keep)(hs:short m.keep)(hl:m.keep.length < 1000000):
  Fo prog F 50 [.agg (migS m sk)] (fun o _=>o=.ret (.va (.bool (migOk m)))):=by
 have d:=Cm F sk m.keep J hs hl;have M:=mOk0 (m:=m);have O:=mOk1 (m:=m);have Q:=mOk2 (m:=m);have R:=mOk3 (m:=m);have S:=mOk4 (m:=m);have T:=mOkT (m:=m);obtain⟨v,hv⟩:∃v,migOk m=v:=⟨_,rfl⟩
 rw[hv]at M O Q R S T ⊢;clear hv;obtain⟨id,src,q,j,a⟩:=m;replace J:KpsAt F sk a:=J;replace hl:a.length < 1000000:=hl;replace d:Fo prog F 109 [.va sk,.va (.fn (.func 106) [])] (fun o L=>o=.ret (.va (.bool (!a.all aZ)))):=d;obtain⟨kn,kb,ke,kc,kL,kr,sf,rfl,k1,K,k3,k4⟩:=KpsAt.open J
 have fin:∀(b:Bool) (F1:Fz) (h:Hp) (nx:Nat),v=b->lget h 0=some (.frz F1)->Fz.le F F1->Cln 1 (FoK F fun o L=>o=.ret (.va (.bool v))) (.ret (.va (.bool b))) h nx:=by
  intro b F1 h nx hb U n;exact endFo (.ret (.va (.bool b))) F1 U n (Fz.r F1) (by rw[hb]) rfl rfl
 have finL:∀(b:Bool) (F1:Fz) (h:Hp) (nx:Nat),v=b->lget h 0=some (.frz F1)->Fz.le F F1->Cln 1 (FoK F fun o L=>o=.ret (.va (.bool v))) (.ret (.va (.lit b))) h nx:=by
  intro b F1 h nx hb U n;exact endFo (.ret (.va (.bool b))) F1 U n (Fz.r F1) (by rw[hb]) rfl rfl
 refine foS func50 ?_;conv=>whnf
 refine aI hΘ (X:={ k:Nat // (k=0\/k < a.length)/\∀i (h:i+1 < a.length),i < k->a[i].1 < a[i+1].1 }) (fun x=>[(4,.va (.int .i64 ((x.1+1:Nat):Int)))]) (2::jr 5 21 [])
  (fun x=>[(0,.frz F),(1,.one (.cells 32 (migS ⟨id,src,q,j,a⟩ (.slice kn 0 kb ke 2 a.length kc))))]) 2 (fun x=>a.length - x.1) ⟨0,.inl rfl,fun i h Z=>absurd Z oo⟩
  (fun V W=>leI [] V W rfl ⟨tv,jO _ (.inr oo),tv⟩ ⟨rfl,tv⟩ ⟨Fz.r F,rfl,tv⟩) ?_
 rintro⟨k,aa,hp⟩ V W;by_cases g:k+1 < a.length
 ·have I:((k+1:Nat):Int) < (a.length:Int):=by omega
  have y:a.length - (k+1) < a.length - k:=by omega
  have A:k+1 < 4611686018427387904:=by omega
  have w1:IntKind.i64.wrap (((k+1:Nat):Int) - 1)=(k:Int):=by rw[aF oo oo];omega
  have q0:0<=IntKind.i64.wrap (((k+1:Nat):Int) - 1)/\IntKind.i64.wrap (((k+1:Nat):Int) - 1) < (a.length:Int):=by rw[w1];omega
  have q1:0<=((k+1:Nat):Int)/\((k+1:Nat):Int) < (a.length:Int):=by omega
  have f:k < a.length:=Nat.lt_of_succ_lt g;have D:kL[ke+(IntKind.i64.wrap (((k+1:Nat):Int) - 1)).toNat]? =some [.int .i64 (a[k]'f).1,sf k]:=by rw[w1];exact(k4 k f).1
  have E:kL[ke+((k+1:Nat):Int).toNat]? =some [.int .i64 (a[k+1]'g).1,sf (k+1)]:=(k4 (k+1) g).1;have c:=SlR.lt k1 g;by_cases p:(a[k]'f).1 < (a[k+1]'g).1
  ·refine bri I ?_;refine dwS (lk [0,1,2,3,4,5,6,7,8,9,10,11,12,13] .done) [1] ?_;refine⟨rfl,c,q0,rfl,_,K c,_,D,rfl,c,q1,rfl,_,K c,_,E,?_⟩;refine br (fun h=>absurd (od h) oo) (fun _=>?_);exact⟨⟨k+1,.inr g,fun i h Z=>(Nat.lt_succ_iff_lt_or_eq.1 Z).elim (hp i h) (fun e=>by subst e;exact p)⟩,y,leR [] V W rfl ⟨tv,jO _ (.inr oo),tv⟩ ⟨cnt A,tv⟩ ⟨Fz.r F,rfl,tv⟩⟩
  ·have Y:(a[k+1]'g).1<=(a[k]'f).1:=qco.1 p
   have B:asc a=false:=by
    cases ha:asc a with
    |false=>rfl
    |true=>exact absurd ((qE a).1 ha k g) p
   refine bri I ?_;refine dwS (lk [0,1,2,3,4,5,6,7,8,9,10,11,12,13] .done) [1] ?_;refine⟨rfl,c,q0,rfl,_,K c,_,D,rfl,c,q1,rfl,_,K c,_,E,bri Y ?_⟩;conv=>whnf
   first | exact fin false F _ _ (M B) rfl (Fz.r F) | exact finL false F _ _ (M B) rfl (Fz.r F)
 ·have I:¬((k+1:Nat):Int) < (a.length:Int):=by omega
  have l:asc a=true:=(qE a).2 fun i h=>hp i h oo
  refine brj I ?_;refine usePs (qO id F) ?_;refine⟨fun s=>?_,fun s=>?_⟩
  ·refine usePs (qO src F) ?_;refine⟨fun u=>?_,fun u=>?_⟩
   ·refine usePs (qO q F) ?_;refine⟨fun w=>?_,fun w=>?_⟩
    ·rcases j with _ | _
     ·refine useFs d ?_;rintro _ F1 l1 rfl;exact fin _ F1 _ _ (T l s u w (.inl rfl)) rfl l1
     ·refine⟨fun G=>?_,fun G=>?_⟩
      ·refine useFs d ?_;rintro _ F1 l1 rfl;exact fin _ F1 _ _ (T l s u w (.inr G)) rfl l1
      ·conv=>whnf
       first | exact fin false F _ _ (S rfl G) rfl (Fz.r F) | exact finL false F _ _ (S rfl G) rfl (Fz.r F)
    ·conv=>whnf
     first | exact fin false F _ _ (R w) rfl (Fz.r F) | exact finL false F _ _ (R w) rfl (Fz.r F)
   ·conv=>whnf
    first | exact fin false F _ _ (Q u) rfl (Fz.r F) | exact finL false F _ _ (Q u) rfl (Fz.r F)
  ·conv=>whnf
   first | exact fin false F _ _ (O s) rfl (Fz.r F) | exact finL false F _ _ (O s) rfl (Fz.r F)
def aE(p:Int):List Kp->List Stp
 |[]=>[]
 |k::r=>if k.1=p then k.2 else aE p r
theorem Dq(p:Int)(l:List Kp)(k:Nat)(h:k < l.length):aE p (l.drop k)=if(l[k]'h).1=p then(l[k]'h).2 else aE p (l.drop (k+1)):=by
 rw[ji h];rfl
variable {a:List Kp}
theorem oD(b:short a)(p:Int):(aE p a).length < 1000000:=by
 induction a with
 |nil=>simp[aE]
 |cons x r ih=>
  rw[aE];split
  ·exact b x ss
  ·exact ih fun y c=>b y (by simp[c])
theorem uD(F:Fz)(sk:SA)(m:Mig)(p:Int)(J:KpsAt F sk m.keep)(K:short m.keep)(M:m.keep.length < 1000000):
  Fo prog F 110 [.agg (migS m sk),.va (.int .i64 p)] (fun o s=>∃h,o=.ret (.va h)/\bD s h (aE p m.keep)/\capS h):=by
 obtain⟨id,src,j,d,b⟩:=m;replace J:KpsAt F sk b:=J;replace M:b.length < 1000000:=M;replace K:short b:=K;show Fo prog F 110 [.agg (migS ⟨id,src,j,d,b⟩ sk),.va (.int .i64 p)] (fun o s=>∃h,o=.ret (.va h)/\bD s h (aE p b)/\capS h);obtain⟨kn,kb,ke,kc,kL,kr,rfl,k1,Q,k3,k4⟩:=J;refine foS func110 ?_;conv=>whnf
 refine aI hΘ (X:={ k:Nat // k<=b.length/\aE p b=aE p (b.drop k) }) (fun x=>[(11,.va (.int .i64 x.1))]) (4::6::jr 12 11 [])
  (fun x=>[(0,.frz F),(1,.one (.cells 105 (migS ⟨id,src,j,d,b⟩ (.slice kn 0 kb ke 2 b.length kc))))]) 2 (fun x=>b.length - x.1) ⟨0,by simp,by simp⟩
  (fun u w=>leI [] u w rfl ⟨tv,jO _ (.inr oo),tv⟩ ⟨rfl,tv⟩ ⟨Fz.r F,rfl,tv⟩) ?_
 rintro⟨k,ah,f⟩ u w;by_cases g:k < b.length
 ·have i:(k:Int) < (b.length:Int):=by omega
  have n:b.length - (k+1) < b.length - k:=by omega
  have q:k < 4611686018427387904:=by omega
  have hx:=K (b[k]'g) (qt g);rw[Dq p b k g]at f;have l:=SlR.at k4 g;obtain⟨y,O,a,rfl,L⟩:=l;have e:=uj F a (b[k]'g).2 L hx;have c:=SlR.lt k1 g;obtain⟨aa,W,Z,Y,V,ab,rfl,R,S,T,U⟩:=L;by_cases gp:(b[k]'g).1=p
  ·rw[if_pos gp]at f;refine bri i ⟨c,⟨by simp,i⟩,_,Q c,_,O,bri gp ?_⟩;refine useFs e ?_;rintro _ F1 l1 ⟨sb,rfl,hb,B⟩;have A:=hb;obtain⟨I,D,G,E,af,ag,rfl,ac,ad,ae,hb4⟩:=hb;exact endFs (.ret (.va (.slice I 0 D G 2 (b[k]'g).2.length E))) l1 ⟨_,rfl,by rw[f];exact A,B⟩
  ·rw[if_neg gp]at f;refine bri i ⟨c,⟨by simp,i⟩,_,Q c,_,O,brj gp ?_⟩;exact⟨⟨k+1,g,f⟩,n,leR [] u w rfl ⟨tv,jO _ (.inr oo),tv⟩ ⟨cnt q,tv⟩ ⟨Fz.r F,rfl,tv⟩⟩
 ·have i:¬(k:Int) < (b.length:Int):=by omega
  rw[yg oo]at f;refine brj i ?_;exact endFo (.ret (.va (.slice true 0 0 0 2 0 0))) F rfl (Fz.r F) (Fz.r F) ⟨_,rfl,by rw[f];exact Sl.nil,qj 0⟩ ⟨rfl,rfl,rfl⟩ rfl
theorem wi(F:Fz)(sk:SA)(m:Mig)(p:Int)(d:KpsAt F sk m.keep)(f:short m.keep)(e:m.keep.length < 1000000):
  Fo prog F 110 [.agg (migS m sk),.va (.int .i64 p)] (fun o b=>∃a,o=.ret (.va a)/\bD b a (aE p m.keep)):=
 pY (uD F sk m p d f e) fun _ _ ⟨a,h1,c,_⟩=>⟨a,h1,c⟩
theorem xO(F:Fz)(sk:SA)(m:Mig)(p:Int)(b:KpsAt F sk m.keep)(s:short m.keep)(q:m.keep.length < 1000000):
  Fo prog F 94 [.agg (migS m sk),.va (.int .i64 p)] (fun o _=>o=.ret (.va (.bool (decide (0 < (aE p m.keep).length))))):=by
 have h:=wi F sk m p b s q;obtain⟨id,src,c,a,u⟩:=m;obtain⟨K,G,J,I,E,L,rfl,y,A,B,D⟩:=b;refine foS func94 ?_;refine useFs h ?_;rintro _ F1 w ⟨M,rfl,hb⟩;obtain⟨l,i,k,j,g,n,rfl,d,e,f,hb4⟩:=hb;exact endFo (.ret (.va (.bool (decide (0 < (aE p u).length))))) F1 rfl w (Fz.r F1) rfl (ob ss) rfl
def bG(a:List Kp)(p:Int):List Stp:=
 if(p=3/\0 < (aE 4 a).length)\/(p=5/\0 < (aE 3 a).length)then [(6,0)]else if p=6 then aE 7 a else aE p a
theorem iU{p q:Int}(h:(p=3/\q=4)\/(p=5/\q=3))(g:decide (0 < (aE q a).length)=true):bG a p=[(6,0)]:=by
 have g:=od g;rcases h with⟨rfl,rfl⟩ | ⟨rfl,rfl⟩
 ·rw[bG,if_pos (.inl ⟨rfl,g⟩)]
 ·rw[bG,if_pos (.inr ⟨rfl,g⟩)]
theorem iV{p q:Int}(h:(p=3/\q=4)\/(p=5/\q=3))(g:decide (0 < (aE q a).length)=false):bG a p=aE p a:=by
 have g:=oe g;rcases h with⟨rfl,rfl⟩ | ⟨rfl,rfl⟩
 ·rw[bG,if_neg (by rintro(⟨_,h⟩ | ⟨h,_⟩);exact g h;cases h),if_neg dd]
 ·rw[bG,if_neg (by rintro(⟨h,_⟩ | ⟨_,h⟩);cases h;exact g h),if_neg dd]
theorem ro:bG a 6=aE 7 a:=by
 rw[bG,if_neg (by rintro(⟨h,_⟩ | ⟨h,_⟩)<;>cases h),if_pos rfl]
theorem iM{p:Int}(b:p≠3)(c:p≠5)(d:p≠6):bG a p=aE p a:=by
 rw[bG,if_neg (by rintro(⟨h,_⟩ | ⟨h,_⟩);exact b h;exact c h),if_neg d]
variable {F:Fz}
theorem KpsAt.up{c:Fz}{t:Nat}{a:SA}{l:List Kp}(h:SlR F t 2 (KpR F) a l)(b:Fz.le F c):SlR c t 2 (KpR c) a l:=SlR.mono h b fun _ _ h=>h.mono b
theorem vY(F:Fz):Fo prog F 111 [] (fun o a=>∃e,o=.ret (.va e)/\bD a e [(6,0)]/\capS e):=by
 refine foS func111 ?_;refine eB 1 (fun _=>.arr 56 2 ([(6,0)].map enc) 1) ?_;intro b a d c;exact endFo (.ret (.va (.slice false 0 (b 0) 0 2 1 1))) a rfl d (Fz.r a) ⟨_,rfl,Sl.new (l:=[(6,0)]) (c 0 rfl),qj 1⟩ ⟨rfl,rfl,rfl,.inr ⟨rfl,rfl,rfl,rfl⟩⟩ rfl
theorem zt(F:Fz)(sk:SA)(m:Mig)(p:Int)(W:KpsAt F sk m.keep)(hs:short m.keep)(hl:m.keep.length < 1000000):
  Fo prog F 51 [.agg (migS m sk),.va (.int .i64 p)] (fun o T=>∃b,o=.ret (.agg [.int .i64 p,b])/\bD T b (bG m.keep p)/\capS b):=by
 have i:=fun F1 (a:Fz.le F F1) q=>uD F1 sk m q (KpsAt.up W a) hs hl
 have S:=fun F1 (a:Fz.le F F1) q=>xO F1 sk m q (KpsAt.up W a) hs hl
 obtain⟨id,src,ab,aa,ks⟩:=m
 have fin:∀(b:SA) (F1:Fz) (h:Hp) (nx:Nat),capS b->bD F1 b (bG ks p)->lget h 0=some (.frz F1)->Fz.le F F1->outE (.ret (.agg [.int .i64 p,b])) ((Out.ret (.agg [.int .i64 p,b])).ren (resP h))->
   Cln 1 (FoK F fun o T=>∃b,o=.ret (.agg [.int .i64 p,b])/\bD T b (bG ks p)/\capS b) (.ret (.agg [.int .i64 p,b])) h nx:=by
  intro b F1 h nx V hb h0 X ho;have hz:=hb.z;exact endFo (.ret (.agg [.int .i64 p,b])) F1 h0 X (Fz.r F1) ⟨_,rfl,hb,V⟩ ho (by simp[Out.z,SV.z,hz];rfl)
 obtain⟨kn,kb,ke,kc,kL,kr,rfl,k1,k2,k3,k4⟩:=W;by_cases Z:p=3
 ·skip
  subst Z;refine foS func51 ?_;refine useFs (i F (Fz.r F) 3) ?_;rintro _ F1 a ⟨sb,rfl,hb,d⟩;have c:=hb;obtain⟨B,x,A,y,w,D,rfl,n,s,u,hb4⟩:=hb;refine gae dd ?_;refine useFs (S F1 a 4) ?_;rintro _ l j rfl;refine br (fun g=>?_) (fun g=>?_)
  ·refine br (fun _=>?_) (fun h=>absurd (h.symm.trans g) ss);refine useFs (vY l) ?_;rintro _ U Y ⟨sc,rfl,k,f⟩;have e:=k;obtain⟨Q,L,O,M,K,R,rfl,E,G,I,J⟩:=k;exact fin _ U _ _ f (by rw[iU ss g];exact e) rfl (Fz.t a (Fz.t j Y)) (aO _)
  ·refine gaf dd ?_;refine brd dd ?_;exact fin _ l _ _ d (by rw[iV ss g];exact c.mono j) rfl (Fz.t a j) (aO _)
 by_cases p5:p=5
 ·skip
  subst p5;refine foS func51 ?_;refine useFs (i F (Fz.r F) 5) ?_;rintro _ F1 a ⟨sb,rfl,hb,d⟩;have c:=hb;obtain⟨B,x,A,y,w,D,rfl,n,s,u,hb4⟩:=hb;refine gaf dd ?_;refine gae dd ?_;refine useFs (S F1 a 3) ?_;rintro _ l j rfl;refine br (fun g=>?_) (fun g=>?_)
  ·refine useFs (vY l) ?_;rintro _ U Y ⟨sc,rfl,k,f⟩;have e:=k;obtain⟨Q,L,O,M,K,R,rfl,E,G,I,J⟩:=k;exact fin _ U _ _ f (by rw[iU ss g];exact e) rfl (Fz.t a (Fz.t j Y)) (aO _)
  ·refine brd dd ?_;exact fin _ l _ _ d (by rw[iV ss g];exact c.mono j) rfl (Fz.t a j) (aO _)
 by_cases p6:p=6
 ·subst p6;refine foS func51 ?_;refine useFs (i F (Fz.r F) 6) ?_;rintro _ F1 a ⟨sb,rfl,hb,d⟩;have c:=hb;obtain⟨B,x,A,y,w,D,rfl,n,s,u,hb4⟩:=hb;refine gaf dd ?_;refine gaf dd ?_;refine bre dd ?_;refine useFs (i F1 a 7) ?_;rintro _ l j ⟨sc,rfl,k,f⟩;have e:=k;obtain⟨Q,L,O,M,K,R,rfl,E,G,I,J⟩:=k;exact fin _ l _ _ f (by rw[ro];exact e) rfl (Fz.t a j) (aO _)
 ·refine foS func51 ?_;refine useFs (i F (Fz.r F) p) ?_;rintro _ F1 a ⟨sb,rfl,hb,d⟩;have c:=hb;obtain⟨B,x,A,y,w,D,rfl,n,s,u,hb4⟩:=hb;refine⟨fun g=>absurd (od g) Z,fun _=>?_⟩;refine⟨fun g=>absurd (od g) p5,fun _=>?_⟩;refine brj p6 ?_;exact fin _ F1 _ _ d (by rw[iM Z p5 p6];exact c) rfl a (aO _)
def bQ(a:List Kp):List Kp:=(List.range 8).map fun k:Nat=>((k:Int)+1,bG a ((k:Int)+1))
theorem gF(a:List Kp):(bQ a).length=8:=by simp[bQ]
theorem Dj(a:List Kp)(k:Nat)(h:k < 8):(bQ a)[k]? =some ((k:Int)+1,bG a ((k:Int)+1)):=by simp[bQ,h]
def RowOf(F:Fz)(f:Nat->Kp)(o:List ZC):Prop:=∀i (z:ZC),o[i]? =some z->KpR F z.1 (f i)
variable {o:List ZC}{f:Nat->Kp}
theorem RowOf.mono{b:Fz}(h:RowOf F f o)(a:Fz.le F b):RowOf b f o:=fun i z c=>(h i z c).mono a
theorem RowOf.nil:RowOf F f []:=fun i z a=>by simp at a
theorem RowOf.snoc(h:RowOf F f o){z:ZC}(g:KpR F z.1 (f o.length)):RowOf F f (o++[z]):=fun i y a=>by
 by_cases e:i < o.length
 ·rw[jj e]at a;exact h i y a
 ·rw[jq oo]at a
  have d:i - o.length=0:=by
   by_cases h1:i - o.length=0
   ·exact h1
   ·rw[qad (by simp;omega)]at a;cases a
  rw[d]at a;have c:z=y:=by simpa using a
  have b:i=o.length:=by omega
  rw[<-c,b];exact g
theorem RowOf.sl{t b a cap:Nat}{l:List Kp}(h:RowOf F f o)(g:F b=some (.arr t 2 (o.map encZ) a))(d:o.length=l.length)(i:∀k x,l[k]? =some x->x=f k):SlR F t 2 (KpR F) (.slice false 0 b 0 2 l.length cap) l:=
 SlR.new g (by rw[qa,d]) fun k x e=>by
  have c:k < o.length:=by rw[d];exact(qh.1 e).1
  exact⟨encZ o[k],by rw[qu,qc c];rfl,by rw[i k x e];exact h k o[k] (qc c)⟩
def mkZ(p:Int)(a:SA)(h:a.z=true):ZC:=⟨[.int .i64 p,a],fun x b=>by
 simp only[qi,qp,or_false]at b;rcases b with rfl | rfl
 ·rfl
 ·exact h⟩
def fP(o:List ZC):Prop:=∀z∈o,∃p a,z.1=[.int .i64 p,a]/\capS a
theorem fP.nil:fP []:=fun z h=>absurd h ss
theorem fP.snoc(h:fP o){p:Int}{a:SA}{c:a.z=true}(b:capS a):fP (o++[mkZ p a c]):=fun z hm=>by
 rcases yd.1 hm with hm | hm
 ·exact h z hm
 ·rw[qs]at hm;subst hm;exact⟨p,a,rfl,b⟩
theorem Eg(F:Fz)(sk:SA)(m:Mig)(T:KpsAt F sk m.keep)(hs:short m.keep)(hl:m.keep.length < 1000000):
  Fo prog F 16 [.agg (migS m sk)] (fun o D=>(migOk m=false/\o=.ret (.tup [.va .nilsl,.va (.int .i64 90)]))\/
   (migOk m=true/\∃b c,o=.ret (.tup [.va (.slice false 0 b 0 2 8 c),.va (.int .i64 0)])/\ClsAt D (.slice false 0 b 0 2 8 c) (bQ m.keep)/\8<=c/\∃r:List ZC,D b=some (.arr 52 2 (r.map encZ) c)/\fP r/\r.length=8)):=by
 have ak:=fun F1 (l1:Fz.le F F1) q=>zt F1 sk m q (KpsAt.up T l1) hs hl
 have O:=vZ F sk m T hs hl;have K:=fun n (h:sk.below n)=>jO (n:=n) m h
 obtain⟨id,src,V,E,p⟩:=m;replace T:KpsAt F sk p:=T;obtain⟨v,hv⟩:∃v,migOk ⟨id,src,V,E,p⟩=v:=⟨_,rfl⟩
 rw[hv]at O ⊢;clear hv;obtain⟨kn,kb,ke,kc,kL,kr,rfl,k1,k2,k3,k4⟩:=T;replace K:∀n,0 < n->(Ent.one (.cells 32 (migS ⟨id,src,V,E,p⟩ (.slice kn 0 kb ke 2 p.length kc)))).below n:=fun n hn=>K n (.inr hn)
 rcases v with _ | _
 ·refine foS func16 ?_;refine useFs O ?_;rintro _ F1 l1 rfl;refine bre dd ?_;exact endFs (.ret (.tup [.va .nilsl,.va (.int .i64 90)])) l1 (.inl ⟨rfl,rfl⟩)
 ·refine foS func16 ?_;refine useFs O ?_;rintro _ F1 l1 rfl;refine brd dd ?_;conv=>whnf
  refine aI hΘ (X:={ y:Nat×List ZC×Nat×Fz // Fz.le F y.2.2.2/\y.1<=8/\y.2.1.length=y.1/\RowOf y.2.2.2 (fun k=>((k:Int)+1,bG p ((k:Int)+1))) y.2.1/\fP y.2.1/\y.2.1.length<=y.2.2.1 }) (fun y=>[(4,.va (gA 2 2 y.1.2.2.1 y.1.2.1)),(9,.va (.int .i64 y.1.1))]) (5::jr 10 11 [])
   (fun y=>[(0,.frz y.1.2.2.2),(1,.one (.cells 32 (migS ⟨id,src,V,E,p⟩ (.slice kn 0 kb ke 2 p.length kc)))),(2,gE 52 2 encZ y.1.2.2.1 y.1.2.1)]) 3 (fun y=>8 - y.1.1) ⟨(0,[],0,F1),l1,by omega,rfl,RowOf.nil,fP.nil,qj 0⟩
   (fun hH hT=>leI [(2,2)] hH hT rfl ⟨tv,K 3 oo,c7 aQ oo _ _ _ _,tv⟩ ⟨rfl,rfl,tv⟩ ⟨Fz.r F1,rfl,rfl,tv⟩) ?_
  rintro⟨⟨k,o,co,G⟩,hG,T,ho,w,s,Z⟩ hH hT;replace s:fP o:=s;replace Z:o.length<=co:=Z;replace hG:Fz.le F G:=hG;replace T:k<=8:=T;replace ho:o.length=k:=ho;replace w:RowOf G (fun k=>((k:Int)+1,bG p ((k:Int)+1))) o:=w;by_cases g:k < 8
  ·have Q:(k:Int) < 8:=by omega
   have ac:k+1<=8:=g;have S:8 - (k+1) < 8 - k:=by omega
   have J:k < 4611686018427387904:=by omega
   have hw:SA.int .i64 ((k:Int)+1)=SA.int .i64 (IntKind.i64.wrap ((k:Int)+1)):=cnt J;have I:=ak G hG ((k:Int)+1);have ad:∀(B:Fz) (z:ZC),Fz.le G B->KpR B z.1 ((k:Int)+1,bG p ((k:Int)+1))->RowOf B (fun k=>((k:Int)+1,bG p ((k:Int)+1))) (o++[z]):=fun B z A hz=>(w.mono A).snoc (by rw[ho];exact hz)
   have U:∀z:ZC,(o++[z]).length=k+1:=fun z=>by rw[qb,ho];rfl
   rcases o with _ | ⟨o0,u⟩
   ·refine bri Q ?_;refine useFo I rfl ⟨rfl,hw,tv⟩ rfl ?_;rintro _ B l2 ⟨sa,rfl,L,Y⟩;have M:=L;obtain⟨f,a,e,d,ai,aj,rfl,ae,af,ag,ah⟩:=L;refine⟨nb rfl,[[.int .i64 ((k:Int)+1),.slice f 0 a e 2 (bG p ((k:Int)+1)).length d]],rfl,rfl,rfl,by show 1*32<=140737488355328;omega,fun c' W=>?_⟩;exact⟨⟨(k+1,[]++[mkZ ((k:Int)+1) (.slice f 0 a e 2 (bG p ((k:Int)+1)).length d) rfl],c',B),Fz.t hG l2,ac,U _,ad B _ l2 ⟨_,rfl,M⟩,s.snoc Y,by simpa using W⟩,S,leR [(2,4)] hH hT rfl ⟨tv,K 3 oo,c7 aQ oo _ _ _ _,tv⟩ ⟨by(conv=>whnf);exact⟨rfl,rfl,rfl,.inr ⟨rfl,rfl,rfl,rfl⟩⟩,cnt J,tv⟩ ⟨Fz.r B,rfl,ej (μ:=sig [(2,4)]) aQ (fun k=>rfl) (bC _ (by rw[qq];rfl)),tv⟩⟩
   ·have an:(u.length+1+1)*32<=140737488355328:=by
     have h9:u.length+1=k:=ho;omega
    refine bri Q ?_;refine useFo I rfl ⟨rfl,hw,tv⟩ rfl ?_;rintro _ B l2 ⟨sa,rfl,L,Y⟩;have M:=L;obtain⟨f,a,e,d,ai,aj,rfl,ae,af,ag,ah⟩:=L;refine⟨nb rfl,[[.int .i64 ((k:Int)+1),.slice f 0 a e 2 (bG p ((k:Int)+1)).length d]],rfl,rfl,rfl,by simp,rfl,an,fun c' W=>?_⟩;exact⟨⟨(k+1,(o0::u)++[mkZ ((k:Int)+1) (.slice f 0 a e 2 (bG p ((k:Int)+1)).length d) rfl],c',B),Fz.t hG l2,ac,U _,ad B _ l2 ⟨_,rfl,M⟩,s.snoc Y,by simpa using W⟩,S,leR [(2,4)] hH hT rfl ⟨tv,K 3 oo,c7 aQ oo _ _ _ _,tv⟩ ⟨cO (μ:=sig [(2,4)]) (i:=2) (j:=4) rfl 2 c' _ (o0::u) (mkZ ((k:Int)+1) (.slice f 0 a e 2 (bG p ((k:Int)+1)).length d) rfl) rfl,cnt J,tv⟩ ⟨Fz.r B,rfl,ej (μ:=sig [(2,4)]) aQ (fun k=>rfl) (bC _ (by rw[qq];rfl)),tv⟩⟩
  ·have Q:¬(k:Int) < 8:=by omega
   have al:k=8:=by omega
   have R:o.length=8:=ho.trans al
   have ab:∀(D:Fz) (b c:Nat),Fz.le G D->D b=some (.arr 52 2 (o.map encZ) c)->ClsAt D (.slice false 0 b 0 2 8 c) (bQ p):=fun D b c A hb=>by
    have h:=(w.mono A).sl (cap:=c) (l:=bQ p) hb (by rw[R,gF]) fun i x hx=>by
     have hi:i < 8:=by have:=(qh.1 hx).1;rw[gF]at this;exact this
     rw[Dj p i hi]at hx;exact(Option.some.inj hx).symm
    rw[gF]at h;exact h
   rcases o with _ | ⟨o0,u⟩
   ·cases R
   ·have am:u.length+1=8:=R;refine brj Q ?_;refine cu 2 (fun _=>.arr 52 2 ((o0::u).map encZ) co) rfl rfl rfl (fun _ _=>by exact dW (μ:=resP _) aQ (fun k=>rfl) rfl _ _ _) (fun _ _=>dZ aQ oo _ _ _ _) ?_;intro b' D A aa;refine endFo (.ret (.tup [.va (.slice false 0 (b' 0) 0 2 8 co),.va (.int .i64 0)])) D rfl (Fz.t hG A) (Fz.r D) (.inr ⟨rfl,_,_,rfl,ab D _ _ A (aa 0 ⟨rfl,rfl⟩),by have h9:u.length+1<=co:=Z;omega,_,aa 0 ⟨rfl,rfl⟩,s,R⟩) ?_ rfl;exact⟨⟨rfl,am.symm,rfl,.inr ⟨rfl,rfl,rfl,rfl⟩⟩,rfl,tv⟩
theorem zu(F:Fz)(sk:SA)(m:Mig)(f:KpsAt F sk m.keep)(i:short m.keep)(g:m.keep.length < 1000000):
  Fo prog F 16 [.agg (migS m sk)] (fun o a=>(migOk m=false/\o=.ret (.tup [.va .nilsl,.va (.int .i64 90)]))\/
   (migOk m=true/\∃b c,o=.ret (.tup [.va (.slice false 0 b 0 2 8 c),.va (.int .i64 0)])/\ClsAt a (.slice false 0 b 0 2 8 c) (bQ m.keep))):=
 pY (Eg F sk m f i g) fun _ _ h=>h.imp id fun⟨h1,b,c,d,e,_⟩=>⟨h1,b,c,d,e⟩
structure Crt where
 src:List UInt8
 dst:List UInt8
 len:Int
 cl:List Kp
abbrev crtS(c:Crt)(sk:SA):List SA:=[.str c.src,.str c.dst,.int .i64 c.len,sk]
theorem cF{n:Nat}(c:Crt){t:Nat}{sk:SA}(h:sk.below n):(Ent.one (.cells t (crtS c sk))).below n:=by
 intro a b;simp only[qi,qp,or_false]at b;rcases b with rfl | rfl | rfl | rfl
 ·trivial
 ·trivial
 ·trivial
 ·exact h
def clAt(x:Kp)(i:Int):Bool:=decide (x.1=i)&&(aM x.1 x.2&&decide (normS x.2=x.2))
def clOk:List Kp->Int->Bool
 |[],_=>true
 |x::r,i=>clAt x i&&clOk r (i+1)
theorem zq(l:List Kp)(k:Nat)(i:Int)(h:k < l.length):clOk (l.drop k) i=(clAt (l[k]'h) i&&clOk (l.drop (k+1)) (i+1)):=by
 rw[ji h];rfl
def crtOk(c:Crt):Bool:=decide (c.src.length=32)&&(decide (c.dst.length=32)&&(decide (1<=c.len)&&(decide (c.len<=64)&&(decide (c.cl.length=8)&&clOk c.cl 1))))
theorem clA1{x:Kp}{i j:Int}(a:j=i)(h:(!decide (x.1=j))=true):clAt x i=false:=by
 subst a;have:decide (x.1=j)=false:=by simpa using h
 simp only[clAt,this,jv]
theorem clA2{x:Kp}{i:Int}(h:(!decide ((normR x.1 x.2).2=0))=true):clAt x i=false:=by
 have a:aM x.1 x.2=false:=by
  cases b:aM x.1 x.2 with
  |false=>rfl
  |true=>rw[normR,if_pos b]at h;cases h
 simp only[clAt,a,jv,yk]
theorem clA3{x:Kp}{i:Int}(b:(!decide ((normR x.1 x.2).2=0))=false)(h:(!decide ((normR x.1 x.2).1=x.2))=true):clAt x i=false:=by
 have c:=mh (p:=x.1) (l:=x.2) (by simpa using b);have a:decide ((normR x.1 x.2).1=x.2)=false:=by simpa using h
 rw[c.2]at a;simp only[clAt,a,yk]
theorem clAT{x:Kp}{i j:Int}(e:j=i)(h1:(!decide (x.1=j))=false)(c:(!decide ((normR x.1 x.2).2=0))=false)(h:(!decide ((normR x.1 x.2).1=x.2))=false):clAt x i=true:=by
 subst e;have a:=mh (p:=x.1) (l:=x.2) (by simpa using c);have b:decide ((normR x.1 x.2).1=x.2)=true:=by simpa using h
 have d:decide (x.1=j)=true:=by simpa using h1
 rw[a.2]at b;simp only[clAt,d,a.1,b,Bool.and_self]
variable {c:Crt}
theorem cOk1(h:(!decide ((c.src.length:Int)=32))=true):crtOk c=false:=by
 have:decide (c.src.length=32)=false:=by simp at h ⊢;omega
 simp only[crtOk,this,jv]
theorem cOk2(h:(!decide ((c.dst.length:Int)=32))=true):crtOk c=false:=by
 have:decide (c.dst.length=32)=false:=by simp at h ⊢;omega
 simp only[crtOk,this,jv,yk]
theorem cOk3(h:decide (c.len < 1)=true):crtOk c=false:=by
 have:decide (1<=c.len)=false:=by simp at h ⊢;omega
 simp only[crtOk,this,jv,yk]
theorem cOk4(h:decide (64 < c.len)=true):crtOk c=false:=by
 have:decide (c.len<=64)=false:=by simp at h ⊢;omega
 simp only[crtOk,this,jv,yk]
theorem cOk5(h:(!decide ((c.cl.length:Int)=8))=true):crtOk c=false:=by
 have:decide (c.cl.length=8)=false:=by simp at h ⊢;omega
 simp only[crtOk,this,jv,yk]
theorem cOkT(h1:(!decide ((c.src.length:Int)=32))=false)(g:(!decide ((c.dst.length:Int)=32))=false)(h:decide (c.len < 1)=false)(i:decide (64 < c.len)=false)(j:(!decide ((c.cl.length:Int)=8))=false):crtOk c=clOk c.cl 1:=by
 have a:decide (c.src.length=32)=true:=by simp at h1 ⊢;omega
 have b:decide (c.dst.length=32)=true:=by simp at g ⊢;omega
 have d:decide (1<=c.len)=true:=by simp at h ⊢;omega
 have e:decide (c.len<=64)=true:=by simp at i ⊢;omega
 have f:decide (c.cl.length=8)=true:=by simp at j ⊢;omega
 simp only[crtOk,a,b,d,e,f,yz]
theorem gP(F:Fz)(sk:SA)(c:Crt)(W:ClsAt F sk c.cl)(Z:short c.cl)(hl:c.cl.length < 1000000):
  Fo prog F 25 [.agg (crtS c sk)] (fun o _=>o=.ret (.va (.bool (crtOk c)))):=by
 have e1:=cOk1 (c:=c);have e2:=cOk2 (c:=c);have e3:=cOk3 (c:=c);have e4:=cOk4 (c:=c);have e5:=cOk5 (c:=c);have eT:=cOkT (c:=c);obtain⟨v,hv⟩:∃v,crtOk c=v:=⟨_,rfl⟩
 rw[hv]at e1 e2 e3 e4 e5 eT ⊢;clear hv;obtain⟨src,M,aa,d⟩:=c;replace W:ClsAt F sk d:=W;replace Z:short d:=Z;replace hl:d.length < 1000000:=hl
 have fin:∀(b:Bool) (F1:Fz) (h:Hp) (nx:Nat),v=b->lget h 0=some (.frz F1)->Fz.le F F1->Cln 1 (FoK F fun o F'=>o=.ret (.va (.bool v))) (.ret (.va (.bool b))) h nx:=by
  intro b F1 h nx hb R q;exact endFo (.ret (.va (.bool b))) F1 R q (Fz.r F1) (by rw[hb]) rfl rfl
 have finL:∀(b:Bool) (F1:Fz) (h:Hp) (nx:Nat),v=b->lget h 0=some (.frz F1)->Fz.le F F1->Cln 1 (FoK F fun o F'=>o=.ret (.va (.bool v))) (.ret (.va (.lit b))) h nx:=by
  intro b F1 h nx hb R q;exact endFo (.ret (.va (.bool b))) F1 R q (Fz.r F1) (by rw[hb]) rfl rfl
 obtain⟨kn,kb,ke,kc,kL,kr,rfl,k1,k2,k3,k4⟩:=W;refine foS func25 ?_;refine⟨fun m=>?_,fun m=>?_⟩
 rotate_left
 ·exact fin false F _ _ (e1 m) rfl (Fz.r F)
 refine⟨fun e=>?_,fun e=>?_⟩
 rotate_left
 ·exact fin false F _ _ (e2 e) rfl (Fz.r F)
 refine⟨fun n=>?_,fun n=>?_⟩
 rotate_left
 ·exact fin false F _ _ (e3 n) rfl (Fz.r F)
 refine⟨fun O=>?_,fun O=>?_⟩
 rotate_left
 ·exact fin false F _ _ (e4 O) rfl (Fz.r F)
 refine br (fun Q=>?_) (fun Q=>?_)
 ·exact fin false F _ _ (e5 Q) rfl (Fz.r F)
 conv=>whnf
 have A:=eT m e n O Q
 refine aI hΘ (X:={ x:Nat×Fz // Fz.le F x.2/\x.1<=d.length/\v=clOk (d.drop x.1) ((x.1:Int)+1) }) (fun x=>[(36,.va (.int .i64 x.1.1))]) (2::3::4::5::6::jr 37 29 [])
  (fun x=>[(0,.frz x.1.2),(1,.one (.cells 48 (crtS ⟨src,M,aa,d⟩ (.slice kn 0 kb ke 2 d.length kc))))]) 2 (fun x=>d.length - x.1.1) ⟨(0,F),Fz.r F,by simp,A⟩
  (fun S A=>leI [] S A rfl ⟨tv,cF _ (.inr oo),tv⟩ ⟨rfl,tv⟩ ⟨Fz.r F,rfl,tv⟩) ?_
 rintro⟨⟨k,G⟩,f,E,l⟩ S A;replace f:Fz.le F G:=f;replace E:k<=d.length:=E;replace l:v=clOk (d.drop k) ((k:Int)+1):=l;by_cases g:k < d.length
 ·have J:(k:Int) < (d.length:Int):=by omega
  have B:d.length - (k+1) < d.length - k:=by omega
  have D:k < 4611686018427387904:=by omega
  have hw:IntKind.i64.wrap ((k:Int)+1)=(k:Int)+1:=aF oo oo;have hx:=Z (d[k]'g) (qt g);rw[zq d k _ g]at l;have s:clAt (d[k]'g) ((k:Int)+1)=false->v=false:=fun h=>by rw[l,h,jv]
  have Y:clAt (d[k]'g) ((k:Int)+1)=true->v=clOk (d.drop (k+1)) (((k+1:Nat):Int)+1):=fun h=>by rw[l,h,yz];rfl
  have w:=SlR.at k4 g;obtain⟨y,hy,a,rfl,T⟩:=w;have p:=uC G a (d[k]'g).2 (d[k]'g).1 (T.mono f) hx;have V:=fun F1 (K:Fz.le G F1) sb hb=>ki F1 sb a (normR (d[k]'g).1 (d[k]'g).2).1 (d[k]'g).2 hb ((T.mono f).mono K) (uB _ _)
  have j:=SlR.lt k1 g;have q1:=clA1 (x:=d[k]'g) hw;have q2:=clA2 (x:=d[k]'g) (i:=(k:Int)+1);have q3:=clA3 (x:=d[k]'g) (i:=(k:Int)+1);have qT:=clAT (x:=d[k]'g) hw;obtain⟨av,aq,au,ar,ap,aw,rfl,al,am,an,ao⟩:=T;refine bri J ⟨j,⟨by simp,J⟩,_,f _ _ (k2 j),_,hy,?_⟩;refine useFs p ?_;rintro _ u K ⟨sc,rfl,I⟩;have U:=V u K sc I;have L:=Fz.t f K;obtain⟨aj,ag,ai,ah,af,ak,rfl,ab,ac,ad,ae⟩:=I;refine⟨fun m=>?_,fun m=>?_⟩
  rotate_left
  ·exact fin false u _ _ (s (q1 m)) rfl L
  refine⟨fun e=>?_,fun e=>?_⟩
  rotate_left
  ·exact fin false u _ _ (s (q2 e)) rfl L
  refine usePs (U) ?_;refine br (fun n=>?_) (fun n=>?_)
  ·exact fin false u _ _ (s (q3 e n)) rfl L
  ·exact⟨⟨(k+1,u),L,g,Y (qT m e n)⟩,B,leR [] S A rfl ⟨tv,cF _ (.inr oo),tv⟩ ⟨cnt D,tv⟩ ⟨Fz.r u,rfl,tv⟩⟩
 ·have J:¬(k:Int) < (d.length:Int):=by omega
  rw[yg oo]at l;refine brj J ?_;conv=>whnf
  first | exact fin true G _ _ l rfl f | exact finL true G _ _ l rfl f
theorem yaz(F:Fz)(f g:SA)(p q:Int)(a b:List Stp)(i:bD F f a)(hb:bD F g b)(Q:a.length < 1000000):
  Fo prog F 66 [.agg [.int .i64 p,f],.agg [.int .i64 q,g]] (fun o c=>o=.ret (.va (.bool (decide (((p,a):Kp)=(q,b)))))/\c=F):=by
 have e:=ki F f g a b i hb Q
 have fin:∀(v:Bool) (h:Hp) (nx:Nat),decide (((p,a):Kp)=(q,b))=v->lget h 0=some (.frz F)->Cln 1 (FoK F fun o c=>o=.ret (.va (.bool (decide (((p,a):Kp)=(q,b)))))/\c=F) (.ret (.va (.bool v))) h nx:=by
  intro v h nx O j;exact endPu j (Fz.r F) (ob O) rfl
 obtain⟨y,u,x,w,s,A,rfl,k,l,m,n⟩:=i;obtain⟨L,I,K,J,G,M,rfl,B,D,E,hb4⟩:=hb;refine foS func66 ?_;refine⟨fun d=>?_,fun d=>?_⟩
 ·refine usePs (e) ?_;exact fin _ _ _ (by have h:=od d;subst h;simp) rfl
 ·exact fin _ _ _ (by have h:=oe d;simp[h]) rfl
theorem ycr(F:Fz)(w A:SA)(a b:List Kp)(u:ClsAt F w a)(hb:ClsAt F A b)(hs:short a)(la:a.length < 1000000):
  Fo prog F 65 [.va w,.va A,.va (.fn (.func 66) [])] (fun o i=>o=.ret (.va (.bool (decide (a=b))))/\i=F):=by
 have fin:∀(v:Bool) (h:Hp) (nx:Nat),decide (a=b)=v->lget h 0=some (.frz F)->Cln 1 (FoK F fun o i=>o=.ret (.va (.bool (decide (a=b))))/\i=F) (.ret (.va (.bool v))) h nx:=by
  intro v h nx K E;exact endPu E (Fz.r F) (ob K) rfl
 have finL:∀(v:Bool) (h:Hp) (nx:Nat),decide (a=b)=v->lget h 0=some (.frz F)->Cln 1 (FoK F fun o i=>o=.ret (.va (.bool (decide (a=b))))/\i=F) (.ret (.va (.lit v))) h nx:=by
  intro v h nx K E;exact endPu E (Fz.r F) (by rw[K];exact rfl) rfl
 obtain⟨an,ab,ae,ac,aL,ar,rfl,O,Q,a3,R⟩:=u;obtain⟨bn,bb,be,bc,bL,V,rfl,S,T,b3,U⟩:=hb;refine foS func65 ?_;refine br (fun g=>?_) (fun g=>?_)
 ·refine fin _ _ _ ?_ rfl;have:¬a=b:=by rintro rfl;simp at g
  simp[this]
 ·have W:a.length=b.length:=neq_f g
  conv=>whnf
  refine aI hΘ (X:={ k:Nat // k<=a.length/\a.take k=b.take k }) (fun x=>[(17,.va (.int .i64 x.1))]) (6::7::8::9::jr 18 14 []) (fz fun _=>F) 1 (fun x=>a.length - x.1) ⟨0,by simp,rfl⟩
   (fun G I=>leI [] G I rfl ⟨tv,tv⟩ ⟨rfl,tv⟩ ⟨Fz.r F,tv⟩) ?_
  rintro⟨k,ay,M⟩ G I;by_cases g:k < a.length
  ·have d:k < b.length:=W▸g;have s:(k:Int) < (a.length:Int):=by omega
   have D:(k:Int) < (b.length:Int):=by omega
   have l:a.length - (k+1) < a.length - k:=by omega
   have m:k < 4611686018427387904:=by omega
   have hx:=hs (a[k]'g) (qt g);have c:=SlR.at R g;obtain⟨y,hy,w,rfl,u⟩:=c;have c:=SlR.at U d;obtain⟨z,hz,A,rfl,hb⟩:=c;have f:=yaz F w A (a[k]'g).1 (b[k]'d).1 (a[k]'g).2 (b[k]'d).2 u hb hx;have n:=SlR.lt O g;have p:=SlR.lt S d;have J:a[k]'g=b[k]'d->a.take (k+1)=b.take (k+1):=fun h=>by rw[qe g,qe d,M,h]
   have j:¬a[k]'g=b[k]'d->decide (a=b)=false:=fun h=>decide_eq_false fun e=>h (by subst e;rfl)
   obtain⟨aj,ag,ai,ah,af,ak,rfl,Y,Z,aa,ad⟩:=u;obtain⟨aw,aq,av,au,ap,ax,rfl,al,am,ao,hb4⟩:=hb;refine bri s ⟨n,⟨by simp,s⟩,_,Q n,_,hy,p,⟨by simp,D⟩,_,T p,_,hz,?_⟩;refine usePs (f) ?_;refine br (fun B=>?_) (fun B=>?_)
   ·conv=>whnf
    have q:(!decide (a[k]'g=b[k]'d))=true:=B
    first | exact fin false _ _ (j (by simpa using q)) rfl | exact finL false _ _ (j (by simpa using q)) rfl
   ·conv=>whnf
    have q:(!decide (a[k]'g=b[k]'d))=false:=B;exact⟨⟨k+1,g,J (by simpa using q)⟩,l,leR [] G I rfl ⟨tv,tv⟩ ⟨cnt m,tv⟩ ⟨Fz.r F,tv⟩⟩
  ·have s:¬(k:Int) < (a.length:Int):=by omega
   have L:decide (a=b)=true:=decide_eq_true (by rw[<-qk (show a.length<=k by omega),M,qk oo]);refine brj s ?_;conv=>whnf
   first | exact fin true _ _ L rfl | exact finL true _ _ L rfl
theorem beqD{s t:List UInt8}{x:Bool}(h:(s==t)=x):decide (s=t)=x:=by rw[<-h,qdq];simp
def mP(a b:Crt):Bool:=decide (a.src=b.src)&&(decide (a.dst=b.dst)&&(decide (a.len=b.len)&&decide (a.cl=b.cl)))
theorem wI(F:Fz)(l m:SA)(a b:Crt)(s:ClsAt F l a.cl)(hb:ClsAt F m b.cl)(x:short a.cl)(A:a.cl.length < 1000000):
  Fo prog F 27 [.agg (crtS a l),.agg (crtS b m)] (fun o d=>o=.ret (.va (.bool (mP a b)))/\d=F):=by
 have c:=ycr F l m a.cl b.cl s hb x A;obtain⟨g,d1,e,j⟩:=a;obtain⟨i,d2,f,k⟩:=b;replace c:Fo prog F 65 [.va l,.va m,.va (.fn (.func 66) [])] (fun o d=>o=.ret (.va (.bool (decide (j=k))))/\d=F):=c;show Fo prog F 27 [.agg (crtS ⟨g,d1,e,j⟩ l),.agg (crtS ⟨i,d2,f,k⟩ m)] (fun o d=>o=.ret (.va (.bool (decide (g=i)&&(decide (d1=d2)&&(decide (e=f)&&decide (j=k))))))/\d=F)
 have fin:∀(v:Bool) (h:Hp) (nx:Nat),(decide (g=i)&&(decide (d1=d2)&&(decide (e=f)&&decide (j=k))))=v->lget h 0=some (.frz F)->Cln 1 (FoK F fun o d=>o=.ret (.va (.bool (decide (g=i)&&(decide (d1=d2)&&(decide (e=f)&&decide (j=k))))))/\d=F) (.ret (.va (.bool v))) h nx:=by
  intro v h nx y w;exact endPu w (Fz.r F) (ob y) rfl
 obtain⟨I,D,G,E,B,ar,rfl,-,-,-,-⟩:=s;obtain⟨O,K,M,L,J,u,rfl,-,-,-,-⟩:=hb;refine foS func27 ?_;refine⟨fun n=>?_,fun n=>?_⟩
 rotate_left
 ·exact fin false _ _ (by rw[show decide (g=i)=false from beqD n];rfl) rfl
 refine⟨fun p=>?_,fun p=>?_⟩
 rotate_left
 ·exact fin false _ _ (by rw[show decide (d1=d2)=false from beqD p];simp) rfl
 refine⟨fun q=>?_,fun q=>?_⟩
 rotate_left
 ·exact fin false _ _ (by rw[show decide (e=f)=false from q];simp) rfl
 refine usePs (c) ?_;exact fin _ _ _ (by rw[show decide (g=i)=true from beqD n,show decide (d1=d2)=true from beqD p,show decide (e=f)=true from q];rfl) rfl
