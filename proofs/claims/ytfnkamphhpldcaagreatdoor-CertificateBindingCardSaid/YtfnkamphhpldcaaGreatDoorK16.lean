import Derived.Test.YtfnkamphhpldcaaGreatDoorK15
set_option maxHeartbeats 64000000
namespace Go.Proofs.YtfnkamphhpldcaaGreatDoor
open Go Sx
set_option maxRecDepth 100000
structure Mig where
 id:Int
 src:Int
 dst:Int
 back:Bool
 keep:List Kp
def asc:List Kp->Bool
 |a::b::r=>decide (a.1 < b.1)&&asc (b::r)
 |_=>true
theorem zsd:∀(l:List Kp),asc l=true↔∀i (h:i+1 < l.length),l[i].1 < l[i+1].1
 |[]=>by simp[asc]
 |[a]=>by simp[asc]
 |a::b::r=>by
  rw[asc,qd,zsd (b::r),decide_eq_true_eq];constructor
  ·rintro⟨h1,c⟩ i h;cases i with
   |zero=>exact h1
   |succ i=>exact c i (by simpa using h)
  ·intro h;exact⟨h 0 (by simp),fun i d=>h (i+1) (by simpa using d)⟩
def idOk(n:Int):Bool:=decide (1<=n)&&decide (n<=1000000)
def migOk(m:Mig):Bool:=asc m.keep&&(idOk m.id&&(idOk m.src&&(idOk m.dst&&(!(m.back&&decide (0 < m.keep.length))&&m.keep.all zbf))))
abbrev migS(m:Mig)(sk:SA):List SA:=[.int .i64 m.id,.int .i64 m.src,.int .i64 m.dst,.lit m.back,sk]
theorem zfz{n:Nat}(m:Mig){sk:SA}(h:sk.below n):(Ent.one (.cells 32 (migS m sk))).below n:=by
 intro a b;simp only[ql,qt,or_false]at b;rcases b with rfl | rfl | rfl | rfl | rfl
 ·trivial
 ·trivial
 ·trivial
 ·trivial
 ·exact h
theorem zsy(n:Int)(F:Fz):Fo Tryz.prog F 108 [.va (.int .i64 n)] (fun o a=>o=.ret (.va (.bool (idOk n)))/\a=F):=by
 refine fo_of hΘ Tryz.func108 rfl (by decide) _ _ rfl rfl rfl ?_;refine⟨fun g=>?_,fun g=>?_⟩
 ·exact endPu rfl (Fz.r F) (ob (by show(decide (1<=n)&&decide (n<=1000000))=_;rw[show decide (1<=n)=true from g];rfl)) rfl
 ·exact endPu rfl (Fz.r F) (ob (by show(decide (1<=n)&&decide (n<=1000000))=_;rw[show decide (1<=n)=false from g];rfl)) rfl
theorem mOk0{m:Mig}(h:asc m.keep=false):migOk m=false:=by simp only[migOk,h,jm]
theorem mOk1{m:Mig}(h:idOk m.id=false):migOk m=false:=by simp only[migOk,h,jm,jz]
theorem mOk2{m:Mig}(h:idOk m.src=false):migOk m=false:=by simp only[migOk,h,jm,jz]
theorem mOk3{m:Mig}(h:idOk m.dst=false):migOk m=false:=by simp only[migOk,h,jm,jz]
theorem mOk4{m:Mig}(b:m.back=true)(h:(!decide ((0:Int) < (m.keep.length:Int)))=false):migOk m=false:=by
 have a:decide (0 < m.keep.length)=true:=by simp at h ⊢;omega
 simp only[migOk,b,a,qdt,Bool.not_true,jm,jz]
theorem mOkT{m:Mig}(a:asc m.keep=true)(h1:idOk m.id=true)(b:idOk m.src=true)(c:idOk m.dst=true)(h4:m.back=false\/(!decide ((0:Int) < (m.keep.length:Int)))=true):migOk m= !(!m.keep.all zbf):=by
 have d:(!(m.back&&decide (0 < m.keep.length)))=true:=by
  rcases h4 with h4 | h4
  ·rw[h4];rfl
  ·have:decide (0 < m.keep.length)=false:=by simp at h4 ⊢;exact h4
   rw[this];simp
 simp only[migOk,a,h1,b,c,d,qac,Bool.not_not]
theorem zq3(F:Fz)(sk:SA)(m:Mig)(J:KpsAt F sk m.keep)(hs:short m.keep)(hl:m.keep.length < 1000000):
  Fo Tryz.prog F 50 [.agg (migS m sk)] (fun o _=>o=.ret (.va (.bool (migOk m)))):=by
 have d:=z3w F sk m.keep J hs hl;have M:=mOk0 (m:=m);have O:=mOk1 (m:=m);have Q:=mOk2 (m:=m);have R:=mOk3 (m:=m);have S:=mOk4 (m:=m);have T:=mOkT (m:=m);obtain⟨v,hv⟩:∃v,migOk m=v:=⟨_,rfl⟩
 rw[hv]at M O Q R S T ⊢;clear hv;obtain⟨id,src,q,j,a⟩:=m;replace J:KpsAt F sk a:=J;replace hl:a.length < 1000000:=hl;replace d:Fo Tryz.prog F 109 [.va sk,.va (.fn (.func 106) [])] (fun o L=>o=.ret (.va (.bool (!a.all zbf)))):=d;obtain⟨kn,kb,ke,kc,kL,kr,sf,rfl,k1,K,k3,k4⟩:=KpsAt.open J
 have fin:∀(b:Bool) (F1:Fz) (h:Hp) (nx:Nat),v=b->lget h 0=some (.frz F1)->Fz.le F F1->Cln 1 (FoK F fun o L=>o=.ret (.va (.bool v))) (.ret (.va (.bool b))) h nx:=by
  intro b F1 h nx Y U n;exact endFo (.ret (.va (.bool b))) F1 U n (Fz.r F1) (by rw[Y]) rfl rfl
 have finL:∀(b:Bool) (F1:Fz) (h:Hp) (nx:Nat),v=b->lget h 0=some (.frz F1)->Fz.le F F1->Cln 1 (FoK F fun o L=>o=.ret (.va (.bool v))) (.ret (.va (.lit b))) h nx:=by
  intro b F1 h nx Y U n;exact endFo (.ret (.va (.bool b))) F1 U n (Fz.r F1) (by rw[Y]) rfl rfl
 refine fo_of hΘ Tryz.func50 rfl (by decide) _ _ rfl rfl rfl ?_;conv=>whnf
 refine zam hΘ (X:={ k:Nat // (k=0\/k < a.length)/\∀i (h:i+1 < a.length),i < k->a[i].1 < a[i+1].1 }) (fun x=>[(4,.va (.int .i64 ((x.1+1:Nat):Int)))]) (2::jr 5 21 [])
  (fun x=>[(0,.frz F),(1,.one (.cells 32 (migS ⟨id,src,q,j,a⟩ (.slice kn 0 kb ke 2 a.length kc))))]) 2 (fun x=>a.length - x.1) ⟨0,.inl rfl,fun i h hi=>absurd hi (by omega)⟩
  (fun V W=>leI [] V W rfl ⟨tv,zfz _ (.inr (by omega)),tv⟩ ⟨rfl,tv⟩ ⟨Fz.r F,rfl,tv⟩) ?_
 rintro⟨k,aa,hp⟩ V W;by_cases g:k+1 < a.length
 ·have I:((k+1:Nat):Int) < (a.length:Int):=by omega
  have y:a.length - (k+1) < a.length - k:=by omega
  have A:k+1 < 4611686018427387904:=by omega
  have w1:IntKind.i64.wrap (((k+1:Nat):Int) - 1)=(k:Int):=by rw[zaj (by omega) (by omega)];omega
  have q0:0<=IntKind.i64.wrap (((k+1:Nat):Int) - 1)/\IntKind.i64.wrap (((k+1:Nat):Int) - 1) < (a.length:Int):=by rw[w1];omega
  have q1:0<=((k+1:Nat):Int)/\((k+1:Nat):Int) < (a.length:Int):=by omega
  have f:k < a.length:=Nat.lt_of_succ_lt g;have D:kL[ke+(IntKind.i64.wrap (((k+1:Nat):Int) - 1)).toNat]? =some [.int .i64 (a[k]'f).1,sf k]:=by rw[w1];exact(k4 k f).1
  have E:kL[ke+((k+1:Nat):Int).toNat]? =some [.int .i64 (a[k+1]'g).1,sf (k+1)]:=(k4 (k+1) g).1;have c:=SlR.lt k1 g;by_cases p:(a[k]'f).1 < (a[k+1]'g).1
  ·refine bri I ?_;refine drawP hΘ mixed (lk [0,1,2,3,4,5,6,7,8,9,10,11,12,13] .done) [1] (by kernel_rfl) ⟨rfl,c,q0,rfl,_,K c,_,D,rfl,c,q1,rfl,_,K c,_,E,?_⟩;refine br (fun h=>absurd (od h) (by omega)) (fun _=>?_);exact⟨⟨k+1,.inr g,fun i h hi=>(Nat.lt_succ_iff_lt_or_eq.1 hi).elim (hp i h) (fun e=>by subst e;exact p)⟩,y,leR [] V W rfl ⟨tv,zfz _ (.inr (by omega)),tv⟩ ⟨cnt A,tv⟩ ⟨Fz.r F,rfl,tv⟩⟩
  ·have Z:(a[k+1]'g).1<=(a[k]'f).1:=qcg.1 p
   have B:asc a=false:=by
    cases ha:asc a with
    |false=>rfl
    |true=>exact absurd ((zsd a).1 ha k g) p
   refine bri I ?_;refine drawP hΘ mixed (lk [0,1,2,3,4,5,6,7,8,9,10,11,12,13] .done) [1] (by kernel_rfl) ⟨rfl,c,q0,rfl,_,K c,_,D,rfl,c,q1,rfl,_,K c,_,E,?_⟩;refine bri Z ?_;conv=>whnf
   first | exact fin false F _ _ (M B) rfl (Fz.r F) | exact finL false F _ _ (M B) rfl (Fz.r F)
 ·have I:¬((k+1:Nat):Int) < (a.length:Int):=by omega
  have l:asc a=true:=(zsd a).2 fun i h=>hp i h (by omega)
  refine brj I ?_;refine usePu (zsy id F) rfl (zaa _) rfl ⟨fun s=>?_,fun s=>?_⟩
  ·refine usePu (zsy src F) rfl (zaa _) rfl ⟨fun u=>?_,fun u=>?_⟩
   ·refine usePu (zsy q F) rfl (zaa _) rfl ⟨fun w=>?_,fun w=>?_⟩
    ·rcases j with _ | _
     ·refine useFo d rfl (zaa _) rfl ?_;rintro _ F1 l1 rfl;exact fin _ F1 _ _ (T l s u w (.inl rfl)) rfl l1
     ·refine⟨fun G=>?_,fun G=>?_⟩
      ·refine useFo d rfl (zaa _) rfl ?_;rintro _ F1 l1 rfl;exact fin _ F1 _ _ (T l s u w (.inr G)) rfl l1
      ·conv=>whnf
       first | exact fin false F _ _ (S rfl G) rfl (Fz.r F) | exact finL false F _ _ (S rfl G) rfl (Fz.r F)
    ·conv=>whnf
     first | exact fin false F _ _ (R w) rfl (Fz.r F) | exact finL false F _ _ (R w) rfl (Fz.r F)
   ·conv=>whnf
    first | exact fin false F _ _ (Q u) rfl (Fz.r F) | exact finL false F _ _ (Q u) rfl (Fz.r F)
  ·conv=>whnf
   first | exact fin false F _ _ (O s) rfl (Fz.r F) | exact finL false F _ _ (O s) rfl (Fz.r F)
def zak(p:Int):List Kp->List Stp
 |[]=>[]
 |k::r=>if k.1=p then k.2 else zak p r
theorem zr0(p:Int)(l:List Kp)(k:Nat)(h:k < l.length):zak p (l.drop k)=if(l[k]'h).1=p then(l[k]'h).2 else zak p (l.drop (k+1)):=by
 rw[qy h];rfl
theorem zhz{a:List Kp}(b:short a)(p:Int):(zak p a).length < 1000000:=by
 induction a with
 |nil=>simp[zak]
 |cons x r ih=>
  rw[zak];split
  ·exact b x (by simp)
  ·exact ih fun y c=>b y (by simp[c])
theorem zlo(F:Fz)(sk:SA)(m:Mig)(p:Int)(I:KpsAt F sk m.keep)(J:short m.keep)(M:m.keep.length < 1000000):
  Fo Tryz.prog F 110 [.agg (migS m sk),.va (.int .i64 p)] (fun o s=>∃q,o=.ret (.va q)/\zbb s q (zak p m.keep)):=by
 obtain⟨id,src,i,d,b⟩:=m;replace I:KpsAt F sk b:=I;replace M:b.length < 1000000:=M;replace J:short b:=J;show Fo Tryz.prog F 110 [.agg (migS ⟨id,src,i,d,b⟩ sk),.va (.int .i64 p)] (fun o s=>∃q,o=.ret (.va q)/\zbb s q (zak p b));obtain⟨kn,kb,ke,kc,kL,kr,rfl,k1,Q,k3,k4⟩:=I;refine fo_of hΘ Tryz.func110 rfl (by decide) _ _ rfl rfl rfl ?_;conv=>whnf
 refine zam hΘ (X:={ k:Nat // k<=b.length/\zak p b=zak p (b.drop k) }) (fun x=>[(11,.va (.int .i64 x.1))]) (4::6::jr 12 11 [])
  (fun x=>[(0,.frz F),(1,.one (.cells 105 (migS ⟨id,src,i,d,b⟩ (.slice kn 0 kb ke 2 b.length kc))))]) 2 (fun x=>b.length - x.1) ⟨0,by simp,by simp⟩
  (fun u w=>leI [] u w rfl ⟨tv,zfz _ (.inr (by omega)),tv⟩ ⟨rfl,tv⟩ ⟨Fz.r F,rfl,tv⟩) ?_
 rintro⟨k,ai,f⟩ u w;by_cases g:k < b.length
 ·have h:(k:Int) < (b.length:Int):=by omega
  have l:b.length - (k+1) < b.length - k:=by omega
  have n:k < 4611686018427387904:=by omega
  have hx:=J (b[k]'g) (qz g);rw[zr0 p b k g]at f;have j:=SlR.at k4 g;obtain⟨y,O,a,rfl,K⟩:=j;have e:=zp4 F a (b[k]'g).2 K hx;have c:=SlR.lt k1 g;obtain⟨aa,W,Z,Y,V,ab,rfl,R,S,T,U⟩:=K;by_cases gp:(b[k]'g).1=p
  ·rw[if_pos gp]at f;refine bri h ⟨c,⟨by simp,h⟩,_,Q c,_,O,bri gp ?_⟩;refine useFo e rfl (zaa _) rfl ?_;rintro _ F1 l1 ⟨sb,rfl,L⟩;have A:=L;obtain⟨G,B,E,D,ag,ah,rfl,ac,ad,ae,af⟩:=L;exact endFo (.ret (.va (.slice G 0 B E 2 (b[k]'g).2.length D))) F1 rfl l1 (Fz.r F1) ⟨_,rfl,by rw[f];exact A⟩ (zah _) rfl
  ·rw[if_neg gp]at f;refine bri h ⟨c,⟨by simp,h⟩,_,Q c,_,O,brj gp ?_⟩;exact⟨⟨k+1,g,f⟩,l,leR [] u w rfl ⟨tv,zfz _ (.inr (by omega)),tv⟩ ⟨cnt n,tv⟩ ⟨Fz.r F,rfl,tv⟩⟩
 ·have h:¬(k:Int) < (b.length:Int):=by omega
  rw[yi (by omega)]at f;refine brj h ?_;exact endFo (.ret (.va (.slice true 0 0 0 2 0 0))) F rfl (Fz.r F) (Fz.r F) ⟨_,rfl,by rw[f];exact Sl.nil⟩ ⟨rfl,rfl,rfl⟩ rfl
theorem zwg(F:Fz)(sk:SA)(m:Mig)(p:Int)(b:KpsAt F sk m.keep)(w:short m.keep)(u:m.keep.length < 1000000):
  Fo Tryz.prog F 94 [.agg (migS m sk),.va (.int .i64 p)] (fun o _=>o=.ret (.va (.bool (decide (0 < (zak p m.keep).length))))):=by
 have h:=zlo F sk m p b w u;obtain⟨id,src,c,a,x⟩:=m;obtain⟨M,J,L,K,I,O,rfl,B,D,E,G⟩:=b;refine fo_of hΘ Tryz.func94 rfl (by decide) _ _ rfl rfl rfl ?_;refine useFo h rfl (zaa _) rfl ?_;rintro _ F1 y ⟨Q,rfl,d⟩;obtain⟨q,k,n,l,j,s,rfl,e,f,g,i⟩:=d;exact endFo (.ret (.va (.bool (decide (0 < (zak p x).length))))) F1 rfl y (Fz.r F1) rfl (ob (by simp)) rfl
def zbw(a:List Kp)(p:Int):List Stp:=
 if(p=3/\0 < (zak 4 a).length)\/(p=5/\0 < (zak 3 a).length)then [(6,0)]else if p=6 then zak 7 a else zak p a
theorem zi8{a:List Kp}{p q:Int}(h:(p=3/\q=4)\/(p=5/\q=3))(g:decide (0 < (zak q a).length)=true):zbw a p=[(6,0)]:=by
 have g:=od g;rcases h with⟨rfl,rfl⟩ | ⟨rfl,rfl⟩
 ·rw[zbw,if_pos (.inl ⟨rfl,g⟩)]
 ·rw[zbw,if_pos (.inr ⟨rfl,g⟩)]
theorem zi9{a:List Kp}{p q:Int}(h:(p=3/\q=4)\/(p=5/\q=3))(g:decide (0 < (zak q a).length)=false):zbw a p=zak p a:=by
 have g:=oe g;rcases h with⟨rfl,rfl⟩ | ⟨rfl,rfl⟩
 ·rw[zbw,if_neg (by rintro(⟨_,h⟩ | ⟨h,_⟩);exact g h;cases h),if_neg (by decide)]
 ·rw[zbw,if_neg (by rintro(⟨h,_⟩ | ⟨_,h⟩);cases h;exact g h),if_neg (by decide)]
theorem zye{a:List Kp}:zbw a 6=zak 7 a:=by
 rw[zbw,if_neg (by rintro(⟨h,_⟩ | ⟨h,_⟩)<;>cases h),if_pos rfl]
theorem zja{a:List Kp}{p:Int}(b:p≠3)(c:p≠5)(d:p≠6):zbw a p=zak p a:=by
 rw[zbw,if_neg (by rintro(⟨h,_⟩ | ⟨h,_⟩);exact b h;exact c h),if_neg d]
theorem KpsAt.up{F c:Fz}{t:Nat}{a:SA}{l:List Kp}(h:SlR F t 2 (KpR F) a l)(b:Fz.le F c):SlR c t 2 (KpR c) a l:=SlR.mono h b fun _ _ h=>h.mono b
theorem z2r(F:Fz)(sk:SA)(m:Mig)(p:Int)(V:KpsAt F sk m.keep)(hs:short m.keep)(hl:m.keep.length < 1000000):
  Fo Tryz.prog F 51 [.agg (migS m sk),.va (.int .i64 p)] (fun o T=>∃d,o=.ret (.agg [.int .i64 p,d])/\zbb T d (zbw m.keep p)):=by
 have f:=fun F1 (a:Fz.le F F1) q=>zlo F1 sk m q (KpsAt.up V a) hs hl
 have S:=fun F1 (a:Fz.le F F1) q=>zwg F1 sk m q (KpsAt.up V a) hs hl
 obtain⟨id,src,ab,aa,ks⟩:=m
 have fin:∀(d:SA) (F1:Fz) (h:Hp) (nx:Nat),zbb F1 d (zbw ks p)->lget h 0=some (.frz F1)->Fz.le F F1->outE (.ret (.agg [.int .i64 p,d])) ((Out.ret (.agg [.int .i64 p,d])).ren (resP h))->
   Cln 1 (FoK F fun o T=>∃d,o=.ret (.agg [.int .i64 p,d])/\zbb T d (zbw ks p)) (.ret (.agg [.int .i64 p,d])) h nx:=by
  intro d F1 h nx b h0 W ho;have hz:=b.z;exact endFo (.ret (.agg [.int .i64 p,d])) F1 h0 W (Fz.r F1) ⟨_,rfl,b⟩ ho (by simp[Out.z,SV.z,hz];rfl)
 obtain⟨kn,kb,ke,kc,kL,kr,rfl,k1,k2,k3,k4⟩:=V;by_cases Y:p=3
 ·skip
  subst Y;refine fo_of hΘ Tryz.func51 rfl (by decide) _ _ rfl rfl rfl ?_;refine useFo (f F (Fz.r F) 3) rfl (zaa _) rfl ?_;rintro _ F1 a ⟨sb,rfl,b⟩;have c:=b;obtain⟨B,x,A,y,w,D,rfl,l,n,s,u⟩:=b;refine gae (by decide) ?_;refine useFo (S F1 a 4) rfl (zaa _) rfl ?_;rintro _ k i rfl;refine br (fun g=>?_) (fun g=>?_)
  ·refine br (fun _=>?_) (fun h=>absurd (h.symm.trans g) (by simp));refine useFo (zon k) rfl (zaa _) rfl ?_;rintro _ U X ⟨sc,rfl,j⟩;have e:=j;obtain⟨Q,L,O,M,K,R,rfl,E,G,I,J⟩:=j;exact fin _ U _ _ (by rw[zi8 (by simp) g];exact e) rfl (Fz.t a (Fz.t i X)) (zah _)
  ·refine gaf (by decide) ?_;refine brd (by decide) ?_;exact fin _ k _ _ (by rw[zi9 (by simp) g];exact c.mono i) rfl (Fz.t a i) (zah _)
 by_cases Z:p=5
 ·skip
  subst Z;refine fo_of hΘ Tryz.func51 rfl (by decide) _ _ rfl rfl rfl ?_;refine useFo (f F (Fz.r F) 5) rfl (zaa _) rfl ?_;rintro _ F1 a ⟨sb,rfl,b⟩;have c:=b;obtain⟨B,x,A,y,w,D,rfl,l,n,s,u⟩:=b;refine gaf (by decide) ?_;refine gae (by decide) ?_;refine useFo (S F1 a 3) rfl (zaa _) rfl ?_;rintro _ k i rfl;refine br (fun g=>?_) (fun g=>?_)
  ·refine useFo (zon k) rfl (zaa _) rfl ?_;rintro _ U X ⟨sc,rfl,j⟩;have e:=j;obtain⟨Q,L,O,M,K,R,rfl,E,G,I,J⟩:=j;exact fin _ U _ _ (by rw[zi8 (by simp) g];exact e) rfl (Fz.t a (Fz.t i X)) (zah _)
  ·refine brd (by decide) ?_;exact fin _ k _ _ (by rw[zi9 (by simp) g];exact c.mono i) rfl (Fz.t a i) (zah _)
 by_cases p6:p=6
 ·subst p6;refine fo_of hΘ Tryz.func51 rfl (by decide) _ _ rfl rfl rfl ?_;refine useFo (f F (Fz.r F) 6) rfl (zaa _) rfl ?_;rintro _ F1 a ⟨sb,rfl,b⟩;have c:=b;obtain⟨B,x,A,y,w,D,rfl,l,n,s,u⟩:=b;refine gaf (by decide) ?_;refine gaf (by decide) ?_;refine bre (by decide) ?_;refine useFo (f F1 a 7) rfl (zaa _) rfl ?_;rintro _ k i ⟨sc,rfl,j⟩;have e:=j;obtain⟨Q,L,O,M,K,R,rfl,E,G,I,J⟩:=j;exact fin _ k _ _ (by rw[zye];exact e) rfl (Fz.t a i) (zah _)
 ·refine fo_of hΘ Tryz.func51 rfl (by decide) _ _ rfl rfl rfl ?_;refine useFo (f F (Fz.r F) p) rfl (zaa _) rfl ?_;rintro _ F1 a ⟨sb,rfl,b⟩;have c:=b;obtain⟨B,x,A,y,w,D,rfl,l,n,s,u⟩:=b;refine⟨fun g=>absurd (od g) Y,fun _=>?_⟩;refine⟨fun g=>absurd (od g) Z,fun _=>?_⟩;refine brj p6 ?_;exact fin _ F1 _ _ (by rw[zja Y Z p6];exact c) rfl a (zah _)
def zbi(a:List Kp):List Kp:=(List.range 8).map fun k:Nat=>((k:Int)+1,zbw a ((k:Int)+1))
theorem zds(a:List Kp):(zbi a).length=8:=by simp[zbi]
theorem zsk(a:List Kp)(k:Nat)(h:k < 8):(zbi a)[k]? =some ((k:Int)+1,zbw a ((k:Int)+1)):=by simp[zbi,h]
def RowOf(F:Fz)(f:Nat->Kp)(o:List ZC):Prop:=∀i (z:ZC),o[i]? =some z->KpR F z.1 (f i)
theorem RowOf.mono{F b:Fz}{f:Nat->Kp}{o:List ZC}(h:RowOf F f o)(a:Fz.le F b):RowOf b f o:=fun i z c=>(h i z c).mono a
theorem RowOf.nil{F:Fz}{f:Nat->Kp}:RowOf F f []:=fun i z a=>by simp at a
theorem RowOf.snoc{F:Fz}{f:Nat->Kp}{o:List ZC}(h:RowOf F f o){z:ZC}(g:KpR F z.1 (f o.length)):RowOf F f (o++[z]):=fun i y a=>by
 by_cases e:i < o.length
 ·rw[q9 e]at a;exact h i y a
 ·rw[jt (by omega)]at a
  have d:i - o.length=0:=by
   by_cases h1:i - o.length=0
   ·exact h1
   ·rw[qaq (by simp;omega)]at a;cases a
  rw[d]at a;have c:z=y:=by simpa using a
  have b:i=o.length:=by omega
  rw[<-c,b];exact g
theorem RowOf.sl{F:Fz}{t b a cap:Nat}{f:Nat->Kp}{o:List ZC}{l:List Kp}(h:RowOf F f o)(g:F b=some (.arr t 2 (o.map encZ) a))(d:o.length=l.length)(i:∀k x,l[k]? =some x->x=f k):SlR F t 2 (KpR F) (.slice false 0 b 0 2 l.length cap) l:=
 SlR.new g (by rw[qa,d]) fun k x e=>by
  have c:k < o.length:=by rw[d];exact(qh.1 e).1
  exact⟨encZ o[k],by rw[qs,qc c];rfl,by rw[i k x e];exact h k o[k] (qc c)⟩
def mkZ(p:Int)(a:SA)(h:a.z=true):ZC:=⟨[.int .i64 p,a],fun x b=>by
 simp only[ql,qt,or_false]at b;rcases b with rfl | rfl
 ·rfl
 ·exact h⟩
theorem zyf(F:Fz)(sk:SA)(m:Mig)(R:KpsAt F sk m.keep)(hs:short m.keep)(hl:m.keep.length < 1000000):
  Fo Tryz.prog F 16 [.agg (migS m sk)] (fun o M=>(migOk m=false/\o=.ret (.tup [.va .nilsl,.va (.int .i64 90)]))\/
   (migOk m=true/\∃b c,o=.ret (.tup [.va (.slice false 0 b 0 2 8 c),.va (.int .i64 0)])/\ClsAt M (.slice false 0 b 0 2 8 c) (zbi m.keep))):=by
 have aj:=fun F1 (l1:Fz.le F F1) q=>z2r F1 sk m q (KpsAt.up R l1) hs hl
 have L:=zq3 F sk m R hs hl;have I:=fun n (h:sk.below n)=>zfz (n:=n) m h
 obtain⟨id,src,T,B,p⟩:=m;replace R:KpsAt F sk p:=R;obtain⟨v,hv⟩:∃v,migOk ⟨id,src,T,B,p⟩=v:=⟨_,rfl⟩
 rw[hv]at L ⊢;clear hv;obtain⟨kn,kb,ke,kc,kL,kr,rfl,k1,k2,k3,k4⟩:=R;replace I:∀n,0 < n->(Ent.one (.cells 32 (migS ⟨id,src,T,B,p⟩ (.slice kn 0 kb ke 2 p.length kc)))).below n:=fun n hn=>I n (.inr hn)
 rcases v with _ | _
 ·refine fo_of hΘ Tryz.func16 rfl (by decide) _ _ rfl rfl rfl ?_;refine useFo L rfl (zaa _) rfl ?_;rintro _ F1 l1 rfl;refine bre (by decide) ?_;exact endFo (.ret (.tup [.va .nilsl,.va (.int .i64 90)])) F1 rfl l1 (Fz.r F1) (.inl ⟨rfl,rfl⟩) (zah _) rfl
 ·refine fo_of hΘ Tryz.func16 rfl (by decide) _ _ rfl rfl rfl ?_;refine useFo L rfl (zaa _) rfl ?_;rintro _ F1 l1 rfl;refine brd (by decide) ?_;conv=>whnf
  refine zam hΘ (X:={ y:Nat×List ZC×Nat×Fz // Fz.le F y.2.2.2/\y.1<=8/\y.2.1.length=y.1/\RowOf y.2.2.2 (fun k=>((k:Int)+1,zbw p ((k:Int)+1))) y.2.1 }) (fun y=>[(4,.va (gA 2 2 y.1.2.2.1 y.1.2.1)),(9,.va (.int .i64 y.1.1))]) (5::jr 10 11 [])
   (fun y=>[(0,.frz y.1.2.2.2),(1,.one (.cells 32 (migS ⟨id,src,T,B,p⟩ (.slice kn 0 kb ke 2 p.length kc)))),(2,gE 52 2 encZ y.1.2.2.1 y.1.2.1)]) 3 (fun y=>8 - y.1.1) ⟨(0,[],0,F1),l1,by omega,rfl,RowOf.nil⟩
   (fun hH hT=>leI [(2,2)] hH hT rfl ⟨tv,I 3 (by omega),zb7 za1 (by omega) _ _ _ _,tv⟩ ⟨rfl,rfl,tv⟩ ⟨Fz.r F1,rfl,rfl,tv⟩) ?_
  rintro⟨⟨k,o,co,G⟩,V,R,W,u⟩ hH hT;replace V:Fz.le F G:=V;replace R:k<=8:=R;replace W:o.length=k:=W;replace u:RowOf G (fun k=>((k:Int)+1,zbw p ((k:Int)+1))) o:=u;by_cases g:k < 8
  ·have O:(k:Int) < 8:=by omega
   have Z:k+1<=8:=g;have Q:8 - (k+1) < 8 - k:=by omega
   have E:k < 4611686018427387904:=by omega
   have hw:SA.int .i64 ((k:Int)+1)=SA.int .i64 (IntKind.i64.wrap ((k:Int)+1)):=cnt E;have D:=aj G V ((k:Int)+1);have aa:∀(A:Fz) (z:ZC),Fz.le G A->KpR A z.1 ((k:Int)+1,zbw p ((k:Int)+1))->RowOf A (fun k=>((k:Int)+1,zbw p ((k:Int)+1))) (o++[z]):=fun A z w hz=>(u.mono w).snoc (by rw[W];exact hz)
   have S:∀z:ZC,(o++[z]).length=k+1:=fun z=>by rw[qb,W];rfl
   rcases o with _ | ⟨o0,s⟩
   ·refine bri O ?_;refine useFo D rfl ⟨rfl,hw,tv⟩ rfl ?_;rintro _ A l2 ⟨sa,rfl,J⟩;have K:=J;obtain⟨f,a,e,d,af,ag,rfl,ab,ac,ad,ae⟩:=J;refine⟨nb rfl,[[.int .i64 ((k:Int)+1),.slice f 0 a e 2 (zbw p ((k:Int)+1)).length d]],rfl,rfl,rfl,by show 1*32<=140737488355328;omega,fun c' ai=>?_⟩;exact⟨⟨(k+1,[]++[mkZ ((k:Int)+1) (.slice f 0 a e 2 (zbw p ((k:Int)+1)).length d) rfl],c',A),Fz.t V l2,Z,S _,aa A _ l2 ⟨_,rfl,K⟩⟩,Q,leR [(2,4)] hH hT rfl ⟨tv,I 3 (by omega),zb7 za1 (by omega) _ _ _ _,tv⟩ ⟨by(conv=>whnf);exact⟨rfl,rfl,rfl,.inr ⟨rfl,rfl,rfl,rfl⟩⟩,cnt E,tv⟩ ⟨Fz.r A,rfl,zfc (μ:=sig [(2,4)]) za1 (fun k=>rfl) (zbp _ (by rw[qq];rfl)),tv⟩⟩
   ·have am:(s.length+1+1)*32<=140737488355328:=by
     have h9:s.length+1=k:=W;omega
    refine bri O ?_;refine useFo D rfl ⟨rfl,hw,tv⟩ rfl ?_;rintro _ A l2 ⟨sa,rfl,J⟩;have K:=J;obtain⟨f,a,e,d,af,ag,rfl,ab,ac,ad,ae⟩:=J;refine⟨nb rfl,[[.int .i64 ((k:Int)+1),.slice f 0 a e 2 (zbw p ((k:Int)+1)).length d]],rfl,rfl,rfl,by simp,rfl,am,fun c' ai=>?_⟩;exact⟨⟨(k+1,(o0::s)++[mkZ ((k:Int)+1) (.slice f 0 a e 2 (zbw p ((k:Int)+1)).length d) rfl],c',A),Fz.t V l2,Z,S _,aa A _ l2 ⟨_,rfl,K⟩⟩,Q,leR [(2,4)] hH hT rfl ⟨tv,I 3 (by omega),zb7 za1 (by omega) _ _ _ _,tv⟩ ⟨zeb (μ:=sig [(2,4)]) (i:=2) (j:=4) rfl 2 c' _ (o0::s) (mkZ ((k:Int)+1) (.slice f 0 a e 2 (zbw p ((k:Int)+1)).length d) rfl) rfl,cnt E,tv⟩ ⟨Fz.r A,rfl,zfc (μ:=sig [(2,4)]) za1 (fun k=>rfl) (zbp _ (by rw[qq];rfl)),tv⟩⟩
  ·have O:¬(k:Int) < 8:=by omega
   have ak:k=8:=by omega
   have U:o.length=8:=W.trans ak
   have Y:∀(M:Fz) (b c:Nat),Fz.le G M->M b=some (.arr 52 2 (o.map encZ) c)->ClsAt M (.slice false 0 b 0 2 8 c) (zbi p):=fun M b c w hb=>by
    have h:=(u.mono w).sl (cap:=c) (l:=zbi p) hb (by rw[U,zds]) fun i x hx=>by
     have hi:i < 8:=by have:=(qh.1 hx).1;rw[zds]at this;exact this
     rw[zsk p i hi]at hx;exact(Option.some.inj hx).symm
    rw[zds]at h;exact h
   rcases o with _ | ⟨o0,s⟩
   ·cases U
   ·have al:s.length+1=8:=U;refine brj O ?_;refine zbc 2 (fun _=>.arr 52 2 ((o0::s).map encZ) co) rfl rfl rfl (fun _ _=>by exact zer (μ:=resP _) za1 (fun k=>rfl) rfl _ _ _) (fun _ _=>zcu za1 (by omega) _ _ _ _) ?_;intro b' M w ah;refine endFo (.ret (.tup [.va (.slice false 0 (b' 0) 0 2 8 co),.va (.int .i64 0)])) M rfl (Fz.t V w) (Fz.r M) (.inr ⟨rfl,_,_,rfl,Y M _ _ w (ah 0 ⟨rfl,rfl⟩)⟩) ?_ rfl;exact⟨⟨rfl,al.symm,rfl,.inr ⟨rfl,rfl,rfl,rfl⟩⟩,rfl,tv⟩
structure Crt where
 src:List UInt8
 dst:List UInt8
 len:Int
 cl:List Kp
abbrev crtS(c:Crt)(sk:SA):List SA:=[.str c.src,.str c.dst,.int .i64 c.len,sk]
theorem zaw{n:Nat}(c:Crt){t:Nat}{sk:SA}(h:sk.below n):(Ent.one (.cells t (crtS c sk))).below n:=by
 intro a b;simp only[ql,qt,or_false]at b;rcases b with rfl | rfl | rfl | rfl
 ·trivial
 ·trivial
 ·trivial
 ·exact h
def clAt(x:Kp)(i:Int):Bool:=decide (x.1=i)&&(za8 x.1 x.2&&decide (normS x.2=x.2))
def clOk:List Kp->Int->Bool
 |[],_=>true
 |x::r,i=>clAt x i&&clOk r (i+1)
theorem zyd(l:List Kp)(k:Nat)(i:Int)(h:k < l.length):clOk (l.drop k) i=(clAt (l[k]'h) i&&clOk (l.drop (k+1)) (i+1)):=by
 rw[qy h];rfl
def crtOk(c:Crt):Bool:=decide (c.src.length=32)&&(decide (c.dst.length=32)&&(decide (1<=c.len)&&(decide (c.len<=64)&&(decide (c.cl.length=8)&&clOk c.cl 1))))
theorem clA1{x:Kp}{i j:Int}(a:j=i)(h:(!decide (x.1=j))=true):clAt x i=false:=by
 subst a;have:decide (x.1=j)=false:=by simpa using h
 simp only[clAt,this,jm]
theorem clA2{x:Kp}{i:Int}(h:(!decide ((normR x.1 x.2).2=0))=true):clAt x i=false:=by
 have a:za8 x.1 x.2=false:=by
  cases b:za8 x.1 x.2 with
  |false=>rfl
  |true=>rw[normR,if_pos b]at h;cases h
 simp only[clAt,a,jm,jz]
theorem clA3{x:Kp}{i:Int}(b:(!decide ((normR x.1 x.2).2=0))=false)(h:(!decide ((normR x.1 x.2).1=x.2))=true):clAt x i=false:=by
 have c:=zkh (p:=x.1) (l:=x.2) (by simpa using b);have a:decide ((normR x.1 x.2).1=x.2)=false:=by simpa using h
 rw[c.2]at a;simp only[clAt,a,jz]
theorem clAT{x:Kp}{i j:Int}(e:j=i)(h1:(!decide (x.1=j))=false)(c:(!decide ((normR x.1 x.2).2=0))=false)(h:(!decide ((normR x.1 x.2).1=x.2))=false):clAt x i=true:=by
 subst e;have a:=zkh (p:=x.1) (l:=x.2) (by simpa using c);have b:decide ((normR x.1 x.2).1=x.2)=true:=by simpa using h
 have d:decide (x.1=j)=true:=by simpa using h1
 rw[a.2]at b;simp only[clAt,d,a.1,b,Bool.and_self]
theorem cOk1{c:Crt}(h:(!decide ((c.src.length:Int)=32))=true):crtOk c=false:=by
 have:decide (c.src.length=32)=false:=by simp at h ⊢;omega
 simp only[crtOk,this,jm]
theorem cOk2{c:Crt}(h:(!decide ((c.dst.length:Int)=32))=true):crtOk c=false:=by
 have:decide (c.dst.length=32)=false:=by simp at h ⊢;omega
 simp only[crtOk,this,jm,jz]
theorem cOk3{c:Crt}(h:decide (c.len < 1)=true):crtOk c=false:=by
 have:decide (1<=c.len)=false:=by simp at h ⊢;omega
 simp only[crtOk,this,jm,jz]
theorem cOk4{c:Crt}(h:decide (64 < c.len)=true):crtOk c=false:=by
 have:decide (c.len<=64)=false:=by simp at h ⊢;omega
 simp only[crtOk,this,jm,jz]
theorem cOk5{c:Crt}(h:(!decide ((c.cl.length:Int)=8))=true):crtOk c=false:=by
 have:decide (c.cl.length=8)=false:=by simp at h ⊢;omega
 simp only[crtOk,this,jm,jz]
theorem cOkT{c:Crt}(h1:(!decide ((c.src.length:Int)=32))=false)(g:(!decide ((c.dst.length:Int)=32))=false)(h:decide (c.len < 1)=false)(i:decide (64 < c.len)=false)(j:(!decide ((c.cl.length:Int)=8))=false):crtOk c=clOk c.cl 1:=by
 have a:decide (c.src.length=32)=true:=by simp at h1 ⊢;omega
 have b:decide (c.dst.length=32)=true:=by simp at g ⊢;omega
 have d:decide (1<=c.len)=true:=by simp at h ⊢;omega
 have e:decide (c.len<=64)=true:=by simp at i ⊢;omega
 have f:decide (c.cl.length=8)=true:=by simp at j ⊢;omega
 simp only[crtOk,a,b,d,e,f,qac]
theorem ze3(F:Fz)(sk:SA)(c:Crt)(Y:ClsAt F sk c.cl)(hs:short c.cl)(hl:c.cl.length < 1000000):
  Fo Tryz.prog F 25 [.agg (crtS c sk)] (fun o _=>o=.ret (.va (.bool (crtOk c)))):=by
 have e1:=cOk1 (c:=c);have e2:=cOk2 (c:=c);have e3:=cOk3 (c:=c);have e4:=cOk4 (c:=c);have e5:=cOk5 (c:=c);have eT:=cOkT (c:=c);obtain⟨v,hv⟩:∃v,crtOk c=v:=⟨_,rfl⟩
 rw[hv]at e1 e2 e3 e4 e5 eT ⊢;clear hv;obtain⟨src,O,aa,d⟩:=c;replace Y:ClsAt F sk d:=Y;replace hs:short d:=hs;replace hl:d.length < 1000000:=hl
 have fin:∀(b:Bool) (F1:Fz) (h:Hp) (nx:Nat),v=b->lget h 0=some (.frz F1)->Fz.le F F1->Cln 1 (FoK F fun o F'=>o=.ret (.va (.bool v))) (.ret (.va (.bool b))) h nx:=by
  intro b F1 h nx B S q;exact endFo (.ret (.va (.bool b))) F1 S q (Fz.r F1) (by rw[B]) rfl rfl
 have finL:∀(b:Bool) (F1:Fz) (h:Hp) (nx:Nat),v=b->lget h 0=some (.frz F1)->Fz.le F F1->Cln 1 (FoK F fun o F'=>o=.ret (.va (.bool v))) (.ret (.va (.lit b))) h nx:=by
  intro b F1 h nx B S q;exact endFo (.ret (.va (.bool b))) F1 S q (Fz.r F1) (by rw[B]) rfl rfl
 obtain⟨kn,kb,ke,kc,kL,kr,rfl,k1,k2,k3,k4⟩:=Y;refine fo_of hΘ Tryz.func25 rfl (by decide) _ _ rfl rfl rfl ?_;refine⟨fun m=>?_,fun m=>?_⟩
 rotate_left
 ·exact fin false F _ _ (e1 m) rfl (Fz.r F)
 refine⟨fun e=>?_,fun e=>?_⟩
 rotate_left
 ·exact fin false F _ _ (e2 e) rfl (Fz.r F)
 refine⟨fun n=>?_,fun n=>?_⟩
 rotate_left
 ·exact fin false F _ _ (e3 n) rfl (Fz.r F)
 refine⟨fun Q=>?_,fun Q=>?_⟩
 rotate_left
 ·exact fin false F _ _ (e4 Q) rfl (Fz.r F)
 refine br (fun R=>?_) (fun R=>?_)
 ·exact fin false F _ _ (e5 R) rfl (Fz.r F)
 conv=>whnf
 have A:=eT m e n Q R
 refine zam hΘ (X:={ x:Nat×Fz // Fz.le F x.2/\x.1<=d.length/\v=clOk (d.drop x.1) ((x.1:Int)+1) }) (fun x=>[(36,.va (.int .i64 x.1.1))]) (2::3::4::5::6::jr 37 29 [])
  (fun x=>[(0,.frz x.1.2),(1,.one (.cells 48 (crtS ⟨src,O,aa,d⟩ (.slice kn 0 kb ke 2 d.length kc))))]) 2 (fun x=>d.length - x.1.1) ⟨(0,F),Fz.r F,by simp,A⟩
  (fun T A=>leI [] T A rfl ⟨tv,zaw _ (.inr (by omega)),tv⟩ ⟨rfl,tv⟩ ⟨Fz.r F,rfl,tv⟩) ?_
 rintro⟨⟨k,G⟩,f,I,l⟩ T A;replace f:Fz.le F G:=f;replace I:k<=d.length:=I;replace l:v=clOk (d.drop k) ((k:Int)+1):=l;by_cases g:k < d.length
 ·have K:(k:Int) < (d.length:Int):=by omega
  have D:d.length - (k+1) < d.length - k:=by omega
  have E:k < 4611686018427387904:=by omega
  have hw:IntKind.i64.wrap ((k:Int)+1)=(k:Int)+1:=zaj (by omega) (by omega);have hx:=hs (d[k]'g) (qz g);rw[zyd d k _ g]at l;have s:clAt (d[k]'g) ((k:Int)+1)=false->v=false:=fun h=>by rw[l,h,jm]
  have Z:clAt (d[k]'g) ((k:Int)+1)=true->v=clOk (d.drop (k+1)) (((k+1:Nat):Int)+1):=fun h=>by rw[l,h,qac];rfl
  have w:=SlR.at k4 g;obtain⟨y,hy,a,rfl,U⟩:=w;have p:=znd G a (d[k]'g).2 (d[k]'g).1 (U.mono f) hx;have W:=fun F1 (L:Fz.le G F1) sb B=>zia F1 sb a (normR (d[k]'g).1 (d[k]'g).2).1 (d[k]'g).2 B ((U.mono f).mono L) (znc _ _)
  have j:=SlR.lt k1 g;have q1:=clA1 (x:=d[k]'g) hw;have q2:=clA2 (x:=d[k]'g) (i:=(k:Int)+1);have q3:=clA3 (x:=d[k]'g) (i:=(k:Int)+1);have qT:=clAT (x:=d[k]'g) hw;obtain⟨av,aq,au,ar,ap,aw,rfl,al,am,an,ao⟩:=U;refine bri K ⟨j,⟨by simp,K⟩,_,f _ _ (k2 j),_,hy,?_⟩;refine useFo p rfl (zaa _) rfl ?_;rintro _ u L ⟨sc,rfl,J⟩;have V:=W u L sc J;have M:=Fz.t f L;obtain⟨aj,ag,ai,ah,af,ak,rfl,ab,ac,ad,ae⟩:=J;refine⟨fun m=>?_,fun m=>?_⟩
  rotate_left
  ·exact fin false u _ _ (s (q1 m)) rfl M
  refine⟨fun e=>?_,fun e=>?_⟩
  rotate_left
  ·exact fin false u _ _ (s (q2 e)) rfl M
  refine usePu (V) rfl (zaa _) rfl ?_;refine br (fun n=>?_) (fun n=>?_)
  ·exact fin false u _ _ (s (q3 e n)) rfl M
  ·exact⟨⟨(k+1,u),M,g,Z (qT m e n)⟩,D,leR [] T A rfl ⟨tv,zaw _ (.inr (by omega)),tv⟩ ⟨cnt E,tv⟩ ⟨Fz.r u,rfl,tv⟩⟩
 ·have K:¬(k:Int) < (d.length:Int):=by omega
  rw[yi (by omega)]at l;refine brj K ?_;conv=>whnf
  first | exact fin true G _ _ l rfl f | exact finL true G _ _ l rfl f
theorem z5l(F:Fz)(f g:SA)(p q:Int)(a b:List Stp)(i:zbb F f a)(j:zbb F g b)(S:a.length < 1000000):
  Fo Tryz.prog F 66 [.agg [.int .i64 p,f],.agg [.int .i64 q,g]] (fun o c=>o=.ret (.va (.bool (decide (((p,a):Kp)=(q,b)))))/\c=F):=by
 have e:=zia F f g a b i j S
 have fin:∀(v:Bool) (h:Hp) (nx:Nat),decide (((p,a):Kp)=(q,b))=v->lget h 0=some (.frz F)->Cln 1 (FoK F fun o c=>o=.ret (.va (.bool (decide (((p,a):Kp)=(q,b)))))/\c=F) (.ret (.va (.bool v))) h nx:=by
  intro v h nx R k;exact endPu k (Fz.r F) (ob R) rfl
 obtain⟨A,w,y,x,u,B,rfl,l,m,n,s⟩:=i;obtain⟨O,K,M,L,J,Q,rfl,D,E,G,I⟩:=j;refine fo_of hΘ Tryz.func66 rfl (by decide) _ _ rfl rfl rfl ?_;refine⟨fun d=>?_,fun d=>?_⟩
 ·refine usePu (e) rfl (zaa _) rfl ?_;exact fin _ _ _ (by have h:=od d;subst h;simp) rfl
 ·exact fin _ _ _ (by have h:=oe d;simp[h]) rfl
theorem z7p(F:Fz)(A B:SA)(a b:List Kp)(u:ClsAt F A a)(w:ClsAt F B b)(hs:short a)(la:a.length < 1000000):
  Fo Tryz.prog F 65 [.va A,.va B,.va (.fn (.func 66) [])] (fun o i=>o=.ret (.va (.bool (decide (a=b))))/\i=F):=by
 have fin:∀(v:Bool) (h:Hp) (nx:Nat),decide (a=b)=v->lget h 0=some (.frz F)->Cln 1 (FoK F fun o i=>o=.ret (.va (.bool (decide (a=b))))/\i=F) (.ret (.va (.bool v))) h nx:=by
  intro v h nx L G;exact endPu G (Fz.r F) (ob L) rfl
 have finL:∀(v:Bool) (h:Hp) (nx:Nat),decide (a=b)=v->lget h 0=some (.frz F)->Cln 1 (FoK F fun o i=>o=.ret (.va (.bool (decide (a=b))))/\i=F) (.ret (.va (.lit v))) h nx:=by
  intro v h nx L G;exact endPu G (Fz.r F) (by rw[L];exact rfl) rfl
 obtain⟨an,ab,ae,ac,aL,ar,rfl,Q,R,a3,S⟩:=u;obtain⟨bn,bb,be,bc,bL,W,rfl,T,U,b3,V⟩:=w;refine fo_of hΘ Tryz.func65 rfl (by decide) _ _ rfl rfl rfl ?_;refine br (fun g=>?_) (fun g=>?_)
 ·refine fin _ _ _ ?_ rfl;have:¬a=b:=by rintro rfl;simp at g
  simp[this]
 ·have Y:a.length=b.length:=neq_f g
  conv=>whnf
  refine zam hΘ (X:={ k:Nat // k<=a.length/\a.take k=b.take k }) (fun x=>[(17,.va (.int .i64 x.1))]) (6::7::8::9::jr 18 14 []) (fz fun _=>F) 1 (fun x=>a.length - x.1) ⟨0,by simp,rfl⟩
   (fun I J=>leI [] I J rfl ⟨tv,tv⟩ ⟨rfl,tv⟩ ⟨Fz.r F,tv⟩) ?_
  rintro⟨k,a0,O⟩ I J;by_cases g:k < a.length
  ·have d:k < b.length:=Y▸g;have s:(k:Int) < (a.length:Int):=by omega
   have E:(k:Int) < (b.length:Int):=by omega
   have l:a.length - (k+1) < a.length - k:=by omega
   have m:k < 4611686018427387904:=by omega
   have hx:=hs (a[k]'g) (qz g);have c:=SlR.at S g;obtain⟨y,hy,A,rfl,u⟩:=c;have c:=SlR.at V d;obtain⟨z,hz,B,rfl,w⟩:=c;have f:=z5l F A B (a[k]'g).1 (b[k]'d).1 (a[k]'g).2 (b[k]'d).2 u w hx;have n:=SlR.lt Q g;have p:=SlR.lt T d;have K:a[k]'g=b[k]'d->a.take (k+1)=b.take (k+1):=fun h=>by rw[qe g,qe d,O,h]
   have j:¬a[k]'g=b[k]'d->decide (a=b)=false:=fun h=>decide_eq_false fun e=>h (by subst e;rfl)
   obtain⟨ak,ah,aj,ai,ag,al,rfl,Z,aa,ad,af⟩:=u;obtain⟨ay,av,ax,aw,au,az,rfl,am,ao,ap,aq⟩:=w;refine bri s ⟨n,⟨by simp,s⟩,_,R n,_,hy,p,⟨by simp,E⟩,_,U p,_,hz,?_⟩;refine usePu (f) rfl (zaa _) rfl ?_;refine br (fun D=>?_) (fun D=>?_)
   ·conv=>whnf
    have q:(!decide (a[k]'g=b[k]'d))=true:=D
    first | exact fin false _ _ (j (by simpa using q)) rfl | exact finL false _ _ (j (by simpa using q)) rfl
   ·conv=>whnf
    have q:(!decide (a[k]'g=b[k]'d))=false:=D;exact⟨⟨k+1,g,K (by simpa using q)⟩,l,leR [] I J rfl ⟨tv,tv⟩ ⟨cnt m,tv⟩ ⟨Fz.r F,tv⟩⟩
  ·have s:¬(k:Int) < (a.length:Int):=by omega
   have M:decide (a=b)=true:=decide_eq_true (by rw[<-qi (show a.length<=k by omega),O,qi (by omega)]);refine brj s ?_;conv=>whnf
   first | exact fin true _ _ M rfl | exact finL true _ _ M rfl
theorem beqD{s t:List UInt8}{x:Bool}(h:(s==t)=x):decide (s=t)=x:=by rw[<-h,Bool.eq_iff_iff];simp
def zn3(a b:Crt):Bool:=decide (a.src=b.src)&&(decide (a.dst=b.dst)&&(decide (a.len=b.len)&&decide (a.cl=b.cl)))
theorem zuk(F:Fz)(l m:SA)(a b:Crt)(s:ClsAt F l a.cl)(u:ClsAt F m b.cl)(y:short a.cl)(B:a.cl.length < 1000000):
  Fo Tryz.prog F 27 [.agg (crtS a l),.agg (crtS b m)] (fun o d=>o=.ret (.va (.bool (zn3 a b)))/\d=F):=by
 have c:=z7p F l m a.cl b.cl s u y B;obtain⟨g,d1,e,j⟩:=a;obtain⟨i,d2,f,k⟩:=b;replace c:Fo Tryz.prog F 65 [.va l,.va m,.va (.fn (.func 66) [])] (fun o d=>o=.ret (.va (.bool (decide (j=k))))/\d=F):=c;show Fo Tryz.prog F 27 [.agg (crtS ⟨g,d1,e,j⟩ l),.agg (crtS ⟨i,d2,f,k⟩ m)] (fun o d=>o=.ret (.va (.bool (decide (g=i)&&(decide (d1=d2)&&(decide (e=f)&&decide (j=k))))))/\d=F)
 have fin:∀(v:Bool) (h:Hp) (nx:Nat),(decide (g=i)&&(decide (d1=d2)&&(decide (e=f)&&decide (j=k))))=v->lget h 0=some (.frz F)->Cln 1 (FoK F fun o d=>o=.ret (.va (.bool (decide (g=i)&&(decide (d1=d2)&&(decide (e=f)&&decide (j=k))))))/\d=F) (.ret (.va (.bool v))) h nx:=by
  intro v h nx A x;exact endPu x (Fz.r F) (ob A) rfl
 obtain⟨J,E,I,G,D,ar,rfl,-,-,-,-⟩:=s;obtain⟨Q,L,O,M,K,w,rfl,-,-,-,-⟩:=u;refine fo_of hΘ Tryz.func27 rfl (by decide) _ _ rfl rfl rfl ?_;refine⟨fun n=>?_,fun n=>?_⟩
 rotate_left
 ·exact fin false _ _ (by rw[show decide (g=i)=false from beqD n];rfl) rfl
 refine⟨fun p=>?_,fun p=>?_⟩
 rotate_left
 ·exact fin false _ _ (by rw[show decide (d1=d2)=false from beqD p];simp) rfl
 refine⟨fun q=>?_,fun q=>?_⟩
 rotate_left
 ·exact fin false _ _ (by rw[show decide (e=f)=false from q];simp) rfl
 refine usePu (c) rfl (zaa _) rfl ?_;exact fin _ _ _ (by rw[show decide (g=i)=true from beqD n,show decide (d1=d2)=true from beqD p,show decide (e=f)=true from q];rfl) rfl
