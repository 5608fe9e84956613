import Derived.Test.YtfnkamphhpldcaaGreatDoorK15
set_option maxHeartbeats 64000000
namespace Go.Proofs.YtfnkamphhpldcaaGreatDoor
open Go Sx
set_option maxRecDepth 100000
structure Mig where
 id:Int
 src:Int
 dst:Int
 back:Bool
 keep:List Kp
def asc:List Kp → Bool
 |a :: b :: r=>decide (a.1 < b.1) && asc (b :: r)
 |_=>true
theorem zrn:∀ (l:List Kp),asc l = true ↔ ∀ i (h:i + 1 < l.length),l[i].1 < l[i + 1].1
 |[]=>by simp [asc]
 |[a]=>by simp [asc]
 |a :: b :: r=>by
  rw [asc,qf,zrn (b :: r),decide_eq_true_eq];constructor
  ·rintro ⟨h1,c⟩ i h;cases i with
   |zero=>exact h1
   |succ i=>exact c i (by simpa using h)
  ·intro h;exact ⟨h 0 (by simp),fun i d=>h (i + 1) (by simpa using d)⟩
def idOk (n:Int):Bool:=decide (1 ≤ n) && decide (n ≤ 1000000)
def migOk (m:Mig):Bool:=asc m.keep && (idOk m.id && (idOk m.src && (idOk m.dst && (!(m.back && decide (0 < m.keep.length)) && m.keep.all zbk))))
abbrev migS (m:Mig) (sk:SA):List SA:=[.int .i64 m.id,.int .i64 m.src,.int .i64 m.dst,.lit m.back,sk]
theorem zfi {n:Nat} (m:Mig) {sk:SA} (h:sk.below n):(Ent.one (.cells 32 (migS m sk))).below n:=by
 intro a b;simp only [qj,qs,or_false] at b;rcases b with rfl | rfl | rfl | rfl | rfl
 ·trivial
 ·trivial
 ·trivial
 ·trivial
 ·exact h
theorem zr1 (n:Int) (F:Fz):Fo Tryz.prog F 108 [.va (.int .i64 n)] (fun o a=>o = .ret (.va (.bool (idOk n))) ∧ a = F):=by
 refine fo_of hΘ Tryz.func108 rfl (by decide) _ _ rfl rfl rfl ?_;refine ⟨fun g=>?_,fun g=>?_⟩
 ·exact endPu rfl (Fz.r F) (ob (by show (decide (1 ≤ n) && decide (n ≤ 1000000)) = _; rw [show decide (1 ≤ n) = true from g]; rfl)) rfl
 ·exact endPu rfl (Fz.r F) (ob (by show (decide (1 ≤ n) && decide (n ≤ 1000000)) = _; rw [show decide (1 ≤ n) = false from g]; rfl)) rfl
theorem mOk0 {m:Mig} (h:asc m.keep = false):migOk m = false:=by simp only [migOk,h,ji]
theorem mOk1 {m:Mig} (h:idOk m.id = false):migOk m = false:=by simp only [migOk,h,ji,yd]
theorem mOk2 {m:Mig} (h:idOk m.src = false):migOk m = false:=by simp only [migOk,h,ji,yd]
theorem mOk3 {m:Mig} (h:idOk m.dst = false):migOk m = false:=by simp only [migOk,h,ji,yd]
theorem mOk4 {m:Mig} (b:m.back = true) (h:(!decide ((0:Int) < (m.keep.length:Int))) = false):migOk m = false:=by
 have a:decide (0 < m.keep.length) = true:=by simp at h ⊢; omega
 simp only [migOk,b,a,qdj,Bool.not_true,ji,yd]
theorem mOkT {m:Mig} (d:asc m.keep = true) (h1:idOk m.id = true) (c:idOk m.src = true) (b:idOk m.dst = true) (h4:m.back = false ∨ (!decide ((0:Int) < (m.keep.length:Int))) = true):migOk m = !(!m.keep.all zbk):=by
 have a:(!(m.back && decide (0 < m.keep.length))) = true:=by
  rcases h4 with h4 | h4
  ·rw [h4]; rfl
  ·have:decide (0 < m.keep.length) = false:=by simp at h4 ⊢; exact h4
   rw [this]; simp
 simp only [migOk,d,h1,c,b,a,qab,Bool.not_not]
theorem zqa (F:Fz) (sk:SA) (m:Mig) (I:KpsAt F sk m.keep) (hs:short m.keep) (T:m.keep.length < 1000000) :
  Fo Tryz.prog F 50 [.agg (migS m sk)] (fun o V=>o = .ret (.va (.bool (migOk m)))):=by
 have d:=z02 F sk m.keep I hs T;have e0:=mOk0 (m:=m);have e1:=mOk1 (m:=m);have U:=mOk2 (m:=m);have R:=mOk3 (m:=m);have O:=mOk4 (m:=m);have Q:=mOkT (m:=m);obtain ⟨v,hv⟩:∃ v,migOk m = v:=⟨_,rfl⟩
 rw [hv] at e0 e1 U R O Q ⊢;clear hv;obtain ⟨id,src,q,l,a⟩:=m;replace I:KpsAt F sk a:=I;replace T:a.length < 1000000:=T;replace d:Fo Tryz.prog F 109 [.va sk,.va (.fn (.func 106) [])] (fun o V=>o = .ret (.va (.bool (!ks.all zbk)))):=d;obtain ⟨kn,kb,Z,kc,kL,kr,sf,rfl,k1,G,k3,k4⟩:=KpsAt.open I
 have f:∀ (b:Bool) (F1:Fz) (h:Hp) (nx:Nat),v = b → lget h 0 = some (.frz F1) → Fz.le F F1 → Cln 1 (FoK F fun o V=>o = .ret (.va (.bool v))) (.ret (.va (.bool b))) h nx:=by
  intro b F1 h nx hb S p;exact endFo (.ret (.va (.bool b))) F1 S p (Fz.r F1) (by rw [hb]) rfl rfl
 have finL:∀ (b:Bool) (F1:Fz) (h:Hp) (nx:Nat),v = b → lget h 0 = some (.frz F1) → Fz.le F F1 → Cln 1 (FoK F fun o V=>o = .ret (.va (.bool v))) (.ret (.va (.lit b))) h nx:=by
  intro b F1 h nx hb S p;exact endFo (.ret (.va (.bool b))) F1 S p (Fz.r F1) (by rw [hb]) rfl rfl
 refine fo_of hΘ Tryz.func50 rfl (by decide) _ _ rfl rfl rfl ?_
 refine zam hΘ (X:={ k:Nat // (k = 0 ∨ k < a.length) ∧ ∀ i (h:i + 1 < a.length),i < k → a[i].1 < a[i + 1].1 }) (fun x=>[(4,.va (.int .i64 ((x.1 + 1:Nat):Int)))]) [2,5,6,7,8,9,10,11,12,13,14,15,16,17,18,19,20,21,22,23,24,25]
  (fun x=>[(0,.frz F),(1,.one (.cells 32 (migS ⟨id,src,q,l,a⟩ (.slice kn 0 kb Z 2 a.length kc))))]) 2 (fun x=>a.length - x.1) ⟨0,.inl rfl,fun i h hi=>absurd hi (by omega)⟩
  (fun M W=>leI [] M W rfl ⟨tv,zfi _ (.inr (by omega)),tv⟩ ⟨rfl,tv⟩ ⟨Fz.r F,rfl,tv⟩) ?_
 rintro ⟨k,ab,hp⟩ M W;by_cases g:k + 1 < a.length
 ·have K:((k + 1:Nat):Int) < (a.length:Int):=by omega
  have B:a.length - (k + 1) < a.length - k:=by omega
  have y:k + 1 < 4611686018427387904:=by omega
  have w1:IntKind.i64.wrap (((k + 1:Nat):Int) - 1) = (k:Int):=by rw [zaj (by omega) (by omega)]; omega
  have q0:0 ≤ IntKind.i64.wrap (((k + 1:Nat):Int) - 1) ∧ IntKind.i64.wrap (((k + 1:Nat):Int) - 1) < (a.length:Int):=by rw [w1]; omega
  have q1:0 ≤ ((k + 1:Nat):Int) ∧ ((k + 1:Nat):Int) < (a.length:Int):=by omega
  have aa:k < a.length:=Nat.lt_of_succ_lt g;have D:kL[Z + (IntKind.i64.wrap (((k + 1:Nat):Int) - 1)).toNat]? = some [.int .i64 (a[k]'hkk).1,sf k]:=by rw [w1]; exact (k4 k aa).1
  have s:kL[Z + ((k + 1:Nat):Int).toNat]? = some [.int .i64 (a[k + 1]'g).1,sf (k + 1)]:=(k4 (k + 1) g).1;have c:=SlR.lt k1 g;by_cases n:(a[k]'hkk).1 < (a[k + 1]'g).1
  ·refine bri K ?_;refine drawP hΘ mixed (lk [0,1,2,3,4,5,6,7,8,9,10,11,12,13] .done) [1] (by kernel_rfl) ?_;refine ⟨rfl,c,q0,rfl,_,G c,_,D,rfl,c,q1,rfl,_,G c,_,s,?_⟩;refine br (fun h=>absurd (od h) (by omega)) (fun _=>?_);exact ⟨⟨k + 1,.inr g,fun i h hi=>(Nat.lt_succ_iff_lt_or_eq.1 hi).elim (hp i h) (fun e=>by subst e; exact n)⟩,B,leR [] M W rfl ⟨tv,zfi _ (.inr (by omega)),tv⟩ ⟨cnt y,tv⟩ ⟨Fz.r F,rfl,tv⟩⟩
  ·have L:(a[k + 1]'g).1 ≤ (a[k]'hkk).1:=qce.1 n
   have u:asc a = false:=by
    cases ha:asc a with
    |false=>rfl
    |true=>exact absurd ((zrn a).1 ha k g) n
   refine bri K ?_;refine drawP hΘ mixed (lk [0,1,2,3,4,5,6,7,8,9,10,11,12,13] .done) [1] (by kernel_rfl) ?_;refine ⟨rfl,c,q0,rfl,_,G c,_,D,rfl,c,q1,rfl,_,G c,_,s,?_⟩;refine bri L ?_;conv=>whnf
   first | exact f false F _ _ (e0 u) rfl (Fz.r F) | exact finL false F _ _ (e0 u) rfl (Fz.r F)
 ·have K:¬ ((k + 1:Nat):Int) < (a.length:Int):=by omega
  have j:asc a = true:=(zrn a).2 fun i h=>hp i h (by omega)
  refine brj K ?_;refine usePu (zr1 id F) rfl (zaa _) rfl ?_;refine ⟨fun A=>?_,fun A=>?_⟩
  ·refine usePu (zr1 src F) rfl (zaa _) rfl ?_;refine ⟨fun w=>?_,fun w=>?_⟩
   ·refine usePu (zr1 q F) rfl (zaa _) rfl ?_;refine ⟨fun E=>?_,fun E=>?_⟩
    ·rcases l with _ | _
     ·refine useFo d rfl (zaa _) rfl ?_;rintro _ F1 Y rfl;exact f _ F1 _ _ (Q j A w E (.inl rfl)) rfl Y
     ·refine ⟨fun J=>?_,fun J=>?_⟩
      ·refine useFo d rfl (zaa _) rfl ?_;rintro _ F1 Y rfl;exact f _ F1 _ _ (Q j A w E (.inr J)) rfl Y
      ·conv=>whnf
       first | exact f false F _ _ (O rfl J) rfl (Fz.r F) | exact finL false F _ _ (O rfl J) rfl (Fz.r F)
    ·conv=>whnf
     first | exact f false F _ _ (R E) rfl (Fz.r F) | exact finL false F _ _ (R E) rfl (Fz.r F)
   ·conv=>whnf
    first | exact f false F _ _ (U w) rfl (Fz.r F) | exact finL false F _ _ (U w) rfl (Fz.r F)
  ·conv=>whnf
   first | exact f false F _ _ (e1 A) rfl (Fz.r F) | exact finL false F _ _ (e1 A) rfl (Fz.r F)
def zak (p:Int):List Kp → List Stp
 |[]=>[]
 |k :: r=>if k.1 = p then k.2 else zak p r
theorem zpe (p:Int) (l:List Kp) (k:Nat) (h:k < l.length):zak p (l.drop k) = if (l[k]'h).1 = p then (l[k]'h).2 else zak p (l.drop (k + 1)):=by
 rw [qx h]; rfl
theorem zhd {a:List Kp} (b:short a) (p:Int):(zak p a).length < 1000000:=by
 induction a with
 |nil=>simp [zak]
 |cons x r ih=>
  rw [zak];split
  ·exact b x (by simp)
  ·exact ih fun y c=>b y (by simp [c])
theorem zlb (F:Fz) (sk:SA) (m:Mig) (p:Int) (w:KpsAt F sk m.keep) (u:short m.keep) (M:m.keep.length < 1000000) :
  Fo Tryz.prog F 110 [.agg (migS m sk),.va (.int .i64 p)] (fun o D=>∃ j,o = .ret (.va j) ∧ za1 D j (zak p m.keep)):=by
 obtain ⟨id,src,i,d,b⟩:=m;replace w:KpsAt F sk b:=w;replace M:b.length < 1000000:=M;replace u:short b:=u;show Fo Tryz.prog F 110 [.agg (migS ⟨id,src,i,d,b⟩ sk),.va (.int .i64 p)] (fun o D=>∃ j,o = .ret (.va j) ∧ za1 D j (zak p b));obtain ⟨kn,kb,ke,W,kL,kr,rfl,k1,K,k3,k4⟩:=w;refine fo_of hΘ Tryz.func110 rfl (by decide) _ _ rfl rfl rfl ?_
 refine zam hΘ (X:={ k:Nat // k ≤ b.length ∧ zak p b = zak p (b.drop k) }) (fun x=>[(11,.va (.int .i64 x.1))]) [4,6,12,13,14,15,16,17,18,19,20,21,22]
  (fun x=>[(0,.frz F),(1,.one (.cells 105 (migS ⟨id,src,i,d,b⟩ (.slice kn 0 kb ke 2 b.length W))))]) 2 (fun x=>b.length - x.1) ⟨0,by simp,by simp⟩
  (fun s G=>leI [] s G rfl ⟨tv,zfi _ (.inr (by omega)),tv⟩ ⟨rfl,tv⟩ ⟨Fz.r F,rfl,tv⟩) ?_
 rintro ⟨k,ag,e⟩ s G;by_cases g:k < b.length
 ·have h:(k:Int) < (b.length:Int):=by omega
  have n:b.length - (k + 1) < b.length - k:=by omega
  have l:k < 4611686018427387904:=by omega
  have S:=u (b[k]'g) (jp g);rw [zpe p b k g] at e;have q:=SlR.at k4 g;obtain ⟨y,L,a,rfl,Q⟩:=q;have f:=zo8 F a (b[k]'g).2 Q S;have c:=SlR.lt k1 g;obtain ⟨ah,T,af,ai,ae,ab,rfl,ad,ac,U,aj⟩:=Q;by_cases gp:(b[k]'g).1 = p
  ·rw [if_pos gp] at e;refine bri h ?_;refine ⟨c,⟨by simp,h⟩,_,K c,_,L,?_⟩;refine bri gp ?_;refine useFo f rfl (zaa _) rfl ?_;rintro _ F1 l1 ⟨sb,rfl,O⟩;have J:=O;obtain ⟨A,E,B,I,R,V,rfl,ak,Z,Y,aa⟩:=O;exact endFo (.ret (.va (.slice A 0 E B 2 (b[k]'g).2.length I))) F1 rfl l1 (Fz.r F1) ⟨_,rfl,by rw [e]; exact J⟩ (zah _) rfl
  ·rw [if_neg gp] at e;refine bri h ?_;refine ⟨c,⟨by simp,h⟩,_,K c,_,L,?_⟩;refine brj gp ?_;exact ⟨⟨k + 1,g,e⟩,n,leR [] s G rfl ⟨tv,zfi _ (.inr (by omega)),tv⟩ ⟨cnt l,tv⟩ ⟨Fz.r F,rfl,tv⟩⟩
 ·have h:¬ (k:Int) < (b.length:Int):=by omega
  rw [yg (by omega)] at e;refine brj h ?_;exact endFo (.ret (.va (.slice true 0 0 0 2 0 0))) F rfl (Fz.r F) (Fz.r F) ⟨_,rfl,by rw [e]; exact Sl.nil⟩ ⟨rfl,rfl,rfl⟩ rfl
theorem zuk (F:Fz) (sk:SA) (m:Mig) (p:Int) (a:KpsAt F sk m.keep) (e:short m.keep) (i:m.keep.length < 1000000) :
  Fo Tryz.prog F 94 [.agg (migS m sk),.va (.int .i64 p)] (fun o G=>o = .ret (.va (.bool (decide (0 < (zak p m.keep).length))))):=by
 have h:=zlb F sk m p a e i;obtain ⟨id,src,c,b,l⟩:=m;obtain ⟨O,I,J,E,B,L,rfl,K,A,M,Q⟩:=a;refine fo_of hΘ Tryz.func94 rfl (by decide) _ _ rfl rfl rfl ?_;refine useFo h rfl (zaa _) rfl ?_;rintro _ F1 u ⟨D,rfl,x⟩;obtain ⟨g,s,n,w,d,f,rfl,y,k,j,q⟩:=x;exact endFo (.ret (.va (.bool (decide (0 < (zak p l).length))))) F1 rfl u (Fz.r F1) rfl (ob (by simp)) rfl
def zb4 (a:List Kp) (p:Int):List Stp:=
 if (p = 3 ∧ 0 < (zak 4 a).length) ∨ (p = 5 ∧ 0 < (zak 3 a).length) then [(6,0)] else if p = 6 then zak 7 a else zak p a
theorem zjb {a:List Kp} {p q:Int} (h:(p = 3 ∧ q = 4) ∨ (p = 5 ∧ q = 3)) (g:decide (0 < (zak q a).length) = true):zb4 a p = [(6,0)]:=by
 have g:=od g;rcases h with ⟨rfl,rfl⟩ | ⟨rfl,rfl⟩
 ·rw [zb4,if_pos (.inl ⟨rfl,g⟩)]
 ·rw [zb4,if_pos (.inr ⟨rfl,g⟩)]
theorem zi6 {a:List Kp} {p q:Int} (h:(p = 3 ∧ q = 4) ∨ (p = 5 ∧ q = 3)) (g:decide (0 < (zak q a).length) = false):zb4 a p = zak p a:=by
 have g:=oe g;rcases h with ⟨rfl,rfl⟩ | ⟨rfl,rfl⟩
 ·rw [zb4,if_neg (by rintro (⟨_,h⟩ | ⟨h,_⟩); exact g h; cases h),if_neg (by decide)]
 ·rw [zb4,if_neg (by rintro (⟨h,_⟩ | ⟨_,h⟩); cases h; exact g h),if_neg (by decide)]
theorem zsg {a:List Kp}:zb4 a 6 = zak 7 a:=by
 rw [zb4,if_neg (by rintro (⟨h,_⟩ | ⟨h,_⟩)<;>cases h),if_pos rfl]
theorem zhl {a:List Kp} {p:Int} (c:p ≠ 3) (b:p ≠ 5) (d:p ≠ 6):zb4 a p = zak p a:=by
 rw [zb4,if_neg (by rintro (⟨h,_⟩ | ⟨h,_⟩); exact c h; exact b h),if_neg d]
theorem KpsAt.up {F c:Fz} {t:Nat} {a:SA} {l:List Kp} (h:SlR F t 2 (KpR F) a l) (b:Fz.le F c):SlR c t 2 (KpR c) a l:=SlR.mono h b fun _ _ h=>h.mono b
theorem z1h (F:Fz) (sk:SA) (m:Mig) (p:Int) (V:KpsAt F sk m.keep) (hs:short m.keep) (hl:m.keep.length < 1000000) :
  Fo Tryz.prog F 51 [.agg (migS m sk),.va (.int .i64 p)] (fun o F'=>∃ e,o = .ret (.agg [.int .i64 p,e]) ∧ za1 F' e (zb4 m.keep p)):=by
 have f:=fun F1 (a:Fz.le F F1) q=>zlb F1 sk m q (KpsAt.up V a) hs hl
 have M:=fun F1 (a:Fz.le F F1) q=>zuk F1 sk m q (KpsAt.up V a) hs hl
 obtain ⟨id,src,ac,ab,ks⟩:=m
 have c:∀ (e:SA) (F1:Fz) (h:Hp) (nx:Nat),za1 F1 e (zb4 ks p) → lget h 0 = some (.frz F1) → Fz.le F F1 → outE (.ret (.agg [.int .i64 p,e])) ((Out.ret (.agg [.int .i64 p,e])).ren (resP h)) →
   Cln 1 (FoK F fun o F'=>∃ e,o = .ret (.agg [.int .i64 p,e]) ∧ za1 F' e (zb4 ks p)) (.ret (.agg [.int .i64 p,e])) h nx:=by
  intro e F1 h nx b h0 aa ho;have hz:=b.z;exact endFo (.ret (.agg [.int .i64 p,e])) F1 h0 aa (Fz.r F1) ⟨_,rfl,b⟩ ho (by simp [Out.z,SV.z,hz]; rfl)
 obtain ⟨kn,kb,ke,kc,kL,kr,rfl,k1,k2,k3,k4⟩:=V;by_cases U:p = 3
 ·skip
  subst U;refine fo_of hΘ Tryz.func51 rfl (by decide) _ _ rfl rfl rfl ?_;refine useFo (f F (Fz.r F) 3) rfl (zaa _) rfl ?_;rintro _ F1 a ⟨W,rfl,b⟩;have d:=b;obtain ⟨s,B,y,D,l,n,rfl,E,x,w,A⟩:=b;refine gae (by decide) ?_;refine useFo (M F1 a 4) rfl (zaa _) rfl ?_;rintro _ u j rfl;refine br (fun g=>?_) (fun g=>?_)
  ·refine br (fun _=>?_) (fun h=>absurd (h.symm.trans g) (by simp));refine useFo (zoo u) rfl (zaa _) rfl ?_;rintro _ F3 X ⟨sc,rfl,k⟩;have i:=k;obtain ⟨S,R,G,O,T,Q,rfl,L,J,K,I⟩:=k;exact c _ F3 _ _ (by rw [zjb (by simp) g]; exact i) rfl (Fz.t a (Fz.t j X)) (zah _)
  ·refine gaf (by decide) ?_;refine brd (by decide) ?_;exact c _ u _ _ (by rw [zi6 (by simp) g]; exact d.mono j) rfl (Fz.t a j) (zah _)
 by_cases Y:p = 5
 ·skip
  subst Y;refine fo_of hΘ Tryz.func51 rfl (by decide) _ _ rfl rfl rfl ?_;refine useFo (f F (Fz.r F) 5) rfl (zaa _) rfl ?_;rintro _ F1 a ⟨W,rfl,b⟩;have d:=b;obtain ⟨s,B,y,D,l,n,rfl,E,x,w,A⟩:=b;refine gaf (by decide) ?_;refine gae (by decide) ?_;refine useFo (M F1 a 3) rfl (zaa _) rfl ?_;rintro _ u j rfl;refine br (fun g=>?_) (fun g=>?_)
  ·refine useFo (zoo u) rfl (zaa _) rfl ?_;rintro _ F3 X ⟨sc,rfl,k⟩;have i:=k;obtain ⟨S,R,G,O,T,Q,rfl,L,J,K,I⟩:=k;exact c _ F3 _ _ (by rw [zjb (by simp) g]; exact i) rfl (Fz.t a (Fz.t j X)) (zah _)
  ·refine brd (by decide) ?_;exact c _ u _ _ (by rw [zi6 (by simp) g]; exact d.mono j) rfl (Fz.t a j) (zah _)
 by_cases Z:p = 6
 ·subst Z;refine fo_of hΘ Tryz.func51 rfl (by decide) _ _ rfl rfl rfl ?_;refine useFo (f F (Fz.r F) 6) rfl (zaa _) rfl ?_;rintro _ F1 a ⟨W,rfl,b⟩;have d:=b;obtain ⟨s,B,y,D,l,n,rfl,E,x,w,A⟩:=b;refine gaf (by decide) ?_;refine gaf (by decide) ?_;refine bre (by decide) ?_;refine useFo (f F1 a 7) rfl (zaa _) rfl ?_;rintro _ u j ⟨sc,rfl,k⟩;have i:=k;obtain ⟨S,R,G,O,T,Q,rfl,L,J,K,I⟩:=k;exact c _ u _ _ (by rw [zsg]; exact i) rfl (Fz.t a j) (zah _)
 ·refine fo_of hΘ Tryz.func51 rfl (by decide) _ _ rfl rfl rfl ?_;refine useFo (f F (Fz.r F) p) rfl (zaa _) rfl ?_;rintro _ F1 a ⟨W,rfl,b⟩;have d:=b;obtain ⟨s,B,y,D,l,n,rfl,E,x,w,A⟩:=b;refine ⟨fun g=>absurd (od g) U,fun _=>?_⟩;refine ⟨fun g=>absurd (od g) Y,fun _=>?_⟩;refine brj Z ?_;exact c _ F1 _ _ (by rw [zhl U Y Z]; exact d) rfl a (zah _)
def zbh (a:List Kp):List Kp:=(List.range 8).map fun k:Nat=>((k:Int) + 1,zb4 a ((k:Int) + 1))
theorem zc1 (a:List Kp):(zbh a).length = 8:=by simp [zbh]
theorem zst (a:List Kp) (k:Nat) (h:k < 8):(zbh a)[k]? = some ((k:Int) + 1,zb4 a ((k:Int) + 1)):=by simp [zbh,h]
def RowOf (F:Fz) (f:Nat → Kp) (o:List ZC):Prop:=∀ i (z:ZC),o[i]? = some z → KpR F z.1 (f i)
theorem RowOf.mono {F b:Fz} {f:Nat → Kp} {o:List ZC} (h:RowOf F f o) (a:Fz.le F b):RowOf b f o:=fun i z c=>(h i z c).mono a
theorem RowOf.nil {F:Fz} {f:Nat → Kp}:RowOf F f []:=fun i z a=>by simp at a
theorem RowOf.snoc {F:Fz} {f:Nat → Kp} {o:List ZC} (h:RowOf F f o) {z:ZC} (g:KpR F z.1 (f o.length)):RowOf F f (o ++ [z]):=fun i y a=>by
 by_cases e:i < o.length
 ·rw [jw e] at a; exact h i y a
 ·rw [jy (by omega)] at a
  have d:i - o.length = 0:=by
   by_cases h1:i - o.length = 0
   ·exact h1
   ·rw [qca (by simp; omega)] at a; cases a
  rw [d] at a;have c:z = y:=by simpa using a
  have b:i = o.length:=by omega
  rw [← c,b]; exact g
theorem RowOf.sl {F:Fz} {t b a cap:Nat} {f:Nat → Kp} {o:List ZC} {l:List Kp} (h:RowOf F f o) (g:F b = some (.arr t 2 (o.map encZ) a)) (c:o.length = l.length) (i:∀ k x,l[k]? = some x → x = f k):SlR F t 2 (KpR F) (.slice false 0 b 0 2 l.length cap) l:=
 SlR.new g (by rw [qa,c]) fun k x d=>by
  have e:k < o.length:=by rw [c]; exact (qi.1 d).1
  exact ⟨encZ o[k],by rw [qy,qe e]; rfl,by rw [i k x d]; exact h k o[k] (qe e)⟩
def mkZ (p:Int) (a:SA) (h:a.z = true):ZC:=⟨[.int .i64 p,a],fun x b=>by
 simp only [qj,qs,or_false] at b;rcases b with rfl | rfl
 ·rfl
 ·exact h⟩
theorem zqk (F:Fz) (sk:SA) (m:Mig) (Q:KpsAt F sk m.keep) (hs:short m.keep) (hl:m.keep.length < 1000000) :
  Fo Tryz.prog F 16 [.agg (migS m sk)] (fun o M=>(migOk m = false ∧ o = .ret (.tup [.va .nilsl,.va (.int .i64 90)])) ∨
   (migOk m = true ∧ ∃ b c,o = .ret (.tup [.va (.slice false 0 b 0 2 8 c),.va (.int .i64 0)]) ∧ ClsAt M (.slice false 0 b 0 2 8 c) (zbh m.keep))):=by
 have ah:=fun F1 (l1:Fz.le F F1) q=>z1h F1 sk m q (KpsAt.up Q l1) hs hl
 have L:=zqa F sk m Q hs hl;have B:=fun n (h:sk.below n)=>zfi (n:=n) m h
 obtain ⟨id,src,U,I,p⟩:=m;replace Q:KpsAt F sk p:=Q;obtain ⟨v,hv⟩:∃ v,migOk ⟨id,src,U,I,p⟩ = v:=⟨_,rfl⟩
 rw [hv] at L ⊢;clear hv;obtain ⟨kn,kb,ke,kc,kL,kr,rfl,k1,k2,k3,k4⟩:=Q;replace B:∀ n,0 < n → (Ent.one (.cells 32 (migS ⟨id,src,U,I,p⟩ (.slice kn 0 kb ke 2 p.length kc)))).below n:=fun n hn=>B n (.inr hn)
 rcases v with _ | _
 ·refine fo_of hΘ Tryz.func16 rfl (by decide) _ _ rfl rfl rfl ?_;refine useFo L rfl (zaa _) rfl ?_;rintro _ F1 l1 rfl;refine bre (by decide) ?_;exact endFo (.ret (.tup [.va .nilsl,.va (.int .i64 90)])) F1 rfl l1 (Fz.r F1) (.inl ⟨rfl,rfl⟩) (zah _) rfl
 ·refine fo_of hΘ Tryz.func16 rfl (by decide) _ _ rfl rfl rfl ?_;refine useFo L rfl (zaa _) rfl ?_;rintro _ F1 l1 rfl;refine brd (by decide) ?_
  refine zam hΘ (X:={ y:Nat × List ZC × Nat × Fz // Fz.le F y.2.2.2 ∧ y.1 ≤ 8 ∧ y.2.1.length = y.1 ∧ RowOf y.2.2.2 (fun k=>((k:Int) + 1,zb4 p ((k:Int) + 1))) y.2.1 }) (fun y=>[(4,.va (gA 2 2 y.1.2.2.1 y.1.2.1)),(9,.va (.int .i64 y.1.1))]) [5,10,11,12,13,14,15,16,17,18,19,20]
   (fun y=>[(0,.frz y.1.2.2.2),(1,.one (.cells 32 (migS ⟨id,src,U,I,p⟩ (.slice kn 0 kb ke 2 p.length kc)))),(2,gE 52 2 encZ y.1.2.2.1 y.1.2.1)]) 3 (fun y=>8 - y.1.1) ⟨(0,[],0,F1),l1,by omega,rfl,RowOf.nil⟩
   (fun hH hT=>leI [(2,2)] hH hT rfl ⟨tv,B 3 (by omega),zdv zb7 (by omega) _ _ _ _,tv⟩ ⟨rfl,rfl,tv⟩ ⟨Fz.r F1,rfl,rfl,tv⟩) ?_
  rintro ⟨⟨k,o,co,G⟩,W,Q,V,u⟩ hH hT;replace W:Fz.le F G:=W;replace Q:k ≤ 8:=Q;replace V:o.length = k:=V;replace u:RowOf G (fun k=>((k:Int) + 1,zb4 p ((k:Int) + 1))) o:=u;by_cases g:k < 8
  ·have O:(k:Int) < 8:=by omega
   have ac:k + 1 ≤ 8:=g;have S:8 - (k + 1) < 8 - k:=by omega
   have K:k < 4611686018427387904:=by omega
   have hw:SA.int .i64 ((k:Int) + 1) = SA.int .i64 (IntKind.i64.wrap ((k:Int) + 1)):=cnt K;have J:=ah G W ((k:Int) + 1);have ag:∀ (A:Fz) (z:ZC),Fz.le G A → KpR A z.1 ((k:Int) + 1,zb4 p ((k:Int) + 1)) → RowOf A (fun k=>((k:Int) + 1,zb4 p ((k:Int) + 1))) (o ++ [z]):=fun A z w hz=>(u.mono w).snoc (by rw [V]; exact hz)
   have R:∀ z:ZC,(o ++ [z]).length = k + 1:=fun z=>by rw [qd,V]; rfl
   rcases o with _ | ⟨o0,s⟩
   ·refine bri O ?_;refine useFo J rfl ⟨rfl,hw,tv⟩ rfl ?_;rintro _ A l2 ⟨sa,rfl,E⟩;have D:=E;obtain ⟨f,d,a,e,ad,ae,rfl,ab,Y,aa,af⟩:=E;refine ⟨nb rfl,[[.int .i64 ((k:Int) + 1),.slice f 0 d a 2 (zb4 p ((k:Int) + 1)).length e]],rfl,rfl,rfl,by show 1 * 32 ≤ 140737488355328; omega,fun c' al=>?_⟩;exact ⟨⟨(k + 1,[] ++ [mkZ ((k:Int) + 1) (.slice f 0 d a 2 (zb4 p ((k:Int) + 1)).length e) rfl],c',A),Fz.t W l2,ac,R _,ag A _ l2 ⟨_,rfl,D⟩⟩,S,leR [(2,4)] hH hT rfl ⟨tv,B 3 (by omega),zdv zb7 (by omega) _ _ _ _,tv⟩ ⟨by (conv=>whnf); exact ⟨rfl,rfl,rfl,.inr ⟨rfl,rfl,rfl,rfl⟩⟩,cnt K,tv⟩ ⟨Fz.r A,rfl,zk1 (μ:=sig [(2,4)]) zb7 (fun k=>rfl) (zcs _ (by rw [jj]; rfl)),tv⟩⟩
   ·have am:(s.length + 1 + 1) * 32 ≤ 140737488355328:=by
     have h9:s.length + 1 = k:=V;omega
    refine bri O ?_;refine useFo J rfl ⟨rfl,hw,tv⟩ rfl ?_;rintro _ A l2 ⟨sa,rfl,E⟩;have D:=E;obtain ⟨f,d,a,e,ad,ae,rfl,ab,Y,aa,af⟩:=E;refine ⟨nb rfl,[[.int .i64 ((k:Int) + 1),.slice f 0 d a 2 (zb4 p ((k:Int) + 1)).length e]],rfl,rfl,rfl,by simp,rfl,am,fun c' al=>?_⟩;exact ⟨⟨(k + 1,(o0 :: s) ++ [mkZ ((k:Int) + 1) (.slice f 0 d a 2 (zb4 p ((k:Int) + 1)).length e) rfl],c',A),Fz.t W l2,ac,R _,ag A _ l2 ⟨_,rfl,D⟩⟩,S,leR [(2,4)] hH hT rfl ⟨tv,B 3 (by omega),zdv zb7 (by omega) _ _ _ _,tv⟩ ⟨zuv (μ:=sig [(2,4)]) (i:=2) (j:=4) rfl 2 c' _ (o0 :: s) (mkZ ((k:Int) + 1) (.slice f 0 d a 2 (zb4 p ((k:Int) + 1)).length e) rfl) rfl,cnt K,tv⟩ ⟨Fz.r A,rfl,zk1 (μ:=sig [(2,4)]) zb7 (fun k=>rfl) (zcs _ (by rw [jj]; rfl)),tv⟩⟩
  ·have O:¬ (k:Int) < 8:=by omega
   have ai:k = 8:=by omega
   have T:o.length = 8:=V.trans ai
   have Z:∀ (M:Fz) (b c:Nat),Fz.le G M → M b = some (.arr 52 2 (o.map encZ) c) → ClsAt M (.slice false 0 b 0 2 8 c) (zbh p):=fun M b c w hb=>by
    have h:=(u.mono w).sl (cap:=c) (l:=zbh p) hb (by rw [T,zc1]) fun i x hx=>by
     have hi:i < 8:=by have:=(qi.1 hx).1; rw [zc1] at this; exact this
     rw [zst p i hi] at hx;exact (Option.some.inj hx).symm
    rw [zc1] at h;exact h
   rcases o with _ | ⟨o0,s⟩
   ·cases T
   ·have ak:s.length + 1 = 8:=T;refine brj O ?_;refine zbn 2 (fun _=>.arr 52 2 ((o0 :: s).map encZ) co) rfl rfl rfl (fun _ _=>by exact zhu (μ:=resP _) zb7 (fun k=>rfl) rfl _ _ _) (fun _ _=>zfc zb7 (by omega) _ _ _ _) ?_;intro b' M w aj;refine endFo (.ret (.tup [.va (.slice false 0 (b' 0) 0 2 8 co),.va (.int .i64 0)])) M rfl (Fz.t W w) (Fz.r M) (.inr ⟨rfl,_,_,rfl,Z M _ _ w (aj 0 ⟨rfl,rfl⟩)⟩) ?_ rfl;exact ⟨⟨rfl,ak.symm,rfl,.inr ⟨rfl,rfl,rfl,rfl⟩⟩,rfl,tv⟩
structure Crt where
 src:List UInt8
 dst:List UInt8
 len:Int
 cl:List Kp
abbrev crtS (c:Crt) (sk:SA):List SA:=[.str c.src,.str c.dst,.int .i64 c.len,sk]
theorem zat {n:Nat} (c:Crt) {t:Nat} {sk:SA} (h:sk.below n):(Ent.one (.cells t (crtS c sk))).below n:=by
 intro a b;simp only [qj,qs,or_false] at b;rcases b with rfl | rfl | rfl | rfl
 ·trivial
 ·trivial
 ·trivial
 ·exact h
def clAt (x:Kp) (i:Int):Bool:=decide (x.1 = i) && (zbb x.1 x.2 && decide (normS x.2 = x.2))
def clOk:List Kp → Int → Bool
 |[],_=>true
 |x :: r,i=>clAt x i && clOk r (i + 1)
theorem z0e (l:List Kp) (k:Nat) (i:Int) (h:k < l.length):clOk (l.drop k) i = (clAt (l[k]'h) i && clOk (l.drop (k + 1)) (i + 1)):=by
 rw [qx h]; rfl
def crtOk (c:Crt):Bool:=decide (c.src.length = 32) && (decide (c.dst.length = 32) && (decide (1 ≤ c.len) && (decide (c.len ≤ 64) && (decide (c.cl.length = 8) && clOk c.cl 1))))
theorem clA1 {x:Kp} {i j:Int} (a:j = i) (h:(!decide (x.1 = j)) = true):clAt x i = false:=by
 subst a;have:decide (x.1 = j) = false:=by simpa using h
 simp only [clAt,this,ji]
theorem clA2 {x:Kp} {i:Int} (h:(!decide ((normR x.1 x.2).2 = 0)) = true):clAt x i = false:=by
 have b:zbb x.1 x.2 = false:=by
  cases a:zbb x.1 x.2 with
  |false=>rfl
  |true=>rw [normR,if_pos a] at h; cases h
 simp only [clAt,b,ji,yd]
theorem clA3 {x:Kp} {i:Int} (c:(!decide ((normR x.1 x.2).2 = 0)) = false) (h:(!decide ((normR x.1 x.2).1 = x.2)) = true):clAt x i = false:=by
 have b:=zj4 (p:=x.1) (l:=x.2) (by simpa using c);have a:decide ((normR x.1 x.2).1 = x.2) = false:=by simpa using h
 rw [b.2] at a;simp only [clAt,a,yd]
theorem clAT {x:Kp} {i j:Int} (d:j = i) (h1:(!decide (x.1 = j)) = false) (e:(!decide ((normR x.1 x.2).2 = 0)) = false) (h:(!decide ((normR x.1 x.2).1 = x.2)) = false):clAt x i = true:=by
 subst d;have b:=zj4 (p:=x.1) (l:=x.2) (by simpa using e);have a:decide ((normR x.1 x.2).1 = x.2) = true:=by simpa using h
 have c:decide (x.1 = j) = true:=by simpa using h1
 rw [b.2] at a;simp only [clAt,c,b.1,a,Bool.and_self]
theorem cOk1 {c:Crt} (h:(!decide ((c.src.length:Int) = 32)) = true):crtOk c = false:=by
 have:decide (c.src.length = 32) = false:=by simp at h ⊢; omega
 simp only [crtOk,this,ji]
theorem cOk2 {c:Crt} (h:(!decide ((c.dst.length:Int) = 32)) = true):crtOk c = false:=by
 have:decide (c.dst.length = 32) = false:=by simp at h ⊢; omega
 simp only [crtOk,this,ji,yd]
theorem cOk3 {c:Crt} (h:decide (c.len < 1) = true):crtOk c = false:=by
 have:decide (1 ≤ c.len) = false:=by simp at h ⊢; omega
 simp only [crtOk,this,ji,yd]
theorem cOk4 {c:Crt} (h:decide (64 < c.len) = true):crtOk c = false:=by
 have:decide (c.len ≤ 64) = false:=by simp at h ⊢; omega
 simp only [crtOk,this,ji,yd]
theorem cOk5 {c:Crt} (h:(!decide ((c.cl.length:Int) = 8)) = true):crtOk c = false:=by
 have:decide (c.cl.length = 8) = false:=by simp at h ⊢; omega
 simp only [crtOk,this,ji,yd]
theorem cOkT {c:Crt} (h1:(!decide ((c.src.length:Int) = 32)) = false) (g:(!decide ((c.dst.length:Int) = 32)) = false) (d:decide (c.len < 1) = false) (h:decide (64 < c.len) = false) (a:(!decide ((c.cl.length:Int) = 8)) = false):crtOk c = clOk c.cl 1:=by
 have i:decide (c.src.length = 32) = true:=by simp at h1 ⊢; omega
 have b:decide (c.dst.length = 32) = true:=by simp at g ⊢; omega
 have e:decide (1 ≤ c.len) = true:=by simp at d ⊢; omega
 have f:decide (c.len ≤ 64) = true:=by simp at h ⊢; omega
 have j:decide (c.cl.length = 8) = true:=by simp at a ⊢; omega
 simp only [crtOk,i,b,e,f,j,qab]
theorem zet (F:Fz) (sk:SA) (c:Crt) (W:ClsAt F sk c.cl) (Q:short c.cl) (hl:c.cl.length < 1000000) :
  Fo Tryz.prog F 25 [.agg (crtS c sk)] (fun o F'=>o = .ret (.va (.bool (crtOk c)))):=by
 have e1:=cOk1 (c:=c);have e2:=cOk2 (c:=c);have e3:=cOk3 (c:=c);have e4:=cOk4 (c:=c);have e5:=cOk5 (c:=c);have eT:=cOkT (c:=c);obtain ⟨v,hv⟩:∃ v,crtOk c = v:=⟨_,rfl⟩
 rw [hv] at e1 e2 e3 e4 e5 eT ⊢;clear hv;obtain ⟨src,U,Z,d⟩:=c;replace W:ClsAt F sk d:=W;replace Q:short d:=Q;replace hl:d.length < 1000000:=hl
 have e:∀ (b:Bool) (F1:Fz) (h:Hp) (nx:Nat),v = b → lget h 0 = some (.frz F1) → Fz.le F F1 → Cln 1 (FoK F fun o F'=>o = .ret (.va (.bool v))) (.ret (.va (.bool b))) h nx:=by
  intro b F1 h nx E Y n;exact endFo (.ret (.va (.bool b))) F1 Y n (Fz.r F1) (by rw [E]) rfl rfl
 have finL:∀ (b:Bool) (F1:Fz) (h:Hp) (nx:Nat),v = b → lget h 0 = some (.frz F1) → Fz.le F F1 → Cln 1 (FoK F fun o F'=>o = .ret (.va (.bool v))) (.ret (.va (.lit b))) h nx:=by
  intro b F1 h nx E Y n;exact endFo (.ret (.va (.bool b))) F1 Y n (Fz.r F1) (by rw [E]) rfl rfl
 obtain ⟨kn,kb,ke,kc,kL,kr,rfl,k1,k2,k3,k4⟩:=W;refine fo_of hΘ Tryz.func25 rfl (by decide) _ _ rfl rfl rfl ?_;refine ⟨fun p=>?_,fun p=>?_⟩
 rotate_left
 ·exact e false F _ _ (e1 p) rfl (Fz.r F)
 refine ⟨fun l=>?_,fun l=>?_⟩
 rotate_left
 ·exact e false F _ _ (e2 l) rfl (Fz.r F)
 refine ⟨fun q=>?_,fun q=>?_⟩
 rotate_left
 ·exact e false F _ _ (e3 q) rfl (Fz.r F)
 refine ⟨fun g4=>?_,fun g4=>?_⟩
 rotate_left
 ·exact e false F _ _ (e4 g4) rfl (Fz.r F)
 refine br (fun S=>?_) (fun S=>?_)
 ·exact e false F _ _ (e5 S) rfl (Fz.r F)
 conv=>whnf
 have B:=eT p l q g4 S
 refine zam hΘ (X:={ x:Nat × Fz // Fz.le F x.2 ∧ x.1 ≤ d.length ∧ v = clOk (d.drop x.1) ((x.1:Int) + 1) }) (fun x=>[(36,.va (.int .i64 x.1.1))]) [2,3,4,5,6,37,38,39,40,41,42,43,44,45,46,47,48,49,50,51,52,53,54,55,56,57,58,59,60,61,62,63,64,65]
  (fun x=>[(0,.frz x.1.2),(1,.one (.cells 48 (crtS ⟨src,U,Z,d⟩ (.slice kn 0 kb ke 2 d.length kc))))]) 2 (fun x=>d.length - x.1.1) ⟨(0,F),Fz.r F,by simp,B⟩
  (fun V B=>leI [] V B rfl ⟨tv,zat _ (.inr (by omega)),tv⟩ ⟨rfl,tv⟩ ⟨Fz.r F,rfl,tv⟩) ?_
 rintro ⟨⟨k,G⟩,f,A,j⟩ V B;replace f:Fz.le F G:=f;replace A:k ≤ d.length:=A;replace j:v = clOk (d.drop k) ((k:Int) + 1):=j;by_cases g:k < d.length
 ·have O:(k:Int) < (d.length:Int):=by omega
  have K:d.length - (k + 1) < d.length - k:=by omega
  have J:k < 4611686018427387904:=by omega
  have hw:IntKind.i64.wrap ((k:Int) + 1) = (k:Int) + 1:=zaj (by omega) (by omega);have hx:=Q (d[k]'g) (jp g);rw [z0e d k _ g] at j;have s:clAt (d[k]'g) ((k:Int) + 1) = false → v = false:=fun h=>by rw [j,h,ji]
  have T:clAt (d[k]'g) ((k:Int) + 1) = true → v = clOk (d.drop (k + 1)) (((k + 1:Nat):Int) + 1):=fun h=>by rw [j,h,qab]; rfl
  have D:=SlR.at k4 g;obtain ⟨y,hy,a,rfl,ha⟩:=D;have u:=zmd G a (d[k]'g).2 (d[k]'g).1 (ha.mono f) hx;have R:=fun F1 (M:Fz.le G F1) sb E=>zhz F1 sb a (normR (d[k]'g).1 (d[k]'g).2).1 (d[k]'g).2 E ((ha.mono f).mono M) (zm4 _ _)
  have m:=SlR.lt k1 g;have q1:=clA1 (x:=d[k]'g) hw;have q2:=clA2 (x:=d[k]'g) (i:=(k:Int) + 1);have q3:=clA3 (x:=d[k]'g) (i:=(k:Int) + 1);have qT:=clAT (x:=d[k]'g) hw;obtain ⟨aq,ar,ap,an,av,aw,rfl,ao,am,al,au⟩:=ha;refine bri O ?_;refine ⟨m,⟨by simp,O⟩,_,f _ _ (k2 m),_,hy,?_⟩;refine useFo u rfl (zaa _) rfl ?_;rintro _ w M ⟨sc,rfl,I⟩;have aa:=R w M sc I;have L:=Fz.t f M;obtain ⟨ag,af,ae,ai,aj,ad,rfl,ab,ah,ak,ac⟩:=I;refine ⟨fun p=>?_,fun p=>?_⟩
  rotate_left
  ·exact e false w _ _ (s (q1 p)) rfl L
  refine ⟨fun l=>?_,fun l=>?_⟩
  rotate_left
  ·exact e false w _ _ (s (q2 l)) rfl L
  refine usePu (aa) rfl (zaa _) rfl ?_;refine br (fun q=>?_) (fun q=>?_)
  ·exact e false w _ _ (s (q3 l q)) rfl L
  ·exact ⟨⟨(k + 1,w),L,g,T (qT p l q)⟩,K,leR [] V B rfl ⟨tv,zat _ (.inr (by omega)),tv⟩ ⟨cnt J,tv⟩ ⟨Fz.r w,rfl,tv⟩⟩
 ·have O:¬ (k:Int) < (d.length:Int):=by omega
  rw [yg (by omega)] at j;refine brj O ?_;conv=>whnf
  first | exact e true G _ _ j rfl f | exact finL true G _ _ j rfl f
theorem z5d (F:Fz) (e d:SA) (p q:Int) (a b:List Stp) (k:za1 F e a) (j:za1 F d b) (R:a.length < 1000000) :
  Fo Tryz.prog F 66 [.agg [.int .i64 p,e],.agg [.int .i64 q,d]] (fun o f=>o = .ret (.va (.bool (decide (((p,a):Kp) = (q,b))))) ∧ f = F):=by
 have g:=zhz F e d a b k j R
 have c:∀ (v:Bool) (h:Hp) (nx:Nat),decide (((p,a):Kp) = (q,b)) = v → lget h 0 = some (.frz F) → Cln 1 (FoK F fun o f=>o = .ret (.va (.bool (decide (((p,a):Kp) = (q,b))))) ∧ f = F) (.ret (.va (.bool v))) h nx:=by
  intro v h nx y w;exact endPu w (Fz.r F) (ob y) rfl
 obtain ⟨O,m,K,Q,I,T,rfl,G,E,n,S⟩:=k;obtain ⟨u,J,B,M,l,s,rfl,L,A,x,D⟩:=j;refine fo_of hΘ Tryz.func66 rfl (by decide) _ _ rfl rfl rfl ?_;refine ⟨fun i=>?_,fun i=>?_⟩
 ·refine usePu (g) rfl (zaa _) rfl ?_;exact c _ _ _ (by have h:=od i; subst h; simp) rfl
 ·exact c _ _ _ (by have h:=oe i; simp [h]) rfl
theorem z9b (F:Fz) (q w:SA) (a b:List Kp) (u:ClsAt F q a) (s:ClsAt F w b) (R:short a) (la:a.length < 1000000) :
  Fo Tryz.prog F 65 [.va q,.va w,.va (.fn (.func 66) [])] (fun o i=>o = .ret (.va (.bool (decide (a = b)))) ∧ i = F):=by
 have f:∀ (v:Bool) (h:Hp) (nx:Nat),decide (a = b) = v → lget h 0 = some (.frz F) → Cln 1 (FoK F fun o i=>o = .ret (.va (.bool (decide (a = b)))) ∧ i = F) (.ret (.va (.bool v))) h nx:=by
  intro v h nx K J;exact endPu J (Fz.r F) (ob K) rfl
 have finL:∀ (v:Bool) (h:Hp) (nx:Nat),decide (a = b) = v → lget h 0 = some (.frz F) → Cln 1 (FoK F fun o i=>o = .ret (.va (.bool (decide (a = b)))) ∧ i = F) (.ret (.va (.lit v))) h nx:=by
  intro v h nx K J;exact endPu J (Fz.r F) (by rw [K]; exact rfl) rfl
 obtain ⟨an,ab,ae,ac,aL,ar,rfl,U,a2,a3,a4⟩:=u;obtain ⟨bn,bb,be,bc,bL,ah,rfl,b1,b2,b3,b4⟩:=s;refine fo_of hΘ Tryz.func65 rfl (by decide) _ _ rfl rfl rfl ?_;refine br (fun g=>?_) (fun g=>?_)
 ·refine f _ _ _ ?_ rfl;have:¬ a = b:=by rintro rfl; simp at g
  simp [this]
 ·have gl:a.length = b.length:=neq_f g
  refine zam hΘ (X:={ k:Nat // k ≤ a.length ∧ a.take k = b.take k }) (fun x=>[(17,.va (.int .i64 x.1))]) [6,7,8,9,18,19,20,21,22,23,24,25,26,27,28,29,30,31] (fz fun _=>F) 1 (fun x=>a.length - x.1) ⟨0,by simp,rfl⟩
   (fun I G=>leI [] I G rfl ⟨tv,tv⟩ ⟨rfl,tv⟩ ⟨Fz.r F,tv⟩) ?_
  rintro ⟨k,Z,O⟩ I G;by_cases g:k < a.length
  ·have M:k < b.length:=gl ▸ g;have B:(k:Int) < (a.length:Int):=by omega
   have D:(k:Int) < (b.length:Int):=by omega
   have n:a.length - (k + 1) < a.length - k:=by omega
   have m:k < 4611686018427387904:=by omega
   have hx:=R (a[k]'g) (jp g);have c:=SlR.at a4 g;obtain ⟨y,hy,q,rfl,u⟩:=c;have c:=SlR.at b4 M;obtain ⟨z,hz,w,rfl,s⟩:=c;have d:=z5d F q w (a[k]'g).1 (b[k]'g').1 (a[k]'g).2 (b[k]'g').2 u s hx;have l:=SlR.lt U g;have p:=SlR.lt b1 M;have L:a[k]'g = b[k]'g' → a.take (k + 1) = b.take (k + 1):=fun h=>by rw [qg g,qg M,O,h]
   have j:¬ a[k]'g = b[k]'g' → decide (a = b) = false:=fun h=>decide_eq_false fun e=>h (by subst e; rfl)
   obtain ⟨ag,ak,af,aa,au,aw,rfl,ad,Y,T,am⟩:=u;obtain ⟨ao,al,aq,av,aj,S,rfl,ai,V,ap,W⟩:=s;refine bri B ?_;refine ⟨l,⟨by simp,B⟩,_,a2 l,_,hy,p,⟨by simp,D⟩,_,b2 p,_,hz,?_⟩;refine usePu (d) rfl (zaa _) rfl ?_;refine br (fun E=>?_) (fun E=>?_)
   ·conv=>whnf
    have A:(!decide (a[k]'g = b[k]'g')) = true:=E
    first | exact f false _ _ (j (by simpa using A)) rfl | exact finL false _ _ (j (by simpa using A)) rfl
   ·conv=>whnf
    have A:(!decide (a[k]'g = b[k]'g')) = false:=E;exact ⟨⟨k + 1,g,L (by simpa using A)⟩,n,leR [] I G rfl ⟨tv,tv⟩ ⟨cnt m,tv⟩ ⟨Fz.r F,tv⟩⟩
  ·have B:¬ (k:Int) < (a.length:Int):=by omega
   have Q:decide (a = b) = true:=decide_eq_true (by rw [← qn (show a.length ≤ k by omega),O,qn (by omega)]);refine brj B ?_;conv=>whnf
   first | exact f true _ _ Q rfl | exact finL true _ _ Q rfl
theorem beqD {s t:List UInt8} {x:Bool} (h:(s == t) = x):decide (s = t) = x:=by rw [← h,Bool.eq_iff_iff]; simp
def znq (a b:Crt):Bool:=decide (a.src = b.src) && (decide (a.dst = b.dst) && (decide (a.len = b.len) && decide (a.cl = b.cl)))
theorem zuq (F:Fz) (m l:SA) (a b:Crt) (w:ClsAt F m a.cl) (u:ClsAt F l b.cl) (x:short a.cl) (B:a.cl.length < 1000000) :
  Fo Tryz.prog F 27 [.agg (crtS a m),.agg (crtS b l)] (fun o e=>o = .ret (.va (.bool (znq a b))) ∧ e = F):=by
 have c:=z9b F m l a.cl b.cl w u x B;obtain ⟨g,d1,f,n⟩:=a;obtain ⟨j,d2,i,k⟩:=b;replace c:Fo Tryz.prog F 65 [.va m,.va l,.va (.fn (.func 66) [])] (fun o e=>o = .ret (.va (.bool (decide (n = k)))) ∧ e = F):=c;show Fo Tryz.prog F 27 [.agg (crtS ⟨g,d1,f,n⟩ m),.agg (crtS ⟨j,d2,i,k⟩ l)] (fun o e=>o = .ret (.va (.bool (decide (g = j) && (decide (d1 = d2) && (decide (f = i) && decide (n = k)))))) ∧ e = F)
 have d:∀ (v:Bool) (h:Hp) (nx:Nat),(decide (g = j) && (decide (d1 = d2) && (decide (f = i) && decide (n = k)))) = v → lget h 0 = some (.frz F) → Cln 1 (FoK F fun o e=>o = .ret (.va (.bool (decide (g = j) && (decide (d1 = d2) && (decide (f = i) && decide (n = k)))))) ∧ e = F) (.ret (.va (.bool v))) h nx:=by
  intro v h nx A y;exact endPu y (Fz.r F) (ob A) rfl
 obtain ⟨G,O,R,K,M,ar,rfl,-,-,-,-⟩:=w;obtain ⟨Q,L,I,J,E,D,rfl,-,-,-,-⟩:=u;refine fo_of hΘ Tryz.func27 rfl (by decide) _ _ rfl rfl rfl ?_;refine ⟨fun q=>?_,fun q=>?_⟩
 rotate_left
 ·exact d false _ _ (by rw [show decide (g = j) = false from beqD q]; rfl) rfl
 refine ⟨fun p=>?_,fun p=>?_⟩
 rotate_left
 ·exact d false _ _ (by rw [show decide (d1 = d2) = false from beqD p]; simp) rfl
 refine ⟨fun s=>?_,fun s=>?_⟩
 rotate_left
 ·exact d false _ _ (by rw [show decide (f = i) = false from s]; simp) rfl
 refine usePu (c) rfl (zaa _) rfl ?_;exact d _ _ _ (by rw [show decide (g = j) = true from beqD q,show decide (d1 = d2) = true from beqD p,show decide (f = i) = true from s]; rfl) rfl
end Go.Proofs.YtfnkamphhpldcaaGreatDoor
