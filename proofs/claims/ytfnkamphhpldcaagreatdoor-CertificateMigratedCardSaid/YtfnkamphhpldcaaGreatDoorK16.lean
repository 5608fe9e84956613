import Derived.Test.YtfnkamphhpldcaaGreatDoorK15
set_option maxHeartbeats 64000000
namespace Go.Proofs.YtfnkamphhpldcaaGreatDoor
open Go Sx
set_option maxRecDepth 100000
structure Mig where
 id:Int
 src:Int
 dst:Int
 back:Bool
 keep:List Kp
def asc:List Kp → Bool
 |a :: b :: r=>decide (a.1 < b.1) && asc (b :: r)
 |_=>true
theorem zrd:∀ (l:List Kp),asc l = true ↔ ∀ i (h:i + 1 < l.length),l[i].1 < l[i + 1].1
 |[]=>by simp [asc]
 |[a]=>by simp [asc]
 |a :: b :: r=>by
  rw [asc,qf,zrd (b :: r),decide_eq_true_eq];constructor
  ·rintro ⟨h1,c⟩ i h;cases i with
   |zero=>exact h1
   |succ i=>exact c i (by simpa using h)
  ·intro h;exact ⟨h 0 (by simp),fun i d=>h (i + 1) (by simpa using d)⟩
def idOk (n:Int):Bool:=decide (1 ≤ n) && decide (n ≤ 1000000)
def migOk (m:Mig):Bool:=asc m.keep && (idOk m.id && (idOk m.src && (idOk m.dst && (!(m.back && decide (0 < m.keep.length)) && m.keep.all zbi))))
abbrev migS (m:Mig) (sk:SA):List SA:=[.int .i64 m.id,.int .i64 m.src,.int .i64 m.dst,.lit m.back,sk]
theorem zfl {n:Nat} (m:Mig) {sk:SA} (h:sk.below n):(Ent.one (.cells 32 (migS m sk))).below n:=by
 intro a b;simp only [qj,qs,or_false] at b;rcases b with rfl | rfl | rfl | rfl | rfl
 ·trivial
 ·trivial
 ·trivial
 ·trivial
 ·exact h
theorem zrz (n:Int) (F:Fz):Fo Tryz.prog F 108 [.va (.int .i64 n)] (fun o a=>o = .ret (.va (.bool (idOk n))) ∧ a = F):=by
 refine fo_of hΘ Tryz.func108 rfl (by decide) _ _ rfl rfl rfl ?_;refine ⟨fun g=>?_,fun g=>?_⟩
 ·exact endPu rfl (Fz.r F) (ob (by show (decide (1 ≤ n) && decide (n ≤ 1000000)) = _; rw [show decide (1 ≤ n) = true from g]; rfl)) rfl
 ·exact endPu rfl (Fz.r F) (ob (by show (decide (1 ≤ n) && decide (n ≤ 1000000)) = _; rw [show decide (1 ≤ n) = false from g]; rfl)) rfl
theorem mOk0 {m:Mig} (h:asc m.keep = false):migOk m = false:=by simp only [migOk,h,ji]
theorem mOk1 {m:Mig} (h:idOk m.id = false):migOk m = false:=by simp only [migOk,h,ji,yd]
theorem mOk2 {m:Mig} (h:idOk m.src = false):migOk m = false:=by simp only [migOk,h,ji,yd]
theorem mOk3 {m:Mig} (h:idOk m.dst = false):migOk m = false:=by simp only [migOk,h,ji,yd]
theorem mOk4 {m:Mig} (b:m.back = true) (h:(!decide ((0:Int) < (m.keep.length:Int))) = false):migOk m = false:=by
 have a:decide (0 < m.keep.length) = true:=by simp at h ⊢; omega
 simp only [migOk,b,a,qdi,Bool.not_true,ji,yd]
theorem mOkT {m:Mig} (a:asc m.keep = true) (h1:idOk m.id = true) (b:idOk m.src = true) (c:idOk m.dst = true) (h4:m.back = false ∨ (!decide ((0:Int) < (m.keep.length:Int))) = true):migOk m = !(!m.keep.all zbi):=by
 have d:(!(m.back && decide (0 < m.keep.length))) = true:=by
  rcases h4 with h4 | h4
  ·rw [h4]; rfl
  ·have:decide (0 < m.keep.length) = false:=by simp at h4 ⊢; exact h4
   rw [this]; simp
 simp only [migOk,a,h1,b,c,d,qab,Bool.not_not]
theorem zp9 (F:Fz) (sk:SA) (m:Mig) (K:KpsAt F sk m.keep) (hs:short m.keep) (hl:m.keep.length < 1000000) :
  Fo Tryz.prog F 50 [.agg (migS m sk)] (fun o M=>o = .ret (.va (.bool (migOk m)))):=by
 have d:=z2a F sk m.keep K hs hl;have O:=mOk0 (m:=m);have Q:=mOk1 (m:=m);have R:=mOk2 (m:=m);have S:=mOk3 (m:=m);have T:=mOk4 (m:=m);have U:=mOkT (m:=m);obtain ⟨v,hv⟩:∃ v,migOk m = v:=⟨_,rfl⟩
 rw [hv] at O Q R S T U ⊢;clear hv;obtain ⟨id,src,s,l,a⟩:=m;replace K:KpsAt F sk a:=K;replace hl:a.length < 1000000:=hl;replace d:Fo Tryz.prog F 109 [.va sk,.va (.fn (.func 106) [])] (fun o M=>o = .ret (.va (.bool (!a.all zbi)))):=d;obtain ⟨kn,kb,ke,kc,kL,kr,sf,rfl,k1,L,k3,k4⟩:=KpsAt.open K
 have f:∀ (b:Bool) (F1:Fz) (h:Hp) (nx:Nat),v = b → lget h 0 = some (.frz F1) → Fz.le F F1 → Cln 1 (FoK F fun o M=>o = .ret (.va (.bool v))) (.ret (.va (.bool b))) h nx:=by
  intro b F1 h nx Z V p;exact endFo (.ret (.va (.bool b))) F1 V p (Fz.r F1) (by rw [Z]) rfl rfl
 have finL:∀ (b:Bool) (F1:Fz) (h:Hp) (nx:Nat),v = b → lget h 0 = some (.frz F1) → Fz.le F F1 → Cln 1 (FoK F fun o M=>o = .ret (.va (.bool v))) (.ret (.va (.lit b))) h nx:=by
  intro b F1 h nx Z V p;exact endFo (.ret (.va (.bool b))) F1 V p (Fz.r F1) (by rw [Z]) rfl rfl
 refine fo_of hΘ Tryz.func50 rfl (by decide) _ _ rfl rfl rfl ?_
 refine zam hΘ (X:={ k:Nat // (k = 0 ∨ k < a.length) ∧ ∀ i (h:i + 1 < a.length),i < k → a[i].1 < a[i + 1].1 }) (fun x=>[(4,.va (.int .i64 ((x.1 + 1:Nat):Int)))]) [2,5,6,7,8,9,10,11,12,13,14,15,16,17,18,19,20,21,22,23,24,25]
  (fun x=>[(0,.frz F),(1,.one (.cells 32 (migS ⟨id,src,s,l,a⟩ (.slice kn 0 kb ke 2 a.length kc))))]) 2 (fun x=>a.length - x.1) ⟨0,.inl rfl,fun i h hi=>absurd hi (by omega)⟩
  (fun W Y=>leI [] W Y rfl ⟨tv,zfl _ (.inr (by omega)),tv⟩ ⟨rfl,tv⟩ ⟨Fz.r F,rfl,tv⟩) ?_
 rintro ⟨k,ab,hp⟩ W Y;by_cases g:k + 1 < a.length
 ·have J:((k + 1:Nat):Int) < (a.length:Int):=by omega
  have A:a.length - (k + 1) < a.length - k:=by omega
  have B:k + 1 < 4611686018427387904:=by omega
  have w1:IntKind.i64.wrap (((k + 1:Nat):Int) - 1) = (k:Int):=by rw [zaj (by omega) (by omega)]; omega
  have q0:0 ≤ IntKind.i64.wrap (((k + 1:Nat):Int) - 1) ∧ IntKind.i64.wrap (((k + 1:Nat):Int) - 1) < (a.length:Int):=by rw [w1]; omega
  have q1:0 ≤ ((k + 1:Nat):Int) ∧ ((k + 1:Nat):Int) < (a.length:Int):=by omega
  have j:k < a.length:=Nat.lt_of_succ_lt g;have E:kL[ke + (IntKind.i64.wrap (((k + 1:Nat):Int) - 1)).toNat]? = some [.int .i64 (a[k]'j).1,sf k]:=by rw [w1]; exact (k4 k j).1
  have G:kL[ke + ((k + 1:Nat):Int).toNat]? = some [.int .i64 (a[k + 1]'g).1,sf (k + 1)]:=(k4 (k + 1) g).1;have c:=SlR.lt k1 g;by_cases q:(a[k]'j).1 < (a[k + 1]'g).1
  ·refine bri J ?_;refine drawP hΘ mixed (lk [0,1,2,3,4,5,6,7,8,9,10,11,12,13] .done) [1] (by kernel_rfl) ?_;refine ⟨rfl,c,q0,rfl,_,L c,_,E,rfl,c,q1,rfl,_,L c,_,G,?_⟩;refine br (fun h=>absurd (od h) (by omega)) (fun _=>?_);exact ⟨⟨k + 1,.inr g,fun i h hi=>(Nat.lt_succ_iff_lt_or_eq.1 hi).elim (hp i h) (fun e=>by subst e; exact q)⟩,A,leR [] W Y rfl ⟨tv,zfl _ (.inr (by omega)),tv⟩ ⟨cnt B,tv⟩ ⟨Fz.r F,rfl,tv⟩⟩
  ·have aa:(a[k + 1]'g).1 ≤ (a[k]'j).1:=qcd.1 q
   have D:asc a = false:=by
    cases ha:asc a with
    |false=>rfl
    |true=>exact absurd ((zrd a).1 ha k g) q
   refine bri J ?_;refine drawP hΘ mixed (lk [0,1,2,3,4,5,6,7,8,9,10,11,12,13] .done) [1] (by kernel_rfl) ?_;refine ⟨rfl,c,q0,rfl,_,L c,_,E,rfl,c,q1,rfl,_,L c,_,G,?_⟩;refine bri aa ?_;conv=>whnf
   first | exact f false F _ _ (O D) rfl (Fz.r F) | exact finL false F _ _ (O D) rfl (Fz.r F)
 ·have J:¬ ((k + 1:Nat):Int) < (a.length:Int):=by omega
  have n:asc a = true:=(zrd a).2 fun i h=>hp i h (by omega)
  refine brj J ?_;refine usePu (zrz id F) rfl (zaa _) rfl ?_;refine ⟨fun u=>?_,fun u=>?_⟩
  ·refine usePu (zrz src F) rfl (zaa _) rfl ?_;refine ⟨fun w=>?_,fun w=>?_⟩
   ·refine usePu (zrz s F) rfl (zaa _) rfl ?_;refine ⟨fun y=>?_,fun y=>?_⟩
    ·rcases l with _ | _
     ·refine useFo d rfl (zaa _) rfl ?_;rintro _ F1 l1 rfl;exact f _ F1 _ _ (U n u w y (.inl rfl)) rfl l1
     ·refine ⟨fun I=>?_,fun I=>?_⟩
      ·refine useFo d rfl (zaa _) rfl ?_;rintro _ F1 l1 rfl;exact f _ F1 _ _ (U n u w y (.inr I)) rfl l1
      ·conv=>whnf
       first | exact f false F _ _ (T rfl I) rfl (Fz.r F) | exact finL false F _ _ (T rfl I) rfl (Fz.r F)
    ·conv=>whnf
     first | exact f false F _ _ (S y) rfl (Fz.r F) | exact finL false F _ _ (S y) rfl (Fz.r F)
   ·conv=>whnf
    first | exact f false F _ _ (R w) rfl (Fz.r F) | exact finL false F _ _ (R w) rfl (Fz.r F)
  ·conv=>whnf
   first | exact f false F _ _ (Q u) rfl (Fz.r F) | exact finL false F _ _ (Q u) rfl (Fz.r F)
def zak (p:Int):List Kp → List Stp
 |[]=>[]
 |k :: r=>if k.1 = p then k.2 else zak p r
theorem zq2 (p:Int) (l:List Kp) (k:Nat) (h:k < l.length):zak p (l.drop k) = if (l[k]'h).1 = p then (l[k]'h).2 else zak p (l.drop (k + 1)):=by
 rw [qx h]; rfl
theorem zhn {a:List Kp} (b:short a) (p:Int):(zak p a).length < 1000000:=by
 induction a with
 |nil=>simp [zak]
 |cons x r ih=>
  rw [zak];split
  ·exact b x (by simp)
  ·exact ih fun y c=>b y (by simp [c])
theorem zk3 (F:Fz) (sk:SA) (m:Mig) (p:Int) (I:KpsAt F sk m.keep) (J:short m.keep) (M:m.keep.length < 1000000) :
  Fo Tryz.prog F 110 [.agg (migS m sk),.va (.int .i64 p)] (fun o s=>∃ q,o = .ret (.va q) ∧ za1 s q (zak p m.keep)):=by
 obtain ⟨id,src,i,d,b⟩:=m;replace I:KpsAt F sk b:=I;replace M:b.length < 1000000:=M;replace J:short b:=J;show Fo Tryz.prog F 110 [.agg (migS ⟨id,src,i,d,b⟩ sk),.va (.int .i64 p)] (fun o s=>∃ q,o = .ret (.va q) ∧ za1 s q (zak p b));obtain ⟨kn,kb,ke,kc,kL,kr,rfl,k1,Q,k3,k4⟩:=I;refine fo_of hΘ Tryz.func110 rfl (by decide) _ _ rfl rfl rfl ?_
 refine zam hΘ (X:={ k:Nat // k ≤ b.length ∧ zak p b = zak p (b.drop k) }) (fun x=>[(11,.va (.int .i64 x.1))]) [4,6,12,13,14,15,16,17,18,19,20,21,22]
  (fun x=>[(0,.frz F),(1,.one (.cells 105 (migS ⟨id,src,i,d,b⟩ (.slice kn 0 kb ke 2 b.length kc))))]) 2 (fun x=>b.length - x.1) ⟨0,by simp,by simp⟩
  (fun u w=>leI [] u w rfl ⟨tv,zfl _ (.inr (by omega)),tv⟩ ⟨rfl,tv⟩ ⟨Fz.r F,rfl,tv⟩) ?_
 rintro ⟨k,ai,f⟩ u w;by_cases g:k < b.length
 ·have h:(k:Int) < (b.length:Int):=by omega
  have l:b.length - (k + 1) < b.length - k:=by omega
  have n:k < 4611686018427387904:=by omega
  have hx:=J (b[k]'g) (jp g);rw [zq2 p b k g] at f;have j:=SlR.at k4 g;obtain ⟨y,O,a,rfl,K⟩:=j;have e:=zpc F a (b[k]'g).2 K hx;have c:=SlR.lt k1 g;obtain ⟨aa,W,Z,Y,V,ab,rfl,R,S,T,U⟩:=K;by_cases gp:(b[k]'g).1 = p
  ·rw [if_pos gp] at f;refine bri h ?_;refine ⟨c,⟨by simp,h⟩,_,Q c,_,O,?_⟩;refine bri gp ?_;refine useFo e rfl (zaa _) rfl ?_;rintro _ F1 l1 ⟨sb,rfl,L⟩;have A:=L;obtain ⟨G,B,E,D,ag,ah,rfl,ac,ad,ae,af⟩:=L;exact endFo (.ret (.va (.slice G 0 B E 2 (b[k]'g).2.length D))) F1 rfl l1 (Fz.r F1) ⟨_,rfl,by rw [f]; exact A⟩ (zah _) rfl
  ·rw [if_neg gp] at f;refine bri h ?_;refine ⟨c,⟨by simp,h⟩,_,Q c,_,O,?_⟩;refine brj gp ?_;exact ⟨⟨k + 1,g,f⟩,l,leR [] u w rfl ⟨tv,zfl _ (.inr (by omega)),tv⟩ ⟨cnt n,tv⟩ ⟨Fz.r F,rfl,tv⟩⟩
 ·have h:¬ (k:Int) < (b.length:Int):=by omega
  rw [yg (by omega)] at f;refine brj h ?_;exact endFo (.ret (.va (.slice true 0 0 0 2 0 0))) F rfl (Fz.r F) (Fz.r F) ⟨_,rfl,by rw [f]; exact Sl.nil⟩ ⟨rfl,rfl,rfl⟩ rfl
theorem zu9 (F:Fz) (sk:SA) (m:Mig) (p:Int) (b:KpsAt F sk m.keep) (w:short m.keep) (u:m.keep.length < 1000000) :
  Fo Tryz.prog F 94 [.agg (migS m sk),.va (.int .i64 p)] (fun o A=>o = .ret (.va (.bool (decide (0 < (zak p m.keep).length))))):=by
 have h:=zk3 F sk m p b w u;obtain ⟨id,src,c,a,x⟩:=m;obtain ⟨M,J,L,K,I,O,rfl,B,D,E,G⟩:=b;refine fo_of hΘ Tryz.func94 rfl (by decide) _ _ rfl rfl rfl ?_;refine useFo h rfl (zaa _) rfl ?_;rintro _ F1 y ⟨Q,rfl,d⟩;obtain ⟨q,k,n,l,j,s,rfl,e,f,g,i⟩:=d;exact endFo (.ret (.va (.bool (decide (0 < (zak p x).length))))) F1 rfl y (Fz.r F1) rfl (ob (by simp)) rfl
def zb4 (a:List Kp) (p:Int):List Stp:=
 if (p = 3 ∧ 0 < (zak 4 a).length) ∨ (p = 5 ∧ 0 < (zak 3 a).length) then [(6,0)] else if p = 6 then zak 7 a else zak p a
theorem ziw {a:List Kp} {p q:Int} (h:(p = 3 ∧ q = 4) ∨ (p = 5 ∧ q = 3)) (g:decide (0 < (zak q a).length) = true):zb4 a p = [(6,0)]:=by
 have g:=od g;rcases h with ⟨rfl,rfl⟩ | ⟨rfl,rfl⟩
 ·rw [zb4,if_pos (.inl ⟨rfl,g⟩)]
 ·rw [zb4,if_pos (.inr ⟨rfl,g⟩)]
theorem zix {a:List Kp} {p q:Int} (h:(p = 3 ∧ q = 4) ∨ (p = 5 ∧ q = 3)) (g:decide (0 < (zak q a).length) = false):zb4 a p = zak p a:=by
 have g:=oe g;rcases h with ⟨rfl,rfl⟩ | ⟨rfl,rfl⟩
 ·rw [zb4,if_neg (by rintro (⟨_,h⟩ | ⟨h,_⟩); exact g h; cases h),if_neg (by decide)]
 ·rw [zb4,if_neg (by rintro (⟨h,_⟩ | ⟨_,h⟩); cases h; exact g h),if_neg (by decide)]
theorem zrk {a:List Kp}:zb4 a 6 = zak 7 a:=by
 rw [zb4,if_neg (by rintro (⟨h,_⟩ | ⟨h,_⟩)<;>cases h),if_pos rfl]
theorem zhf {a:List Kp} {p:Int} (b:p ≠ 3) (c:p ≠ 5) (d:p ≠ 6):zb4 a p = zak p a:=by
 rw [zb4,if_neg (by rintro (⟨h,_⟩ | ⟨h,_⟩); exact b h; exact c h),if_neg d]
theorem KpsAt.up {F c:Fz} {t:Nat} {a:SA} {l:List Kp} (h:SlR F t 2 (KpR F) a l) (b:Fz.le F c):SlR c t 2 (KpR c) a l:=SlR.mono h b fun _ _ h=>h.mono b
theorem z09 (F:Fz) (sk:SA) (m:Mig) (p:Int) (W:KpsAt F sk m.keep) (hs:short m.keep) (hl:m.keep.length < 1000000) :
  Fo Tryz.prog F 51 [.agg (migS m sk),.va (.int .i64 p)] (fun o U=>∃ e,o = .ret (.agg [.int .i64 p,e]) ∧ za1 U e (zb4 m.keep p)):=by
 have i:=fun F1 (a:Fz.le F F1) q=>zk3 F1 sk m q (KpsAt.up W a) hs hl
 have T:=fun F1 (a:Fz.le F F1) q=>zu9 F1 sk m q (KpsAt.up W a) hs hl
 obtain ⟨id,src,ab,aa,ks⟩:=m
 have c:∀ (e:SA) (F1:Fz) (h:Hp) (nx:Nat),za1 F1 e (zb4 ks p) → lget h 0 = some (.frz F1) → Fz.le F F1 → outE (.ret (.agg [.int .i64 p,e])) ((Out.ret (.agg [.int .i64 p,e])).ren (resP h)) →
   Cln 1 (FoK F fun o U=>∃ e,o = .ret (.agg [.int .i64 p,e]) ∧ za1 U e (zb4 ks p)) (.ret (.agg [.int .i64 p,e])) h nx:=by
  intro e F1 h nx b h0 X ho;have hz:=b.z;exact endFo (.ret (.agg [.int .i64 p,e])) F1 h0 X (Fz.r F1) ⟨_,rfl,b⟩ ho (by simp [Out.z,SV.z,hz]; rfl)
 obtain ⟨kn,kb,ke,kc,kL,kr,rfl,k1,k2,k3,k4⟩:=W;by_cases Z:p = 3
 ·skip
  subst Z;refine fo_of hΘ Tryz.func51 rfl (by decide) _ _ rfl rfl rfl ?_;refine useFo (i F (Fz.r F) 3) rfl (zaa _) rfl ?_;rintro _ F1 a ⟨sb,rfl,b⟩;have d:=b;obtain ⟨D,y,B,A,x,E,rfl,n,s,u,w⟩:=b;refine gae (by decide) ?_;refine useFo (T F1 a 4) rfl (zaa _) rfl ?_;rintro _ l j rfl;refine br (fun g=>?_) (fun g=>?_)
  ·refine br (fun _=>?_) (fun h=>absurd (h.symm.trans g) (by simp));refine useFo (zn0 l) rfl (zaa _) rfl ?_;rintro _ V Y ⟨sc,rfl,k⟩;have f:=k;obtain ⟨R,M,Q,O,L,S,rfl,G,I,J,K⟩:=k;exact c _ V _ _ (by rw [ziw (by simp) g]; exact f) rfl (Fz.t a (Fz.t j Y)) (zah _)
  ·refine gaf (by decide) ?_;refine brd (by decide) ?_;exact c _ l _ _ (by rw [zix (by simp) g]; exact d.mono j) rfl (Fz.t a j) (zah _)
 by_cases p5:p = 5
 ·skip
  subst p5;refine fo_of hΘ Tryz.func51 rfl (by decide) _ _ rfl rfl rfl ?_;refine useFo (i F (Fz.r F) 5) rfl (zaa _) rfl ?_;rintro _ F1 a ⟨sb,rfl,b⟩;have d:=b;obtain ⟨D,y,B,A,x,E,rfl,n,s,u,w⟩:=b;refine gaf (by decide) ?_;refine gae (by decide) ?_;refine useFo (T F1 a 3) rfl (zaa _) rfl ?_;rintro _ l j rfl;refine br (fun g=>?_) (fun g=>?_)
  ·refine useFo (zn0 l) rfl (zaa _) rfl ?_;rintro _ V Y ⟨sc,rfl,k⟩;have f:=k;obtain ⟨R,M,Q,O,L,S,rfl,G,I,J,K⟩:=k;exact c _ V _ _ (by rw [ziw (by simp) g]; exact f) rfl (Fz.t a (Fz.t j Y)) (zah _)
  ·refine brd (by decide) ?_;exact c _ l _ _ (by rw [zix (by simp) g]; exact d.mono j) rfl (Fz.t a j) (zah _)
 by_cases p6:p = 6
 ·subst p6;refine fo_of hΘ Tryz.func51 rfl (by decide) _ _ rfl rfl rfl ?_;refine useFo (i F (Fz.r F) 6) rfl (zaa _) rfl ?_;rintro _ F1 a ⟨sb,rfl,b⟩;have d:=b;obtain ⟨D,y,B,A,x,E,rfl,n,s,u,w⟩:=b;refine gaf (by decide) ?_;refine gaf (by decide) ?_;refine bre (by decide) ?_;refine useFo (i F1 a 7) rfl (zaa _) rfl ?_;rintro _ l j ⟨sc,rfl,k⟩;have f:=k;obtain ⟨R,M,Q,O,L,S,rfl,G,I,J,K⟩:=k;exact c _ l _ _ (by rw [zrk]; exact f) rfl (Fz.t a j) (zah _)
 ·refine fo_of hΘ Tryz.func51 rfl (by decide) _ _ rfl rfl rfl ?_;refine useFo (i F (Fz.r F) p) rfl (zaa _) rfl ?_;rintro _ F1 a ⟨sb,rfl,b⟩;have d:=b;obtain ⟨D,y,B,A,x,E,rfl,n,s,u,w⟩:=b;refine ⟨fun g=>absurd (od g) Z,fun _=>?_⟩;refine ⟨fun g=>absurd (od g) p5,fun _=>?_⟩;refine brj p6 ?_;exact c _ F1 _ _ (by rw [zhf Z p5 p6]; exact d) rfl a (zah _)
def zbh (a:List Kp):List Kp:=(List.range 8).map fun k:Nat=>((k:Int) + 1,zb4 a ((k:Int) + 1))
theorem zc1 (a:List Kp):(zbh a).length = 8:=by simp [zbh]
theorem zrl (a:List Kp) (k:Nat) (h:k < 8):(zbh a)[k]? = some ((k:Int) + 1,zb4 a ((k:Int) + 1)):=by simp [zbh,h]
def RowOf (F:Fz) (f:Nat → Kp) (o:List ZC):Prop:=∀ i (z:ZC),o[i]? = some z → KpR F z.1 (f i)
theorem RowOf.mono {F b:Fz} {f:Nat → Kp} {o:List ZC} (h:RowOf F f o) (a:Fz.le F b):RowOf b f o:=fun i z c=>(h i z c).mono a
theorem RowOf.nil {F:Fz} {f:Nat → Kp}:RowOf F f []:=fun i z a=>by simp at a
theorem RowOf.snoc {F:Fz} {f:Nat → Kp} {o:List ZC} (h:RowOf F f o) {z:ZC} (g:KpR F z.1 (f o.length)):RowOf F f (o ++ [z]):=fun i y a=>by
 by_cases e:i < o.length
 ·rw [jx e] at a; exact h i y a
 ·rw [jy (by omega)] at a
  have d:i - o.length = 0:=by
   by_cases h1:i - o.length = 0
   ·exact h1
   ·rw [qca (by simp; omega)] at a; cases a
  rw [d] at a;have c:z = y:=by simpa using a
  have b:i = o.length:=by omega
  rw [← c,b]; exact g
theorem RowOf.sl {F:Fz} {t b a cap:Nat} {f:Nat → Kp} {o:List ZC} {l:List Kp} (h:RowOf F f o) (g:F b = some (.arr t 2 (o.map encZ) a)) (d:o.length = l.length) (i:∀ k x,l[k]? = some x → x = f k):SlR F t 2 (KpR F) (.slice false 0 b 0 2 l.length cap) l:=
 SlR.new g (by rw [qa,d]) fun k x e=>by
  have c:k < o.length:=by rw [d]; exact (qi.1 e).1
  exact ⟨encZ o[k],by rw [qy,qe c]; rfl,by rw [i k x e]; exact h k o[k] (qe c)⟩
def mkZ (p:Int) (a:SA) (h:a.z = true):ZC:=⟨[.int .i64 p,a],fun x b=>by
 simp only [qj,qs,or_false] at b;rcases b with rfl | rfl
 ·rfl
 ·exact h⟩
theorem zpa (F:Fz) (sk:SA) (m:Mig) (R:KpsAt F sk m.keep) (hs:short m.keep) (hl:m.keep.length < 1000000) :
  Fo Tryz.prog F 16 [.agg (migS m sk)] (fun o M=>(migOk m = false ∧ o = .ret (.tup [.va .nilsl,.va (.int .i64 90)])) ∨
   (migOk m = true ∧ ∃ b c,o = .ret (.tup [.va (.slice false 0 b 0 2 8 c),.va (.int .i64 0)]) ∧ ClsAt M (.slice false 0 b 0 2 8 c) (zbh m.keep))):=by
 have aj:=fun F1 (l1:Fz.le F F1) q=>z09 F1 sk m q (KpsAt.up R l1) hs hl
 have L:=zp9 F sk m R hs hl;have I:=fun n (h:sk.below n)=>zfl (n:=n) m h
 obtain ⟨id,src,T,B,p⟩:=m;replace R:KpsAt F sk p:=R;obtain ⟨v,hv⟩:∃ v,migOk ⟨id,src,T,B,p⟩ = v:=⟨_,rfl⟩
 rw [hv] at L ⊢;clear hv;obtain ⟨kn,kb,ke,kc,kL,kr,rfl,k1,k2,k3,k4⟩:=R;replace I:∀ n,0 < n → (Ent.one (.cells 32 (migS ⟨id,src,T,B,p⟩ (.slice kn 0 kb ke 2 p.length kc)))).below n:=fun n hn=>I n (.inr hn)
 rcases v with _ | _
 ·refine fo_of hΘ Tryz.func16 rfl (by decide) _ _ rfl rfl rfl ?_;refine useFo L rfl (zaa _) rfl ?_;rintro _ F1 l1 rfl;refine bre (by decide) ?_;exact endFo (.ret (.tup [.va .nilsl,.va (.int .i64 90)])) F1 rfl l1 (Fz.r F1) (.inl ⟨rfl,rfl⟩) (zah _) rfl
 ·refine fo_of hΘ Tryz.func16 rfl (by decide) _ _ rfl rfl rfl ?_;refine useFo L rfl (zaa _) rfl ?_;rintro _ F1 l1 rfl;refine brd (by decide) ?_
  refine zam hΘ (X:={ y:Nat × List ZC × Nat × Fz // Fz.le F y.2.2.2 ∧ y.1 ≤ 8 ∧ y.2.1.length = y.1 ∧ RowOf y.2.2.2 (fun k=>((k:Int) + 1,zb4 p ((k:Int) + 1))) y.2.1 }) (fun y=>[(4,.va (gA 2 2 y.1.2.2.1 y.1.2.1)),(9,.va (.int .i64 y.1.1))]) [5,10,11,12,13,14,15,16,17,18,19,20]
   (fun y=>[(0,.frz y.1.2.2.2),(1,.one (.cells 32 (migS ⟨id,src,T,B,p⟩ (.slice kn 0 kb ke 2 p.length kc)))),(2,gE 52 2 encZ y.1.2.2.1 y.1.2.1)]) 3 (fun y=>8 - y.1.1) ⟨(0,[],0,F1),l1,by omega,rfl,RowOf.nil⟩
   (fun hH hT=>leI [(2,2)] hH hT rfl ⟨tv,I 3 (by omega),zd1 zb7 (by omega) _ _ _ _,tv⟩ ⟨rfl,rfl,tv⟩ ⟨Fz.r F1,rfl,rfl,tv⟩) ?_
  rintro ⟨⟨k,o,co,G⟩,V,R,W,u⟩ hH hT;replace V:Fz.le F G:=V;replace R:k ≤ 8:=R;replace W:o.length = k:=W;replace u:RowOf G (fun k=>((k:Int) + 1,zb4 p ((k:Int) + 1))) o:=u;by_cases g:k < 8
  ·have O:(k:Int) < 8:=by omega
   have Z:k + 1 ≤ 8:=g;have Q:8 - (k + 1) < 8 - k:=by omega
   have E:k < 4611686018427387904:=by omega
   have hw:SA.int .i64 ((k:Int) + 1) = SA.int .i64 (IntKind.i64.wrap ((k:Int) + 1)):=cnt E;have D:=aj G V ((k:Int) + 1);have aa:∀ (A:Fz) (z:ZC),Fz.le G A → KpR A z.1 ((k:Int) + 1,zb4 p ((k:Int) + 1)) → RowOf A (fun k=>((k:Int) + 1,zb4 p ((k:Int) + 1))) (o ++ [z]):=fun A z w hz=>(u.mono w).snoc (by rw [W]; exact hz)
   have S:∀ z:ZC,(o ++ [z]).length = k + 1:=fun z=>by rw [qd,W]; rfl
   rcases o with _ | ⟨o0,s⟩
   ·refine bri O ?_;refine useFo D rfl ⟨rfl,hw,tv⟩ rfl ?_;rintro _ A l2 ⟨sa,rfl,J⟩;have K:=J;obtain ⟨f,a,e,d,af,ag,rfl,ab,ac,ad,ae⟩:=J;refine ⟨nb rfl,[[.int .i64 ((k:Int) + 1),.slice f 0 a e 2 (zb4 p ((k:Int) + 1)).length d]],rfl,rfl,rfl,by show 1 * 32 ≤ 140737488355328; omega,fun c' ai=>?_⟩;exact ⟨⟨(k + 1,[] ++ [mkZ ((k:Int) + 1) (.slice f 0 a e 2 (zb4 p ((k:Int) + 1)).length d) rfl],c',A),Fz.t V l2,Z,S _,aa A _ l2 ⟨_,rfl,K⟩⟩,Q,leR [(2,4)] hH hT rfl ⟨tv,I 3 (by omega),zd1 zb7 (by omega) _ _ _ _,tv⟩ ⟨by (conv=>whnf); exact ⟨rfl,rfl,rfl,.inr ⟨rfl,rfl,rfl,rfl⟩⟩,cnt E,tv⟩ ⟨Fz.r A,rfl,zln (μ:=sig [(2,4)]) zb7 (fun k=>rfl) (zcr _ (by rw [jj]; rfl)),tv⟩⟩
   ·have am:(s.length + 1 + 1) * 32 ≤ 140737488355328:=by
     have h9:s.length + 1 = k:=W;omega
    refine bri O ?_;refine useFo D rfl ⟨rfl,hw,tv⟩ rfl ?_;rintro _ A l2 ⟨sa,rfl,J⟩;have K:=J;obtain ⟨f,a,e,d,af,ag,rfl,ab,ac,ad,ae⟩:=J;refine ⟨nb rfl,[[.int .i64 ((k:Int) + 1),.slice f 0 a e 2 (zb4 p ((k:Int) + 1)).length d]],rfl,rfl,rfl,by simp,rfl,am,fun c' ai=>?_⟩;exact ⟨⟨(k + 1,(o0 :: s) ++ [mkZ ((k:Int) + 1) (.slice f 0 a e 2 (zb4 p ((k:Int) + 1)).length d) rfl],c',A),Fz.t V l2,Z,S _,aa A _ l2 ⟨_,rfl,K⟩⟩,Q,leR [(2,4)] hH hT rfl ⟨tv,I 3 (by omega),zd1 zb7 (by omega) _ _ _ _,tv⟩ ⟨ztl (μ:=sig [(2,4)]) (i:=2) (j:=4) rfl 2 c' _ (o0 :: s) (mkZ ((k:Int) + 1) (.slice f 0 a e 2 (zb4 p ((k:Int) + 1)).length d) rfl) rfl,cnt E,tv⟩ ⟨Fz.r A,rfl,zln (μ:=sig [(2,4)]) zb7 (fun k=>rfl) (zcr _ (by rw [jj]; rfl)),tv⟩⟩
  ·have O:¬ (k:Int) < 8:=by omega
   have ak:k = 8:=by omega
   have U:o.length = 8:=W.trans ak
   have Y:∀ (M:Fz) (b c:Nat),Fz.le G M → M b = some (.arr 52 2 (o.map encZ) c) → ClsAt M (.slice false 0 b 0 2 8 c) (zbh p):=fun M b c w hb=>by
    have h:=(u.mono w).sl (cap:=c) (l:=zbh p) hb (by rw [U,zc1]) fun i x hx=>by
     have hi:i < 8:=by have:=(qi.1 hx).1; rw [zc1] at this; exact this
     rw [zrl p i hi] at hx;exact (Option.some.inj hx).symm
    rw [zc1] at h;exact h
   rcases o with _ | ⟨o0,s⟩
   ·cases U
   ·have al:s.length + 1 = 8:=U;refine brj O ?_;refine zbn 2 (fun _=>.arr 52 2 ((o0 :: s).map encZ) co) rfl rfl rfl (fun _ _=>by exact zis (μ:=resP _) zb7 (fun k=>rfl) rfl _ _ _) (fun _ _=>zfc zb7 (by omega) _ _ _ _) ?_;intro b' M w ah;refine endFo (.ret (.tup [.va (.slice false 0 (b' 0) 0 2 8 co),.va (.int .i64 0)])) M rfl (Fz.t V w) (Fz.r M) (.inr ⟨rfl,_,_,rfl,Y M _ _ w (ah 0 ⟨rfl,rfl⟩)⟩) ?_ rfl;exact ⟨⟨rfl,al.symm,rfl,.inr ⟨rfl,rfl,rfl,rfl⟩⟩,rfl,tv⟩
structure Crt where
 src:List UInt8
 dst:List UInt8
 len:Int
 cl:List Kp
abbrev crtS (c:Crt) (sk:SA):List SA:=[.str c.src,.str c.dst,.int .i64 c.len,sk]
theorem zat {n:Nat} (c:Crt) {t:Nat} {sk:SA} (h:sk.below n):(Ent.one (.cells t (crtS c sk))).below n:=by
 intro a b;simp only [qj,qs,or_false] at b;rcases b with rfl | rfl | rfl | rfl
 ·trivial
 ·trivial
 ·trivial
 ·exact h
def clAt (x:Kp) (i:Int):Bool:=decide (x.1 = i) && (zbb x.1 x.2 && decide (normS x.2 = x.2))
def clOk:List Kp → Int → Bool
 |[],_=>true
 |x :: r,i=>clAt x i && clOk r (i + 1)
theorem zw5 (l:List Kp) (k:Nat) (i:Int) (h:k < l.length):clOk (l.drop k) i = (clAt (l[k]'h) i && clOk (l.drop (k + 1)) (i + 1)):=by
 rw [qx h]; rfl
def crtOk (c:Crt):Bool:=decide (c.src.length = 32) && (decide (c.dst.length = 32) && (decide (1 ≤ c.len) && (decide (c.len ≤ 64) && (decide (c.cl.length = 8) && clOk c.cl 1))))
theorem clA1 {x:Kp} {i j:Int} (a:j = i) (h:(!decide (x.1 = j)) = true):clAt x i = false:=by
 subst a;have:decide (x.1 = j) = false:=by simpa using h
 simp only [clAt,this,ji]
theorem clA2 {x:Kp} {i:Int} (h:(!decide ((normR x.1 x.2).2 = 0)) = true):clAt x i = false:=by
 have a:zbb x.1 x.2 = false:=by
  cases b:zbb x.1 x.2 with
  |false=>rfl
  |true=>rw [normR,if_pos b] at h; cases h
 simp only [clAt,a,ji,yd]
theorem clA3 {x:Kp} {i:Int} (b:(!decide ((normR x.1 x.2).2 = 0)) = false) (h:(!decide ((normR x.1 x.2).1 = x.2)) = true):clAt x i = false:=by
 have c:=zjz (p:=x.1) (l:=x.2) (by simpa using b);have a:decide ((normR x.1 x.2).1 = x.2) = false:=by simpa using h
 rw [c.2] at a;simp only [clAt,a,yd]
theorem clAT {x:Kp} {i j:Int} (e:j = i) (h1:(!decide (x.1 = j)) = false) (c:(!decide ((normR x.1 x.2).2 = 0)) = false) (h:(!decide ((normR x.1 x.2).1 = x.2)) = false):clAt x i = true:=by
 subst e;have a:=zjz (p:=x.1) (l:=x.2) (by simpa using c);have b:decide ((normR x.1 x.2).1 = x.2) = true:=by simpa using h
 have d:decide (x.1 = j) = true:=by simpa using h1
 rw [a.2] at b;simp only [clAt,d,a.1,b,Bool.and_self]
theorem cOk1 {c:Crt} (h:(!decide ((c.src.length:Int) = 32)) = true):crtOk c = false:=by
 have:decide (c.src.length = 32) = false:=by simp at h ⊢; omega
 simp only [crtOk,this,ji]
theorem cOk2 {c:Crt} (h:(!decide ((c.dst.length:Int) = 32)) = true):crtOk c = false:=by
 have:decide (c.dst.length = 32) = false:=by simp at h ⊢; omega
 simp only [crtOk,this,ji,yd]
theorem cOk3 {c:Crt} (h:decide (c.len < 1) = true):crtOk c = false:=by
 have:decide (1 ≤ c.len) = false:=by simp at h ⊢; omega
 simp only [crtOk,this,ji,yd]
theorem cOk4 {c:Crt} (h:decide (64 < c.len) = true):crtOk c = false:=by
 have:decide (c.len ≤ 64) = false:=by simp at h ⊢; omega
 simp only [crtOk,this,ji,yd]
theorem cOk5 {c:Crt} (h:(!decide ((c.cl.length:Int) = 8)) = true):crtOk c = false:=by
 have:decide (c.cl.length = 8) = false:=by simp at h ⊢; omega
 simp only [crtOk,this,ji,yd]
theorem cOkT {c:Crt} (h1:(!decide ((c.src.length:Int) = 32)) = false) (g:(!decide ((c.dst.length:Int) = 32)) = false) (h:decide (c.len < 1) = false) (i:decide (64 < c.len) = false) (j:(!decide ((c.cl.length:Int) = 8)) = false):crtOk c = clOk c.cl 1:=by
 have a:decide (c.src.length = 32) = true:=by simp at h1 ⊢; omega
 have b:decide (c.dst.length = 32) = true:=by simp at g ⊢; omega
 have d:decide (1 ≤ c.len) = true:=by simp at h ⊢; omega
 have e:decide (c.len ≤ 64) = true:=by simp at i ⊢; omega
 have f:decide (c.cl.length = 8) = true:=by simp at j ⊢; omega
 simp only [crtOk,a,b,d,e,f,qab]
theorem zet (F:Fz) (sk:SA) (c:Crt) (Z:ClsAt F sk c.cl) (hs:short c.cl) (hl:c.cl.length < 1000000) :
  Fo Tryz.prog F 25 [.agg (crtS c sk)] (fun o F'=>o = .ret (.va (.bool (crtOk c)))):=by
 have e1:=cOk1 (c:=c);have e2:=cOk2 (c:=c);have e3:=cOk3 (c:=c);have e4:=cOk4 (c:=c);have e5:=cOk5 (c:=c);have eT:=cOkT (c:=c);obtain ⟨v,hv⟩:∃ v,crtOk c = v:=⟨_,rfl⟩
 rw [hv] at e1 e2 e3 e4 e5 eT ⊢;clear hv;obtain ⟨src,Q,ab,d⟩:=c;replace Z:ClsAt F sk d:=Z;replace hs:short d:=hs;replace hl:d.length < 1000000:=hl
 have e:∀ (b:Bool) (F1:Fz) (h:Hp) (nx:Nat),v = b → lget h 0 = some (.frz F1) → Fz.le F F1 → Cln 1 (FoK F fun o F'=>o = .ret (.va (.bool v))) (.ret (.va (.bool b))) h nx:=by
  intro b F1 h nx D T s;exact endFo (.ret (.va (.bool b))) F1 T s (Fz.r F1) (by rw [D]) rfl rfl
 have finL:∀ (b:Bool) (F1:Fz) (h:Hp) (nx:Nat),v = b → lget h 0 = some (.frz F1) → Fz.le F F1 → Cln 1 (FoK F fun o F'=>o = .ret (.va (.bool v))) (.ret (.va (.lit b))) h nx:=by
  intro b F1 h nx D T s;exact endFo (.ret (.va (.bool b))) F1 T s (Fz.r F1) (by rw [D]) rfl rfl
 obtain ⟨kn,kb,ke,kc,kL,kr,rfl,k1,k2,k3,k4⟩:=Z;refine fo_of hΘ Tryz.func25 rfl (by decide) _ _ rfl rfl rfl ?_;refine ⟨fun n=>?_,fun n=>?_⟩
 rotate_left
 ·exact e false F _ _ (e1 n) rfl (Fz.r F)
 refine ⟨fun f=>?_,fun f=>?_⟩
 rotate_left
 ·exact e false F _ _ (e2 f) rfl (Fz.r F)
 refine ⟨fun p=>?_,fun p=>?_⟩
 rotate_left
 ·exact e false F _ _ (e3 p) rfl (Fz.r F)
 refine ⟨fun R=>?_,fun R=>?_⟩
 rotate_left
 ·exact e false F _ _ (e4 R) rfl (Fz.r F)
 refine br (fun S=>?_) (fun S=>?_)
 ·exact e false F _ _ (e5 S) rfl (Fz.r F)
 conv=>whnf
 have B:=eT n f p R S
 refine zam hΘ (X:={ x:Nat × Fz // Fz.le F x.2 ∧ x.1 ≤ d.length ∧ v = clOk (d.drop x.1) ((x.1:Int) + 1) }) (fun x=>[(36,.va (.int .i64 x.1.1))]) [2,3,4,5,6,37,38,39,40,41,42,43,44,45,46,47,48,49,50,51,52,53,54,55,56,57,58,59,60,61,62,63,64,65]
  (fun x=>[(0,.frz x.1.2),(1,.one (.cells 48 (crtS ⟨src,Q,ab,d⟩ (.slice kn 0 kb ke 2 d.length kc))))]) 2 (fun x=>d.length - x.1.1) ⟨(0,F),Fz.r F,by simp,B⟩
  (fun U B=>leI [] U B rfl ⟨tv,zat _ (.inr (by omega)),tv⟩ ⟨rfl,tv⟩ ⟨Fz.r F,rfl,tv⟩) ?_
 rintro ⟨⟨k,G⟩,j,J,m⟩ U B;replace j:Fz.le F G:=j;replace J:k ≤ d.length:=J;replace m:v = clOk (d.drop k) ((k:Int) + 1):=m;by_cases g:k < d.length
 ·have L:(k:Int) < (d.length:Int):=by omega
  have E:d.length - (k + 1) < d.length - k:=by omega
  have I:k < 4611686018427387904:=by omega
  have hw:IntKind.i64.wrap ((k:Int) + 1) = (k:Int) + 1:=zaj (by omega) (by omega);have hx:=hs (d[k]'g) (jp g);rw [zw5 d k _ g] at m;have u:clAt (d[k]'g) ((k:Int) + 1) = false → v = false:=fun h=>by rw [m,h,ji]
  have aa:clAt (d[k]'g) ((k:Int) + 1) = true → v = clOk (d.drop (k + 1)) (((k + 1:Nat):Int) + 1):=fun h=>by rw [m,h,qab]; rfl
  have A:=SlR.at k4 g;obtain ⟨y,hy,a,rfl,V⟩:=A;have q:=zmr G a (d[k]'g).2 (d[k]'g).1 (V.mono j) hx;have Y:=fun F1 (M:Fz.le G F1) sb D=>zhx F1 sb a (normR (d[k]'g).1 (d[k]'g).2).1 (d[k]'g).2 D ((V.mono j).mono M) (zmq _ _)
  have l:=SlR.lt k1 g;have q1:=clA1 (x:=d[k]'g) hw;have q2:=clA2 (x:=d[k]'g) (i:=(k:Int) + 1);have q3:=clA3 (x:=d[k]'g) (i:=(k:Int) + 1);have qT:=clAT (x:=d[k]'g) hw;obtain ⟨aw,ar,av,au,aq,ax,rfl,am,an,ao,ap⟩:=V;refine bri L ?_;refine ⟨l,⟨by simp,L⟩,_,j _ _ (k2 l),_,hy,?_⟩;refine useFo q rfl (zaa _) rfl ?_;rintro _ w M ⟨sc,rfl,K⟩;have W:=Y w M sc K;have O:=Fz.t j M;obtain ⟨ak,ah,aj,ai,ag,al,rfl,ac,ad,ae,af⟩:=K;refine ⟨fun n=>?_,fun n=>?_⟩
  rotate_left
  ·exact e false w _ _ (u (q1 n)) rfl O
  refine ⟨fun f=>?_,fun f=>?_⟩
  rotate_left
  ·exact e false w _ _ (u (q2 f)) rfl O
  refine usePu (W) rfl (zaa _) rfl ?_;refine br (fun p=>?_) (fun p=>?_)
  ·exact e false w _ _ (u (q3 f p)) rfl O
  ·exact ⟨⟨(k + 1,w),O,g,aa (qT n f p)⟩,E,leR [] U B rfl ⟨tv,zat _ (.inr (by omega)),tv⟩ ⟨cnt I,tv⟩ ⟨Fz.r w,rfl,tv⟩⟩
 ·have L:¬ (k:Int) < (d.length:Int):=by omega
  rw [yg (by omega)] at m;refine brj L ?_;conv=>whnf
  first | exact e true G _ _ m rfl j | exact finL true G _ _ m rfl j
theorem z3r (F:Fz) (g i:SA) (p q:Int) (a b:List Stp) (j:za1 F g a) (k:za1 F i b) (T:a.length < 1000000) :
  Fo Tryz.prog F 66 [.agg [.int .i64 p,g],.agg [.int .i64 q,i]] (fun o d=>o = .ret (.va (.bool (decide (((p,a):Kp) = (q,b))))) ∧ d = F):=by
 have f:=zhx F g i a b j k T
 have c:∀ (v:Bool) (h:Hp) (nx:Nat),decide (((p,a):Kp) = (q,b)) = v → lget h 0 = some (.frz F) → Cln 1 (FoK F fun o d=>o = .ret (.va (.bool (decide (((p,a):Kp) = (q,b))))) ∧ d = F) (.ret (.va (.bool v))) h nx:=by
  intro v h nx S l;exact endPu l (Fz.r F) (ob S) rfl
 obtain ⟨B,x,A,y,w,D,rfl,m,n,s,u⟩:=j;obtain ⟨Q,L,O,M,K,R,rfl,E,G,I,J⟩:=k;refine fo_of hΘ Tryz.func66 rfl (by decide) _ _ rfl rfl rfl ?_;refine ⟨fun e=>?_,fun e=>?_⟩
 ·refine usePu (f) rfl (zaa _) rfl ?_;exact c _ _ _ (by have h:=od e; subst h; simp) rfl
 ·exact c _ _ _ (by have h:=oe e; simp [h]) rfl
theorem z8v (F:Fz) (B D:SA) (a b:List Kp) (w:ClsAt F B a) (A:ClsAt F D b) (hs:short a) (la:a.length < 1000000) :
  Fo Tryz.prog F 65 [.va B,.va D,.va (.fn (.func 66) [])] (fun o j=>o = .ret (.va (.bool (decide (a = b)))) ∧ j = F):=by
 have f:∀ (v:Bool) (h:Hp) (nx:Nat),decide (a = b) = v → lget h 0 = some (.frz F) → Cln 1 (FoK F fun o j=>o = .ret (.va (.bool (decide (a = b)))) ∧ j = F) (.ret (.va (.bool v))) h nx:=by
  intro v h nx M I;exact endPu I (Fz.r F) (ob M) rfl
 have finL:∀ (v:Bool) (h:Hp) (nx:Nat),decide (a = b) = v → lget h 0 = some (.frz F) → Cln 1 (FoK F fun o j=>o = .ret (.va (.bool (decide (a = b)))) ∧ j = F) (.ret (.va (.lit v))) h nx:=by
  intro v h nx M I;exact endPu I (Fz.r F) (by rw [M]; exact rfl) rfl
 obtain ⟨an,ab,ae,ac,aL,ar,rfl,R,S,a3,T⟩:=w;obtain ⟨bn,bb,be,bc,bL,Y,rfl,U,V,b3,W⟩:=A;refine fo_of hΘ Tryz.func65 rfl (by decide) _ _ rfl rfl rfl ?_;refine br (fun g=>?_) (fun g=>?_)
 ·refine f _ _ _ ?_ rfl;have:¬ a = b:=by rintro rfl; simp at g
  simp [this]
 ·have Z:a.length = b.length:=neq_f g
  refine zam hΘ (X:={ k:Nat // k ≤ a.length ∧ a.take k = b.take k }) (fun x=>[(17,.va (.int .i64 x.1))]) [6,7,8,9,18,19,20,21,22,23,24,25,26,27,28,29,30,31] (fz fun _=>F) 1 (fun x=>a.length - x.1) ⟨0,by simp,rfl⟩
   (fun J K=>leI [] J K rfl ⟨tv,tv⟩ ⟨rfl,tv⟩ ⟨Fz.r F,tv⟩) ?_
  rintro ⟨k,a5,Q⟩ J K;by_cases g:k < a.length
  ·have d:k < b.length:=Z ▸ g;have u:(k:Int) < (a.length:Int):=by omega
   have G:(k:Int) < (b.length:Int):=by omega
   have m:a.length - (k + 1) < a.length - k:=by omega
   have n:k < 4611686018427387904:=by omega
   have hx:=hs (a[k]'g) (jp g);have c:=SlR.at T g;obtain ⟨y,hy,B,rfl,w⟩:=c;have c:=SlR.at W d;obtain ⟨z,hz,D,rfl,A⟩:=c;have i:=z3r F B D (a[k]'g).1 (b[k]'d).1 (a[k]'g).2 (b[k]'d).2 w A hx;have p:=SlR.lt R g;have q:=SlR.lt U d;have L:a[k]'g = b[k]'d → a.take (k + 1) = b.take (k + 1):=fun h=>by rw [qg g,qg d,Q,h]
   have l:¬ a[k]'g = b[k]'d → decide (a = b) = false:=fun h=>decide_eq_false fun e=>h (by subst e; rfl)
   obtain ⟨al,ai,ak,aj,ah,am,rfl,aa,ad,af,ag⟩:=w;obtain ⟨az,aw,ay,ax,av,a0,rfl,ao,ap,aq,au⟩:=A;refine bri u ?_;refine ⟨p,⟨by simp,u⟩,_,S p,_,hy,q,⟨by simp,G⟩,_,V q,_,hz,?_⟩;refine usePu (i) rfl (zaa _) rfl ?_;refine br (fun E=>?_) (fun E=>?_)
   ·conv=>whnf
    have s:(!decide (a[k]'g = b[k]'d)) = true:=E
    first | exact f false _ _ (l (by simpa using s)) rfl | exact finL false _ _ (l (by simpa using s)) rfl
   ·conv=>whnf
    have s:(!decide (a[k]'g = b[k]'d)) = false:=E;exact ⟨⟨k + 1,g,L (by simpa using s)⟩,m,leR [] J K rfl ⟨tv,tv⟩ ⟨cnt n,tv⟩ ⟨Fz.r F,tv⟩⟩
  ·have u:¬ (k:Int) < (a.length:Int):=by omega
   have O:decide (a = b) = true:=decide_eq_true (by rw [← qn (show a.length ≤ k by omega),Q,qn (by omega)]);refine brj u ?_;conv=>whnf
   first | exact f true _ _ O rfl | exact finL true _ _ O rfl
theorem beqD {s t:List UInt8} {x:Bool} (h:(s == t) = x):decide (s = t) = x:=by rw [← h,Bool.eq_iff_iff]; simp
def znh (a b:Crt):Bool:=decide (a.src = b.src) && (decide (a.dst = b.dst) && (decide (a.len = b.len) && decide (a.cl = b.cl)))
theorem ztb (F:Fz) (m n:SA) (a b:Crt) (u:ClsAt F m a.cl) (w:ClsAt F n b.cl) (A:short a.cl) (D:a.cl.length < 1000000) :
  Fo Tryz.prog F 27 [.agg (crtS a m),.agg (crtS b n)] (fun o e=>o = .ret (.va (.bool (znh a b))) ∧ e = F):=by
 have c:=z8v F m n a.cl b.cl u w A D;obtain ⟨i,d1,f,k⟩:=a;obtain ⟨j,d2,g,l⟩:=b;replace c:Fo Tryz.prog F 65 [.va m,.va n,.va (.fn (.func 66) [])] (fun o e=>o = .ret (.va (.bool (decide (k = l)))) ∧ e = F):=c;show Fo Tryz.prog F 27 [.agg (crtS ⟨i,d1,f,k⟩ m),.agg (crtS ⟨j,d2,g,l⟩ n)] (fun o e=>o = .ret (.va (.bool (decide (i = j) && (decide (d1 = d2) && (decide (f = g) && decide (k = l)))))) ∧ e = F)
 have d:∀ (v:Bool) (h:Hp) (nx:Nat),(decide (i = j) && (decide (d1 = d2) && (decide (f = g) && decide (k = l)))) = v → lget h 0 = some (.frz F) → Cln 1 (FoK F fun o e=>o = .ret (.va (.bool (decide (i = j) && (decide (d1 = d2) && (decide (f = g) && decide (k = l)))))) ∧ e = F) (.ret (.va (.bool v))) h nx:=by
  intro v h nx B y;exact endPu y (Fz.r F) (ob B) rfl
 obtain ⟨K,G,J,I,E,ar,rfl,-,-,-,-⟩:=u;obtain ⟨R,M,Q,O,L,x,rfl,-,-,-,-⟩:=w;refine fo_of hΘ Tryz.func27 rfl (by decide) _ _ rfl rfl rfl ?_;refine ⟨fun p=>?_,fun p=>?_⟩
 rotate_left
 ·exact d false _ _ (by rw [show decide (i = j) = false from beqD p]; rfl) rfl
 refine ⟨fun q=>?_,fun q=>?_⟩
 rotate_left
 ·exact d false _ _ (by rw [show decide (d1 = d2) = false from beqD q]; simp) rfl
 refine ⟨fun s=>?_,fun s=>?_⟩
 rotate_left
 ·exact d false _ _ (by rw [show decide (f = g) = false from s]; simp) rfl
 refine usePu (c) rfl (zaa _) rfl ?_;exact d _ _ _ (by rw [show decide (i = j) = true from beqD p,show decide (d1 = d2) = true from beqD q,show decide (f = g) = true from s]; rfl) rfl
end Go.Proofs.YtfnkamphhpldcaaGreatDoor
