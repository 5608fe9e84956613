import Derived.Test.YtfnkamphhpldcaaGreatDoorK30
import Derived.Test.YtfnkamphhpldcaaGreatDoorK13
import Derived.Test.YtfnkamphhpldcaaGreatDoorK21
import Derived.Test.YtfnkamphhpldcaaGreatDoorK32
set_option maxHeartbeats 64000000
namespace Go.Proofs.YtfnkamphhpldcaaGreatDoor
open Go Sx
set_option maxRecDepth 100000
def zdp (a b:Crt):Bool:=decide (a.dst = b.src) && (crtOk b && decide (a.len + b.len ≤ 64))
def zg8 (x y:Kp):Kp:=(x.1,(compR x.1 x.2 y.2).1)
def joinC (a b:Crt):Crt:=⟨a.src,b.dst,a.len + b.len,List.zipWith zg8 a.cl b.cl⟩
def badE:SA:=.ifc 213 (.int .i64 100)
theorem jO1 {a b:Crt} (h:(!(a.dst == b.src)) = true):zdp a b = false:=by
 have h1:(a.dst == b.src) = false:=by simpa using h
 simp only [zdp,beqD h1,ji]
theorem jO2 {a b:Crt} (h:(!crtOk b) = true):zdp a b = false:=by
 have h1:crtOk b = false:=by simpa using h
 simp only [zdp,h1,ji,yd]
theorem zkh {b:Crt} (h:crtOk b = true):1 ≤ b.len ∧ b.len ≤ 64:=by
 simp only [crtOk,qf,decide_eq_true_eq] at h;exact ⟨h.2.2.1,h.2.2.2.1⟩
theorem zs3 {α:Type} {μ:Mu} {i j c n t:Nat} {L:List α} {x:α} {a b:List UInt8} {w:Int} (d:μ i 0 = (j,0)) (e:n = L.length + 1):SB.cells t [.str a,.str b,.int .i64 w,.slice false j 0 0 2 n c] = SB.ren μ (.cells t [.str a,.str b,.int .i64 w,gA 2 i c (L ++ [x])]):=by
 subst e;cases L with
 |nil=>simp only [gA,qw,SB.ren,qv,yv,SA.ren,d,qt]
 |cons y r=>simp only [gA,yh,SB.ren,qv,yv,SA.ren,d,qd,qh,qt]
theorem z5c (F:Fz) (sa sb:SA) (a b:Crt) (ha:ClsAt F sa a.cl) (hb:ClsAt F sb b.cl) (aa:a.cl.length = 8) (ay:0 ≤ a.len ∧ a.len ≤ 1000000) (a8:short a.cl) (am:short b.cl) (bf:b.cl.length < 1000000) :
  Fo Tryz.prog F 70 [.agg (crtS a sa),.agg (crtS b sb)] (fun o K=>
   (zdp a b = false ∧ o = .ret (.tup [.agg [.str a.src,.str b.dst,.int .i64 (IntKind.i64.wrap (a.len + b.len)),.nilsl],.va badE])) ∨
   (zdp a b = true ∧ ∃ sc,o = .ret (.tup [.agg (crtS (joinC a b) sc),.va .nilif]) ∧ ClsAt K sc (joinC a b).cl)):=by
 have D:=zet F sb b hb am bf;have e1:=jO1 (a:=a) (b:=b);have e2:=jO2 (a:=a) (b:=b);have az:crtOk b = true → b.cl.length = 8:=fun h=>(zer h).1
 have ap:crtOk b = true → 1 ≤ b.len ∧ b.len ≤ 64:=zkh;have ai:zdp a b = (decide (a.dst = b.src) && (crtOk b && decide (a.len + b.len ≤ 64))):=rfl;obtain ⟨v,hv⟩:∃ v,crtOk b = v:=⟨_,rfl⟩
 rw [hv] at D e2 az ap ai;clear hv;obtain ⟨p,J,nA,d⟩:=a;obtain ⟨I,dB,j,e⟩:=b
 have ah:∀ (F1:Fz) (h:Hp) (nx:Nat),zdp ⟨p,J,nA,d⟩ ⟨I,dB,j,e⟩ = false → lget h 0 = some (.frz F1) → Fz.le F F1 → Cln 1 (FoK F (fun o K=>
   (zdp ⟨p,J,nA,d⟩ ⟨I,dB,j,e⟩ = false ∧ o = .ret (.tup [.agg [.str p,.str dB,.int .i64 (IntKind.i64.wrap (nA + j)),.nilsl],.va badE])) ∨
   (zdp ⟨p,J,nA,d⟩ ⟨I,dB,j,e⟩ = true ∧ ∃ sc,o = .ret (.tup [.agg (crtS (joinC ⟨p,J,nA,d⟩ ⟨I,dB,j,e⟩) sc),.va .nilif]) ∧ ClsAt K sc (joinC ⟨p,J,nA,d⟩ ⟨I,dB,j,e⟩).cl))) (.ret (.tup [.agg [.str p,.str dB,.int .i64 (IntKind.i64.wrap (nA + j)),.nilsl],.va badE])) h nx:=by
  intro F1 h nx hj h0 q;exact endFo (.ret (.tup [.agg [.str p,.str dB,.int .i64 (IntKind.i64.wrap (nA + j)),.nilsl],.va badE])) F1 h0 q (Fz.r F1) (.inl ⟨hj,rfl⟩) (zah _) rfl
 obtain ⟨an,ab,ae,ac,aL,ar,rfl,a1,a2,a3,a4⟩:=ha;obtain ⟨bn,bb,be,bc,bL,cc,rfl,b1,b2,b3,b4⟩:=hb
 have hf:∀ k (h:k < d.length) (h':k < e.length),(fun k=>zg8 (d[k]?.getD (0,[])) (e[k]?.getD (0,[]))) k = ((d[k]'h).1,(compR (d[k]'h).1 (d[k]'h).2 (e[k]'h').2).1):=fun k h h'=>by
  simp only [qe h,qe h',yi,zg8]
 obtain ⟨f,bd⟩:∃ f:Nat → Kp,f = fun k=>zg8 (d[k]?.getD (0,[])) (e[k]?.getD (0,[])):=⟨_,rfl⟩
 rw [← bd] at hf
 let O (c:Nat) (l:List ZC):Ent:=.one (.cells 48 [.str p,.str dB,.int .i64 (IntKind.i64.wrap (nA + j)),gA 2 5 c l])
 have ag:∀ (n c:Nat) (l:List ZC),5 < n → (O c l).below n:=fun n c l hn=>by
  intro a ha;simp only [qj,qs,or_false] at ha;rcases ha with rfl | rfl | rfl | rfl
  ·trivial
  ·trivial
  ·trivial
  ·exact zeh (by omega) _ _ _
 refine fo_of hΘ Tryz.func70 rfl (by decide) _ _ rfl rfl rfl ?_;refine ⟨fun g1=>?_,fun g1=>?_⟩
 rotate_left
 ·exact ah F _ _ (e1 g1) rfl (Fz.r F)
 refine useFo D rfl (zaa _) rfl ?_;rintro _ F1 l1 rfl;refine ⟨fun W=>?_,fun W=>?_⟩
 rotate_left
 ·exact ah F1 _ _ (e2 W) rfl l1
 replace W:v = true:=by simpa using W
 have hn:=ap W;have h8:=az W;replace hn:1 ≤ j ∧ j ≤ 64:=hn;replace h8:e.length = 8:=h8;replace aa:d.length = 8:=aa;replace ay:0 ≤ nA ∧ nA ≤ 1000000:=ay;have hw:IntKind.i64.wrap (nA + j) = nA + j:=zaj (by omega) (by omega)
 have aw:decide (J = I) = true:=by
  have h:(J == I) = true:=by simpa using g1
  exact beqD h
 by_cases g3:nA + j ≤ 64
 ·have hj:zdp ⟨p,J,nA,d⟩ ⟨I,dB,j,e⟩ = true:=by rw [ai,aw,W,decide_eq_true g3]; rfl
  refine br (fun g=>absurd (od g) (by show ¬ (64:Int) < IntKind.i64.wrap (nA + j); rw [hw]; omega)) (fun _=>?_)
  refine zam hΘ (X:={ y:Nat × List ZC × Nat × Fz // Fz.le F y.2.2.2 ∧ y.1 ≤ 8 ∧ y.2.1.length = y.1 ∧ RowOf y.2.2.2 f y.2.1 }) (fun y=>[(39,.va (.int .i64 y.1.1))]) [7,8,40,41,42,43,44,45,46,47,48,49,50,51,52,53,54,55,56,57,58,59,60,61,62,63,64,65]
   (fun y=>[(0,.frz y.1.2.2.2),(1,.one (.cells 48 (crtS ⟨p,J,nA,d⟩ (.slice an 0 ab ae 2 d.length ac)))),(2,.one (.cells 48 (crtS ⟨I,dB,j,e⟩ (.slice bn 0 bb be 2 e.length bc)))),
    (3,.one (.cells 48 [.str [],.str [],.int .i64 0,.nilsl])),(4,O y.1.2.2.1 y.1.2.1),(5,gE 52 2 encZ y.1.2.2.1 y.1.2.1)]) 6 (fun y=>8 - y.1.1) ⟨(0,[],0,F1),l1,by omega,rfl,RowOf.nil⟩
   (fun hH hT=>leI [(5,5)] hH hT rfl ⟨tv,zat _ (.inr (by omega)),zat _ (.inr (by omega)),zat ⟨[],[],0,[]⟩ (sk:=.nilsl) trivial,ag 6 0 [] (by omega),zdv zb7 (by omega) _ _ _ _,tv⟩ ⟨rfl,tv⟩ ⟨Fz.r F1,rfl,rfl,rfl,rfl,rfl,tv⟩) ?_
  rintro ⟨⟨k,o,co,G⟩,L,hk,ho,E⟩ hH hT;replace L:Fz.le F G:=L;replace hk:k ≤ 8:=hk;replace ho:o.length = k:=ho;replace E:RowOf G f o:=E;by_cases g:k < 8
  ·have gA:k < d.length:=by omega
   have gB:k < e.length:=by omega
   have gi:(k:Int) < (d.length:Int):=by omega
   have al:(k:Int) < (e.length:Int):=by omega
   have ax:k + 1 ≤ 8:=g;have Z:8 - (k + 1) < 8 - k:=by omega
   have Y:k < 4611686018427387904:=by omega
   have Q:=SlR.at a4 gA;obtain ⟨y,hy,sx,rfl,a6⟩:=Q;have Q:=SlR.at b4 gB;obtain ⟨z,hz,sy,rfl,av⟩:=Q;have R:=zsd G sx sy (d[k]'gA).2 (e[k]'gB).2 (d[k]'gA).1 (a6.mono L) (av.mono L) (a8 _ (jp gA)) (am _ (jp gB));have T:=SlR.lt a1 gA;have U:=SlR.lt b1 gB;have bh:=hf k gA gB;have a0:∀ (B:Fz) (z:ZC),Fz.le G B → KpR B z.1 ((d[k]'gA).1,(compR (d[k]'gA).1 (d[k]'gA).2 (e[k]'gB).2).1) → RowOf B f (o ++ [z]):=fun B z q hz=>(E.mono q).snoc (by rw [ho,bh]; exact hz)
   have V:∀ z:ZC,(o ++ [z]).length = k + 1:=fun z=>by rw [qd,ho]; rfl
   obtain ⟨cb,ca,b9,bl,bm,b0,rfl,b8,bo,b5,b6⟩:=a6;obtain ⟨b7,bx,bk,bt,bs,bu,rfl,bw,bz,bq,bp⟩:=av;rcases o with _ | ⟨o0,m⟩
   ·refine bri gi ?_;refine ⟨T,⟨by simp,gi⟩,_,L _ _ (a2 T),_,hy,?_⟩;refine drawP hΘ mixed (lk [0,2,4,5,6,7,8,9] (.alt 1 (.alt 3 (.alt 10 (lk [11,12,13,14] (.alt 15 .done .nil)) .nil) .nil) (.alt 3 (.alt 1 (.alt 10 (lk [11,12,13,14] (.alt 15 .done .nil)) .nil) .nil) .nil))) [2] (by kernel_rfl) ?_;refine ⟨rfl,U,⟨by simp,al⟩,rfl,_,L _ _ (b2 U),_,hz,?_,?_⟩
    all_goals
     refine ⟨Fz.r G,rfl,Fz.r G,rfl,?_⟩;refine useFo R rfl (zaa _) rfl ?_;rintro _ B l2 ⟨sc,rfl,S⟩;have M:=S;obtain ⟨w,u,s,A,a5,ao,rfl,aj,au,a7,ak⟩:=S;refine ⟨l2,rfl,Fz.r B,rfl,nb rfl,[[.int .i64 (d[k]'gA).1,.slice w 0 u s 2 (compR (d[k]'gA).1 (d[k]'gA).2 (e[k]'gB).2).1.length A]],rfl,rfl,rfl,by show 1 * 32 ≤ 140737488355328; omega,fun c' bi=>?_⟩;exact ⟨⟨(k + 1,[] ++ [mkZ (d[k]'gA).1 (.slice w 0 u s 2 (compR (d[k]'gA).1 (d[k]'gA).2 (e[k]'gB).2).1.length A) rfl],c',B),Fz.t L l2,ax,V _,a0 B _ l2 ⟨_,rfl,M⟩⟩,Z,leR [(5,8)] hH hT rfl ⟨tv,zat _ (.inr (by omega)),zat _ (.inr (by omega)),zat ⟨[],[],0,[]⟩ (sk:=.nilsl) trivial,ag 6 c' _ (by omega),zdv zb7 (by omega) _ _ _ _,tv⟩ ⟨cnt Y,tv⟩ ⟨Fz.r B,rfl,rfl,rfl,zs3 (μ:=sig [(5,8)]) rfl rfl,zk1 (μ:=sig [(5,8)]) zb7 (fun k=>rfl) (zcs _ (by rw [jj]; rfl)),tv⟩⟩
   ·have bj:(m.length + 1 + 1) * 32 ≤ 140737488355328:=by
     have h9:m.length + 1 = k:=ho;omega
    refine bri gi ?_;refine ⟨T,⟨by simp,gi⟩,_,L _ _ (a2 T),_,hy,?_⟩;refine drawP hΘ mixed (lk [0,2,4,5,6,7,8,9] (.alt 1 (.alt 3 (.alt 10 (lk [11,12,13,14] (.alt 15 .done .nil)) .nil) .nil) (.alt 3 (.alt 1 (.alt 10 (lk [11,12,13,14] (.alt 15 .done .nil)) .nil) .nil) .nil))) [2] (by kernel_rfl) ?_;refine ⟨rfl,U,⟨by simp,al⟩,rfl,_,L _ _ (b2 U),_,hz,?_,?_⟩
    all_goals
     refine ⟨Fz.r G,rfl,Fz.r G,rfl,?_⟩;refine useFo R rfl (zaa _) rfl ?_;rintro _ B l2 ⟨sc,rfl,S⟩;have M:=S;obtain ⟨w,u,s,A,a5,ao,rfl,aj,au,a7,ak⟩:=S;refine ⟨l2,rfl,Fz.r B,rfl,nb rfl,[[.int .i64 (d[k]'gA).1,.slice w 0 u s 2 (compR (d[k]'gA).1 (d[k]'gA).2 (e[k]'gB).2).1.length A]],rfl,rfl,rfl,by simp,rfl,bj,fun c' bi=>?_⟩;exact ⟨⟨(k + 1,(o0 :: m) ++ [mkZ (d[k]'gA).1 (.slice w 0 u s 2 (compR (d[k]'gA).1 (d[k]'gA).2 (e[k]'gB).2).1.length A) rfl],c',B),Fz.t L l2,ax,V _,a0 B _ l2 ⟨_,rfl,M⟩⟩,Z,leR [(5,8)] hH hT rfl ⟨tv,zat _ (.inr (by omega)),zat _ (.inr (by omega)),zat ⟨[],[],0,[]⟩ (sk:=.nilsl) trivial,ag 6 c' _ (by omega),zdv zb7 (by omega) _ _ _ _,tv⟩ ⟨cnt Y,tv⟩ ⟨Fz.r B,rfl,rfl,rfl,zs3 (μ:=sig [(5,8)]) rfl rfl,zk1 (μ:=sig [(5,8)]) zb7 (fun k=>rfl) (zcs _ (by rw [jj]; rfl)),tv⟩⟩
  ·have a9:k = 8:=by omega
   have af:o.length = 8:=ho.trans a9;have gi:¬ (k:Int) < (d.length:Int):=by omega
   have ad:(joinC ⟨p,J,nA,d⟩ ⟨I,dB,j,e⟩).cl.length = 8:=by
    show (List.zipWith zg8 d e).length = 8;rw [qbs,aa,h8]; rfl
   have aq:∀ (K:Fz) (b c n:Nat),Fz.le G K → K b = some (.arr 52 2 (o.map encZ) c) → n = 8 → ClsAt K (.slice false 0 b 0 2 n c) (joinC ⟨p,J,nA,d⟩ ⟨I,dB,j,e⟩).cl:=fun K b c n q hb hn=>by
    have h:=(E.mono q).sl (cap:=c) (l:=(joinC ⟨p,J,nA,d⟩ ⟨I,dB,j,e⟩).cl) hb (by rw [af,ad]) fun i x hx=>by
     have hi:i < 8:=by have:=(qi.1 hx).1; rw [ad] at this; exact this
     rw [hf i (by omega) (by omega)];replace hx:(List.zipWith zg8 d e)[i]? = some x:=hx;rw [List.getElem?_zipWith,qe (show i < d.length by omega),qe (show i < e.length by omega)] at hx;exact (Option.some.inj hx).symm
    rw [ad] at h;subst hn;exact h
   rcases o with _ | ⟨o0,m⟩
   ·cases af
   ·have bg:m.length + 1 = 8:=af;refine brj gi ?_;refine zbn 5 (fun _=>.arr 52 2 ((o0 :: m).map encZ) co) rfl rfl rfl (fun _ _=>by exact zhu (μ:=resP _) zb7 (fun k=>rfl) rfl _ _ _) (fun _ _=>zfc zb7 (by omega) _ _ _ _) ?_;intro b' K q ba;refine endFo (.ret (.tup [.agg [.str p,.str dB,.int .i64 (nA + j),.slice false 0 (b' 0) 0 2 (m.length + 1) co],.va .nilif])) K rfl (Fz.t L q) (Fz.r K) (.inr ⟨hj,_,rfl,aq K _ _ _ q (ba 0 ⟨rfl,rfl⟩) bg⟩) ?_ rfl;exact ⟨(by show SC.agg [.str p,.str dB,.int .i64 (nA + j),.slice false 0 (b' 0) 0 2 (m.length + 1) co] = SC.agg [.str p,.str dB,.int .i64 (IntKind.i64.wrap (nA + j)),.slice false 0 (b' 0) 0 2 (m.length + 1) co]; rw [hw]),rfl,tv⟩
 ·have hj:zdp ⟨p,J,nA,d⟩ ⟨I,dB,j,e⟩ = false:=by rw [ai,aw,W,decide_eq_false g3]; rfl
  refine br (fun _=>?_) (fun g=>absurd (show (64:Int) < IntKind.i64.wrap (nA + j) by rw [hw]; omega) (oe g));exact ah F1 _ _ hj rfl l1
def CrtR (F:Fz) (y:List SA) (c:Crt):Prop:=∃ sk,y = crtS c sk ∧ ClsAt F sk c.cl
theorem CrtR.mono {F b:Fz} {y:List SA} {x:Crt} (h:CrtR F y x) (a:Fz.le F b):CrtR b y x:=by
 obtain ⟨sk,h1,c⟩:=h; exact ⟨sk,h1,KpsAt.up c a⟩
abbrev z7x (F:Fz) (a:SA) (l:List Crt):Prop:=SlR F 48 4 (CrtR F) a l
def foldS:Crt → List Crt → Option Crt
 |a,[]=>some a
 |a,b :: r=>if zdp a b = true then foldS (joinC a b) r else none
structure Acc (a:Crt):Prop where
 n:a.cl.length = 8
 l:0 ≤ a.len ∧ a.len ≤ 64
 s:short a.cl
theorem Acc.join {a b:Crt} (h:Acc a) (c:zdp a b = true):Acc (joinC a b):=by
 simp only [zdp,qf,decide_eq_true_eq] at c;have f:=(zer c.2.1).1;have g:=zkh c.2.1;refine ⟨?_,?_,?_⟩
 ·show (List.zipWith zg8 a.cl b.cl).length = 8;rw [qbs,h.n,f]; rfl
 ·have:=h.l;show 0 ≤ a.len + b.len ∧ a.len + b.len ≤ 64;omega
 ·intro x e;obtain ⟨i,d,rfl⟩:=List.getElem_of_mem (show x ∈ List.zipWith zg8 a.cl b.cl from e);rw [List.getElem_zipWith];show (compR _ _ _).1.length < _;unfold compR;split
  ·show (normS _).length < _;have:=zpy ((a.cl[i]'(by rw [qbs] at d; omega)).2 ++ (b.cl[i]'(by rw [qbs] at d; omega)).2);omega
  ·simp
theorem Acc.ok {a:Crt} (h:crtOk a = true) (b:short a.cl):Acc a:=⟨(zer h).1,by have:=zkh h; omega,b⟩
theorem z5j (F:Fz) (sb j T E:Nat) (L:List (List SA)) (f:Crt) (r:List Crt) (hb:F sb = some (.arr 48 4 L E)) (hL:∀ (k:Nat) x,(f :: r)[k]? = some x → ∃ y,L[j + k]? = some y ∧ CrtR F y x) (ac:r.length + 1 ≤ T)
  (ha:Acc f) (hs:∀ c ∈ r,short c.cl) (hl:∀ c ∈ r,c.cl.length < 1000000) (hr:r.length < 1000000) :
  Fo Tryz.prog F 69 [.va (.slice false 0 sb j 4 (r.length + 1) T),.va (.fn (.func 70) [])] (fun o F'=>
   (foldS f r = none ∧ ∃ x y n,o = .ret (.tup [.agg [.str x,.str y,.int .i64 n,.nilsl],.va badE])) ∨
   (∃ c,foldS f r = some c ∧ ∃ sk,o = .ret (.tup [.agg (crtS c sk),.va .nilif]) ∧ ClsAt F' sk c.cl)):=by
 have h0:=hL 0 f rfl;obtain ⟨y0,aa,ad,rfl,B⟩:=h0;have I:=B;obtain ⟨kn,kb,ke,kc,kL,kr,rfl,k1,k2,k3,k4⟩:=B;refine fo_of hΘ Tryz.func69 rfl (by decide) _ _ rfl rfl rfl ?_;refine ⟨rfl,⟨by simp,by simp⟩,_,hb,_,aa,⟨by decide,by omega⟩,?_⟩
 refine zam hΘ (X:={ x:Nat × Crt × (Bool × Nat × Nat × Nat) × Fz // Fz.le F x.2.2.2 ∧ x.1 ≤ r.length ∧ foldS f r = foldS x.2.1 (r.drop x.1) ∧ Acc x.2.1 ∧ ClsAt x.2.2.2 (.slice x.2.2.1.1 0 x.2.2.1.2.1 x.2.2.1.2.2.1 2 x.2.1.cl.length x.2.2.1.2.2.2) x.2.1.cl }) (fun x=>[(7,.va .nilif),(16,.va (.int .i64 x.1.1))]) [9,17,18,19,20,21,22,23,24,25,26,27,28,29]
  (fun x=>[(0,.frz x.1.2.2.2),(1,.one (.cells 48 [.str [],.str [],.int .i64 0,.nilsl])),(2,.one (.cells 48 (crtS x.1.2.1 (.slice x.1.2.2.1.1 0 x.1.2.2.1.2.1 x.1.2.2.1.2.2.1 2 x.1.2.1.cl.length x.1.2.2.1.2.2.2))))]) 3 (fun x=>r.length - x.1.1) ⟨(0,f,(kn,kb,ke,kc),F),Fz.r F,by simp,rfl,ha,I⟩
  (fun hH Y=>leI [] hH Y rfl ⟨tv,zat ⟨[],[],0,[]⟩ (sk:=.nilsl) trivial,zat _ (.inr (by omega)),tv⟩ ⟨rfl,rfl,tv⟩ ⟨Fz.r F,rfl,rfl,tv⟩) ?_
 rintro ⟨⟨k,a,⟨nl,b,e,c⟩,G⟩,m,A,Q,d,h⟩ hH Y;replace m:Fz.le F G:=m;replace A:k ≤ r.length:=A;replace Q:foldS f r = foldS a (r.drop k):=Q;replace d:Acc a:=d;replace h:ClsAt G (.slice nl 0 b e 2 a.cl.length c) a.cl:=h;by_cases g:k < r.length
 ·have S:(k:Int) < ((r.length + 1 - 1:Nat):Int):=by omega
  have ab:(f :: r)[k + 1]? = some (r[k]'g):=by rw [qb4,qe g]
  have D:=hL (k + 1) (r[k]'g) ab;obtain ⟨y,hy,sk,rfl,J⟩:=D;have i:=jp g;have p:=z5c G _ sk a (r[k]'g) h (KpsAt.up J m) d.n (by have:=d.l; omega) d.s (hs _ i) (hl _ i);have M:r.length - (k + 1) < r.length - k:=by omega
  have K:k < 4611686018427387904:=by omega
  have q:foldS f r = if zdp a (r[k]'g) = true then foldS (joinC a (r[k]'g)) (r.drop (k + 1)) else none:=by
   rw [Q,qx g]; rfl
  have Z:L[(if T = Int.toNat 1 then j else j + Int.toNat 1) + ((k:Nat):Int).toNat]? = some (crtS (r[k]'g) sk):=by
   rw [if_neg (by show ¬ T = 1; omega),show j + Int.toNat 1 + ((k:Nat):Int).toNat = j + (k + 1) by show j + 1 + k = j + (k + 1); omega];exact hy
  obtain ⟨mn,mb,me,mc,mL,mr,rfl,m1,m2,m3,m4⟩:=J;refine bri S ?_;refine ⟨rfl,⟨by simp,S⟩,_,m _ _ hb,_,Z,?_⟩;refine useFo p rfl (zaa _) rfl ?_;rintro _ O l2 (⟨R,rfl⟩ | ⟨R,sj,rfl,u⟩)
  ·have hn:foldS f r = none:=by rw [q,if_neg (by rw [R]; simp)]
   exact endFo (.ret (.tup [.agg [.str a.src,.str (r[k]'g).dst,.int .i64 (IntKind.i64.wrap (a.len + (r[k]'g).len)),.nilsl],.va badE])) O rfl (Fz.t m l2) (Fz.r O) (.inl ⟨hn,_,_,_,rfl⟩) (zah _) rfl
  ·have W:foldS f r = foldS (joinC a (r[k]'g)) (r.drop (k + 1)):=by rw [q,if_pos R]
   have U:=d.join R;have w:=u;obtain ⟨jn,jb,je,jc,jL,jr,rfl,j1,j2,j3,j4⟩:=u;exact ⟨⟨(k + 1,joinC a (r[k]'g),(jn,jb,je,jc),O),Fz.t m l2,g,W,U,w⟩,M,leR [] hH Y rfl ⟨tv,zat ⟨[],[],0,[]⟩ (sk:=.nilsl) trivial,zat _ (.inr (by omega)),tv⟩ ⟨rfl,cnt K,tv⟩ ⟨Fz.r O,rfl,rfl,tv⟩⟩
 ·have S:¬ (k:Int) < ((r.length + 1 - 1:Nat):Int):=by omega
  have V:foldS f r = some a:=by rw [Q,yg (by omega)]; rfl
  refine brj S ?_;exact endFo (.ret (.tup [.agg (crtS a (.slice nl 0 b e 2 a.cl.length c)),.va .nilif])) G rfl m (Fz.r G) (.inr ⟨_,V,_,rfl,h⟩) (zah _) rfl
theorem zt7 {h:Hp} {nx:Nat} {K:Out → Hp → Nat → Prop} {x y:SA} {c d:Value} {b:Bool} (i:∀ ρ,x.den ρ = c) (j:∀ ρ,y.den ρ = d)
  (g:∀ w,Calls Tryz.prog 135 #[c,d] w fun e f=>e = .returned (.bool b) ∧ f = w) (k:K (.ret (.va (.bool b))) h nx):zba Tryz.prog 135 [.va x,.va y] h nx K:=by
 unfold zba;intro C ρ w vs S a n;refine ⟨Sx.enters_of Tryz.func135 rfl (by decide),?_⟩
 match vs,a with
 |[v,u],a=>
  have m:v = c:=by
   have h1:v = x.den ρ:=a.1;rw [h1,i]
  have l:u = d:=by
   have h1:u = y.den ρ:=a.2.1;rw [h1,j]
  subst m l;refine (g w).mono ?_;rintro e f ⟨rfl,rfl⟩;exact ⟨.ret (.va (.bool b)),h,nx,ρ,k,⟨_,rfl,rfl⟩,S,fun _ _=>rfl,qm _,tv⟩
theorem z2k (F:Fz):Fo Tryz.prog F 71 [.va .nilif] (fun o a=>o = .ret (.va (.int .i64 0)) ∧ a = F):=by
 refine fo_of hΘ Tryz.func71 rfl (by decide) _ _ rfl rfl rfl ?_;refine zt7 (fun _=>rfl) (fun _=>rfl) (yat _) ?_;refine brd (by decide) ?_;exact endPu rfl (Fz.r F) (zah _) rfl
theorem z6w (F:Fz):Fo Tryz.prog F 71 [.va badE] (fun o a=>o = .ret (.va (.int .i64 100)) ∧ a = F):=by
 refine fo_of hΘ Tryz.func71 rfl (by decide) _ _ rfl rfl rfl ?_;refine zt7 (fun _=>rfl) (fun _=>rfl) (is_F 100 10) ?_;refine brd (by decide) ?_;exact endPu rfl (Fz.r F) (zah _) rfl
theorem KpsAt.zrow {F:Fz} {t:Nat} {w:SA} {c:List Kp} (h:SlR F t 2 (KpR F) w c):∃ (nil:Bool) (b e cap:Nat) (L:List (List SA)) (d:Nat) (o:List ZC),w = .slice nil 0 b e 2 c.length cap ∧ (nil = true → c = []) ∧ (nil = false → F b = some (.arr t 2 L d)) ∧ e + c.length ≤ L.length ∧
  (L.drop e).take c.length = o.map encZ ∧ o.length = c.length ∧ ∀ (i:Nat) (z:ZC) (x:Kp),o[i]? = some z → c[i]? = some x → KpR F z.1 x:=by
 obtain ⟨nil,b,e,cap,L,d,h1,p,K,G,J⟩:=h;refine ⟨nil,b,e,cap,L,d,?_⟩
 have A:∀ (c:List Kp) (M:List (List SA)),(∀ (k:Nat) x,c[k]? = some x → ∃ y,M[k]? = some y ∧ KpR F y x) → ∃ o:List ZC,M.take c.length = o.map encZ ∧ o.length = c.length ∧ ∀ (i:Nat) (z:ZC) (x:Kp),o[i]? = some z → c[i]? = some x → KpR F z.1 x:=by
  intro c
  induction c with
  |nil=>intro M _; exact ⟨[],by simp,rfl,fun i z x h=>by simp at h⟩
  |cons k r ih=>
   intro M D;obtain ⟨y,s,q⟩:=D 0 k rfl;cases M with
   |nil=>simp at s
   |cons m M'=>
    have u:m = y:=by simpa using s
    subst u
    obtain ⟨o,f,j,g⟩:=ih M' (fun i x l=>by
     obtain ⟨y,h1,p⟩:=D (i + 1) x (by simpa using l);exact ⟨y,by simpa using h1,p⟩)
    have B:∀ a ∈ m,a.z = true:=by
     obtain ⟨w,rfl,I⟩:=q;intro a E;simp only [qj,qs,or_false] at E;rcases E with rfl | rfl
     ·rfl
     ·exact I.z
    refine ⟨⟨m,B⟩ :: o,?_,by simp [j],?_⟩
    ·rw [qh,List.take_succ_cons,f]; rfl
    ·intro i z x n l;cases i with
     |zero=>
      have h1:(⟨m,B⟩:ZC) = z:=by simpa using n
      have p:k = x:=by simpa using l
      subst h1 p;exact q
     |succ i=>exact g i z x (by simpa using n) (by simpa using l)
 obtain ⟨o,f,j,g⟩:=A c (L.drop e) (fun k x l=>by
  obtain ⟨y,s,q⟩:=J k x l;exact ⟨y,by rw [qag]; exact s,q⟩)
 exact ⟨o,h1,p,K,G,f,j,g⟩
theorem zxy (F:Fz) (b e c d:Nat) (L:List (List SA)) (o:List ZC) (q:F b = some (.arr 52 2 L d)) (i:e + o.length ≤ L.length) (j:(L.drop e).take o.length = o.map encZ) (f:o.length = 8) :
  Ct Tryz.prog 72 [.va (.slice false 0 b e 2 8 c)] F [] 1
   (fun out n m n0=>n = F ∧ n0 = 2 ∧ ∃ c',out = .ret (.va (.slice false 1 0 0 2 8 c')) ∧ m = [(1,.one (.arr 52 2 (o.map encZ) c'))]):=by
 rw [f] at i j;rcases o with _ | ⟨g,a⟩
 ·cases f
 have p:a.length + 1 = 8:=f;have h:(0 + ((g :: a).map encZ).length) * 32 ≤ 140737488355328:=by rw [qa,f]; decide
 refine ct_of hΘ Tryz.func72 rfl (by decide) _ _ rfl rfl rfl ?_;refine brd (by decide) ?_;refine ⟨52,L,d,q,i,(g :: a).map encZ,j,rfl,rfl,rfl,h,fun c' l=>?_⟩;clear l;exact clean [(1,2)] (.ret (.va (.slice false 1 0 0 2 8 c'))) F [(1,.one (.arr 52 2 ((g :: a).map encZ) c'))] 2 ⟨Fz.r F,rfl,rfl,c',rfl,rfl⟩ ⟨rfl,(by rw [qa,f]),rfl,.inr ⟨rfl,rfl,rfl,rfl⟩⟩ rfl rfl (Out.bB_ok (o:=.ret (.va (.slice false 1 0 0 2 8 c'))) rfl) ⟨zfc zb7 (by omega) 52 2 c' (g :: a),tv⟩ ⟨Fz.r F,(zhu (μ:=sig [(1,2)]) zb7 (fun k=>rfl) rfl _ _ _).symm,tv⟩
def zc9:List Crt → Option Crt
 |[]=>none
 |c :: r=>if crtOk c = true then foldS c r else none
theorem zo5:∀ {r:List Crt} {a c:Crt},Acc a → foldS a r = some c → Acc c
 |[],a,c,h,hf=>by cases hf; exact h
 |b :: r,a,c,h,hf=>by
  rw [foldS] at hf;split at hf
  ·rename_i d; exact zo5 (h.join d) hf
  ·cases hf
theorem ziu (F:Fz) (nl:Bool) (sb se sc:Nat) (l:List Crt) (hl:z7x F (.slice nl 0 sb se 4 l.length sc) l) (ah:l.length ≤ sc) (hs:∀ c ∈ l,short c.cl) (Y:∀ c ∈ l,c.cl.length < 1000000) (af:l.length < 1000000) :
  Fo Tryz.prog F 30 [.va (.slice nl 0 sb se 4 l.length sc)] (fun o m=>
   (zc9 l = none ∧ o = .ret (.tup [.agg [.str [],.str [],.int .i64 0,.nilsl],.va (.int .i64 100)])) ∨
   (∃ c,zc9 l = some c ∧ ∃ sk,o = .ret (.tup [.agg (crtS c sk),.va (.int .i64 0)]) ∧ ClsAt m sk c.cl)):=by
 have K:∀ (F1:Fz) (h:Hp) (nx:Nat),zc9 l = none → lget h 0 = some (.frz F1) → Fz.le F F1 → Cln 1 (FoK F (fun o m=>
   (zc9 l = none ∧ o = .ret (.tup [.agg [.str [],.str [],.int .i64 0,.nilsl],.va (.int .i64 100)])) ∨
   (∃ c,zc9 l = some c ∧ ∃ sk,o = .ret (.tup [.agg (crtS c sk),.va (.int .i64 0)]) ∧ ClsAt m sk c.cl))) (.ret (.tup [.agg [.str [],.str [],.int .i64 0,.nilsl],.va (.int .i64 100)])) h nx:=by
  intro F1 h nx hj h0 d;exact endFo (.ret (.tup [.agg [.str [],.str [],.int .i64 0,.nilsl],.va (.int .i64 100)])) F1 h0 d (Fz.r F1) (.inl ⟨hj,rfl⟩) (zah _) rfl
 obtain ⟨a4,b',e',bg,L,ae,ao,l1,l2,l3,l4⟩:=hl;cases ao
 rcases l with _ | ⟨j,r⟩
 ·refine fo_of hΘ Tryz.func30 rfl (by decide) _ _ rfl rfl rfl ?_;refine gaf (by decide) ?_;exact K F _ _ rfl rfl (Fz.r F)
 ·have ar:nl = false:=SlR.lt l1 (show 0 < (j :: r).length by simp);subst ar;have I:=l2 rfl;have hz:=l4 0 j rfl;obtain ⟨y0,ab,aw,rfl,aa⟩:=hz;have D:short j.cl:=hs j (by simp);have a:=zet F aw j aa D (Y j (by simp));have f:=fun (hv:crtOk j = true) (F1:Fz) (B:Fz.le F F1)=>z5j F1 sb se sc ae L j r (B _ _ I) (fun k x hx=>by obtain ⟨y,h1,J⟩:=l4 k x hx; exact ⟨y,h1,J.mono B⟩) ah (Acc.ok hv D) (fun c M=>hs c (by simp [M])) (fun c M=>Y c (by simp [M])) (by simp at af; omega)
  obtain ⟨kn,kb,ke,kc,kL,kr,rfl,-,-,-,-⟩:=aa
  have au:crtOk j = true ∨ crtOk j = false:=by
   cases crtOk j
   ·exact .inr rfl
   ·exact .inl rfl
  rcases au with hv | hv
  ·rw [hv] at a;have f:=f hv;have A:zc9 (j :: r) = foldS j r:=by rw [zc9,if_pos hv]
   refine fo_of hΘ Tryz.func30 rfl (by decide) _ _ rfl rfl rfl ?_;refine ⟨fun _=>?_,fun g=>absurd g (by simp; omega)⟩;refine ⟨rfl,⟨by simp,by simp⟩,_,I,_,ab,?_⟩;refine useFo a rfl (zaa _) rfl ?_;rintro _ F1 B rfl;refine brd (by decide) ?_;refine useFo (f F1 B) rfl (zaa _) rfl ?_;rintro _ F2 m2 (⟨hn,x,y,n,rfl⟩ | ⟨c,M,sk,rfl,hk⟩)
   ·refine usePu (z6w F2) rfl (zaa _) rfl ?_;exact K F2 _ _ (A.trans hn) rfl (Fz.t B m2)
   ·have T:=zo5 (Acc.ok hv D) M;have S:=T.n;have ay:=KpsAt.zrow hk;obtain ⟨n',b1,e1,c1,L1,r1,o,rfl,z1,z2,z3,z4,z5,z6⟩:=ay;have ap:n' = false:=SlR.lt z1 (show 0 < c.cl.length by omega);subst ap;have ac:o.length = 8:=z5.trans S;refine use (zxy F2 b1 e1 c1 r1 L1 o (z2 rfl) (by rw [z5]; exact z3) (by rw [z5]; exact z4) ac) [] rfl ⟨⟨rfl,S.symm,rfl,.inr ⟨rfl,rfl,rfl,rfl⟩⟩,tv⟩ rfl trivial (by simp [SV.below,SA.below]) trivial ?_;rintro a3 F3 h0 n0 d ⟨rfl,rfl,c',rfl,rfl⟩;conv=>whnf
    have E:∀ i (z:ZC) (x:Kp),o[i]? = some z → c.cl[i]? = some x → KpR F3 z.1 x:=fun i z x h1 J=>z6 i z x h1 J
    refine zam hΘ (X:={ x:Nat × List ZC × Fz // Fz.le F x.2.2 ∧ x.1 ≤ 8 ∧ x.2.1.length = 8 ∧ ∀ (i:Nat) (z:ZC) (y:Kp),x.2.1[i]? = some z → c.cl[i]? = some y → KpR x.2.2 z.1 y }) (fun x=>[(35,.va (.int .i64 x.1.1))]) [6,36,37,38,39,40,41,42,43,44,45,46,47,48,49,50]
     (fun x=>[(0,.frz x.1.2.2),(1,.one (.cells 48 [.str [],.str [],.int .i64 0,.nilsl])),(2,.one (.cells 48 (crtS c (.slice false 3 0 0 2 8 c')))),(3,.one (.arr 52 2 (x.1.2.1.map encZ) c'))]) 4 (fun x=>8 - x.1.1) ⟨(0,o,F3),Fz.t B m2,by omega,ac,E⟩
     (fun hH hT=>leI [] hH hT rfl ⟨tv,zat ⟨[],[],0,[]⟩ (sk:=.nilsl) trivial,zat _ (.inr (by omega)),zfc zb7 (by omega) 52 2 c' o,tv⟩ ⟨rfl,tv⟩ ⟨Fz.r F3,rfl,rfl,(zhu (μ:=tau [] 1 3) zb7 (fun k=>rfl) rfl _ _ _).trans (zhu (μ:=sig []) zb7 (fun k=>rfl) rfl _ _ _).symm,tv⟩) ?_
    rintro ⟨⟨k,p,G⟩,hG,V,q,e⟩ hH hT;replace hG:Fz.le F G:=hG;replace V:k ≤ 8:=V;replace q:p.length = 8:=q;replace e:∀ (i:Nat) (z:ZC) (y:Kp),p[i]? = some z → c.cl[i]? = some y → KpR G z.1 y:=e;by_cases g:k < 8
    ·have gi:(k:Int) < 8:=by omega
     have gk:k < p.length:=by omega
     have gc:k < c.cl.length:=by omega
     have al:8 - (k + 1) < 8 - k:=by omega
     have ak:k < 4611686018427387904:=by omega
     have av:=e k (p[k]'gk) (c.cl[k]'gc) (qe gk) (qe gc);obtain ⟨sx,ax,W⟩:=av
     have hy:(p.map encZ)[0 + (k:Int).toNat]? = some [.int .i64 (c.cl[k]'gc).1,sx]:=by
      rw [qp,q5,qy,qe gk];exact congrArg some ax
     have O:∀ (u:Fz) (z:ZC),Fz.le G u → KpR u z.1 (c.cl[k]'gc) → ∀ (i:Nat) (z':ZC) (y:Kp),(p.set k z)[i]? = some z' → c.cl[i]? = some y → KpR u z'.1 y:=by
      intro u z d hz i z' y h1 J;by_cases hi:k = i
      ·subst hi;rw [qb9 gk] at h1;rw [qe gc] at J;cases h1
       cases J
       exact hz
      ·rw [qbl hi] at h1;exact (e i z' y h1 J).mono d
     have ad:∀ (z:ZC) (w:List SA),z.1 = w → SB.arr 52 2 ((p.map encZ).set (0 + (k:Int).toNat) w) c' = (SB.arr 52 2 ((p.set k z).map encZ) c').ren (sig []):=fun z w hw=>by
      rw [zhu (μ:=sig []) zb7 (fun k=>rfl) rfl,qp,q5,qbp,← hw];rfl
     have an:=zo8 G sx (c.cl[k]'gc).2 W (T.s _ (jp gc));obtain ⟨bh,bb,a6,bd,bc,be,rfl,a5,a1,a2,bf⟩:=W;refine bri gi ?_;refine drawP hΘ mixed (lk [0,1,2,3,4,5,6,7] (.alt 8 (.alt 9 (.look 10 (.look 11 (.alt 12 .done .nil))) .nil) .nil)) [2] (by kernel_rfl) ?_;refine ⟨rfl,rfl,rfl,⟨by simp,gi⟩,_,hy,Fz.r G,rfl,?_⟩;refine useFo an rfl (zaa _) rfl ?_;rintro _ u u2 ⟨sn,rfl,ai⟩;have ag:=ai;obtain ⟨am,aj,U,Q,ba,az,rfl,a0,a8,a9,a7⟩:=ai;refine ⟨u2,rfl,rfl,⟨by simp,gi⟩,_,hy,Fz.r u,rfl,?_⟩;exact ⟨⟨(k + 1,p.set k (mkZ (c.cl[k]'gc).1 (.slice am 0 aj U 2 (c.cl[k]'gc).2.length Q) rfl),u),Fz.t hG u2,g,by show (p.set k _).length = 8; rw [qbc]; exact q,O u _ u2 ⟨_,rfl,ag⟩⟩,al,leR [] hH hT rfl ⟨tv,zat ⟨[],[],0,[]⟩ (sk:=.nilsl) trivial,zat _ (.inr (by omega)),zfc zb7 (by omega) 52 2 c' _,tv⟩ ⟨cnt ak,tv⟩ ⟨Fz.r u,rfl,rfl,ad _ _ rfl,tv⟩⟩
    ·have gi:¬ (k:Int) < 8:=by omega
     have Z:∀ (m:Fz) (b:Nat),Fz.le G m → m b = some (.arr 52 2 (p.map encZ) c') → ClsAt m (.slice false 0 b 0 2 8 c') c.cl:=fun m b d hb=>by
      have h:=SlR.new (F:=m) (t:=52) (sz:=2) (R:=KpR m) (cap:=c') (l:=c.cl) hb (by rw [qa,q,S]) fun i x hx=>by
       have hi:i < p.length:=by rw [q,← S]; exact (qi.1 hx).1
       exact ⟨encZ p[i],by rw [qy,qe hi]; rfl,(e i p[i] x (qe hi) hx).mono d⟩
      rw [S] at h;exact h
     refine brj gi ?_;refine zbn 3 (fun _=>.arr 52 2 (p.map encZ) c') rfl rfl rfl (fun _ _=>by exact zhu (μ:=resP _) zb7 (fun k=>rfl) rfl _ _ _) (fun _ _=>zfc zb7 (by omega) _ _ _ _) ?_;intro b' m d aq;exact endFo (.ret (.tup [.agg (crtS c (.slice false 0 (b' 0) 0 2 8 c')),.va (.int .i64 0)])) m rfl (Fz.t hG d) (Fz.r m) (.inr ⟨c,A.trans M,_,rfl,Z m _ d (aq 0 rfl)⟩) (zah _) rfl
  ·rw [hv] at a;have A:zc9 (j :: r) = none:=by rw [zc9,if_neg (by rw [hv]; simp)]
   refine fo_of hΘ Tryz.func30 rfl (by decide) _ _ rfl rfl rfl ?_;refine ⟨fun _=>?_,fun g=>absurd g (by simp; omega)⟩;refine ⟨rfl,⟨by simp,by simp⟩,_,I,_,ab,?_⟩;refine useFo a rfl (zaa _) rfl ?_;rintro _ F1 B rfl;refine bre (by decide) ?_;exact K F1 _ _ A rfl B
abbrev strE (s:List UInt8):Ent:=.one (.cells 9 [.str s])
theorem zc0 (n:Nat) (s:List UInt8):(strE s).below n:=fun a b=>by
 simp only [qu] at b;subst b; trivial
theorem zov {l:List Int} {k:Nat} (g:k < l.length):zae (l.take (k + 1)) = zae (l.take k) ++ (putIR (l[k]'g)).1:=zb1 g
theorem yal (F:Fz) (q:SA) (l:List Int) (out:List UInt8) (K:zek F q l) (O:l.length < 1000000) (Q:out.length ≤ 1000000000) :
  Ct Tryz.prog 77 [.va q,.va (.ptr ⟨1,0,0,0,0⟩)] F [(1,strE out)] 2 (fun o B A n0=>B = F ∧ n0 = 2 ∧ o = .ret (.tup []) ∧ A = [(1,strE (out ++ zae l))]):=by
 obtain ⟨I,u,G,J,E,L,rfl,b,h,y,m⟩:=K;refine ct_of hΘ Tryz.func77 rfl (by decide) _ _ rfl rfl rfl ?_
 refine zam hΘ (X:={ k:Nat // k ≤ l.length }) (fun x=>[(9,.va (.int .i64 x.1))]) [4,5,6,10,11,12,13,14,15,16,17,18,19,20,21]
  (fun x=>[(0,.frz F),(1,strE (out ++ zae (l.take x.1)))]) 2 (fun x=>l.length - x.1) ⟨0,by simp⟩
  (fun f i=>leI [] f i rfl ⟨tv,zc0 _ _,tv⟩ ⟨rfl,tv⟩ ⟨Fz.r F,by show SB.cells _ [.str out] = SB.cells _ [.str (out ++ [])]; rw [jm],tv⟩) ?_
 rintro ⟨k,M⟩ f i;by_cases g:k < l.length
 ·have p:(k:Int) < (l.length:Int):=by omega
  have d:l.length - (k + 1) < l.length - k:=by omega
  have c:k < 4611686018427387904:=by omega
  have j:=pfun F (l[k]'g)
  have s:(out ++ zae (l.take k)).length ≤ 1000000000000:=by
   have w:=zga zei (l.take k);rw [qq] at w;show (out ++ ((l.take k).map fun n=>(putIR n).1).flatten).length ≤ _;rw [qd]; omega
  have D:=zei (l[k]'g);have e:(out ++ zae (l.take k)).length + (putIR (l[k]'g)).1.length ≤ 9223372036854775807:=by omega
  have a:out ++ zae (l.take k) ++ (putIR (l[k]'g)).1 = out ++ zae (l.take (k + 1)):=by rw [zov g,ql]
  refine bri p ?_;refine ⟨Sl.lt b g,⟨by simp,by simpa using g⟩,_,h (Sl.lt b g),_,Sl.at m g,?_⟩;refine usePu (j) rfl (zaa _) rfl ?_;refine ⟨e,?_⟩;exact ⟨⟨k + 1,g⟩,d,leR [] f i rfl ⟨tv,zc0 _ _,tv⟩ ⟨cnt c,tv⟩ ⟨Fz.r F,by show SB.cells _ [.str _] = SB.cells _ [.str _]; rw [a],tv⟩⟩
 ·have p:¬ (k:Int) < (l.length:Int):=by omega
  have a:out ++ zae (l.take k) = out ++ zae l:=by rw [qn (by omega)]
  refine brj p ?_;exact clean [] (.ret (.tup [])) F [(1,strE (out ++ zae l))] 2 ⟨Fz.r F,rfl,rfl,rfl,rfl⟩ trivial rfl rfl (Out.bB_ok (o:=.ret (.tup [])) rfl) ⟨zc0 _ _,tv⟩ ⟨Fz.r F,by show SB.cells _ [.str _] = SB.cells _ [.str _]; rw [a],tv⟩
def stpN (s:Stp):List UInt8:=zae [s.1,s.2]
def zgm (x:Kp):List UInt8:=zae [(x.2.length:Int)] ++ (x.2.map stpN).flatten
def encC (c:Crt):List UInt8:=(putSR c.src).1 ++ (putSR c.dst).1 ++ zae [c.len] ++ (c.cl.map zgm).flatten
theorem ztv (s:Stp):(stpN s).length ≤ 18:=za0 _
theorem zvm (x:Kp) (h:x.2.length ≤ 64):(zgm x).length ≤ 1161:=by
 have h1:=za0 [(x.2.length:Int)];have a:=zga ztv x.2;rw [zgm,qd];simp only [qh,qt] at h1;omega
def encP (o:List UInt8) (a:List Stp) (j:Nat):List UInt8:=o ++ zae [(a.length:Int)] ++ ((a.take j).map stpN).flatten
theorem yde (o:List UInt8) (a:List Stp):encP o a 0 = o ++ zae [(a.length:Int)]:=by simp [encP]
theorem zy9 (o:List UInt8) (a:List Stp) (j:Nat) (g:j < a.length):encP o a (j + 1) = encP o a j ++ zae [(a[j]'g).1,(a[j]'g).2]:=by
 rw [encP,zb1 g,← ql]; rfl
theorem z09 (o:List UInt8) (x:Kp):encP o x.2 x.2.length = o ++ zgm x:=by
 rw [encP,yt,ql]; rfl
theorem z1v (o:List UInt8) (a:List Stp) (j:Nat) (h:a.length ≤ 64):(encP o a j).length ≤ o.length + 1161:=by
 have h1:=za0 [(a.length:Int)];have b:=zga ztv (a.take j);rw [qq] at b;simp only [qh,qt] at h1;simp only [encP,qd];omega
theorem zrq {c:Crt} (h:crtOk c = true):∀ x ∈ c.cl,x.2.length ≤ 64:=by
 simp only [crtOk,qf,decide_eq_true_eq] at h
 have a:∀ (l:List Kp) (i:Int),clOk l i = true → ∀ x ∈ l,x.2.length ≤ 64:=by
  intro l
  induction l with
  |nil=>intro i _ x hx; simp at hx
  |cons y r ih=>
   intro i h x hx;rw [clOk,qf] at h;rcases qj.1 hx with rfl | hx
   ·have:=h.1;simp only [clAt,qf] at this;exact zin this.2.1
   ·exact ih (i + 1) h.2 x hx
 exact a c.cl 1 h.2.2.2.2.2
theorem zw5 (F:Fz) (sk:SA) (c:Crt) (I:ClsAt F sk c.cl) (hs:short c.cl) (hl:c.cl.length < 1000000) :
  Fo Tryz.prog F 34 [.agg (crtS c sk)] (fun o F'=>(crtOk c = false ∧ o = .ret (.tup [.va (.str []),.va (.int .i64 100)])) ∨ (crtOk c = true ∧ o = .ret (.tup [.va (.str (encC c)),.va (.int .i64 0)]))):=by
 have d:=zet F sk c I hs hl
 have ai:crtOk c = true ∨ crtOk c = false:=by
  cases crtOk c
  ·exact .inr rfl
  ·exact .inl rfl
 rcases ai with hv | hv
 rotate_left
 ·rw [hv] at d ⊢;obtain ⟨kn,kb,ke,kc,kL,kr,rfl,k1,k2,k3,k4⟩:=I;refine fo_of hΘ Tryz.func34 rfl (by decide) _ _ rfl rfl rfl ?_;refine useFo d rfl (zaa _) rfl ?_;rintro _ F1 l1 rfl;refine bre (by decide) ?_;exact endFo (.ret (.tup [.va (.str []),.va (.int .i64 100)])) F1 rfl l1 (Fz.r F1) (.inl ⟨rfl,rfl⟩) (zah _) rfl
 have h8:=(zer hv).1;have q:=zrq hv;rw [hv] at d ⊢;obtain ⟨src,f,e,b⟩:=c;replace I:ClsAt F sk b:=I;replace h8:b.length = 8:=h8;replace q:∀ x ∈ b,x.2.length ≤ 64:=q
 have au:src.length = 32 ∧ f.length = 32:=by
  have h:=hv;simp only [crtOk,qf,decide_eq_true_eq] at h;exact ⟨h.1,h.2.1⟩
 obtain ⟨kn,kb,ke,kc,kL,kr,rfl,k1,k2,k3,k4⟩:=I;have pA:=fun F1=>zen pfun F1 src (by omega)
 have pB:=fun F1=>zen pfun F1 f (by omega)
 have lA:=zdf src;have lB:=zdf f;have i:=fun F1 sa n (h:zek F1 sa n) (hn:n.length < 1000000) out (ho:out.length ≤ 1000000000)=>yal F1 sa n out h hn ho
 show Fo Tryz.prog F 34 [.agg (crtS ⟨src,f,e,b⟩ (.slice kn 0 kb ke 2 b.length kc))] (fun o F'=>(true = false ∧ o = .ret (.tup [.va (.str []),.va (.int .i64 100)])) ∨ (true = true ∧ o = .ret (.tup [.va (.str ((putSR src).1 ++ (putSR f).1 ++ zae [e] ++ (b.map zgm).flatten)),.va (.int .i64 0)])));obtain ⟨A,hA⟩:∃ A,(putSR src).1 = A:=⟨_,rfl⟩
 obtain ⟨B,hB⟩:∃ B,(putSR f).1 = B:=⟨_,rfl⟩
 rw [hA] at pA lA ⊢;rw [hB] at pB lB ⊢;clear hA hB;obtain ⟨O,T⟩:∃ O:Nat → List UInt8,O = fun k=>A ++ B ++ zae [e] ++ ((b.take k).map zgm).flatten:=⟨_,rfl⟩
 have O0:A ++ B ++ zae [e] = O 0:=by rw [T]; simp
 have O8:A ++ B ++ zae [e] ++ (b.map zgm).flatten = O 8:=by rw [T]; simp only; rw [qn (by omega)]
 have Os:∀ k (g:k < b.length),O (k + 1) = O k ++ zgm (b[k]'g):=fun k g=>by
  rw [T]; simp only; rw [zb1 g,← ql]
 have Ol:∀ k,(O k).length ≤ 200000:=fun k=>by
  have h1:=za0 [e]
  have h2:∀ l:List Kp,(∀ x ∈ l,x.2.length ≤ 64) → ((l.map zgm).flatten).length ≤ 1161 * l.length:=by
   intro l
   induction l with
   |nil=>intro _; simp
   |cons y r ih=>
    intro h;have h3:=zvm y (h y (by simp));have h4:=ih fun x hx=>h x (by simp [hx])
    rw [qv,jx,qd,qh];omega
  have h5:=h2 (b.take k) fun x hx=>q x (yf hx)
  rw [qq] at h5;rw [T]; simp only [qd];simp only [qh,qt] at h1;omega
 rw [O8];clear T O8;refine fo_of hΘ Tryz.func34 rfl (by decide) _ _ rfl rfl rfl ?_;refine useFo d rfl (zaa _) rfl ?_;rintro _ F1 l1 rfl;refine brd (by decide) ?_;refine rounds hΘ 3 ?_;refine bre (by decide) ?_;refine ⟨⟨by decide,by decide⟩,_,rfl,?_⟩;refine usePu (pA F1) rfl (zaa _) rfl ?_;refine ⟨by show 0 + A.length ≤ 9223372036854775807; omega,?_⟩;refine bre (by decide) ?_;refine ⟨⟨by decide,by decide⟩,_,rfl,?_⟩;refine usePu (pB F1) rfl (zaa _) rfl ?_;refine ⟨by show ([] ++ A).length + B.length ≤ 9223372036854775807; rw [qw]; omega,?_⟩;refine brd (by decide) ?_;refine za7 3 (fun _=>.arr 3 1 ([e].map encI) 1) rfl rfl rfl (fun _ _=>rfl) (fun _ _=>SB.bB_ok rfl) ?_;intro b2 F2 l2 ad;refine use (i F2 _ [e] (Sl.new (l:=[e]) (cap:=1) (ad 0 rfl)) (by simp) ([] ++ A ++ B) (by rw [qw,qd]; omega)) [(1,2)] rfl ⟨⟨rfl,rfl,rfl,.inr ⟨rfl,rfl,rfl,rfl⟩⟩,rfl,tv⟩ rfl ⟨zc0 _ _,tv⟩ (by simp [SV.below,SA.below]) ⟨rfl,tv⟩ ?_;rintro u F3 h0 n0 J ⟨rfl,rfl,rfl,rfl⟩;have m3:=Fz.t l1 l2
 refine zam hΘ (X:={ x:Nat × Fz // Fz.le F x.2 ∧ x.1 ≤ 8 }) (fun x=>[(43,.va (.int .i64 x.1.1))]) [11,13,44,45,46,47,48,49,50,51,52,53,54,55,56,57,58,59,60,61,62,63,64,65,66,67,68]
  (fun x=>[(0,.frz x.1.2),(1,.one (.cells 48 (crtS ⟨src,f,e,b⟩ (.slice kn 0 kb ke 2 b.length kc)))),(2,strE (O x.1.1)),(3,.gone)]) 4 (fun x=>8 - x.1.1) ⟨(0,F3),m3,by omega⟩
  (fun W S=>leI [] W S rfl ⟨tv,zat _ (.inr (by omega)),zc0 _ _,tv,tv⟩ ⟨rfl,tv⟩ ⟨Fz.r F3,rfl,by show SB.cells _ [.str _] = SB.cells _ [.str _]; rw [← O0,qw],tv⟩) ?_
 rintro ⟨⟨k,G⟩,K,Q⟩ W S;replace K:Fz.le F G:=K;replace Q:k ≤ 8:=Q;by_cases g:k < 8
 ·have gk:k < b.length:=by omega
  have gi:(k:Int) < (b.length:Int):=by omega
  have ab:8 - (k + 1) < 8 - k:=by omega
  have aa:k < 4611686018427387904:=by omega
  have M:=q (b[k]'gk) (jp gk);have ay:=Ol k;have ac:=Os k gk;have V:=SlR.at k4 gk;obtain ⟨y,hy,a,rfl,ag⟩:=V;have w:=SlR.lt k1 gk;obtain ⟨ax,aq,ap,av,ar,aw,rfl,U,R,ao,Y⟩:=ag;refine bri gi ?_;refine ⟨w,⟨by simp,gi⟩,_,K _ _ (k2 w),_,hy,?_⟩;refine za7 5 (fun _=>.arr 3 1 ([(((b[k]'gk).2.length:Nat):Int)].map encI) 1) rfl rfl rfl (fun _ _=>rfl) (fun _ _=>SB.bB_ok rfl) ?_;intro b3 F4 l4 al;refine use (i F4 _ [(((b[k]'gk).2.length:Nat):Int)] (Sl.new (l:=[(((b[k]'gk).2.length:Nat):Int)]) (cap:=1) (al 0 rfl)) (by simp) (O k) (by omega)) [(1,2)] rfl ⟨⟨rfl,rfl,rfl,.inr ⟨rfl,rfl,rfl,rfl⟩⟩,rfl,tv⟩ rfl ⟨zc0 _ _,tv⟩ (by simp [SV.below,SA.below]) ⟨rfl,tv⟩ ?_;rintro u F5 h0 n0 J ⟨rfl,rfl,rfl,rfl⟩;have m4:=Fz.t K l4
  refine zam hΘ (X:={ x:Nat × Fz // Fz.le F x.2 ∧ x.1 ≤ (b[k]'gk).2.length }) (fun x=>[(56,.va (.int .i64 x.1.1))]) [13,57,58,59,60,61,62,63,64,65,66,67]
   (fun x=>[(0,.frz x.1.2),(2,strE (encP (O k) (b[k]'gk).2 x.1.1))]) 6 (fun x=>(b[k]'gk).2.length - x.1.1) ⟨(0,F5),m4,by omega⟩
   (fun W S=>leI [] W S rfl ⟨tv,zc0 _ _,tv⟩ ⟨rfl,tv⟩ ⟨Fz.r F5,by show SB.cells _ [.str _] = SB.cells _ [.str _]; rw [yde],tv⟩) ?_
  rintro ⟨⟨j,G2⟩,m,hj⟩ aj am;replace m:Fz.le F G2:=m;replace hj:j ≤ (b[k]'gk).2.length:=hj;have az:=z1v (O k) (b[k]'gk).2 j M;by_cases gj:j < (b[k]'gk).2.length
  ·have p:(j:Int) < (((b[k]'gk).2.length:Nat):Int):=by omega
   have E:(b[k]'gk).2.length - (j + 1) < (b[k]'gk).2.length - j:=by omega
   have L:j < 4611686018427387904:=by omega
   have ae:=zy9 (O k) (b[k]'gk).2 j gj;have Z:=Sl.lt U gj;have af:=Sl.at Y gj;refine bri p ?_;refine ⟨Z,⟨by simp,p⟩,_,m _ _ (R Z),_,af,?_⟩;refine za7 7 (fun _=>.arr 3 1 ([((b[k]'gk).2[j]'gj).1,((b[k]'gk).2[j]'gj).2].map encI) 2) rfl rfl rfl (fun _ _=>rfl) (fun _ _=>SB.bB_ok rfl) ?_;intro b5 F6 l6 ah;refine use (i F6 _ [((b[k]'gk).2[j]'gj).1,((b[k]'gk).2[j]'gj).2] (Sl.new (l:=[((b[k]'gk).2[j]'gj).1,((b[k]'gk).2[j]'gj).2]) (cap:=2) (ah 0 rfl)) (by simp) (encP (O k) (b[k]'gk).2 j) (by omega)) [(1,2)] rfl ⟨⟨rfl,rfl,rfl,.inr ⟨rfl,rfl,rfl,rfl⟩⟩,rfl,tv⟩ rfl ⟨zc0 _ _,tv⟩ (by simp [SV.below,SA.below]) ⟨rfl,tv⟩ ?_;rintro u F7 h0 n0 J ⟨rfl,rfl,rfl,rfl⟩;exact ⟨⟨(j + 1,F7),Fz.t m l6,gj⟩,E,leR [] aj am rfl ⟨tv,zc0 _ _,tv⟩ ⟨cnt L,tv⟩ ⟨Fz.r F7,congrArg (fun s=>SB.cells 9 [.str s]) ae.symm,tv⟩⟩
  ·have p:¬ (j:Int) < (((b[k]'gk).2.length:Nat):Int):=by omega
   have an:=z09 (O k) (b[k]'gk);have ak:j = (b[k]'gk).2.length:=by omega
   have D:encP (O k) (b[k]'gk).2 j = O (k + 1):=by rw [ak,an,← ac]
   refine brj p ?_;exact ⟨⟨(k + 1,G2),m,g⟩,ab,leRn [_,_,_] [_,_] [] W S rfl ⟨tv,zat _ (.inr (by omega)),zc0 _ _,tv,tv⟩ ⟨cnt aa,tv⟩ ⟨Fz.r G2,rfl,congrArg (fun s=>SB.cells 9 [.str s]) D,tv⟩⟩
 ·have gi:¬ (k:Int) < (b.length:Int):=by omega
  have I:k = 8:=by omega
  subst I;refine brj gi ?_;exact endFo (.ret (.tup [.va (.str (O 8)),.va (.int .i64 0)])) G rfl K (Fz.r G) (.inr ⟨rfl,rfl⟩) (zah _) rfl
theorem zdi (F:Fz) (b:Bool) (v:Value):Fo Tryz.prog F 144 [.va (.bool b),.va (.ifc 213 v)] (fun o a=>F = a ∧ ((b = true ∧ o = .ret (.tup [])) ∨ (b = false ∧ o = .panic (.iface 213 v)))):=by
 refine fo_of hΘ Tryz.func144 rfl (by decide) _ _ rfl rfl rfl ?_;refine br (fun g=>?_) (fun g=>?_)
 ·exact endFo (.panic (.iface 213 v)) F rfl (Fz.r F) (Fz.r F) ⟨rfl,.inr ⟨not_t g,rfl⟩⟩ rfl rfl
 ·exact endFo (.ret (.tup [])) F rfl (Fz.r F) (Fz.r F) ⟨rfl,.inl ⟨by simpa using g,rfl⟩⟩ (zah _) rfl
def crd (s:List UInt8) (p:Int):Ent:=.one (.cells 139 [.str s,.int .i64 p])
theorem zbq {n:Nat} (s:List UInt8) (p:Int):(crd s p).below n:=(SB.bB_ok rfl:SB.below n (.cells 139 [.str s,.int .i64 p]))
theorem zdl (F:Fz) (s:List UInt8) (p n x:Int) (d:s.length ≤ 1000000000000000000) (f:i64 p) (c:getI s p = (n,x,0)) :
  Ct Tryz.prog 143 [.va (.ptr ⟨1,0,0,0,0⟩)] F [(1,crd s p)] 2
   (fun o e g n0=>F = e ∧ n0 = 2 ∧ o = .ret (.va (.int .i64 n)) ∧ g = [(1,crd s x)]):=by
 have a:=zt4 F s p d f;rw [c] at a;refine ct_of hΘ Tryz.func143 rfl (by decide) _ _ rfl rfl rfl ?_;refine drawP hΘ mixed (lk [0,1,2,3,4,5,6,7] (.alt 8 (lk [9,10,11,12,13,14,15] .done) .nil)) [1] (by kernel_rfl) ?_;conv=>whnf
 repeat' ((conv=>whnf); first
  |refine ⟨rfl,?_⟩
  |refine ⟨Fz.r _,rfl,?_⟩
  |refine ⟨Fz.r _,rfl,rfl,?_⟩
  |refine ⟨⟨by simp,by simp⟩,?_⟩
  |fail)
 refine usePu (a) rfl (zaa _) rfl ?_;refine ⟨Fz.r F,rfl,?_⟩;refine useFo (zdi F (decide ((0:Int) = 0)) _) rfl ⟨rfl,rfl,tv⟩ rfl ?_;rintro _ _ h ⟨rfl,⟨b,rfl⟩ | ⟨b,rfl⟩⟩
 ·exact clean [] (.ret (.va (.int .i64 n))) F [(1,crd s x)] 2 ⟨Fz.r F,rfl,rfl,rfl,rfl⟩ (zah _) rfl rfl trivial ⟨zbq s _,tv⟩ ⟨Fz.r F,rfl,tv⟩
 ·exact absurd b (by decide)
theorem zyz (F:Fz) (s:List UInt8) (p x:Int) (t:List UInt8) (d:s.length ≤ 1000000000000000000) (f:i64 p) (c:getS s p = (t,x,0)) :
  Ct Tryz.prog 142 [.va (.ptr ⟨1,0,0,0,0⟩)] F [(1,crd s p)] 2
   (fun o e g n0=>F = e ∧ n0 = 2 ∧ o = .ret (.va (.str t)) ∧ g = [(1,crd s x)]):=by
 have a:=zlg F s p d f;rw [c] at a;refine ct_of hΘ Tryz.func142 rfl (by decide) _ _ rfl rfl rfl ?_;refine drawP hΘ mixed (lk [0,1,2,3,4,5,6,7] (.alt 8 (lk [9,10,11,12,13,14,15] .done) .nil)) [1] (by kernel_rfl) ?_;conv=>whnf
 repeat' ((conv=>whnf); first
  |refine ⟨rfl,?_⟩
  |refine ⟨Fz.r _,rfl,?_⟩
  |refine ⟨Fz.r _,rfl,rfl,?_⟩
  |refine ⟨⟨by simp,by simp⟩,?_⟩
  |fail)
 refine usePu (a) rfl (zaa _) rfl ?_;refine ⟨Fz.r F,rfl,?_⟩;refine useFo (zdi F (decide ((0:Int) = 0)) _) rfl ⟨rfl,rfl,tv⟩ rfl ?_;rintro _ _ h ⟨rfl,⟨b,rfl⟩ | ⟨b,rfl⟩⟩
 ·exact clean [] (.ret (.va (.str t))) F [(1,crd s x)] 2 ⟨Fz.r F,rfl,rfl,rfl,rfl⟩ (zah _) rfl rfl trivial ⟨zbq s _,tv⟩ ⟨Fz.r F,rfl,tv⟩
 ·exact absurd b (by decide)
end Go.Proofs.YtfnkamphhpldcaaGreatDoor
