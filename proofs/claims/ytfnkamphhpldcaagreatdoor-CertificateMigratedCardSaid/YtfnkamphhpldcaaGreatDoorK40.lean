import Derived.Test.YtfnkamphhpldcaaGreatDoorK36
import Derived.Test.YtfnkamphhpldcaaGreatDoorK37
import Derived.Test.YtfnkamphhpldcaaGreatDoorK39
import Derived.Test.YtfnkamphhpldcaaGreatDoorK22
import Derived.Test.YtfnkamphhpldcaaGreatDoorK16
set_option maxHeartbeats 64000000
namespace Go.Proofs.YtfnkamphhpldcaaGreatDoor
open Go Sx
set_option maxRecDepth 100000
theorem zkl (c n:Int) (a:i64 c) (b:0 < n):Pu Tryz.prog 47 [.va (.int .i64 c),.va (.int .i64 n)] (.va (.int .i64 (pickI c n))):=by
 intro F;unfold i64 at a;refine fo_of hΘ Tryz.func47 rfl (by decide) _ _ rfl rfl rfl ?_;refine br (fun g=>?_) (fun g=>?_)
 ·refine ⟨by omega,?_⟩;refine endPu rfl (Fz.r F) (oi ?_) rfl;simp at g;rw [zaj (n:=c + 1) (by omega) (by omega),zaj (n:=0 - (c + 1)) (by omega) (by omega),pickI,if_pos g]
  congr 1; omega
 ·refine ⟨by omega,?_⟩;refine endPu rfl (Fz.r F) (oi ?_) rfl;simp at g;rw [pickI,if_neg (by omega)]
def tbl9:List (List (List Stp)):=[[[],[(1,0)],[(2,0)],[(1,0),(2,0)],[(6,0)],[]],[[],[(4,3)],[(4,0)],[(6,0)],[],[(4,6)]],[[],[(3,10)],[(3,100)],[(6,0)],[],[]],[[],[],[],[(6,0)],[],[]],[[],[(5,0)],[(5,0),(5,0)],[(6,0)],[],[]]]
def prp9:List Int:=[1,2,3,4,7]
def stp9 (i:Nat) (j:Nat):List Stp:=(tbl9.getD i []).getD j []
def zp5 (F:Fz) (c:SA) (l:List Stp):Prop:=(l = [] ∧ c = .nilsl) ∨ (0 < l.length ∧ ∃ b,c = .slice false 0 b 0 2 l.length l.length ∧ F b = some (.arr 56 2 (l.map enc) l.length))
def RowAt (F:Fz) (c:SA) (r:List (List Stp)):Prop:=∃ b R,c = .slice false 0 b 0 1 6 6 ∧ F b = some (.arr 50 1 R 6) ∧ ∀ j,j < 6 → ∃ s,R[j]? = some [s] ∧ zp5 F s (r.getD j [])
def TblAt (F:Fz) (b:Nat):Prop:=∃ R,F b = some (.arr 99 1 R 5) ∧ ∀ i,i < 5 → ∃ s,R[i]? = some [s] ∧ RowAt F s (tbl9.getD i [])
theorem zp5.mono {F d:Fz} {c:SA} {l:List Stp} (h:zp5 F c l) (a:Fz.le F d):zp5 d c l:=by
 rcases h with h | ⟨h,b,h1,e⟩
 ·exact .inl h
 ·exact .inr ⟨h,b,h1,a _ _ e⟩
theorem TblAt.mono {F c:Fz} {b:Nat} (h:TblAt F b) (a:Fz.le F c):TblAt c b:=by
 obtain ⟨R,h1,f⟩:=h;refine ⟨R,a _ _ h1,fun i g=>?_⟩;obtain ⟨s,n,b,m,d,e,k⟩:=f i g;refine ⟨s,n,b,m,d,a _ _ e,fun j p=>?_⟩;obtain ⟨s,o,l⟩:=k j p;exact ⟨s,o,l.mono a⟩
theorem yd2 {F:Fz} {b O M K L f c l o d k J g n m p h:Nat} (e:F b = some (.arr 56 2 [[.int .i64 6,.int .i64 0]] 1)) (R:F O = some (.arr 56 2 [[.int .i64 1,.int .i64 0]] 1)) (S:F M = some (.arr 56 2 [[.int .i64 2,.int .i64 0]] 1)) (U:F K = some (.arr 56 2 [[.int .i64 1,.int .i64 0],[.int .i64 2,.int .i64 0]] 2)) (Q:F L = some (.arr 56 2 [[.int .i64 4,.int .i64 3]] 1)) (I:F f = some (.arr 56 2 [[.int .i64 4,.int .i64 0]] 1)) (A:F c = some (.arr 56 2 [[.int .i64 4,.int .i64 6]] 1)) (E:F l = some (.arr 56 2 [[.int .i64 3,.int .i64 10]] 1)) (w:F o = some (.arr 56 2 [[.int .i64 3,.int .i64 100]] 1)) (s:F d = some (.arr 56 2 [[.int .i64 5,.int .i64 0]] 1)) (G:F k = some (.arr 56 2 [[.int .i64 5,.int .i64 0],[.int .i64 5,.int .i64 0]] 2)) (T:F J = some (.arr 50 1 [[.nilsl],[.slice false 0 O 0 2 1 1],[.slice false 0 M 0 2 1 1],[.slice false 0 K 0 2 2 2],[.slice false 0 b 0 2 1 1],[.nilsl]] 6)) (u:F g = some (.arr 50 1 [[.nilsl],[.slice false 0 L 0 2 1 1],[.slice false 0 f 0 2 1 1],[.slice false 0 b 0 2 1 1],[.nilsl],[.slice false 0 c 0 2 1 1]] 6)) (D:F n = some (.arr 50 1 [[.nilsl],[.slice false 0 l 0 2 1 1],[.slice false 0 o 0 2 1 1],[.slice false 0 b 0 2 1 1],[.nilsl],[.nilsl]] 6)) (y:F m = some (.arr 50 1 [[.nilsl],[.nilsl],[.nilsl],[.slice false 0 b 0 2 1 1],[.nilsl],[.nilsl]] 6)) (B:F p = some (.arr 50 1 [[.nilsl],[.slice false 0 d 0 2 1 1],[.slice false 0 k 0 2 2 2],[.slice false 0 b 0 2 1 1],[.nilsl],[.nilsl]] 6)) (x:F h = some (.arr 99 1 [[.slice false 0 J 0 1 6 6],[.slice false 0 g 0 1 6 6],[.slice false 0 n 0 1 6 6],[.slice false 0 m 0 1 6 6],[.slice false 0 p 0 1 6 6]] 5)):TblAt F h:=by
 refine ⟨_,x,fun i V=>?_⟩;have a:i = 0 ∨ i = 1 ∨ i = 2 ∨ i = 3 ∨ i = 4:=by omega
 rcases a with rfl | rfl | rfl | rfl | rfl
 ·refine ⟨_,rfl,_,_,rfl,T,fun j q=>?_⟩;have a:j = 0 ∨ j = 1 ∨ j = 2 ∨ j = 3 ∨ j = 4 ∨ j = 5:=by omega
  rcases a with rfl | rfl | rfl | rfl | rfl | rfl
  ·exact ⟨_,rfl,.inl ⟨rfl,rfl⟩⟩
  ·exact ⟨_,rfl,.inr ⟨by decide,_,rfl,R⟩⟩
  ·exact ⟨_,rfl,.inr ⟨by decide,_,rfl,S⟩⟩
  ·exact ⟨_,rfl,.inr ⟨by decide,_,rfl,U⟩⟩
  ·exact ⟨_,rfl,.inr ⟨by decide,_,rfl,e⟩⟩
  ·exact ⟨_,rfl,.inl ⟨rfl,rfl⟩⟩
 ·refine ⟨_,rfl,_,_,rfl,u,fun j q=>?_⟩;have a:j = 0 ∨ j = 1 ∨ j = 2 ∨ j = 3 ∨ j = 4 ∨ j = 5:=by omega
  rcases a with rfl | rfl | rfl | rfl | rfl | rfl
  ·exact ⟨_,rfl,.inl ⟨rfl,rfl⟩⟩
  ·exact ⟨_,rfl,.inr ⟨by decide,_,rfl,Q⟩⟩
  ·exact ⟨_,rfl,.inr ⟨by decide,_,rfl,I⟩⟩
  ·exact ⟨_,rfl,.inr ⟨by decide,_,rfl,e⟩⟩
  ·exact ⟨_,rfl,.inl ⟨rfl,rfl⟩⟩
  ·exact ⟨_,rfl,.inr ⟨by decide,_,rfl,A⟩⟩
 ·refine ⟨_,rfl,_,_,rfl,D,fun j q=>?_⟩;have a:j = 0 ∨ j = 1 ∨ j = 2 ∨ j = 3 ∨ j = 4 ∨ j = 5:=by omega
  rcases a with rfl | rfl | rfl | rfl | rfl | rfl
  ·exact ⟨_,rfl,.inl ⟨rfl,rfl⟩⟩
  ·exact ⟨_,rfl,.inr ⟨by decide,_,rfl,E⟩⟩
  ·exact ⟨_,rfl,.inr ⟨by decide,_,rfl,w⟩⟩
  ·exact ⟨_,rfl,.inr ⟨by decide,_,rfl,e⟩⟩
  ·exact ⟨_,rfl,.inl ⟨rfl,rfl⟩⟩
  ·exact ⟨_,rfl,.inl ⟨rfl,rfl⟩⟩
 ·refine ⟨_,rfl,_,_,rfl,y,fun j q=>?_⟩;have a:j = 0 ∨ j = 1 ∨ j = 2 ∨ j = 3 ∨ j = 4 ∨ j = 5:=by omega
  rcases a with rfl | rfl | rfl | rfl | rfl | rfl
  ·exact ⟨_,rfl,.inl ⟨rfl,rfl⟩⟩
  ·exact ⟨_,rfl,.inl ⟨rfl,rfl⟩⟩
  ·exact ⟨_,rfl,.inl ⟨rfl,rfl⟩⟩
  ·exact ⟨_,rfl,.inr ⟨by decide,_,rfl,e⟩⟩
  ·exact ⟨_,rfl,.inl ⟨rfl,rfl⟩⟩
  ·exact ⟨_,rfl,.inl ⟨rfl,rfl⟩⟩
 ·refine ⟨_,rfl,_,_,rfl,B,fun j q=>?_⟩;have a:j = 0 ∨ j = 1 ∨ j = 2 ∨ j = 3 ∨ j = 4 ∨ j = 5:=by omega
  rcases a with rfl | rfl | rfl | rfl | rfl | rfl
  ·exact ⟨_,rfl,.inl ⟨rfl,rfl⟩⟩
  ·exact ⟨_,rfl,.inr ⟨by decide,_,rfl,s⟩⟩
  ·exact ⟨_,rfl,.inr ⟨by decide,_,rfl,G⟩⟩
  ·exact ⟨_,rfl,.inr ⟨by decide,_,rfl,e⟩⟩
  ·exact ⟨_,rfl,.inl ⟨rfl,rfl⟩⟩
  ·exact ⟨_,rfl,.inl ⟨rfl,rfl⟩⟩
abbrev box9 (d b e c a:Int):Ent:=.one (.cells 28 [.int .i64 d,.int .i64 b,.int .i64 e,.int .i64 c,.int .i64 a])
theorem zgz {n:Nat} {d b e c a:Int}:(box9 d b e c a).below n:=(SB.bB_ok rfl:SB.below n (.cells 28 [.int .i64 d,.int .i64 b,.int .i64 e,.int .i64 c,.int .i64 a]))
theorem zg6 {n c i:Nat} {z a b:Int} {o:List ZC} (h:i < n):(Ent.one (.cells 32 [.int .i64 z,.int .i64 a,.int .i64 b,.lit false,gA 2 i c o])).below n:=by
 intro t d;simp only [qj,qs,or_false] at d;rcases d with rfl | rfl | rfl | rfl | rfl
 ·trivial
 ·trivial
 ·trivial
 ·trivial
 ·exact zeh h _ _ _
def keep9 (a:List Int):Nat → List Kp
 |0=>[]
 |i + 1=>keep9 a i ++ (if stp9 i (pickI (a.getD i 0) 6).toNat = [] then [] else [(prp9.getD i 0,stp9 i (pickI (a.getD i 0) 6).toNat)])
def RowL (G:Fz) (l:List Kp) (o:List ZC):Prop:=o.length = l.length ∧ ∀ (i:Nat) (z:ZC) (x:Kp),o[i]? = some z → l[i]? = some x → KpR G z.1 x
theorem RowL.nil {G:Fz}:RowL G [] []:=⟨rfl,fun i z x h=>by simp at h⟩
theorem RowL.mono {G b:Fz} {l:List Kp} {o:List ZC} (h:RowL G l o) (a:Fz.le G b):RowL b l o:=⟨h.1,fun i z x h1 c=>(h.2 i z x h1 c).mono a⟩
theorem RowL.snoc {G:Fz} {l:List Kp} {o:List ZC} {x:Kp} {z:ZC} (h:RowL G l o) (c:KpR G z.1 x):RowL G (l ++ [x]) (o ++ [z]):=by
 refine ⟨by rw [qd,qd,h.1]; rfl,fun i y w h1 a=>?_⟩;rcases qb7 i o.length with hi | hi
 ·rw [jw hi] at h1;rw [jw (by rw [← h.1]; exact hi)] at a;exact h.2 i y w h1 a
 ·rw [jy hi] at h1;rw [jy (by rw [← h.1]; exact hi)] at a;rw [← h.1] at a;cases b:i - o.length with
  |zero=>
   rw [b] at h1 a;cases h1; cases a; exact c
  |succ j=>
   rw [b] at h1;simp at h1
theorem zsv {d b e c a:Int} (h:i64 d ∧ i64 b ∧ i64 e ∧ i64 c ∧ i64 a) (k:Nat):i64 ([d,b,e,c,a].getD k 0):=by
 obtain ⟨j,h1,g,f,i⟩:=h
 match k with
 |0=>exact j
 |1=>exact h1
 |2=>exact g
 |3=>exact f
 |4=>exact i
 |n + 5=>exact (⟨by decide,by decide⟩:i64 0)
theorem ydd (d b e c a:Int) {k:Nat} (h:k < 5):zd3 [SA.int .i64 d,.int .i64 b,.int .i64 e,.int .i64 c,.int .i64 a] (((k:Nat):Int).toNat * 1) 1 = some [.int .i64 ([d,b,e,c,a].getD k 0)]:=by
 have f:k = 0 ∨ k = 1 ∨ k = 2 ∨ k = 3 ∨ k = 4:=by omega
 rcases f with rfl | rfl | rfl | rfl | rfl<;>rfl
theorem z9z {k:Nat} (h:k < 5):[[SA.int .i64 1],[.int .i64 2],[.int .i64 3],[.int .i64 4],[.int .i64 7]][0 + ((k:Nat):Int).toNat]? = some [.int .i64 (prp9.getD k 0)]:=by
 have a:k = 0 ∨ k = 1 ∨ k = 2 ∨ k = 3 ∨ k = 4:=by omega
 rcases a with rfl | rfl | rfl | rfl | rfl<;>rfl
theorem zup:∀ i,i < 5 → ∀ j,j < 6 → (stp9 i j).length ≤ 2:=by decide
theorem yb1 {G:Fz} {b:Nat} {h e i f d:Int} (w:i64 h ∧ i64 e ∧ i64 i ∧ i64 f ∧ i64 d) (A:TblAt G b) {k:Nat} (g:k < 5):∃ (J:Int) (n:List Stp) (p:SA) (R:List (List SA)) (br:Nat) (m:List (List SA)),
  (∀ F,Fo Tryz.prog F 47 [.va (.int .i64 ([h,e,i,f,d].getD k 0)),.va (.int .i64 6)] (fun o y=>o = .ret (.va (.int .i64 J)) ∧ y = F)) ∧ 0 ≤ J ∧ J < 6 ∧ n.length ≤ 2 ∧
  keep9 [h,e,i,f,d] (k + 1) = keep9 [h,e,i,f,d] k ++ (if n = [] then [] else [(prp9.getD k 0,n)]) ∧ G b = some (.arr 99 1 R 5) ∧ R[0 + (k:Int).toNat]? = some [.slice false 0 br 0 1 6 6] ∧
  G br = some (.arr 50 1 m 6) ∧ m[0 + J.toNat]? = some [p] ∧ zp5 G p n:=by
 have j:=zsv w k;have l:=zco ([h,e,i,f,d].getD k 0) 6 (by decide) j;obtain ⟨R,x,c⟩:=A;obtain ⟨D,q,br,m,rfl,B,u⟩:=c k g;obtain ⟨p,s,a⟩:=u (pickI ([h,e,i,f,d].getD k 0) 6).toNat (by omega);exact ⟨_,stp9 k (pickI ([h,e,i,f,d].getD k 0) 6).toNat,p,R,br,m,fun F=>zkl _ 6 j (by decide) F,l.1,l.2,zup k g _ (by omega),rfl,x,by rw [qp,q5]; exact q,B,by rw [q5]; exact s,a⟩
theorem zze {μ:Mu} {z a b:Int} {c i:Nat} {o:List ZC} {A:SA} (d:A = (gA 2 i c o).ren μ):SB.cells 32 [.int .i64 z,.int .i64 a,.int .i64 b,.lit false,A] = SB.ren μ (.cells 32 [.int .i64 z,.int .i64 a,.int .i64 b,.lit false,gA 2 i c o]):=by subst d; rfl
theorem zzt (h:Hp) (l:List Stp) (c:Nat):SB.ren (resP h) (.arr 56 2 (l.map enc) c) = .arr 56 2 (l.map enc) c:=by
 show SB.arr 56 2 ((l.map enc).map (List.map (SA.ren (resP h)))) c = _;rw [zzr]
theorem zr5 (l:List Stp) (c:Nat):SB.below 1 (.arr 56 2 (l.map enc) c):=by
 intro r b t a;obtain ⟨x,_,rfl⟩:=qz.1 b;simp only [enc,qj,qs,or_false] at a;rcases a with rfl | rfl<;>trivial
theorem z0a {h:Hp} (b:∀ k,resP h 0 k = (0,k)) {i z:Nat} (a:resP h i 0 = (0,z)) (l:List ZC) (p:Int) (n c c':Nat):SB.ren (resP h) (.arr 96 2 (l.map encZ ++ [[.int .i64 p,.slice false i 0 0 2 n c]]) c') = .arr 96 2 (l.map encZ ++ [[.int .i64 p,.slice false 0 z 0 2 n c]]) c':=by
 show SB.arr 96 2 ((l.map encZ ++ ([[.int .i64 p,.slice false i 0 0 2 n c]]:List (List SA))).map (List.map (SA.ren (resP h)))) c' = _;rw [jj,z7u zb7 b];show SB.arr 96 2 (l.map encZ ++ [[.int .i64 p,.slice false (resP h i 0).1 (resP h i 0).2 0 2 n c]]) c' = _;rw [a]
theorem zpn {n:Nat} (b:0 < n) (l:List ZC) (x:ZC) (c:Nat):SB.below n (.arr 96 2 (l.map encZ ++ [encZ x]) c):=by
 have:=zdv (n:=n) (e:=encZ) zb7 b 96 2 c (l ++ [x]);have a:SB.below n (.arr 96 2 ((l ++ [x]).map encZ) c):=this;rw [jj] at a;exact a
theorem ycj {G:Fz} {z c:Nat} {p:Int} {l:List Stp} (h:G z = some (.arr 56 2 (l.map enc) c)):KpR G [.int .i64 p,.slice false 0 z 0 2 (0 + (l.map enc).length) c] (p,l):=by
 refine ⟨_,rfl,false,z,0,c,_,c,by rw [q5,qa],by simp,fun _=>h,by rw [qa]; exact qb5 (q5 _),?_⟩;rw [qaf,qn (by rw [qa]; exact qm _)]
theorem z92 {α:Type} {l:List α} {n:Nat} (h:l.length = n):List.take n (List.drop 0 l) = l:=by
 subst h; exact yt
theorem tk9 {t:TypeId} {l:List SA} {p:Pl} {K:List SA → Prop} {x:List SA} (h:zd3 l (p.e * p.sz + p.o) 1 = some x) (a:K x):rdB (.cells t l) p 1 K:=by
 simp only [rdB]; rw [h]; exact a
def made9 (a b c e g f d:Int):Mig:=⟨IntKind.i64.wrap (1 + pickI c 9),a,b,(keep9 [c,e,g,f,d] 5).isEmpty && decide (pickI (c.tdiv 6) 2 = 0),keep9 [c,e,g,f,d] 5⟩
theorem yaf {i a b:SA} {c:Bool} (ρ:Rho) (e:Ending) (h:(Out.ret (.agg [i,a,b,.bool c,.nilsl])).rel ρ e):(Out.ret (.agg [i,a,b,.lit c,.slice true 0 0 0 2 0 0])).rel ρ e:=h
theorem z9l {i a b:SA} {c:Bool} {n:Nat} (h:(Out.ret (.agg [i,a,b,.bool c,.nilsl])).below n):(Out.ret (.agg [i,a,b,.lit c,.slice true 0 0 0 2 0 0])).below n:=by
 intro t d;simp only [qj,qs,or_false] at d;rcases d with rfl | rfl | rfl | rfl | rfl
 ·exact h _ (by simp)
 ·exact h _ (by simp)
 ·exact h _ (by simp)
 ·trivial
 ·exact .inl rfl
theorem fin9n {G:Fz} {a b c e g f d:Int} (h:RowL G (keep9 [c,e,g,f,d] 5) []):∃ sk,Out.ret (SV.agg [.int .i64 (IntKind.i64.wrap (1 + pickI c 9)),.int .i64 a,.int .i64 b,.lit (decide (pickI (c.tdiv 6) 2 = 0)),.slice true 0 0 0 2 0 0]) = .ret (.agg (migS (made9 a b c e g f d) sk)) ∧ KpsAt G sk (made9 a b c e g f d).keep:=by
 have i:keep9 [c,e,g,f,d] 5 = []:=jv h.1.symm;refine ⟨.slice true 0 0 0 2 0 0,by unfold made9; rw [i]; rfl,?_⟩;show KpsAt G _ (keep9 [c,e,g,f,d] 5);rw [i];exact SlR.nil
theorem fin9c {G:Fz} {a b d j k g f:Int} {l:ZC} {c:List ZC} {n m:Nat} (h:RowL G (keep9 [d,j,k,g,f] 5) (l :: c)) (w:G n = some (.arr 96 2 ((l :: c).map encZ) m)):∃ sk,Out.ret (SV.agg [.int .i64 (IntKind.i64.wrap (1 + pickI d 9)),.int .i64 a,.int .i64 b,.lit false,.slice false 0 n 0 2 (c.length + 1) m]) = .ret (.agg (migS (made9 a b d j k g f) sk)) ∧ KpsAt G sk (made9 a b d j k g f).keep:=by
 have e:c.length + 1 = (keep9 [d,j,k,g,f] 5).length:=h.1;obtain ⟨K,q⟩:∃ K,keep9 [d,j,k,g,f] 5 = K:=⟨_,rfl⟩
 unfold made9;rw [q] at e h ⊢;rcases K with _ | ⟨s,u⟩
 ·cases e
 refine ⟨_,rfl,?_⟩;show KpsAt G _ (s :: u);refine ⟨false,n,0,m,_,m,by rw [e],fun h=>(nomatch h),fun _=>w,by rw [qa]; exact qb5 ((q5 _).trans e.symm),fun i x o=>?_⟩
 have p:i < (l :: c).length:=by
  have:=(qi.1 o).1;rw [← e] at this; exact this
 rw [q5];exact ⟨encZ (l :: c)[i],by rw [qy,qe p]; rfl,h.2 i _ x (qe p) o⟩
theorem z4u (F:Fz) (a b:Int) (f S V x3 Z:Int) (hx:i64 f ∧ i64 S ∧ i64 V ∧ i64 x3 ∧ i64 Z) :
  Fo Tryz.prog F 13 [.va (.int .i64 a),.va (.int .i64 b),.agg [.int .i64 f,.int .i64 S,.int .i64 V,.int .i64 x3,.int .i64 Z]] (fun o F'=>∃ sk,o = .ret (.agg (migS (made9 a b f S V x3 Z) sk)) ∧ KpsAt F' sk (made9 a b f S V x3 Z).keep):=by
 have bi:=fun F=>zkl f 9 hx.1 (by decide) F
 have bq:=fun F=>zkl (f.tdiv 6) 2 (zly hx.1) (by decide) F
 have bl:f.tdiv 6 = IntKind.i64.wrap (f.tdiv 6):=by
  have:=zly hx.1;unfold i64 at this;exact (zaj (by omega) (by omega)).symm
 refine fo_of hΘ Tryz.func13 rfl (by decide) _ _ rfl rfl rfl ?_;refine ⟨⟨by decide,by decide⟩,?_⟩;refine usePu (bi F) rfl ⟨rfl,rfl,tv⟩ rfl ?_;refine zce 4 (fun _=>.arr 56 2 [[.int .i64 6,.int .i64 0]] 1) rfl rfl rfl (fun _ _=>rfl) (fun _ _=>SB.bB_ok rfl) ?_;intro z4 G4 u4 a3;refine zce 5 (fun _=>.arr 56 2 [[.int .i64 1,.int .i64 0]] 1) rfl rfl rfl (fun _ _=>rfl) (fun _ _=>SB.bB_ok rfl) ?_;intro z5 G5 u5 a0;refine zce 6 (fun _=>.arr 56 2 [[.int .i64 2,.int .i64 0]] 1) rfl rfl rfl (fun _ _=>rfl) (fun _ _=>SB.bB_ok rfl) ?_;intro z6 G6 u6 a7;refine zce 7 (fun _=>.arr 56 2 [[.int .i64 1,.int .i64 0],[.int .i64 2,.int .i64 0]] 2) rfl rfl rfl (fun _ _=>rfl) (fun _ _=>SB.bB_ok rfl) ?_;intro z7 G7 u7 a2;refine zce 9 (fun _=>.arr 56 2 [[.int .i64 4,.int .i64 3]] 1) rfl rfl rfl (fun _ _=>rfl) (fun _ _=>SB.bB_ok rfl) ?_;intro z9 G9 u9 ai;refine zce 10 (fun _=>.arr 56 2 [[.int .i64 4,.int .i64 0]] 1) rfl rfl rfl (fun _ _=>rfl) (fun _ _=>SB.bB_ok rfl) ?_;intro ca ci bb Q;refine zce 11 (fun _=>.arr 56 2 [[.int .i64 4,.int .i64 6]] 1) rfl rfl rfl (fun _ _=>rfl) (fun _ _=>SB.bB_ok rfl) ?_;intro bz cq ba K;refine zce 13 (fun _=>.arr 56 2 [[.int .i64 3,.int .i64 10]] 1) rfl rfl rfl (fun _ _=>rfl) (fun _ _=>SB.bB_ok rfl) ?_;intro a9 cc bk W;refine zce 14 (fun _=>.arr 56 2 [[.int .i64 3,.int .i64 100]] 1) rfl rfl rfl (fun _ _=>rfl) (fun _ _=>SB.bB_ok rfl) ?_;intro b0 ce b8 Y;refine zce 17 (fun _=>.arr 56 2 [[.int .i64 5,.int .i64 0]] 1) rfl rfl rfl (fun _ _=>rfl) (fun _ _=>SB.bB_ok rfl) ?_;intro bu cf b3 O
 refine zce 18 (fun _=>.arr 56 2 [[.int .i64 5,.int .i64 0],[.int .i64 5,.int .i64 0]] 2) rfl rfl rfl (fun _ _=>rfl) (fun _ _=>SB.bB_ok rfl) ?_;intro b7 cp bg M;refine zce 8 (fun _=>.arr 50 1 [[.nilsl],[.slice false 0 (z5 0) 0 2 1 1],[.slice false 0 (z6 0) 0 2 1 1],[.slice false 0 (z7 0) 0 2 2 2],[.slice false 0 (z4 0) 0 2 1 1],[.nilsl]] 6) rfl rfl rfl (fun _ _=>rfl) (fun _ _=>SB.bB_ok rfl) ?_;intro z8 G8 u8 a4;refine zce 12 (fun _=>.arr 50 1 [[.nilsl],[.slice false 0 (z9 0) 0 2 1 1],[.slice false 0 (ca 0) 0 2 1 1],[.slice false 0 (z4 0) 0 2 1 1],[.nilsl],[.slice false 0 (bz 0) 0 2 1 1]] 6) rfl rfl rfl (fun _ _=>rfl) (fun _ _=>SB.bB_ok rfl) ?_;intro b4 cn bw aa;refine zce 15 (fun _=>.arr 50 1 [[.nilsl],[.slice false 0 (a9 0) 0 2 1 1],[.slice false 0 (b0 0) 0 2 1 1],[.slice false 0 (z4 0) 0 2 1 1],[.nilsl],[.nilsl]] 6) rfl rfl rfl (fun _ _=>rfl) (fun _ _=>SB.bB_ok rfl) ?_;intro bn cl bd I;refine zce 16 (fun _=>.arr 50 1 [[.nilsl],[.nilsl],[.nilsl],[.slice false 0 (z4 0) 0 2 1 1],[.nilsl],[.nilsl]] 6) rfl rfl rfl (fun _ _=>rfl) (fun _ _=>SB.bB_ok rfl) ?_;intro be cg bc T;refine zce 19 (fun _=>.arr 50 1 [[.nilsl],[.slice false 0 (bu 0) 0 2 1 1],[.slice false 0 (b7 0) 0 2 2 2],[.slice false 0 (z4 0) 0 2 1 1],[.nilsl],[.nilsl]] 6) rfl rfl rfl (fun _ _=>rfl) (fun _ _=>SB.bB_ok rfl) ?_;intro bm ck bo U;refine zce 20 (fun _=>.arr 99 1 [[.slice false 0 (z8 0) 0 1 6 6],[.slice false 0 (b4 0) 0 1 6 6],[.slice false 0 (bn 0) 0 1 6 6],[.slice false 0 (be 0) 0 1 6 6],[.slice false 0 (bm 0) 0 1 6 6]] 5) rfl rfl rfl (fun _ _=>rfl) (fun _ _=>SB.bB_ok rfl) ?_
 intro b5 u bt E;have b9:=Fz.r u;have ao:=Fz.t bt b9;have ap:=Fz.t bo ao;have ay:=Fz.t bc ap;have aq:=Fz.t bd ay;have l8:=Fz.t bw aq;have ak:=Fz.t u8 l8;have ah:=Fz.t bg ak;have a5:=Fz.t b3 ah;have al:=Fz.t b8 a5;have ae:=Fz.t bk al;have af:=Fz.t ba ae;have l9:=Fz.t bb af;have l7:=Fz.t u9 l9;have l6:=Fz.t u7 l7;have l5:=Fz.t u6 l6;have l4:=Fz.t u5 l5;have hT:=yd2 (l4 _ _ (a3 0 rfl)) (l5 _ _ (a0 0 rfl)) (l6 _ _ (a7 0 rfl)) (l7 _ _ (a2 0 rfl)) (l9 _ _ (ai 0 rfl)) (af _ _ (Q 0 rfl)) (ae _ _ (K 0 rfl)) (al _ _ (W 0 rfl)) (a5 _ _ (Y 0 rfl)) (ah _ _ (O 0 rfl)) (ak _ _ (M 0 rfl)) (l8 _ _ (a4 0 rfl)) (aq _ _ (aa 0 rfl)) (ay _ _ (I 0 rfl)) (ap _ _ (T 0 rfl)) (ao _ _ (U 0 rfl)) (E 0 rfl);refine resT 9 (.va (.slice false 0 (b5 0) 0 1 5 5)) rfl rfl (.inr (show (0:Nat) < 21 by decide)) ?_;have lF:=Fz.t u4 l4;clear a3 a0 a7 a2 ai Q K W Y O M a4 aa I T U E
 refine z6u hΘ (X:={ y:Nat × List ZC × Nat × Fz // y.1 ≤ 5 ∧ Fz.le u y.2.2.2 ∧ RowL y.2.2.2 (keep9 [f,S,V,x3,Z] y.1) y.2.1 ∧ y.2.1.length ≤ y.1 }) (fun y=>[(10,.va (.int .i64 y.1.1))]) [11,12,55,56,57,58,59,60,61,62,63,64,65,66,67,68,69,70,71,72,73,74,75,76,77,78,79,80,81,82,83,84,85]
  (fun y=>[(0,.frz y.1.2.2.2),(1,box9 f S V x3 Z),(3,.one (.cells 32 [.int .i64 (IntKind.i64.wrap (1 + pickI f 9)),.int .i64 a,.int .i64 b,.lit false,gA 2 21 y.1.2.2.1 y.1.2.1])),(21,gE 96 2 encZ y.1.2.2.1 y.1.2.1)]) 22 (fun y=>5 - y.1.1) ⟨(0,[],0,u),yj _,Fz.r _,RowL.nil,qm _⟩
  (fun hH hT=>leI [(21,21)] hH hT rfl ⟨tv,zgz,zg6 (by omega),zdv zb7 (by omega) _ _ _ _,tv⟩ ⟨rfl,tv⟩ ⟨Fz.r u,rfl,rfl,rfl,tv⟩) ?_
 rintro ⟨⟨k,o,co,G⟩,hk,L,d,q⟩ hH ad;replace hk:k ≤ 5:=hk;replace L:Fz.le u G:=L;replace d:RowL G (keep9 [f,S,V,x3,Z] k) o:=d;replace q:o.length ≤ k:=q;by_cases g:k < 5
 ·have B:(k:Int) < 5:=by omega
  have A:5 - (k + 1) < 5 - k:=by omega
  have x:k < 4611686018427387904:=by omega
  have av:=z9z g;have az:=ydd f S V x3 Z g;have bs:=yb1 hx (hT.mono L) g;obtain ⟨J,st,cj,R,cm,R',am,au,aw,cb,e,hR,ar,a6,an,c⟩:=bs;refine Or.elim c (fun c=>?_) (fun c=>?_)
  ·obtain ⟨rfl,rfl⟩:=c;rw [if_pos rfl,jm] at e;refine bri B ?_;refine ⟨rfl,⟨jt k,B⟩,_,av,?_⟩;refine drawP hΘ mixed (lk [0,1,2,3,4,5,6] (.alt 7 (lk [8,9,10] .done) .nil)) [1] (by kernel_rfl) ?_;refine ⟨rfl,⟨jt k,B⟩,rfl,_,hR,_,ar,⟨jt k,B⟩,rfl,?_⟩;refine tk9 (t:=28) (p:=⟨0,0,(k:Int).toNat,1,0⟩) az ?_;refine usePu (am G) rfl ⟨rfl,rfl,tv⟩ rfl ?_;refine ⟨Fz.r G,rfl,rfl,⟨au,aw⟩,rfl,_,a6,_,an,?_⟩;refine brd (by decide) ?_;exact zrk ⟨⟨(k + 1,o,co,G),g,L,by rw [e]; exact d,qa2 q⟩,A,leR [(21,21)] hH ad rfl ⟨tv,zgz,zg6 (by omega),zdv zb7 (by omega) _ _ _ _,tv⟩ ⟨cnt x,tv⟩ ⟨Fz.r G,rfl,zze (zgj (μ:=sig [(21,21)]) (i:=21) (j:=21) rfl o),zk1 (μ:=sig [(21,21)]) zb7 (fun k=>rfl) (zay _ _ _ _),tv⟩⟩
  ·obtain ⟨ax,ch,rfl,b1⟩:=c;have a8:¬ st = []:=qa5.1 ax;have bx:(0:Int) < (st.length:Int):=by omega
   rw [if_neg a8] at e;rcases st with _ | ⟨s0,s⟩
   ·exact absurd rfl a8
   have hX:=z92 (l:=(s0 :: s).map enc) (n:=(s0 :: s).length) (qa _);have b2:(0 + ((s0 :: s).map enc).length) * 16 ≤ 140737488355328:=by rw [qa]; omega
   have bp:0 + (s0 :: s).length ≤ ((s0 :: s).map enc).length:=by rw [qa]; omega
   have ab:∀ n,n ≤ k → (n + 1) * 32 ≤ 140737488355328:=fun n hn=>by omega
   rcases o with _ | ⟨o0,w⟩
   all_goals
    refine bri B ?_;refine ⟨rfl,⟨jt k,B⟩,_,av,?_⟩;refine drawP hΘ mixed (lk [0,1,2,3,4,5,6] (.alt 7 (lk [8,9,10] .done) .nil)) [1] (by kernel_rfl) ?_;refine ⟨rfl,⟨jt k,B⟩,rfl,_,hR,_,ar,⟨jt k,B⟩,rfl,?_⟩;refine tk9 (t:=28) (p:=⟨0,0,(k:Int).toNat,1,0⟩) az ?_;refine usePu (am G) rfl ⟨rfl,rfl,tv⟩ rfl ?_;refine ⟨Fz.r G,rfl,rfl,⟨au,aw⟩,rfl,_,a6,_,an,?_⟩;refine bri bx ?_;refine drawP hΘ mixed (lk [0,1,2,4] (.alt 3 (.alt 5 (.alt 6 (.alt 7 (.alt 8 (.look 9 (.last 10 .done)) .nil) .nil) .nil) .nil) .nil)) [3] (by kernel_rfl) ?_;refine ⟨rfl,Fz.r G,rfl,_,_,_,b1,bp,_,hX,rfl,rfl,rfl,b2,fun D cd=>?_⟩;refine ⟨Fz.r G,rfl,Fz.r G,rfl,Fz.r G,rfl,nb rfl,[[.int .i64 (prp9.getD k 0),.slice false 24 0 0 2 (0 + ((s0 :: s).map enc).length) D]],rfl,?_⟩;conv=>whnf
    first
     |refine ⟨rfl,rfl,by simp,rfl,ab _ q,fun c' b6=>?_⟩
     |(refine ⟨rfl,rfl,?_⟩; (conv=>whnf); refine ⟨ab 0 (yj _),fun c' b6=>?_⟩)
    refine ⟨Fz.r G,rfl,?_⟩;refine zq9 24 (fun _=>.arr 56 2 ((s0 :: s).map enc) D) rfl rfl rfl (fun _ _=>zzt _ _ _) (fun _ _=>zr5 _ _) ?_;intro m ag ac a1
    first
     |refine zuf 26 _ rfl (z0a (fun _=>rfl) (i:=24) (z:=m 0) rfl (o0 :: w) (prp9.getD k 0) (0 + ((s0 :: s).map enc).length) D c') (zpn (show 0 < 27 by decide) (o0 :: w) (mkZ _ (.slice false 0 (m 0) 0 2 _ D) rfl) _) ?_
     |refine zuf 26 _ rfl (z0a (fun _=>rfl) (i:=24) (z:=m 0) rfl [] (prp9.getD k 0) (0 + ((s0 :: s).map enc).length) D c') (zpn (show 0 < 27 by decide) [] (mkZ _ (.slice false 0 (m 0) 0 2 _ D) rfl) _) ?_
    have bj:=ycj (p:=prp9.getD k 0) (a1 0 rfl);have h:=(d.mono ac).snoc (z:=mkZ (prp9.getD k 0) (.slice false 0 (m 0) 0 2 (0 + ((s0 :: s).map enc).length) D) rfl) bj;rw [← e] at h
    first
     |exact zrk ⟨⟨(k + 1,(o0 :: w) ++ [mkZ (prp9.getD k 0) (.slice false 0 (m 0) 0 2 (0 + ((s0 :: s).map enc).length) D) rfl],c',ag),g,Fz.t L ac,h,by rw [qd]; exact qch q 1⟩,A,leR [(21,26)] hH ad rfl ⟨tv,zgz,zg6 (by omega),zdv zb7 (by omega) _ _ _ _,tv⟩ ⟨cnt x,tv⟩ ⟨Fz.r _,rfl,zze (znp (μ:=sig [(21,26)]) rfl rfl),zk1 (μ:=sig [(21,26)]) zb7 (fun k=>rfl) (zcs _ (by rw [jj]; rfl)),tv⟩⟩
     |exact zrk ⟨⟨(k + 1,[] ++ [mkZ (prp9.getD k 0) (.slice false 0 (m 0) 0 2 (0 + ((s0 :: s).map enc).length) D) rfl],c',ag),g,Fz.t L ac,h,by rw [qd]; exact qch q 1⟩,A,leR [(21,26)] hH ad rfl ⟨tv,zgz,zg6 (by omega),zdv zb7 (by omega) _ _ _ _,tv⟩ ⟨cnt x,tv⟩ ⟨Fz.r _,rfl,zze (znp (μ:=sig [(21,26)]) rfl rfl),zk1 (μ:=sig [(21,26)]) zb7 (fun k=>rfl) (zcs _ (by rw [jj]; rfl)),tv⟩⟩
 ·have B:¬ (k:Int) < 5:=by omega
  have bh:k = 5:=by omega
  subst bh;rcases o with _ | ⟨o0,w⟩
  ·refine brj B ?_;refine gae (by simp) ?_;refine ⟨⟨by decide,by decide⟩,by decide,?_⟩;refine usePu (bq G) rfl ⟨oi bl,rfl,tv⟩ rfl ?_;refine relE (.ret (.agg [.int .i64 (IntKind.i64.wrap (1 + pickI f 9)),.int .i64 a,.int .i64 b,.lit (decide (pickI (f.tdiv 6) 2 = 0)),.slice true 0 0 0 2 0 0])) yaf z9l ?_;exact endFo _ G rfl (Fz.t lF L) (Fz.r G) (fin9n d) (zah _) rfl
  ·refine brj B ?_;refine ⟨fun g=>absurd g (by simp; try omega),fun _=>?_⟩;refine zbn 21 (fun _=>.arr 96 2 ((o0 :: w).map encZ) co) rfl rfl rfl (fun _ _=>by exact zhu (μ:=resP _) zb7 (fun k=>rfl) rfl _ _ _) (fun _ _=>zfc zb7 (by omega) _ _ _ _) ?_;intro b' F' aj bf;exact endFo _ F' rfl (Fz.t (Fz.t lF L) aj) (Fz.r F') (fin9c (d.mono aj) (bf 0 ⟨rfl,rfl⟩)) (zah _) rfl
theorem zyb (F:Fz) (B A:SA) (a b:List Stp) (Y:za1 F B a) (W:za1 F A b) (la:a.length < 1000000) :
  Fo Tryz.prog F 97 [.va B,.va A] (fun o j=>o = .ret (.va (.bool (decide (a = b)))) ∧ j = F):=by
 obtain ⟨U,E,R,V,O,M,rfl,i,u,G,y⟩:=Y;obtain ⟨J,Q,L,T,D,I,rfl,l,q,K,s⟩:=W
 have d:∀ (v:Bool) (h:Hp) (nx:Nat),v = decide (a = b) → lget h 0 = some (.frz F) →
   Cln 1 (FoK F fun o j=>o = .ret (.va (.bool (decide (a = b)))) ∧ j = F) (.ret (.va (.bool v))) h nx:=by
  intro v h nx p n;exact endPu n (Fz.r F) (by rw [p]; rfl) rfl
 have finL:∀ (v:Bool) (h:Hp) (nx:Nat),v = decide (a = b) → lget h 0 = some (.frz F) →
   Cln 1 (FoK F fun o j=>o = .ret (.va (.bool (decide (a = b)))) ∧ j = F) (.ret (.va (.lit v))) h nx:=by
  intro v h nx p n;exact endPu n (Fz.r F) (by rw [← p]; exact rfl) rfl
 refine fo_of hΘ Tryz.func97 rfl (by decide) _ _ rfl rfl rfl ?_;refine br (fun g=>?_) (fun g=>?_)
 ·conv=>whnf
  have:¬ a = b:=by rintro rfl; simp at g
  have c:false = decide (a = b):=by simp [this]
  first | exact d _ _ _ c rfl | exact finL _ _ _ c rfl
 ·have gl:a.length = b.length:=neq_f g
  refine zam hΘ (X:={ k:Nat // k ≤ a.length ∧ a.take k = b.take k }) (fun k=>[(5,.va (.int .i64 k.1))]) [4,11,12,13,14,15,16,17,18,19,20,21,22,23,24,25] (fz fun _=>F) 1 (fun k=>a.length - k.1) ⟨0,by simp⟩
   (fun m w=>le0 m w rfl (Fz.r F) rfl ⟨rfl,tv⟩) ?_
  rintro ⟨k,Z,x⟩ m w;refine br (fun g=>?_) (fun g=>?_)
  ·have g:k < a.length:=by simpa using g
   have f:k < b.length:=by omega
   refine drawP hΘ mixed (lk [0,1,2,3,4,5,6,7,8] .done) [] (by kernel_rfl) ?_;refine ⟨Sl.lt i g,⟨by simp,by simpa using g⟩,rfl,_,u (Sl.lt i g),_,Sl.at y g,Sl.lt l f,⟨by simp,by simpa using f⟩,rfl,_,q (Sl.lt l f),_,Sl.at s f,_,agg50 _ _ _ _,?_⟩;refine br (fun e=>?_) (fun e=>?_)
   ·conv=>whnf
    have:¬ a = b:=by rintro rfl; simp at e
    have c:false = decide (a = b):=by simp [this]
    first | exact d _ _ _ c rfl | exact finL _ _ _ c rfl
   ·refine ⟨⟨k + 1,by omega,?_⟩,by show a.length - (k + 1) < a.length - k; omega,lr0 m w rfl (Fz.r F) rfl ⟨cnt (by omega),tv⟩⟩
    have S:a[k] = b[k]:=by
     simp at e; exact Prod.ext e.1 e.2
    rw [qg g,qg f,x,S]
  ·conv=>whnf
   have g:¬ k < a.length:=by simpa using g
   have h1:a = b:=by
    rw [qn (by omega),qn (by omega)] at x; exact x
   have c:true = decide (a = b):=by simp [h1]
   first | exact d _ _ _ c rfl | exact finL _ _ _ c rfl
theorem z7v {p:Prop} [Decidable p] (h:(!decide p) = false):p:=by simpa using h
theorem z7f {p:Prop} [Decidable p] (h:(!decide p) = true):¬ p:=by simpa using h
theorem zvv (F:Fz) (u B:SA) (a b:List Kp) (A:ClsAt F u a) (w:ClsAt F B b) (Y:short a) (la:a.length < 1000000) :
  Fo Tryz.prog F 39 [.va u,.va B] (fun o n=>o = .ret (.va (.bool (decide (a = b)))) ∧ n = F):=by
 have f:∀ (v:Bool) (h:Hp) (nx:Nat),decide (a = b) = v → lget h 0 = some (.frz F) → Cln 1 (FoK F fun o n=>o = .ret (.va (.bool (decide (a = b)))) ∧ n = F) (.ret (.va (.bool v))) h nx:=by
  intro v h nx J I;exact endPu I (Fz.r F) (ob J) rfl
 have finL:∀ (v:Bool) (h:Hp) (nx:Nat),decide (a = b) = v → lget h 0 = some (.frz F) → Cln 1 (FoK F fun o n=>o = .ret (.va (.bool (decide (a = b)))) ∧ n = F) (.ret (.va (.lit v))) h nx:=by
  intro v h nx J I;exact endPu I (Fz.r F) (by rw [J]; exact rfl) rfl
 obtain ⟨an,ab,ae,ac,aL,ar,rfl,a1,W,a3,a4⟩:=A;obtain ⟨bn,bb,be,bc,bL,ao,rfl,b1,R,b3,b4⟩:=w;refine fo_of hΘ Tryz.func39 rfl (by decide) _ _ rfl rfl rfl ?_;refine br (fun g=>?_) (fun g=>?_)
 ·conv=>whnf
  have:¬ a = b:=by rintro rfl; simp at g
  have d:decide (a = b) = false:=by simp [this]
  first | exact f _ _ _ d rfl | exact finL _ _ _ d rfl
 ·have gl:a.length = b.length:=neq_f g
  refine zam hΘ (X:={ k:Nat // k ≤ a.length ∧ a.take k = b.take k }) (fun x=>[(5,.va (.int .i64 x.1))]) [4,6,12,13,14,15,16,17,18,19,20,21,22,23,24,25,26,27,28,29,30,31,32,33,34,35,36,37,38,39,40,41,42,43] (fz fun _=>F) 1 (fun x=>a.length - x.1) ⟨0,by simp,rfl⟩
   (fun G E=>leI [] G E rfl ⟨tv,tv⟩ ⟨rfl,tv⟩ ⟨Fz.r F,tv⟩) ?_
  rintro ⟨k,ai,U⟩ G E;by_cases g:k < a.length
  ·have M:k < b.length:=gl ▸ g;have s:(k:Int) < (a.length:Int):=by omega
   have m:(k:Int) < (b.length:Int):=by omega
   have q:a.length - (k + 1) < a.length - k:=by omega
   have p:k < 4611686018427387904:=by omega
   have hx:=Y (a[k]'g) (jp g);have c:=SlR.at a4 g;obtain ⟨y,S,u,rfl,A⟩:=c;have c:=SlR.at b4 M;obtain ⟨z,T,B,rfl,w⟩:=c;have l:=zyb F u B (a[k]'g).2 (b[k]'g').2 A w hx;have i:=SlR.lt a1 g;have j:=SlR.lt b1 M;have K:(a[k]'g).1 = (b[k]'g').1 → (a[k]'g).2 = (b[k]'g').2 → a.take (k + 1) = b.take (k + 1):=fun h1 h2=>by rw [qg g,qg M,U,(Prod.ext h1 h2:a[k]'g = b[k]'g')]
   have L:¬ (a[k]'g).1 = (b[k]'g').1 → decide (a = b) = false:=fun h=>decide_eq_false fun e=>h (by subst e; rfl)
   have Q:¬ (a[k]'g).2 = (b[k]'g').2 → decide (a = b) = false:=fun h=>decide_eq_false fun e=>h (by subst e; rfl)
   obtain ⟨am,au,al,aj,a0,ag,rfl,ak,ah,aa,aw⟩:=A;obtain ⟨ax,av,az,a5,aq,Z,rfl,ap,ad,ay,af⟩:=w;refine bri s ?_;refine drawP hΘ mixed (lk [0,1,2,3,4,5,6,7,8,9] (.alt 10 (.look 11 .done) .nil)) [] (by kernel_rfl) ?_;refine ⟨i,⟨by simp,s⟩,rfl,_,W i,_,S,j,⟨by simp,m⟩,rfl,_,R j,_,T,?_⟩;refine usePu (l) rfl (zaa _) rfl ?_;conv=>whnf
   refine ⟨Fz.r F,?_⟩;refine drawP hΘ mixed (lk [0,1,2,3,4,5,6,7,8,9,10,11,12,13,14] .done) [] (by kernel_rfl) ?_;refine ⟨i,⟨by simp,s⟩,rfl,_,W i,_,S,j,⟨by simp,m⟩,rfl,_,R j,_,T,fun O=>?_,fun O=>?_⟩
   ·have e1:(a[k]'g).1 = (b[k]'g').1:=z7v O;refine br (fun D=>?_) (fun D=>?_)
    ·have d:=Q (z7f D)
     conv=>whnf
     first | exact f false _ _ d rfl | exact finL false _ _ d rfl
    ·have e2:(a[k]'g).2 = (b[k]'g').2:=z7v D;have d:=K e1 e2;exact ⟨⟨k + 1,g,d⟩,q,leR [] G E rfl ⟨tv,tv⟩ ⟨cnt p,tv⟩ ⟨Fz.r F,tv⟩⟩
   ·have d:=L (z7f O)
    conv=>whnf
    first | exact f false _ _ d rfl | exact finL false _ _ d rfl
  ·have s:¬ (k:Int) < (a.length:Int):=by omega
   have V:decide (a = b) = true:=decide_eq_true (by rw [← qn (show a.length ≤ k by omega),U,qn (by omega)]);refine brj s ?_;conv=>whnf
   first | exact f true _ _ V rfl | exact finL true _ _ V rfl
theorem zul:∀ (l:List Kp) (x:Kp),asc l = true → (∀ y ∈ l,y.1 < x.1) → asc (l ++ [x]) = true
 |[],_,_,_=>rfl
 |[a],x,_,h=>by
  show (decide (a.1 < x.1) && asc [x]) = true;rw [decide_eq_true (h a (by simp))]; rfl
 |a :: b :: r,x,ha,h=>by
  rw [asc,qf] at ha;show (decide (a.1 < b.1) && asc ((b :: r) ++ [x])) = true;rw [ha.1,zul (b :: r) x ha.2 fun y c=>h y (yp _ c)]; rfl
theorem z9t:∀ k,k < 5 → ∀ i,i < k → prp9.getD i 0 < prp9.getD k 0:=by decide
theorem zzg:∀ i,i < 5 → ∀ j,j < 6 → stp9 i j = [] ∨ zbk (prp9.getD i 0,stp9 i j) = true:=by decide
theorem zld {a:List Int} (c:∀ k,i64 (a.getD k 0)):∀ n,n ≤ 5 → ∀ y ∈ keep9 a n,∃ i,i < n ∧ y.1 = prp9.getD i 0 ∧ zbk y = true ∧ y.2.length ≤ 2
 |0,_,y,h=>nomatch h
 |n + 1,hn,y,h=>by
  rw [keep9,ym] at h;rcases h with h | h
  ·obtain ⟨i,h1,b⟩:=zld c n (by omega) y h;exact ⟨i,by omega,b⟩
  ·have e:=zco (a.getD n 0) 6 (by decide) (c n);have h1:=zzg n (by omega) (pickI (a.getD n 0) 6).toNat (by omega);have b:=zup n (by omega) (pickI (a.getD n 0) 6).toNat (by omega);split at h
   ·cases h
   ·rename_i d;rw [qu] at h;subst h;exact ⟨n,by omega,rfl,h1.resolve_left d,b⟩
theorem zpd {a:List Int} (b:∀ k,i64 (a.getD k 0)):∀ n,n ≤ 5 → asc (keep9 a n) = true ∧ (keep9 a n).length ≤ n
 |0,_=>⟨rfl,qm 0⟩
 |n + 1,hn=>by
  have ih:=zpd b n (by omega);rw [keep9];split
  ·rw [jm]; exact ⟨ih.1,qa2 ih.2⟩
  ·refine ⟨zul _ _ ih.1 fun y d=>?_,by rw [qd]; exact qch ih.2 1⟩;obtain ⟨i,h1,c,-,-⟩:=zld b n (by omega) y d;rw [c];exact z9t n (by omega) i h1
theorem zor {a c e d b:Int} (f:i64 a ∧ i64 c ∧ i64 e ∧ i64 d ∧ i64 b):migOk (made9 1 2 a c e d b) = true ∧ short (made9 1 2 a c e d b).keep ∧ (made9 1 2 a c e d b).keep.length < 1000000:=by
 have l:=zco a 9 (by decide) f.1;have k:=zpd (zsv f) 5 (qm 5);have j:=zld (zsv f) 5 (qm 5);refine ⟨?_,fun y g=>?_,yq k.2 (by decide)⟩
 ·unfold migOk made9;rw [zaj (by omega) (by omega)];simp only [qf];refine ⟨k.1,?_,by decide,by decide,?_,?_⟩
  ·simp only [idOk,qf,decide_eq_true_eq]; omega
  ·cases keep9 [a,c,e,d,b] 5<;>simp
  ·exact qo.2 fun y g=>(j y g).elim fun i h=>h.2.2.1
 ·obtain ⟨i,-,-,-,h⟩:=j y g;omega
theorem ya6 {w:Int} {s:List UInt8} (h:rasOk w s = true):s.length ≤ 1024:=by
 unfold rasOk at h;simp only [qf,yy,decide_eq_true_eq,beq_iff_eq,inR] at h;rcases h.2 with h2 | h2
 ·rw [h2.2]; exact yj _
 ·have a:w * hgt w s ≤ 32 * 32:=qbn (by omega) (by omega) (by omega) (by omega);omega
theorem zf4 {d:Dc} (h:docOk d = true):DcSmall d:=by
 have a:=zbg h;exact ⟨js a.lines (by decide),js a.cells (by decide),js (ya6 a.ras) (by decide)⟩
abbrev RunM (M:Mig) (d:Dc):Out → Fz → Prop:=fun o c=>o = .ret (.tup [.agg docZ,.va (.int .i64 90)]) ∨ (∃ e a b,runD M.keep d = some e ∧ o = .ret (.tup [.agg (docS a b e.w e.bits),.va (.int .i64 0)]) ∧ DocAt c a b e)
section
variable {M:Mig} (hm:migOk M = true) (hs:short M.keep) (hl:M.keep.length < 1000000) {d:Dc} (hd:docOk d = true)
include hm hs hl hd
theorem yan (F:Fz) (i:MLF F) (sk a b:SA) (g:KpsAt F sk M.keep) (j:DocAt F a b d):Fo Tryz.prog F 38 [.agg (migS M sk),.agg (docS a b d.w d.bits)] (RunM M d):=
 zb9 (ydm F i sk M a b d g hs hl j (zf4 hd)) fun o k h=>by
  rcases h with ⟨_,h⟩ | ⟨e,a,b,h1,f,c⟩
  ·exact .inl h
  ·unfold runX at h1;rw [if_pos ⟨hm,hd⟩] at h1;exact .inr ⟨e,a,b,h1,f,c⟩
theorem z5o (F:Fz) (n:MLF F) (m:RNDF F) (sk a b g c:SA) {e:Dc} (k:runD M.keep d = some e) (l:KpsAt F sk M.keep) (q:DocAt F a b d) (p:DocAt F g c e) :
  Fo Tryz.prog F 21 [.agg (migS M sk),.agg (docS a b d.w d.bits),.agg (docS g c e.w e.bits)] (fun o j=>∃ i,o = .ret (.tup [.agg (crtS (makeC M d e) i),.va (.int .i64 0)]) ∧ ClsAt j i (zbh M.keep)):=by
 have f:M.keep.all zbk = true:=by
  simp only [migOk,qf] at hm;exact hm.2.2.2.2.2
 refine zb9 (zny F n m sk a b g c M d e l hs hl q p (zf4 hd) (zf4 (zxx f hd k))) fun o j h=>?_
 rcases h with ⟨h,_⟩ | ⟨_,h⟩
 ·exact absurd (h.symm.trans (run_make hm hd k)) (by simp)
 ·exact h
theorem z9d {e:Dc} (a:runD M.keep d = some e):docOk e = true ∧ zcq (makeC M d e) (allB d) (allB e) = true:=by
 have h:=run_make hm hd a;simp only [zdq,qf] at h;exact h.2.2
end
theorem zv5 {M:Mig} (hm:migOk M = true) (hs:short M.keep) (hl:M.keep.length < 1000000) (F:Fz) (sk:SA) (e:KpsAt F sk M.keep) :
  Fo Tryz.prog F 16 [.agg (migS M sk)] (fun o a=>∃ b c,o = .ret (.tup [.va (.slice false 0 b 0 2 8 c),.va (.int .i64 0)]) ∧ ClsAt a (.slice false 0 b 0 2 8 c) (zbh M.keep)):=
 zb9 (zqk F sk M e hs hl) fun o a h=>by
  rcases h with ⟨h,_⟩ | ⟨_,h⟩
  ·exact absurd (h.symm.trans hm) (by simp)
  ·exact h
theorem zs8 {d:Dc} (hd:docOk d = true) (F:Fz) (a b:SA) (g:DocAt F a b d) :
  Fo Tryz.prog F 14 [.agg (docS a b d.w d.bits)] (fun o e=>∃ b c,o = .ret (.tup [.va (.slice false 0 b 0 1 8 c),.va (.int .i64 0)]) ∧ Sl e 9 1 encS (.slice false 0 b 0 1 8 c) (allB d)):=
 zb9 (znl F a b d g (zf4 hd)) fun o e h=>by
  rcases h with ⟨h,_⟩ | ⟨_,b,c,h,f⟩
  ·exact absurd (h.symm.trans hd) (by simp)
  ·have i:(allB d).length = 8:=zct d;refine ⟨b,c,h,false,b,0,c,_,c,by rw [i],by simp,fun _=>f,by rw [qa]; exact qb5 (q5 _),?_⟩;rw [qaf,qn (by rw [qa]; exact qm _)]
theorem sclT (F:Fz) (a b:SA) (C:List Kp) (g:ClsAt F a C) (d:ClsAt F b C) (c:short C) (e:C.length < 1000000) :
  Fo Tryz.prog F 39 [.va a,.va b] (fun o f=>o = .ret (.va (.lit true)) ∧ f = F):=by
 have h:=zgs (zvv F a b C C g d c e);rw [decide_eq_true rfl] at h;exact h
theorem chkT (F:Fz) (l:MLF F) (j:RNDF F) (sk b a:SA) (c:Crt) (A B:List (List UInt8)) (i:ClsAt F sk c.cl) (g:short c.cl) (k:c.cl.length < 1000000) (p:Sl F 9 1 encS b A) (m:Sl F 9 1 encS a B)
  (d:∀ s ∈ A,s.length ≤ 900000000000) (e:∀ s ∈ B,s.length ≤ 900000000000) (h:zcq c A B = true) :
  Fo Tryz.prog F 22 [.agg (crtS c sk),.va b,.va a] (fun o n=>o = .ret (.va (.lit true)) ∧ True):=by
 have f:=zju F l j sk b a c A B i g k p m d e;rw [h] at f;exact zgs (zb9 f fun o n h=>⟨h,tv⟩)
theorem z6c (S:Fz) (m0:MLF S) (G:RNDF S) (n1 n2 n3:Bool) (b1 e1 s1 l1 c1 b2 e2 s2 l2 c2 b3 e3 s3 l3 c3:Nat) (q1 q2 x0 x1 x2 x3 x4:Int) (d:Dc) (B:docOk d = true)
  (h:∀ F1,Fz.le S F1 → Fo Tryz.prog F1 15 [.agg [.slice n1 0 b1 e1 s1 l1 c1,.slice n2 0 b2 e2 s2 l2 c2,.int .i64 q1,.int .i64 q2,.slice n3 0 b3 e3 s3 l3 c3]] (fun o Y=>∃ a b,o = .ret (.agg (docS a b d.w d.bits)) ∧ DocAt Y a b d))
  (M:Mig) (hm:migOk M = true) (D:short M.keep) (Z:M.keep.length < 1000000)
  (m:∀ F,Fo Tryz.prog F 13 [.va (.int .i64 1),.va (.int .i64 2),.agg [.int .i64 x0,.int .i64 x1,.int .i64 x2,.int .i64 x3,.int .i64 x4]] (fun o Y=>∃ sk,o = .ret (.agg (migS M sk)) ∧ KpsAt Y sk M.keep)) :
  Fo Tryz.prog S 7 [.agg [.slice n1 0 b1 e1 s1 l1 c1,.slice n2 0 b2 e2 s2 l2 c2,.int .i64 q1,.int .i64 q2,.slice n3 0 b3 e3 s3 l3 c3],.agg [.int .i64 x0,.int .i64 x1,.int .i64 x2,.int .i64 x3,.int .i64 x4]] (fun o Y=>o = .ret (.va (.bool true)) ∧ True):=by
 have s:=ya9 S m0 G;have K:=fun F hM sk a b=>yan hm D Z B F hM sk a b
 have ad:=fun e (he:runD M.keep d = some e) F hM hR sk a b a' b'=>z5o hm D Z B F hM hR sk a b a' b' he
 have aa:=fun F sk=>zv5 hm D Z F sk
 have ah:=fun F a b=>zs8 B F a b
 refine fo_of hΘ Tryz.func7 rfl (by decide) _ _ rfl rfl rfl ?_;refine useFo s rfl (zaa _) rfl ?_;rintro _ F1 J ⟨rfl,-⟩;refine useFo (h F1 J) rfl (zaa _) rfl ?_;rintro _ F2 X ⟨a,b,rfl,hD⟩;have A:=hD;obtain ⟨an,ab,ae,ac,bn,bb,be,bc,rfl,rfl,-,-,-⟩:=hD;refine useFo (m F2) rfl (zaa _) rfl ?_;rintro _ F3 x ⟨sk,rfl,hK⟩;have n:=hK;obtain ⟨kn,kb,ke,kc,kL,kr,rfl,-,-,-,-⟩:=hK;have m3:=m0.mono (Fz.t J (Fz.t X x));have r3:=G.mono (Fz.t J (Fz.t X x));refine useFo (K F3 m3 _ _ _ n (A.mono x)) rfl (zaa _) rfl ?_;rintro _ F4 l (rfl | ⟨e,a,b,he,rfl,hE⟩)
 ·refine bre (by decide) ?_;exact endFo _ F4 rfl (Fz.t J (Fz.t X (Fz.t x l))) (Fz.r F4) ⟨rfl,tv⟩ (zah _) rfl
 ·have O:=hE;obtain ⟨tn,tb,te,tc,yn,yb,ye,yc,rfl,rfl,-,-,-⟩:=hE
  conv=>whnf
  have j:=z9d hm D Z B he;have ag:=fun F a b=>zs8 j.1 F a b
  refine brd (by decide) ?_;refine useFo (ad e he F4 (m3.mono l) (r3.mono l) _ _ _ _ _ (KpsAt.up n l) ((A.mono x).mono l) O) rfl (zaa _) rfl ?_;rintro _ F5 W ⟨sc,rfl,hC⟩;have L:=hC;obtain ⟨fn,fb,fe,fc,fL,fr,rfl,-,-,-,-⟩:=hC;refine useFo (aa F5 _ (KpsAt.up n (Fz.t l W))) rfl (zaa _) rfl ?_;rintro _ F6 u6 ⟨gb,gc,rfl,hG⟩;refine useFo (ah F6 _ _ (A.mono (Fz.t x (Fz.t l (Fz.t W u6))))) rfl (zaa _) rfl ?_;rintro _ F7 u7 ⟨pb,pc,rfl,hP⟩;refine useFo (ag F7 _ _ (O.mono (Fz.t W (Fz.t u6 u7)))) rfl (zaa _) rfl ?_;rintro _ Q V ⟨qb,qc,rfl,hQ⟩;conv=>whnf
  have T:short (zbh M.keep):=zeo D;have I:(zbh M.keep).length < 1000000:=by rw [zc1]; decide
  have q:=Fz.t u6 (Fz.t u7 V);have y:=sclT Q _ _ (zbh M.keep) (KpsAt.up L q) (KpsAt.up hG (Fz.t u7 V)) T I;have c:=Fz.t J (Fz.t X (Fz.t x (Fz.t l (Fz.t W q))));have R:=chkT Q (m0.mono c) (G.mono c) _ _ _ (makeC M d e) (allB d) (allB e) (KpsAt.up L q) T I (hP.mono V) hQ (zch B) (zch j.1) j.2;have k:=fun u (f:Fz.le Q u)=>zgy u (G.mono (Fz.t c f)) _ (allB d) (hP.mono (Fz.t V f)) (zct d) (zch B)
  have i:=fun u (f:Fz.le Q u)=>zgy u (G.mono (Fz.t c f)) _ (allB e) (hQ.mono f) (zct e) (zch j.1)
  refine drawP hΘ mixed (lk [0,1,2,3,4,5,6,7,8,9,10,11,12,13,14,15,16,17,18,19,20,21,22,23,24,25] (.alt 26 (lk [27,28,29,30,31] (.alt 32 (lk [33,34,35,36,37] (.alt 38 (lk [39,40,41,42,43,44] (.alt 45 (lk [46,47,48] .done) .nil)) .nil)) .nil)) .nil)) [6] (by kernel_rfl) ?_;conv=>whnf
  repeat
   refine gae (by decide) ?_;conv=>whnf
  refine ⟨rfl,?_⟩;conv=>whnf
  repeat
   refine ⟨fun _=>?_,fun g=>absurd g (by simp [makeC])⟩;conv=>whnf
  refine ⟨rfl,?_⟩;conv=>whnf
  repeat
   refine ⟨fun _=>?_,fun g=>absurd g (by simp [makeC])⟩;conv=>whnf
  refine usePu y rfl (zaa _) rfl ?_;refine ⟨Fz.r Q,rfl,?_⟩;conv=>whnf
  repeat
   refine ⟨fun _=>?_,fun g=>absurd g (by simp [makeC])⟩;conv=>whnf
  refine ⟨rfl,?_⟩;conv=>whnf
  repeat
   refine ⟨fun _=>?_,fun g=>absurd g (by simp [makeC])⟩;conv=>whnf
  refine useFo R rfl (zaa _) rfl ?_;rintro _ u f ⟨rfl,-⟩;refine ⟨f,rfl,?_⟩;conv=>whnf
  repeat
   refine ⟨fun _=>?_,fun g=>absurd g (by simp [makeC])⟩;conv=>whnf
  refine ⟨rfl,?_⟩;conv=>whnf
  repeat
   refine ⟨fun _=>?_,fun g=>absurd g (by simp [makeC])⟩;conv=>whnf
  refine useFo (k u f) rfl (zaa _) rfl ?_;rintro _ af p rfl;refine ⟨p,rfl,?_⟩;conv=>whnf
  repeat
   refine ⟨fun _=>?_,fun g=>absurd g (by simp [makeC])⟩;conv=>whnf
  refine ⟨rfl,?_⟩;conv=>whnf
  repeat
   refine ⟨fun _=>?_,fun g=>absurd g (by simp [makeC])⟩;conv=>whnf
  refine useFo (i af (Fz.t f p)) rfl (zaa _) rfl ?_;rintro _ U E rfl;refine ⟨E,rfl,?_⟩;exact endFo (.ret (.va (.bool true))) U rfl (Fz.t c (Fz.t f (Fz.t p E))) (Fz.r U) ⟨rfl,tv⟩ (ob (show true = ((makeC M d e).dst == root8 (allB e)) by simp [makeC])) rfl
theorem zrr (a:Fz) (E:MLF a) (I:RNDF a) (k s w:Bool) (m p A x l y q u n B:Nat) (L:List Stp) (X:List Q3) (b g:Int) (D:List Int) (h:CaseAt a k s w m p x l q u n L X b g D) (f d i e c:Int) (j:i64 f ∧ i64 d ∧ i64 i ∧ i64 e ∧ i64 c) :
  Fo Tryz.prog a 7 [.agg (caseS k s w m p A x l y q u n B L.length X.length b g),.agg [.int .i64 f,.int .i64 d,.int .i64 i,.int .i64 e,.int .i64 c]] (fun o J=>o = .ret (.va (.bool true)) ∧ True):=
 z6c a E I k s w m p 1 L.length A x l 1 X.length y q u 1 n B b g f d i e c (madeD L X b g) h.ok.1
  (fun F1 G=>z3s F1 k s w m p A x l y q u n B L X b g D (h.mono G))
  (made9 1 2 f d i e c) (zor j).1 (zor j).2.1 (zor j).2.2 fun F=>z4u F 1 2 f d i e c j
end Go.Proofs.YtfnkamphhpldcaaGreatDoor
