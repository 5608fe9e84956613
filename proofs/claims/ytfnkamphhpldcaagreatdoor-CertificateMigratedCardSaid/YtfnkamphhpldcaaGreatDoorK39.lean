import Derived.Test.YtfnkamphhpldcaaGreatDoorK35
import Derived.Test.YtfnkamphhpldcaaGreatDoorK36
import Derived.Test.YtfnkamphhpldcaaGreatDoorK38
import Derived.Test.YtfnkamphhpldcaaGreatDoorK22
import Derived.Test.YtfnkamphhpldcaaGreatDoorK16
set_option maxHeartbeats 64000000
namespace Go.Proofs.YtfnkamphhpldcaaGreatDoor
open Go Sx
set_option maxRecDepth 100000
theorem zk1 (c n:Int) (a:i64 c) (b:0 < n):Pu Tryz.prog 47 [.va (.int .i64 c),.va (.int .i64 n)] (.va (.int .i64 (pickI c n))):=by
 intro F;unfold i64 at a;refine fo_of hΘ Tryz.func47 rfl (by decide) _ _ rfl rfl rfl ?_;refine br (fun g=>?_) (fun g=>?_)
 ·refine ⟨by omega,?_⟩;refine endPu rfl (Fz.r F) (oi ?_) rfl;simp at g;rw [zaj (n:=c + 1) (by omega) (by omega),zaj (n:=0 - (c + 1)) (by omega) (by omega),pickI,if_pos g]
  congr 1; omega
 ·refine ⟨by omega,?_⟩;refine endPu rfl (Fz.r F) (oi ?_) rfl;simp at g;rw [pickI,if_neg (by omega)]
def tbl9:List (List (List Stp)):=[[[],[(1,0)],[(2,0)],[(1,0),(2,0)],[(6,0)],[]],[[],[(4,3)],[(4,0)],[(6,0)],[],[(4,6)]],[[],[(3,10)],[(3,100)],[(6,0)],[],[]],[[],[],[],[(6,0)],[],[]],[[],[(5,0)],[(5,0),(5,0)],[(6,0)],[],[]]]
def prp9:List Int:=[1,2,3,4,7]
def stp9 (i:Nat) (j:Nat):List Stp:=(tbl9.getD i []).getD j []
def zoz (F:Fz) (c:SA) (l:List Stp):Prop:=(l = [] ∧ c = .nilsl) ∨ (0 < l.length ∧ ∃ b,c = .slice false 0 b 0 2 l.length l.length ∧ F b = some (.arr 56 2 (l.map enc) l.length))
def RowAt (F:Fz) (c:SA) (r:List (List Stp)):Prop:=∃ b R,c = .slice false 0 b 0 1 6 6 ∧ F b = some (.arr 50 1 R 6) ∧ ∀ j,j < 6 → ∃ s,R[j]? = some [s] ∧ zoz F s (r.getD j [])
def TblAt (F:Fz) (b:Nat):Prop:=∃ R,F b = some (.arr 99 1 R 5) ∧ ∀ i,i < 5 → ∃ s,R[i]? = some [s] ∧ RowAt F s (tbl9.getD i [])
theorem zoz.mono {F d:Fz} {c:SA} {l:List Stp} (h:zoz F c l) (a:Fz.le F d):zoz d c l:=by
 rcases h with h | ⟨h,b,h1,e⟩
 ·exact .inl h
 ·exact .inr ⟨h,b,h1,a _ _ e⟩
theorem TblAt.mono {F c:Fz} {b:Nat} (h:TblAt F b) (a:Fz.le F c):TblAt c b:=by
 obtain ⟨R,h1,e⟩:=h;refine ⟨R,a _ _ h1,fun i o=>?_⟩;obtain ⟨s,f,b,d,g,k,l⟩:=e i o;refine ⟨s,f,b,d,g,a _ _ k,fun j p=>?_⟩;obtain ⟨s,m,n⟩:=l j p;exact ⟨s,m,n.mono a⟩
theorem ydt {F:Fz} {b J K L O c d f g l m M e h k n o:Nat} (p:F b = some (.arr 56 2 [[.int .i64 6,.int .i64 0]] 1)) (Q:F J = some (.arr 56 2 [[.int .i64 1,.int .i64 0]] 1)) (R:F K = some (.arr 56 2 [[.int .i64 2,.int .i64 0]] 1)) (S:F L = some (.arr 56 2 [[.int .i64 1,.int .i64 0],[.int .i64 2,.int .i64 0]] 2)) (U:F O = some (.arr 56 2 [[.int .i64 4,.int .i64 3]] 1)) (s:F c = some (.arr 56 2 [[.int .i64 4,.int .i64 0]] 1)) (u:F d = some (.arr 56 2 [[.int .i64 4,.int .i64 6]] 1)) (x:F f = some (.arr 56 2 [[.int .i64 3,.int .i64 10]] 1)) (y:F g = some (.arr 56 2 [[.int .i64 3,.int .i64 100]] 1)) (D:F l = some (.arr 56 2 [[.int .i64 5,.int .i64 0]] 1)) (E:F m = some (.arr 56 2 [[.int .i64 5,.int .i64 0],[.int .i64 5,.int .i64 0]] 2)) (T:F M = some (.arr 50 1 [[.nilsl],[.slice false 0 J 0 2 1 1],[.slice false 0 K 0 2 1 1],[.slice false 0 L 0 2 2 2],[.slice false 0 b 0 2 1 1],[.nilsl]] 6)) (w:F e = some (.arr 50 1 [[.nilsl],[.slice false 0 O 0 2 1 1],[.slice false 0 c 0 2 1 1],[.slice false 0 b 0 2 1 1],[.nilsl],[.slice false 0 d 0 2 1 1]] 6)) (A:F h = some (.arr 50 1 [[.nilsl],[.slice false 0 f 0 2 1 1],[.slice false 0 g 0 2 1 1],[.slice false 0 b 0 2 1 1],[.nilsl],[.nilsl]] 6)) (B:F k = some (.arr 50 1 [[.nilsl],[.nilsl],[.nilsl],[.slice false 0 b 0 2 1 1],[.nilsl],[.nilsl]] 6)) (G:F n = some (.arr 50 1 [[.nilsl],[.slice false 0 l 0 2 1 1],[.slice false 0 m 0 2 2 2],[.slice false 0 b 0 2 1 1],[.nilsl],[.nilsl]] 6)) (I:F o = some (.arr 99 1 [[.slice false 0 M 0 1 6 6],[.slice false 0 e 0 1 6 6],[.slice false 0 h 0 1 6 6],[.slice false 0 k 0 1 6 6],[.slice false 0 n 0 1 6 6]] 5)):TblAt F o:=by
 refine ⟨_,I,fun i V=>?_⟩;have a:i = 0 ∨ i = 1 ∨ i = 2 ∨ i = 3 ∨ i = 4:=by omega
 rcases a with rfl | rfl | rfl | rfl | rfl
 ·refine ⟨_,rfl,_,_,rfl,T,fun j q=>?_⟩;have a:j = 0 ∨ j = 1 ∨ j = 2 ∨ j = 3 ∨ j = 4 ∨ j = 5:=by omega
  rcases a with rfl | rfl | rfl | rfl | rfl | rfl
  ·exact ⟨_,rfl,.inl ⟨rfl,rfl⟩⟩
  ·exact ⟨_,rfl,.inr ⟨by decide,_,rfl,Q⟩⟩
  ·exact ⟨_,rfl,.inr ⟨by decide,_,rfl,R⟩⟩
  ·exact ⟨_,rfl,.inr ⟨by decide,_,rfl,S⟩⟩
  ·exact ⟨_,rfl,.inr ⟨by decide,_,rfl,p⟩⟩
  ·exact ⟨_,rfl,.inl ⟨rfl,rfl⟩⟩
 ·refine ⟨_,rfl,_,_,rfl,w,fun j q=>?_⟩;have a:j = 0 ∨ j = 1 ∨ j = 2 ∨ j = 3 ∨ j = 4 ∨ j = 5:=by omega
  rcases a with rfl | rfl | rfl | rfl | rfl | rfl
  ·exact ⟨_,rfl,.inl ⟨rfl,rfl⟩⟩
  ·exact ⟨_,rfl,.inr ⟨by decide,_,rfl,U⟩⟩
  ·exact ⟨_,rfl,.inr ⟨by decide,_,rfl,s⟩⟩
  ·exact ⟨_,rfl,.inr ⟨by decide,_,rfl,p⟩⟩
  ·exact ⟨_,rfl,.inl ⟨rfl,rfl⟩⟩
  ·exact ⟨_,rfl,.inr ⟨by decide,_,rfl,u⟩⟩
 ·refine ⟨_,rfl,_,_,rfl,A,fun j q=>?_⟩;have a:j = 0 ∨ j = 1 ∨ j = 2 ∨ j = 3 ∨ j = 4 ∨ j = 5:=by omega
  rcases a with rfl | rfl | rfl | rfl | rfl | rfl
  ·exact ⟨_,rfl,.inl ⟨rfl,rfl⟩⟩
  ·exact ⟨_,rfl,.inr ⟨by decide,_,rfl,x⟩⟩
  ·exact ⟨_,rfl,.inr ⟨by decide,_,rfl,y⟩⟩
  ·exact ⟨_,rfl,.inr ⟨by decide,_,rfl,p⟩⟩
  ·exact ⟨_,rfl,.inl ⟨rfl,rfl⟩⟩
  ·exact ⟨_,rfl,.inl ⟨rfl,rfl⟩⟩
 ·refine ⟨_,rfl,_,_,rfl,B,fun j q=>?_⟩;have a:j = 0 ∨ j = 1 ∨ j = 2 ∨ j = 3 ∨ j = 4 ∨ j = 5:=by omega
  rcases a with rfl | rfl | rfl | rfl | rfl | rfl
  ·exact ⟨_,rfl,.inl ⟨rfl,rfl⟩⟩
  ·exact ⟨_,rfl,.inl ⟨rfl,rfl⟩⟩
  ·exact ⟨_,rfl,.inl ⟨rfl,rfl⟩⟩
  ·exact ⟨_,rfl,.inr ⟨by decide,_,rfl,p⟩⟩
  ·exact ⟨_,rfl,.inl ⟨rfl,rfl⟩⟩
  ·exact ⟨_,rfl,.inl ⟨rfl,rfl⟩⟩
 ·refine ⟨_,rfl,_,_,rfl,G,fun j q=>?_⟩;have a:j = 0 ∨ j = 1 ∨ j = 2 ∨ j = 3 ∨ j = 4 ∨ j = 5:=by omega
  rcases a with rfl | rfl | rfl | rfl | rfl | rfl
  ·exact ⟨_,rfl,.inl ⟨rfl,rfl⟩⟩
  ·exact ⟨_,rfl,.inr ⟨by decide,_,rfl,D⟩⟩
  ·exact ⟨_,rfl,.inr ⟨by decide,_,rfl,E⟩⟩
  ·exact ⟨_,rfl,.inr ⟨by decide,_,rfl,p⟩⟩
  ·exact ⟨_,rfl,.inl ⟨rfl,rfl⟩⟩
  ·exact ⟨_,rfl,.inl ⟨rfl,rfl⟩⟩
abbrev box9 (a b c d e:Int):Ent:=.one (.cells 28 [.int .i64 a,.int .i64 b,.int .i64 c,.int .i64 d,.int .i64 e])
theorem zgt {n:Nat} {a b c d e:Int}:(box9 a b c d e).below n:=(SB.bB_ok rfl:SB.below n (.cells 28 [.int .i64 a,.int .i64 b,.int .i64 c,.int .i64 d,.int .i64 e]))
theorem zg2 {n c i:Nat} {z a b:Int} {o:List ZC} (h:i < n):(Ent.one (.cells 32 [.int .i64 z,.int .i64 a,.int .i64 b,.lit false,gA 2 i c o])).below n:=by
 intro t d;simp only [qj,qs,or_false] at d;rcases d with rfl | rfl | rfl | rfl | rfl
 ·trivial
 ·trivial
 ·trivial
 ·trivial
 ·exact zeg h _ _ _
def keep9 (a:List Int):Nat → List Kp
 |0=>[]
 |i + 1=>keep9 a i ++ (if stp9 i (pickI (a.getD i 0) 6).toNat = [] then [] else [(prp9.getD i 0,stp9 i (pickI (a.getD i 0) 6).toNat)])
def RowL (G:Fz) (l:List Kp) (o:List ZC):Prop:=o.length = l.length ∧ ∀ (i:Nat) (z:ZC) (x:Kp),o[i]? = some z → l[i]? = some x → KpR G z.1 x
theorem RowL.nil {G:Fz}:RowL G [] []:=⟨rfl,fun i z x h=>by simp at h⟩
theorem RowL.mono {G b:Fz} {l:List Kp} {o:List ZC} (h:RowL G l o) (a:Fz.le G b):RowL b l o:=⟨h.1,fun i z x h1 c=>(h.2 i z x h1 c).mono a⟩
theorem RowL.snoc {G:Fz} {l:List Kp} {o:List ZC} {x:Kp} {z:ZC} (h:RowL G l o) (c:KpR G z.1 x):RowL G (l ++ [x]) (o ++ [z]):=by
 refine ⟨by rw [qd,qd,h.1]; rfl,fun i y w h1 a=>?_⟩;rcases qb8 i o.length with hi | hi
 ·rw [jx hi] at h1;rw [jx (by rw [← h.1]; exact hi)] at a;exact h.2 i y w h1 a
 ·rw [jy hi] at h1;rw [jy (by rw [← h.1]; exact hi)] at a;rw [← h.1] at a;cases b:i - o.length with
  |zero=>
   rw [b] at h1 a;cases h1; cases a; exact c
  |succ j=>
   rw [b] at h1;simp at h1
theorem zsw {a b c d e:Int} (h:i64 a ∧ i64 b ∧ i64 c ∧ i64 d ∧ i64 e) (k:Nat):i64 ([a,b,c,d,e].getD k 0):=by
 obtain ⟨f,h1,g,i,j⟩:=h
 match k with
 |0=>exact f
 |1=>exact h1
 |2=>exact g
 |3=>exact i
 |4=>exact j
 |n + 5=>exact (⟨by decide,by decide⟩:i64 0)
theorem yd7 (a b c d e:Int) {k:Nat} (h:k < 5):zd3 [SA.int .i64 a,.int .i64 b,.int .i64 c,.int .i64 d,.int .i64 e] (((k:Nat):Int).toNat * 1) 1 = some [.int .i64 ([a,b,c,d,e].getD k 0)]:=by
 have f:k = 0 ∨ k = 1 ∨ k = 2 ∨ k = 3 ∨ k = 4:=by omega
 rcases f with rfl | rfl | rfl | rfl | rfl<;>rfl
theorem yah {k:Nat} (h:k < 5):[[SA.int .i64 1],[.int .i64 2],[.int .i64 3],[.int .i64 4],[.int .i64 7]][0 + ((k:Nat):Int).toNat]? = some [.int .i64 (prp9.getD k 0)]:=by
 have a:k = 0 ∨ k = 1 ∨ k = 2 ∨ k = 3 ∨ k = 4:=by omega
 rcases a with rfl | rfl | rfl | rfl | rfl<;>rfl
theorem zu4:∀ i,i < 5 → ∀ j,j < 6 → (stp9 i j).length ≤ 2:=by decide
theorem yde {G:Fz} {b:Nat} {d e f h i:Int} (B:i64 d ∧ i64 e ∧ i64 f ∧ i64 h ∧ i64 i) (x:TblAt G b) {k:Nat} (g:k < 5):∃ (J:Int) (p:List Stp) (n:SA) (R:List (List SA)) (br:Nat) (m:List (List SA)),
  (∀ F,Fo Tryz.prog F 47 [.va (.int .i64 ([d,e,f,h,i].getD k 0)),.va (.int .i64 6)] (fun o u=>o = .ret (.va (.int .i64 J)) ∧ u = F)) ∧ 0 ≤ J ∧ J < 6 ∧ p.length ≤ 2 ∧
  keep9 [d,e,f,h,i] (k + 1) = keep9 [d,e,f,h,i] k ++ (if p = [] then [] else [(prp9.getD k 0,p)]) ∧ G b = some (.arr 99 1 R 5) ∧ R[0 + (k:Int).toNat]? = some [.slice false 0 br 0 1 6 6] ∧
  G br = some (.arr 50 1 m 6) ∧ m[0 + J.toNat]? = some [n] ∧ zoz G n p:=by
 have l:=zsw B k;have j:=zco ([d,e,f,h,i].getD k 0) 6 (by decide) l;obtain ⟨R,w,c⟩:=x;obtain ⟨D,s,br,m,rfl,y,A⟩:=c k g;obtain ⟨n,q,a⟩:=A (pickI ([d,e,f,h,i].getD k 0) 6).toNat (by omega);exact ⟨_,stp9 k (pickI ([d,e,f,h,i].getD k 0) 6).toNat,n,R,br,m,fun F=>zk1 _ 6 l (by decide) F,j.1,j.2,zu4 k g _ (by omega),rfl,w,by rw [qp,q5]; exact s,y,by rw [q5]; exact q,a⟩
theorem zyr {μ:Mu} {z a b:Int} {c i:Nat} {o:List ZC} {A:SA} (d:A = (gA 2 i c o).ren μ):SB.cells 32 [.int .i64 z,.int .i64 a,.int .i64 b,.lit false,A] = SB.ren μ (.cells 32 [.int .i64 z,.int .i64 a,.int .i64 b,.lit false,gA 2 i c o]):=by subst d; rfl
theorem z0c (h:Hp) (l:List Stp) (c:Nat):SB.ren (resP h) (.arr 56 2 (l.map enc) c) = .arr 56 2 (l.map enc) c:=by
 show SB.arr 56 2 ((l.map enc).map (List.map (SA.ren (resP h)))) c = _;rw [zxq]
theorem zsr (l:List Stp) (c:Nat):SB.below 1 (.arr 56 2 (l.map enc) c):=by
 intro r b t a;obtain ⟨x,_,rfl⟩:=qz.1 b;simp only [enc,qj,qs,or_false] at a;rcases a with rfl | rfl<;>trivial
theorem zzq {h:Hp} (a:∀ k,resP h 0 k = (0,k)) {i z:Nat} (b:resP h i 0 = (0,z)) (l:List ZC) (p:Int) (n c c':Nat):SB.ren (resP h) (.arr 96 2 (l.map encZ ++ [[.int .i64 p,.slice false i 0 0 2 n c]]) c') = .arr 96 2 (l.map encZ ++ [[.int .i64 p,.slice false 0 z 0 2 n c]]) c':=by
 show SB.arr 96 2 ((l.map encZ ++ ([[.int .i64 p,.slice false i 0 0 2 n c]]:List (List SA))).map (List.map (SA.ren (resP h)))) c' = _;rw [jj,z8i zb7 a];show SB.arr 96 2 (l.map encZ ++ [[.int .i64 p,.slice false (resP h i 0).1 (resP h i 0).2 0 2 n c]]) c' = _;rw [b]
theorem zqr {n:Nat} (b:0 < n) (l:List ZC) (x:ZC) (c:Nat):SB.below n (.arr 96 2 (l.map encZ ++ [encZ x]) c):=by
 have:=zd1 (n:=n) (e:=encZ) zb7 b 96 2 c (l ++ [x]);have a:SB.below n (.arr 96 2 ((l ++ [x]).map encZ) c):=this;rw [jj] at a;exact a
theorem yc1 {G:Fz} {z c:Nat} {p:Int} {l:List Stp} (h:G z = some (.arr 56 2 (l.map enc) c)):KpR G [.int .i64 p,.slice false 0 z 0 2 (0 + (l.map enc).length) c] (p,l):=by
 refine ⟨_,rfl,false,z,0,c,_,c,by rw [q5,qa],by simp,fun _=>h,by rw [qa]; exact qb7 (q5 _),?_⟩;rw [qag,qn (by rw [qa]; exact qm _)]
theorem ya3 {α:Type} {l:List α} {n:Nat} (h:l.length = n):List.take n (List.drop 0 l) = l:=by
 subst h; exact yu
theorem tk9 {t:TypeId} {l:List SA} {p:Pl} {K:List SA → Prop} {x:List SA} (h:zd3 l (p.e * p.sz + p.o) 1 = some x) (a:K x):rdB (.cells t l) p 1 K:=by
 simp only [rdB]; rw [h]; exact a
def made9 (a b c d e f g:Int):Mig:=⟨IntKind.i64.wrap (1 + pickI c 9),a,b,(keep9 [c,d,e,f,g] 5).isEmpty && decide (pickI (c.tdiv 6) 2 = 0),keep9 [c,d,e,f,g] 5⟩
theorem z94 {i a b:SA} {c:Bool} (ρ:Rho) (e:Ending) (h:(Out.ret (.agg [i,a,b,.bool c,.nilsl])).rel ρ e):(Out.ret (.agg [i,a,b,.lit c,.slice true 0 0 0 2 0 0])).rel ρ e:=h
theorem z92 {i a b:SA} {c:Bool} {n:Nat} (h:(Out.ret (.agg [i,a,b,.bool c,.nilsl])).below n):(Out.ret (.agg [i,a,b,.lit c,.slice true 0 0 0 2 0 0])).below n:=by
 intro t d;simp only [qj,qs,or_false] at d;rcases d with rfl | rfl | rfl | rfl | rfl
 ·exact h _ (by simp)
 ·exact h _ (by simp)
 ·exact h _ (by simp)
 ·trivial
 ·exact .inl rfl
theorem fin9n {G:Fz} {a b c d e f g:Int} (h:RowL G (keep9 [c,d,e,f,g] 5) []):∃ sk,Out.ret (SV.agg [.int .i64 (IntKind.i64.wrap (1 + pickI c 9)),.int .i64 a,.int .i64 b,.lit (decide (pickI (c.tdiv 6) 2 = 0)),.slice true 0 0 0 2 0 0]) = .ret (.agg (migS (made9 a b c d e f g) sk)) ∧ KpsAt G sk (made9 a b c d e f g).keep:=by
 have i:keep9 [c,d,e,f,g] 5 = []:=jv h.1.symm;refine ⟨.slice true 0 0 0 2 0 0,by unfold made9; rw [i]; rfl,?_⟩;show KpsAt G _ (keep9 [c,d,e,f,g] 5);rw [i];exact SlR.nil
theorem fin9c {G:Fz} {a b d f g j k:Int} {m:ZC} {c:List ZC} {n l:Nat} (h:RowL G (keep9 [d,f,g,j,k] 5) (m :: c)) (s:G n = some (.arr 96 2 ((m :: c).map encZ) l)):∃ sk,Out.ret (SV.agg [.int .i64 (IntKind.i64.wrap (1 + pickI d 9)),.int .i64 a,.int .i64 b,.lit false,.slice false 0 n 0 2 (c.length + 1) l]) = .ret (.agg (migS (made9 a b d f g j k) sk)) ∧ KpsAt G sk (made9 a b d f g j k).keep:=by
 have e:c.length + 1 = (keep9 [d,f,g,j,k] 5).length:=h.1;obtain ⟨K,q⟩:∃ K,keep9 [d,f,g,j,k] 5 = K:=⟨_,rfl⟩
 unfold made9;rw [q] at e h ⊢;rcases K with _ | ⟨u,w⟩
 ·cases e
 refine ⟨_,rfl,?_⟩;show KpsAt G _ (u :: w);refine ⟨false,n,0,l,_,l,by rw [e],fun h=>(nomatch h),fun _=>s,by rw [qa]; exact qb7 ((q5 _).trans e.symm),fun i x p=>?_⟩
 have o:i < (m :: c).length:=by
  have:=(qi.1 p).1;rw [← e] at this; exact this
 rw [q5];exact ⟨encZ (m :: c)[i],by rw [qy,qe o]; rfl,h.2 i _ x (qe o) p⟩
theorem z2i (F:Fz) (a b:Int) (h Z x2 x3 x4:Int) (hx:i64 h ∧ i64 Z ∧ i64 x2 ∧ i64 x3 ∧ i64 x4) :
  Fo Tryz.prog F 13 [.va (.int .i64 a),.va (.int .i64 b),.agg [.int .i64 h,.int .i64 Z,.int .i64 x2,.int .i64 x3,.int .i64 x4]] (fun o F'=>∃ sk,o = .ret (.agg (migS (made9 a b h Z x2 x3 x4) sk)) ∧ KpsAt F' sk (made9 a b h Z x2 x3 x4).keep):=by
 have bh:=fun F=>zk1 h 9 hx.1 (by decide) F
 have bg:=fun F=>zk1 (h.tdiv 6) 2 (zmc hx.1) (by decide) F
 have a7:h.tdiv 6 = IntKind.i64.wrap (h.tdiv 6):=by
  have:=zmc hx.1;unfold i64 at this;exact (zaj (by omega) (by omega)).symm
 refine fo_of hΘ Tryz.func13 rfl (by decide) _ _ rfl rfl rfl ?_;refine ⟨⟨by decide,by decide⟩,?_⟩;refine usePu (bh F) rfl ⟨rfl,rfl,tv⟩ rfl ?_;refine zce 4 (fun _=>.arr 56 2 [[.int .i64 6,.int .i64 0]] 1) rfl rfl rfl (fun _ _=>rfl) (fun _ _=>SB.bB_ok rfl) ?_;intro z4 G4 u4 ap;refine zce 5 (fun _=>.arr 56 2 [[.int .i64 1,.int .i64 0]] 1) rfl rfl rfl (fun _ _=>rfl) (fun _ _=>SB.bB_ok rfl) ?_;intro z5 G5 u5 aq;refine zce 6 (fun _=>.arr 56 2 [[.int .i64 2,.int .i64 0]] 1) rfl rfl rfl (fun _ _=>rfl) (fun _ _=>SB.bB_ok rfl) ?_;intro z6 G6 u6 ar;refine zce 7 (fun _=>.arr 56 2 [[.int .i64 1,.int .i64 0],[.int .i64 2,.int .i64 0]] 2) rfl rfl rfl (fun _ _=>rfl) (fun _ _=>SB.bB_ok rfl) ?_;intro z7 G7 u7 au;refine zce 9 (fun _=>.arr 56 2 [[.int .i64 4,.int .i64 3]] 1) rfl rfl rfl (fun _ _=>rfl) (fun _ _=>SB.bB_ok rfl) ?_;intro z9 G9 u9 aw;refine zce 10 (fun _=>.arr 56 2 [[.int .i64 4,.int .i64 0]] 1) rfl rfl rfl (fun _ _=>rfl) (fun _ _=>SB.bB_ok rfl) ?_;intro bx ca bk K;refine zce 11 (fun _=>.arr 56 2 [[.int .i64 4,.int .i64 6]] 1) rfl rfl rfl (fun _ _=>rfl) (fun _ _=>SB.bB_ok rfl) ?_;intro bz cb bl L;refine zce 13 (fun _=>.arr 56 2 [[.int .i64 3,.int .i64 10]] 1) rfl rfl rfl (fun _ _=>rfl) (fun _ _=>SB.bB_ok rfl) ?_;intro b1 cd bn O;refine zce 14 (fun _=>.arr 56 2 [[.int .i64 3,.int .i64 100]] 1) rfl rfl rfl (fun _ _=>rfl) (fun _ _=>SB.bB_ok rfl) ?_;intro b2 ce bo Q;refine zce 17 (fun _=>.arr 56 2 [[.int .i64 5,.int .i64 0]] 1) rfl rfl rfl (fun _ _=>rfl) (fun _ _=>SB.bB_ok rfl) ?_;intro b5 ch bs U
 refine zce 18 (fun _=>.arr 56 2 [[.int .i64 5,.int .i64 0],[.int .i64 5,.int .i64 0]] 2) rfl rfl rfl (fun _ _=>rfl) (fun _ _=>SB.bB_ok rfl) ?_;intro b6 ci bt V;refine zce 8 (fun _=>.arr 50 1 [[.nilsl],[.slice false 0 (z5 0) 0 2 1 1],[.slice false 0 (z6 0) 0 2 1 1],[.slice false 0 (z7 0) 0 2 2 2],[.slice false 0 (z4 0) 0 2 1 1],[.nilsl]] 6) rfl rfl rfl (fun _ _=>rfl) (fun _ _=>SB.bB_ok rfl) ?_;intro z8 G8 u8 av;refine zce 12 (fun _=>.arr 50 1 [[.nilsl],[.slice false 0 (z9 0) 0 2 1 1],[.slice false 0 (bx 0) 0 2 1 1],[.slice false 0 (z4 0) 0 2 1 1],[.nilsl],[.slice false 0 (bz 0) 0 2 1 1]] 6) rfl rfl rfl (fun _ _=>rfl) (fun _ _=>SB.bB_ok rfl) ?_;intro b0 cc bm M;refine zce 15 (fun _=>.arr 50 1 [[.nilsl],[.slice false 0 (b1 0) 0 2 1 1],[.slice false 0 (b2 0) 0 2 1 1],[.slice false 0 (z4 0) 0 2 1 1],[.nilsl],[.nilsl]] 6) rfl rfl rfl (fun _ _=>rfl) (fun _ _=>SB.bB_ok rfl) ?_;intro b3 cf bp S;refine zce 16 (fun _=>.arr 50 1 [[.nilsl],[.nilsl],[.nilsl],[.slice false 0 (z4 0) 0 2 1 1],[.nilsl],[.nilsl]] 6) rfl rfl rfl (fun _ _=>rfl) (fun _ _=>SB.bB_ok rfl) ?_;intro b4 cg bq T;refine zce 19 (fun _=>.arr 50 1 [[.nilsl],[.slice false 0 (b5 0) 0 2 1 1],[.slice false 0 (b6 0) 0 2 2 2],[.slice false 0 (z4 0) 0 2 1 1],[.nilsl],[.nilsl]] 6) rfl rfl rfl (fun _ _=>rfl) (fun _ _=>SB.bB_ok rfl) ?_;intro b7 ck bu W;refine zce 20 (fun _=>.arr 99 1 [[.slice false 0 (z8 0) 0 1 6 6],[.slice false 0 (b0 0) 0 1 6 6],[.slice false 0 (b3 0) 0 1 6 6],[.slice false 0 (b4 0) 0 1 6 6],[.slice false 0 (b7 0) 0 1 6 6]] 5) rfl rfl rfl (fun _ _=>rfl) (fun _ _=>SB.bB_ok rfl) ?_
 intro b8 u bw Y;have bj:=Fz.r u;have a6:=Fz.t bw bj;have a3:=Fz.t bu a6;have a2:=Fz.t bq a3;have az:=Fz.t bp a2;have l8:=Fz.t bm az;have a5:=Fz.t u8 l8;have a4:=Fz.t bt a5;have a1:=Fz.t bs a4;have a0:=Fz.t bo a1;have ay:=Fz.t bn a0;have ax:=Fz.t bl ay;have l9:=Fz.t bk ax;have l7:=Fz.t u9 l9;have l6:=Fz.t u7 l7;have l5:=Fz.t u6 l6;have l4:=Fz.t u5 l5;have hT:=ydt (l4 _ _ (ap 0 rfl)) (l5 _ _ (aq 0 rfl)) (l6 _ _ (ar 0 rfl)) (l7 _ _ (au 0 rfl)) (l9 _ _ (aw 0 rfl)) (ax _ _ (K 0 rfl)) (ay _ _ (L 0 rfl)) (a0 _ _ (O 0 rfl)) (a1 _ _ (Q 0 rfl)) (a4 _ _ (U 0 rfl)) (a5 _ _ (V 0 rfl)) (l8 _ _ (av 0 rfl)) (az _ _ (M 0 rfl)) (a2 _ _ (S 0 rfl)) (a3 _ _ (T 0 rfl)) (a6 _ _ (W 0 rfl)) (Y 0 rfl);refine resT 9 (.va (.slice false 0 (b8 0) 0 1 5 5)) rfl rfl (.inr (show (0:Nat) < 21 by decide)) ?_;have lF:=Fz.t u4 l4;clear ap aq ar au aw K L O Q U V av M S T W Y
 refine z2h hΘ (X:={ y:Nat × List ZC × Nat × Fz // y.1 ≤ 5 ∧ Fz.le u y.2.2.2 ∧ RowL y.2.2.2 (keep9 [h,Z,x2,x3,x4] y.1) y.2.1 ∧ y.2.1.length ≤ y.1 }) (fun y=>[(10,.va (.int .i64 y.1.1))]) [11,12,55,56,57,58,59,60,61,62,63,64,65,66,67,68,69,70,71,72,73,74,75,76,77,78,79,80,81,82,83,84,85]
  (fun y=>[(0,.frz y.1.2.2.2),(1,box9 h Z x2 x3 x4),(3,.one (.cells 32 [.int .i64 (IntKind.i64.wrap (1 + pickI h 9)),.int .i64 a,.int .i64 b,.lit false,gA 2 21 y.1.2.2.1 y.1.2.1])),(21,gE 96 2 encZ y.1.2.2.1 y.1.2.1)]) 22 (fun y=>5 - y.1.1) ⟨(0,[],0,u),yj _,Fz.r _,RowL.nil,qm _⟩
  (fun hH hT=>leI [(21,21)] hH hT rfl ⟨tv,zgt,zg2 (by omega),zd1 zb7 (by omega) _ _ _ _,tv⟩ ⟨rfl,tv⟩ ⟨Fz.r u,rfl,rfl,rfl,tv⟩) ?_
 rintro ⟨⟨k,o,co,G⟩,hk,E,d,q⟩ hH aa;replace hk:k ≤ 5:=hk;replace E:Fz.le u G:=E;replace d:RowL G (keep9 [h,Z,x2,x3,x4] k) o:=d;replace q:o.length ≤ k:=q;by_cases g:k < 5
 ·have w:(k:Int) < 5:=by omega
  have x:5 - (k + 1) < 5 - k:=by omega
  have A:k < 4611686018427387904:=by omega
  have al:=yah g;have an:=yd7 h Z x2 x3 x4 g;have bi:=yde hx (hT.mono E) g;obtain ⟨J,st,cj,R,cl,R',ak,af,ag,b9,e,hR,am,ad,ae,c⟩:=bi;refine Or.elim c (fun c=>?_) (fun c=>?_)
  ·obtain ⟨rfl,rfl⟩:=c;rw [if_pos rfl,jm] at e;refine bri w ?_;refine ⟨rfl,⟨ju k,w⟩,_,al,?_⟩;refine drawP hΘ mixed (lk [0,1,2,3,4,5,6] (.alt 7 (lk [8,9,10] .done) .nil)) [1] (by kernel_rfl) ?_;refine ⟨rfl,⟨ju k,w⟩,rfl,_,hR,_,am,⟨ju k,w⟩,rfl,?_⟩;refine tk9 (t:=28) (p:=⟨0,0,(k:Int).toNat,1,0⟩) an ?_;refine usePu (ak G) rfl ⟨rfl,rfl,tv⟩ rfl ?_;refine ⟨Fz.r G,rfl,rfl,⟨af,ag⟩,rfl,_,ad,_,ae,?_⟩;refine brd (by decide) ?_;exact zrt ⟨⟨(k + 1,o,co,G),g,E,by rw [e]; exact d,qa1 q⟩,x,leR [(21,21)] hH aa rfl ⟨tv,zgt,zg2 (by omega),zd1 zb7 (by omega) _ _ _ _,tv⟩ ⟨cnt A,tv⟩ ⟨Fz.r G,rfl,zyr (zgn (μ:=sig [(21,21)]) (i:=21) (j:=21) rfl o),zln (μ:=sig [(21,21)]) zb7 (fun k=>rfl) (zay _ _ _ _),tv⟩⟩
  ·obtain ⟨ai,cm,rfl,bb⟩:=c;have aj:¬ st = []:=qa5.1 ai;have bf:(0:Int) < (st.length:Int):=by omega
   rw [if_neg aj] at e;rcases st with _ | ⟨s0,s⟩
   ·exact absurd rfl aj
   have hX:=ya3 (l:=(s0 :: s).map enc) (n:=(s0 :: s).length) (qa _);have a9:(0 + ((s0 :: s).map enc).length) * 16 ≤ 140737488355328:=by rw [qa]; omega
   have a8:0 + (s0 :: s).length ≤ ((s0 :: s).map enc).length:=by rw [qa]; omega
   have I:∀ n,n ≤ k → (n + 1) * 32 ≤ 140737488355328:=fun n hn=>by omega
   rcases o with _ | ⟨o0,B⟩
   all_goals
    refine bri w ?_;refine ⟨rfl,⟨ju k,w⟩,_,al,?_⟩;refine drawP hΘ mixed (lk [0,1,2,3,4,5,6] (.alt 7 (lk [8,9,10] .done) .nil)) [1] (by kernel_rfl) ?_;refine ⟨rfl,⟨ju k,w⟩,rfl,_,hR,_,am,⟨ju k,w⟩,rfl,?_⟩;refine tk9 (t:=28) (p:=⟨0,0,(k:Int).toNat,1,0⟩) an ?_;refine usePu (ak G) rfl ⟨rfl,rfl,tv⟩ rfl ?_;refine ⟨Fz.r G,rfl,rfl,⟨af,ag⟩,rfl,_,ad,_,ae,?_⟩;refine bri bf ?_;refine drawP hΘ mixed (lk [0,1,2,4] (.alt 3 (.alt 5 (.alt 6 (.alt 7 (.alt 8 (.look 9 (.last 10 .done)) .nil) .nil) .nil) .nil) .nil)) [3] (by kernel_rfl) ?_;refine ⟨rfl,Fz.r G,rfl,_,_,_,bb,a8,_,hX,rfl,rfl,rfl,a9,fun D cn=>?_⟩;refine ⟨Fz.r G,rfl,Fz.r G,rfl,Fz.r G,rfl,nb rfl,[[.int .i64 (prp9.getD k 0),.slice false 24 0 0 2 (0 + ((s0 :: s).map enc).length) D]],rfl,?_⟩;conv=>whnf
    first
     |refine ⟨rfl,rfl,by simp,rfl,I _ q,fun c' bc=>?_⟩
     |(refine ⟨rfl,rfl,?_⟩; (conv=>whnf); refine ⟨I 0 (yj _),fun c' bc=>?_⟩)
    refine ⟨Fz.r G,rfl,?_⟩;refine zrs 24 (fun _=>.arr 56 2 ((s0 :: s).map enc) D) rfl rfl rfl (fun _ _=>z0c _ _ _) (fun _ _=>zsr _ _) ?_;intro m ac ab ao
    first
     |refine ztg 26 _ rfl (zzq (fun _=>rfl) (i:=24) (z:=m 0) rfl (o0 :: B) (prp9.getD k 0) (0 + ((s0 :: s).map enc).length) D c') (zqr (show 0 < 27 by decide) (o0 :: B) (mkZ _ (.slice false 0 (m 0) 0 2 _ D) rfl) _) ?_
     |refine ztg 26 _ rfl (zzq (fun _=>rfl) (i:=24) (z:=m 0) rfl [] (prp9.getD k 0) (0 + ((s0 :: s).map enc).length) D c') (zqr (show 0 < 27 by decide) [] (mkZ _ (.slice false 0 (m 0) 0 2 _ D) rfl) _) ?_
    have be:=yc1 (p:=prp9.getD k 0) (ao 0 rfl);have f:=(d.mono ab).snoc (z:=mkZ (prp9.getD k 0) (.slice false 0 (m 0) 0 2 (0 + ((s0 :: s).map enc).length) D) rfl) be;rw [← e] at f
    first
     |exact zrt ⟨⟨(k + 1,(o0 :: B) ++ [mkZ (prp9.getD k 0) (.slice false 0 (m 0) 0 2 (0 + ((s0 :: s).map enc).length) D) rfl],c',ac),g,Fz.t E ab,f,by rw [qd]; exact qch q 1⟩,x,leR [(21,26)] hH aa rfl ⟨tv,zgt,zg2 (by omega),zd1 zb7 (by omega) _ _ _ _,tv⟩ ⟨cnt A,tv⟩ ⟨Fz.r _,rfl,zyr (znp (μ:=sig [(21,26)]) rfl rfl),zln (μ:=sig [(21,26)]) zb7 (fun k=>rfl) (zcr _ (by rw [jj]; rfl)),tv⟩⟩
     |exact zrt ⟨⟨(k + 1,[] ++ [mkZ (prp9.getD k 0) (.slice false 0 (m 0) 0 2 (0 + ((s0 :: s).map enc).length) D) rfl],c',ac),g,Fz.t E ab,f,by rw [qd]; exact qch q 1⟩,x,leR [(21,26)] hH aa rfl ⟨tv,zgt,zg2 (by omega),zd1 zb7 (by omega) _ _ _ _,tv⟩ ⟨cnt A,tv⟩ ⟨Fz.r _,rfl,zyr (znp (μ:=sig [(21,26)]) rfl rfl),zln (μ:=sig [(21,26)]) zb7 (fun k=>rfl) (zcr _ (by rw [jj]; rfl)),tv⟩⟩
 ·have w:¬ (k:Int) < 5:=by omega
  have bd:k = 5:=by omega
  subst bd;rcases o with _ | ⟨o0,B⟩
  ·refine brj w ?_;refine gae (by simp) ?_;refine ⟨⟨by decide,by decide⟩,by decide,?_⟩;refine usePu (bg G) rfl ⟨oi a7,rfl,tv⟩ rfl ?_;refine relE (.ret (.agg [.int .i64 (IntKind.i64.wrap (1 + pickI h 9)),.int .i64 a,.int .i64 b,.lit (decide (pickI (h.tdiv 6) 2 = 0)),.slice true 0 0 0 2 0 0])) z94 z92 ?_;exact endFo _ G rfl (Fz.t lF E) (Fz.r G) (fin9n d) (zah _) rfl
  ·refine brj w ?_;refine ⟨fun g=>absurd g (by simp; try omega),fun _=>?_⟩;refine zbn 21 (fun _=>.arr 96 2 ((o0 :: B).map encZ) co) rfl rfl rfl (fun _ _=>by exact zis (μ:=resP _) zb7 (fun k=>rfl) rfl _ _ _) (fun _ _=>zfc zb7 (by omega) _ _ _ _) ?_;intro b' F' ah ba;exact endFo _ F' rfl (Fz.t (Fz.t lF E) ah) (Fz.r F') (fin9c (d.mono ah) (ba 0 ⟨rfl,rfl⟩)) (zah _) rfl
theorem zz8 (F:Fz) (A B:SA) (a b:List Stp) (E:za1 F A a) (Q:za1 F B b) (la:a.length < 1000000) :
  Fo Tryz.prog F 97 [.va A,.va B] (fun o e=>o = .ret (.va (.bool (decide (a = b)))) ∧ e = F):=by
 obtain ⟨M,J,L,K,I,O,rfl,j,q,G,s⟩:=E;obtain ⟨W,T,V,U,S,Y,rfl,l,u,R,w⟩:=Q
 have d:∀ (v:Bool) (h:Hp) (nx:Nat),v = decide (a = b) → lget h 0 = some (.frz F) →
   Cln 1 (FoK F fun o e=>o = .ret (.va (.bool (decide (a = b)))) ∧ e = F) (.ret (.va (.bool v))) h nx:=by
  intro v h nx y m;exact endPu m (Fz.r F) (by rw [y]; rfl) rfl
 have finL:∀ (v:Bool) (h:Hp) (nx:Nat),v = decide (a = b) → lget h 0 = some (.frz F) →
   Cln 1 (FoK F fun o e=>o = .ret (.va (.bool (decide (a = b)))) ∧ e = F) (.ret (.va (.lit v))) h nx:=by
  intro v h nx y m;exact endPu m (Fz.r F) (by rw [← y]; exact rfl) rfl
 refine fo_of hΘ Tryz.func97 rfl (by decide) _ _ rfl rfl rfl ?_;refine br (fun g=>?_) (fun g=>?_)
 ·conv=>whnf
  have:¬ a = b:=by rintro rfl; simp at g
  have c:false = decide (a = b):=by simp [this]
  first | exact d _ _ _ c rfl | exact finL _ _ _ c rfl
 ·have Z:a.length = b.length:=neq_f g
  conv=>whnf
  refine zam hΘ (X:={ k:Nat // k ≤ a.length ∧ a.take k = b.take k }) (fun k=>[(5,.va (.int .i64 k.1))]) [4,11,12,13,14,15,16,17,18,19,20,21,22,23,24,25] (fz fun _=>F) 1 (fun k=>a.length - k.1) ⟨0,by simp⟩
   (fun n p=>le0 n p rfl (Fz.r F) rfl ⟨rfl,tv⟩) ?_
  rintro ⟨k,hk,x⟩ n p;refine br (fun g=>?_) (fun g=>?_)
  ·have g:k < a.length:=by simpa using g
   have i:k < b.length:=by omega
   refine drawP hΘ mixed (lk [0,1,2,3,4,5,6,7,8] .done) [] (by kernel_rfl) ?_;refine ⟨Sl.lt j g,⟨by simp,by simpa using g⟩,rfl,_,q (Sl.lt j g),_,Sl.at s g,Sl.lt l i,⟨by simp,by simpa using i⟩,rfl,_,u (Sl.lt l i),_,Sl.at w i,_,agg50 _ _ _ _,?_⟩;refine br (fun f=>?_) (fun f=>?_)
   ·conv=>whnf
    have:¬ a = b:=by rintro rfl; simp at f
    have c:false = decide (a = b):=by simp [this]
    first | exact d _ _ _ c rfl | exact finL _ _ _ c rfl
   ·refine ⟨⟨k + 1,by omega,?_⟩,by show a.length - (k + 1) < a.length - k; omega,lr0 n p rfl (Fz.r F) rfl ⟨cnt (by omega),tv⟩⟩
    have D:a[k] = b[k]:=by
     simp at f; exact Prod.ext f.1 f.2
    rw [qg g,qg i,x,D]
  ·conv=>whnf
   have g:¬ k < a.length:=by simpa using g
   have h1:a = b:=by
    rw [qn (by omega),qn (by omega)] at x; exact x
   have c:true = decide (a = b):=by simp [h1]
   first | exact d _ _ _ c rfl | exact finL _ _ _ c rfl
theorem z7w {p:Prop} [Decidable p] (h:(!decide p) = false):p:=by simpa using h
theorem z7x {p:Prop} [Decidable p] (h:(!decide p) = true):¬ p:=by simpa using h
theorem zwc (F:Fz) (B D:SA) (a b:List Kp) (w:ClsAt F B a) (A:ClsAt F D b) (hs:short a) (la:a.length < 1000000) :
  Fo Tryz.prog F 39 [.va B,.va D] (fun o n=>o = .ret (.va (.bool (decide (a = b)))) ∧ n = F):=by
 have i:∀ (v:Bool) (h:Hp) (nx:Nat),decide (a = b) = v → lget h 0 = some (.frz F) → Cln 1 (FoK F fun o n=>o = .ret (.va (.bool (decide (a = b)))) ∧ n = F) (.ret (.va (.bool v))) h nx:=by
  intro v h nx Q I;exact endPu I (Fz.r F) (ob Q) rfl
 have finL:∀ (v:Bool) (h:Hp) (nx:Nat),decide (a = b) = v → lget h 0 = some (.frz F) → Cln 1 (FoK F fun o n=>o = .ret (.va (.bool (decide (a = b)))) ∧ n = F) (.ret (.va (.lit v))) h nx:=by
  intro v h nx Q I;exact endPu I (Fz.r F) (by rw [Q]; exact rfl) rfl
 obtain ⟨an,ab,ae,ac,aL,ar,rfl,Y,R,a3,Z⟩:=w;obtain ⟨bn,bb,be,bc,bL,aa,rfl,b1,S,b3,b4⟩:=A;refine fo_of hΘ Tryz.func39 rfl (by decide) _ _ rfl rfl rfl ?_;refine br (fun g=>?_) (fun g=>?_)
 ·conv=>whnf
  have:¬ a = b:=by rintro rfl; simp at g
  have f:decide (a = b) = false:=by simp [this]
  first | exact i _ _ _ f rfl | exact finL _ _ _ f rfl
 ·have gl:a.length = b.length:=neq_f g
  conv=>whnf
  refine zam hΘ (X:={ k:Nat // k ≤ a.length ∧ a.take k = b.take k }) (fun x=>[(5,.va (.int .i64 x.1))]) [4,6,12,13,14,15,16,17,18,19,20,21,22,23,24,25,26,27,28,29,30,31,32,33,34,35,36,37,38,39,40,41,42,43] (fz fun _=>F) 1 (fun x=>a.length - x.1) ⟨0,by simp,rfl⟩
   (fun L M=>leI [] L M rfl ⟨tv,tv⟩ ⟨rfl,tv⟩ ⟨Fz.r F,tv⟩) ?_
  rintro ⟨k,a6,U⟩ L M;by_cases g:k < a.length
  ·have c:k < b.length:=gl ▸ g;have p:(k:Int) < (a.length:Int):=by omega
   have q:(k:Int) < (b.length:Int):=by omega
   have s:a.length - (k + 1) < a.length - k:=by omega
   have u:k < 4611686018427387904:=by omega
   have hx:=hs (a[k]'g) (jp g);have d:=SlR.at Z g;obtain ⟨y,V,B,rfl,w⟩:=d;have d:=SlR.at b4 c;obtain ⟨z,W,D,rfl,A⟩:=d;have m:=zz8 F B D (a[k]'g).2 (b[k]'c).2 w A hx;have j:=SlR.lt Y g;have l:=SlR.lt b1 c;have O:(a[k]'g).1 = (b[k]'c).1 → (a[k]'g).2 = (b[k]'c).2 → a.take (k + 1) = b.take (k + 1):=fun h1 h2=>by rw [qg g,qg c,U,(Prod.ext h1 h2:a[k]'g = b[k]'c)]
   have J:¬ (a[k]'g).1 = (b[k]'c).1 → decide (a = b) = false:=fun h=>decide_eq_false fun e=>h (by subst e; rfl)
   have K:¬ (a[k]'g).2 = (b[k]'c).2 → decide (a = b) = false:=fun h=>decide_eq_false fun e=>h (by subst e; rfl)
   obtain ⟨am,aj,al,ak,ai,ao,rfl,ad,af,ag,ah⟩:=w;obtain ⟨a0,ax,az,ay,aw,a5,rfl,ap,aq,au,av⟩:=A;refine bri p ?_;refine drawP hΘ mixed (lk [0,1,2,3,4,5,6,7,8,9] (.alt 10 (.look 11 .done) .nil)) [] (by kernel_rfl) ?_;refine ⟨j,⟨by simp,p⟩,rfl,_,R j,_,V,l,⟨by simp,q⟩,rfl,_,S l,_,W,?_⟩;refine usePu (m) rfl (zaa _) rfl ?_;conv=>whnf
   refine ⟨Fz.r F,?_⟩;refine drawP hΘ mixed (lk [0,1,2,3,4,5,6,7,8,9,10,11,12,13,14] .done) [] (by kernel_rfl) ?_;refine ⟨j,⟨by simp,p⟩,rfl,_,R j,_,V,l,⟨by simp,q⟩,rfl,_,S l,_,W,fun E=>?_,fun E=>?_⟩
   ·have e1:(a[k]'g).1 = (b[k]'c).1:=z7w E;refine br (fun G=>?_) (fun G=>?_)
    ·have f:=K (z7x G)
     conv=>whnf
     first | exact i false _ _ f rfl | exact finL false _ _ f rfl
    ·have e2:(a[k]'g).2 = (b[k]'c).2:=z7w G;have f:=O e1 e2;exact ⟨⟨k + 1,g,f⟩,s,leR [] L M rfl ⟨tv,tv⟩ ⟨cnt u,tv⟩ ⟨Fz.r F,tv⟩⟩
   ·have f:=J (z7x E)
    conv=>whnf
    first | exact i false _ _ f rfl | exact finL false _ _ f rfl
  ·have p:¬ (k:Int) < (a.length:Int):=by omega
   have T:decide (a = b) = true:=decide_eq_true (by rw [← qn (show a.length ≤ k by omega),U,qn (by omega)]);refine brj p ?_;conv=>whnf
   first | exact i true _ _ T rfl | exact finL true _ _ T rfl
theorem zs3:∀ (l:List Kp) (x:Kp),asc l = true → (∀ y ∈ l,y.1 < x.1) → asc (l ++ [x]) = true
 |[],_,_,_=>rfl
 |[a],x,_,h=>by
  show (decide (a.1 < x.1) && asc [x]) = true;rw [decide_eq_true (h a (by simp))]; rfl
 |a :: b :: r,x,ha,h=>by
  rw [asc,qf] at ha;show (decide (a.1 < b.1) && asc ((b :: r) ++ [x])) = true;rw [ha.1,zs3 (b :: r) x ha.2 fun y c=>h y (yp _ c)]; rfl
theorem yai:∀ k,k < 5 → ∀ i,i < k → prp9.getD i 0 < prp9.getD k 0:=by decide
theorem zyb:∀ i,i < 5 → ∀ j,j < 6 → stp9 i j = [] ∨ zbi (prp9.getD i 0,stp9 i j) = true:=by decide
theorem zkp {a:List Int} (c:∀ k,i64 (a.getD k 0)):∀ n,n ≤ 5 → ∀ y ∈ keep9 a n,∃ i,i < n ∧ y.1 = prp9.getD i 0 ∧ zbi y = true ∧ y.2.length ≤ 2
 |0,_,y,h=>nomatch h
 |n + 1,hn,y,h=>by
  rw [keep9,ym] at h;rcases h with h | h
  ·obtain ⟨i,h1,b⟩:=zkp c n (by omega) y h;exact ⟨i,by omega,b⟩
  ·have e:=zco (a.getD n 0) 6 (by decide) (c n);have h1:=zyb n (by omega) (pickI (a.getD n 0) 6).toNat (by omega);have b:=zu4 n (by omega) (pickI (a.getD n 0) 6).toNat (by omega);split at h
   ·cases h
   ·rename_i d;rw [qu] at h;subst h;exact ⟨n,by omega,rfl,h1.resolve_left d,b⟩
theorem zpy {a:List Int} (b:∀ k,i64 (a.getD k 0)):∀ n,n ≤ 5 → asc (keep9 a n) = true ∧ (keep9 a n).length ≤ n
 |0,_=>⟨rfl,qm 0⟩
 |n + 1,hn=>by
  have ih:=zpy b n (by omega);rw [keep9];split
  ·rw [jm]; exact ⟨ih.1,qa1 ih.2⟩
  ·refine ⟨zs3 _ _ ih.1 fun y d=>?_,by rw [qd]; exact qch ih.2 1⟩;obtain ⟨i,h1,c,-,-⟩:=zkp b n (by omega) y d;rw [c];exact yai n (by omega) i h1
theorem zyp {a b c d e f g:Int} (j:idOk a = true) (k:idOk b = true) (l:i64 c ∧ i64 d ∧ i64 e ∧ i64 f ∧ i64 g):migOk (made9 a b c d e f g) = true ∧ short (made9 a b c d e f g).keep ∧ (made9 a b c d e f g).keep.length < 1000000:=by
 have p:=zco c 9 (by decide) l.1;have n:=zpy (zsw l) 5 (qm 5);have o:=zkp (zsw l) 5 (qm 5);refine ⟨?_,fun y m=>?_,yr n.2 (by decide)⟩
 ·unfold migOk made9;rw [zaj (by omega) (by omega)];simp only [qf];refine ⟨n.1,?_,j,k,?_,?_⟩
  ·simp only [idOk,qf,decide_eq_true_eq]; omega
  ·cases keep9 [c,d,e,f,g] 5<;>simp
  ·exact qo.2 fun y m=>(o y m).elim fun i h=>h.2.2.1
 ·obtain ⟨i,-,-,-,h⟩:=o y m;omega
theorem znx {a b c d e:Int} (f:i64 a ∧ i64 b ∧ i64 c ∧ i64 d ∧ i64 e):migOk (made9 1 2 a b c d e) = true ∧ short (made9 1 2 a b c d e).keep ∧ (made9 1 2 a b c d e).keep.length < 1000000:=
 zyp (by decide) (by decide) f
theorem yaj {w:Int} {s:List UInt8} (h:rasOk w s = true):s.length ≤ 1024:=by
 unfold rasOk at h;simp only [qf,yy,decide_eq_true_eq,beq_iff_eq,inR] at h;rcases h.2 with h2 | h2
 ·rw [h2.2]; exact yj _
 ·have a:w * hgt w s ≤ 32 * 32:=qbk (by omega) (by omega) (by omega) (by omega);omega
theorem zfy {d:Dc} (h:docOk d = true):DcSmall d:=by
 have a:=zbf h;exact ⟨js a.lines (by decide),js a.cells (by decide),js (yaj a.ras) (by decide)⟩
abbrev RunM (M:Mig) (d:Dc):Out → Fz → Prop:=fun o c=>o = .ret (.tup [.agg docZ,.va (.int .i64 90)]) ∨ (∃ e a b,runD M.keep d = some e ∧ o = .ret (.tup [.agg (docS a b e.w e.bits),.va (.int .i64 0)]) ∧ DocAt c a b e)
section
variable {M:Mig} (hm:migOk M = true) (hs:short M.keep) (hl:M.keep.length < 1000000) {d:Dc} (hd:docOk d = true)
include hm hs hl hd
theorem yaq (F:Fz) (i:MLF F) (sk a b:SA) (j:KpsAt F sk M.keep) (g:DocAt F a b d):Fo Tryz.prog F 38 [.agg (migS M sk),.agg (docS a b d.w d.bits)] (RunM M d):=
 zb8 (ydf F i sk M a b d j hs hl g (zfy hd)) fun o k h=>by
  rcases h with ⟨_,h⟩ | ⟨e,a,b,h1,c,f⟩
  ·exact .inl h
  ·unfold runX at h1;rw [if_pos ⟨hm,hd⟩] at h1;exact .inr ⟨e,a,b,h1,c,f⟩
theorem z2k (F:Fz) (n:MLF F) (p:RNDF F) (sk a b c f:SA) {e:Dc} (j:runD M.keep d = some e) (q:KpsAt F sk M.keep) (l:DocAt F a b d) (m:DocAt F c f e) :
  Fo Tryz.prog F 21 [.agg (migS M sk),.agg (docS a b d.w d.bits),.agg (docS c f e.w e.bits)] (fun o i=>∃ k,o = .ret (.tup [.agg (crtS (makeC M d e) k),.va (.int .i64 0)]) ∧ ClsAt i k (zbh M.keep)):=by
 have g:M.keep.all zbi = true:=by
  simp only [migOk,qf] at hm;exact hm.2.2.2.2.2
 refine zb8 (znz F n p sk a b c f M d e q hs hl l m (zfy hd) (zfy (zzr g hd j))) fun o i h=>?_
 rcases h with ⟨h,_⟩ | ⟨_,h⟩
 ·exact absurd (h.symm.trans (run_make hm hd j)) (by simp)
 ·exact h
end
theorem yar {M:Mig} (hm:migOk M = true) (_:short M.keep) (_:M.keep.length < 1000000) {d:Dc} (hd:docOk d = true) {e:Dc} (a:runD M.keep d = some e):docOk e = true ∧ zcq (makeC M d e) (allB d) (allB e) = true:=by
 have h:=run_make hm hd a;simp only [zdq,qf] at h;exact h.2.2
theorem zvn {M:Mig} (hm:migOk M = true) (hs:short M.keep) (hl:M.keep.length < 1000000) (F:Fz) (sk:SA) (e:KpsAt F sk M.keep) :
  Fo Tryz.prog F 16 [.agg (migS M sk)] (fun o a=>∃ b c,o = .ret (.tup [.va (.slice false 0 b 0 2 8 c),.va (.int .i64 0)]) ∧ ClsAt a (.slice false 0 b 0 2 8 c) (zbh M.keep)):=
 zb8 (zpa F sk M e hs hl) fun o a h=>by
  rcases h with ⟨h,_⟩ | ⟨_,h⟩
  ·exact absurd (h.symm.trans hm) (by simp)
  ·exact h
theorem zsy {d:Dc} (hd:docOk d = true) (F:Fz) (a b:SA) (i:DocAt F a b d) :
  Fo Tryz.prog F 14 [.agg (docS a b d.w d.bits)] (fun o e=>∃ b c,o = .ret (.tup [.va (.slice false 0 b 0 1 8 c),.va (.int .i64 0)]) ∧ Sl e 9 1 encS (.slice false 0 b 0 1 8 c) (allB d)):=
 zb8 (zm9 F a b d i (zfy hd)) fun o e h=>by
  rcases h with ⟨h,_⟩ | ⟨_,b,c,h,f⟩
  ·exact absurd (h.symm.trans hd) (by simp)
  ·have g:(allB d).length = 8:=zct d;refine ⟨b,c,h,false,b,0,c,_,c,by rw [g],by simp,fun _=>f,by rw [qa]; exact qb7 (q5 _),?_⟩;rw [qag,qn (by rw [qa]; exact qm _)]
theorem sclT (F:Fz) (a b:SA) (C:List Kp) (d:ClsAt F a C) (e:ClsAt F b C) (f:short C) (g:C.length < 1000000) :
  Fo Tryz.prog F 39 [.va a,.va b] (fun o c=>o = .ret (.va (.lit true)) ∧ c = F):=by
 have h:=zgf (zwc F a b C C d e f g);rw [decide_eq_true rfl] at h;exact h
theorem chkT (F:Fz) (k:MLF F) (l:RNDF F) (sk a b:SA) (c:Crt) (A B:List (List UInt8)) (m:ClsAt F sk c.cl) (p:short c.cl) (n:c.cl.length < 1000000) (i:Sl F 9 1 encS a A) (j:Sl F 9 1 encS b B)
  (d:∀ s ∈ A,s.length ≤ 900000000000) (e:∀ s ∈ B,s.length ≤ 900000000000) (h:zcq c A B = true) :
  Fo Tryz.prog F 22 [.agg (crtS c sk),.va a,.va b] (fun o g=>o = .ret (.va (.lit true)) ∧ True):=by
 have f:=zjt F k l sk a b c A B m p n i j d e;rw [h] at f;exact zgf (zb8 f fun o g h=>⟨h,tv⟩)
theorem z2l (D:Fz) (m0:MLF D) (S:RNDF D) (n1 n2 n3:Bool) (b1 e1 s1 l1 c1 b2 e2 s2 l2 c2 b3 e3 s3 l3 c3:Nat) (q1 q2 x0 x1 x2 x3 x4:Int) (d:Dc) (B:docOk d = true)
  (h:∀ F1,Fz.le D F1 → Fo Tryz.prog F1 15 [.agg [.slice n1 0 b1 e1 s1 l1 c1,.slice n2 0 b2 e2 s2 l2 c2,.int .i64 q1,.int .i64 q2,.slice n3 0 b3 e3 s3 l3 c3]] (fun o V=>∃ a b,o = .ret (.agg (docS a b d.w d.bits)) ∧ DocAt V a b d))
  (M:Mig) (Y:migOk M = true) (R:short M.keep) (X:M.keep.length < 1000000)
  (q:∀ F,Fo Tryz.prog F 13 [.va (.int .i64 1),.va (.int .i64 2),.agg [.int .i64 x0,.int .i64 x1,.int .i64 x2,.int .i64 x3,.int .i64 x4]] (fun o V=>∃ sk,o = .ret (.agg (migS M sk)) ∧ KpsAt V sk M.keep)) :
  Fo Tryz.prog D 7 [.agg [.slice n1 0 b1 e1 s1 l1 c1,.slice n2 0 b2 e2 s2 l2 c2,.int .i64 q1,.int .i64 q2,.slice n3 0 b3 e3 s3 l3 c3],.agg [.int .i64 x0,.int .i64 x1,.int .i64 x2,.int .i64 x3,.int .i64 x4]] (fun o V=>o = .ret (.va (.bool true)) ∧ True):=by
 have u:=yat D m0 S;have Q:=fun F hM sk a b=>yaq Y R X B F hM sk a b
 have ah:=fun e (W:runD M.keep d = some e) F hM hR sk a b a' b'=>z2k Y R X B F hM hR sk a b a' b' W
 have ag:=fun F sk=>zvn Y R X F sk
 have af:=fun F a b=>zsy B F a b
 refine fo_of hΘ Tryz.func7 rfl (by decide) _ _ rfl rfl rfl ?_;refine useFo u rfl (zaa _) rfl ?_;rintro _ F1 T ⟨rfl,-⟩;refine useFo (h F1 T) rfl (zaa _) rfl ?_;rintro _ F2 Z ⟨a,b,rfl,hD⟩;have n:=hD;obtain ⟨an,ab,ae,ac,bn,bb,be,bc,rfl,rfl,-,-,-⟩:=hD;refine useFo (q F2) rfl (zaa _) rfl ?_;rintro _ F3 y ⟨sk,rfl,hK⟩;have p:=hK;obtain ⟨kn,kb,ke,kc,kL,kr,rfl,-,-,-,-⟩:=hK;have m3:=m0.mono (Fz.t T (Fz.t Z y));have r3:=S.mono (Fz.t T (Fz.t Z y));refine useFo (Q F3 m3 _ _ _ p (n.mono y)) rfl (zaa _) rfl ?_;rintro _ F4 l (rfl | ⟨e,a,b,W,rfl,hE⟩)
 ·refine bre (by decide) ?_;exact endFo _ F4 rfl (Fz.t T (Fz.t Z (Fz.t y l))) (Fz.r F4) ⟨rfl,tv⟩ (zah _) rfl
 ·have L:=hE;obtain ⟨tn,tb,te,tc,yn,yb,ye,yc,rfl,rfl,-,-,-⟩:=hE
  conv=>whnf
  have i:=yar Y R X B W;have ad:=fun F a b=>zsy i.1 F a b
  refine brd (by decide) ?_;refine useFo (ah e W F4 (m3.mono l) (r3.mono l) _ _ _ _ _ (KpsAt.up p l) ((n.mono y).mono l) L) rfl (zaa _) rfl ?_;rintro _ F5 u5 ⟨sc,rfl,hC⟩;have I:=hC;obtain ⟨fn,fb,fe,fc,fL,fr,rfl,-,-,-,-⟩:=hC;refine useFo (ag F5 _ (KpsAt.up p (Fz.t l u5))) rfl (zaa _) rfl ?_;rintro _ F6 u6 ⟨gb,gc,rfl,hG⟩;refine useFo (af F6 _ _ (n.mono (Fz.t y (Fz.t l (Fz.t u5 u6))))) rfl (zaa _) rfl ?_;rintro _ F7 u7 ⟨pb,pc,rfl,hP⟩;refine useFo (ad F7 _ _ (L.mono (Fz.t u5 (Fz.t u6 u7)))) rfl (zaa _) rfl ?_;rintro _ G u8 ⟨qb,qc,rfl,hQ⟩;conv=>whnf
  have K:short (zbh M.keep):=zel R;have J:(zbh M.keep).length < 1000000:=by rw [zc1]; decide
  have A:=Fz.t u6 (Fz.t u7 u8);have s:=sclT G _ _ (zbh M.keep) (KpsAt.up I A) (KpsAt.up hG (Fz.t u7 u8)) K J;have c:=Fz.t T (Fz.t Z (Fz.t y (Fz.t l (Fz.t u5 A))));have O:=chkT G (m0.mono c) (S.mono c) _ _ _ (makeC M d e) (allB d) (allB e) (KpsAt.up I A) K J (hP.mono u8) hQ (zcf B) (zcf i.1) i.2;have j:=fun m (f:Fz.le G m)=>zgw m (S.mono (Fz.t c f)) _ (allB d) (hP.mono (Fz.t u8 f)) (zct d) (zcf B)
  have k:=fun m (f:Fz.le G m)=>zgw m (S.mono (Fz.t c f)) _ (allB e) (hQ.mono f) (zct e) (zcf i.1)
  refine drawP hΘ mixed (lk [0,1,2,3,4,5,6,7,8,9,10,11,12,13,14,15,16,17,18,19,20,21,22,23,24,25] (.alt 26 (lk [27,28,29,30,31] (.alt 32 (lk [33,34,35,36,37] (.alt 38 (lk [39,40,41,42,43,44] (.alt 45 (lk [46,47,48] .done) .nil)) .nil)) .nil)) .nil)) [6] (by kernel_rfl) ?_;conv=>whnf
  repeat
   refine gae (by decide) ?_;conv=>whnf
  refine ⟨rfl,?_⟩;conv=>whnf
  repeat
   refine ⟨fun _=>?_,fun g=>absurd g (by simp [makeC])⟩;conv=>whnf
  refine ⟨rfl,?_⟩;conv=>whnf
  repeat
   refine ⟨fun _=>?_,fun g=>absurd g (by simp [makeC])⟩;conv=>whnf
  refine usePu s rfl (zaa _) rfl ?_;refine ⟨Fz.r G,rfl,?_⟩;conv=>whnf
  repeat
   refine ⟨fun _=>?_,fun g=>absurd g (by simp [makeC])⟩;conv=>whnf
  refine ⟨rfl,?_⟩;conv=>whnf
  repeat
   refine ⟨fun _=>?_,fun g=>absurd g (by simp [makeC])⟩;conv=>whnf
  refine useFo O rfl (zaa _) rfl ?_;rintro _ m f ⟨rfl,-⟩;refine ⟨f,rfl,?_⟩;conv=>whnf
  repeat
   refine ⟨fun _=>?_,fun g=>absurd g (by simp [makeC])⟩;conv=>whnf
  refine ⟨rfl,?_⟩;conv=>whnf
  repeat
   refine ⟨fun _=>?_,fun g=>absurd g (by simp [makeC])⟩;conv=>whnf
  refine useFo (j m f) rfl (zaa _) rfl ?_;rintro _ aa x rfl;refine ⟨x,rfl,?_⟩;conv=>whnf
  repeat
   refine ⟨fun _=>?_,fun g=>absurd g (by simp [makeC])⟩;conv=>whnf
  refine ⟨rfl,?_⟩;conv=>whnf
  repeat
   refine ⟨fun _=>?_,fun g=>absurd g (by simp [makeC])⟩;conv=>whnf
  refine useFo (k aa (Fz.t f x)) rfl (zaa _) rfl ?_;rintro _ E U rfl;refine ⟨U,rfl,?_⟩;exact endFo (.ret (.va (.bool true))) E rfl (Fz.t c (Fz.t f (Fz.t x U))) (Fz.r E) ⟨rfl,tv⟩ (ob (show true = ((makeC M d e).dst == root8 (allB e)) by simp [makeC])) rfl
theorem zr4 (a:Fz) (E:MLF a) (G:RNDF a) (p q s:Bool) (j u y k w A l x n B:Nat) (L:List Stp) (X:List Q3) (b c:Int) (D:List Int) (h:CaseAt a p q s j u k w l x n L X b c D) (d e f g i:Int) (m:i64 d ∧ i64 e ∧ i64 f ∧ i64 g ∧ i64 i) :
  Fo Tryz.prog a 7 [.agg (caseS p q s j u y k w A l x n B L.length X.length b c),.agg [.int .i64 d,.int .i64 e,.int .i64 f,.int .i64 g,.int .i64 i]] (fun o J=>o = .ret (.va (.bool true)) ∧ True):=
 z2l a E G p q s j u 1 L.length y k w 1 X.length A l x 1 n B b c d e f g i (madeD L X b c) h.ok.1
  (fun F1 I=>z1p F1 p q s j u y k w A l x n B L X b c D (h.mono I))
  (made9 1 2 d e f g i) (znx m).1 (znx m).2.1 (znx m).2.2 fun F=>z2i F 1 2 d e f g i m
end Go.Proofs.YtfnkamphhpldcaaGreatDoor
