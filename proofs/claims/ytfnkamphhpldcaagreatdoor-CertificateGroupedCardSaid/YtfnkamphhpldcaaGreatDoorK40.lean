import Derived.Test.YtfnkamphhpldcaaGreatDoorK36
import Derived.Test.YtfnkamphhpldcaaGreatDoorK37
import Derived.Test.YtfnkamphhpldcaaGreatDoorK39
import Derived.Test.YtfnkamphhpldcaaGreatDoorK22
import Derived.Test.YtfnkamphhpldcaaGreatDoorK16
set_option maxHeartbeats 64000000
namespace Go.Proofs.YtfnkamphhpldcaaGreatDoor
open Go Sx
set_option maxRecDepth 100000
theorem zls (c n:Int) (a:i64 c) (b:0 < n):Pu Tryz.prog 47 [.va (.int .i64 c),.va (.int .i64 n)] (.va (.int .i64 (pickI c n))):=by
 intro F;unfold i64 at a;refine fo_of hΘ Tryz.func47 rfl (by decide) _ _ rfl rfl rfl ?_;refine br (fun g=>?_) (fun g=>?_)
 ·refine ⟨by omega,?_⟩;refine endPu rfl (Fz.r F) (oi ?_) rfl;simp at g;rw [zaj (n:=c + 1) (by omega) (by omega),zaj (n:=0 - (c + 1)) (by omega) (by omega),pickI,if_pos g]
  congr 1; omega
 ·refine ⟨by omega,?_⟩;refine endPu rfl (Fz.r F) (oi ?_) rfl;simp at g;rw [pickI,if_neg (by omega)]
def tbl9:List (List (List Stp)):=[[[],[(1,0)],[(2,0)],[(1,0),(2,0)],[(6,0)],[]],[[],[(4,3)],[(4,0)],[(6,0)],[],[(4,6)]],[[],[(3,10)],[(3,100)],[(6,0)],[],[]],[[],[],[],[(6,0)],[],[]],[[],[(5,0)],[(5,0),(5,0)],[(6,0)],[],[]]]
def prp9:List Int:=[1,2,3,4,7]
def stp9 (i:Nat) (j:Nat):List Stp:=(tbl9.getD i []).getD j []
def zpt (F:Fz) (c:SA) (l:List Stp):Prop:=(l = [] ∧ c = .nilsl) ∨ (0 < l.length ∧ ∃ b,c = .slice false 0 b 0 2 l.length l.length ∧ F b = some (.arr 56 2 (l.map enc) l.length))
def RowAt (F:Fz) (c:SA) (r:List (List Stp)):Prop:=∃ b R,c = .slice false 0 b 0 1 6 6 ∧ F b = some (.arr 50 1 R 6) ∧ ∀ j,j < 6 → ∃ s,R[j]? = some [s] ∧ zpt F s (r.getD j [])
def TblAt (F:Fz) (b:Nat):Prop:=∃ R,F b = some (.arr 99 1 R 5) ∧ ∀ i,i < 5 → ∃ s,R[i]? = some [s] ∧ RowAt F s (tbl9.getD i [])
theorem zpt.mono {F d:Fz} {c:SA} {l:List Stp} (h:zpt F c l) (a:Fz.le F d):zpt d c l:=by
 rcases h with h | ⟨h,b,h1,e⟩
 ·exact .inl h
 ·exact .inr ⟨h,b,h1,a _ _ e⟩
theorem TblAt.mono {F c:Fz} {b:Nat} (h:TblAt F b) (a:Fz.le F c):TblAt c b:=by
 obtain ⟨R,h1,e⟩:=h;refine ⟨R,a _ _ h1,fun i o=>?_⟩;obtain ⟨s,f,b,d,g,k,l⟩:=e i o;refine ⟨s,f,b,d,g,a _ _ k,fun j p=>?_⟩;obtain ⟨s,m,n⟩:=l j p;exact ⟨s,m,n.mono a⟩
theorem ycu {F:Fz} {b J K L O c d f g l m M e h k n o:Nat} (p:F b = some (.arr 56 2 [[.int .i64 6,.int .i64 0]] 1)) (Q:F J = some (.arr 56 2 [[.int .i64 1,.int .i64 0]] 1)) (R:F K = some (.arr 56 2 [[.int .i64 2,.int .i64 0]] 1)) (S:F L = some (.arr 56 2 [[.int .i64 1,.int .i64 0],[.int .i64 2,.int .i64 0]] 2)) (U:F O = some (.arr 56 2 [[.int .i64 4,.int .i64 3]] 1)) (s:F c = some (.arr 56 2 [[.int .i64 4,.int .i64 0]] 1)) (u:F d = some (.arr 56 2 [[.int .i64 4,.int .i64 6]] 1)) (x:F f = some (.arr 56 2 [[.int .i64 3,.int .i64 10]] 1)) (y:F g = some (.arr 56 2 [[.int .i64 3,.int .i64 100]] 1)) (D:F l = some (.arr 56 2 [[.int .i64 5,.int .i64 0]] 1)) (E:F m = some (.arr 56 2 [[.int .i64 5,.int .i64 0],[.int .i64 5,.int .i64 0]] 2)) (T:F M = some (.arr 50 1 [[.nilsl],[.slice false 0 J 0 2 1 1],[.slice false 0 K 0 2 1 1],[.slice false 0 L 0 2 2 2],[.slice false 0 b 0 2 1 1],[.nilsl]] 6)) (w:F e = some (.arr 50 1 [[.nilsl],[.slice false 0 O 0 2 1 1],[.slice false 0 c 0 2 1 1],[.slice false 0 b 0 2 1 1],[.nilsl],[.slice false 0 d 0 2 1 1]] 6)) (A:F h = some (.arr 50 1 [[.nilsl],[.slice false 0 f 0 2 1 1],[.slice false 0 g 0 2 1 1],[.slice false 0 b 0 2 1 1],[.nilsl],[.nilsl]] 6)) (B:F k = some (.arr 50 1 [[.nilsl],[.nilsl],[.nilsl],[.slice false 0 b 0 2 1 1],[.nilsl],[.nilsl]] 6)) (G:F n = some (.arr 50 1 [[.nilsl],[.slice false 0 l 0 2 1 1],[.slice false 0 m 0 2 2 2],[.slice false 0 b 0 2 1 1],[.nilsl],[.nilsl]] 6)) (I:F o = some (.arr 99 1 [[.slice false 0 M 0 1 6 6],[.slice false 0 e 0 1 6 6],[.slice false 0 h 0 1 6 6],[.slice false 0 k 0 1 6 6],[.slice false 0 n 0 1 6 6]] 5)):TblAt F o:=by
 refine ⟨_,I,fun i V=>?_⟩;have a:i = 0 ∨ i = 1 ∨ i = 2 ∨ i = 3 ∨ i = 4:=by omega
 rcases a with rfl | rfl | rfl | rfl | rfl
 ·refine ⟨_,rfl,_,_,rfl,T,fun j q=>?_⟩;have a:j = 0 ∨ j = 1 ∨ j = 2 ∨ j = 3 ∨ j = 4 ∨ j = 5:=by omega
  rcases a with rfl | rfl | rfl | rfl | rfl | rfl
  ·exact ⟨_,rfl,.inl ⟨rfl,rfl⟩⟩
  ·exact ⟨_,rfl,.inr ⟨by decide,_,rfl,Q⟩⟩
  ·exact ⟨_,rfl,.inr ⟨by decide,_,rfl,R⟩⟩
  ·exact ⟨_,rfl,.inr ⟨by decide,_,rfl,S⟩⟩
  ·exact ⟨_,rfl,.inr ⟨by decide,_,rfl,p⟩⟩
  ·exact ⟨_,rfl,.inl ⟨rfl,rfl⟩⟩
 ·refine ⟨_,rfl,_,_,rfl,w,fun j q=>?_⟩;have a:j = 0 ∨ j = 1 ∨ j = 2 ∨ j = 3 ∨ j = 4 ∨ j = 5:=by omega
  rcases a with rfl | rfl | rfl | rfl | rfl | rfl
  ·exact ⟨_,rfl,.inl ⟨rfl,rfl⟩⟩
  ·exact ⟨_,rfl,.inr ⟨by decide,_,rfl,U⟩⟩
  ·exact ⟨_,rfl,.inr ⟨by decide,_,rfl,s⟩⟩
  ·exact ⟨_,rfl,.inr ⟨by decide,_,rfl,p⟩⟩
  ·exact ⟨_,rfl,.inl ⟨rfl,rfl⟩⟩
  ·exact ⟨_,rfl,.inr ⟨by decide,_,rfl,u⟩⟩
 ·refine ⟨_,rfl,_,_,rfl,A,fun j q=>?_⟩;have a:j = 0 ∨ j = 1 ∨ j = 2 ∨ j = 3 ∨ j = 4 ∨ j = 5:=by omega
  rcases a with rfl | rfl | rfl | rfl | rfl | rfl
  ·exact ⟨_,rfl,.inl ⟨rfl,rfl⟩⟩
  ·exact ⟨_,rfl,.inr ⟨by decide,_,rfl,x⟩⟩
  ·exact ⟨_,rfl,.inr ⟨by decide,_,rfl,y⟩⟩
  ·exact ⟨_,rfl,.inr ⟨by decide,_,rfl,p⟩⟩
  ·exact ⟨_,rfl,.inl ⟨rfl,rfl⟩⟩
  ·exact ⟨_,rfl,.inl ⟨rfl,rfl⟩⟩
 ·refine ⟨_,rfl,_,_,rfl,B,fun j q=>?_⟩;have a:j = 0 ∨ j = 1 ∨ j = 2 ∨ j = 3 ∨ j = 4 ∨ j = 5:=by omega
  rcases a with rfl | rfl | rfl | rfl | rfl | rfl
  ·exact ⟨_,rfl,.inl ⟨rfl,rfl⟩⟩
  ·exact ⟨_,rfl,.inl ⟨rfl,rfl⟩⟩
  ·exact ⟨_,rfl,.inl ⟨rfl,rfl⟩⟩
  ·exact ⟨_,rfl,.inr ⟨by decide,_,rfl,p⟩⟩
  ·exact ⟨_,rfl,.inl ⟨rfl,rfl⟩⟩
  ·exact ⟨_,rfl,.inl ⟨rfl,rfl⟩⟩
 ·refine ⟨_,rfl,_,_,rfl,G,fun j q=>?_⟩;have a:j = 0 ∨ j = 1 ∨ j = 2 ∨ j = 3 ∨ j = 4 ∨ j = 5:=by omega
  rcases a with rfl | rfl | rfl | rfl | rfl | rfl
  ·exact ⟨_,rfl,.inl ⟨rfl,rfl⟩⟩
  ·exact ⟨_,rfl,.inr ⟨by decide,_,rfl,D⟩⟩
  ·exact ⟨_,rfl,.inr ⟨by decide,_,rfl,E⟩⟩
  ·exact ⟨_,rfl,.inr ⟨by decide,_,rfl,p⟩⟩
  ·exact ⟨_,rfl,.inl ⟨rfl,rfl⟩⟩
  ·exact ⟨_,rfl,.inl ⟨rfl,rfl⟩⟩
abbrev box9 (a b c d e:Int):Ent:=.one (.cells 28 [.int .i64 a,.int .i64 b,.int .i64 c,.int .i64 d,.int .i64 e])
theorem zhe {n:Nat} {a b c d e:Int}:(box9 a b c d e).below n:=(SB.bB_ok rfl:SB.below n (.cells 28 [.int .i64 a,.int .i64 b,.int .i64 c,.int .i64 d,.int .i64 e]))
theorem zhl {n c i:Nat} {z a b:Int} {o:List ZC} (h:i < n):(Ent.one (.cells 32 [.int .i64 z,.int .i64 a,.int .i64 b,.lit false,gA 2 i c o])).below n:=by
 intro t d;simp only [qg,qp,or_false] at d;rcases d with rfl | rfl | rfl | rfl | rfl
 ·trivial
 ·trivial
 ·trivial
 ·trivial
 ·exact zeq h _ _ _
def keep9 (a:List Int):Nat → List Kp
 |0=>[]
 |i + 1=>keep9 a i ++ (if stp9 i (pickI (a.getD i 0) 6).toNat = [] then [] else [(prp9.getD i 0,stp9 i (pickI (a.getD i 0) 6).toNat)])
def RowL (G:Fz) (l:List Kp) (o:List ZC):Prop:=o.length = l.length ∧ ∀ (i:Nat) (z:ZC) (x:Kp),o[i]? = some z → l[i]? = some x → KpR G z.1 x
theorem RowL.nil {G:Fz}:RowL G [] []:=⟨rfl,fun i z x h=>by simp at h⟩
theorem RowL.mono {G b:Fz} {l:List Kp} {o:List ZC} (h:RowL G l o) (a:Fz.le G b):RowL b l o:=⟨h.1,fun i z x h1 c=>(h.2 i z x h1 c).mono a⟩
theorem RowL.snoc {G:Fz} {l:List Kp} {o:List ZC} {x:Kp} {z:ZC} (h:RowL G l o) (c:KpR G z.1 x):RowL G (l ++ [x]) (o ++ [z]):=by
 refine ⟨by rw [qb,qb,h.1]; rfl,fun i y w h1 a=>?_⟩;rcases qcf i o.length with hi | hi
 ·rw [q8 hi] at h1;rw [q8 (by rw [← h.1]; exact hi)] at a;exact h.2 i y w h1 a
 ·rw [jt hi] at h1;rw [jt (by rw [← h.1]; exact hi)] at a;rw [← h.1] at a;cases b:i - o.length with
  |zero=>
   rw [b] at h1 a;cases h1; cases a; exact c
  |succ j=>
   rw [b] at h1;simp at h1
theorem ztx {a b c d e:Int} (h:i64 a ∧ i64 b ∧ i64 c ∧ i64 d ∧ i64 e) (k:Nat):i64 ([a,b,c,d,e].getD k 0):=by
 obtain ⟨f,h1,g,i,j⟩:=h
 match k with
 |0=>exact f
 |1=>exact h1
 |2=>exact g
 |3=>exact i
 |4=>exact j
 |n + 5=>exact (⟨by decide,by decide⟩:i64 0)
theorem ycz (a b c d e:Int) {k:Nat} (h:k < 5):zdl [SA.int .i64 a,.int .i64 b,.int .i64 c,.int .i64 d,.int .i64 e] (((k:Nat):Int).toNat * 1) 1 = some [.int .i64 ([a,b,c,d,e].getD k 0)]:=by
 have f:k = 0 ∨ k = 1 ∨ k = 2 ∨ k = 3 ∨ k = 4:=by omega
 rcases f with rfl | rfl | rfl | rfl | rfl<;>rfl
theorem z95 {k:Nat} (h:k < 5):[[SA.int .i64 1],[.int .i64 2],[.int .i64 3],[.int .i64 4],[.int .i64 7]][0 + ((k:Nat):Int).toNat]? = some [.int .i64 (prp9.getD k 0)]:=by
 have a:k = 0 ∨ k = 1 ∨ k = 2 ∨ k = 3 ∨ k = 4:=by omega
 rcases a with rfl | rfl | rfl | rfl | rfl<;>rfl
theorem zwa:∀ i,i < 5 → ∀ j,j < 6 → (stp9 i j).length ≤ 2:=by decide
theorem ycf {G:Fz} {b:Nat} {d e f h i:Int} (B:i64 d ∧ i64 e ∧ i64 f ∧ i64 h ∧ i64 i) (x:TblAt G b) {k:Nat} (g:k < 5):∃ (J:Int) (p:List Stp) (n:SA) (R:List (List SA)) (br:Nat) (m:List (List SA)),
  (∀ F,Fo Tryz.prog F 47 [.va (.int .i64 ([d,e,f,h,i].getD k 0)),.va (.int .i64 6)] (fun o u=>o = .ret (.va (.int .i64 J)) ∧ u = F)) ∧ 0 ≤ J ∧ J < 6 ∧ p.length ≤ 2 ∧
  keep9 [d,e,f,h,i] (k + 1) = keep9 [d,e,f,h,i] k ++ (if p = [] then [] else [(prp9.getD k 0,p)]) ∧ G b = some (.arr 99 1 R 5) ∧ R[0 + (k:Int).toNat]? = some [.slice false 0 br 0 1 6 6] ∧
  G br = some (.arr 50 1 m 6) ∧ m[0 + J.toNat]? = some [n] ∧ zpt G n p:=by
 have l:=ztx B k;have j:=zck ([d,e,f,h,i].getD k 0) 6 (by decide) l;obtain ⟨R,w,c⟩:=x;obtain ⟨D,s,br,m,rfl,y,A⟩:=c k g;obtain ⟨n,q,a⟩:=A (pickI ([d,e,f,h,i].getD k 0) 6).toNat (by omega);exact ⟨_,stp9 k (pickI ([d,e,f,h,i].getD k 0) 6).toNat,n,R,br,m,fun F=>zls _ 6 l (by decide) F,j.1,j.2,zwa k g _ (by omega),rfl,w,by rw [ql,qv]; exact s,y,by rw [qv]; exact q,a⟩
theorem zz6 {μ:Mu} {z a b:Int} {c i:Nat} {o:List ZC} {A:SA} (d:A = (gA 2 i c o).ren μ):SB.cells 32 [.int .i64 z,.int .i64 a,.int .i64 b,.lit false,A] = SB.ren μ (.cells 32 [.int .i64 z,.int .i64 a,.int .i64 b,.lit false,gA 2 i c o]):=by subst d; rfl
theorem z1u (h:Hp) (l:List Stp) (c:Nat):SB.ren (resP h) (.arr 56 2 (l.map enc) c) = .arr 56 2 (l.map enc) c:=by
 show SB.arr 56 2 ((l.map enc).map (List.map (SA.ren (resP h)))) c = _;rw [zy0]
theorem zts (l:List Stp) (c:Nat):SB.below 1 (.arr 56 2 (l.map enc) c):=by
 intro r b t a;obtain ⟨x,_,rfl⟩:=ji.1 b;simp only [enc,qg,qp,or_false] at a;rcases a with rfl | rfl<;>trivial
theorem z05 {h:Hp} (a:∀ k,resP h 0 k = (0,k)) {i z:Nat} (b:resP h i 0 = (0,z)) (l:List ZC) (p:Int) (n c c':Nat):SB.ren (resP h) (.arr 96 2 (l.map encZ ++ [[.int .i64 p,.slice false i 0 0 2 n c]]) c') = .arr 96 2 (l.map encZ ++ [[.int .i64 p,.slice false 0 z 0 2 n c]]) c':=by
 show SB.arr 96 2 ((l.map encZ ++ ([[.int .i64 p,.slice false i 0 0 2 n c]]:List (List SA))).map (List.map (SA.ren (resP h)))) c' = _;rw [qq,z7t zau a];show SB.arr 96 2 (l.map encZ ++ [[.int .i64 p,.slice false (resP h i 0).1 (resP h i 0).2 0 2 n c]]) c' = _;rw [b]
theorem zrn {n:Nat} (b:0 < n) (l:List ZC) (x:ZC) (c:Nat):SB.below n (.arr 96 2 (l.map encZ ++ [encZ x]) c):=by
 have:=zbt (n:=n) (e:=encZ) zau b 96 2 c (l ++ [x]);have a:SB.below n (.arr 96 2 ((l ++ [x]).map encZ) c):=this;rw [qq] at a;exact a
theorem yby {G:Fz} {z c:Nat} {p:Int} {l:List Stp} (h:G z = some (.arr 56 2 (l.map enc) c)):KpR G [.int .i64 p,.slice false 0 z 0 2 (0 + (l.map enc).length) c] (p,l):=by
 refine ⟨_,rfl,false,z,0,c,_,c,by rw [qv,qa],by simp,fun _=>h,by rw [qa]; exact qce (qv _),?_⟩;rw [qaf,qo (by rw [qa]; exact qi _)]
theorem yas {α:Type} {l:List α} {n:Nat} (h:l.length = n):List.take n (List.drop 0 l) = l:=by
 subst h; exact yx
theorem tk9 {t:TypeId} {l:List SA} {p:Pl} {K:List SA → Prop} {x:List SA} (h:zdl l (p.e * p.sz + p.o) 1 = some x) (a:K x):rdB (.cells t l) p 1 K:=by
 simp only [rdB]; rw [h]; exact a
def made9 (a b c d e f g:Int):Mig:=⟨IntKind.i64.wrap (1 + pickI c 9),a,b,(keep9 [c,d,e,f,g] 5).isEmpty && decide (pickI (c.tdiv 6) 2 = 0),keep9 [c,d,e,f,g] 5⟩
theorem z9p {i a b:SA} {c:Bool} (ρ:Rho) (e:Ending) (h:(Out.ret (.agg [i,a,b,.bool c,.nilsl])).rel ρ e):(Out.ret (.agg [i,a,b,.lit c,.slice true 0 0 0 2 0 0])).rel ρ e:=h
theorem z9o {i a b:SA} {c:Bool} {n:Nat} (h:(Out.ret (.agg [i,a,b,.bool c,.nilsl])).below n):(Out.ret (.agg [i,a,b,.lit c,.slice true 0 0 0 2 0 0])).below n:=by
 intro t d;simp only [qg,qp,or_false] at d;rcases d with rfl | rfl | rfl | rfl | rfl
 ·exact h _ (by simp)
 ·exact h _ (by simp)
 ·exact h _ (by simp)
 ·trivial
 ·exact .inl rfl
theorem fin9n {G:Fz} {a b c d e f g:Int} (h:RowL G (keep9 [c,d,e,f,g] 5) []):∃ sk,Out.ret (SV.agg [.int .i64 (IntKind.i64.wrap (1 + pickI c 9)),.int .i64 a,.int .i64 b,.lit (decide (pickI (c.tdiv 6) 2 = 0)),.slice true 0 0 0 2 0 0]) = .ret (.agg (migS (made9 a b c d e f g) sk)) ∧ KpsAt G sk (made9 a b c d e f g).keep:=by
 have i:keep9 [c,d,e,f,g] 5 = []:=jo h.1.symm;refine ⟨.slice true 0 0 0 2 0 0,by unfold made9; rw [i]; rfl,?_⟩;show KpsAt G _ (keep9 [c,d,e,f,g] 5);rw [i];exact SlR.nil
theorem fin9c {G:Fz} {a b d f g j k:Int} {m:ZC} {c:List ZC} {n l:Nat} (h:RowL G (keep9 [d,f,g,j,k] 5) (m :: c)) (s:G n = some (.arr 96 2 ((m :: c).map encZ) l)):∃ sk,Out.ret (SV.agg [.int .i64 (IntKind.i64.wrap (1 + pickI d 9)),.int .i64 a,.int .i64 b,.lit false,.slice false 0 n 0 2 (c.length + 1) l]) = .ret (.agg (migS (made9 a b d f g j k) sk)) ∧ KpsAt G sk (made9 a b d f g j k).keep:=by
 have e:c.length + 1 = (keep9 [d,f,g,j,k] 5).length:=h.1;obtain ⟨K,q⟩:∃ K,keep9 [d,f,g,j,k] 5 = K:=⟨_,rfl⟩
 unfold made9;rw [q] at e h ⊢;rcases K with _ | ⟨u,w⟩
 ·cases e
 refine ⟨_,rfl,?_⟩;show KpsAt G _ (u :: w);refine ⟨false,n,0,l,_,l,by rw [e],fun h=>(nomatch h),fun _=>s,by rw [qa]; exact qce ((qv _).trans e.symm),fun i x p=>?_⟩
 have o:i < (m :: c).length:=by
  have:=(qf.1 p).1;rw [← e] at this; exact this
 rw [qv];exact ⟨encZ (m :: c)[i],by rw [qu,qc o]; rfl,h.2 i _ x (qc o) p⟩
theorem z4n (F:Fz) (a b:Int) (h Y Z x3 x4:Int) (hx:i64 h ∧ i64 Y ∧ i64 Z ∧ i64 x3 ∧ i64 x4) :
  Fo Tryz.prog F 13 [.va (.int .i64 a),.va (.int .i64 b),.agg [.int .i64 h,.int .i64 Y,.int .i64 Z,.int .i64 x3,.int .i64 x4]] (fun o F'=>∃ sk,o = .ret (.agg (migS (made9 a b h Y Z x3 x4) sk)) ∧ KpsAt F' sk (made9 a b h Y Z x3 x4).keep):=by
 have bh:=fun F=>zls h 9 hx.1 (by decide) F
 have bg:=fun F=>zls (h.tdiv 6) 2 (zm5 hx.1) (by decide) F
 have a7:h.tdiv 6 = IntKind.i64.wrap (h.tdiv 6):=by
  have:=zm5 hx.1;unfold i64 at this;exact (zaj (by omega) (by omega)).symm
 refine fo_of hΘ Tryz.func13 rfl (by decide) _ _ rfl rfl rfl ?_;refine ⟨⟨by decide,by decide⟩,?_⟩;refine usePu (bh F) rfl ⟨rfl,rfl,tv⟩ rfl ?_;refine zcl 4 (fun _=>.arr 56 2 [[.int .i64 6,.int .i64 0]] 1) rfl rfl rfl (fun _ _=>rfl) (fun _ _=>SB.bB_ok rfl) ?_;intro z4 G4 u4 ap;refine zcl 5 (fun _=>.arr 56 2 [[.int .i64 1,.int .i64 0]] 1) rfl rfl rfl (fun _ _=>rfl) (fun _ _=>SB.bB_ok rfl) ?_;intro z5 G5 u5 aq;refine zcl 6 (fun _=>.arr 56 2 [[.int .i64 2,.int .i64 0]] 1) rfl rfl rfl (fun _ _=>rfl) (fun _ _=>SB.bB_ok rfl) ?_;intro z6 G6 u6 ar;refine zcl 7 (fun _=>.arr 56 2 [[.int .i64 1,.int .i64 0],[.int .i64 2,.int .i64 0]] 2) rfl rfl rfl (fun _ _=>rfl) (fun _ _=>SB.bB_ok rfl) ?_;intro z7 G7 u7 au;refine zcl 9 (fun _=>.arr 56 2 [[.int .i64 4,.int .i64 3]] 1) rfl rfl rfl (fun _ _=>rfl) (fun _ _=>SB.bB_ok rfl) ?_;intro z9 G9 u9 aw;refine zcl 10 (fun _=>.arr 56 2 [[.int .i64 4,.int .i64 0]] 1) rfl rfl rfl (fun _ _=>rfl) (fun _ _=>SB.bB_ok rfl) ?_;intro bx ca bk I;refine zcl 11 (fun _=>.arr 56 2 [[.int .i64 4,.int .i64 6]] 1) rfl rfl rfl (fun _ _=>rfl) (fun _ _=>SB.bB_ok rfl) ?_;intro bz cb bl K;refine zcl 13 (fun _=>.arr 56 2 [[.int .i64 3,.int .i64 10]] 1) rfl rfl rfl (fun _ _=>rfl) (fun _ _=>SB.bB_ok rfl) ?_;intro b1 cd bn M;refine zcl 14 (fun _=>.arr 56 2 [[.int .i64 3,.int .i64 100]] 1) rfl rfl rfl (fun _ _=>rfl) (fun _ _=>SB.bB_ok rfl) ?_;intro b2 ce bo O;refine zcl 17 (fun _=>.arr 56 2 [[.int .i64 5,.int .i64 0]] 1) rfl rfl rfl (fun _ _=>rfl) (fun _ _=>SB.bB_ok rfl) ?_;intro b5 ch bs T
 refine zcl 18 (fun _=>.arr 56 2 [[.int .i64 5,.int .i64 0],[.int .i64 5,.int .i64 0]] 2) rfl rfl rfl (fun _ _=>rfl) (fun _ _=>SB.bB_ok rfl) ?_;intro b6 ci bt U;refine zcl 8 (fun _=>.arr 50 1 [[.nilsl],[.slice false 0 (z5 0) 0 2 1 1],[.slice false 0 (z6 0) 0 2 1 1],[.slice false 0 (z7 0) 0 2 2 2],[.slice false 0 (z4 0) 0 2 1 1],[.nilsl]] 6) rfl rfl rfl (fun _ _=>rfl) (fun _ _=>SB.bB_ok rfl) ?_;intro z8 G8 u8 av;refine zcl 12 (fun _=>.arr 50 1 [[.nilsl],[.slice false 0 (z9 0) 0 2 1 1],[.slice false 0 (bx 0) 0 2 1 1],[.slice false 0 (z4 0) 0 2 1 1],[.nilsl],[.slice false 0 (bz 0) 0 2 1 1]] 6) rfl rfl rfl (fun _ _=>rfl) (fun _ _=>SB.bB_ok rfl) ?_;intro b0 cc bm L;refine zcl 15 (fun _=>.arr 50 1 [[.nilsl],[.slice false 0 (b1 0) 0 2 1 1],[.slice false 0 (b2 0) 0 2 1 1],[.slice false 0 (z4 0) 0 2 1 1],[.nilsl],[.nilsl]] 6) rfl rfl rfl (fun _ _=>rfl) (fun _ _=>SB.bB_ok rfl) ?_;intro b3 cf bp Q;refine zcl 16 (fun _=>.arr 50 1 [[.nilsl],[.nilsl],[.nilsl],[.slice false 0 (z4 0) 0 2 1 1],[.nilsl],[.nilsl]] 6) rfl rfl rfl (fun _ _=>rfl) (fun _ _=>SB.bB_ok rfl) ?_;intro b4 cg bq S;refine zcl 19 (fun _=>.arr 50 1 [[.nilsl],[.slice false 0 (b5 0) 0 2 1 1],[.slice false 0 (b6 0) 0 2 2 2],[.slice false 0 (z4 0) 0 2 1 1],[.nilsl],[.nilsl]] 6) rfl rfl rfl (fun _ _=>rfl) (fun _ _=>SB.bB_ok rfl) ?_;intro b7 ck bu V;refine zcl 20 (fun _=>.arr 99 1 [[.slice false 0 (z8 0) 0 1 6 6],[.slice false 0 (b0 0) 0 1 6 6],[.slice false 0 (b3 0) 0 1 6 6],[.slice false 0 (b4 0) 0 1 6 6],[.slice false 0 (b7 0) 0 1 6 6]] 5) rfl rfl rfl (fun _ _=>rfl) (fun _ _=>SB.bB_ok rfl) ?_
 intro b8 u bw W;have bj:=Fz.r u;have a6:=Fz.t bw bj;have a3:=Fz.t bu a6;have a2:=Fz.t bq a3;have az:=Fz.t bp a2;have l8:=Fz.t bm az;have a5:=Fz.t u8 l8;have a4:=Fz.t bt a5;have a1:=Fz.t bs a4;have a0:=Fz.t bo a1;have ay:=Fz.t bn a0;have ax:=Fz.t bl ay;have l9:=Fz.t bk ax;have l7:=Fz.t u9 l9;have l6:=Fz.t u7 l7;have l5:=Fz.t u6 l6;have l4:=Fz.t u5 l5;have hT:=ycu (l4 _ _ (ap 0 rfl)) (l5 _ _ (aq 0 rfl)) (l6 _ _ (ar 0 rfl)) (l7 _ _ (au 0 rfl)) (l9 _ _ (aw 0 rfl)) (ax _ _ (I 0 rfl)) (ay _ _ (K 0 rfl)) (a0 _ _ (M 0 rfl)) (a1 _ _ (O 0 rfl)) (a4 _ _ (T 0 rfl)) (a5 _ _ (U 0 rfl)) (l8 _ _ (av 0 rfl)) (az _ _ (L 0 rfl)) (a2 _ _ (Q 0 rfl)) (a3 _ _ (S 0 rfl)) (a6 _ _ (V 0 rfl)) (W 0 rfl);refine resT 9 (.va (.slice false 0 (b8 0) 0 1 5 5)) rfl rfl (.inr (show (0:Nat) < 21 by decide)) ?_;have lF:=Fz.t u4 l4;clear ap aq ar au aw I K M O T U av L Q S V W
 refine z4l hΘ (X:={ y:Nat × List ZC × Nat × Fz // y.1 ≤ 5 ∧ Fz.le u y.2.2.2 ∧ RowL y.2.2.2 (keep9 [h,Y,Z,x3,x4] y.1) y.2.1 ∧ y.2.1.length ≤ y.1 }) (fun y=>[(10,.va (.int .i64 y.1.1))]) (11::12::jr 55 31 [])
  (fun y=>[(0,.frz y.1.2.2.2),(1,box9 h Y Z x3 x4),(3,.one (.cells 32 [.int .i64 (IntKind.i64.wrap (1 + pickI h 9)),.int .i64 a,.int .i64 b,.lit false,gA 2 21 y.1.2.2.1 y.1.2.1])),(21,gE 96 2 encZ y.1.2.2.1 y.1.2.1)]) 22 (fun y=>5 - y.1.1) ⟨(0,[],0,u),yd _,Fz.r _,RowL.nil,qi _⟩
  (fun hH hT=>leI [(21,21)] hH hT rfl ⟨tv,zhe,zhl (by omega),zbt zau (by omega) _ _ _ _,tv⟩ ⟨rfl,tv⟩ ⟨Fz.r u,rfl,rfl,rfl,tv⟩) ?_
 rintro ⟨⟨k,o,co,G⟩,hk,D,d,q⟩ hH aa;replace hk:k ≤ 5:=hk;replace D:Fz.le u G:=D;replace d:RowL G (keep9 [h,Y,Z,x3,x4] k) o:=d;replace q:o.length ≤ k:=q;by_cases g:k < 5
 ·have w:(k:Int) < 5:=by omega
  have x:5 - (k + 1) < 5 - k:=by omega
  have A:k < 4611686018427387904:=by omega
  have al:=z95 g;have an:=ycz h Y Z x3 x4 g;have bi:=ycf hx (hT.mono D) g;obtain ⟨J,st,cj,R,cl,R',ak,af,ag,b9,e,hR,am,ad,ae,c⟩:=bi;refine Or.elim c (fun c=>?_) (fun c=>?_)
  ·obtain ⟨rfl,rfl⟩:=c;rw [if_pos rfl,js] at e;refine bri w ⟨rfl,⟨jw k,w⟩,_,al,?_⟩;refine drawP hΘ mixed (lk [0,1,2,3,4,5,6] (.alt 7 (lk [8,9,10] .done) .nil)) [1] (by kernel_rfl) ⟨rfl,⟨jw k,w⟩,rfl,_,hR,_,am,⟨jw k,w⟩,rfl,?_⟩;refine tk9 (t:=28) (p:=⟨0,0,(k:Int).toNat,1,0⟩) an ?_;refine usePu (ak G) rfl ⟨rfl,rfl,tv⟩ rfl ⟨Fz.r G,rfl,rfl,⟨af,ag⟩,rfl,_,ad,_,ae,?_⟩;refine brd (by decide) ?_;exact zsp ⟨⟨(k + 1,o,co,G),g,D,by rw [e]; exact d,qa9 q⟩,x,leR [(21,21)] hH aa rfl ⟨tv,zhe,zhl (by omega),zbt zau (by omega) _ _ _ _,tv⟩ ⟨cnt A,tv⟩ ⟨Fz.r G,rfl,zz6 (zg5 (μ:=sig [(21,21)]) (i:=21) (j:=21) rfl o),zet (μ:=sig [(21,21)]) zau (fun k=>rfl) (za1 _ _ _ _),tv⟩⟩
  ·obtain ⟨ai,cm,rfl,bb⟩:=c;have aj:¬ st = []:=qbc.1 ai;have bf:(0:Int) < (st.length:Int):=by omega
   rw [if_neg aj] at e;rcases st with _ | ⟨s0,s⟩
   ·exact absurd rfl aj
   have hX:=yas (l:=(s0 :: s).map enc) (n:=(s0 :: s).length) (qa _);have a9:(0 + ((s0 :: s).map enc).length) * 16 ≤ 140737488355328:=by rw [qa]; omega
   have a8:0 + (s0 :: s).length ≤ ((s0 :: s).map enc).length:=by rw [qa]; omega
   have E:∀ n,n ≤ k → (n + 1) * 32 ≤ 140737488355328:=fun n hn=>by omega
   rcases o with _ | ⟨o0,B⟩
   all_goals
    refine bri w ⟨rfl,⟨jw k,w⟩,_,al,?_⟩;refine drawP hΘ mixed (lk [0,1,2,3,4,5,6] (.alt 7 (lk [8,9,10] .done) .nil)) [1] (by kernel_rfl) ⟨rfl,⟨jw k,w⟩,rfl,_,hR,_,am,⟨jw k,w⟩,rfl,?_⟩;refine tk9 (t:=28) (p:=⟨0,0,(k:Int).toNat,1,0⟩) an ?_;refine usePu (ak G) rfl ⟨rfl,rfl,tv⟩ rfl ⟨Fz.r G,rfl,rfl,⟨af,ag⟩,rfl,_,ad,_,ae,?_⟩;refine bri bf ?_;refine drawP hΘ mixed (lk [0,1,2,4] (.alt 3 (.alt 5 (.alt 6 (.alt 7 (.alt 8 (.look 9 (.last 10 .done)) .nil) .nil) .nil) .nil) .nil)) [3] (by kernel_rfl) ⟨rfl,Fz.r G,rfl,_,_,_,bb,a8,_,hX,rfl,rfl,rfl,a9,fun c2 cn=>?_⟩;refine ⟨Fz.r G,rfl,Fz.r G,rfl,Fz.r G,rfl,nb rfl,[[.int .i64 (prp9.getD k 0),.slice false 24 0 0 2 (0 + ((s0 :: s).map enc).length) c2]],rfl,?_⟩;conv=>whnf
    first
     |refine ⟨rfl,rfl,by simp,rfl,E _ q,fun c' bc=>?_⟩
     |(refine ⟨rfl,rfl,?_⟩; (conv=>whnf); refine ⟨E 0 (yd _),fun c' bc=>?_⟩)
    refine ⟨Fz.r G,rfl,?_⟩;refine zso 24 (fun _=>.arr 56 2 ((s0 :: s).map enc) c2) rfl rfl rfl (fun _ _=>z1u _ _ _) (fun _ _=>zts _ _) ?_;intro m ac ab ao
    first
     |refine zun 26 _ rfl (z05 (fun _=>rfl) (i:=24) (z:=m 0) rfl (o0 :: B) (prp9.getD k 0) (0 + ((s0 :: s).map enc).length) c2 c') (zrn (show 0 < 27 by decide) (o0 :: B) (mkZ _ (.slice false 0 (m 0) 0 2 _ c2) rfl) _) ?_
     |refine zun 26 _ rfl (z05 (fun _=>rfl) (i:=24) (z:=m 0) rfl [] (prp9.getD k 0) (0 + ((s0 :: s).map enc).length) c2 c') (zrn (show 0 < 27 by decide) [] (mkZ _ (.slice false 0 (m 0) 0 2 _ c2) rfl) _) ?_
    have be:=yby (p:=prp9.getD k 0) (ao 0 rfl);have f:=(d.mono ab).snoc (z:=mkZ (prp9.getD k 0) (.slice false 0 (m 0) 0 2 (0 + ((s0 :: s).map enc).length) c2) rfl) be;rw [← e] at f
    first
     |exact zsp ⟨⟨(k + 1,(o0 :: B) ++ [mkZ (prp9.getD k 0) (.slice false 0 (m 0) 0 2 (0 + ((s0 :: s).map enc).length) c2) rfl],c',ac),g,Fz.t D ab,f,by rw [qb]; exact qcn q 1⟩,x,leR [(21,26)] hH aa rfl ⟨tv,zhe,zhl (by omega),zbt zau (by omega) _ _ _ _,tv⟩ ⟨cnt A,tv⟩ ⟨Fz.r _,rfl,zz6 (zoi (μ:=sig [(21,26)]) rfl rfl),zet (μ:=sig [(21,26)]) zau (fun k=>rfl) (zb9 _ (by rw [qq]; rfl)),tv⟩⟩
     |exact zsp ⟨⟨(k + 1,[] ++ [mkZ (prp9.getD k 0) (.slice false 0 (m 0) 0 2 (0 + ((s0 :: s).map enc).length) c2) rfl],c',ac),g,Fz.t D ab,f,by rw [qb]; exact qcn q 1⟩,x,leR [(21,26)] hH aa rfl ⟨tv,zhe,zhl (by omega),zbt zau (by omega) _ _ _ _,tv⟩ ⟨cnt A,tv⟩ ⟨Fz.r _,rfl,zz6 (zoi (μ:=sig [(21,26)]) rfl rfl),zet (μ:=sig [(21,26)]) zau (fun k=>rfl) (zb9 _ (by rw [qq]; rfl)),tv⟩⟩
 ·have w:¬ (k:Int) < 5:=by omega
  have bd:k = 5:=by omega
  subst bd;rcases o with _ | ⟨o0,B⟩
  ·refine brj w ?_;refine gae (by simp) ⟨⟨by decide,by decide⟩,by decide,?_⟩;refine usePu (bg G) rfl ⟨oi a7,rfl,tv⟩ rfl ?_;refine relE (.ret (.agg [.int .i64 (IntKind.i64.wrap (1 + pickI h 9)),.int .i64 a,.int .i64 b,.lit (decide (pickI (h.tdiv 6) 2 = 0)),.slice true 0 0 0 2 0 0])) z9p z9o ?_;exact endFo _ G rfl (Fz.t lF D) (Fz.r G) (fin9n d) (zah _) rfl
  ·refine brj w ⟨fun g=>absurd g (by simp; try omega),fun _=>?_⟩;refine zbe 21 (fun _=>.arr 96 2 ((o0 :: B).map encZ) co) rfl rfl rfl (fun _ _=>by exact zea (μ:=resP _) zau (fun k=>rfl) rfl _ _ _) (fun _ _=>zct zau (by omega) _ _ _ _) ?_;intro b' F' ah ba;exact endFo _ F' rfl (Fz.t (Fz.t lF D) ah) (Fz.r F') (fin9c (d.mono ah) (ba 0 ⟨rfl,rfl⟩)) (zah _) rfl
theorem zt6:∀ (l:List Kp) (x:Kp),asc l = true → (∀ y ∈ l,y.1 < x.1) → asc (l ++ [x]) = true
 |[],_,_,_=>rfl
 |[a],x,_,h=>by
  show (decide (a.1 < x.1) && asc [x]) = true;rw [decide_eq_true (h a (by simp))]; rfl
 |a :: b :: r,x,ha,h=>by
  rw [asc,qd] at ha;show (decide (a.1 < b.1) && asc ((b :: r) ++ [x])) = true;rw [ha.1,zt6 (b :: r) x ha.2 fun y c=>h y (yk _ c)]; rfl
theorem z96:∀ k,k < 5 → ∀ i,i < k → prp9.getD i 0 < prp9.getD k 0:=by decide
theorem zzm:∀ i,i < 5 → ∀ j,j < 6 → stp9 i j = [] ∨ zbd (prp9.getD i 0,stp9 i j) = true:=by decide
theorem zlf {a:List Int} (c:∀ k,i64 (a.getD k 0)):∀ n,n ≤ 5 → ∀ y ∈ keep9 a n,∃ i,i < n ∧ y.1 = prp9.getD i 0 ∧ zbd y = true ∧ y.2.length ≤ 2
 |0,_,y,h=>nomatch h
 |n + 1,hn,y,h=>by
  rw [keep9,yj] at h;rcases h with h | h
  ·obtain ⟨i,h1,b⟩:=zlf c n (by omega) y h;exact ⟨i,by omega,b⟩
  ·have e:=zck (a.getD n 0) 6 (by decide) (c n);have h1:=zzm n (by omega) (pickI (a.getD n 0) 6).toNat (by omega);have b:=zwa n (by omega) (pickI (a.getD n 0) 6).toNat (by omega);split at h
   ·cases h
   ·rename_i d;rw [qs] at h;subst h;exact ⟨n,by omega,rfl,h1.resolve_left d,b⟩
theorem zqu {a:List Int} (b:∀ k,i64 (a.getD k 0)):∀ n,n ≤ 5 → asc (keep9 a n) = true ∧ (keep9 a n).length ≤ n
 |0,_=>⟨rfl,qi 0⟩
 |n + 1,hn=>by
  have ih:=zqu b n (by omega);rw [keep9];split
  ·rw [js]; exact ⟨ih.1,qa9 ih.2⟩
  ·refine ⟨zt6 _ _ ih.1 fun y d=>?_,by rw [qb]; exact qcn ih.2 1⟩;obtain ⟨i,h1,c,-,-⟩:=zlf b n (by omega) y d;rw [c];exact z96 n (by omega) i h1
theorem zz2 {a b c d e f g:Int} (j:idOk a = true) (k:idOk b = true) (l:i64 c ∧ i64 d ∧ i64 e ∧ i64 f ∧ i64 g):migOk (made9 a b c d e f g) = true ∧ short (made9 a b c d e f g).keep ∧ (made9 a b c d e f g).keep.length < 1000000:=by
 have p:=zck c 9 (by decide) l.1;have n:=zqu (ztx l) 5 (qi 5);have o:=zlf (ztx l) 5 (qi 5);refine ⟨?_,fun y m=>?_,yp n.2 (by decide)⟩
 ·unfold migOk made9;rw [zaj (by omega) (by omega)];simp only [qd];refine ⟨n.1,?_,j,k,?_,?_⟩
  ·simp only [idOk,qd,decide_eq_true_eq]; omega
  ·cases keep9 [c,d,e,f,g] 5<;>simp
  ·exact qn.2 fun y m=>(o y m).elim fun i h=>h.2.2.1
 ·obtain ⟨i,-,-,-,h⟩:=o y m;omega
theorem z97 {w:Int} {s:List UInt8} (h:rasOk w s = true):s.length ≤ 1024:=by
 unfold rasOk at h;simp only [qd,qak,decide_eq_true_eq,beq_iff_eq,inR] at h;rcases h.2 with h2 | h2
 ·rw [h2.2]; exact yd _
 ·have a:w * hgt w s ≤ 32 * 32:=qbd (by omega) (by omega) (by omega) (by omega);omega
theorem zgf {d:Dc} (h:docOk d = true):DcSmall d:=by
 have a:=zbk h;exact ⟨jk a.lines (by decide),jk a.cells (by decide),jk (z97 a.ras) (by decide)⟩
abbrev RunM (M:Mig) (d:Dc):Out → Fz → Prop:=fun o c=>o = .ret (.tup [.agg docZ,.va (.int .i64 90)]) ∨ (∃ e a b,runD M.keep d = some e ∧ o = .ret (.tup [.agg (docS a b e.w e.bits),.va (.int .i64 0)]) ∧ DocAt c a b e)
section
variable {M:Mig} (hm:migOk M = true) (hs:short M.keep) (hl:M.keep.length < 1000000) {d:Dc} (hd:docOk d = true)
include hm hs hl hd
theorem yaf (F:Fz) (i:MLF F) (sk a b:SA) (j:KpsAt F sk M.keep) (g:DocAt F a b d):Fo Tryz.prog F 38 [.agg (migS M sk),.agg (docS a b d.w d.bits)] (RunM M d):=
 zce (ycg F i sk M a b d j hs hl g (zgf hd)) fun o k h=>by
  rcases h with ⟨_,h⟩ | ⟨e,a,b,h1,c,f⟩
  ·exact .inl h
  ·unfold runX at h1;rw [if_pos ⟨hm,hd⟩] at h1;exact .inr ⟨e,a,b,h1,c,f⟩
theorem z4p (F:Fz) (n:MLF F) (p:RNDF F) (sk a b c f:SA) {e:Dc} (j:runD M.keep d = some e) (q:KpsAt F sk M.keep) (l:DocAt F a b d) (m:DocAt F c f e) :
  Fo Tryz.prog F 21 [.agg (migS M sk),.agg (docS a b d.w d.bits),.agg (docS c f e.w e.bits)] (fun o i=>∃ k,o = .ret (.tup [.agg (crtS (makeC M d e) k),.va (.int .i64 0)]) ∧ ClsAt i k (zbi M.keep)):=by
 have g:M.keep.all zbd = true:=by
  simp only [migOk,qd] at hm;exact hm.2.2.2.2.2
 refine zce (zor F n p sk a b c f M d e q hs hl l m (zgf hd) (zgf (z06 g hd j))) fun o i h=>?_
 rcases h with ⟨h,_⟩ | ⟨_,h⟩
 ·exact absurd (h.symm.trans (run_make hm hd j)) (by simp)
 ·exact h
end
theorem yag {M:Mig} (hm:migOk M = true) (_:short M.keep) (_:M.keep.length < 1000000) {d:Dc} (hd:docOk d = true) {e:Dc} (a:runD M.keep d = some e):docOk e = true ∧ zb1 (makeC M d e) (allB d) (allB e) = true:=by
 have h:=run_make hm hd a;simp only [zdx,qd] at h;exact h.2.2
theorem zt2 {d:Dc} (hd:docOk d = true) (F:Fz) (a b:SA) (i:DocAt F a b d) :
  Fo Tryz.prog F 14 [.agg (docS a b d.w d.bits)] (fun o e=>∃ b c,o = .ret (.tup [.va (.slice false 0 b 0 1 8 c),.va (.int .i64 0)]) ∧ Sl e 9 1 encS (.slice false 0 b 0 1 8 c) (allB d)):=
 zce (zn1 F a b d i (zgf hd)) fun o e h=>by
  rcases h with ⟨h,_⟩ | ⟨_,b,c,h,f⟩
  ·exact absurd (h.symm.trans hd) (by simp)
  ·have g:(allB d).length = 8:=zda d;refine ⟨b,c,h,false,b,0,c,_,c,by rw [g],by simp,fun _=>f,by rw [qa]; exact qce (qv _),?_⟩;rw [qaf,qo (by rw [qa]; exact qi _)]
def zky (A:List (List UInt8)):Prop:=∀ p:Int,1 ≤ p ∧ p ≤ 8 → ∃ v,VOK p v ∧ atV A p = zbo p v
theorem zpv {d:Dc} (b:docOk d = true):zky (allB d):=fun p a=>by
 refine ⟨zb8 p d,zg1 a b,?_⟩;have h:=zkc d (p - 1).toNat (by omega);rw [atV,h,show (((p - 1).toNat:Nat):Int) + 1 = p by omega,yg,zho a]
theorem yb0 (t:List Stp):normS ([(6,0)] ++ t) = [(6,0)]:=by rw [normS,if_neg (by simp [sel])]
theorem yb1 (t:List Stp):normS (t ++ [(6,0)]) = [(6,0)]:=by rw [normS,if_neg (by simp [sel])]
theorem z3a {A B C:List (List UInt8)} {p:Int} {s t:List Stp} (l:1 ≤ p ∧ p ≤ 8) (k:zky A) (a:zaw p s = true) (e:zaw p t = true) (h1:chkAt A B (p,s) = true) (i:chkAt B C (p,t) = true) :
  chkAt A C (p,normS (s ++ t)) = true:=by
 by_cases f:s = [(6,0)]
 ·subst f; rw [yb0]; simp [chkAt]
 by_cases g:t = [(6,0)]
 ·subst g; rw [yb1]; simp [chkAt]
 obtain ⟨v,b,j⟩:=k p l
 have c:zbo p (runS s v) = atV B p:=by
  simp only [chkAt,j,ze3 a b] at h1;simpa [f] using h1
 have d:zbo p (runS t (runS s v)) = atV C p:=by
  simp only [chkAt,← c,ze3 e (z7m a b)] at i;simpa [g] using i
 have h:zc4 p (normS (s ++ t)) (atV A p) = (atV C p,0):=by rw [j,ze3 (compV a e) b,z5v a e b,d]
 simp [chkAt,h]
theorem zug:∀ (l:List Kp) (i:Int),clOk l i = true ↔ ∀ (k:Nat) (h:k < l.length),clAt (l[k]'h) (i + k) = true
 |[],i=>by simp [clOk]
 |x :: r,i=>by
  rw [clOk,qd,zug r (i + 1)];refine ⟨fun ⟨h1,c⟩ k a=>?_,fun h=>⟨?_,fun k a=>?_⟩⟩
  ·cases k with
   |zero=>rw [show i + ((0:Nat):Int) = i by omega]; exact h1
   |succ k=>have:=c k (by simpa using a); rw [show i + ((k + 1:Nat):Int) = i + 1 + k by omega]; exact this
  ·have b:clAt x (i + ((0:Nat):Int)) = true:=h 0 (by simp);rw [show i + ((0:Nat):Int) = i by omega] at b; exact b
  ·have:=h (k + 1) (by simpa using a); rw [show i + 1 + (k:Int) = i + ((k + 1:Nat):Int) by omega]; exact this
theorem zjj {x y:Kp} {i:Int} (b:clAt x i = true) (c:clAt y i = true):zdw x y = (i,normS (x.2 ++ y.2)) ∧ clAt (zdw x y) i = true:=by
 obtain ⟨p,s⟩:=x;obtain ⟨q,t⟩:=y;simp only [clAt,qd,decide_eq_true_eq] at b c;obtain ⟨rfl,h1,d⟩:=b;obtain ⟨rfl,a,f⟩:=c
 have e:zdw (q,s) (q,t) = (q,normS (s ++ t)):=by
  show (q,(compR q s t).1) = _;rw [compR,if_pos ⟨h1,a⟩]
 refine ⟨e,?_⟩;rw [e];simp only [clAt,qd,decide_eq_true_eq];exact ⟨tv,compV h1 a,zlp _⟩
structure CrtP (c:Crt):Prop where
 s:c.src.length = 32
 d:c.dst.length = 32
 l:1 ≤ c.len ∧ c.len ≤ 64
 n:c.cl.length = 8
 k:∀ (k:Nat) (h:k < c.cl.length),clAt (c.cl[k]'h) (1 + k) = true
theorem zd1 {c:Crt}:crtOk c = true ↔ CrtP c:=by
 simp only [crtOk,qd,decide_eq_true_eq,zug];exact ⟨fun ⟨h1,b,a,d,e,f⟩=>⟨h1,b,⟨a,d⟩,e,f⟩,fun ⟨h1,b,a,d,e⟩=>⟨h1,b,a.1,a.2,d,e⟩⟩
theorem zsz {a b:Crt} (c:crtOk a = true) (e:crtOk b = true) (i:a.len + b.len ≤ 64):crtOk (joinC a b) = true:=by
 rw [zd1] at *;refine ⟨c.s,e.d,⟨?_,i⟩,?_,fun k h=>?_⟩
 ·show 1 ≤ a.len + b.len; have:=c.l; have:=e.l; omega
 ·show (List.zipWith zdw a.cl b.cl).length = 8; rw [qar,c.n,e.n]; rfl
 ·have f:k < (List.zipWith zdw a.cl b.cl).length:=h;have g:k < 8:=by rw [qar,c.n,e.n] at f; exact f
  show clAt ((List.zipWith zdw a.cl b.cl)[k]'f) _ = true;rw [qa8];exact (zjj (c.k k (c.n ▸ g)) (e.k k (e.n ▸ g))).2
structure ChkP (c:Crt) (A B:List (List UInt8)):Prop where
 ok:crtOk c = true
 a:A.length = 8
 b:B.length = 8
 s:root8 A = c.src
 d:root8 B = c.dst
 k:∀ x ∈ c.cl,chkAt A B x = true
theorem zed {c:Crt} {A B:List (List UInt8)}:zb1 c A B = true ↔ ChkP c A B:=by
 simp only [zb1,qd,decide_eq_true_eq,qn];exact ⟨fun ⟨h1,⟨a,b⟩,d,e,f⟩=>⟨h1,a,b,d,e,f⟩,fun ⟨h1,a,b,d,e,f⟩=>⟨h1,⟨a,b⟩,d,e,f⟩⟩
theorem zeh {a b:Crt}:zcy a b = true ↔ a.dst = b.src ∧ crtOk b = true ∧ a.len + b.len ≤ 64:=by
 simp only [zcy,qd,decide_eq_true_eq]
theorem zue {a b:Crt} {A B C:List (List UInt8)} (u:zky A) (h1:zb1 a A B = true) (c:zb1 b B C = true) (j:a.len + b.len ≤ 64):zcy a b = true ∧ zb1 (joinC a b) A C = true:=by
 rw [zed] at h1 c;refine ⟨zeh.2 ⟨h1.d.symm.trans c.s,c.ok,j⟩,?_⟩;rw [zed];refine ⟨zsz h1.ok c.ok j,h1.a,c.b,h1.s,c.d,fun x h=>?_⟩;have f:=zd1.1 h1.ok;have g:=zd1.1 c.ok;obtain ⟨k,w,rfl⟩:=qbv.1 h;have i:k < (List.zipWith zdw a.cl b.cl).length:=w;have e:k < 8:=by rw [qar,f.n,g.n] at i; exact i
 show chkAt A C ((List.zipWith zdw a.cl b.cl)[k]'i) = true;rw [qa8,(zjj (f.k k (f.n ▸ e)) (g.k k (g.n ▸ e))).1];have h:=f.k k (f.n ▸ e);have l:=g.k k (g.n ▸ e);have m:=h1.k _ (qy (f.n ▸ e));have o:=c.k _ (qy (g.n ▸ e));generalize a.cl[k]'(f.n ▸ e) = x at *;generalize b.cl[k]'(g.n ▸ e) = y at *;obtain ⟨p,s⟩:=x;obtain ⟨q,t⟩:=y;simp only [clAt,qd,decide_eq_true_eq] at h l;obtain ⟨rfl,D,-⟩:=h;obtain ⟨rfl,E,-⟩:=l;exact z3a (by omega) u D E m o
structure Chn (V:List (List (List UInt8))) (C:List Crt):Prop where
 n:V.length = C.length + 1
 chk:∀ (i:Nat) (h:i < C.length),zb1 (C[i]'h) (V[i]?.getD []) (V[i + 1]?.getD []) = true
 one:∀ c ∈ C,c.len = 1
 sh:∀ c ∈ C,short c.cl
 ok:∀ A ∈ V,zky A
theorem Chn.new {A:List (List UInt8)} (h:zky A):Chn [A] []:=⟨rfl,fun i h=>absurd h (by simp),by simp,by simp,fun B a=>by rw [qs] at a; subst a; exact h⟩
theorem Chn.snoc {V:List (List (List UInt8))} {C:List Crt} (h:Chn V C) {B:List (List UInt8)} {c:Crt} (f:zb1 c (V[C.length]?.getD []) B = true) (h1:c.len = 1) (j:short c.cl) (d:zky B):Chn (V ++ [B]) (C ++ [c]):=by
 refine ⟨by simp [h.n],fun i a=>?_,fun x hx=>?_,fun x hx=>?_,fun x hx=>?_⟩
 ·have g:=h.n;by_cases e:i < C.length
  ·have:=h.chk i e;rw [List.getElem_append_left e,q8 (by omega),q8 (by omega)];exact this
  ·have b:i = C.length:=by rw [qb] at a; simp at a; omega
   subst b;rw [List.getElem_append_right (qi _),q8 (by omega),jt (by omega)];simpa [g] using f
 ·rcases yj.1 hx with hx | hx
  ·exact h.one x hx
  ·rw [qs] at hx; subst hx; exact h1
 ·rcases yj.1 hx with hx | hx
  ·exact h.sh x hx
  ·rw [qs] at hx; subst hx; exact j
 ·rcases yj.1 hx with hx | hx
  ·exact h.ok x hx
  ·rw [qs] at hx; subst hx; exact d
theorem Chn.tail {A:List (List UInt8)} {V:List (List (List UInt8))} {c:Crt} {r:List Crt} (h:Chn (A :: V) (c :: r)):Chn V r:=
 ⟨by simpa using h.n,fun i b=>h.chk (i + 1) (by simpa using b),fun x a=>h.one x (by simp [a]),fun x a=>h.sh x (by simp [a]),fun x a=>h.ok x (by simp [a])⟩
theorem Chn.take {V:List (List (List UInt8))} {C:List Crt} (h:Chn V C) {k:Nat} (c:k ≤ C.length):Chn (V.take (k + 1)) (C.take k):=by
 have d:=h.n;refine ⟨by rw [qk,qk]; omega,fun i b=>?_,fun x a=>h.one x (jp a),fun x a=>h.sh x (jp a),fun x a=>h.ok x (jp a)⟩;rw [qk] at b;have:=h.chk i (by omega);rw [qc4];rw [qa5,qa5,if_pos (by omega),if_pos (by omega)];exact this
theorem Chn.drop {V:List (List (List UInt8))} {C:List Crt} (h:Chn V C) {k:Nat} (c:k ≤ C.length):Chn (V.drop k) (C.drop k):=by
 have d:=h.n;refine ⟨by rw [yi,yi]; omega,fun i b=>?_,fun x a=>h.one x (yu a),fun x a=>h.sh x (yu a),fun x a=>h.ok x (yu a)⟩;rw [yi] at b;have:=h.chk (k + i) (by omega);rw [List.getElem_drop];rw [yw,yw];exact this
theorem zup:∀ (r:List Crt) (a:Crt) (A B:List (List UInt8)) (V:List (List (List UInt8))),zky A → zb1 a A B = true → Chn (B :: V) r → a.len + r.length ≤ 64 →
  ∃ x,foldS a r = some x ∧ zb1 x A ((B :: V)[r.length]?.getD []) = true ∧ x.len = a.len + r.length
 |[],a,A,B,V,_,ha,h,_=>⟨a,rfl,ha,(Int.add_zero _).symm⟩
 |c :: r,a,A,B,[],_,_,h,_=>absurd h.n (by simp)
 |c :: r,a,A,B,D :: V,hA,ha,h,hl=>by
  have g:zb1 c B D = true:=h.chk 0 (by simp);have h1:c.len = 1:=h.one c (by simp);rw [qe] at hl;have b:=zue hA ha g (by omega);obtain ⟨x,d,e,f⟩:=zup r (joinC a c) A D V hA b.2 h.tail (by show a.len + c.len + _ ≤ 64; omega);refine ⟨x,?_,by simpa using e,?_⟩
  ·rw [foldS,if_pos b.1]; exact d
  ·rw [f,qe]; show a.len + c.len + _ = _; omega
theorem zhy {V:List (List (List UInt8))} {C:List Crt} (h:Chn V C) (b:C ≠ []) (g:C.length ≤ 64):∃ x,zaz C = some x ∧ zb1 x (V[0]?.getD []) (V[C.length]?.getD []) = true ∧ x.len = C.length:=by
 match C,V,h,b with
 |c :: r,[A],h,_=>exact absurd h.n (by simp)
 |c :: r,A :: B :: V,h,_=>
  have a:zb1 c A B = true:=h.chk 0 (by simp);have h1:c.len = 1:=h.one c (by simp);rw [qe] at g;obtain ⟨x,d,e,f⟩:=zup r c A B V (h.ok A (by simp)) a h.tail (by omega);refine ⟨x,?_,by simpa using e,by rw [f,h1,qe]; omega⟩;rw [zaz,if_pos (zed.1 a).ok]; exact d
theorem zj1:∀ (l m:List Crt) (a:Crt),foldS a (l ++ m) = (foldS a l).bind fun x=>foldS x m
 |[],m,a=>rfl
 |b :: l,m,a=>by
  rw [jy,foldS,foldS];split
  ·exact zj1 l m _
  ·rfl
theorem zsy {a b c:Crt} (e:crtOk a = true) (f:crtOk b = true) (g:crtOk c = true):joinC (joinC a b) c = joinC a (joinC b c):=by
 rw [zd1] at e f g;unfold joinC;simp only [Crt.mk.injEq,true_and];refine ⟨Int.add_assoc _ _ _,qdb (by simp [e.n,f.n,g.n]) fun k h1 o=>?_⟩;have d:k < 8:=by simpa [e.n,f.n,g.n] using h1
 have h:=e.k k (e.n ▸ d);have j:=f.k k (f.n ▸ d);have m:=g.k k (g.n ▸ d);simp only [qa8];generalize a.cl[k]'(e.n ▸ d) = x at *;generalize b.cl[k]'(f.n ▸ d) = y at *;generalize c.cl[k]'(g.n ▸ d) = z at *;have i:=zjj h j;have l:=zjj j m;rw [(zjj i.2 m).1,(zjj h l.2).1,i.1,l.1,zwv]
theorem zm1:∀ (r:List Crt) (a b x y:Crt),crtOk a = true → crtOk b = true → foldS b r = some x → foldS (joinC a b) r = some y → y = joinC a x
 |[],a,b,x,y,_,_,h1,h2=>by cases h1; cases h2; rfl
 |c :: r,a,b,x,y,ha,hb,h1,h2=>by
  rw [foldS] at h1 h2;split at h1
  ·rename_i e;split at h2
   ·have d:=zeh.1 e;rw [zsy ha hb d.2.1] at h2;exact zm1 r a (joinC b c) x y ha (zsz hb d.2.1 d.2.2) h1 h2
   ·cases h2
  ·cases h1
theorem zgd (a b:Crt):zaz [a,b] = if crtOk a = true ∧ zcy a b = true then some (joinC a b) else none:=by
 rw [zaz,foldS,foldS];by_cases h1:crtOk a = true<;>by_cases c:zcy a b = true<;>simp [h1,c]
theorem z8z {V:List (List (List UInt8))} {C:List Crt} (h:Chn V C) (D:C.length ≤ 64) {k:Nat} (h1:1 ≤ k) (l:k < C.length) :
  ∃ a b w,zaz (C.take k) = some a ∧ zaz (C.drop k) = some b ∧ zaz C = some w ∧ zaz [a,b] = some w ∧ crtOk w = true ∧ w.len = C.length ∧ (∀ z,zaz [b,a] = some z → b.dst = a.src):=by
 have O:=h.n;have d:(C.take k).length = k:=by rw [qk]; omega
 have f:(C.drop k).length = C.length - k:=yi;obtain ⟨a,i,m,I⟩:=zhy (h.take (qcs l)) (by intro e; rw [e] at d; simp at d; omega) (by omega);obtain ⟨b,j,s,lb⟩:=zhy (h.drop (qcs l)) (by intro e; rw [e] at f; simp at f; omega) (by omega);obtain ⟨w,g,y,J⟩:=zhy h (by intro e; rw [e] at l; simp at l) D
 have B:(V.take (k + 1))[(C.take k).length]?.getD [] = (V.drop k)[0]?.getD []:=by
  rw [d,qa5,yw,if_pos (qb0 k)]; rfl
 rw [B] at m
 have E:=zue (A:=(V.take (k + 1))[0]?.getD []) (h.ok _ (by
  have:0 < (V.take (k + 1)).length:=by rw [qk]; omega
  rw [qc this]; exact jp (qy this))) m s (by rw [I,lb,d,f]; omega)
 have u:=(zed.1 m).ok;have ob:=(zed.1 s).ok
 have G:w = joinC a b:=by
  have c:C = C.take k ++ C.drop k:=(yv k C).symm;rcases o:C.take k with _ | ⟨M,Q⟩
  ·rw [o] at d; simp at d; omega
  rcases p:C.drop k with _ | ⟨c2,x⟩
  ·rw [p] at f; simp at f; omega
  rw [o,p] at c;rw [o,zaz] at i;rw [p,zaz] at j;rw [c,jy,zaz] at g;split at i
  ·rename_i K;rw [if_pos K,zj1,i] at g;replace g:foldS a (c2 :: x) = some w:=g;rw [foldS] at g;split at j
   ·rename_i L;split at g
    ·exact zm1 x a c2 b w u L j g
    ·cases g
   ·cases j
  ·cases i
 refine ⟨a,b,w,i,j,g,?_,(zed.1 y).ok,J,fun z q=>?_⟩
 ·rw [zgd,if_pos ⟨u,E.1⟩,G]
 ·rw [zgd] at q;split at q
  ·rename_i e; exact (zeh.1 e.2).1
  ·cases q
theorem zuq {s:Crt} (d:crtOk s = true) (i:s.dst = s.src):∀ (j:Nat) (a:Crt),a.dst = s.src → a.len ≤ 64 →
  (a.len + j * s.len ≤ 64 ∧ ∃ y,foldS a (List.replicate j s) = some y ∧ y.len = a.len + j * s.len) ∨ (¬ a.len + j * s.len ≤ 64 ∧ foldS a (List.replicate j s) = none)
 |0,a,_,h=>.inl ⟨by simpa using h,a,rfl,by simp⟩
 |j + 1,a,ha,h=>by
  have h1:=(zd1.1 d).l;have k:0 ≤ (j:Int) * s.len:=qbs (by omega) (by omega);have e:((j + 1:Nat):Int) * s.len = j * s.len + s.len:=by rw [qbj,Int.add_mul]; simp
  rw [qa1,foldS,e];by_cases g:a.len + s.len ≤ 64
  ·rw [if_pos (zeh.2 ⟨ha,d,g⟩)];rcases zuq d i j (joinC a s) i g with ⟨b,y,c,f⟩ | ⟨b,c⟩
   ·replace b:a.len + s.len + j * s.len ≤ 64:=b;replace f:y.len = a.len + s.len + j * s.len:=f;exact .inl ⟨by omega,y,c,by omega⟩
   ·replace b:¬ a.len + s.len + j * s.len ≤ 64:=b;exact .inr ⟨by omega,c⟩
  ·rw [if_neg fun e=>g (zeh.1 e).2.2];exact .inr ⟨by omega,rfl⟩
theorem zsk {s:Crt} (a:crtOk s = true) (b:s.dst = s.src) (n:Nat) (c:0 < n) :
  (n * s.len ≤ 64 ∧ ∃ y,zaz (List.replicate n s) = some y ∧ y.len = n * s.len) ∨ (¬ n * s.len ≤ 64 ∧ zaz (List.replicate n s) = none):=by
 obtain ⟨j,rfl⟩:∃ j,n = j + 1:=⟨n - 1,by omega⟩
 have e:((j + 1:Nat):Int) * s.len = s.len + j * s.len:=by rw [qbj,Int.add_mul]; simp; omega
 rw [qa1,zaz,if_pos a,e];exact zuq a b j s b (zd1.1 a).l.2
end Go.Proofs.YtfnkamphhpldcaaGreatDoor
