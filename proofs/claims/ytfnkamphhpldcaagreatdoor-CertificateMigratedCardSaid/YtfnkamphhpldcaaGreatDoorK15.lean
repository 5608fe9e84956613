import Derived.Test.YtfnkamphhpldcaaGreatDoorK14
import Derived.Test.YtfnkamphhpldcaaGreatDoorK09
set_option maxHeartbeats 64000000
namespace Go.Proofs.YtfnkamphhpldcaaGreatDoor
open Go Sx
set_option maxRecDepth 100000
def iA (i c:Nat):List Int → SA
 |[]=>.nilsl
 |_ :: r=>.slice false i 0 0 1 (r.length + 1) c
def iE (c:Nat) (s:List Int):Ent:=.opt (!s.isEmpty) (.arr 3 1 (s.map encI) c)
def oA (i c:Nat):List Stp → SA
 |[]=>.nilsl
 |_ :: r=>.slice false i 0 0 2 (r.length + 1) c
def oE (c:Nat) (s:List Stp):Ent:=.opt (!s.isEmpty) (.arr 56 2 (s.map enc) c)
theorem zcc {μ:Mu} {i j:Nat} (h:μ i 0 = (j,0)) (c:Nat) (s:List Int):(iA i c s).ren μ = iA j c s:=by
 cases s with
 |nil=>rfl
 |cons x r=>simp only [iA,SA.ren,h]
theorem zl8 {a b c d e f i g c' j e' h:SA} (h1:a = i) (m:b = g) (l:c = c') (n:d = j) (k:e = e') (o:f = h) :
  SB.cells 265 [.nilsl,a,b,c,d,e,f] = SB.cells 265 [.nilsl,i,g,c',j,e',h]:=by subst h1 m l n k o; rfl
theorem ydn (μ:Mu) (c:Nat) (s:List Int):(iE c s).ren μ = iE c s:=by
 show Ent.opt _ (SB.ren μ _) = _; rw [zck]; rfl
theorem za5 {x:Option Ent} {μ:Mu} {c:Nat} {s:List Int} (h:subE x (iE c s)):subE x ((iE c s).ren μ):=by rw [ydn]; exact h
theorem zav (c:Nat) (s:List Int):subE (some (iE c s)) (iE c s):=⟨rfl,rfl⟩
theorem zmc {c:Nat} {s:List Int} (L:List (List SA)) (h:L = s.map encI):subE (some (.one (.arr 3 1 L c))) (iE c s):=by rw [h]; exact rfl
theorem za2 (n c:Nat) (s:List Int):(iE c s).below n:=zb0 n s c
theorem z2y {n i:Nat} (h:i < n) (c:Nat) (s:List Int):(iA i c s).below n:=by
 cases s with
 |nil=>trivial
 |cons x r=>exact .inr h
theorem zyg (f c h e j l:Nat) (i m k d g n:List Int):(SB.cells 265 [.nilsl,iA 2 f i,iA 3 c m,iA 4 h k,iA 5 e d,iA 6 j g,iA 7 l n]).below 8:=by
 intro a b;simp only [qj,qs,or_false] at b;rcases b with rfl | rfl | rfl | rfl | rfl | rfl | rfl
 ·trivial
 all_goals exact z2y (by omega) _ _
theorem zl2 {μ:Mu} {i j:Nat} (h:μ i 0 = (j,0)) (c n:Nat) (s:List Int) (ν:Int) (a:n = s.length + 1):SA.slice false j 0 0 1 n c = (iA i c (s ++ [ν])).ren μ:=by
 rw [zcc h,a];cases s with
 |nil=>rfl
 |cons x r=>simp [iA]
theorem zg0 {κ:Int} {l:List Stp} {k:Nat} {s:List Int} {ν:Int} (a:s = sel κ (l.take k)) (g:k < l.length) (h:l[k] = (κ,ν)):s ++ [ν] = sel κ (l.take (k + 1)):=by
 rw [z8y κ l k g (by rw [h]),a,h]
theorem zbw {κ b:Int} {l:List Stp} {k:Nat} {s:List Int} {ν:Int} (c:s = sel κ (l.take k)) (g:k < l.length) (h:l[k] = (b,ν)) (a:b ≠ κ):s = sel κ (l.take (k + 1)):=by
 rw [yda κ l k g (by rw [h]; exact a),c]
theorem zsa {κ:Int} {l:List Stp} {k:Nat} {s:List Int} (a:s = sel κ (l.take k)):s.length ≤ k:=by
 rw [a]; have:=ycv κ (l.take k); rw [qq] at this; omega
def piece (κ:Int) (s:List Int):List Stp:=if s = [] then [] else if κ = 3 then [(3,mx s)] else if κ = 5 then (s.take 5).map (fun n=>(5,n)) else [(κ,mn s)]
def pieces (c e d a b:List Int):List (List Stp):=[[],piece 1 c,piece 2 e,piece 3 d,piece 4 a,piece 5 b,[]]
def normS (l:List Stp):List Stp:=if sel 6 l = [] then (pieces (sel 1 l) (sel 2 l) (sel 3 l) (sel 4 l) (sel 5 l)).flatten else [(6,0)]
theorem zeb {c e d a b:List Int} {k:Nat} {out:List Stp} (p:List Stp) (h:out = ((pieces c e d a b).take k).flatten) (f:(pieces c e d a b)[k]? = some p):out ++ p = ((pieces c e d a b).take (k + 1)).flatten:=by
 have g:=(qi.1 f).1;have i:=(qi.1 f).2;rw [zda g,i,h]
theorem zgg (κ:Int) (s:List Int):(piece κ s).length ≤ 5:=by
 unfold piece; split
 ·simp
 ·split
  ·simp
  ·split
   ·simp; omega
   ·simp
theorem ziz (c e d a b:List Int) (k:Nat):((pieces c e d a b).take k).flatten.length ≤ 100:=by
 refine js (zc6 _ k) ?_;have h1:=zgg 1 c; have h:=zgg 2 e; have g:=zgg 3 d; have i:=zgg 4 a; have f:=zgg 5 b;simp only [pieces,jx,qar,qd,qt]; omega
theorem zvu (x:Int) (r:List Int):piece 5 (x :: r) = ((x :: r).take 5).map (fun n=>(5,n)):=by simp [piece]
theorem zkn {κ:Int} {x:Int} {r:List Int} (b:κ ≠ 3) (a:κ ≠ 5):piece κ (x :: r) = [(κ,mn (x :: r))]:=by simp [piece,b,a]
theorem ztm {μ:Mu} {i j:Nat} (h:μ i 0 = (j,0)) (c n:Nat) (s:List Stp) (t:Stp) (a:n = s.length + 1):atomE ((oA i c (s ++ [t])).ren μ) (SA.slice false j 0 0 2 n c):=by
 subst a;cases s with
 |nil=>simp only [oA,qw,SA.ren,h]; exact ⟨rfl,rfl,rfl,.inr ⟨rfl,rfl,rfl,rfl⟩⟩
 |cons x r=>simp only [oA,yh,SA.ren,h]; exact ⟨rfl,by simp,rfl,.inr ⟨rfl,rfl,rfl,rfl⟩⟩
theorem ydc (μ:Mu) (c:Nat) (s:List Stp):(oE c s).ren μ = oE c s:=by
 show Ent.opt _ (SB.ren μ _) = _; rw [zgx]; rfl
theorem zjk {x:Option Ent} {μ:Mu} {c:Nat} {s:List Stp} (h:subE x (oE c s)):subE x ((oE c s).ren μ):=by rw [ydc]; exact h
theorem zw8 {c:Nat} {s:List Stp} (L:List (List SA)) (h:L = s.map enc):subE (some (.one (.arr 56 2 L c))) (oE c s):=by rw [h]; exact rfl
theorem zll (c:Nat) (s:List Stp):subE (some (oE c s)) (oE c s):=⟨rfl,rfl⟩
theorem zel (n c:Nat) (s:List Stp):(oE c s).below n:=zd6 n s c
structure N1 (l:List Stp) (k:Nat) (s1 s2 s3 s4 s5 s6:List Int) (c5:Nat):Prop where
 hk:k ≤ l.length
 h1:s1 = sel 1 (l.take k)
 h2:s2 = sel 2 (l.take k)
 h3:s3 = sel 3 (l.take k)
 h4:s4 = sel 4 (l.take k)
 h5:s5 = sel 5 (l.take k)
 h6:s6 = sel 6 (l.take k)
 h7:s5.length ≤ c5
abbrev LC:=List Int × Nat
abbrev X1 (l:List Stp):={ x:Nat × LC × LC × LC × LC × LC × LC // N1 l x.1 x.2.1.1 x.2.2.1.1 x.2.2.2.1.1 x.2.2.2.2.1.1 x.2.2.2.2.2.1.1 x.2.2.2.2.2.2.1 x.2.2.2.2.2.1.2 }
theorem brF {b:Bool} {x y:Prop} (h:b = false) (k:y):Br b x y:=br (fun g=>absurd (h.symm.trans g) (by decide)) fun _=>k
theorem brT {b:Bool} {x y:Prop} (h:b = true) (k:x):Br b x y:=br (fun _=>k) fun g=>absurd (h.symm.trans g) (by decide)
theorem cs7 (k:Nat) (h:k < 7) (d f e b c:List Int):(k = 0 ∨ (k = 1 ∧ d = []) ∨ (k = 2 ∧ f = []) ∨ (k = 3 ∧ e = []) ∨ (k = 4 ∧ b = []) ∨ (k = 5 ∧ c = []) ∨ k = 6) ∨
  ((k = 1 ∧ ∃ x r,d = x :: r) ∨ (k = 2 ∧ ∃ x r,f = x :: r) ∨ (k = 3 ∧ ∃ x r,e = x :: r) ∨ (k = 4 ∧ ∃ x r,b = x :: r)) ∨ (k = 5 ∧ ∃ x r,c = x :: r):=by
 have a:∀ s:List Int,s = [] ∨ ∃ x r,s = x :: r:=fun s=>by cases s<;>simp
 have j:=a d;have i:=a f;have l:=a e;have n:=a b;have m:=a c;have g:k = 0 ∨ k = 1 ∨ k = 2 ∨ k = 3 ∨ k = 4 ∨ k = 5 ∨ k = 6:=by omega
 clear a
 grind
theorem zq6 (F:Fz) (sl:SA) (ls:List (List Stp)) (hs:zsx F sl ls) (hn:ls.length < 1000) (hl:ls.flatten.length < 100000) (T:∀ s ∈ ls.flatten,1 ≤ s.1 ∧ s.1 ≤ 6) :
  Fo Tryz.prog F 132 [.va sl] (fun o S=>∃ sc,o = .ret (.va sc) ∧ za1 S sc (normS ls.flatten)):=by
 have hc:=zzc F sl ls hs hn (by omega);obtain ⟨l,ao⟩:∃ l,l = ls.flatten:=⟨_,rfl⟩
 rw [← ao] at hl T hc ⊢;obtain ⟨sn,sb,se,ay,sL,sr,rfl,A,D,y,w⟩:=hs;refine fo_of hΘ Tryz.func132 rfl (by decide) _ _ rfl rfl rfl ?_;refine useFo (hc) rfl (zaa _) rfl ?_;rintro _ F1 l1 ⟨sa,rfl,ha⟩;conv=>whnf
 obtain ⟨a0,a8,ap,az,au,a9,rfl,ak,an,ax,aq⟩:=ha
 refine zam hΘ (X:=X1 l) (fun x=>[(14,.va (.int .i64 x.1.1))]) [5,15,16,17,18,19,20,21,22,23,24,25,26,27,28,29]
  (fun x=>[(0,.frz F1),(1,.one (.cells 265 [.nilsl,iA 2 x.1.2.1.2 x.1.2.1.1,iA 3 x.1.2.2.1.2 x.1.2.2.1.1,iA 4 x.1.2.2.2.1.2 x.1.2.2.2.1.1,iA 5 x.1.2.2.2.2.1.2 x.1.2.2.2.2.1.1,iA 6 x.1.2.2.2.2.2.1.2 x.1.2.2.2.2.2.1.1,iA 7 x.1.2.2.2.2.2.2.2 x.1.2.2.2.2.2.2.1])),
   (2,iE x.1.2.1.2 x.1.2.1.1),(3,iE x.1.2.2.1.2 x.1.2.2.1.1),(4,iE x.1.2.2.2.1.2 x.1.2.2.2.1.1),(5,iE x.1.2.2.2.2.1.2 x.1.2.2.2.2.1.1),(6,iE x.1.2.2.2.2.2.1.2 x.1.2.2.2.2.2.1.1),(7,iE x.1.2.2.2.2.2.2.2 x.1.2.2.2.2.2.2.1)]) 8 (fun x=>l.length - x.1.1)
  ⟨(0,([],0),([],0),([],0),([],0),([],0),([],0)),⟨by simp,rfl,rfl,rfl,rfl,rfl,rfl,qm 0⟩⟩
  (fun E B=>leI [(2,2),(3,3),(4,4),(5,5),(6,6),(7,7)] E B rfl ?_ ⟨rfl,tv⟩ ⟨Fz.r F1,rfl,rfl,rfl,rfl,rfl,rfl,rfl,tv⟩) ?_
 ·exact ⟨tv,zyg _ _ _ _ _ _ _ _ _ _ _ _,za2 _ _ _,za2 _ _ _,za2 _ _ _,za2 _ _ _,za2 _ _ _,za2 _ _ _,tv⟩
 rintro ⟨⟨k,⟨A,c1⟩,⟨D,c2⟩,⟨y,c3⟩,⟨w,c4⟩,⟨J,c5⟩,⟨U,c6⟩⟩,hk,h1,M,Y,Z,V,h6,h7⟩ E B;refine br (fun gb=>?_) (fun gb=>?_)
 ·have c:k < l.length:=by simpa using gb
  clear gb;have hκ:=T l[k] (jp c);have d:∃ κ ν,l[k] = (κ,ν):=⟨_,_,rfl⟩
  obtain ⟨κ,ν,d⟩:=d;rw [d] at hκ;replace hκ:1 ≤ κ ∧ κ ≤ 6:=hκ;refine ⟨Sl.lt ak c,⟨by simp,by simpa using c⟩,_,an (Sl.lt ak c),?_⟩;conv=>whnf
  have ah:au[ap + (k:Int).toNat]? = some (enc (κ,ν)):=(Sl.at aq c).trans (by rw [d]);refine ⟨_,ah,?_⟩
  have hN:∀ (κ:Int) (s:List Int),s = sel κ (l.take k) → s = [] ∨ ∃ x r,s = x :: r ∧ r.length + 1 ≤ k:=fun κ s h=>by
   have M:=zsa h;rcases s with _ | ⟨x,r⟩
   ·exact .inl rfl
   ·exact .inr ⟨x,r,rfl,M⟩
  have af:(κ = 1 ∧ A = []) ∨ (κ = 1 ∧ ∃ x r,A = x :: r ∧ r.length + 1 ≤ k) ∨ (κ = 2 ∧ D = []) ∨ (κ = 2 ∧ ∃ x r,D = x :: r ∧ r.length + 1 ≤ k) ∨ (κ = 3 ∧ y = []) ∨ (κ = 3 ∧ ∃ x r,y = x :: r ∧ r.length + 1 ≤ k) ∨ (κ = 4 ∧ w = []) ∨ (κ = 4 ∧ ∃ x r,w = x :: r ∧ r.length + 1 ≤ k) ∨ (κ = 5 ∧ J = []) ∨ (κ = 5 ∧ ∃ x r,J = x :: r ∧ r.length + 1 ≤ k) ∨ (κ = 6 ∧ U = []) ∨ (κ = 6 ∧ ∃ x r,U = x :: r ∧ r.length + 1 ≤ k):=by
   have a7:κ = 1 ∨ κ = 2 ∨ κ = 3 ∨ κ = 4 ∨ κ = 5 ∨ κ = 6:=by omega
   have n1:=hN 1 A h1;have n2:=hN 2 D M;have n3:=hN 3 y Y;have n4:=hN 4 w Z;have n5:=hN 5 J V;have n6:=hN 6 U h6;clear hN ah d h1 M Y Z V h6 h7;simp only [← and_or_left,← or_assoc] at *
   grind
  have u:l.length - (k + 1) < l.length - k:=by omega
  have p:k < 4611686018427387904:=by omega
  have m:∀ a1 a2 a3 a4 a5 a6 b1 b2 b3 b4 b5 b6,bH 8 [(0,.frz F1),(1,.one (.cells 265 [.nilsl,iA 2 a1 b1,iA 3 a2 b2,iA 4 a3 b3,iA 5 a4 b4,iA 6 a5 b5,iA 7 a6 b6])),(2,iE a1 b1),(3,iE a2 b2),(4,iE a3 b3),(5,iE a4 b4),(6,iE a5 b5),(7,iE a6 b6)]:=
   fun _ _ _ _ _ _ _ _ _ _ _ _=>⟨tv,zyg _ _ _ _ _ _ _ _ _ _ _ _,za2 _ _ _,za2 _ _ _,za2 _ _ _,za2 _ _ _,za2 _ _ _,za2 _ _ _,tv⟩
  clear hN;rcases af with ⟨rfl,rfl⟩ | ⟨rfl,x,r,rfl,I⟩ | ⟨rfl,rfl⟩ | ⟨rfl,x,r,rfl,I⟩ | ⟨rfl,rfl⟩ | ⟨rfl,x,r,rfl,I⟩ | ⟨rfl,rfl⟩ | ⟨rfl,x,r,rfl,I⟩ | ⟨rfl,rfl⟩ | ⟨rfl,x,r,rfl,I⟩ | ⟨rfl,rfl⟩ | ⟨rfl,x,r,rfl,I⟩
  all_goals
   refine drawP hΘ mixed (lk [0,1,2,3,4,5,6,7] (.alt 8 (.alt 9 (.look 10 (.last 11 .done)) .nil) .nil)) [1,8] (by kernel_rfl) ?_;conv=>whnf
   repeat' ((conv=>whnf); first
    |refine ⟨rfl,?_⟩
    |refine ⟨Fz.r _,rfl,?_⟩
    |refine ⟨Fz.r _,rfl,rfl,?_⟩
    |refine ⟨⟨by simp,by simp⟩,?_⟩
    |fail)
   refine ⟨qm 1,[encI ν],rfl,?_⟩;conv=>whnf
   first
   |refine ⟨rfl,rfl,by show 1 * 8 ≤ 140737488355328; omega,fun c' hc=>?_⟩
   |refine ⟨rfl,rfl,by simp,rfl,by show (r.length + 1 + 1) * 8 ≤ 140737488355328; omega,fun c' hc=>?_⟩
   repeat' ((conv=>whnf); first
    |refine ⟨rfl,?_⟩
    |refine ⟨Fz.r _,rfl,?_⟩
    |refine ⟨Fz.r _,rfl,rfl,?_⟩
    |refine ⟨⟨by simp,by simp⟩,?_⟩
    |fail)
   conv=>whnf
   first
   |exact ⟨⟨(k + 1,(_ ++ [ν],c'),(D,c2),(y,c3),(w,c4),(J,c5),(U,c6)),⟨c,zg0 h1 c d,zbw M c d (by decide),zbw Y c d (by decide),zbw Z c d (by decide),zbw V c d (by decide),zbw h6 c d (by decide),h7⟩⟩,u,leR [(2,10),(3,3),(4,4),(5,5),(6,6),(7,7)] E B rfl (m _ _ _ _ _ _ _ _ _ _ _ _) ⟨cnt p,tv⟩ ⟨Fz.r F1,zl8 (zl2 (μ:=sig [(2,10),(3,3),(4,4),(5,5),(6,6),(7,7)]) (i:=2) (j:=10) rfl c' _ _ ν rfl) (zcc (μ:=sig [(2,10),(3,3),(4,4),(5,5),(6,6),(7,7)]) (i:=3) (j:=3) rfl _ _).symm (zcc (μ:=sig [(2,10),(3,3),(4,4),(5,5),(6,6),(7,7)]) (i:=4) (j:=4) rfl _ _).symm (zcc (μ:=sig [(2,10),(3,3),(4,4),(5,5),(6,6),(7,7)]) (i:=5) (j:=5) rfl _ _).symm (zcc (μ:=sig [(2,10),(3,3),(4,4),(5,5),(6,6),(7,7)]) (i:=6) (j:=6) rfl _ _).symm (zcc (μ:=sig [(2,10),(3,3),(4,4),(5,5),(6,6),(7,7)]) (i:=7) (j:=7) rfl _ _).symm,za5 (zmc _ (by simp)),za5 (zav _ _),za5 (zav _ _),za5 (zav _ _),za5 (zav _ _),za5 (zav _ _),tv⟩⟩
   |exact ⟨⟨(k + 1,(A,c1),(_ ++ [ν],c'),(y,c3),(w,c4),(J,c5),(U,c6)),⟨c,zbw h1 c d (by decide),zg0 M c d,zbw Y c d (by decide),zbw Z c d (by decide),zbw V c d (by decide),zbw h6 c d (by decide),h7⟩⟩,u,leR [(2,2),(3,10),(4,4),(5,5),(6,6),(7,7)] E B rfl (m _ _ _ _ _ _ _ _ _ _ _ _) ⟨cnt p,tv⟩ ⟨Fz.r F1,zl8 (zcc (μ:=sig [(2,2),(3,10),(4,4),(5,5),(6,6),(7,7)]) (i:=2) (j:=2) rfl _ _).symm (zl2 (μ:=sig [(2,2),(3,10),(4,4),(5,5),(6,6),(7,7)]) (i:=3) (j:=10) rfl c' _ _ ν rfl) (zcc (μ:=sig [(2,2),(3,10),(4,4),(5,5),(6,6),(7,7)]) (i:=4) (j:=4) rfl _ _).symm (zcc (μ:=sig [(2,2),(3,10),(4,4),(5,5),(6,6),(7,7)]) (i:=5) (j:=5) rfl _ _).symm (zcc (μ:=sig [(2,2),(3,10),(4,4),(5,5),(6,6),(7,7)]) (i:=6) (j:=6) rfl _ _).symm (zcc (μ:=sig [(2,2),(3,10),(4,4),(5,5),(6,6),(7,7)]) (i:=7) (j:=7) rfl _ _).symm,za5 (zav _ _),za5 (zmc _ (by simp)),za5 (zav _ _),za5 (zav _ _),za5 (zav _ _),za5 (zav _ _),tv⟩⟩
   |exact ⟨⟨(k + 1,(A,c1),(D,c2),(_ ++ [ν],c'),(w,c4),(J,c5),(U,c6)),⟨c,zbw h1 c d (by decide),zbw M c d (by decide),zg0 Y c d,zbw Z c d (by decide),zbw V c d (by decide),zbw h6 c d (by decide),h7⟩⟩,u,leR [(2,2),(3,3),(4,10),(5,5),(6,6),(7,7)] E B rfl (m _ _ _ _ _ _ _ _ _ _ _ _) ⟨cnt p,tv⟩ ⟨Fz.r F1,zl8 (zcc (μ:=sig [(2,2),(3,3),(4,10),(5,5),(6,6),(7,7)]) (i:=2) (j:=2) rfl _ _).symm (zcc (μ:=sig [(2,2),(3,3),(4,10),(5,5),(6,6),(7,7)]) (i:=3) (j:=3) rfl _ _).symm (zl2 (μ:=sig [(2,2),(3,3),(4,10),(5,5),(6,6),(7,7)]) (i:=4) (j:=10) rfl c' _ _ ν rfl) (zcc (μ:=sig [(2,2),(3,3),(4,10),(5,5),(6,6),(7,7)]) (i:=5) (j:=5) rfl _ _).symm (zcc (μ:=sig [(2,2),(3,3),(4,10),(5,5),(6,6),(7,7)]) (i:=6) (j:=6) rfl _ _).symm (zcc (μ:=sig [(2,2),(3,3),(4,10),(5,5),(6,6),(7,7)]) (i:=7) (j:=7) rfl _ _).symm,za5 (zav _ _),za5 (zav _ _),za5 (zmc _ (by simp)),za5 (zav _ _),za5 (zav _ _),za5 (zav _ _),tv⟩⟩
   |exact ⟨⟨(k + 1,(A,c1),(D,c2),(y,c3),(_ ++ [ν],c'),(J,c5),(U,c6)),⟨c,zbw h1 c d (by decide),zbw M c d (by decide),zbw Y c d (by decide),zg0 Z c d,zbw V c d (by decide),zbw h6 c d (by decide),h7⟩⟩,u,leR [(2,2),(3,3),(4,4),(5,10),(6,6),(7,7)] E B rfl (m _ _ _ _ _ _ _ _ _ _ _ _) ⟨cnt p,tv⟩ ⟨Fz.r F1,zl8 (zcc (μ:=sig [(2,2),(3,3),(4,4),(5,10),(6,6),(7,7)]) (i:=2) (j:=2) rfl _ _).symm (zcc (μ:=sig [(2,2),(3,3),(4,4),(5,10),(6,6),(7,7)]) (i:=3) (j:=3) rfl _ _).symm (zcc (μ:=sig [(2,2),(3,3),(4,4),(5,10),(6,6),(7,7)]) (i:=4) (j:=4) rfl _ _).symm (zl2 (μ:=sig [(2,2),(3,3),(4,4),(5,10),(6,6),(7,7)]) (i:=5) (j:=10) rfl c' _ _ ν rfl) (zcc (μ:=sig [(2,2),(3,3),(4,4),(5,10),(6,6),(7,7)]) (i:=6) (j:=6) rfl _ _).symm (zcc (μ:=sig [(2,2),(3,3),(4,4),(5,10),(6,6),(7,7)]) (i:=7) (j:=7) rfl _ _).symm,za5 (zav _ _),za5 (zav _ _),za5 (zav _ _),za5 (zmc _ (by simp)),za5 (zav _ _),za5 (zav _ _),tv⟩⟩
   |exact ⟨⟨(k + 1,(A,c1),(D,c2),(y,c3),(w,c4),(_ ++ [ν],c'),(U,c6)),⟨c,zbw h1 c d (by decide),zbw M c d (by decide),zbw Y c d (by decide),zbw Z c d (by decide),zg0 V c d,zbw h6 c d (by decide),by simpa using hc⟩⟩,u,leR [(2,2),(3,3),(4,4),(5,5),(6,10),(7,7)] E B rfl (m _ _ _ _ _ _ _ _ _ _ _ _) ⟨cnt p,tv⟩ ⟨Fz.r F1,zl8 (zcc (μ:=sig [(2,2),(3,3),(4,4),(5,5),(6,10),(7,7)]) (i:=2) (j:=2) rfl _ _).symm (zcc (μ:=sig [(2,2),(3,3),(4,4),(5,5),(6,10),(7,7)]) (i:=3) (j:=3) rfl _ _).symm (zcc (μ:=sig [(2,2),(3,3),(4,4),(5,5),(6,10),(7,7)]) (i:=4) (j:=4) rfl _ _).symm (zcc (μ:=sig [(2,2),(3,3),(4,4),(5,5),(6,10),(7,7)]) (i:=5) (j:=5) rfl _ _).symm (zl2 (μ:=sig [(2,2),(3,3),(4,4),(5,5),(6,10),(7,7)]) (i:=6) (j:=10) rfl c' _ _ ν rfl) (zcc (μ:=sig [(2,2),(3,3),(4,4),(5,5),(6,10),(7,7)]) (i:=7) (j:=7) rfl _ _).symm,za5 (zav _ _),za5 (zav _ _),za5 (zav _ _),za5 (zav _ _),za5 (zmc _ (by simp)),za5 (zav _ _),tv⟩⟩
   |exact ⟨⟨(k + 1,(A,c1),(D,c2),(y,c3),(w,c4),(J,c5),(_ ++ [ν],c')),⟨c,zbw h1 c d (by decide),zbw M c d (by decide),zbw Y c d (by decide),zbw Z c d (by decide),zbw V c d (by decide),zg0 h6 c d,h7⟩⟩,u,leR [(2,2),(3,3),(4,4),(5,5),(6,6),(7,10)] E B rfl (m _ _ _ _ _ _ _ _ _ _ _ _) ⟨cnt p,tv⟩ ⟨Fz.r F1,zl8 (zcc (μ:=sig [(2,2),(3,3),(4,4),(5,5),(6,6),(7,10)]) (i:=2) (j:=2) rfl _ _).symm (zcc (μ:=sig [(2,2),(3,3),(4,4),(5,5),(6,6),(7,10)]) (i:=3) (j:=3) rfl _ _).symm (zcc (μ:=sig [(2,2),(3,3),(4,4),(5,5),(6,6),(7,10)]) (i:=4) (j:=4) rfl _ _).symm (zcc (μ:=sig [(2,2),(3,3),(4,4),(5,5),(6,6),(7,10)]) (i:=5) (j:=5) rfl _ _).symm (zcc (μ:=sig [(2,2),(3,3),(4,4),(5,5),(6,6),(7,10)]) (i:=6) (j:=6) rfl _ _).symm (zl2 (μ:=sig [(2,2),(3,3),(4,4),(5,5),(6,6),(7,10)]) (i:=7) (j:=10) rfl c' _ _ ν rfl),za5 (zav _ _),za5 (zav _ _),za5 (zav _ _),za5 (zav _ _),za5 (zav _ _),za5 (zmc _ (by simp)),tv⟩⟩
 ·have c : k = l.length := by have g1 : ¬ k < l.length := by simpa using gb
                              have:=hk;omega
  have e1:A = sel 1 l:=by have:=h1; rw [c,yt] at this; exact this
  have e2:D = sel 2 l:=by have:=M; rw [c,yt] at this; exact this
  have e3:y = sel 3 l:=by have:=Y; rw [c,yt] at this; exact this
  have e4:w = sel 4 l:=by have:=Z; rw [c,yt] at this; exact this
  have e5:J = sel 5 l:=by have:=V; rw [c,yt] at this; exact this
  have e6:U = sel 6 l:=by have:=h6; rw [c,yt] at this; exact this
  rcases U with _ | ⟨x6,r6⟩
  ·refine ⟨⟨by decide,by decide⟩,?_⟩;refine brd (by decide) ?_
   refine zam hΘ (X:={ x:Nat × List Stp × Nat // x.1 ≤ 7 ∧ x.2.1 = ((pieces A D y w J).take x.1).flatten }) (fun x=>[(6,.va (oA 8 x.1.2.2 x.1.2.1)),(37,.va (.int .i64 x.1.1))]) [7,8,10,38,39,40,41,42,43,44,45,46,47,48,49,50,51,52,53,54,55,56,57,58,59,60,61,62,63,64,65,66,67,68,69,70,71,72,73,74,75]
    (fun x=>[(0,.frz F1),(2,iE c1 A),(3,iE c2 D),(4,iE c3 y),(5,iE c4 w),(6,iE c5 J),(8,oE x.1.2.2 x.1.2.1)]) 9 (fun x=>7 - x.1.1) ⟨(0,[],0),by simp⟩
    (fun E B=>leI [(8,8)] E B rfl ⟨tv,za2 _ _ _,za2 _ _ _,za2 _ _ _,za2 _ _ _,za2 _ _ _,zel _ _ _,tv⟩ ⟨rfl,rfl,tv⟩ ⟨Fz.r F1,za5 (zav _ _),za5 (zav _ _),za5 (zav _ _),za5 (zav _ _),za5 (zav _ _),rfl,tv⟩) ?_
   rintro ⟨⟨k2,out,co⟩,ai,f⟩ E B;replace ai:k2 ≤ 7:=ai;replace f:out = ((pieces A D y w J).take k2).flatten:=f;refine br (fun W=>?_) (fun W=>?_)
   ·have ad : k2 < 7 := by have : (k2 : Int) < 7 := by simpa using W
                           omega
    clear W
    have same:∀ k,(pieces A D y w J)[k]? = some [] → out = ((pieces A D y w J).take k).flatten → out = ((pieces A D y w J).take (k + 1)).flatten:=fun k h1 M=>by
     have:=zeb [] M h1; rwa [jm] at this
    have ar:=cs7 k2 ad A D y w J;have ae:out.length ≤ 100:=by rw [f]; exact ziz _ _ _ _ _ _
    rcases ar with h | h | h
    ·rcases h with rfl | ⟨rfl,rfl⟩ | ⟨rfl,rfl⟩ | ⟨rfl,rfl⟩ | ⟨rfl,rfl⟩ | ⟨rfl,rfl⟩ | rfl
     all_goals
      have hs:=same _ rfl f;rcases out with _ | ⟨xo,G⟩
      all_goals
       refine ⟨⟨by simp,by simp⟩,_,rfl,?_⟩;refine bre (by decide) ?_;exact ⟨⟨(_,_,co),by simp,hs⟩,by simp,leR [(8,8)] E B rfl ⟨tv,za2 _ _ _,za2 _ _ _,za2 _ _ _,za2 _ _ _,za2 _ _ _,zel _ _ _,tv⟩ ⟨(by first | exact rfl | exact ⟨rfl,rfl,rfl,.inr ⟨rfl,rfl,rfl,rfl⟩⟩),rfl,tv⟩ ⟨Fz.r F1,za5 (zav _ _),za5 (zav _ _),za5 (zav _ _),za5 (zav _ _),za5 (zav _ _),zjk (zll _ _),tv⟩⟩
    ·rcases h with ⟨rfl,x,r,rfl⟩ | ⟨rfl,x,r,rfl⟩ | ⟨rfl,x,r,rfl⟩ | ⟨rfl,x,r,rfl⟩
     all_goals
      have K:r.length + 1 ≤ k:=zsa (s:=x :: r) (by assumption)
      have L:=by first
       |exact zeb [(1,mn (x :: r))] f (congrArg some (zkn (by decide) (by decide)))
       |exact zeb [(2,mn (x :: r))] f (congrArg some (zkn (by decide) (by decide)))
       |exact zeb [(3,mx (x :: r))] f rfl
       |exact zeb [(4,mn (x :: r))] f (congrArg some (zkn (by decide) (by decide)))
      rcases out with _ | ⟨xo,G⟩
      all_goals
       refine ⟨⟨by simp,by simp⟩,_,rfl,?_⟩;refine br (fun g=>absurd g (by simp; omega)) (fun _=>?_);conv=>whnf
       first | refine brF rfl ?_ | refine brT rfl ?_
       conv=>whnf
       try refine brF rfl ?_
       conv=>whnf
       first
       |refine borrow 2 (fun _=>.arr 3 1 ((x :: r).map encI) c1) rfl rfl rfl (fun _ _=>zck _ (x :: r) _) (fun _ _=>zb0 _ _ _) ?_
       |refine borrow 3 (fun _=>.arr 3 1 ((x :: r).map encI) c2) rfl rfl rfl (fun _ _=>zck _ (x :: r) _) (fun _ _=>zb0 _ _ _) ?_
       |refine borrow 4 (fun _=>.arr 3 1 ((x :: r).map encI) c3) rfl rfl rfl (fun _ _=>zck _ (x :: r) _) (fun _ _=>zb0 _ _ _) ?_
       |refine borrow 5 (fun _=>.arr 3 1 ((x :: r).map encI) c4) rfl rfl rfl (fun _ _=>zck _ (x :: r) _) (fun _ _=>zb0 _ _ _) ?_
       intro b S av hb
       first
       |refine usePu (ycp S _ (x :: r) (Sl.new (hb 0 ⟨rfl,rfl⟩)) (by simp; omega) (by simp)) rfl ⟨⟨rfl,rfl,rfl,.inr ⟨rfl,rfl,rfl,rfl⟩⟩,tv⟩ rfl ?_
       |refine usePu (ycr S _ (x :: r) (Sl.new (hb 0 ⟨rfl,rfl⟩)) (by simp; omega) (by simp)) rfl ⟨⟨rfl,rfl,rfl,.inr ⟨rfl,rfl,rfl,rfl⟩⟩,tv⟩ rfl ?_
       refine ⟨S,rfl,Fz.r _,rfl,fun _ _ _ _ _ _ h=>h,?_⟩;refine rounds hΘ 2 ?_;refine bre (by decide) ?_;refine ⟨rfl,⟨by decide,by decide⟩,_,rfl,?_⟩;conv=>whnf
       first
       |refine ⟨qm 1,[enc (1,mn (x :: r))],rfl,?_⟩
       |refine ⟨qm 1,[enc (2,mn (x :: r))],rfl,?_⟩
       |refine ⟨qm 1,[enc (3,mx (x :: r))],rfl,?_⟩
       |refine ⟨qm 1,[enc (4,mn (x :: r))],rfl,?_⟩
       conv=>whnf
       first
       |refine ⟨rfl,rfl,by show 1 * 16 ≤ 140737488355328; omega,fun c' hc=>?_⟩
       |refine ⟨rfl, rfl, by simp, rfl, by replace ae : G.length + 1 ≤ 100 := ae
                                           show (G.length + 1 + 1) * 16 ≤ 140737488355328; omega,fun c' hc=>?_⟩
       refine brd (by decide) ?_;exact ⟨⟨(_,_,c'),by simp,L⟩,by simp,leR [(8,11)] E B rfl ⟨tv,za2 _ _ _,za2 _ _ _,za2 _ _ _,za2 _ _ _,za2 _ _ _,zel _ _ _,tv⟩ ⟨by first | exact ztm (μ:=sig [(8,11)]) (i:=8) (j:=11) rfl c' _ [] (0,0) rfl | exact ztm (μ:=sig [(8,11)]) (i:=8) (j:=11) rfl c' _ (xo :: G) _ rfl,rfl,tv⟩ ⟨Fz.r F1,za5 (zav _ _),za5 (zav _ _),za5 (zav _ _),za5 (zav _ _),za5 (zav _ _),zjk (zw8 _ (by simp)),tv⟩⟩
    ·obtain ⟨rfl,x,r,rfl⟩:=h;have K:=zsa V;replace K:r.length + 1 ≤ k:=K;have aw:r.length + 1 ≤ c5:=h7;have L:=zeb ((x :: r).take 5 |>.map (fun n=>(5,n))) f (congrArg some (zvu x r));have ae:out.length ≤ 100:=by rw [f]; exact ziz _ _ _ _ _ _
     refine ⟨⟨by simp,by simp⟩,_,rfl,?_⟩;refine br (fun g=>absurd g (by simp; omega)) (fun _=>?_);refine brd (by simp) ?_;refine bre (by simp) ?_;refine ⟨⟨by split<;>omega,by dsimp only; split<;>omega⟩,?_⟩
     refine zam hΘ (X:={ q:Nat × List Stp × Nat // q.1 ≤ min (r.length + 1) 5 ∧ q.2.1 = out ++ ((x :: r).take q.1).map (fun n=>(5,n)) }) (fun x=>[(6,.va (oA 9 x.1.2.2 x.1.2.1)),(64,.va (.int .i64 x.1.1))]) [10,65,66,67,68,69,70,71,72,73,74]
      (fun x=>[(0,.frz F1),(8,.gone),(9,oE x.1.2.2 x.1.2.1)]) 10 (fun x=>min (r.length + 1) 5 - x.1.1) ⟨(0,out,co),by simp⟩ ?_ ?_
     ·intro E B;rcases out with _ | ⟨xo,G⟩
      ·exact leI [(9,8)] E B rfl ⟨tv,tv,zel _ _ _,tv⟩ ⟨rfl,rfl,tv⟩ ⟨Fz.r F1,zjk (zll _ _),tv⟩
      ·exact leI [(9,8)] E B rfl ⟨tv,tv,zel _ _ _,tv⟩ ⟨⟨rfl,rfl,rfl,.inr ⟨rfl,rfl,rfl,rfl⟩⟩,rfl,tv⟩ ⟨Fz.r F1,zjk (zll _ _),tv⟩
     rintro ⟨⟨j,oi,ci⟩,hj,R⟩ aj am;replace hj:j ≤ min (r.length + 1) 5:=hj;replace R:oi = out ++ ((x :: r).take j).map (fun n=>(5,n)):=R;have aa:oi.length ≤ 200:=by rw [R,qd,qa,qq]; omega
     refine br (fun O=>?_) (fun O=>?_)
     ·have gj:j < min (r.length + 1) 5:=by
       simp only [decide_eq_true_eq] at O;split at O<;>omega
      clear O;have ag:j < (x :: r).length:=by simp; omega
      have ac:oi ++ [(5,(x :: r)[j])] = out ++ ((x :: r).take (j + 1)).map (fun n=>(5,n)):=by
       rw [qg ag,jj,← ql,R]; rfl
      have Q:∀ e:Nat,e = 0 → ((x :: r).map encI)[e + (j:Int).toNat]? = some (encI (x :: r)[j]):=by
       intro e he; subst he;rw [q5,qp,qy,qe ag]; rfl
      rcases oi with _ | ⟨yo,G⟩
      ·refine ⟨rfl,⟨by simp,?_⟩,?_⟩
       ·dsimp only; split<;>omega
       refine ⟨rfl,_,Q _ (by dsimp only; split<;>rfl),qm 1,[enc (5,(x :: r)[j])],rfl,rfl,rfl,by show 1 * 16 ≤ 140737488355328; omega,fun c' hc=>?_⟩;exact ⟨⟨(j + 1,[] ++ [(5,(x :: r)[j])],c'),gj,ac⟩,by show min (r.length + 1) 5 - (j + 1) < min (r.length + 1) 5 - j; omega,leR [(9,11)] aj am rfl ⟨tv,tv,zel _ _ _,tv⟩ ⟨(ztm (μ:=sig [(9,11)]) (i:=9) (j:=11) rfl c' _ ([]) (5,(x :: r)[j]) rfl),cnt (by omega),tv⟩ ⟨Fz.r F1,zjk (zw8 [enc (5,(x :: r)[j])] rfl),tv⟩⟩
      ·replace aa:G.length + 1 ≤ 200:=aa;refine ⟨rfl,⟨by simp,?_⟩,?_⟩
       ·dsimp only; split<;>omega
       refine ⟨rfl,_,Q _ (by dsimp only; split<;>rfl),qm 1,[enc (5,(x :: r)[j])],rfl,rfl,rfl,by simp,rfl,by show (G.length + 1 + 1) * 16 ≤ 140737488355328; omega,fun c' hc=>?_⟩;exact ⟨⟨(j + 1,yo :: G ++ [(5,(x :: r)[j])],c'),gj,ac⟩,by show min (r.length + 1) 5 - (j + 1) < min (r.length + 1) 5 - j; omega,leR [(9,11)] aj am rfl ⟨tv,tv,zel _ _ _,tv⟩ ⟨(ztm (μ:=sig [(9,11)]) (i:=9) (j:=11) rfl c' _ (yo :: G) (5,(x :: r)[j]) rfl),cnt (by omega),tv⟩ ⟨Fz.r F1,zjk (zw8 _ (by simp)),tv⟩⟩
     ·have gj:j = min (r.length + 1) 5:=by
       simp only [decide_eq_false_iff_not] at O;split at O<;>omega
      have al:oi = ((pieces A D y w (x :: r)).take 6).flatten:=by
       rw [R,← L,gj]
       congr 2
       rw [Nat.min_comm,← qh (a:=x),← qa7,yt]
      rcases oi with _ | ⟨yo,G⟩
      ·exact ⟨⟨(6,[],ci),by simp,al⟩,by show 7 - 6 < 7 - 5; omega,leRn [_,_,_] [_,_] [(8,9)] E B rfl ⟨tv,za2 _ _ _,za2 _ _ _,za2 _ _ _,za2 _ _ _,za2 _ _ _,zel _ _ _,tv⟩ ⟨rfl,rfl,tv⟩ ⟨Fz.r F1,za5 (zav _ _),za5 (zav _ _),za5 (zav _ _),za5 (zav _ _),za5 (zav _ _),zjk (zll _ _),tv⟩⟩
      ·exact ⟨⟨(6,yo :: G,ci),by simp,al⟩,by show 7 - 6 < 7 - 5; omega,leRn [_,_,_] [_,_] [(8,9)] E B rfl ⟨tv,za2 _ _ _,za2 _ _ _,za2 _ _ _,za2 _ _ _,za2 _ _ _,zel _ _ _,tv⟩ ⟨⟨rfl,rfl,rfl,.inr ⟨rfl,rfl,rfl,rfl⟩⟩,rfl,tv⟩ ⟨Fz.r F1,za5 (zav _ _),za5 (zav _ _),za5 (zav _ _),za5 (zav _ _),za5 (zav _ _),zjk (zll _ _),tv⟩⟩
   ·have ad : k2 = 7 := by have : ¬ (k2 : Int) < 7 := by simpa using W
                           omega
    subst ad
    have ab:out = normS l:=by
     rw [normS,← e6,if_pos rfl,← e1,← e2,← e3,← e4,← e5]; exact f
    rcases out with _ | ⟨xo,G⟩
    ·exact endFo (.ret (.va (.slice true 0 0 0 2 0 0))) F1 rfl l1 (Fz.r F1) ⟨_,rfl,by rw [← ab]; exact Sl.nil⟩ ⟨rfl,rfl,rfl⟩ rfl
    ·refine zbn 8 (fun _=>.arr 56 2 ((xo :: G).map enc) co) rfl rfl rfl (fun _ _=>?_) (fun _ _=>zd6 _ _ _) ?_
     ·exact zgx _ (xo :: G) co
     intro b S K hb;refine endFo (.ret (.va (.slice false 0 (b 0) 0 2 (G.length + 1) co))) S rfl (Fz.t l1 K) (Fz.r S) ⟨_,rfl,?_⟩ ⟨rfl,rfl,rfl,.inr ⟨rfl,rfl,rfl,rfl⟩⟩ rfl;rw [← ab];exact Sl.new (l:=xo :: G) (hb 0 ⟨rfl,rfl⟩)
  ·refine ⟨⟨by decide,by decide⟩,?_⟩;refine bre (by simp) ?_;refine zbn 8 (fun _=>.arr 56 2 [enc (6,0)] 1) rfl rfl rfl (fun _ _=>rfl) (fun _ _=>SB.bB_ok rfl) ?_;intro b S K hb;refine endFo (.ret (.va (.slice false 0 (b 0) 0 2 1 1))) S rfl (Fz.t l1 K) (Fz.r S) ⟨_,rfl,?_⟩ ⟨rfl,rfl,rfl,.inr ⟨rfl,rfl,rfl,rfl⟩⟩ rfl;rw [normS,← e6,if_neg (by simp)];exact Sl.new (l:=[(6,0)]) (hb 0 rfl)
theorem zhn {p:Int} {l:List Stp} (h:zbb p l = true):∀ s ∈ l,1 ≤ s.1 ∧ s.1 ≤ 6:=by
 intro s a;simp only [zbb,qf] at h;have:=qo.1 h.2.2 s a;simp only [zbs,qf,decide_eq_true_eq] at this;exact this.1
theorem zin {p:Int} {l:List Stp} (h:zbb p l = true):l.length ≤ 64:=by
 simp only [zbb,qf,decide_eq_true_eq] at h; exact h.2.1
theorem yap {F:Fz} {b c c':Nat} {a:SA} {l:List Stp} (e:za1 F a l) (h:F b = some (.arr 50 1 [[a]] c)):zsx F (.slice false 0 b 0 1 1 c') [l]:=
 SlR.new (l:=[l]) h rfl fun k x d=>by
  match k,d with
  |0,d=>simp at d; subst d; exact ⟨[a],rfl,a,rfl,e⟩
theorem z9x {F:Fz} {b c c':Nat} {a e:SA} {l g:List Stp} (i:za1 F a l) (f:za1 F e g) (h:F b = some (.arr 50 1 [[a],[e]] c)):zsx F (.slice false 0 b 0 1 2 c') [l,g]:=
 SlR.new (l:=[l,g]) h rfl fun k x d=>by
  match k,d with
  |0,d=>simp at d; subst d; exact ⟨[a],rfl,a,rfl,i⟩
  |1,d=>simp at d; subst d; exact ⟨[e],rfl,e,rfl,f⟩
def normR (p:Int) (l:List Stp):List Stp × Int:=if zbb p l = true then (normS l,0) else ([],70)
def compR (p:Int) (a b:List Stp):List Stp × Int:=if zbb p a = true ∧ zbb p b = true then (normS (a ++ b),0) else ([],70)
theorem zpy (l:List Stp):(normS l).length ≤ 100:=by
 unfold normS; split
 ·have:=ziz (sel 1 l) (sel 2 l) (sel 3 l) (sel 4 l) (sel 5 l) 7;exact this
 ·simp
theorem z9r (F:Fz) (b:Nat) (a:SA) (l:List Stp) (c c':Nat) (g:za1 F a l) (h:F b = some (.arr 50 1 [[a]] c)) {p:Int} (e:zbb p l = true) :
  Fo Tryz.prog F 132 [.va (.slice false 0 b 0 1 1 c')] (fun o f=>∃ d,o = .ret (.va d) ∧ za1 f d (normS l)):=by
 have i:=zin e;have:=zq6 F _ [l] (yap (c':=c') g h) (by simp) (by simp; omega) (by simpa using zhn e);rw [jx,qar,jm] at this;exact this
theorem z81 (F:Fz) (b:Nat) (a j:SA) (l e:List Stp) (c c':Nat) (n:za1 F a l) (f:za1 F j e) (h:F b = some (.arr 50 1 [[a],[j]] c)) {p:Int} (i:zbb p l = true) (d:zbb p e = true) :
  Fo Tryz.prog F 132 [.va (.slice false 0 b 0 1 2 c')] (fun o m=>∃ g,o = .ret (.va g) ∧ za1 m g (normS (l ++ e))):=by
 have q:=zin i;have k:=zin d
 have:=zq6 F _ [l,e] (z9x (c':=c') n f h) (by simp) (by simp; omega) (by
  intro s hs;simp only [jx,qar,jm,ym] at hs;rcases hs with hs | hs
  ·exact zhn i s hs
  ·exact zhn d s hs)
 rw [jx,jx,qar,jm] at this;exact this
theorem zmd (F:Fz) (h:SA) (l:List Stp) (p:Int) (n:za1 F h l) (y:l.length < 1000000) :
  Fo Tryz.prog F 62 [.va (.int .i64 p),.va h] (fun o K=>∃ f,o = .ret (.tup [.va f,.va (.int .i64 (normR p l).2)]) ∧ za1 K f (normR p l).1):=by
 have A:=zjs F h l p n y;have i:=n;obtain ⟨k,d,j,m,J,O,rfl,I,G,x,M⟩:=n;refine fo_of hΘ Tryz.func62 rfl (by decide) _ _ rfl rfl rfl ?_;refine usePu (A) rfl (zaa _) rfl ?_;refine br (fun g=>?_) (fun g=>?_)
 ·have c:zbb p l = false:=not_t g;have e:normR p l = ([],70):=by simp [normR,c]
  exact endFo (.ret (.tup [.va (.slice true 0 0 0 2 0 0),.va (.int .i64 70)])) F rfl (Fz.r F) (Fz.r F) ⟨_,by rw [e],by rw [e]; exact Sl.nil⟩ ⟨⟨rfl,rfl,rfl⟩,rfl,tv⟩ rfl
 ·have c:zbb p l = true:=by simpa using g
  have e:normR p l = (normS l,0):=by simp [normR,c]
  refine za7 1 (fun _=>.arr 50 1 [[.slice k 0 d j 2 l.length m]] 1) rfl rfl rfl (fun _ _=>rfl) (fun _ _=>SB.bB_ok rfl) ?_;intro b F1 s L;refine useFo (z9r F1 (b 0) _ l 1 1 (i.mono s) (L 0 rfl) c) rfl (zaa _) rfl ?_;rintro _ q D ⟨f,rfl,a⟩;conv=>whnf
  have w:=a;obtain ⟨E,Q,B,u,R,S,rfl,_⟩:=w;exact endFo (.ret (.tup [.va (.slice E 0 Q B 2 (normS l).length u),.va (.int .i64 0)])) q rfl (Fz.t s D) (Fz.r q) ⟨_,by rw [e],by rw [e]; exact a⟩ ⟨⟨rfl,rfl,rfl,.inr ⟨rfl,rfl,rfl,rfl⟩⟩,rfl,tv⟩ rfl
theorem zsd (F:Fz) (q l:SA) (a b:List Stp) (p:Int) (G:za1 F q a) (E:za1 F l b) (la:a.length < 1000000) (lb:b.length < 1000000) :
  Fo Tryz.prog F 134 [.va (.int .i64 p),.va q,.va l] (fun o F'=>∃ n,o = .ret (.tup [.va n,.va (.int .i64 (compR p a b).2)]) ∧ za1 F' n (compR p a b).1):=by
 have i:=zjs F q a p G la;have j:=zjs F l b p E lb;have s:=G;have I:=E;obtain ⟨A,k,y,D,ab,Y,rfl,aa,Z,O,ac⟩:=G;obtain ⟨m,w,u,B,L,Q,rfl,d,T,S,W⟩:=E;refine fo_of hΘ Tryz.func134 rfl (by decide) _ _ rfl rfl rfl ?_;refine usePu (i) rfl (zaa _) rfl ?_;refine ⟨fun g=>?_,fun g=>?_⟩
 ·have h:zbb p a = true:=by simpa using g
  refine usePu (j) rfl (zaa _) rfl ?_;refine br (fun g=>?_) (fun g=>?_)
  ·have f:zbb p b = false:=not_t g;have e:compR p a b = ([],70):=by simp [compR,f]
   exact endFo (.ret (.tup [.va (.slice true 0 0 0 2 0 0),.va (.int .i64 70)])) F rfl (Fz.r F) (Fz.r F) ⟨_,by rw [e],by rw [e]; exact Sl.nil⟩ ⟨⟨rfl,rfl,rfl⟩,rfl,tv⟩ rfl
  ·have f:zbb p b = true:=by simpa using g
   have e:compR p a b = (normS (a ++ b),0):=by simp [compR,h,f]
   refine za7 1 (fun _=>.arr 50 1 [[.slice A 0 k y 2 a.length D],[.slice m 0 w u 2 b.length B]] 2) rfl rfl rfl (fun _ _=>rfl) (fun _ _=>SB.bB_ok rfl) ?_;intro R F1 x d;refine useFo (z81 F1 (R 0) _ _ a b 2 2 (s.mono x) (I.mono x) (d 0 rfl) h f) rfl (zaa _) rfl ?_;rintro _ J V ⟨n,rfl,c⟩;conv=>whnf
   have M:=c;obtain ⟨X,b2,U,K,L2,r2,rfl,_⟩:=M;exact endFo (.ret (.tup [.va (.slice X 0 b2 U 2 (normS (a ++ b)).length K),.va (.int .i64 0)])) J rfl (Fz.t x V) (Fz.r J) ⟨_,by rw [e],by rw [e]; exact c⟩ ⟨⟨rfl,rfl,rfl,.inr ⟨rfl,rfl,rfl,rfl⟩⟩,rfl,tv⟩ rfl
 ·have h:zbb p a = false:=not_t g;have e:compR p a b = ([],70):=by simp [compR,h]
  exact endFo (.ret (.tup [.va (.slice true 0 0 0 2 0 0),.va (.int .i64 70)])) F rfl (Fz.r F) (Fz.r F) ⟨_,by rw [e],by rw [e]; exact Sl.nil⟩ ⟨⟨rfl,rfl,rfl⟩,rfl,tv⟩ rfl
abbrev Kp:=Int × List Stp
def KpR (F:Fz) (y:List SA) (x:Kp):Prop:=∃ a,y = [.int .i64 x.1,a] ∧ za1 F a x.2
theorem KpR.mono {F b:Fz} {y:List SA} {x:Kp} (h:KpR F y x) (a:Fz.le F b):KpR b y x:=by
 obtain ⟨c,h1,d⟩:=h; exact ⟨c,h1,d.mono a⟩
abbrev KpsAt (F:Fz) (a:SA) (l:List Kp):Prop:=SlR F 96 2 (KpR F) a l
abbrev ClsAt (F:Fz) (a:SA) (l:List Kp):Prop:=SlR F 52 2 (KpR F) a l
theorem KpsAt.open {F:Fz} {t:Nat} {i:SA} {c:List Kp} (h:SlR F t 2 (KpR F) i c):∃ (nil:Bool) (b e cap:Nat) (L:List (List SA)) (d:Nat) (g:Nat → SA),i = .slice nil 0 b e 2 c.length cap ∧ (nil = true → c = []) ∧ (nil = false → F b = some (.arr t 2 L d)) ∧ e + c.length ≤ L.length ∧
  ∀ (k:Nat) (h:k < c.length),L[e + k]? = some [.int .i64 (c[k]'h).1,g k] ∧ za1 F (g k) (c[k]'h).2:=by
 obtain ⟨nil,b,e,cap,L,d,h1,o,p,l,n⟩:=h
 have j:∀ k:Nat,∃ a:SA,∀ h:k < c.length,L[e + k]? = some [.int .i64 (c[k]'h).1,a] ∧ za1 F a (c[k]'h).2:=by
  intro k;by_cases f:k < c.length
  ·obtain ⟨y,m,a,rfl,q⟩:=n k c[k] (by simp [f]);exact ⟨a,fun _=>⟨m,q⟩⟩
  ·exact ⟨.nilsl,fun h=>absurd h f⟩
 exact ⟨nil,b,e,cap,L,d,fun k=>Classical.choose (j k),h1,o,p,l,fun k f=>Classical.choose_spec (j k) f⟩
def nameK (p:Int):Bool:=decide (p = 1) || decide (p = 2) || decide (p = 3) || decide (p = 4) || decide (p = 7)
def zbk (k:Kp):Bool:=nameK k.1 && (decide (0 < k.2.length) && (zbb k.1 k.2 && (decide (normS k.2 = k.2) && (!decide (k.1 = 4) || decide (k.2 = [(6,0)])))))
def nameM:List MapEntry:=[⟨.int .i64 1,.string ⟨[116,101,120,116].toArray⟩,0⟩,⟨.int .i64 2,.string ⟨[109,97,114,107,115].toArray⟩,1⟩,⟨.int .i64 3,.string ⟨[99,111,110,115,116,97,110,116,115].toArray⟩,2⟩,⟨.int .i64 4,.string ⟨[102,111,114,109,117,108,97,115].toArray⟩,3⟩,⟨.int .i64 7,.string ⟨[98,105,116,115].toArray⟩,4⟩]
theorem z3z (F:Fz):Ct Tryz.prog 171 [] F [] 1 (fun o a b n0=>F = a ∧ n0 = 2 ∧ o = .ret (.va (.map 1 0)) ∧ b = [(1,.one (.obj (.map ⟨nameM⟩ 5)))]):=by
 refine ct_of hΘ Tryz.func171 rfl (by decide) _ _ rfl rfl rfl ?_;exact clean [(1,1)] (.ret (.va (.map 1 0))) F [(1,.one (.obj (.map ⟨nameM⟩ 5)))] 2 ⟨Fz.r F,rfl,rfl,rfl,rfl⟩ rfl rfl rfl (Out.bB_ok (o:=.ret (.va (.map 1 0))) rfl) ⟨tv,tv⟩ ⟨Fz.r F,rfl,tv⟩
theorem zoo (F:Fz):Fo Tryz.prog F 111 [] (fun o a=>∃ e,o = .ret (.va e) ∧ za1 a e [(6,0)]):=by
 refine fo_of hΘ Tryz.func111 rfl (by decide) _ _ rfl rfl rfl ?_;refine zbn 1 (fun _=>.arr 56 2 ([(6,0)].map enc) 1) rfl rfl rfl (fun _ _=>rfl) (fun _ _=>SB.bB_ok rfl) ?_;intro b a c d;exact endFo (.ret (.va (.slice false 0 (b 0) 0 2 1 1))) a rfl c (Fz.r a) ⟨_,rfl,Sl.new (l:=[(6,0)]) (d 0 rfl)⟩ ⟨rfl,rfl,rfl,.inr ⟨rfl,rfl,rfl,rfl⟩⟩ rfl
theorem zpi (F:Fz) (d:SA) (l:List Stp) (f:za1 F d l) (n:l.length < 1000000) :
  Fo Tryz.prog F 150 [.va d] (fun o L=>o = .ret (.va (.bool (decide (l = [(6,0)]))))):=by
 have e:=fun F1 (a:Fz.le F F1) c b=>zhz F1 d c l [(6,0)] (f.mono a) b n
 obtain ⟨G,i,D,I,A,w,rfl,y,x,j,J⟩:=f;refine fo_of hΘ Tryz.func150 rfl (by decide) _ _ rfl rfl rfl ?_;refine useFo (zoo F) rfl (zaa _) rfl ?_;rintro _ F1 a ⟨c,rfl,b⟩;have g:=e F1 a c b;obtain ⟨m,B,s,E,h,k,rfl,K,q,p,u⟩:=b;refine usePu (g) rfl (zaa _) rfl ?_;exact endFo (.ret (.va (.bool (decide (l = [(6,0)]))))) F1 rfl a (Fz.r F1) rfl (zah _) rfl
theorem zo8 (F:Fz) (u:SA) (l:List Stp) (y:za1 F u l) (s:l.length < 1000000) :
  Fo Tryz.prog F 73 [.va u] (fun o f=>∃ q,o = .ret (.va q) ∧ za1 f q l):=by
 obtain ⟨w,E,A,D,L,a,rfl,p,k,h,i⟩:=y;rcases w with _ | _
 ·have d:=k rfl;rcases l with _ | ⟨x,r⟩
  ·refine fo_of hΘ Tryz.func73 rfl (by decide) _ _ rfl rfl rfl ?_;refine brd (by decide) ?_;refine ⟨56,L,a,d,h,[],i,rfl,rfl,rfl,by decide,fun c j=>?_⟩;clear j;refine zbn 2 (fun _=>.arr 56 2 [] c) rfl rfl rfl (fun _ _=>rfl) (fun _ _=>SB.bB_ok rfl) ?_;intro b f e g;exact endFo (.ret (.va (.slice false 0 (b 0) 0 2 0 c))) f rfl e (Fz.r f) ⟨_,rfl,Sl.new (l:=[]) (g 0 rfl)⟩ ⟨rfl,rfl,rfl,.inr ⟨rfl,rfl,rfl,rfl⟩⟩ rfl
  ·replace s:r.length + 1 < 1000000:=s;have m:(0 + ((x :: r).map enc).length) * 16 ≤ 140737488355328:=by rw [qa,qh]; omega
   have B:∀ c,(∀ μ:Mu,(SB.arr 56 2 ((x :: r).map enc) c).ren μ = SB.arr 56 2 ((x :: r).map enc) c):=fun c μ=>zgx μ _ c
   refine fo_of hΘ Tryz.func73 rfl (by decide) _ _ rfl rfl rfl ?_;refine brd (by decide) ?_;refine ⟨56,L,a,d,h,(x :: r).map enc,i,rfl,rfl,rfl,m,fun c' j=>?_⟩;clear j;refine zbn 2 (fun _=>.arr 56 2 ((x :: r).map enc) c') rfl rfl rfl (fun _ _=>zgx _ _ _) (fun _ _=>zd6 _ _ _) ?_;intro b f e g;exact endFo (.ret (.va (.slice false 0 (b 0) 0 2 (x :: r).length c'))) f rfl e (Fz.r f) ⟨_,rfl,Sl.new (l:=x :: r) (g 0 rfl)⟩ ⟨rfl,(by first | rfl | (rw [qa]; omega)),(by first | rfl | (rw [qa]; omega)),.inr ⟨rfl,rfl,rfl,rfl⟩⟩ rfl
 ·have n:=p rfl;subst n;refine fo_of hΘ Tryz.func73 rfl (by decide) _ _ rfl rfl rfl ?_;refine bre (by decide) ?_;exact endFo (.ret (.va (.slice true 0 0 0 2 0 0))) F rfl (Fz.r F) (Fz.r F) ⟨_,rfl,Sl.nil⟩ ⟨rfl,rfl,rfl⟩ rfl
theorem zvn (p:Int):(p = 1 ∧ nameK p = true) ∨ (p = 2 ∧ nameK p = true) ∨ (p = 3 ∧ nameK p = true) ∨ (p = 4 ∧ nameK p = true) ∨ (p = 7 ∧ nameK p = true) ∨ ((p ≠ 1 ∧ p ≠ 2 ∧ p ≠ 3 ∧ p ≠ 4 ∧ p ≠ 7) ∧ nameK p = false):=by
 unfold nameK;by_cases h1:p = 1
 ·left; simp [h1]
 by_cases b:p = 2
 ·right; left; simp [b]
 by_cases a:p = 3
 ·right; right; left; simp [a]
 by_cases c:p = 4
 ·right; right; right; left; simp [c]
 by_cases d:p = 7
 ·right; right; right; right; left; simp [d]
 ·right; right; right; right; right; simp [h1,b,a,c,d]
theorem kF0 {p:Int} {l:List Stp} (h:nameK p = false):zbk (p,l) = false:=by simp only [zbk,h,ji]
theorem kF1 {p:Int} {l:List Stp} (h:decide ((0:Int) < (l.length:Int)) = false):zbk (p,l) = false:=by
 have a:decide (0 < l.length) = false:=by simp at h ⊢; omega
 simp only [zbk,a,ji,yd]
theorem kF2 {p:Int} {l:List Stp} (h:decide ((normR p l).2 = 0) = false):zbk (p,l) = false:=by
 have b:zbb p l = false:=by
  cases a:zbb p l with
  |false=>rfl
  |true=>rw [normR,if_pos a] at h; cases h
 simp only [zbk,b,ji,yd]
theorem zj4 {p:Int} {l:List Stp} (h:decide ((normR p l).2 = 0) = true):zbb p l = true ∧ (normR p l).1 = normS l:=by
 cases a:zbb p l with
 |false=>rw [normR,if_neg (by rw [a]; simp)] at h; cases h
 |true=>exact ⟨rfl,by rw [normR,if_pos a]⟩
theorem kF3 {p:Int} {l:List Stp} (b:decide ((normR p l).2 = 0) = true) (h:decide ((normR p l).1 = l) = false):zbk (p,l) = false:=by
 have a:=zj4 b;rw [a.2] at h;simp only [zbk,a.1,h,ji,yd]
theorem kT {p:Int} {l:List Stp} (b:nameK p = true) (d:decide ((0:Int) < (l.length:Int)) = true) (e:decide ((normR p l).2 = 0) = true) (h:decide ((normR p l).1 = l) = true):zbk (p,l) = (!decide (p = 4) || decide (l = [(6,0)])):=by
 have a:=zj4 e;have c:decide (0 < l.length) = true:=by simp at d ⊢; omega
 rw [a.2] at h;simp only [zbk,b,c,a.1,h,qab]
theorem zm4 (p:Int) (l:List Stp):(normR p l).1.length < 1000000:=by
 unfold normR;split
 ·have:=zpy l; show (normS l).length < _; omega
 ·simp
theorem zyd (F:Fz) (n:SA) (p:Int) (l:List Stp) (w:za1 F n l) (E:l.length < 1000000) :
  Fo Tryz.prog F 107 [.agg [.int .i64 p,n]] (fun o M=>o = .ret (.va (.bool (zbk (p,l))))):=by
 have i:=zmd F n l p w E;have y:=fun F1 (a:Fz.le F F1) W s=>zhz F1 W n (normR p l).1 l s (w.mono a) (zm4 p l)
 have j:=fun F1 (a:Fz.le F F1)=>zpi F1 n l (w.mono a) E
 have c:∀ (b:Bool) (F1:Fz) (h:Hp) (nx:Nat),zbk (p,l) = b → lget h 0 = some (.frz F1) → Fz.le F F1 → Cln 1 (FoK F fun o M=>o = .ret (.va (.bool (zbk (p,l))))) (.ret (.va (.bool b))) h nx:=by
  intro b F1 h nx s u e;exact endFo (.ret (.va (.bool b))) F1 u e (Fz.r F1) (by rw [s]) rfl rfl
 have finL:∀ (b:Bool) (F1:Fz) (h:Hp) (nx:Nat),zbk (p,l) = b → lget h 0 = some (.frz F1) → Fz.le F F1 → Cln 1 (FoK F fun o M=>o = .ret (.va (.bool (zbk (p,l))))) (.ret (.va (.lit b))) h nx:=by
  intro b F1 h nx s u e;exact endFo (.ret (.va (.bool b))) F1 u e (Fz.r F1) (by rw [s]) rfl rfl
 have T:=zvn p;obtain ⟨ae,U,ad,af,ac,ah,rfl,ab,aa,V,ag⟩:=w;rcases T with ⟨rfl,d⟩ | ⟨rfl,d⟩ | ⟨rfl,d⟩ | ⟨rfl,d⟩ | ⟨rfl,d⟩ | ⟨hp,d⟩
 all_goals
  refine fo_of hΘ Tryz.func107 rfl (by decide) _ _ rfl rfl rfl ?_;refine drawP hΘ mixed (.look 1 (.look 2 (.alt 0 (.alt 3 (lk [4,5,6,7,8] .done) .nil) .nil))) [1] (by kernel_rfl) ?_;refine ⟨rfl,?_⟩;refine use (z3z F) [] rfl trivial rfl trivial (by simp) trivial ?_;rintro O F0 u n0 e ⟨rfl,rfl,rfl,rfl⟩;refine ⟨Fz.r F,rfl,?_⟩;conv=>whnf
  repeat
   refine br (fun g=>absurd (od g) (by omega)) (fun _=>?_);conv=>whnf
  try (refine bri rfl ?_; (conv=>whnf))
  refine ⟨Fz.r F,rfl,?_⟩;refine useFo i rfl (zaa _) rfl ?_;rintro _ F1 a ⟨Y,rfl,q⟩;have x:=y F1 a Y q;have A:=j F1 a;obtain ⟨G,S,L,R,K,I,rfl,B,J,Q,D⟩:=q
  conv=>whnf
  first
   |exact c false F1 _ _ (kF0 d) rfl a
   |exact finL false F1 _ _ (kF0 d) rfl a
   |refine ⟨fun k=>?_,fun k=>?_⟩
    ·refine ⟨fun f=>?_,fun f=>?_⟩
     ·refine usePu (x) rfl (zaa _) rfl ?_;refine ⟨fun m=>?_,fun m=>?_⟩
      ·conv=>whnf
       first
        |refine gaf (by decide) ?_
         conv=>whnf
         repeat
          refine gaf (by decide) ?_;conv=>whnf
         first
          |exact c true F1 _ _ (kT d k f m) rfl a
          |exact finL true F1 _ _ (kT d k f m) rfl a
        |refine gae (by decide) ?_
         conv=>whnf
         repeat
          refine gae (by decide) ?_;conv=>whnf
         refine useFo A rfl (zaa _) rfl ?_;rintro _ X Z rfl;conv=>whnf
         repeat
          refine gae (by decide) ?_;conv=>whnf
         exact c _ X _ _ (kT d k f m) rfl (Fz.t a Z)
      ·conv=>whnf
       first
        |exact c false F1 _ _ (kF3 f m) rfl a
        |exact finL false F1 _ _ (kF3 f m) rfl a
     ·conv=>whnf
      first
       |exact c false F1 _ _ (kF2 f) rfl a
       |exact finL false F1 _ _ (kF2 f) rfl a
    ·conv=>whnf
     first
      |exact c false F1 _ _ (kF1 k) rfl a
      |exact finL false F1 _ _ (kF1 k) rfl a
def idxN {α:Type} (q:α → Bool):List α → Nat → Int
 |[],_=>-1
 |x :: r,n=>if q x = false then n else idxN q r (n + 1)
theorem zo7 {α:Type} (q:α → Bool) (l:List α) (k:Nat) (h:k < l.length):idxN q (l.drop k) k = if q l[k] = false then (k:Int) else idxN q (l.drop (k + 1)) (k + 1):=by
 rw [qx h]; rfl
theorem zt2 {α:Type} (q:α → Bool):∀ (l:List α) (n:Nat),(0 ≤ idxN q l n) ↔ l.all q = false
 |[],n=>by simp [idxN]
 |x :: r,n=>by
  simp only [idxN,qbw];split
  ·rename_i h; simp [h]
  ·rename_i h;have:q x = true:=by simpa using h
   rw [zt2 q r (n + 1),this]; simp
theorem zuu {α:Type} (q:α → Bool) (l:List α):decide (0 ≤ idxN q l 0) = !l.all q:=by
 have:=zt2 q l 0;cases h:l.all q with
 |true=>rw [h] at this; simp only [Bool.not_true,decide_eq_false_iff_not]; intro a; exact absurd (this.1 a) (by simp)
 |false=>rw [h] at this; simp only [Bool.not_false,decide_eq_true_eq]; exact this.2 rfl
theorem zvy (F:Fz) (a:SA) (p:Int) (l:List Stp) (b:za1 F a l) (e:l.length < 1000000) :
  Fo Tryz.prog F 106 [.agg [.int .i64 p,a]] (fun o u=>o = .ret (.va (.bool (!zbk (p,l))))):=by
 have h:=zyd F a p l b e;obtain ⟨m,c,k,n,i,s,rfl,g,f,d,q⟩:=b;refine fo_of hΘ Tryz.func106 rfl (by decide) _ _ rfl rfl rfl ?_;refine useFo h rfl (zaa _) rfl ?_;rintro _ F1 j rfl;exact endFo (.ret (.va (.bool (!zbk (p,l))))) F1 rfl j (Fz.r F1) rfl (zah _) rfl
def short (a:List Kp):Prop:=∀ x ∈ a,x.2.length < 1000000
theorem yad (F:Fz) (sk:SA) (b:List Kp) (L:KpsAt F sk b) (K:short b) (hl:b.length < 1000000) :
  Fo Tryz.prog F 172 [.va sk,.va (.fn (.func 106) [])] (fun o W=>o = .ret (.va (.int .i64 (idxN zbk b 0)))):=by
 obtain ⟨kn,kb,ke,kc,kL,kr,rfl,D,I,k3,Z⟩:=L
 have l:∀ (x:Int) (F1:Fz) (h:Hp) (nx:Nat),idxN zbk b 0 = x → lget h 0 = some (.frz F1) → Fz.le F F1 →
   Cln 1 (FoK F fun o W=>o = .ret (.va (.int .i64 (idxN zbk b 0)))) (.ret (.va (.int .i64 x))) h nx:=by
  intro x F1 h nx S R s;exact endFo (.ret (.va (.int .i64 x))) F1 R s (Fz.r F1) (by rw [S]) rfl rfl
 refine fo_of hΘ Tryz.func172 rfl (by decide) _ _ rfl rfl rfl ?_
 refine zam hΘ (X:={ x:Nat × Fz // Fz.le F x.2 ∧ x.1 ≤ b.length ∧ idxN zbk b 0 = idxN zbk (b.drop x.1) x.1 }) (fun x=>[(8,.va (.int .i64 x.1.1))]) [4,5,9,10,11,12,13,14,15,16,17,18] (fz fun x=>x.1.2) 1 (fun x=>b.length - x.1.1) ⟨(0,F),Fz.r F,by simp,by simp⟩
  (fun p u=>leI [] p u rfl ⟨tv,tv⟩ ⟨rfl,tv⟩ ⟨Fz.r F,tv⟩) ?_
 rintro ⟨⟨k,G⟩,c,i,d⟩ p u;replace c:Fz.le F G:=c;replace i:k ≤ b.length:=i;replace d:idxN zbk b 0 = idxN zbk (b.drop k) k:=d;by_cases g:k < b.length
 ·have n:(k:Int) < (b.length:Int):=by omega
  have j:b.length - (k + 1) < b.length - k:=by omega
  have f:k < 4611686018427387904:=by omega
  have J:=K b[k] (jp g);rw [zo7 zbk b k g] at d;have m:=SlR.at Z g;obtain ⟨y,M,a,rfl,E⟩:=m;have e:=zvy G a b[k].1 b[k].2 (E.mono c) J;obtain ⟨aa,O,Y,ab,V,ad,rfl,U,T,Q,ac⟩:=E;refine bri n ?_;refine ⟨SlR.lt D g,⟨by simp,n⟩,_,c _ _ (I (SlR.lt D g)),_,M,?_⟩;refine useFo e rfl (zaa _) rfl ?_;rintro _ w B rfl;refine br (fun q=>?_) (fun q=>?_)
  ·exact l _ w _ _ (d.trans (if_pos (by have A:(!zbk b[k]) = true:=q; simpa using A))) rfl (Fz.t c B)
  ·conv=>whnf
   have A:(!zbk b[k]) = false:=q;exact ⟨⟨(k + 1,w),Fz.t c B,g,d.trans (if_neg (by rw [show zbk b[k] = true by simpa using A]; simp))⟩,j,leR [] p u rfl ⟨tv,tv⟩ ⟨cnt f,tv⟩ ⟨Fz.r w,tv⟩⟩
 ·have n:¬ (k:Int) < (b.length:Int):=by omega
  rw [yg (by omega)] at d;refine brj n ?_;exact l _ G _ _ d rfl c
theorem z02 (F:Fz) (sk:SA) (a:List Kp) (b:KpsAt F sk a) (c:short a) (d:a.length < 1000000) :
  Fo Tryz.prog F 109 [.va sk,.va (.fn (.func 106) [])] (fun o j=>o = .ret (.va (.bool (!ks.all zbk)))):=by
 have h:=yad F sk a b c d;obtain ⟨q,k,l,i,g,n,rfl,m,f,p,s⟩:=b;refine fo_of hΘ Tryz.func109 rfl (by decide) _ _ rfl rfl rfl ?_;refine useFo h rfl (zaa _) rfl ?_;rintro _ F1 e rfl;exact endFo (.ret (.va (.bool (!ks.all zbk)))) F1 rfl e (Fz.r F1) rfl (ob (zuu zbk a).symm) rfl
end Go.Proofs.YtfnkamphhpldcaaGreatDoor
