import Derived.Test.YtfnkamphhpldcaaGreatDoorK19
import Derived.Test.YtfnkamphhpldcaaGreatDoorK15
set_option maxHeartbeats 64000000
namespace Go.Proofs.YtfnkamphhpldcaaGreatDoor
open Go Sx
set_option maxRecDepth 100000
theorem zew {τ μ:Mu} {a b j i i' c:Nat} {l:List UInt8} (h:τ a 0 = (j,0)) (d:μ b 0 = (j,0)):subE (some ((outC i' a c l).ren τ)) ((outC i b c l).ren μ):=by
 rw [zj1 h,zj1 d]; exact rfl
theorem zwo {p:Int} {x:Ln} (h:x.2.length ≤ 1000):(lineW p x).length ≤ 74545:=by
 unfold lineW;have h1:=zdf x.1;have a:=za0 x.2;rw [qd];split
 ·omega
 ·simp; omega
theorem zi9 {p:Int}:∀ (l:List Ln),(∀ x ∈ l,x.2.length ≤ 1000) → (l.map (lineW p)).flatten.length ≤ 74545 * l.length
 |[],_=>by simp
 |x :: r,h=>by
  have h1:=zwo (p:=p) (h x (by simp));have b:=zi9 (p:=p) r (fun y a=>h y (by simp [a]));simp only [qv,jx,qd,qh]; omega
theorem znn (W:PFun) (F:Fz) (L:List Ln) (w h:Int) (bits:List UInt8) (c:Nat) (caps:Nat → Nat) (p:Int) (hp:¬ 6 ≤ p) (ad:L ≠ []) (hl:L.length ≤ 1000) (hx:∀ x ∈ L,x.1.length ≤ 70000 ∧ x.2.length ≤ 1000) :
  Ct Tryz.prog 131 [valV ⟨false,L,w,h,bits⟩ 1 c,.va (.int .i64 p)] F (valH ⟨false,L,w,h,bits⟩ c caps) 3 (fun o U I n0=>n0 = 3 ∧ o = .ret (.va (.str (zbt p ⟨false,L,w,h,bits⟩))) ∧ I = valH ⟨false,L,w,h,bits⟩ c caps):=by
 have hW:zbt p ⟨false,L,w,h,bits⟩ = zae [(L.length:Int)] ++ (L.map (lineW p)).flatten:=by rw [zbt,if_neg (by simp),if_neg hp]
 rcases L with _ | ⟨a0,ar⟩
 ·exact absurd rfl ad
 refine ct_of hΘ Tryz.func131 rfl (by decide) _ _ rfl rfl rfl ?_;refine brj hp ?_;refine za7 5 (fun _=>.arr 3 1 ([((ar.length + 1:Nat):Int)].map encI) 1) rfl rfl rfl (fun _ _=>rfl) (fun _ _=>SB.bB_ok rfl) ?_;intro b1 F1 l1 ae;have Z:=zk7 W F1 _ [((ar.length + 1:Nat):Int)] [] 0 (Sl.new (l:=[((ar.length + 1:Nat):Int)]) (cap:=1) (ae 0 rfl)) (by simp) (by simp);refine use Z [(1,4),(2,5)] rfl ⟨⟨rfl,rfl,rfl,.inr ⟨rfl,rfl,rfl,rfl⟩⟩,rfl,tv⟩ rfl ⟨za9 (by omega) _ _ _,zai zab _ _ _ _ _,tv⟩ (by simp [SV.below,SA.below]) ⟨rfl,rfl,tv⟩ ?_;rintro g U I n0 D ⟨rfl,rfl,rfl,c1,rfl⟩
 refine zam hΘ (X:={ x:Nat × List UInt8 × Nat // x.1 ≤ ar.length + 1 ∧ x.2.1 = zae [((ar.length + 1:Nat):Int)] ++ (((a0 :: ar).take x.1).map (lineW p)).flatten }) (fun x=>[(21,.va (.int .i64 x.1.1))]) [9,22,23,24,25,26,27,28,29,30,31,32,33,34,35]
  (fun x=>[(0,.frz F1),(1,zbi 2 caps c (a0 :: ar)),(2,famE caps (a0 :: ar)),(4,outC 1 7 x.1.2.2 x.1.2.1),(6,.gone),(7,gE 5 1 encB x.1.2.2 x.1.2.1)]) 8 (fun x=>ar.length + 1 - x.1.1) ⟨(0,[] ++ zae [((ar.length + 1:Nat):Int)],c1),by simp⟩
  (fun T V=>leI [(7,6)] T V rfl ⟨tv,zaq (by omega) _ _ _,zaw _ _ _,za9 (by omega) _ _ _,tv,zai zab _ _ _ _ _,tv⟩ ⟨rfl,tv⟩ ⟨Fz.r F1,za8 (fun k=>rfl),zby (μ:=sig [(7,6)]) (caps:=caps) (l:=a0 :: ar),zew (i:=1) (i':=1) (a:=3) (b:=7) (j:=6) (by rfl) (by rfl),zbl zab,tv⟩) ?_
 rintro ⟨⟨k,ob,cb⟩,hk,E⟩ T V;replace hk:k ≤ ar.length + 1:=hk;replace E:ob = zae [((ar.length + 1:Nat):Int)] ++ (((a0 :: ar).take k).map (lineW p)).flatten:=E
 have af:ob.length ≤ 100000000000:=by
  have h1:=za0 [((ar.length + 1:Nat):Int)];have h2:=zi9 (p:=p) ((a0 :: ar).take k) (fun x ac=>(hx x (yf ac)).2);have h3:((a0 :: ar).take k).length ≤ 1000:=by rw [qq]; omega
  rw [E,qd];simp only [qh,qt] at h1;omega
 refine br (fun Y=>?_) (fun Y=>?_)
 ·have gk:k < ar.length + 1:=by
   have I:(k:Int) < ((ar.length + 1:Nat):Int):=od Y;omega
  clear Y;have M:k < (a0 :: ar).length:=gk;have G:=hx _ (jp M);have ab:∃ t n,(a0 :: ar)[k] = (t,n):=⟨_,_,rfl⟩
  obtain ⟨t,n,B⟩:=ab;rw [B] at G;replace G:t.length ≤ 70000 ∧ n.length ≤ 1000:=G;have K:=zea 2 caps 0 (a0 :: ar) k (t,n) (by rw [qe M,B])
  have d:(ob ++ (if p = 1 then (putSR t).1 else [])) ++ zae n = zae [((ar.length + 1:Nat):Int)] ++ (((a0 :: ar).take (k + 1)).map (lineW p)).flatten:=by
   rw [zb1 M,B,lineW,E]; simp only [ql]
  refine ⟨rfl,⟨by simp,by show (k:Int) < ((ar.length + 1:Nat):Int); omega⟩,rfl,_,by show (zbr 2 caps 0 (a0 :: ar))[0 + (k:Int).toNat]? = _; rw [q5,qp]; exact K,?_⟩;refine br (fun g1=>?_) (fun g1=>?_)
  ·have S:p = 1:=od g1;rw [if_pos S] at d;have ag:=zdf t;have e:(ob ++ (putSR t).1).length ≤ 1000000000000:=by rw [qd]; omega
   refine use (zr9 W F1 t ob cb (by omega) (by omega)) [(1,4),(2,7)] rfl ⟨rfl,rfl,tv⟩ rfl ⟨za9 (by omega) _ _ _,zai zab _ _ _ _ _,tv⟩ (by simp [SV.below,SA.below]) ⟨zh9 (i:=1) (i':=1) (j:=2) (j':=7) (by rfl),zax zab (zay _ _ _ _),tv⟩ ?_;rintro g U I n1 D ⟨rfl,rfl,rfl,c2,rfl⟩;rcases n with _ | ⟨n0,m⟩
   ·refine use (zk7 W F1 _ [] (ob ++ (putSR t).1) c2 Sl.nil (by simp) e) [(1,4),(2,9)] rfl ⟨⟨rfl,rfl,rfl⟩,rfl,tv⟩ rfl ⟨za9 (by omega) _ _ _,zai zab _ _ _ _ _,tv⟩ (by simp [SV.below,SA.below]) ⟨zew (i:=1) (i':=1) (a:=3) (b:=2) (j:=9) (by rfl) (by rfl),zbl zab,tv⟩ ?_;rintro g U I n1 D ⟨rfl,rfl,rfl,O,rfl⟩
    exact ⟨⟨(k + 1,(ob ++ (putSR t).1) ++ zae [],O),by show k + 1 ≤ ar.length + 1; omega,d⟩,by show ar.length + 1 - (k + 1) < ar.length + 1 - k; omega,
     leR [(7,10)] T V rfl ⟨tv,zaq (by omega) _ _ _,zaw _ _ _,za9 (by omega) _ _ _,tv,zai zab _ _ _ _ _,tv⟩ ⟨cnt (by omega),tv⟩
     ⟨Fz.r F1,za8 (fun k=>rfl),zby (μ:=sig [(7,10)]) (caps:=caps) (l:=a0 :: ar),zew (i:=1) (i':=1) (a:=3) (b:=7) (j:=10) (by rfl) (by rfl),zbl zab,tv⟩⟩
   ·refine lend 2 (fun k=>(famE caps (a0 :: ar)).at k) rfl rfl rfl (fun k _=>zck _ _ _) (fun k _=>zb0 _ _ _) ?_;intro bf Q aa R;have u:=zja caps (l:=a0 :: ar) (k:=k) (x:=(t,n0 :: m)) (by rw [qe M,B]);have A:(famE caps (a0 :: ar)).has k:=⟨M,by show (!((((a0 :: ar).map (·.2)).getD k []).isEmpty)) = true; rw [u]; rfl⟩
    have f:Q (bf k) = some ((famE caps (a0 :: ar)).at k):=R k A;have s:(famE caps (a0 :: ar)).at k = .arr 3 1 ((n0 :: m).map encI) (caps k):=by show SB.arr 3 1 ((((a0 :: ar).map (·.2)).getD k []).map encI) (caps k) = _; rw [u]
    rw [s,← q5 k] at f;refine use (zk7 W Q _ (n0 :: m) (ob ++ (putSR t).1) c2 (Sl.new (l:=n0 :: m) (cap:=caps (0 + k)) f) (by simp at G ⊢; omega) e) [(1,4),(2,9)] rfl ⟨⟨rfl,rfl,rfl,.inr ⟨rfl,rfl,rfl,rfl⟩⟩,rfl,tv⟩ rfl ⟨za9 (by omega) _ _ _,zai zab _ _ _ _ _,tv⟩ (by simp [SV.below,SA.below]) ⟨zew (i:=1) (i':=1) (a:=3) (b:=2) (j:=9) (by rfl) (by rfl),zbl zab,tv⟩ ?_;rintro g U I n1 D ⟨rfl,rfl,rfl,O,rfl⟩;refine ⟨Q,rfl,Fz.r _,rfl,?_⟩
    exact ⟨⟨(k + 1,(ob ++ (putSR t).1) ++ zae (n0 :: m),O),by show k + 1 ≤ ar.length + 1; omega,d⟩,by show ar.length + 1 - (k + 1) < ar.length + 1 - k; omega,
     leR [(7,10)] T V rfl ⟨tv,zaq (by omega) _ _ _,zaw _ _ _,za9 (by omega) _ _ _,tv,zai zab _ _ _ _ _,tv⟩ ⟨cnt (by omega),tv⟩
     ⟨Fz.r F1,za8 (fun k=>rfl),zby (μ:=sig [(7,10)]) (caps:=caps) (l:=a0 :: ar),zew (i:=1) (i':=1) (a:=3) (b:=7) (j:=10) (by rfl) (by rfl),zbl zab,tv⟩⟩
  ·have S:¬ p = 1:=oe g1;rw [if_neg S,jm] at d;have e:ob.length ≤ 1000000000000:=by omega
   rcases n with _ | ⟨n0,m⟩
   ·refine use (zk7 W F1 _ [] (ob) cb Sl.nil (by simp) e) [(1,4),(2,7)] rfl ⟨⟨rfl,rfl,rfl⟩,rfl,tv⟩ rfl ⟨za9 (by omega) _ _ _,zai zab _ _ _ _ _,tv⟩ (by simp [SV.below,SA.below]) ⟨zh9 (i:=1) (i':=1) (j:=2) (j':=7) (by rfl),zax zab (zay _ _ _ _),tv⟩ ?_;rintro g U I n1 D ⟨rfl,rfl,rfl,O,rfl⟩
    exact ⟨⟨(k + 1,(ob) ++ zae [],O),by show k + 1 ≤ ar.length + 1; omega,d⟩,by show ar.length + 1 - (k + 1) < ar.length + 1 - k; omega,
     leR [(7,9)] T V rfl ⟨tv,zaq (by omega) _ _ _,zaw _ _ _,za9 (by omega) _ _ _,tv,zai zab _ _ _ _ _,tv⟩ ⟨cnt (by omega),tv⟩
     ⟨Fz.r F1,za8 (fun k=>rfl),zby (μ:=sig [(7,9)]) (caps:=caps) (l:=a0 :: ar),zew (i:=1) (i':=1) (a:=3) (b:=7) (j:=9) (by rfl) (by rfl),zbl zab,tv⟩⟩
   ·refine lend 2 (fun k=>(famE caps (a0 :: ar)).at k) rfl rfl rfl (fun k _=>zck _ _ _) (fun k _=>zb0 _ _ _) ?_;intro bf Q aa R;have u:=zja caps (l:=a0 :: ar) (k:=k) (x:=(t,n0 :: m)) (by rw [qe M,B]);have A:(famE caps (a0 :: ar)).has k:=⟨M,by show (!((((a0 :: ar).map (·.2)).getD k []).isEmpty)) = true; rw [u]; rfl⟩
    have f:Q (bf k) = some ((famE caps (a0 :: ar)).at k):=R k A;have s:(famE caps (a0 :: ar)).at k = .arr 3 1 ((n0 :: m).map encI) (caps k):=by show SB.arr 3 1 ((((a0 :: ar).map (·.2)).getD k []).map encI) (caps k) = _; rw [u]
    rw [s,← q5 k] at f;refine use (zk7 W Q _ (n0 :: m) (ob) cb (Sl.new (l:=n0 :: m) (cap:=caps (0 + k)) f) (by simp at G ⊢; omega) e) [(1,4),(2,7)] rfl ⟨⟨rfl,rfl,rfl,.inr ⟨rfl,rfl,rfl,rfl⟩⟩,rfl,tv⟩ rfl ⟨za9 (by omega) _ _ _,zai zab _ _ _ _ _,tv⟩ (by simp [SV.below,SA.below]) ⟨zh9 (i:=1) (i':=1) (j:=2) (j':=7) (by rfl),zax zab (zay _ _ _ _),tv⟩ ?_;rintro g U I n1 D ⟨rfl,rfl,rfl,O,rfl⟩;refine ⟨Q,rfl,Fz.r _,rfl,?_⟩
    exact ⟨⟨(k + 1,(ob) ++ zae (n0 :: m),O),by show k + 1 ≤ ar.length + 1; omega,d⟩,by show ar.length + 1 - (k + 1) < ar.length + 1 - k; omega,
     leR [(7,9)] T V rfl ⟨tv,zaq (by omega) _ _ _,zaw _ _ _,za9 (by omega) _ _ _,tv,zai zab _ _ _ _ _,tv⟩ ⟨cnt (by omega),tv⟩
     ⟨Fz.r F1,za8 (fun k=>rfl),zby (μ:=sig [(7,9)]) (caps:=caps) (l:=a0 :: ar),zew (i:=1) (i':=1) (a:=3) (b:=7) (j:=9) (by rfl) (by rfl),zbl zab,tv⟩⟩
 ·have gk:k = ar.length + 1:=by
   have I:¬ (k:Int) < ((ar.length + 1:Nat):Int):=oe Y;omega
  clear Y
  have J:ob = zbt p ⟨false,a0 :: ar,w,h,bits⟩:=by
   rw [hW,E,gk];have:(a0 :: ar).take (ar.length + 1) = a0 :: ar:=qn (by simp);rw [this]; rfl
  rcases ob with _ | ⟨y,q⟩
  ·exact zdt J l1 rfl rfl rfl
  ·refine ⟨rfl,by simp,(y :: q).map encB,by show (((y :: q).map encB).drop 0).take (q.length + 1) = _; rw [qaf,qn (by simp)],y :: q,rfl,?_⟩;exact zdt J l1 rfl rfl rfl
theorem zo0 (s:PFun) (F:Fz) (w h:Int) (bits:List UInt8) (c:Nat) (caps:Nat → Nat) (p:Int) (n:¬ 6 ≤ p) :
  Ct Tryz.prog 131 [valV ⟨false,[],w,h,bits⟩ 1 c,.va (.int .i64 p)] F (valH ⟨false,[],w,h,bits⟩ c caps) 3 (fun o k d n0=>n0 = 3 ∧ o = .ret (.va (.str (zbt p ⟨false,[],w,h,bits⟩))) ∧ d = valH ⟨false,[],w,h,bits⟩ c caps):=by
 have i:zbt p ⟨false,[],w,h,bits⟩ = [] ++ zae [0]:=by rw [zbt,if_neg (by simp),if_neg n]; exact jm (zae [0])
 obtain ⟨f,e⟩:∃ f,[] ++ zae [0] = f:=⟨_,rfl⟩
 refine ct_of hΘ Tryz.func131 rfl (by decide) _ _ rfl rfl rfl ?_;refine brj n ?_;refine za7 5 (fun _=>.arr 3 1 ([(0:Int)].map encI) 1) rfl rfl rfl (fun _ _=>rfl) (fun _ _=>SB.bB_ok rfl) ?_;intro u F1 m j;have a:=zk7 s F1 _ [0] [] 0 (Sl.new (l:=[(0:Int)]) (cap:=1) (j 0 rfl)) (by simp) (by simp);rw [e] at a i;rcases f with _ | ⟨x,r⟩
 ·refine use a [(1,4),(2,5)] rfl ⟨⟨rfl,rfl,rfl,.inr ⟨rfl,rfl,rfl,rfl⟩⟩,rfl,tv⟩ rfl ⟨za9 (by omega) _ _ _,zai zab _ _ _ _ _,tv⟩ (by simp [SV.below,SA.below]) ⟨rfl,rfl,tv⟩ ?_;rintro b k d n0 g ⟨rfl,rfl,rfl,q,rfl⟩;refine rounds hΘ 1 ?_;refine brd (by decide) ?_;exact zdt i.symm m rfl rfl rfl
 ·refine use a [(1,4),(2,5)] rfl ⟨⟨rfl,rfl,rfl,.inr ⟨rfl,rfl,rfl,rfl⟩⟩,rfl,tv⟩ rfl ⟨za9 (by omega) _ _ _,zai zab _ _ _ _ _,tv⟩ (by simp [SV.below,SA.below]) ⟨rfl,rfl,tv⟩ ?_;rintro b k d n0 g ⟨rfl,rfl,rfl,q,rfl⟩;refine rounds hΘ 1 ?_;refine brd (by decide) ?_;refine ⟨rfl,by simp,(x :: r).map encB,convR _ (x :: r) _ rfl,x :: r,rfl,?_⟩;exact zdt i.symm m rfl rfl rfl
structure Fits (v:Val):Prop where
 h1:v.lines.length ≤ 1000
 h2:∀ x ∈ v.lines,x.1.length ≤ 70000 ∧ x.2.length ≤ 1000
 h3:v.bits.length ≤ 70000
theorem z4h (f:PFun) (F:Fz) (v:Val) (c:Nat) (caps:Nat → Nat) (p:Int) (e:Fits v) (k:p ≤ 8) :
  Ct Tryz.prog 131 [valV v 1 c,.va (.int .i64 p)] F (valH v c caps) 3 (fun o j i n0=>n0 = 3 ∧ o = .ret (.va (.str (zbt p v))) ∧ i = valH v c caps):=by
 by_cases a:v.lost = true
 ·exact zqh F v c caps p a
 ·have a:v.lost = false:=by simpa using a
  by_cases g:6 ≤ p
  ·exact zlv f F v c caps p a (by omega) e.h3
  ·obtain ⟨b,L,w,h,bits⟩:=v;replace a:b = false:=a;subst a;by_cases d:L = []
   ·subst d; exact zo0 f F w h bits c caps p g
   ·exact znn f F L w h bits c caps p g d e.h1 e.h2
theorem zt1 (r:List Int):∀ x:Int,(r.foldl (fun m x=>if x < m then x else m) x ∈ x :: r) ∧ ∀ y ∈ x :: r,r.foldl (fun m x=>if x < m then x else m) x ≤ y:=by
 induction r with
 |nil=>intro x; simp
 |cons a r ih=>
  intro x;obtain ⟨h1,c⟩:=ih (if a < x then a else x);simp only [y5];refine ⟨?_,?_⟩
  ·rcases qj.1 h1 with h | h
   ·rw [h]; split<;>simp
   ·exact yp _ (yp _ h)
  ·intro y hy;have b:=c _ qb2;rcases qj.1 hy with rfl | hy
   ·refine qau b ?_; split<;>omega
   ·rcases qj.1 hy with rfl | hy
    ·refine qau b ?_; split<;>omega
    ·exact c y (yp _ hy)
theorem zu6 (r:List Int):∀ x:Int,(r.foldl (fun m x=>if x > m then x else m) x ∈ x :: r) ∧ ∀ y ∈ x :: r,y ≤ r.foldl (fun m x=>if x > m then x else m) x:=by
 induction r with
 |nil=>intro x; simp
 |cons a r ih=>
  intro x;obtain ⟨h1,c⟩:=ih (if a > x then a else x);simp only [y5];refine ⟨?_,?_⟩
  ·rcases qj.1 h1 with h | h
   ·rw [h]; split<;>simp
   ·exact yp _ (yp _ h)
  ·intro y hy;have b:=c _ qb2;rcases qj.1 hy with rfl | hy
   ·refine qau ?_ b; split<;>omega
   ·rcases qj.1 hy with rfl | hy
    ·refine qau ?_ b; split<;>omega
    ·exact c y (yp _ hy)
theorem zqn {s:List Int} (h:s ≠ []):mn s ∈ s:=by
 cases s with
 |nil=>exact absurd rfl h
 |cons x r=>exact (zt1 r x).1
theorem mn_le {s:List Int} {y:Int} (h:y ∈ s):mn s ≤ y:=by
 cases s with
 |nil=>cases h
 |cons x r=>exact (zt1 r x).2 y h
theorem zq4 {s:List Int} (h:s ≠ []):mx s ∈ s:=by
 cases s with
 |nil=>exact absurd rfl h
 |cons x r=>exact (zu6 r x).1
theorem le_mx {s:List Int} {y:Int} (h:y ∈ s):y ≤ mx s:=by
 cases s with
 |nil=>cases h
 |cons x r=>exact (zu6 r x).2 y h
theorem mn_eq {s:List Int} {m:Int} (h:m ∈ s) (a:∀ y ∈ s,m ≤ y):mn s = m:=
 Int.le_antisymm (mn_le h) (a _ (zqn (by intro e; rw [e] at h; cases h)))
theorem mx_eq {s:List Int} {m:Int} (h:m ∈ s) (a:∀ y ∈ s,y ≤ m):mx s = m:=
 Int.le_antisymm (a _ (zq4 (by intro e; rw [e] at h; cases h))) (le_mx h)
theorem zf9 (κ:Int) (a b:List Stp):sel κ (a ++ b) = sel κ a ++ sel κ b:=by simp [sel]
theorem yd6 {κ ν:Int} {l:List Stp}:ν ∈ sel κ l ↔ (κ,ν) ∈ l:=by
 simp only [sel,qz,qcj,decide_eq_true_eq];constructor
 ·rintro ⟨⟨k,n⟩,⟨h1,b⟩,a⟩; simp only at b a; subst b; subst a; exact h1
 ·intro h; exact ⟨(κ,ν),⟨h,rfl⟩,rfl⟩
theorem zg2 {p:Int} {l:List Stp} (h:zbb p l = true):∀ s ∈ l,zbs p s = true:=by
 simp only [zbb,qf] at h;exact fun s a=>qo.1 h.2.2 s a
theorem zla {p:Int} {l:List Stp} (h:zbb p l = true):1 ≤ p ∧ p ≤ 8:=by
 simp only [zbb,qf,decide_eq_true_eq] at h; exact h.1
theorem z2v {p:Int} {l:List Stp} (b:1 ≤ p ∧ p ≤ 8) (a:l.length ≤ 64) (h:∀ s ∈ l,zbs p s = true):zbb p l = true:=by
 simp only [zbb,qf,decide_eq_true_eq]; exact ⟨b,a,qo.2 h⟩
theorem zya {κ:Int} {s:List Int} {t:Stp} (h:t ∈ piece κ s):t.1 = κ ∧ t.2 ∈ s:=by
 unfold piece at h;split at h
 ·cases h
 ·rename_i a;split at h
  ·rename_i c; simp only [qu] at h; subst h; exact ⟨c.symm,zq4 a⟩
  ·split at h
   ·rename_i b;simp only [qz] at h;obtain ⟨n,d,rfl⟩:=h;exact ⟨b.symm,yf d⟩
   ·simp only [qu] at h; subst h; exact ⟨rfl,zqn a⟩
def cut (κ:Int) (s:List Int):List Int:=(piece κ s).map (·.2)
theorem zw9 (κ b:Int) (s:List Int):sel κ (piece b s) = if b = κ then cut κ s else []:=by
 have h1:∀ t ∈ piece b s,t.1 = b:=fun t a=>(zya a).1
 split
 ·rename_i h; subst h;unfold sel cut;rw [List.filter_eq_self.2 (fun t a=>by simp [h1 t a])]
 ·rename_i h;unfold sel;rw [List.filter_eq_nil_iff.2 (fun t a=>by simp [h1 t a,h])]; rfl
theorem zj6 {l:List Stp} (b:sel 6 l = []) (κ:Int) (a:κ = 1 ∨ κ = 2 ∨ κ = 3 ∨ κ = 4 ∨ κ = 5 ∨ κ = 6):sel κ (normS l) = if κ = 6 then [] else cut κ (sel κ l):=by
 unfold normS; rw [if_pos b];simp only [pieces,jx,qar,qw,jm,zf9,zw9];rcases a with rfl | rfl | rfl | rfl | rfl | rfl<;>simp
theorem zyp (κ:Int):cut κ [] = []:=rfl
theorem zvj {κ:Int} {s:List Int}:cut κ s = [] ↔ s = []:=by
 constructor
 ·intro h;apply Classical.byContradiction; intro a;unfold cut piece at h;rw [if_neg a] at h;split at h
  ·cases h
  ·split at h
   ·simp at h; exact a h
   ·cases h
 ·rintro rfl; rfl
theorem zxu {κ:Int} (s t:List Int):piece κ (cut κ s ++ cut κ t) = piece κ (s ++ t):=by
 by_cases a:s = []
 ·subst a;rw [zyp,qw,qw];by_cases b:t = []
  ·subst b; rfl
  ·have j:¬ cut κ t = []:=fun h=>b (zvj.1 h)
   by_cases d:κ = 3
   ·simp [piece,cut,b,d,mx]
   ·by_cases c:κ = 5
    ·subst c; simp [piece,cut,b,q9,Function.comp_def,qa7]
    ·simp [piece,cut,b,d,c,mn]
 ·by_cases b:t = []
  ·subst b;rw [zyp,jm,jm];by_cases d:κ = 3
   ·simp [piece,cut,a,d,mx]
   ·by_cases c:κ = 5
    ·subst c; simp [piece,cut,a,q9,Function.comp_def,qa7]
    ·simp [piece,cut,a,d,c,mn]
  ·by_cases d:κ = 3
   ·subst d
    have e:mx (s ++ t) = mx ([mx s] ++ [mx t]):=by
     refine mx_eq ?_ ?_
     ·rcases qj.1 (zq4 (s:=[mx s] ++ [mx t]) (by simp)) with h | h
      ·rw [h]; exact qa0 _ (zq4 a)
      ·rw [qu.1 h]; exact qbg _ (zq4 b)
     ·intro y f;rcases ym.1 f with h | h
      ·exact qau (le_mx h) (le_mx (by simp))
      ·exact qau (le_mx h) (le_mx (by simp))
    simp [piece,cut,a,b,e]
   ·by_cases c:κ = 5
    ·subst c;have g:∀ s:List Int,s ≠ [] → cut 5 s = s.take 5:=fun s a=>by simp [cut,piece,a,q9,Function.comp_def]
     rw [g s a,g t b];have e:∀ u:List Int,u ≠ [] → piece 5 u = (u.take 5).map (fun n=>((5:Int),n)):=fun u i=>by simp [piece,i]
     rw [e _ (by simp [a]),e _ (by simp [a])]
     congr 1
     rw [List.take_append,List.take_append,qa7,qa7,qq]
     congr 2
     omega
    ·have e:mn (s ++ t) = mn ([mn s] ++ [mn t]):=by
      refine mn_eq ?_ ?_
      ·rcases qj.1 (zqn (s:=[mn s] ++ [mn t]) (by simp)) with h | h
       ·rw [h]; exact qa0 _ (zqn a)
       ·rw [qu.1 h]; exact qbg _ (zqn b)
      ·intro y f;rcases ym.1 f with h | h
       ·exact qau (mn_le (by simp)) (mn_le h)
       ·exact qau (mn_le (by simp)) (mn_le h)
     simp [piece,cut,a,b,d,c,e]
theorem zuw {l:List Stp} (h:sel 6 l = []):normS l = (pieces (sel 1 l) (sel 2 l) (sel 3 l) (sel 4 l) (sel 5 l)).flatten:=if_pos h
theorem zfq {l:List Stp} (h:sel 6 l ≠ []):normS l = [(6,0)]:=if_neg h
theorem zt0:sel 6 [((6:Int),(0:Int))] = [0]:=rfl
theorem zk0 (a b:List Stp):normS (normS a ++ normS b) = normS (a ++ b):=by
 by_cases d:sel 6 a = []
 ·by_cases c:sel 6 b = []
  ·have i:sel 6 (normS a ++ normS b) = []:=by rw [zf9,zj6 d 6 (by simp),zj6 c 6 (by simp)]; rfl
   have g:sel 6 (a ++ b) = []:=by rw [zf9,d,c]; rfl
   have e:∀ κ,(κ = 1 ∨ κ = 2 ∨ κ = 3 ∨ κ = 4 ∨ κ = 5 ∨ κ = 6) → κ ≠ 6 → piece κ (sel κ (normS a ++ normS b)) = piece κ (sel κ (a ++ b)):=fun κ h f=>by
    rw [zf9,zf9,zj6 d κ h,zj6 c κ h,if_neg f,if_neg f,zxu]
   rw [zuw i,zuw g,pieces,pieces,e 1 (by simp) (by decide),e 2 (by simp) (by decide),e 3 (by simp) (by decide),e 4 (by simp) (by decide),e 5 (by simp) (by decide)]
  ·rw [zfq c,zfq (l:=normS a ++ [(6,0)]) (by rw [zf9,zt0]; simp),zfq (l:=a ++ b) (by rw [zf9]; simp [c])]
 ·rw [zfq d,zfq (l:=[(6,0)] ++ normS b) (by rw [zf9,zt0]; simp),zfq (l:=a ++ b) (by rw [zf9]; simp [d])]
def behind (a:List Stp):List (List Stp):=[a,[(6,0)],[],[(5,0)],[(5,0),(5,0)],[(5,0),(5,0),(5,0)],[(5,0),(5,0),(5,0),(5,0)],[(5,0),(5,0),(5,0),(5,0),(5,0)]]
theorem zml {B:Nat} {caps:Nat → Nat} {t:List UInt8} {n a:List Int} (b:n.length = a.length):∀ (j:Nat) (L:List Ln) (i:Nat),L[i]? = some (t,n) → zbr B caps j (L.set i (t,a)) = zbr B caps j L
 |j,y :: r,0,h=>by
  simp at h; subst h;rw [qaq,zbr,zbr]
  congr 2
  show [nA B j (caps j) a] = [nA B j (caps j) n];cases n<;>cases a<;>simp_all [nA]
 |j,y :: r,i + 1,h=>by
  rw [qcv,zbr,zbr,zml b (j + 1) r i (by simpa using h)]
theorem zm3 {B:Nat} {caps:Nat → Nat} {c:Nat} {t:List UInt8} {n a:List Int} (b:n.length = a.length) {L:List Ln} {i:Nat} (h:L[i]? = some (t,n)):zbi B caps c (L.set i (t,a)) = zbi B caps c L:=by
 unfold zbi;rw [zml b 0 L i h];cases L with
 |nil=>simp at h
 |cons x r=>cases i<;>rfl
theorem zua {L:List Ln} {k:Nat}:(L.map (·.2)).getD k [] = ((L[k]?).map (·.2)).getD []:=by
 rw [y9,qy]
theorem z05 {caps:Nat → Nat} {t:List UInt8} {n d:List Int} (j:n.length = d.length) {L:List Ln} {i:Nat} (h:L[i]? = some (t,n)) (f:n ≠ []) :
  famE caps (L.set i (t,d)) = .fam L.length (fun k=>!((L.map (·.2)).getD k []).isEmpty) (fun k=>if k = i then .arr 3 1 (d.map encI) (caps i) else .arr 3 1 (((L.map (·.2)).getD k []).map encI) (caps k)):=by
 have l:i < L.length:=(qi.1 h).1
 have g:∀ k,((L.set i (t,d)).map (·.2)).getD k [] = if k = i then d else (L.map (·.2)).getD k []:=by
  intro k;rw [zua,zua,qcy];by_cases c:i = k
  ·subst c; rw [if_pos rfl,if_pos l,if_pos rfl]; rfl
  ·rw [if_neg c,if_neg (fun e=>c e.symm)]
 unfold famE
 have o:(fun k=>!(((L.set i (t,d)).map (·.2)).getD k []).isEmpty) = (fun k=>!((L.map (·.2)).getD k []).isEmpty):=by
  funext k
  rw [g];by_cases c:k = i
  ·subst c;rw [if_pos rfl,zja caps h];cases n with
   |nil=>exact absurd rfl f
   |cons a r=>cases d with
    |nil=>simp at j
    |cons b r'=>rfl
  ·rw [if_neg c]
 have m:(fun k=>SB.arr 3 1 ((((L.set i (t,d)).map (·.2)).getD k []).map encI) (caps k)) = (fun k=>if k = i then .arr 3 1 (d.map encI) (caps i) else .arr 3 1 (((L.map (·.2)).getD k []).map encI) (caps k)):=by
  funext k
  rw [g];by_cases c:k = i
  ·subst c; rw [if_pos rfl,if_pos rfl]
  ·rw [if_neg c,if_neg c]
 rw [qbc,o,m]
theorem z7e {caps:Nat → Nat} {t:List UInt8} {n b:List Int} (e:n.length = b.length) {L:List Ln} {i:Nat} (h:L[i]? = some (t,n)) (c:n ≠ []) {a:List (List SA)} (d:a = b.map encI) {μ:Mu} :
  subE (some (.fam L.length (fun k=>!((L.map (·.2)).getD k []).isEmpty) (fun k=>if k = i then .arr 3 1 a (caps i) else .arr 3 1 (((L.map (·.2)).getD k []).map encI) (caps k)))) ((famE caps (L.set i (t,b))).ren μ):=by
 subst d;rw [zj2,z05 e h c];cases L with
 |nil=>simp at h
 |cons x r=>exact ⟨rfl,rfl,rfl⟩
theorem zod {α:Type} {L:List α} {i:Nat} {x:α} (h:L[i]? = some x):L.set i x = L:=by
 apply qb8;intro k;rw [qcy];by_cases a:i = k
 ·subst a; rw [if_pos rfl,if_pos (qi.1 h).1,h]
 ·rw [if_neg a]
def stepK (F:Fz) (c:Nat) (caps:Nat → Nat) (L:List Ln):Out → Fz → List (Nat × Ent) → Nat → Prop:=fun o a b n0=>a = F ∧ n0 = 3 ∧ o = .ret (.tup []) ∧ b = [(1,zbi 2 caps c L),(2,famE caps L)]
def limN (a:Int):List Int → List Int
 |[]=>[]
 |x :: r=>(if x > a then 0 else x) :: r
theorem z5u (F:Fz) (L:List Ln) (i c:Nat) (caps:Nat → Nat) (t:List UInt8) (x a:Int) (r:List Int) (h:L[i]? = some (t,x :: r)) :
  Ct Tryz.prog 193 [.va (.ptr ⟨1,0,i,2,0⟩),.va (.int .i64 a)] F [(1,zbi 2 caps c L),(2,famE caps L)] 3
   (stepK F c caps (L.set i (t,limN a (x :: r)))):=by
 have b:=zea 2 caps 0 L i _ h;rw [q5] at b;have n:i < L.length:=(qi.1 h).1;have d:=zja caps h;rcases L with _ | ⟨a0,ar⟩
 ·exact absurd n (by simp)
 have p:((x :: r).length = (limN a (x :: r)).length):=rfl;have m:=zm3 (B:=2) (caps:=caps) (c:=c) p h;have f:∀ μ:Mu,(∀ k,μ 2 k = (2,k)) → subE (some (zbi 2 caps c (a0 :: ar))) ((zbi 2 caps c ((a0 :: ar).set i (t,limN a (x :: r)))).ren μ):=fun μ q=>by rw [m]; exact za8 q
 have l:decide (a < x) = false → ∀ μ:Mu,subE (some (famE caps (a0 :: ar))) ((famE caps ((a0 :: ar).set i (t,limN a (x :: r)))).ren μ):=fun g μ=>by
  have s:(a0 :: ar).set i (t,limN a (x :: r)) = a0 :: ar:=by rw [limN,if_neg (oe g)]; exact zod h
  rw [s]; exact zby
 have u:decide (a < x) = true → (List.map encI ((List.map (fun x:Ln=>x.snd) (a0 :: ar)).getD i [])).set 0 [.int .i64 0] = (limN a (x :: r)).map encI:=fun g=>by
  rw [d,limN,if_pos (od g)]; rfl
 refine ct_of hΘ Tryz.func193 rfl (by decide) _ _ rfl rfl rfl ?_;refine ⟨rfl,_,b,rfl,⟨by simp,by show (0:Int) < ((r.length + 1:Nat):Int); omega⟩,?_⟩;conv=>whnf
 have e:(!((List.map (fun x:Ln=>x.snd) (a0 :: ar)).getD i []).isEmpty) = true:=by rw [d]; rfl
 have j:(List.map encI ((List.map (fun x:Ln=>x.snd) (a0 :: ar)).getD i []))[0]? = some [.int .i64 x]:=by rw [d]; rfl
 have o:(List.map encI ((List.map (fun x:Ln=>x.snd) (a0 :: ar)).getD i [])) = encI x :: r.map encI:=by rw [d]; rfl
 refine ⟨⟨n,e⟩,_,j,?_⟩;refine br (fun g=>?_) (fun g=>?_)
 ·refine ⟨rfl,_,b,rfl,⟨by simp,by show (0:Int) < ((r.length + 1:Nat):Int); omega⟩,⟨n,e⟩,_,j,?_⟩;refine clean [] (.ret (.tup [])) F [(1,zbi 2 caps c ((a0 :: ar).set i (t,limN a (x :: r)))),(2,famE caps ((a0 :: ar).set i (t,limN a (x :: r))))] 3 ⟨Fz.r F,rfl,rfl,rfl,rfl⟩ (zah _) rfl rfl (by simp [Out.below,SV.below]) ⟨zaq (by omega) _ _ _,zaw _ _ _,tv⟩ ⟨Fz.r F,?_,?_,tv⟩
  ·exact f _ (fun k=>rfl)
  ·refine z7e p h (by simp) ?_;exact u g
 ·refine clean [] (.ret (.tup [])) F [(1,zbi 2 caps c ((a0 :: ar).set i (t,limN a (x :: r)))),(2,famE caps ((a0 :: ar).set i (t,limN a (x :: r))))] 3 ⟨Fz.r F,rfl,rfl,rfl,rfl⟩ (zah _) rfl rfl (by simp [Out.below,SV.below]) ⟨zaq (by omega) _ _ _,zaw _ _ _,tv⟩ ⟨Fz.r F,?_,?_,tv⟩
  ·exact f _ (fun k=>rfl)
  ·exact l g _
def rndN (a:Int):List Int → List Int
 |x :: y :: z :: r=>x :: y :: (z - z.tmod a) :: r
 |l=>l
theorem z2s (F:Fz) (L:List Ln) (i c:Nat) (caps:Nat → Nat) (t:List UInt8) (x y z a:Int) (r:List Int) (h:L[i]? = some (t,x :: y :: z :: r)) (s:0 < a) (I:-1000000000000000000 ≤ z) (A:z ≤ 1000000000000000000) (E:a ≤ 1000000000000000000) :
  Ct Tryz.prog 191 [.va (.ptr ⟨1,0,i,2,0⟩),.va (.int .i64 a)] F [(1,zbi 2 caps c L),(2,famE caps L)] 3
   (stepK F c caps (L.set i (t,rndN a (x :: y :: z :: r)))):=by
 have b:=zea 2 caps 0 L i _ h;rw [q5] at b;have j:i < L.length:=(qi.1 h).1;have d:=zja caps h;rcases L with _ | ⟨a0,ar⟩
 ·exact absurd j (by simp)
 have p:((x :: y :: z :: r).length = (rndN a (x :: y :: z :: r)).length):=rfl;have o:=zm3 (B:=2) (caps:=caps) (c:=c) p h;have l:∀ μ:Mu,(∀ k,μ 2 k = (2,k)) → subE (some (zbi 2 caps c (a0 :: ar))) ((zbi 2 caps c ((a0 :: ar).set i (t,rndN a (x :: y :: z :: r)))).ren μ):=fun μ u=>by rw [o]; exact za8 u
 have w:z.tmod a < a:=qb1 _ s
 have G:-a < z.tmod a:=by
  have h1:(-z).tmod a < a:=qb1 _ s;rw [Int.neg_tmod] at h1;omega
 have g:IntKind.i64.wrap (z - z.tmod a) = z - z.tmod a:=zaj (by omega) (by omega);have m:IntKind.i64.wrap (z - IntKind.i64.wrap (z.tmod a)) = z - z.tmod a:=by rw [zaj (n:=z.tmod a) (by omega) (by omega),g]
 have q:∀ v,v = z - z.tmod a → (List.map encI ((List.map (fun x:Ln=>x.snd) (a0 :: ar)).getD i [])).set 2 [.int .i64 v] = (rndN a (x :: y :: z :: r)).map encI:=by
  intro v D; subst D;rw [d,rndN]; rfl
 have e:(!((List.map (fun x:Ln=>x.snd) (a0 :: ar)).getD i []).isEmpty) = true:=by rw [d]; rfl
 have f:(List.map encI ((List.map (fun x:Ln=>x.snd) (a0 :: ar)).getD i []))[2]? = some [.int .i64 z]:=by rw [d]; rfl
 refine ct_of hΘ Tryz.func191 rfl (by decide) _ _ rfl rfl rfl ?_;refine drawP hΘ mixed (lk [0,1,2,3,4,5,6,7,8,9,10,11,12,13,14,15] (.last 16 .done)) [1,2] (by kernel_rfl) ?_;refine ⟨rfl,rfl,_,b,rfl,⟨by simp,by show (2:Int) < ((r.length + 1 + 1 + 1:Nat):Int); omega⟩,rfl,⟨j,e⟩,_,f,rfl,rfl,_,b,rfl,⟨by simp,by show (2:Int) < ((r.length + 1 + 1 + 1:Nat):Int); omega⟩,rfl,⟨j,e⟩,_,f,(by omega),rfl,⟨by simp,by show (2:Int) < ((r.length + 1 + 1 + 1:Nat):Int); omega⟩,⟨j,e⟩,_,f,?_⟩;refine clean [] (.ret (.tup [])) F [(1,zbi 2 caps c ((a0 :: ar).set i (t,rndN a (x :: y :: z :: r)))),(2,famE caps ((a0 :: ar).set i (t,rndN a (x :: y :: z :: r))))] 3 ⟨Fz.r F,rfl,rfl,rfl,rfl⟩ (zah _) rfl rfl (by simp [Out.below,SV.below]) ⟨zaq (by omega) _ _ _,zaw _ _ _,tv⟩ ⟨Fz.r F,?_,?_,tv⟩
 ·exact l _ (fun k=>rfl)
 ·refine z7e p h (by simp) ?_
  first
  |exact q _ g
  |exact q _ m
def valE (v:Val) (i c:Nat):Ent:=.one (.cells 201 [.lit v.lost,gA 2 i c v.lines,.int .i64 v.w,.int .i64 v.h,.str v.bits])
def lnE (B:Nat) (caps:Nat → Nat) (c:Nat):List Ln → Ent
 |[]=>.gone
 |x :: r=>zbi B caps c (x :: r)
def fmE (caps:Nat → Nat):List Ln → Ent
 |[]=>.gone
 |x :: r=>famE caps (x :: r)
theorem zxo {n B:Nat} (h:B < n) (caps:Nat → Nat) (c:Nat) (l:List Ln):(lnE B caps c l).below n:=by
 cases l with
 |nil=>trivial
 |cons x r=>exact zaq h _ _ _
theorem z0c (n:Nat) (caps:Nat → Nat) (l:List Ln):(fmE caps l).below n:=by
 cases l with
 |nil=>trivial
 |cons x r=>exact zaw _ _ _
def valM (v:Val) (c:Nat) (caps:Nat → Nat):List (Nat × Ent):=[(1,valE v 2 c),(2,lnE 3 caps c v.lines),(3,fmE caps v.lines)]
def stepV (F:Fz) (v:Val):Out → Fz → List (Nat × Ent) → Nat → Prop:=fun o a b n0=>a = F ∧ n0 = 4 ∧ o = .ret (.tup []) ∧ ∃ c caps,b = valM v c caps
theorem zeh {α:Type} {n i:Nat} (h:i < n) (sz c:Nat) (l:List α):(gA sz i c l).below n:=by
 cases l with
 |nil=>trivial
 |cons x r=>exact .inr h
theorem zcf {v:Val} {n i:Nat} (h:i < n) (c:Nat):(valE v i c).below n:=by
 show ∀ a ∈ _,SA.below n a;intro a b;simp only [qj,qs,or_false] at b;rcases b with rfl | rfl | rfl | rfl | rfl
 ·trivial
 ·exact zeh h _ _ _
 ·trivial
 ·trivial
 ·trivial
theorem ziy (v:Val) (c:Nat) (caps:Nat → Nat):bH 4 (valM v c caps):=⟨zcf (by omega) _,zxo (by omega) _ _ _,z0c _ _ _,tv⟩
def loseV:Val:=⟨true,[],0,0,[]⟩
theorem yax (F:Fz) (v:Val) (a:Int) (c:Nat) (caps:Nat → Nat) :
  Ct Tryz.prog 195 [.va (.ptr ⟨1,0,0,0,0⟩),.va (.int .i64 a)] F (valM v c caps) 4 (stepV F loseV):=by
 refine ct_of hΘ Tryz.func195 rfl (by decide) _ _ rfl rfl rfl ?_;refine clean [] (.ret (.tup [])) F (valM loseV 0 (fun _=>0)) 4 ⟨Fz.r F,rfl,rfl,rfl,0,fun _=>0,rfl⟩ (zah _) rfl rfl (by simp [Out.below,SV.below]) (ziy _ _ _) ⟨Fz.r F,rfl,tv⟩
def upTo (f:Ln → Ln) (L:List Ln) (k:Nat):List Ln:=(L.take k).map f ++ L.drop k
theorem z3o (f:Ln → Ln) (L:List Ln) (k:Nat):(upTo f L k).length = L.length:=by
 unfold upTo; simp only [qd,qa,qq,yu]; omega
theorem z2g (f:Ln → Ln) {L:List Ln} {k:Nat} {x:Ln} (h:L[k]? = some x):(upTo f L k)[k]? = some x:=by
 have a:=(qi.1 h).1;unfold upTo;rw [jy (by simp only [qa,qq]; omega),qag];have:k + (k - ((L.take k).map f).length) = k:=by simp only [qa,qq]; omega
 rw [this,h]
theorem z5b (f:Ln → Ln) {L:List Ln} {k:Nat} {x:Ln} (h:L[k]? = some x):(upTo f L k).set k (f x) = upTo f L (k + 1):=by
 obtain ⟨a,b⟩:=qi.1 h;unfold upTo;rw [qbf _ _ (by simp only [qa,qq]; omega)];have e:k - ((L.take k).map f).length = 0:=by simp only [qa,qq]; omega
 rw [e,qx a,qaq,qg a,jj,b];simp
theorem z6k (f:Ln → Ln) (L:List Ln):upTo f L L.length = L.map f:=by
 unfold upTo; simp
theorem zc2 {τ μ:Mu} {B a B' c:Nat} {caps:Nat → Nat} {l b:List Ln} (f:∀ k,τ B k = (B',k)) (d:∀ k,μ a k = (B',k)) (e:l = b):subE (some ((zbi B caps c l).ren τ)) ((zbi a caps c b).ren μ):=by
 subst e;exact ⟨rfl,congrArg (fun L=>SB.arr 259 2 L c) ((zep (m:=l.length) (fun k _=>⟨f k,rfl⟩) 0 l (by omega)).trans (zep (m:=l.length) (fun k _=>⟨d k,rfl⟩) 0 l (by omega)).symm)⟩
theorem zfh {τ μ:Mu} {caps:Nat → Nat} {l a:List Ln} (e:l = a):subE (some ((famE caps l).ren τ)) ((famE caps a).ren μ):=by
 subst e; rw [zj2]; exact zby
theorem zlr {μ:Mu} {a B' c:Nat} {caps:Nat → Nat} {l b:List Ln} (d:∀ k,μ a k = (B',k)) (e:l = b):subE (some (zbi B' caps c l)) ((zbi a caps c b).ren μ):=by
 subst e; exact za8 d
theorem zqb {μ:Mu} {caps:Nat → Nat} {l a:List Ln} (e:l = a):subE (some (famE caps l)) ((famE caps a).ren μ):=by
 subst e; exact zby
def z7s (g:Nat) (F:Fz) (c:Nat) (caps:Nat → Nat) (a:Int) (f:Ln → Ln) (x:Ln):Prop:=
 ∀ (L:List Ln) (i:Nat),L[i]? = some x → Ct Tryz.prog g [.va (.ptr ⟨1,0,i,2,0⟩),.va (.int .i64 a)] F [(1,zbi 2 caps c L),(2,famE caps L)] 3 (stepK F c caps (L.set i (f x)))
theorem z6l (F:Fz) (g b:Nat) (f:Ln → Ln) (w h:Int) (bits:List UInt8) (d:Bool) (L:List Ln) (a:Int) (c:Nat) (caps:Nat → Nat) (Z:F b = some (eF g)) (O:L ≠ []) (U:L.length ≤ 1000000) (Y:∀ x ∈ L,z7s g F c caps a f x) :
  Ct Tryz.prog 246 [.va (.ptr ⟨1,0,0,0,0⟩),.va (.int .i64 a),.va (.ptr (fp b))] F (valM ⟨d,L,w,h,bits⟩ c caps) 4 (stepV F ⟨d,L.map f,w,h,bits⟩):=by
 rcases L with _ | ⟨a0,ar⟩
 ·exact absurd rfl O
 have aa:ar.length + 1 ≤ 1000000:=U;refine ct_of hΘ Tryz.func246 rfl (by decide) _ _ rfl rfl rfl ?_
 refine zam hΘ (X:={ x:Nat × Ln × List Ln // x.1 ≤ ar.length + 1 ∧ x.2.1 :: x.2.2 = upTo f (a0 :: ar) x.1 }) (fun x=>[(11,.va (.int .i64 x.1.1))]) [5,12,13,14,15,16,17,18,19,20,21,22,23]
  (fun x=>[(0,.frz F),(1,valE ⟨d,a0 :: ar,w,h,bits⟩ 2 c),(2,zbi 3 caps c (x.1.2.1 :: x.1.2.2)),(3,famE caps (x.1.2.1 :: x.1.2.2))]) 4 (fun x=>ar.length + 1 - x.1.1) ⟨(0,a0,ar),by simp,by simp [upTo]⟩
  (fun E K=>leI [] E K rfl ⟨tv,zcf (by omega) _,zaq (by omega) _ _ _,zaw _ _ _,tv⟩ ⟨rfl,tv⟩ ⟨Fz.r F,rfl,za8 (fun k=>rfl),zby (μ:=sig []) (caps:=caps) (l:=a0 :: ar),tv⟩) ?_
 rintro ⟨⟨k,o,m⟩,Q,i⟩ E K;replace Q:k ≤ ar.length + 1:=Q;replace i:o :: m = upTo f (a0 :: ar) k:=i;refine br (fun A=>?_) (fun A=>?_)
 ·have J:k < ar.length + 1:=by
   have R:(k:Int) < ((ar.length + 1:Nat):Int):=od A;omega
  clear A;have e:∃ x,(a0 :: ar)[k]? = some x:=⟨_,qe J⟩
  obtain ⟨x,e⟩:=e;have I:=yw e;have G:(o :: m)[k]? = some x:=by rw [i]; exact z2g f e
  have y:(o :: m).set k (f x) = upTo f (a0 :: ar) (k + 1):=by rw [i]; exact z5b f e
  have D:(o :: m)[0 + k]? = some x:=by rw [q5]; exact G
  have q:=Y x I (o :: m) (0 + k) D
  have j:∃ s u,s :: u = upTo f (a0 :: ar) (k + 1):=by
   have p:=z3o f (a0 :: ar) (k + 1);cases V:upTo f (a0 :: ar) (k + 1) with
   |nil=>rw [V] at p; simp at p
   |cons s u=>exact ⟨s,u,rfl⟩
  obtain ⟨s,u,j⟩:=j;have B:(o :: m).set (0 + k) (f x) = s :: u:=by rw [q5,y,j]
  refine drawP hΘ mixed (lk [0,1,2,3,4,5,6,7] (.alt 8 .done .nil)) [0,1] (by kernel_rfl) ?_;conv=>whnf
  repeat' ((conv=>whnf); first
   |refine ⟨rfl,?_⟩
   |refine ⟨Fz.r _,rfl,?_⟩
   |refine ⟨Fz.r _,rfl,rfl,?_⟩
   |refine ⟨⟨by simp,by simp⟩,?_⟩
   |fail)
  refine ⟨_,Z,rfl,rfl,⟨by simp,by show (k:Int) < ((ar.length + 1:Nat):Int); omega⟩,?_⟩;refine use q [(1,2),(2,3)] rfl ⟨rfl,rfl,tv⟩ rfl ⟨zaq (by omega) _ _ _,zaw _ _ _,tv⟩ (by simp [SV.below,SA.below]) ⟨za8 (fun k=>rfl),zby (caps:=caps) (l:=o :: m),tv⟩ ?_;rintro S F0 R n1 W ⟨rfl,rfl,rfl,rfl⟩;refine ⟨Fz.r _,rfl,rfl,?_⟩
  exact ⟨⟨(k + 1,s,u),by show k + 1 ≤ ar.length + 1; omega,j⟩,by show ar.length + 1 - (k + 1) < ar.length + 1 - k; omega,
   leR [] E K rfl ⟨tv,zcf (by omega) _,zaq (by omega) _ _ _,zaw _ _ _,tv⟩ ⟨cnt (by omega),tv⟩
   ⟨Fz.r _,rfl,zc2 (fun k=>rfl) (fun k=>rfl) B,zfh B,tv⟩⟩
 ·have J:k = ar.length + 1:=by
   have R:¬ (k:Int) < ((ar.length + 1:Nat):Int):=oe A;omega
  clear A;have n:o :: m = (a0 :: ar).map f:=by rw [i,J]; exact z6k f (a0 :: ar)
  have e1:valE ⟨d,a0 :: ar,w,h,bits⟩ 2 c = valE ⟨d,f a0 :: ar.map f,w,h,bits⟩ 2 c:=by
   simp [valE,gA]
  have M:∀ μ:Mu,μ 2 0 = (2,0) → subE (some (valE ⟨d,a0 :: ar,w,h,bits⟩ 2 c)) ((valE ⟨d,f a0 :: ar.map f,w,h,bits⟩ 2 c).ren μ):=by
   intro μ T;rw [← e1];show _ = _;simp [SB.ren,gA,SA.ren,T]
  refine clean [] (.ret (.tup [])) F (valM ⟨d,f a0 :: ar.map f,w,h,bits⟩ c caps) 4 ⟨Fz.r F,rfl,rfl,rfl,c,caps,rfl⟩ (zah _) rfl rfl (by simp [Out.below,SV.below]) (ziy _ _ _) ⟨Fz.r F,?_,?_,?_,tv⟩
  ·exact M _ rfl
  ·exact zlr (fun k=>rfl) n
  ·exact zqb n
theorem zkw {B:Nat} {caps:Nat → Nat} {t':List UInt8} {n:List Int}:∀ (j:Nat) (L:List Ln) (i:Nat),zbr B caps j (L.set i (t',n)) = (zbr B caps j L).set i [.str t',nA B (j + i) (caps (j + i)) n]
 |j,[],i=>by simp [zbr]
 |j,y :: r,0=>by
  rw [qaq,zbr,zbr,qaq]; rfl
 |j,y :: r,i + 1=>by
  rw [qcv,zbr,zbr,zkw (j + 1) r i,qcv];have:j + 1 + i = j + (i + 1):=by omega
  rw [this]
theorem zlo {caps:Nat → Nat} {t t':List UInt8} {n:List Int} {L:List Ln} {i:Nat} (h:L[i]? = some (t,n)):famE caps (L.set i (t',n)) = famE caps L:=by
 have a:(L.set i (t',n)).map (·.2) = L.map (·.2):=by
  rw [qbp];exact zod (by rw [qy,h]; rfl)
 unfold famE;rw [qbc,a]
theorem zq3 {caps:Nat → Nat} {c:Nat} {t':List UInt8} {n:List Int} {L:List Ln} {i:Nat} {a:List (List SA)} (b:L ≠ []) (h:a = (zbr 2 caps 0 L).set i [.str t',nA 2 i (caps i) n]) {μ:Mu} (g:∀ k,μ 2 k = (2,k)) :
  subE (some (.opt true (.arr 259 2 a c))) ((zbi 2 caps c (L.set i (t',n))).ren μ):=by
 have e:=zkw (B:=2) (caps:=caps) (t':=t') (n:=n) 0 L i;rw [q5] at e;rw [h,← e];have f:=za8 (B:=2) (B':=2) (caps:=caps) (c:=c) (l:=L.set i (t',n)) g
 have d:(!(L.set i (t',n)).isEmpty) = true:=by
  cases L with
  |nil=>exact absurd rfl b
  |cons x r=>cases i<;>rfl
 rw [zbi,d] at f;rw [zbi,d];exact f
def LFun (a:List UInt8 → List UInt8):Prop:=∀ (F:Fz) (s:List UInt8),s.length ≤ 70000 → (∀ b ∈ s,b.toNat < 128) → Fo Tryz.prog F 247 [.va (.str s)] (fun o c=>F = c ∧ o = .ret (.va (.str (a s))))
theorem z8s {e:List UInt8 → List UInt8} (l:LFun e) (F:Fz) (L:List Ln) (i c:Nat) (caps:Nat → Nat) (t:List UInt8) (n:List Int) (a:Int) (h:L[i]? = some (t,n)) (j:t.length ≤ 70000) (f:∀ b ∈ t,b.toNat < 128) :
  Ct Tryz.prog 188 [.va (.ptr ⟨1,0,i,2,0⟩),.va (.int .i64 a)] F [(1,zbi 2 caps c L),(2,famE caps L)] 3
   (stepK F c caps (L.set i (e t,n))):=by
 have d:=zea 2 caps 0 L i _ h;rw [q5] at d;have m:i < L.length:=(qi.1 h).1;rcases L with _ | ⟨a0,ar⟩
 ·exact absurd m (by simp)
 have g:∀ μ:Mu,subE (some (famE caps (a0 :: ar))) ((famE caps ((a0 :: ar).set i (e t,n))).ren μ):=fun μ=>by
  rw [zlo h]; exact zby
 refine ct_of hΘ Tryz.func188 rfl (by decide) _ _ rfl rfl rfl ?_;refine ⟨rfl,_,d,?_⟩;refine useFo (l F t j f) rfl ⟨rfl,tv⟩ rfl ?_;rintro _ _ o ⟨rfl,rfl⟩;refine ⟨rfl,_,d,?_⟩;refine clean [] (.ret (.tup [])) F [(1,zbi 2 caps c ((a0 :: ar).set i (e t,n))),(2,famE caps ((a0 :: ar).set i (e t,n)))] 3 ⟨Fz.r F,rfl,rfl,rfl,rfl⟩ (zah _) rfl rfl (by simp [Out.below,SV.below]) ⟨zaq (by omega) _ _ _,zaw _ _ _,tv⟩ ⟨Fz.r F,?_,?_,tv⟩
 ·exact zq3 (t':=e t) (n:=n) (by simp) rfl (fun k=>rfl)
 ·exact g _
def hasD:List UInt8 → Bool
 |a :: b :: r=>(a == 32 && b == 32) || hasD (b :: r)
 |_=>false
def repD:List UInt8 → List UInt8
 |a :: b :: r=>if a == 32 && b == 32 then 32 :: repD r else a :: repD (b :: r)
 |l=>l
theorem zou:∀ l:List UInt8,(repD l).length ≤ l.length
 |[]=>by simp [repD]
 |[a]=>by simp [repD]
 |a :: b :: r=>by
  rw [repD];have h1:=zou r;have c:=zou (b :: r);simp only [qh] at c;split<;>simp only [qh]<;>omega
theorem znt:∀ l:List UInt8,hasD l = true → (repD l).length < l.length
 |[],h=>by simp [hasD] at h
 |[a],h=>by simp [hasD] at h
 |a :: b :: r,h=>by
  rw [repD];by_cases c:(a == 32 && b == 32) = true
  ·rw [if_pos c];have h1:=zou r;simp only [qh]; omega
  ·rw [if_neg c];rw [hasD,yy] at h;have d:=znt (b :: r) (h.resolve_left c);simp only [qh] at d ⊢; omega
def spS:Nat → List UInt8 → List UInt8
 |0,s=>s
 |f + 1,s=>if hasD s then spS f (repD s) else s
theorem zof:∀ (f:Nat) (s:List UInt8),s.length ≤ f → spS f s = spS s.length s
 |0,s,h=>by
  have:s.length = 0:=by omega
  rw [this]
 |f + 1,s,h=>by
  rw [spS];by_cases a:hasD s = true
  ·rw [if_pos a];have d:=znt s a;rw [zof f (repD s) (by omega)];obtain ⟨m,b⟩:∃ m,s.length = m + 1:=⟨s.length - 1,by omega⟩
   rw [b,spS,if_pos a];by_cases c:m < f + 1
   ·exact (zof m (repD s) (by omega)).symm
   ·omega
  ·rw [if_neg a];cases e:s.length with
   |zero=>rfl
   |succ m=>rw [spS,if_neg a]
theorem z3m {s:List UInt8} (a:hasD s = true):spS s.length s = spS (repD s).length (repD s):=by
 have c:=znt s a;obtain ⟨m,b⟩:∃ m,s.length = m + 1:=⟨s.length - 1,by omega⟩
 rw [b,spS,if_pos a,zof m (repD s) (by omega)]
theorem ybe {s:List UInt8} (a:hasD s = false):spS s.length s = s:=by
 cases b:s.length with
 |zero=>rfl
 |succ m=>rw [spS,if_neg (by rw [a]; simp)]
def MLF (F:Fz):Prop:=∃ m,F 4 = some (.cells 3 [.int .i64 m])
theorem MLF.mono {F b:Fz} (h:MLF F) (a:Fz.le F b):MLF b:=let ⟨m,c⟩:=h; ⟨m,a _ _ c⟩
def DFun:Prop:=∀ (F:Fz) (s:List UInt8),MLF F → s.length ≤ 70000 → Fo Tryz.prog F 248 [.va (.str s),.va (.str [32,32])] (fun o a=>F = a ∧ o = .ret (.va (.bool (hasD s))))
def AFun:Prop:=∀ (F:Fz) (s:List UInt8),MLF F → s.length ≤ 70000 → Fo Tryz.prog F 249 [.va (.str s),.va (.str [32,32]),.va (.str [32])] (fun o a=>F = a ∧ o = .ret (.va (.str (repD s))))
theorem zrf {α:Type} {L:List α} (h:L ≠ []):∃ a r,L = a :: r:=by cases L with
 |nil=>exact absurd rfl h
 |cons a r=>exact ⟨a,r,rfl⟩
theorem yc5 {α:Type} {L:List α} (h:L ≠ []) (i:Nat) (x:α):L.set i x ≠ []:=by
 cases L with
 |nil=>exact absurd rfl h
 |cons a r=>cases i<;>simp
theorem zzx {μ:Mu} {caps:Nat → Nat} {l a:List Ln} (e:famE caps l = famE caps a):subE (some (famE caps l)) ((famE caps a).ren μ):=by
 rw [e]; exact zby
theorem zzl (V:DFun) (W:AFun) (F:Fz) (R:MLF F) (L:List Ln) (i c:Nat) (caps:Nat → Nat) (t:List UInt8) (n:List Int) (a:Int) (h:L[i]? = some (t,n)) (Y:t.length ≤ 70000) :
  Ct Tryz.prog 189 [.va (.ptr ⟨1,0,i,2,0⟩),.va (.int .i64 a)] F [(1,zbi 2 caps c L),(2,famE caps L)] 3
   (stepK F c caps (L.set i (spS t.length t,n))):=by
 have S:i < L.length:=(qi.1 h).1;rcases L with _ | ⟨a0,ar⟩
 ·exact absurd S (by simp)
 have O:a0 :: ar ≠ []:=by simp
 have T:∀ s,famE caps ((a0 :: ar).set i (s,n)) = famE caps (a0 :: ar):=fun s=>zlo h
 have I:(a0 :: ar).set i (t,n) = a0 :: ar:=zod h;have p:∀ s J,((a0 :: ar).set i (s,n)).set i (J,n) = (a0 :: ar).set i (J,n):=fun s J=>List.set_set ..
 have A:∀ s,((a0 :: ar).set i (s,n))[i]? = some (s,n):=fun s=>by rw [qcy,if_pos rfl,if_pos S]
 refine ct_of hΘ Tryz.func189 rfl (by decide) _ _ rfl rfl rfl ?_
 refine zam hΘ (X:={ x:List UInt8 × Ln × List Ln // x.2.1 :: x.2.2 = (a0 :: ar).set i (x.1,n) ∧ x.1.length ≤ t.length ∧ spS x.1.length x.1 = spS t.length t }) (fun _=>[]) [4,5,6,7,8,9,10,11,12,13,14,15,16]
  (fun x=>[(0,.frz F),(1,zbi 2 caps c (x.1.2.1 :: x.1.2.2)),(2,famE caps (x.1.2.1 :: x.1.2.2))]) 3 (fun x=>x.1.1.length) ⟨(t,a0,ar),I.symm,qm _,rfl⟩
  (fun G M=>leI [] G M rfl ⟨tv,zaq (by omega) _ _ _,zaw _ _ _,tv⟩ trivial ⟨Fz.r F,za8 (fun k=>rfl),zby (μ:=sig []) (caps:=caps) (l:=a0 :: ar),tv⟩) ?_
 rintro ⟨⟨s,o,m⟩,d,q,e⟩ G M;replace d:o :: m = (a0 :: ar).set i (s,n):=d;replace q:s.length ≤ t.length:=q;replace e:spS s.length s = spS t.length t:=e;have h1:(o :: m)[i]? = some (s,n):=by rw [d]; exact A s
 have b:=zea 2 caps 0 (o :: m) i _ h1;rw [q5] at b;have K:hasD s = true ∨ hasD s = false:=by cases hasD s<;>simp
 have f:∃ y B,(a0 :: ar).set i (repD s,n) = y :: B:=zrf (yc5 O _ _);obtain ⟨y,B,f⟩:=f;have j:(o :: m).set i (repD s,n) = y :: B:=by rw [d,p,f]
 have D:famE caps (o :: m) = famE caps (y :: B):=by rw [← j,zlo h1]
 refine ⟨rfl,_,b,?_⟩;refine useFo (V F s R (by omega)) rfl ⟨rfl,rfl,tv⟩ rfl ?_;rintro _ _ l1 ⟨rfl,rfl⟩;refine br (fun g=>?_) (fun g=>?_)
 ·have g:hasD s = true:=g;have E:=znt s g;have w:=z3m g;refine ⟨rfl,_,b,?_⟩;refine useFo (W F s R (by omega)) rfl ⟨rfl,rfl,rfl,tv⟩ rfl ?_;rintro _ _ Z ⟨rfl,rfl⟩;refine ⟨rfl,_,b,?_⟩
  refine ⟨⟨(repD s,y,B),f.symm,by show (repD s).length ≤ t.length; omega,by show spS (repD s).length (repD s) = _; rw [← w]; exact e⟩,E,
   leR [] G M rfl ⟨tv,zaq (by omega) _ _ _,zaw _ _ _,tv⟩ trivial ⟨Fz.r _,?_,zzx D,tv⟩⟩
  have Q:=zq3 (caps:=caps) (c:=c) (t':=repD s) (n:=n) (L:=o :: m) (i:=i) (by simp) rfl (μ:=sig []) (fun k=>rfl);rw [j] at Q;exact Q
 ·have g:hasD s = false:=g;have U:s = spS t.length t:=by rw [← e]; exact (ybe g).symm
  have u:o :: m = (a0 :: ar).set i (spS t.length t,n):=by rw [d,← U]
  refine clean [] (.ret (.tup [])) F [(1,zbi 2 caps c ((a0 :: ar).set i (spS t.length t,n))),(2,famE caps ((a0 :: ar).set i (spS t.length t,n)))] 3 ⟨Fz.r F,rfl,rfl,rfl,rfl⟩ (zah _) rfl rfl (by simp [Out.below,SV.below]) ⟨zaq (by omega) _ _ _,zaw _ _ _,tv⟩ ⟨Fz.r F,?_,?_,tv⟩
  ·exact zlr (fun k=>rfl) u
  ·exact zqb u
theorem zi7 {w:Int} (b:0 ≤ w ∧ w ≤ 1000000):IntKind.i64.wrap ((IntKind.i64.wrap (w + 1)).tdiv 2) = (w + 1) / 2 ∧ (IntKind.i64.wrap (w + 1)).tdiv 2 = (w + 1) / 2:=by
 have h1:IntKind.i64.wrap (w + 1) = w + 1:=zaj (by omega) (by omega);have a:(w + 1).tdiv 2 = (w + 1) / 2:=jq (by omega);rw [h1,a];exact ⟨zaj (by omega) (by omega),rfl⟩
theorem zps (F:Fz) (w h:Int) (a:Int) (c:Nat) (caps:Nat → Nat) (e:0 ≤ w ∧ w ≤ 1000000) (g:0 ≤ h ∧ h ≤ 1000000) :
  Ct Tryz.prog 194 [.va (.ptr ⟨1,0,0,0,0⟩),.va (.int .i64 a)] F (valM ⟨false,[],w,h,[]⟩ c caps) 4 (stepV F ⟨false,[],(w + 1) / 2,(h + 1) / 2,[]⟩):=by
 have f:∀ d b,d = (w + 1) / 2 → b = (h + 1) / 2 → subE (some (valE ⟨false,[],d,b,[]⟩ 2 c)) ((valE ⟨false,[],(w + 1) / 2,(h + 1) / 2,[]⟩ 2 c).ren (sig [])):=by
  intro d b j i; subst j; subst i; rfl
 refine ct_of hΘ Tryz.func194 rfl (by decide) _ _ rfl rfl rfl ?_;refine drawP hΘ mixed (lk [0,1,2,3,4,5,6,7,8,9,10,11,12,13] .done) [1] (by kernel_rfl) ?_;conv=>whnf
 repeat' ((conv=>whnf); first
  |refine ⟨rfl,?_⟩
  |refine ⟨Fz.r _,rfl,?_⟩
  |refine ⟨Fz.r _,rfl,rfl,?_⟩
  |refine ⟨⟨by simp,by simp⟩,?_⟩
  |fail)
 refine ⟨(by omega),?_⟩;conv=>whnf
 repeat' ((conv=>whnf); first
  |refine ⟨rfl,?_⟩
  |refine ⟨Fz.r _,rfl,?_⟩
  |refine ⟨Fz.r _,rfl,rfl,?_⟩
  |refine ⟨⟨by simp,by simp⟩,?_⟩
  |fail)
 refine ⟨(by omega),?_⟩;conv=>whnf
 refine brd (by simp) ?_;refine clean [] (.ret (.tup [])) F (valM ⟨false,[],(w + 1) / 2,(h + 1) / 2,[]⟩ c caps) 4 ⟨Fz.r F,rfl,rfl,rfl,c,caps,rfl⟩ (zah _) rfl rfl (by simp [Out.below,SV.below]) (ziy _ _ _) ⟨Fz.r F,?_,tv⟩
 first
 |exact f _ _ (zi7 e).1 (zi7 g).1
 |exact f _ _ (zi7 e).2 (zi7 g).2
end Go.Proofs.YtfnkamphhpldcaaGreatDoor
