import Derived.Test.YtfnkamphhpldcaaGreatDoorK37
set_option maxHeartbeats 64000000
namespace Go.Proofs.YtfnkamphhpldcaaGreatDoor
open Go Sx
set_option maxRecDepth 100000
abbrev docB (d c:Bool) (l b k a:Nat) (w:Int) (s:List UInt8):SB:=.cells 41 [.slice d 2 0 0 2 l b,.slice c 3 0 0 6 k a,.int .i64 w,.str s]
abbrev docL (d c:Bool) (l b k a:Nat) (w:Int) (s:List UInt8):Ent:=.one (docB d c l b k a w s)
theorem za3 {n:Nat} (h:3 < n) (f e:Bool) (l d k c:Nat) (w:Int) (s:List UInt8):(docL f e l d k c w s).below n:=by
 intro a b;simp only [qj,qs,or_false] at b;rcases b with rfl | rfl | rfl | rfl
 ·exact .inr (by omega)
 ·exact .inr h
 ·trivial
 ·trivial
def mxl {α:Type} (A B:List α) (k:Nat):List α:=A.take k ++ B.drop k
theorem znz {α:Type} {A B:List α} (h:A.length = B.length) (k:Nat):(mxl A B k).length = B.length:=by
 unfold mxl; rw [qd,qq,yu]; omega
theorem zfy {α:Type} (A B:List α):mxl A B 0 = B:=by simp [mxl]
theorem zhm {α:Type} {A B:List α} (h:A.length = B.length):mxl A B B.length = A:=by
 unfold mxl; rw [List.drop_length,jm,← h,yt]
theorem zy6 {α:Type} {A B:List α} (h:A.length = B.length) {k:Nat} (a:k < B.length):(mxl A B k)[k]? = some B[k]:=by
 unfold mxl;rw [jy (by rw [qq]; omega),qq,qag];rw [show k + (k - min k A.length) = k by omega,qe a]
theorem zza {α:Type} {A B:List α} (h:A.length = B.length) {k:Nat} (a:k < B.length):(mxl A B k).set k (A[k]'(by omega)) = mxl A B (k + 1):=by
 unfold mxl;rw [qbf _ _ (by rw [qq]; omega),qq,show k - min k A.length = 0 by omega,qx a,qaq,qg (show k < A.length by omega),ql]; rfl
theorem zf5 {α:Type} {A:List α} {a0:α} {ar:List α} (h:A.length = (a0 :: ar).length) (k:Nat):∃ a c,a :: c = mxl A (a0 :: ar) k:=by
 have h:=znz h k;cases b:mxl A (a0 :: ar) k with
 |nil=>rw [b] at h; simp at h
 |cons x r=>exact ⟨x,r,rfl⟩
theorem zj8 {α:Type} {e:α → List SA} {A B L:List α} (h:A.length = B.length) {k:Nat} (a:k < B.length) (b:L = mxl A B k):(L.map e)[0 + (k:Int).toNat]? = some (e B[k]):=by
 subst b;rw [qp,q5,qy,zy6 h a]; rfl
theorem zf6 {α:Type} {e:α → List SA} {A B L:List α} (h:A.length = B.length) {k:Nat} (b:k < B.length) (c:L = mxl A B k) {x:List SA} (a:x = e (A[k]'(by omega))):(L.map e).set (0 + (k:Int).toNat) x = (mxl A B (k + 1)).map e:=by
 subst c a;rw [qp,q5,← zza h b,qbp]
theorem znm {α:Type} {e:α → List SA} {A B L:List α} (h:A.length = B.length) {k:Nat} (a:k < B.length) (b:L = mxl A B k) {y:List SA}:((L.map e).set (0 + (k:Int).toNat) y)[0 + (k:Int).toNat]? = some y:=by
 rw [qp,q5,qb9];rw [qa,b,znz h]; exact a
theorem zli {α:Type} (l:List α) (k:Nat) (x y:α):(l.set k x).set k y = l.set k y:=by simp
theorem rw_op {α:Type} {t sz:Nat} {e:α → List SA} {c:Nat} {b q:Bool} {L:List (List SA)} {l:List α} (a:b = !q) (h:L = l.map e):subE (some (.opt b (.arr t sz L c))) (rwE q t sz e c l):=by
 subst a h; exact ⟨rfl,rfl⟩
theorem rw_of {α:Type} {q:Bool} {t sz:Nat} {e:α → List SA} {c:Nat} {l a:List α} (h:l = a):subE (some (rwE q t sz e c l)) (rwE q t sz e c a):=by
 subst h; exact zao _ _ _ _ _
abbrev hpL (d c:Bool) (b a:Nat) (L:List DLn) (K:List Cel) (w:Int) (s:List UInt8):List (Nat × Ent):=[(1,docL d c L.length b K.length a w s),(2,rwE d 148 2 encN b L),(3,rwE c 151 6 encK a K)]
theorem zbx {n:Nat} (h:3 < n) (d c:Bool) (b a:Nat) (L:List DLn) (K:List Cel) (w:Int) (s:List UInt8):bH n (hpL d c b a L K w s):=
 ⟨za3 h _ _ _ _ _ _ _ _,zan zal _ _ _ _ _ _,zan zad _ _ _ _ _ _,tv⟩
theorem zdk {α:Type} {q:Bool} {a:α} {l:List α} (h:q = true → a :: l = []):q = false:=by cases q with
 |true=>cases h rfl
 |false=>rfl
abbrev finL (d c:Bool) (b a:Nat) (L:List DLn) (K:List Cel) (w:Int) (s:List UInt8):Out → Fz → List (Nat × Ent) → Nat → Prop:=fun o f e n0=>n0 = 4 ∧ o = .ret (.tup []) ∧ e = hpL d c b a L K w s
abbrev setL (n:Nat) (l:DLn):DLn:=if n = 1 then ([],l.2) else (l.1,0)
theorem z03 (F:Fz) (n f:Bool) (d c:Nat) (L A:List DLn) (K:List Cel) (w:Int) (s:List UInt8) (Q:n = true → L = []) (R:L.length ≤ 1000) (I:A = L.map (setL 1)) :
  Ct Tryz.prog 89 [.va .nilptr,.va (.ptr ⟨1,0,0,0,0⟩)] F (hpL n f d c L K w s) 4 (finL n f d c A K w s):=by
 have a:A.length = L.length:=by rw [I,qa]
 have D:∀ k (h:k < L.length),A[k]'(by omega) = setL 1 L[k]:=fun k h=>by subst I; rw [yr]
 clear I;rcases L with _ | ⟨a0,ar⟩
 ·obtain rfl:A = []:=jv a;refine ct_of hΘ Tryz.func89 rfl (by decide) _ _ rfl rfl rfl ?_
  refine zam hΘ (X:=Unit) (fun x=>[(11,.va (.int .i64 0))]) [3,12,13,14,15,16,17,18,19,20,21,22,23,24,25,26,27,28]
   (fun x=>[(0,.frz F),(1,docL n f 0 d K.length c w s),(2,rwE n 148 2 encN d []),(3,rwE f 151 6 encK c K)]) 4 (fun x=>0) ()
   (fun l m=>leI [] l m rfl ⟨tv,za3 (by omega) _ _ _ _ _ _ _ _,zan zal _ _ _ _ _ _,zan zad _ _ _ _ _ _,tv⟩ ⟨rfl,tv⟩ ⟨Fz.r F,rfl,zar zal (zao _ _ _ _ _),zar zad (zao _ _ _ _ _),tv⟩) ?_
  rintro ⟨⟩ l m;refine brd (by decide) ?_;exact clean [] (.ret (.tup [])) F (hpL n f d c [] K w s) 4 ⟨Fz.r F,rfl,rfl,rfl⟩ (zah _) rfl rfl (by simp [Out.below,SV.below]) (zbx (by omega) _ _ _ _ _ _ _ _) ⟨Fz.r F,rfl,zar zal (zao _ _ _ _ _),zar zad (zao _ _ _ _ _),tv⟩
 ·obtain rfl:=zdk Q;refine ct_of hΘ Tryz.func89 rfl (by decide) _ _ rfl rfl rfl ?_
  refine zam hΘ (X:={ y:Nat × DLn × List DLn // y.1 ≤ ar.length + 1 ∧ y.2.1 :: y.2.2 = mxl A (a0 :: ar) y.1 }) (fun y=>[(11,.va (.int .i64 y.1.1))]) [3,12,13,14,15,16,17,18,19,20,21,22,23,24,25,26,27,28]
   (fun y=>[(0,.frz F),(1,docL false f (ar.length + 1) d K.length c w s),(2,rwE false 148 2 encN d (y.1.2.1 :: y.1.2.2)),(3,rwE f 151 6 encK c K)]) 4 (fun y=>ar.length + 1 - y.1.1) ⟨(0,a0,ar),yj _,(zfy _ _).symm⟩
   (fun l m=>leI [] l m rfl ⟨tv,za3 (by omega) _ _ _ _ _ _ _ _,zan zal _ _ _ _ _ _,zan zad _ _ _ _ _ _,tv⟩ ⟨rfl,tv⟩ ⟨Fz.r F,rfl,zar zal (zao _ _ _ _ _),zar zad (zao _ _ _ _ _),tv⟩) ?_
  rintro ⟨⟨k,M,E⟩,J,b⟩ l m;replace J:k ≤ ar.length + 1:=J;replace b:M :: E = mxl A (a0 :: ar) k:=b
  have O:E.length = ar.length:=by
   have:=znz a k;rw [← b] at this;simpa using this
  by_cases g:k < ar.length + 1
  ·have B:(k:Int) < ((ar.length + 1:Nat):Int):=by omega
   have u:ar.length + 1 - (k + 1) < ar.length + 1 - k:=by omega
   have q:k < 4611686018427387904:=by have:ar.length + 1 ≤ 1000:=R; omega
   have G:=zj8 (e:=encN) a g b;have j:=fun x=>zf6 (e:=encN) (x:=x) a g b
   rw [D k g] at j;have S:=zf5 a (k + 1);obtain ⟨T,U,o⟩:=S;rw [← o] at j;refine bri B ?_;refine ⟨rfl,⟨jt k,B⟩,rfl,_,G,?_⟩
   exact ⟨⟨(k + 1,T,U),g,o⟩,u,leR [] l m rfl ⟨tv,za3 (by omega) _ _ _ _ _ _ _ _,zan zal _ _ _ _ _ _,zan zad _ _ _ _ _ _,tv⟩ ⟨cnt q,tv⟩
    ⟨Fz.r F,rfl,zar zal (rw_op rfl (j _ rfl)),zar zad (zao _ _ _ _ _),tv⟩⟩
  ·have B:¬ (k:Int) < ((ar.length + 1:Nat):Int):=by omega
   have p:M :: E = A:=by
    rw [b,show k = (a0 :: ar).length by show k = ar.length + 1; omega,zhm a]
   have i:docB false f (ar.length + 1) d K.length c w s = (docB false f A.length d K.length c w s).ren (sig []):=by rw [a]; rfl
   refine brj B ?_
   exact clean [] (.ret (.tup [])) F (hpL false f d c A K w s) 4 ⟨Fz.r F,rfl,rfl,rfl⟩ (zah _) rfl rfl (by simp [Out.below,SV.below]) (zbx (by omega) _ _ _ _ _ _ _ _)
    ⟨Fz.r F,i,zar zal (rw_of p),zar zad (zao _ _ _ _ _),tv⟩
theorem z0s (F:Fz) (n f:Bool) (d c:Nat) (L A:List DLn) (K:List Cel) (w:Int) (s:List UInt8) (Q:n = true → L = []) (R:L.length ≤ 1000) (I:A = L.map (setL 2)) :
  Ct Tryz.prog 92 [.va .nilptr,.va (.ptr ⟨1,0,0,0,0⟩)] F (hpL n f d c L K w s) 4 (finL n f d c A K w s):=by
 have a:A.length = L.length:=by rw [I,qa]
 have D:∀ k (h:k < L.length),A[k]'(by omega) = setL 2 L[k]:=fun k h=>by subst I; rw [yr]
 clear I;rcases L with _ | ⟨a0,ar⟩
 ·obtain rfl:A = []:=jv a;refine ct_of hΘ Tryz.func92 rfl (by decide) _ _ rfl rfl rfl ?_
  refine zam hΘ (X:=Unit) (fun x=>[(11,.va (.int .i64 0))]) [3,12,13,14,15,16,17,18,19,20,21,22,23,24,25,26,27,28]
   (fun x=>[(0,.frz F),(1,docL n f 0 d K.length c w s),(2,rwE n 148 2 encN d []),(3,rwE f 151 6 encK c K)]) 4 (fun x=>0) ()
   (fun l m=>leI [] l m rfl ⟨tv,za3 (by omega) _ _ _ _ _ _ _ _,zan zal _ _ _ _ _ _,zan zad _ _ _ _ _ _,tv⟩ ⟨rfl,tv⟩ ⟨Fz.r F,rfl,zar zal (zao _ _ _ _ _),zar zad (zao _ _ _ _ _),tv⟩) ?_
  rintro ⟨⟩ l m;refine brd (by decide) ?_;exact clean [] (.ret (.tup [])) F (hpL n f d c [] K w s) 4 ⟨Fz.r F,rfl,rfl,rfl⟩ (zah _) rfl rfl (by simp [Out.below,SV.below]) (zbx (by omega) _ _ _ _ _ _ _ _) ⟨Fz.r F,rfl,zar zal (zao _ _ _ _ _),zar zad (zao _ _ _ _ _),tv⟩
 ·obtain rfl:=zdk Q;refine ct_of hΘ Tryz.func92 rfl (by decide) _ _ rfl rfl rfl ?_
  refine zam hΘ (X:={ y:Nat × DLn × List DLn // y.1 ≤ ar.length + 1 ∧ y.2.1 :: y.2.2 = mxl A (a0 :: ar) y.1 }) (fun y=>[(11,.va (.int .i64 y.1.1))]) [3,12,13,14,15,16,17,18,19,20,21,22,23,24,25,26,27,28]
   (fun y=>[(0,.frz F),(1,docL false f (ar.length + 1) d K.length c w s),(2,rwE false 148 2 encN d (y.1.2.1 :: y.1.2.2)),(3,rwE f 151 6 encK c K)]) 4 (fun y=>ar.length + 1 - y.1.1) ⟨(0,a0,ar),yj _,(zfy _ _).symm⟩
   (fun l m=>leI [] l m rfl ⟨tv,za3 (by omega) _ _ _ _ _ _ _ _,zan zal _ _ _ _ _ _,zan zad _ _ _ _ _ _,tv⟩ ⟨rfl,tv⟩ ⟨Fz.r F,rfl,zar zal (zao _ _ _ _ _),zar zad (zao _ _ _ _ _),tv⟩) ?_
  rintro ⟨⟨k,M,E⟩,J,b⟩ l m;replace J:k ≤ ar.length + 1:=J;replace b:M :: E = mxl A (a0 :: ar) k:=b
  have O:E.length = ar.length:=by
   have:=znz a k;rw [← b] at this;simpa using this
  by_cases g:k < ar.length + 1
  ·have B:(k:Int) < ((ar.length + 1:Nat):Int):=by omega
   have u:ar.length + 1 - (k + 1) < ar.length + 1 - k:=by omega
   have q:k < 4611686018427387904:=by have:ar.length + 1 ≤ 1000:=R; omega
   have G:=zj8 (e:=encN) a g b;have j:=fun x=>zf6 (e:=encN) (x:=x) a g b
   rw [D k g] at j;have S:=zf5 a (k + 1);obtain ⟨T,U,o⟩:=S;rw [← o] at j;refine bri B ?_;refine ⟨rfl,⟨jt k,B⟩,rfl,_,G,?_⟩
   exact ⟨⟨(k + 1,T,U),g,o⟩,u,leR [] l m rfl ⟨tv,za3 (by omega) _ _ _ _ _ _ _ _,zan zal _ _ _ _ _ _,zan zad _ _ _ _ _ _,tv⟩ ⟨cnt q,tv⟩
    ⟨Fz.r F,rfl,zar zal (rw_op rfl (j _ rfl)),zar zad (zao _ _ _ _ _),tv⟩⟩
  ·have B:¬ (k:Int) < ((ar.length + 1:Nat):Int):=by omega
   have p:M :: E = A:=by
    rw [b,show k = (a0 :: ar).length by show k = ar.length + 1; omega,zhm a]
   have i:docB false f (ar.length + 1) d K.length c w s = (docB false f A.length d K.length c w s).ren (sig []):=by rw [a]; rfl
   refine brj B ?_
   exact clean [] (.ret (.tup [])) F (hpL false f d c A K w s) 4 ⟨Fz.r F,rfl,rfl,rfl⟩ (zah _) rfl rfl (by simp [Out.below,SV.below]) (zbx (by omega) _ _ _ _ _ _ _ _)
    ⟨Fz.r F,i,zar zal (rw_of p),zar zad (zao _ _ _ _ _),tv⟩
abbrev hpR (d c:Bool) (b a:Nat) (L:List DLn) (K:List Cel) (w:Int) (s bs:List UInt8) (p:Int):List (Nat × Ent):=[(1,docL d c L.length b K.length a w s),(2,rwE d 148 2 encN b L),(3,rwE c 151 6 encK a K),(4,mrd bs p)]
abbrev finR (d c:Bool) (b a:Nat) (L:List DLn) (K:List Cel) (w:Int) (s:List UInt8):Out → Fz → List (Nat × Ent) → Nat → Prop:=fun o f e n0=>n0 = 5 ∧ o = .ret (.tup []) ∧ e = [(1,docL d c L.length b K.length a w s),(2,rwE d 148 2 encN b L),(3,rwE c 151 6 encK a K),(4,.gone)]
theorem zeu {n:Nat} (h:3 < n) {l e:Nat} (d c:Bool) (b a:Nat) (L:List DLn) (K:List Cel) (w:Int) (s:List UInt8):bH n [(1,docL d c l b e a w s),(2,rwE d 148 2 encN b L),(3,rwE c 151 6 encK a K),(4,.gone)]:=
 ⟨za3 h _ _ _ _ _ _ _ _,zan zal _ _ _ _ _ _,zan zad _ _ _ _ _ _,tv,tv⟩
theorem zs2 {α:Type} {A B L:List α} (h:A.length = B.length) {k:Nat} (a:k < B.length) (c:L = mxl A B k) (e:A[k]'(by omega) = B[k]):L = mxl A B (k + 1):=by
 rw [c,← zza h a,e];have h1:=zy6 h a;obtain ⟨d,b⟩:=qi.1 h1;rw [← b,List.set_getElem_self]
theorem ydf {bs:List UInt8} {p a:Int} (h:a = p) {μ:Mu}:SB.cells 228 [.str bs,.int .i64 p] = SB.ren μ (.cells 228 [.str bs,.int .i64 a]):=by subst h; rfl
theorem zw3 {α:Type} (l:List α) (k:Nat) (x y z:α):((l.set k x).set k y).set k z = l.set k z:=by simp
theorem z3g (F:Fz) (m f:Bool) (d c:Nat) (L A:List DLn) (K:List Cel) (w:Int) (s bs:List UInt8) (q:Nat → Int) (z:Int) (Z:m = true → L = []) (hl:L.length ≤ 1000) (a:A.length = L.length)
  (W:bs.length ≤ 1000000000000000000) (hi:∀ k,i64 (q k)) (Q:getI bs 0 = (z,q 0,0)) (hr:∀ k (h:k < L.length),getS bs (q k) = ((A[k]'(by omega)).1,q (k + 1),0) ∧ (A[k]'(by omega)).2 = (L[k]'h).2) :
  Ct Tryz.prog 89 [.va (.ptr ⟨4,0,0,0,0⟩),.va (.ptr ⟨1,0,0,0,0⟩)] F (hpR m f d c L K w s bs 0) 5 (finR m f d c A K w s):=by
 have J:=zf2 F bs 0 z (q 0) W ⟨by decide,by decide⟩ Q;rcases L with _ | ⟨a0,ar⟩
 ·obtain rfl:A = []:=jv a;refine ct_of hΘ Tryz.func89 rfl (by decide) _ _ rfl rfl rfl ?_;refine use J [(1,4)] rfl ⟨rfl,tv⟩ rfl ⟨zbf bs _,tv⟩ (by simp [SV.below,SA.below]) ⟨rfl,tv⟩ ?_;rintro i F1 Q n0 Y ⟨rfl,rfl,rfl,rfl⟩
  refine zam hΘ (X:=Unit) (fun x=>[(11,.va (.int .i64 0))]) [3,12,13,14,15,16,17,18,19,20,21,22,23,24,25,26,27,28]
   (fun x=>[(0,.frz F),(1,docL m f 0 d K.length c w s),(2,rwE m 148 2 encN d []),(3,rwE f 151 6 encK c K)]) 5 (fun x=>0) ()
   (fun o p=>leI [] o p rfl ⟨tv,za3 (by omega) _ _ _ _ _ _ _ _,zan zal _ _ _ _ _ _,zan zad _ _ _ _ _ _,tv⟩ ⟨rfl,tv⟩ ⟨Fz.r F,rfl,zar zal (zao _ _ _ _ _),zar zad (zao _ _ _ _ _),tv⟩) ?_
  rintro ⟨⟩ o p;refine brd (by decide) ?_;exact clean [] (.ret (.tup [])) F [(1,docL m f 0 d K.length c w s),(2,rwE m 148 2 encN d []),(3,rwE f 151 6 encK c K),(4,.gone)] 5 ⟨Fz.r F,rfl,rfl,rfl⟩ (zah _) rfl rfl (by simp [Out.below,SV.below]) (zeu (n:=5) (by omega) _ _ _ _ _ _ _ _) ⟨Fz.r F,rfl,zar zal (zao _ _ _ _ _),zar zad (zao _ _ _ _ _),tv⟩
 ·obtain rfl:=zdk Z;refine ct_of hΘ Tryz.func89 rfl (by decide) _ _ rfl rfl rfl ?_;refine use J [(1,4)] rfl ⟨rfl,tv⟩ rfl ⟨zbf bs _,tv⟩ (by simp [SV.below,SA.below]) ⟨rfl,tv⟩ ?_;rintro i F1 Q n0 Y ⟨rfl,rfl,rfl,rfl⟩
  refine zam hΘ (X:={ y:Nat × DLn × List DLn // y.1 ≤ ar.length + 1 ∧ y.2.1 :: y.2.2 = mxl A (a0 :: ar) y.1 }) (fun y=>[(11,.va (.int .i64 y.1.1))]) [3,12,13,14,15,16,17,18,19,20,21,22,23,24,25,26,27,28]
   (fun y=>[(0,.frz F),(1,docL false f (ar.length + 1) d K.length c w s),(2,rwE false 148 2 encN d (y.1.2.1 :: y.1.2.2)),(3,rwE f 151 6 encK c K),(4,mrd bs (q y.1.1))]) 5 (fun y=>ar.length + 1 - y.1.1) ⟨(0,a0,ar),yj _,(zfy _ _).symm⟩
   (fun o p=>leI [] o p rfl ⟨tv,za3 (by omega) _ _ _ _ _ _ _ _,zan zal _ _ _ _ _ _,zan zad _ _ _ _ _ _,zbf bs _,tv⟩ ⟨rfl,tv⟩ ⟨Fz.r F,rfl,zar zal (zao _ _ _ _ _),zar zad (zao _ _ _ _ _),rfl,tv⟩) ?_
  rintro ⟨⟨k,V,T⟩,U,b⟩ o p;replace U:k ≤ ar.length + 1:=U;replace b:V :: T = mxl A (a0 :: ar) k:=b;by_cases g:k < ar.length + 1
  ·have O:(k:Int) < ((ar.length + 1:Nat):Int):=by omega
   have G:ar.length + 1 - (k + 1) < ar.length + 1 - k:=by omega
   have E:k < 4611686018427387904:=by have:ar.length + 1 ≤ 1000:=hl; omega
   have R:=zj8 (e:=encN) a g b;have I:=fun x=>zf6 (e:=encN) (x:=x) a g b
   have M:=hr k g;have h2:=zf5 a (k + 1);obtain ⟨a2,r2,u⟩:=h2;rw [← u] at I;have l:=z0f F bs (q k) (q (k + 1)) _ W (hi k) M.1
   have S:[SA.str (A[k]'(by rw [a]; exact g)).1,.int .i64 ((a0 :: ar)[k]'g).2] = encN (A[k]'(by rw [a]; exact g)):=by
    rw [← M.2]; rfl
   have D:=fun x=>znm (e:=encN) (y:=x) a g b
   refine bri O ?_;refine ⟨rfl,⟨jt k,O⟩,rfl,_,R,?_⟩;refine drawP hΘ mixed (lk [0,1,2,3] (.alt 4 (.look 5 (.look 6 (.alt 7 .done .nil))) .nil)) [1] (by kernel_rfl) ?_;refine ⟨rfl,?_⟩;refine use l [(1,4)] rfl ⟨rfl,tv⟩ rfl ⟨zbf bs _,tv⟩ (by simp [SV.below,SA.below]) ⟨rfl,tv⟩ ?_;rintro i F1 Q n0 Y ⟨rfl,rfl,rfl,rfl⟩;refine ⟨Fz.r F,rfl,rfl,⟨jt k,O⟩,rfl,_,D _,Fz.r F,rfl,?_⟩
   exact ⟨⟨(k + 1,a2,r2),g,u⟩,G,leR [] o p rfl ⟨tv,za3 (by omega) _ _ _ _ _ _ _ _,zan zal _ _ _ _ _ _,zan zad _ _ _ _ _ _,zbf bs _,tv⟩ ⟨cnt E,tv⟩
    ⟨Fz.r F,rfl,zar zal (rw_op rfl ((zli _ _ _ _).trans (I _ S))),zar zad (zao _ _ _ _ _),rfl,tv⟩⟩
  ·have O:¬ (k:Int) < ((ar.length + 1:Nat):Int):=by omega
   have B:V :: T = A:=by
    rw [b,show k = (a0 :: ar).length by show k = ar.length + 1; omega,zhm a]
   have j:docB false f (ar.length + 1) d K.length c w s = (docB false f A.length d K.length c w s).ren (sig []):=by rw [a]; rfl
   refine brj O ?_
   exact clean [] (.ret (.tup [])) F [(1,docL false f A.length d K.length c w s),(2,rwE false 148 2 encN d A),(3,rwE f 151 6 encK c K),(4,.gone)] 5 ⟨Fz.r F,rfl,rfl,rfl⟩ (zah _) rfl rfl (by simp [Out.below,SV.below]) (zeu (n:=5) (by omega) _ _ _ _ _ _ _ _)
    ⟨Fz.r F,j,zar zal (rw_of B),zar zad (zao _ _ _ _ _),tv⟩
theorem z5r (F:Fz) (m f:Bool) (d c:Nat) (L A:List DLn) (K:List Cel) (w:Int) (s bs:List UInt8) (q:Nat → Int) (z:Int) (Z:m = true → L = []) (hl:L.length ≤ 1000) (a:A.length = L.length)
  (W:bs.length ≤ 1000000000000000000) (hi:∀ k,i64 (q k)) (Q:getI bs 0 = (z,q 0,0)) (hr:∀ k (h:k < L.length),getI bs (q k) = ((A[k]'(by omega)).2,q (k + 1),0) ∧ (A[k]'(by omega)).1 = (L[k]'h).1) :
  Ct Tryz.prog 92 [.va (.ptr ⟨4,0,0,0,0⟩),.va (.ptr ⟨1,0,0,0,0⟩)] F (hpR m f d c L K w s bs 0) 5 (finR m f d c A K w s):=by
 have J:=zf2 F bs 0 z (q 0) W ⟨by decide,by decide⟩ Q;rcases L with _ | ⟨a0,ar⟩
 ·obtain rfl:A = []:=jv a;refine ct_of hΘ Tryz.func92 rfl (by decide) _ _ rfl rfl rfl ?_;refine use J [(1,4)] rfl ⟨rfl,tv⟩ rfl ⟨zbf bs _,tv⟩ (by simp [SV.below,SA.below]) ⟨rfl,tv⟩ ?_;rintro i F1 Q n0 Y ⟨rfl,rfl,rfl,rfl⟩
  refine zam hΘ (X:=Unit) (fun x=>[(11,.va (.int .i64 0))]) [3,12,13,14,15,16,17,18,19,20,21,22,23,24,25,26,27,28]
   (fun x=>[(0,.frz F),(1,docL m f 0 d K.length c w s),(2,rwE m 148 2 encN d []),(3,rwE f 151 6 encK c K)]) 5 (fun x=>0) ()
   (fun o p=>leI [] o p rfl ⟨tv,za3 (by omega) _ _ _ _ _ _ _ _,zan zal _ _ _ _ _ _,zan zad _ _ _ _ _ _,tv⟩ ⟨rfl,tv⟩ ⟨Fz.r F,rfl,zar zal (zao _ _ _ _ _),zar zad (zao _ _ _ _ _),tv⟩) ?_
  rintro ⟨⟩ o p;refine brd (by decide) ?_;exact clean [] (.ret (.tup [])) F [(1,docL m f 0 d K.length c w s),(2,rwE m 148 2 encN d []),(3,rwE f 151 6 encK c K),(4,.gone)] 5 ⟨Fz.r F,rfl,rfl,rfl⟩ (zah _) rfl rfl (by simp [Out.below,SV.below]) (zeu (n:=5) (by omega) _ _ _ _ _ _ _ _) ⟨Fz.r F,rfl,zar zal (zao _ _ _ _ _),zar zad (zao _ _ _ _ _),tv⟩
 ·obtain rfl:=zdk Z;refine ct_of hΘ Tryz.func92 rfl (by decide) _ _ rfl rfl rfl ?_;refine use J [(1,4)] rfl ⟨rfl,tv⟩ rfl ⟨zbf bs _,tv⟩ (by simp [SV.below,SA.below]) ⟨rfl,tv⟩ ?_;rintro i F1 Q n0 Y ⟨rfl,rfl,rfl,rfl⟩
  refine zam hΘ (X:={ y:Nat × DLn × List DLn // y.1 ≤ ar.length + 1 ∧ y.2.1 :: y.2.2 = mxl A (a0 :: ar) y.1 }) (fun y=>[(11,.va (.int .i64 y.1.1))]) [3,12,13,14,15,16,17,18,19,20,21,22,23,24,25,26,27,28]
   (fun y=>[(0,.frz F),(1,docL false f (ar.length + 1) d K.length c w s),(2,rwE false 148 2 encN d (y.1.2.1 :: y.1.2.2)),(3,rwE f 151 6 encK c K),(4,mrd bs (q y.1.1))]) 5 (fun y=>ar.length + 1 - y.1.1) ⟨(0,a0,ar),yj _,(zfy _ _).symm⟩
   (fun o p=>leI [] o p rfl ⟨tv,za3 (by omega) _ _ _ _ _ _ _ _,zan zal _ _ _ _ _ _,zan zad _ _ _ _ _ _,zbf bs _,tv⟩ ⟨rfl,tv⟩ ⟨Fz.r F,rfl,zar zal (zao _ _ _ _ _),zar zad (zao _ _ _ _ _),rfl,tv⟩) ?_
  rintro ⟨⟨k,V,T⟩,U,b⟩ o p;replace U:k ≤ ar.length + 1:=U;replace b:V :: T = mxl A (a0 :: ar) k:=b;by_cases g:k < ar.length + 1
  ·have O:(k:Int) < ((ar.length + 1:Nat):Int):=by omega
   have G:ar.length + 1 - (k + 1) < ar.length + 1 - k:=by omega
   have E:k < 4611686018427387904:=by have:ar.length + 1 ≤ 1000:=hl; omega
   have R:=zj8 (e:=encN) a g b;have I:=fun x=>zf6 (e:=encN) (x:=x) a g b
   have M:=hr k g;have h2:=zf5 a (k + 1);obtain ⟨a2,r2,u⟩:=h2;rw [← u] at I;have l:=zf2 F bs (q k) _ (q (k + 1)) W (hi k) M.1
   have S:[SA.str ((a0 :: ar)[k]'g).1,.int .i64 (A[k]'(by rw [a]; exact g)).2] = encN (A[k]'(by rw [a]; exact g)):=by
    rw [← M.2]; rfl
   have D:=fun x=>znm (e:=encN) (y:=x) a g b
   refine bri O ?_;refine ⟨rfl,⟨jt k,O⟩,rfl,_,R,?_⟩;refine drawP hΘ mixed (lk [0,1,2,3] (.alt 4 (.look 5 (.look 6 (.alt 7 .done .nil))) .nil)) [1] (by kernel_rfl) ?_;refine ⟨rfl,?_⟩;refine use l [(1,4)] rfl ⟨rfl,tv⟩ rfl ⟨zbf bs _,tv⟩ (by simp [SV.below,SA.below]) ⟨rfl,tv⟩ ?_;rintro i F1 Q n0 Y ⟨rfl,rfl,rfl,rfl⟩;refine ⟨Fz.r F,rfl,rfl,⟨jt k,O⟩,rfl,_,D _,Fz.r F,rfl,?_⟩
   exact ⟨⟨(k + 1,a2,r2),g,u⟩,G,leR [] o p rfl ⟨tv,za3 (by omega) _ _ _ _ _ _ _ _,zan zal _ _ _ _ _ _,zan zad _ _ _ _ _ _,zbf bs _,tv⟩ ⟨cnt E,tv⟩
    ⟨Fz.r F,rfl,zar zal (rw_op rfl ((zli _ _ _ _).trans (I _ S))),zar zad (zao _ _ _ _ _),rfl,tv⟩⟩
  ·have O:¬ (k:Int) < ((ar.length + 1:Nat):Int):=by omega
   have B:V :: T = A:=by
    rw [b,show k = (a0 :: ar).length by show k = ar.length + 1; omega,zhm a]
   have j:docB false f (ar.length + 1) d K.length c w s = (docB false f A.length d K.length c w s).ren (sig []):=by rw [a]; rfl
   refine brj O ?_
   exact clean [] (.ret (.tup [])) F [(1,docL false f A.length d K.length c w s),(2,rwE false 148 2 encN d A),(3,rwE f 151 6 encK c K),(4,.gone)] 5 ⟨Fz.r F,rfl,rfl,rfl⟩ (zah _) rfl rfl (by simp [Out.below,SV.below]) (zeu (n:=5) (by omega) _ _ _ _ _ _ _ _)
    ⟨Fz.r F,j,zar zal (rw_of B),zar zad (zao _ _ _ _ _),tv⟩
theorem z7b (F:Fz) (f B:Bool) (d c:Nat) (L:List DLn) (K A:List Cel) (w:Int) (s:List UInt8) (V:B = true → K = []) (W:K.length ≤ 1000) (a:A.length = K.length)
  (Z:∀ k (h:k < K.length),A[k]'(by omega) = if (K[k]'h).sum = true then K[k]'h else { K[k]'h with value:=0 }) :
  Ct Tryz.prog 93 [.va .nilptr,.va (.ptr ⟨1,0,0,0,0⟩)] F (hpL f B d c L K w s) 4 (finL f B d c L A w s):=by
 rcases K with _ | ⟨a0,ar⟩
 ·obtain rfl:A = []:=jv a;refine ct_of hΘ Tryz.func93 rfl (by decide) _ _ rfl rfl rfl ?_
  refine zam hΘ (X:=Unit) (fun x=>[(12,.va (.int .i64 0))]) [3,4,13,14,15,16,17,18,19,20,21,22,23,24,25,26,27,28,29,30,31,32,33,34,35,36,37,38,39,40,41,42,43,44,45]
   (fun x=>[(0,.frz F),(1,docL f B L.length d 0 c w s),(2,rwE f 148 2 encN d L),(3,rwE B 151 6 encK c [])]) 4 (fun x=>0) ()
   (fun n p=>leI [] n p rfl ⟨tv,za3 (by omega) _ _ _ _ _ _ _ _,zan zal _ _ _ _ _ _,zan zad _ _ _ _ _ _,tv⟩ ⟨rfl,tv⟩ ⟨Fz.r F,rfl,zar zal (zao _ _ _ _ _),zar zad (zao _ _ _ _ _),tv⟩) ?_
  rintro ⟨⟩ n p;refine brd (by decide) ?_;exact clean [] (.ret (.tup [])) F (hpL f B d c L [] w s) 4 ⟨Fz.r F,rfl,rfl,rfl⟩ (zah _) rfl rfl (by simp [Out.below,SV.below]) (zbx (by omega) _ _ _ _ _ _ _ _) ⟨Fz.r F,rfl,zar zal (zao _ _ _ _ _),zar zad (zao _ _ _ _ _),tv⟩
 ·obtain rfl:=zdk V;refine ct_of hΘ Tryz.func93 rfl (by decide) _ _ rfl rfl rfl ?_
  refine zam hΘ (X:={ y:Nat × Cel × List Cel // y.1 ≤ ar.length + 1 ∧ y.2.1 :: y.2.2 = mxl A (a0 :: ar) y.1 }) (fun y=>[(12,.va (.int .i64 y.1.1))]) [3,4,13,14,15,16,17,18,19,20,21,22,23,24,25,26,27,28,29,30,31,32,33,34,35,36,37,38,39,40,41,42,43,44,45]
   (fun y=>[(0,.frz F),(1,docL f false L.length d (ar.length + 1) c w s),(2,rwE f 148 2 encN d L),(3,rwE false 151 6 encK c (y.1.2.1 :: y.1.2.2))]) 4 (fun y=>ar.length + 1 - y.1.1) ⟨(0,a0,ar),yj _,(zfy _ _).symm⟩
   (fun n p=>leI [] n p rfl ⟨tv,za3 (by omega) _ _ _ _ _ _ _ _,zan zal _ _ _ _ _ _,zan zad _ _ _ _ _ _,tv⟩ ⟨rfl,tv⟩ ⟨Fz.r F,rfl,zar zal (zao _ _ _ _ _),zar zad (zao _ _ _ _ _),tv⟩) ?_
  rintro ⟨⟨k,S,Q⟩,R,b⟩ n p;replace R:k ≤ ar.length + 1:=R;replace b:S :: Q = mxl A (a0 :: ar) k:=b;by_cases g:k < ar.length + 1
  ·have D:(k:Int) < ((ar.length + 1:Nat):Int):=by omega
   have m:ar.length + 1 - (k + 1) < ar.length + 1 - k:=by omega
   have l:k < 4611686018427387904:=by have:ar.length + 1 ≤ 1000:=W; omega
   have o:=zj8 (e:=encK) a g b;have J:=fun x=>zf6 (e:=encK) (x:=x) a g b
   have i:=Z k g;have Y:=zf5 a (k + 1);obtain ⟨T,U,j⟩:=Y;rw [← j] at J;have I:=zs2 a g b;rw [← j] at I
   have O:((a0 :: ar)[k]'g).sum = true ∨ ((a0 :: ar)[k]'g).sum = false:=by
    cases ((a0 :: ar)[k]'g).sum
    ·exact .inr rfl
    ·exact .inl rfl
   refine Or.elim O (fun E=>?_) (fun E=>?_)
   ·rw [if_pos E] at i;have u:=I i;refine bri D ?_;refine ⟨rfl,⟨jt k,D⟩,rfl,_,o,?_⟩;refine br (fun _=>?_) (fun h=>absurd (E.symm.trans h) (by simp))
    exact ⟨⟨(k + 1,T,U),g,j⟩,m,leR [] n p rfl ⟨tv,za3 (by omega) _ _ _ _ _ _ _ _,zan zal _ _ _ _ _ _,zan zad _ _ _ _ _ _,tv⟩ ⟨cnt l,tv⟩
     ⟨Fz.r F,rfl,zar zal (zao _ _ _ _ _),zar zad (rw_of u),tv⟩⟩
   ·rw [if_neg (by rw [E]; decide)] at i;have M:[SA.int .i64 ((a0 :: ar)[k]'g).row,.int .i64 ((a0 :: ar)[k]'g).col,.bool ((a0 :: ar)[k]'g).sum,.int .i64 0,.int .i64 ((a0 :: ar)[k]'g).top,.int .i64 ((a0 :: ar)[k]'g).left] = encK (A[k]'(by rw [a]; exact g)):=by rw [i]; rfl
    refine bri D ?_;refine ⟨rfl,⟨jt k,D⟩,rfl,_,o,?_⟩;refine br (fun h=>absurd (E.symm.trans h) (by simp)) (fun _=>?_);refine ⟨rfl,_,o,?_⟩
    exact ⟨⟨(k + 1,T,U),g,j⟩,m,leR [] n p rfl ⟨tv,za3 (by omega) _ _ _ _ _ _ _ _,zan zal _ _ _ _ _ _,zan zad _ _ _ _ _ _,tv⟩ ⟨cnt l,tv⟩
     ⟨Fz.r F,rfl,zar zal (zao _ _ _ _ _),zar zad (rw_op rfl (J _ M)),tv⟩⟩
  ·have D:¬ (k:Int) < ((ar.length + 1:Nat):Int):=by omega
   have G:S :: Q = A:=by
    rw [b,show k = (a0 :: ar).length by show k = ar.length + 1; omega,zhm a]
   have q:docB f false L.length d (ar.length + 1) c w s = (docB f false L.length d A.length c w s).ren (sig []):=by rw [a]; rfl
   refine brj D ?_
   exact clean [] (.ret (.tup [])) F (hpL f false d c L A w s) 4 ⟨Fz.r F,rfl,rfl,rfl⟩ (zah _) rfl rfl (by simp [Out.below,SV.below]) (zbx (by omega) _ _ _ _ _ _ _ _)
    ⟨Fz.r F,q,zar zal (zao _ _ _ _ _),zar zad (rw_of G),tv⟩
theorem z3a (F:Fz) (l J:Bool) (j i:Nat) (L:List DLn) (K A:List Cel) (w:Int) (s bs:List UInt8) (q:Nat → Int) (z:Int) (hq:J = true → K = []) (hl:K.length ≤ 1000) (c:A.length = K.length)
  (V:bs.length ≤ 1000000000000000000) (hi:∀ k,i64 (q k)) (O:getI bs 0 = (z,q 0,0))
  (hr:∀ k (h:k < K.length),((K[k]'h).sum = true ∧ q (k + 1) = q k ∧ A[k]'(by omega) = K[k]'h) ∨
   ((K[k]'h).sum = false ∧ ∃ a b v,i64 a ∧ i64 b ∧ getI bs (q k) = ((K[k]'h).row,a,0) ∧ getI bs a = ((K[k]'h).col,b,0) ∧ getI bs b = (v,q (k + 1),0) ∧ A[k]'(by omega) = { K[k]'h with value:=v })) :
  Ct Tryz.prog 93 [.va (.ptr ⟨4,0,0,0,0⟩),.va (.ptr ⟨1,0,0,0,0⟩)] F (hpR l J j i L K w s bs 0) 5 (finR l J j i L A w s):=by
 have U:=zf2 F bs 0 z (q 0) V ⟨by decide,by decide⟩ O;rcases K with _ | ⟨a0,ar⟩
 ·obtain rfl:A = []:=jv c;refine ct_of hΘ Tryz.func93 rfl (by decide) _ _ rfl rfl rfl ?_;refine use U [(1,4)] rfl ⟨rfl,tv⟩ rfl ⟨zbf bs _,tv⟩ (by simp [SV.below,SA.below]) ⟨rfl,tv⟩ ?_;rintro f F1 O n0 W ⟨rfl,rfl,rfl,rfl⟩
  refine zam hΘ (X:=Unit) (fun x=>[(12,.va (.int .i64 0))]) [3,4,13,14,15,16,17,18,19,20,21,22,23,24,25,26,27,28,29,30,31,32,33,34,35,36,37,38,39,40,41,42,43,44,45]
   (fun x=>[(0,.frz F),(1,docL l J L.length j 0 i w s),(2,rwE l 148 2 encN j L),(3,rwE J 151 6 encK i [])]) 5 (fun x=>0) ()
   (fun B E=>leI [] B E rfl ⟨tv,za3 (by omega) _ _ _ _ _ _ _ _,zan zal _ _ _ _ _ _,zan zad _ _ _ _ _ _,tv⟩ ⟨rfl,tv⟩ ⟨Fz.r F,rfl,zar zal (zao _ _ _ _ _),zar zad (zao _ _ _ _ _),tv⟩) ?_
  rintro ⟨⟩ B E;refine brd (by decide) ?_;exact clean [] (.ret (.tup [])) F [(1,docL l J L.length j 0 i w s),(2,rwE l 148 2 encN j L),(3,rwE J 151 6 encK i []),(4,.gone)] 5 ⟨Fz.r F,rfl,rfl,rfl⟩ (zah _) rfl rfl (by simp [Out.below,SV.below]) (zeu (n:=5) (by omega) _ _ _ _ _ _ _ _) ⟨Fz.r F,rfl,zar zal (zao _ _ _ _ _),zar zad (zao _ _ _ _ _),tv⟩
 ·obtain rfl:=zdk hq;refine ct_of hΘ Tryz.func93 rfl (by decide) _ _ rfl rfl rfl ?_;refine use U [(1,4)] rfl ⟨rfl,tv⟩ rfl ⟨zbf bs _,tv⟩ (by simp [SV.below,SA.below]) ⟨rfl,tv⟩ ?_;rintro f F1 O n0 W ⟨rfl,rfl,rfl,rfl⟩
  refine zam hΘ (X:={ y:Nat × Cel × List Cel // y.1 ≤ ar.length + 1 ∧ y.2.1 :: y.2.2 = mxl A (a0 :: ar) y.1 }) (fun y=>[(12,.va (.int .i64 y.1.1))]) [3,4,13,14,15,16,17,18,19,20,21,22,23,24,25,26,27,28,29,30,31,32,33,34,35,36,37,38,39,40,41,42,43,44,45]
   (fun y=>[(0,.frz F),(1,docL l false L.length j (ar.length + 1) i w s),(2,rwE l 148 2 encN j L),(3,rwE false 151 6 encK i (y.1.2.1 :: y.1.2.2)),(4,mrd bs (q y.1.1))]) 5 (fun y=>ar.length + 1 - y.1.1) ⟨(0,a0,ar),yj _,(zfy _ _).symm⟩
   (fun B E=>leI [] B E rfl ⟨tv,za3 (by omega) _ _ _ _ _ _ _ _,zan zal _ _ _ _ _ _,zan zad _ _ _ _ _ _,zbf bs _,tv⟩ ⟨rfl,tv⟩ ⟨Fz.r F,rfl,zar zal (zao _ _ _ _ _),zar zad (zao _ _ _ _ _),rfl,tv⟩) ?_
  rintro ⟨⟨k,a1,r1⟩,hk,d⟩ B E;replace hk:k ≤ ar.length + 1:=hk;replace d:a1 :: r1 = mxl A (a0 :: ar) k:=d;by_cases g:k < ar.length + 1
  ·have Q:(k:Int) < ((ar.length + 1:Nat):Int):=by omega
   have u:ar.length + 1 - (k + 1) < ar.length + 1 - k:=by omega
   have p:k < 4611686018427387904:=by have:ar.length + 1 ≤ 1000:=hl; omega
   have D:=zj8 (e:=encK) c g d;have T:=fun x=>zf6 (e:=encK) (x:=x) c g d
   have h2:=zf5 c (k + 1);obtain ⟨a2,r2,m⟩:=h2;rw [← m] at T;have S:=zs2 c g d;rw [← m] at S;have o:=fun x=>znm (e:=encK) (y:=x) c g d
   refine Or.elim (hr k g) (fun M=>?_) (fun M=>?_)
   ·have I:=S M.2.2;have ae:=M.2.1;refine bri Q ?_;refine ⟨rfl,⟨jt k,Q⟩,rfl,_,D,?_⟩;refine br (fun _=>?_) (fun h=>absurd (M.1.symm.trans h) (by simp))
    exact ⟨⟨(k + 1,a2,r2),g,m⟩,u,leR [] B E rfl ⟨tv,za3 (by omega) _ _ _ _ _ _ _ _,zan zal _ _ _ _ _ _,zan zad _ _ _ _ _ _,zbf bs _,tv⟩ ⟨cnt p,tv⟩
     ⟨Fz.r F,rfl,zar zal (zao _ _ _ _ _),zar zad (rw_of I),ydf ae,tv⟩⟩
   ·have aa:=M.1;have ab:=M.2;obtain ⟨a,b,v,ia,ib,ga,gb,gv,Y⟩:=ab;have c0:=zf2 F bs (q k) _ a V (hi k) ga;have Z:=zf2 F bs a _ b V ia gb;have ac:=zf2 F bs b _ (q (k + 1)) V ib gv;have ad:[SA.int .i64 ((a0 :: ar)[k]'g).row,.int .i64 ((a0 :: ar)[k]'g).col,.bool ((a0 :: ar)[k]'g).sum,.int .i64 v,.int .i64 ((a0 :: ar)[k]'g).top,.int .i64 ((a0 :: ar)[k]'g).left] = encK (A[k]'(by rw [c]; exact g)):=by rw [Y]; rfl
    refine bri Q ?_;refine ⟨rfl,⟨jt k,Q⟩,rfl,_,D,?_⟩;refine br (fun h=>absurd (aa.symm.trans h) (by simp)) (fun _=>?_);refine use c0 [(1,4)] rfl ⟨rfl,tv⟩ rfl ⟨zbf bs _,tv⟩ (by simp [SV.below,SA.below]) ⟨rfl,tv⟩ ?_;rintro f F1 O n0 W ⟨rfl,rfl,rfl,rfl⟩;refine use Z [(1,4)] rfl ⟨rfl,tv⟩ rfl ⟨zbf bs _,tv⟩ (by simp [SV.below,SA.below]) ⟨rfl,tv⟩ ?_;rintro f F1 O n0 W ⟨rfl,rfl,rfl,rfl⟩;refine use ac [(1,4)] rfl ⟨rfl,tv⟩ rfl ⟨zbf bs _,tv⟩ (by simp [SV.below,SA.below]) ⟨rfl,tv⟩ ?_;rintro f F1 O n0 W ⟨rfl,rfl,rfl,rfl⟩;refine ⟨rfl,_,D,rfl,_,o _,rfl,_,(congrArg (·[0 + (k:Int).toNat]?) (zli _ _ _ _)).trans (o _),?_⟩
    exact ⟨⟨(k + 1,a2,r2),g,m⟩,u,leR [] B E rfl ⟨tv,za3 (by omega) _ _ _ _ _ _ _ _,zan zal _ _ _ _ _ _,zan zad _ _ _ _ _ _,zbf bs _,tv⟩ ⟨cnt p,tv⟩
     ⟨Fz.r F,rfl,zar zal (zao _ _ _ _ _),zar zad (rw_op rfl ((zw3 _ _ _ _ _).trans (T _ ad))),rfl,tv⟩⟩
  ·have Q:¬ (k:Int) < ((ar.length + 1:Nat):Int):=by omega
   have R:a1 :: r1 = A:=by
    rw [d,show k = (a0 :: ar).length by show k = ar.length + 1; omega,zhm c]
   have G:docB l false L.length j (ar.length + 1) i w s = (docB l false L.length j A.length i w s).ren (sig []):=by rw [c]; rfl
   refine brj Q ?_
   exact clean [] (.ret (.tup [])) F [(1,docL l false L.length j A.length i w s),(2,rwE l 148 2 encN j L),(3,rwE false 151 6 encK i A),(4,.gone)] 5 ⟨Fz.r F,rfl,rfl,rfl⟩ (zah _) rfl rfl (by simp [Out.below,SV.below]) (zeu (n:=5) (by omega) _ _ _ _ _ _ _ _)
    ⟨Fz.r F,G,zar zal (zao _ _ _ _ _),zar zad (rw_of R),tv⟩
theorem z3t (F:Fz) (d c:Bool) (b a:Nat) (L:List DLn) (K:List Cel) (w:Int) (s:List UInt8) :
  Ct Tryz.prog 96 [.va .nilptr,.va (.ptr ⟨1,0,0,0,0⟩)] F (hpL d c b a L K w s) 4 (finL d c b a L K 0 []):=by
 refine ct_of hΘ Tryz.func96 rfl (by decide) _ _ rfl rfl rfl ?_;exact clean [] (.ret (.tup [])) F (hpL d c b a L K 0 []) 4 ⟨Fz.r F,rfl,rfl,rfl⟩ (zah _) rfl rfl (by simp [Out.below,SV.below]) (zbx (by omega) _ _ _ _ _ _ _ _) ⟨Fz.r F,rfl,zar zal (zao _ _ _ _ _),zar zad (zao _ _ _ _ _),tv⟩
theorem z6n (F:Fz) (i h:Bool) (f e:Nat) (L:List DLn) (K:List Cel) (w l z:Int) (s g bs:List UInt8) (a b c:Int) (m:bs.length ≤ 1000000000000000000) (x:i64 a) (ib:i64 b) (A:getI bs 0 = (l,a,0)) (y:getI bs a = (z,b,0)) (u:getS bs b = (g,c,0)) :
  Ct Tryz.prog 96 [.va (.ptr ⟨4,0,0,0,0⟩),.va (.ptr ⟨1,0,0,0,0⟩)] F (hpR i h f e L K w s bs 0) 5 (finR i h f e L K l g):=by
 have q:=zf2 F bs 0 _ a m ⟨by decide,by decide⟩ A;have j:=zf2 F bs a _ b m x y;have k:=z0f F bs b c g m ib u;refine ct_of hΘ Tryz.func96 rfl (by decide) _ _ rfl rfl rfl ?_;refine use q [(1,4)] rfl ⟨rfl,tv⟩ rfl ⟨zbf bs _,tv⟩ (by simp [SV.below,SA.below]) ⟨rfl,tv⟩ ?_;rintro d F1 o n0 p ⟨rfl,rfl,rfl,rfl⟩;refine use j [(1,4)] rfl ⟨rfl,tv⟩ rfl ⟨zbf bs _,tv⟩ (by simp [SV.below,SA.below]) ⟨rfl,tv⟩ ?_;rintro d F1 o n0 p ⟨rfl,rfl,rfl,rfl⟩;refine use k [(1,4)] rfl ⟨rfl,tv⟩ rfl ⟨zbf bs _,tv⟩ (by simp [SV.below,SA.below]) ⟨rfl,tv⟩ ?_;rintro d F1 o n0 p ⟨rfl,rfl,rfl,rfl⟩;exact clean [] (.ret (.tup [])) F [(1,docL i h L.length f K.length e l g),(2,rwE i 148 2 encN f L),(3,rwE h 151 6 encK e K),(4,.gone)] 5 ⟨Fz.r F,rfl,rfl,rfl⟩ (zah _) rfl rfl (by simp [Out.below,SV.below]) (zeu (n:=5) (by omega) _ _ _ _ _ _ _ _) ⟨Fz.r F,rfl,zar zal (zao _ _ _ _ _),zar zad (zao _ _ _ _ _),tv⟩
def posn (a:List UInt8) (C:List (List UInt8)) (k:Nat):List UInt8:=a ++ (C.take k).flatten
theorem zih {a:List UInt8} {C:List (List UInt8)} {k:Nat} (h:k < C.length):posn a C (k + 1) = posn a C k ++ C[k]:=by
 unfold posn;rw [qg h,yl,ql]; simp
theorem zg1 (a:List UInt8) {C:List (List UInt8)} {k:Nat} (h:k < C.length):a ++ C.flatten = posn a C k ++ (C[k] ++ (C.drop (k + 1)).flatten):=by
 unfold posn
 conv=>lhs; rw [← y4 k C,qx h,yl,jx]
 rw [ql]
theorem z9e (a:List UInt8) (C:List (List UInt8)) (k:Nat):(posn a C k).length ≤ (a ++ C.flatten).length:=by
 rcases qb7 k C.length with h | h
 ·rw [zg1 a h,qd]; omega
 ·unfold posn; rw [qn h]; exact qm _
def posI (a:List UInt8) (C:List (List UInt8)) (k:Nat):Int:=((posn a C k).length:Nat)
theorem zm9 {a:List UInt8} {C:List (List UInt8)} (b:(a ++ C.flatten).length ≤ 1000000000000000000) (k:Nat):i64 (posI a C k):=by
 have:=z9e a C k;unfold posI i64; omega
theorem nums1 {n:Int} (h:okI n):zae [n] = putI n:=by simp [zae,zed h]
theorem zoh {n:Int} (h:okI n) (C:List (List UInt8)):getI (zae [n] ++ C.flatten) 0 = (n,posI (zae [n]) C 0,0):=by
 have h1:=zci [] C.flatten h;have e:posI (zae [n]) C 0 = ((putI n).length:Nat):=by unfold posI posn; rw [nums1 h]; simp
 rw [e,nums1 h];exact h1
theorem z3x {a:List UInt8} {C:List (List UInt8)} {k:Nat} (h:k < C.length) {t:List UInt8} (c:t.length ≤ 65536) (b:C[k] = (putSR t).1):getS (a ++ C.flatten) (posI a C k) = (t,posI a C (k + 1),0):=by
 rw [zg1 a h,b,posI,zjt _ _ _ c,posI,zih h,b]
theorem z4i {a:List UInt8} {C:List (List UInt8)} {k:Nat} (h:k < C.length) {n:Int} (c:okI n) (b:C[k] = putI n):getI (a ++ C.flatten) (posI a C k) = (n,posI a C (k + 1),0):=by
 rw [zg1 a h,b,posI,zci _ _ c,posI,zih h,b]
theorem zwc {c:List UInt8} {C:List (List UInt8)} {k:Nat} (h:k < C.length) {x y z:Int} (l:okI x) (n:okI y) (o:okI z) (f:C[k] = putI x ++ (putI y ++ putI z)) (j:(c ++ C.flatten).length ≤ 1000000000000000000) :
  ∃ a b:Int,i64 a ∧ i64 b ∧ getI (c ++ C.flatten) (posI c C k) = (x,a,0) ∧ getI (c ++ C.flatten) a = (y,b,0) ∧ getI (c ++ C.flatten) b = (z,posI c C (k + 1),0):=by
 have e:=zg1 c h;have d:c ++ C.flatten = posn c C k ++ (putI x ++ (putI y ++ (putI z ++ (C.drop (k + 1)).flatten))):=by rw [e,f]; simp only [ql]
 have i:c ++ C.flatten = (posn c C k ++ putI x) ++ (putI y ++ (putI z ++ (C.drop (k + 1)).flatten)):=by rw [d]; simp only [ql]
 have g:c ++ C.flatten = (posn c C k ++ putI x ++ putI y) ++ (putI z ++ (C.drop (k + 1)).flatten):=by rw [d]; simp only [ql]
 have m:posn c C (k + 1) = posn c C k ++ putI x ++ putI y ++ putI z:=by rw [zih h,f]; simp only [ql]
 refine ⟨((posn c C k ++ putI x).length:Nat),((posn c C k ++ putI x ++ putI y).length:Nat),?_,?_,?_,?_,?_⟩
 ·have:=congrArg List.length i;simp only [qd] at this j ⊢;unfold i64; omega
 ·have:=congrArg List.length g;simp only [qd] at this j ⊢;unfold i64; omega
 ·rw [posI,d]; exact zci _ _ l
 ·rw [i]; exact zci _ _ n
 ·rw [posI,m,g]; exact zci _ _ o
def zhx (c:Cel):List UInt8:=if c.sum = true then [] else zae [c.row,c.col,c.value]
theorem zjn:∀ l:List Cel,(l.map zhx).flatten = ((l.filter (keepQ false)).map fun c=>zae [c.row,c.col,c.value]).flatten
 |[]=>rfl
 |c :: r=>by
  rw [qv,jx,zjn r,List.filter_cons];by_cases h:c.sum = true
  ·have e:keepQ false c = false:=by unfold keepQ; rw [h]; rfl
   rw [zhx,if_pos h,e]; rfl
  ·have h:c.sum = false:=by simpa using h
   have e:keepQ false c = true:=by unfold keepQ; rw [h]; rfl
   rw [zhx,if_neg (by rw [h]; decide),e]; rfl
theorem zde {n:Int} (h:-1000000000000000 ≤ n ∧ n ≤ 1000000000000000):okI n:=by unfold okI; omega
theorem zzi {L:List DLn} (c:L.length ≤ 1000) (b:∀ l ∈ L,l.1.length ≤ 65536) (a:(ptext L).length ≤ 1000000000000000000) :
  ∃ q:Nat → Int,(∀ k,i64 (q k)) ∧ getI (ptext L) 0 = ((L.length:Int),q 0,0) ∧ ∀ k (h:k < L.length),getS (ptext L) (q k) = ((L[k]'h).1,q (k + 1),0):=by
 have e:ptext L = zae [(L.length:Int)] ++ (L.map fun x=>(putSR x.1).1).flatten:=rfl;rw [e] at a ⊢;refine ⟨posI (zae [(L.length:Int)]) (L.map fun x=>(putSR x.1).1),zm9 a,zoh (zde (by omega)) _,fun k h=>?_⟩;exact z3x (by rw [qa]; exact h) (b _ (jp h)) (by rw [yr])
theorem z0h {L:List DLn} (m:L.length ≤ 1000) (g:∀ l ∈ L,okI l.2) (d:(pmot L).length ≤ 1000000000000000000) :
  ∃ q:Nat → Int,(∀ k,i64 (q k)) ∧ getI (pmot L) 0 = ((L.length:Int),q 0,0) ∧ ∀ k (h:k < L.length),getI (pmot L) (q k) = ((L[k]'h).2,q (k + 1),0):=by
 obtain ⟨a,f⟩:∃ a,zae [(L.length:Int)] = a:=⟨_,rfl⟩
 obtain ⟨C,b⟩:∃ C,L.map (fun x=>zae [x.2]) = C:=⟨_,rfl⟩
 have j:getI (a ++ C.flatten) 0 = ((L.length:Int),posI a C 0,0):=by
  rw [← f]; exact zoh (zde (by omega)) C
 have e:pmot L = a ++ C.flatten:=by rw [← f,← b]; rfl
 rw [e] at d ⊢;refine ⟨posI a C,zm9 d,j,fun k h=>?_⟩;have h1:=g _ (jp h);have i:k < C.length:=by rw [← b,qa]; exact h
 have c:C[k] = putI (L[k]'h).2:=by
  subst b;rw [yr,nums1 h1]
 exact z4i i h1 c
theorem zxv {K:List Cel} (o:K.length ≤ 1000) (n:∀ c ∈ K,okI c.row ∧ okI c.col ∧ okI c.value) (f:(zcm false K).length ≤ 1000000000000000000) :
  ∃ (q:Nat → Int) (z:Int),(∀ k,i64 (q k)) ∧ getI (zcm false K) 0 = (z,q 0,0) ∧ ∀ k (h:k < K.length),((K[k]'h).sum = true ∧ q (k + 1) = q k) ∨
   ((K[k]'h).sum = false ∧ ∃ a b,i64 a ∧ i64 b ∧ getI (zcm false K) (q k) = ((K[k]'h).row,a,0) ∧ getI (zcm false K) a = ((K[k]'h).col,b,0) ∧ getI (zcm false K) b = ((K[k]'h).value,q (k + 1),0)):=by
 have p:(K.filter (keepQ false)).length ≤ 1000:=js (qad _ _) o
 have e:zcm false K = zae [((K.filter (keepQ false)).length:Int)] ++ (K.map zhx).flatten:=by
  rw [zjn]; rfl
 rw [e] at f ⊢;refine ⟨posI (zae [((K.filter (keepQ false)).length:Int)]) (K.map zhx),_,zm9 f,zoh (zde (by omega)) _,fun k h=>?_⟩;have i:k < (K.map zhx).length:=by rw [qa]; exact h
 by_cases d:(K[k]'h).sum = true
 ·refine .inl ⟨d,?_⟩;have m:(K.map zhx)[k] = []:=by rw [yr,zhx,if_pos d]
  rw [posI,posI,zih i,m,jm]
 ·have d:(K[k]'h).sum = false:=by simpa using d
  obtain ⟨j,g,l⟩:=n _ (jp h);refine .inr ⟨d,zwc i j g l ?_ f⟩;rw [yr,zhx,if_neg (by rw [d]; decide)];simp only [zae,qv,yv,jx,qar,zed j,zed g,zed l,jm]
theorem zwy {w h:Int} {s:List UInt8} (d:okI w) (f:okI h) (k:s.length ≤ 65536) :
  ∃ a b c:Int,i64 a ∧ i64 b ∧ getI (zae [w,h] ++ (putSR s).1) 0 = (w,a,0) ∧ getI (zae [w,h] ++ (putSR s).1) a = (h,b,0) ∧ getS (zae [w,h] ++ (putSR s).1) b = (s,c,0):=by
 have m:=zil w d;have l:=zil h f
 have e:zae [w,h] ++ (putSR s).1 = putI w ++ (putI h ++ ((putSR s).1 ++ [])):=by
  simp only [zae,qv,yv,jx,qar,zed d,zed f,jm,ql]
 have i:=zci [] (putI h ++ ((putSR s).1 ++ [])) d;have j:=zci (putI w) ((putSR s).1 ++ []) f;have g:=zjt (putI w ++ putI h) [] s k;rw [e];rw [ql (putI w)] at g;refine ⟨((putI w).length:Nat),((putI w ++ putI h).length:Nat),_,?_,?_,i,j,g⟩
 ·unfold i64; omega
 ·rw [qd]; unfold i64; omega
theorem zik (F:Fz) (hM:MLF F) (sk:SA) (m:Mig) (p:Int) (hp:1 ≤ p ∧ p ≤ 8) (g:FuncId) (a1 b1:SA) (d:Dc) (hk:KpsAt F sk m.keep) (Z:short m.keep) (ag:m.keep.length < 1000000) (hD:DocAt F a1 b1 d) (M:DcSmall d) (hd:docOk d = true)
  (k o:Bool) (n i:Nat) (L T:List DLn) (K R:List Cel) (w J:Int) (s O:List UInt8)
  (h0:zak p m.keep = [] → T = L ∧ R = K ∧ J = w ∧ O = s)
  (h1:zak p m.keep = [(6,0)] → ∀ F1,Ct Tryz.prog g [.va .nilptr,.va (.ptr ⟨1,0,0,0,0⟩)] F1 (hpL k o n i L K w s) 4 (finL k o n i T R J O))
  (h2:zak p m.keep ≠ [] → zak p m.keep ≠ [(6,0)] → ∀ F1,Ct Tryz.prog g [.va (.ptr ⟨4,0,0,0,0⟩),.va (.ptr ⟨1,0,0,0,0⟩)] F1 (hpR k o n i L K w s (zdb p (zak p m.keep) (propB p d)).1 0) 5 (finR k o n i T R J O)) :
  Ct Tryz.prog 88 [.agg (migS m sk),.agg (docS a1 b1 d.w d.bits),.va (.int .i64 p),.va (.fn (.func g) [⟨1,0,0,0,0⟩])] F (hpL k o n i L K w s) 4 (finL k o n i T R J O):=by
 have j:=zlb F sk m p hk Z ag;have S:=zhd Z p;obtain ⟨t,ht⟩:∃ t,zak p m.keep = t:=⟨_,rfl⟩
 rw [ht] at j h0 h1 h2 S;obtain ⟨bs,ah⟩:∃ bs,(zdb p t (propB p d)).1 = bs:=⟨_,rfl⟩
 have al:=zcw (p:=p) hd;have af:=fun F1 (h:Fz.le F F1) V hb=>zs1 F1 (hM.mono h) V t p (propB p d) hb S (by omega)
 rw [ah] at af h2;have X:=fun F1 V hb=>zpi F1 V t hb S
 obtain ⟨id,src,ak,aj,ks⟩:=m;obtain ⟨kn,kb,ke,kc,kL,kr,rfl,k1,k2,k3,k4⟩:=hk;obtain ⟨an,ab,ae,ac,bn,bb,be,bc,rfl,rfl,hL,hK,ad⟩:=hD;have aa:=fun F1 (h:Fz.le F F1)=>zyo pfun F1 an ab ae ac bn bb be bc d (hL.mono h) (hK.mono h) M.l M.c M.b ad p hp
 have W:pAns p d = .ret (.tup [.va (.str (propB p d)),.va (.int .i64 0)]):=by rw [pAns,if_pos hd,if_pos hd]
 simp only [W] at aa;clear W ht
 have Q:t = [] ∨ t = [(6,0)] ∨ (0 < t.length ∧ t ≠ [] ∧ t ≠ [(6,0)]):=by
  by_cases e:t = []
  ·exact .inl e
  ·by_cases e2:t = [(6,0)]
   ·exact .inr (.inl e2)
   ·exact .inr (.inr ⟨qa5.2 e,e,e2⟩)
 refine Or.elim Q (fun e=>?_) (fun Q=>Or.elim Q (fun e=>?_) (fun e=>?_))
 ·subst e;obtain ⟨rfl,rfl,rfl,rfl⟩:=h0 rfl;refine ct_of hΘ Tryz.func88 rfl (by decide) _ _ rfl rfl rfl ?_;refine useFo j rfl (zaa _) rfl ?_;rintro _ F1 h ⟨V,rfl,a⟩;obtain ⟨q,G,E,u,B,D,rfl,A,x,y,I⟩:=a;refine bre (by decide) ?_;exact clean [] (.ret (.tup [])) F1 (hpL k o n i T R J O) 4 ⟨h,rfl,rfl,rfl⟩ (zah _) rfl rfl (by simp [Out.below,SV.below]) (zbx (by omega) _ _ _ _ _ _ _ _) ⟨Fz.r F1,rfl,zar zal (zao _ _ _ _ _),zar zad (zao _ _ _ _ _),tv⟩
 ·subst e;have hc:=h1 rfl;refine ct_of hΘ Tryz.func88 rfl (by decide) _ _ rfl rfl rfl ?_;refine useFo j rfl (zaa _) rfl ?_;rintro _ F1 h ⟨V,rfl,a⟩;have f:=a;obtain ⟨q,G,E,u,B,D,rfl,A,x,y,I⟩:=a;refine brd (by decide) ?_;refine useFo (X F1 _ f) rfl (zaa _) rfl ?_;rintro _ F2 U rfl;refine bre (by decide) ?_;refine use (hc F2) [(1,1),(2,2),(3,3)] rfl ⟨rfl,rfl,tv⟩ rfl (zbx (by omega) _ _ _ _ _ _ _ _) (by simp [SV.below,SA.below]) ⟨rfl,zar zal (zao _ _ _ _ _),zar zad (zao _ _ _ _ _),tv⟩ ?_;rintro Y F3 x0 n0 l3 ⟨rfl,rfl,rfl⟩;exact clean [] (.ret (.tup [])) F3 (hpL k o n i T R J O) 4 ⟨Fz.t h (Fz.t U l3),rfl,rfl,rfl⟩ (zah _) rfl rfl (by simp [Out.below,SV.below]) (zbx (by omega) _ _ _ _ _ _ _ _) ⟨Fz.r F3,rfl,zc5 zal,zc5 zad,tv⟩
 ·have e0:=e.1;have e2:=e.2.2;have ti:¬ (t.length:Int) = 0:=by omega
  have hc:=h2 e.2.1 e2;refine ct_of hΘ Tryz.func88 rfl (by decide) _ _ rfl rfl rfl ?_;refine useFo j rfl (zaa _) rfl ?_;rintro _ F1 h ⟨V,rfl,a⟩;have f:=a;obtain ⟨q,G,E,u,B,D,rfl,A,x,y,I⟩:=a;refine brj ti ?_;refine useFo (X F1 _ f) rfl (zaa _) rfl ?_;rintro _ F2 U rfl;refine brj e2 ?_;refine useFo (aa F2 (Fz.t h U)) rfl (zaa _) rfl ?_;rintro _ F3 l3 rfl;have ai:=f.mono (Fz.t U l3);have ha:=af F3 (Fz.t h (Fz.t U l3)) _ ai;refine useFo ha rfl (zaa _) rfl ?_;rintro _ F4 l4 rfl;refine use (hc F4) [(1,1),(2,2),(3,3),(4,6)] rfl ⟨rfl,rfl,tv⟩ rfl ⟨za3 (by omega) _ _ _ _ _ _ _ _,zan zal _ _ _ _ _ _,zan zad _ _ _ _ _ _,zbf _ _,tv⟩ (by simp [SV.below,SA.below]) ⟨rfl,zar zal (zao _ _ _ _ _),zar zad (zao _ _ _ _ _),rfl,tv⟩ ?_;rintro Y F5 x0 n0 l5 ⟨rfl,rfl,rfl⟩;exact clean [] (.ret (.tup [])) F5 (hpL k o n i T R J O) 4 ⟨Fz.t h (Fz.t U (Fz.t l3 (Fz.t l4 l5))),rfl,rfl,rfl⟩ (zah _) rfl rfl (by simp [Out.below,SV.below]) (zbx (by omega) _ _ _ _ _ _ _ _) ⟨Fz.r F5,rfl,zc5 zal,zc5 zad,tv⟩
end Go.Proofs.YtfnkamphhpldcaaGreatDoor
