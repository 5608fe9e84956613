import Derived.Test.YtfnkamphhpldcaaGreatDoorK36
set_option maxHeartbeats 64000000
namespace Go.Proofs.YtfnkamphhpldcaaGreatDoor
open Go Sx
set_option maxRecDepth 100000
abbrev docB (c d:Bool) (l a k b:Nat) (w:Int) (s:List UInt8):SB:=.cells 41 [.slice c 2 0 0 2 l a,.slice d 3 0 0 6 k b,.int .i64 w,.str s]
abbrev docL (c d:Bool) (l a k b:Nat) (w:Int) (s:List UInt8):Ent:=.one (docB c d l a k b w s)
theorem za3 {n:Nat} (h:3 < n) (e f:Bool) (l c k d:Nat) (w:Int) (s:List UInt8):(docL e f l c k d w s).below n:=by
 intro a b;simp only [qj,qs,or_false] at b;rcases b with rfl | rfl | rfl | rfl
 ·exact .inr (by omega)
 ·exact .inr h
 ·trivial
 ·trivial
def mxl {α:Type} (A B:List α) (k:Nat):List α:=A.take k ++ B.drop k
theorem zn1 {α:Type} {A B:List α} (h:A.length = B.length) (k:Nat):(mxl A B k).length = B.length:=by
 unfold mxl; rw [qd,qq,yt]; omega
theorem zf6 {α:Type} (A B:List α):mxl A B 0 = B:=by simp [mxl]
theorem zhi {α:Type} {A B:List α} (h:A.length = B.length):mxl A B B.length = A:=by
 unfold mxl; rw [List.drop_length,jm,← h,yu]
theorem zyw {α:Type} {A B:List α} (h:A.length = B.length) {k:Nat} (a:k < B.length):(mxl A B k)[k]? = some B[k]:=by
 unfold mxl;rw [jy (by rw [qq]; omega),qq,qah];rw [show k + (k - min k A.length) = k by omega,qe a]
theorem zyx {α:Type} {A B:List α} (h:A.length = B.length) {k:Nat} (a:k < B.length):(mxl A B k).set k (A[k]'(by omega)) = mxl A B (k + 1):=by
 unfold mxl;rw [qbh _ _ (by rw [qq]; omega),qq,show k - min k A.length = 0 by omega,qx a,qar,qg (show k < A.length by omega),ql]; rfl
theorem zf4 {α:Type} {A:List α} {a0:α} {ar:List α} (h:A.length = (a0 :: ar).length) (k:Nat):∃ a c,a :: c = mxl A (a0 :: ar) k:=by
 have h:=zn1 h k;cases b:mxl A (a0 :: ar) k with
 |nil=>rw [b] at h; simp at h
 |cons x r=>exact ⟨x,r,rfl⟩
theorem zkx {α:Type} {e:α → List SA} {A B L:List α} (h:A.length = B.length) {k:Nat} (b:k < B.length) (a:L = mxl A B k):(L.map e)[0 + (k:Int).toNat]? = some (e B[k]):=by
 subst a;rw [qp,q5,qy,zyw h b]; rfl
theorem zf5 {α:Type} {e:α → List SA} {A B L:List α} (h:A.length = B.length) {k:Nat} (b:k < B.length) (a:L = mxl A B k) {x:List SA} (c:x = e (A[k]'(by omega))):(L.map e).set (0 + (k:Int).toNat) x = (mxl A B (k + 1)).map e:=by
 subst a c;rw [qp,q5,← zyx h b,qbp]
theorem zn2 {α:Type} {e:α → List SA} {A B L:List α} (h:A.length = B.length) {k:Nat} (b:k < B.length) (a:L = mxl A B k) {y:List SA}:((L.map e).set (0 + (k:Int).toNat) y)[0 + (k:Int).toNat]? = some y:=by
 rw [qp,q5,qb6];rw [qa,a,zn1 h]; exact b
theorem zlj {α:Type} (l:List α) (k:Nat) (x y:α):(l.set k x).set k y = l.set k y:=by simp
theorem rw_op {α:Type} {t sz:Nat} {e:α → List SA} {c:Nat} {b q:Bool} {L:List (List SA)} {l:List α} (a:b = !q) (h:L = l.map e):subE (some (.opt b (.arr t sz L c))) (rwE q t sz e c l):=by
 subst a h; exact ⟨rfl,rfl⟩
theorem rw_of {α:Type} {q:Bool} {t sz:Nat} {e:α → List SA} {c:Nat} {l a:List α} (h:l = a):subE (some (rwE q t sz e c l)) (rwE q t sz e c a):=by
 subst h; exact zao _ _ _ _ _
abbrev hpL (c d:Bool) (a b:Nat) (L:List DLn) (K:List Cel) (w:Int) (s:List UInt8):List (Nat × Ent):=[(1,docL c d L.length a K.length b w s),(2,rwE c 148 2 encN a L),(3,rwE d 151 6 encK b K)]
theorem zb0 {n:Nat} (h:3 < n) (c d:Bool) (a b:Nat) (L:List DLn) (K:List Cel) (w:Int) (s:List UInt8):bH n (hpL c d a b L K w s):=
 ⟨za3 h _ _ _ _ _ _ _ _,zan zal _ _ _ _ _ _,zan zad _ _ _ _ _ _,tv⟩
theorem zdl {α:Type} {q:Bool} {a:α} {l:List α} (h:q = true → a :: l = []):q = false:=by cases q with
 |true=>cases h rfl
 |false=>rfl
abbrev finL (d e:Bool) (a b:Nat) (L:List DLn) (K:List Cel) (w:Int) (s:List UInt8):Out → Fz → List (Nat × Ent) → Nat → Prop:=fun o f c n0=>n0 = 4 ∧ o = .ret (.tup []) ∧ c = hpL d e a b L K w s
abbrev setL (n:Nat) (l:DLn):DLn:=if n = 1 then ([],l.2) else (l.1,0)
theorem z3h (F:Fz) (n f:Bool) (c d:Nat) (L A:List DLn) (K:List Cel) (w:Int) (s:List UInt8) (T:n = true → L = []) (S:L.length ≤ 1000) (D:A = L.map (setL 1)) :
  Ct Tryz.prog 89 [.va .nilptr,.va (.ptr ⟨1,0,0,0,0⟩)] F (hpL n f c d L K w s) 4 (finL n f c d A K w s):=by
 have a:A.length = L.length:=by rw [D,qa]
 have E:∀ k (h:k < L.length),A[k]'(by omega) = setL 1 L[k]:=fun k h=>by subst D; rw [yq]
 clear D;rcases L with _ | ⟨a0,ar⟩
 ·obtain rfl:A = []:=jv a;refine ct_of hΘ Tryz.func89 rfl (by decide) _ _ rfl rfl rfl ?_;conv=>whnf
  refine zam hΘ (X:=Unit) (fun x=>[(11,.va (.int .i64 0))]) [3,12,13,14,15,16,17,18,19,20,21,22,23,24,25,26,27,28]
   (fun x=>[(0,.frz F),(1,docL n f 0 c K.length d w s),(2,rwE n 148 2 encN c []),(3,rwE f 151 6 encK d K)]) 4 (fun x=>0) ()
   (fun l m=>leI [] l m rfl ⟨tv,za3 (by omega) _ _ _ _ _ _ _ _,zan zal _ _ _ _ _ _,zan zad _ _ _ _ _ _,tv⟩ ⟨rfl,tv⟩ ⟨Fz.r F,rfl,zar zal (zao _ _ _ _ _),zar zad (zao _ _ _ _ _),tv⟩) ?_
  rintro ⟨⟩ l m;refine brd (by decide) ?_;exact clean [] (.ret (.tup [])) F (hpL n f c d [] K w s) 4 ⟨Fz.r F,rfl,rfl,rfl⟩ (zah _) rfl rfl (by simp [Out.below,SV.below]) (zb0 (by omega) _ _ _ _ _ _ _ _) ⟨Fz.r F,rfl,zar zal (zao _ _ _ _ _),zar zad (zao _ _ _ _ _),tv⟩
 ·obtain rfl:=zdl T;refine ct_of hΘ Tryz.func89 rfl (by decide) _ _ rfl rfl rfl ?_;conv=>whnf
  refine zam hΘ (X:={ y:Nat × DLn × List DLn // y.1 ≤ ar.length + 1 ∧ y.2.1 :: y.2.2 = mxl A (a0 :: ar) y.1 }) (fun y=>[(11,.va (.int .i64 y.1.1))]) [3,12,13,14,15,16,17,18,19,20,21,22,23,24,25,26,27,28]
   (fun y=>[(0,.frz F),(1,docL false f (ar.length + 1) c K.length d w s),(2,rwE false 148 2 encN c (y.1.2.1 :: y.1.2.2)),(3,rwE f 151 6 encK d K)]) 4 (fun y=>ar.length + 1 - y.1.1) ⟨(0,a0,ar),yj _,(zf6 _ _).symm⟩
   (fun l m=>leI [] l m rfl ⟨tv,za3 (by omega) _ _ _ _ _ _ _ _,zan zal _ _ _ _ _ _,zan zad _ _ _ _ _ _,tv⟩ ⟨rfl,tv⟩ ⟨Fz.r F,rfl,zar zal (zao _ _ _ _ _),zar zad (zao _ _ _ _ _),tv⟩) ?_
  rintro ⟨⟨k,J,I⟩,M,b⟩ l m;replace M:k ≤ ar.length + 1:=M;replace b:J :: I = mxl A (a0 :: ar) k:=b
  have O:I.length = ar.length:=by
   have:=zn1 a k;rw [← b] at this;simpa using this
  by_cases g:k < ar.length + 1
  ·have B:(k:Int) < ((ar.length + 1:Nat):Int):=by omega
   have o:ar.length + 1 - (k + 1) < ar.length + 1 - k:=by omega
   have q:k < 4611686018427387904:=by have:ar.length + 1 ≤ 1000:=S; omega
   have G:=zkx (e:=encN) a g b;have j:=fun x=>zf5 (e:=encN) (x:=x) a g b
   rw [E k g] at j;have R:=zf4 a (k + 1);obtain ⟨Q,U,u⟩:=R;rw [← u] at j;refine bri B ?_;refine ⟨rfl,⟨ju k,B⟩,rfl,_,G,?_⟩
   exact ⟨⟨(k + 1,Q,U),g,u⟩,o,leR [] l m rfl ⟨tv,za3 (by omega) _ _ _ _ _ _ _ _,zan zal _ _ _ _ _ _,zan zad _ _ _ _ _ _,tv⟩ ⟨cnt q,tv⟩
    ⟨Fz.r F,rfl,zar zal (rw_op rfl (j _ rfl)),zar zad (zao _ _ _ _ _),tv⟩⟩
  ·have B:¬ (k:Int) < ((ar.length + 1:Nat):Int):=by omega
   have p:J :: I = A:=by
    rw [b,show k = (a0 :: ar).length by show k = ar.length + 1; omega,zhi a]
   have i:docB false f (ar.length + 1) c K.length d w s = (docB false f A.length c K.length d w s).ren (sig []):=by rw [a]; rfl
   refine brj B ?_
   exact clean [] (.ret (.tup [])) F (hpL false f c d A K w s) 4 ⟨Fz.r F,rfl,rfl,rfl⟩ (zah _) rfl rfl (by simp [Out.below,SV.below]) (zb0 (by omega) _ _ _ _ _ _ _ _)
    ⟨Fz.r F,i,zar zal (rw_of p),zar zad (zao _ _ _ _ _),tv⟩
theorem z3j (F:Fz) (n f:Bool) (c d:Nat) (L A:List DLn) (K:List Cel) (w:Int) (s:List UInt8) (T:n = true → L = []) (S:L.length ≤ 1000) (D:A = L.map (setL 2)) :
  Ct Tryz.prog 92 [.va .nilptr,.va (.ptr ⟨1,0,0,0,0⟩)] F (hpL n f c d L K w s) 4 (finL n f c d A K w s):=by
 have a:A.length = L.length:=by rw [D,qa]
 have E:∀ k (h:k < L.length),A[k]'(by omega) = setL 2 L[k]:=fun k h=>by subst D; rw [yq]
 clear D;rcases L with _ | ⟨a0,ar⟩
 ·obtain rfl:A = []:=jv a;refine ct_of hΘ Tryz.func92 rfl (by decide) _ _ rfl rfl rfl ?_;conv=>whnf
  refine zam hΘ (X:=Unit) (fun x=>[(11,.va (.int .i64 0))]) [3,12,13,14,15,16,17,18,19,20,21,22,23,24,25,26,27,28]
   (fun x=>[(0,.frz F),(1,docL n f 0 c K.length d w s),(2,rwE n 148 2 encN c []),(3,rwE f 151 6 encK d K)]) 4 (fun x=>0) ()
   (fun l m=>leI [] l m rfl ⟨tv,za3 (by omega) _ _ _ _ _ _ _ _,zan zal _ _ _ _ _ _,zan zad _ _ _ _ _ _,tv⟩ ⟨rfl,tv⟩ ⟨Fz.r F,rfl,zar zal (zao _ _ _ _ _),zar zad (zao _ _ _ _ _),tv⟩) ?_
  rintro ⟨⟩ l m;refine brd (by decide) ?_;exact clean [] (.ret (.tup [])) F (hpL n f c d [] K w s) 4 ⟨Fz.r F,rfl,rfl,rfl⟩ (zah _) rfl rfl (by simp [Out.below,SV.below]) (zb0 (by omega) _ _ _ _ _ _ _ _) ⟨Fz.r F,rfl,zar zal (zao _ _ _ _ _),zar zad (zao _ _ _ _ _),tv⟩
 ·obtain rfl:=zdl T;refine ct_of hΘ Tryz.func92 rfl (by decide) _ _ rfl rfl rfl ?_;conv=>whnf
  refine zam hΘ (X:={ y:Nat × DLn × List DLn // y.1 ≤ ar.length + 1 ∧ y.2.1 :: y.2.2 = mxl A (a0 :: ar) y.1 }) (fun y=>[(11,.va (.int .i64 y.1.1))]) [3,12,13,14,15,16,17,18,19,20,21,22,23,24,25,26,27,28]
   (fun y=>[(0,.frz F),(1,docL false f (ar.length + 1) c K.length d w s),(2,rwE false 148 2 encN c (y.1.2.1 :: y.1.2.2)),(3,rwE f 151 6 encK d K)]) 4 (fun y=>ar.length + 1 - y.1.1) ⟨(0,a0,ar),yj _,(zf6 _ _).symm⟩
   (fun l m=>leI [] l m rfl ⟨tv,za3 (by omega) _ _ _ _ _ _ _ _,zan zal _ _ _ _ _ _,zan zad _ _ _ _ _ _,tv⟩ ⟨rfl,tv⟩ ⟨Fz.r F,rfl,zar zal (zao _ _ _ _ _),zar zad (zao _ _ _ _ _),tv⟩) ?_
  rintro ⟨⟨k,J,I⟩,M,b⟩ l m;replace M:k ≤ ar.length + 1:=M;replace b:J :: I = mxl A (a0 :: ar) k:=b
  have O:I.length = ar.length:=by
   have:=zn1 a k;rw [← b] at this;simpa using this
  by_cases g:k < ar.length + 1
  ·have B:(k:Int) < ((ar.length + 1:Nat):Int):=by omega
   have o:ar.length + 1 - (k + 1) < ar.length + 1 - k:=by omega
   have q:k < 4611686018427387904:=by have:ar.length + 1 ≤ 1000:=S; omega
   have G:=zkx (e:=encN) a g b;have j:=fun x=>zf5 (e:=encN) (x:=x) a g b
   rw [E k g] at j;have R:=zf4 a (k + 1);obtain ⟨Q,U,u⟩:=R;rw [← u] at j;refine bri B ?_;refine ⟨rfl,⟨ju k,B⟩,rfl,_,G,?_⟩
   exact ⟨⟨(k + 1,Q,U),g,u⟩,o,leR [] l m rfl ⟨tv,za3 (by omega) _ _ _ _ _ _ _ _,zan zal _ _ _ _ _ _,zan zad _ _ _ _ _ _,tv⟩ ⟨cnt q,tv⟩
    ⟨Fz.r F,rfl,zar zal (rw_op rfl (j _ rfl)),zar zad (zao _ _ _ _ _),tv⟩⟩
  ·have B:¬ (k:Int) < ((ar.length + 1:Nat):Int):=by omega
   have p:J :: I = A:=by
    rw [b,show k = (a0 :: ar).length by show k = ar.length + 1; omega,zhi a]
   have i:docB false f (ar.length + 1) c K.length d w s = (docB false f A.length c K.length d w s).ren (sig []):=by rw [a]; rfl
   refine brj B ?_
   exact clean [] (.ret (.tup [])) F (hpL false f c d A K w s) 4 ⟨Fz.r F,rfl,rfl,rfl⟩ (zah _) rfl rfl (by simp [Out.below,SV.below]) (zb0 (by omega) _ _ _ _ _ _ _ _)
    ⟨Fz.r F,i,zar zal (rw_of p),zar zad (zao _ _ _ _ _),tv⟩
abbrev hpR (c d:Bool) (a b:Nat) (L:List DLn) (K:List Cel) (w:Int) (s bs:List UInt8) (p:Int):List (Nat × Ent):=[(1,docL c d L.length a K.length b w s),(2,rwE c 148 2 encN a L),(3,rwE d 151 6 encK b K),(4,mrd bs p)]
abbrev finR (c d:Bool) (a b:Nat) (L:List DLn) (K:List Cel) (w:Int) (s:List UInt8):Out → Fz → List (Nat × Ent) → Nat → Prop:=fun o f e n0=>n0 = 5 ∧ o = .ret (.tup []) ∧ e = [(1,docL c d L.length a K.length b w s),(2,rwE c 148 2 encN a L),(3,rwE d 151 6 encK b K),(4,.gone)]
theorem zev {n:Nat} (h:3 < n) {l e:Nat} (c d:Bool) (a b:Nat) (L:List DLn) (K:List Cel) (w:Int) (s:List UInt8):bH n [(1,docL c d l a e b w s),(2,rwE c 148 2 encN a L),(3,rwE d 151 6 encK b K),(4,.gone)]:=
 ⟨za3 h _ _ _ _ _ _ _ _,zan zal _ _ _ _ _ _,zan zad _ _ _ _ _ _,tv,tv⟩
theorem zua {α:Type} {A B L:List α} (h:A.length = B.length) {k:Nat} (a:k < B.length) (c:L = mxl A B k) (e:A[k]'(by omega) = B[k]):L = mxl A B (k + 1):=by
 rw [c,← zyx h a,e];have h1:=zyw h a;obtain ⟨d,b⟩:=qi.1 h1;rw [← b,List.set_getElem_self]
theorem yda {bs:List UInt8} {p a:Int} (h:a = p) {μ:Mu}:SB.cells 228 [.str bs,.int .i64 p] = SB.ren μ (.cells 228 [.str bs,.int .i64 a]):=by subst h; rfl
theorem zz1 {α:Type} (l:List α) (k:Nat) (x y z:α):((l.set k x).set k y).set k z = l.set k z:=by simp
theorem z3i (F:Fz) (m f:Bool) (c d:Nat) (L A:List DLn) (K:List Cel) (w:Int) (s bs:List UInt8) (q:Nat → Int) (z:Int) (hq:m = true → L = []) (hl:L.length ≤ 1000) (a:A.length = L.length)
  (U:bs.length ≤ 1000000000000000000) (hi:∀ k,i64 (q k)) (Q:getI bs 0 = (z,q 0,0)) (hr:∀ k (h:k < L.length),getS bs (q k) = ((A[k]'(by omega)).1,q (k + 1),0) ∧ (A[k]'(by omega)).2 = (L[k]'h).2) :
  Ct Tryz.prog 89 [.va (.ptr ⟨4,0,0,0,0⟩),.va (.ptr ⟨1,0,0,0,0⟩)] F (hpR m f c d L K w s bs 0) 5 (finR m f c d A K w s):=by
 have I:=zf3 F bs 0 z (q 0) U ⟨by decide,by decide⟩ Q;rcases L with _ | ⟨a0,ar⟩
 ·obtain rfl:A = []:=jv a;refine ct_of hΘ Tryz.func89 rfl (by decide) _ _ rfl rfl rfl ?_;refine use I [(1,4)] rfl ⟨rfl,tv⟩ rfl ⟨zbg bs _,tv⟩ (by simp [SV.below,SA.below]) ⟨rfl,tv⟩ ?_;rintro i F1 Q n0 W ⟨rfl,rfl,rfl,rfl⟩;conv=>whnf
  refine zam hΘ (X:=Unit) (fun x=>[(11,.va (.int .i64 0))]) [3,12,13,14,15,16,17,18,19,20,21,22,23,24,25,26,27,28]
   (fun x=>[(0,.frz F),(1,docL m f 0 c K.length d w s),(2,rwE m 148 2 encN c []),(3,rwE f 151 6 encK d K)]) 5 (fun x=>0) ()
   (fun o p=>leI [] o p rfl ⟨tv,za3 (by omega) _ _ _ _ _ _ _ _,zan zal _ _ _ _ _ _,zan zad _ _ _ _ _ _,tv⟩ ⟨rfl,tv⟩ ⟨Fz.r F,rfl,zar zal (zao _ _ _ _ _),zar zad (zao _ _ _ _ _),tv⟩) ?_
  rintro ⟨⟩ o p;refine brd (by decide) ?_;exact clean [] (.ret (.tup [])) F [(1,docL m f 0 c K.length d w s),(2,rwE m 148 2 encN c []),(3,rwE f 151 6 encK d K),(4,.gone)] 5 ⟨Fz.r F,rfl,rfl,rfl⟩ (zah _) rfl rfl (by simp [Out.below,SV.below]) (zev (n:=5) (by omega) _ _ _ _ _ _ _ _) ⟨Fz.r F,rfl,zar zal (zao _ _ _ _ _),zar zad (zao _ _ _ _ _),tv⟩
 ·obtain rfl:=zdl hq;refine ct_of hΘ Tryz.func89 rfl (by decide) _ _ rfl rfl rfl ?_;refine use I [(1,4)] rfl ⟨rfl,tv⟩ rfl ⟨zbg bs _,tv⟩ (by simp [SV.below,SA.below]) ⟨rfl,tv⟩ ?_;rintro i F1 Q n0 W ⟨rfl,rfl,rfl,rfl⟩;conv=>whnf
  refine zam hΘ (X:={ y:Nat × DLn × List DLn // y.1 ≤ ar.length + 1 ∧ y.2.1 :: y.2.2 = mxl A (a0 :: ar) y.1 }) (fun y=>[(11,.va (.int .i64 y.1.1))]) [3,12,13,14,15,16,17,18,19,20,21,22,23,24,25,26,27,28]
   (fun y=>[(0,.frz F),(1,docL false f (ar.length + 1) c K.length d w s),(2,rwE false 148 2 encN c (y.1.2.1 :: y.1.2.2)),(3,rwE f 151 6 encK d K),(4,mrd bs (q y.1.1))]) 5 (fun y=>ar.length + 1 - y.1.1) ⟨(0,a0,ar),yj _,(zf6 _ _).symm⟩
   (fun o p=>leI [] o p rfl ⟨tv,za3 (by omega) _ _ _ _ _ _ _ _,zan zal _ _ _ _ _ _,zan zad _ _ _ _ _ _,zbg bs _,tv⟩ ⟨rfl,tv⟩ ⟨Fz.r F,rfl,zar zal (zao _ _ _ _ _),zar zad (zao _ _ _ _ _),rfl,tv⟩) ?_
  rintro ⟨⟨k,T,Y⟩,V,b⟩ o p;replace V:k ≤ ar.length + 1:=V;replace b:T :: Y = mxl A (a0 :: ar) k:=b;by_cases g:k < ar.length + 1
  ·have u:(k:Int) < ((ar.length + 1:Nat):Int):=by omega
   have B:ar.length + 1 - (k + 1) < ar.length + 1 - k:=by omega
   have E:k < 4611686018427387904:=by have:ar.length + 1 ≤ 1000:=hl; omega
   have R:=zkx (e:=encN) a g b;have J:=fun x=>zf5 (e:=encN) (x:=x) a g b
   have M:=hr k g;have h2:=zf4 a (k + 1);obtain ⟨Z,r2,G⟩:=h2;rw [← G] at J;have j:=zyv F bs (q k) (q (k + 1)) _ U (hi k) M.1
   have S:[SA.str (A[k]'(by rw [a]; exact g)).1,.int .i64 ((a0 :: ar)[k]'g).2] = encN (A[k]'(by rw [a]; exact g)):=by
    rw [← M.2]; rfl
   have O:=fun x=>zn2 (e:=encN) (y:=x) a g b
   refine bri u ?_;refine ⟨rfl,⟨ju k,u⟩,rfl,_,R,?_⟩;refine drawP hΘ mixed (lk [0,1,2,3] (.alt 4 (.look 5 (.look 6 (.alt 7 .done .nil))) .nil)) [1] (by kernel_rfl) ?_;refine ⟨rfl,?_⟩;refine use j [(1,4)] rfl ⟨rfl,tv⟩ rfl ⟨zbg bs _,tv⟩ (by simp [SV.below,SA.below]) ⟨rfl,tv⟩ ?_;rintro i F1 Q n0 W ⟨rfl,rfl,rfl,rfl⟩;refine ⟨Fz.r F,rfl,rfl,⟨ju k,u⟩,rfl,_,O _,Fz.r F,rfl,?_⟩
   exact ⟨⟨(k + 1,Z,r2),g,G⟩,B,leR [] o p rfl ⟨tv,za3 (by omega) _ _ _ _ _ _ _ _,zan zal _ _ _ _ _ _,zan zad _ _ _ _ _ _,zbg bs _,tv⟩ ⟨cnt E,tv⟩
    ⟨Fz.r F,rfl,zar zal (rw_op rfl ((zlj _ _ _ _).trans (J _ S))),zar zad (zao _ _ _ _ _),rfl,tv⟩⟩
  ·have u:¬ (k:Int) < ((ar.length + 1:Nat):Int):=by omega
   have D:T :: Y = A:=by
    rw [b,show k = (a0 :: ar).length by show k = ar.length + 1; omega,zhi a]
   have l:docB false f (ar.length + 1) c K.length d w s = (docB false f A.length c K.length d w s).ren (sig []):=by rw [a]; rfl
   refine brj u ?_
   exact clean [] (.ret (.tup [])) F [(1,docL false f A.length c K.length d w s),(2,rwE false 148 2 encN c A),(3,rwE f 151 6 encK d K),(4,.gone)] 5 ⟨Fz.r F,rfl,rfl,rfl⟩ (zah _) rfl rfl (by simp [Out.below,SV.below]) (zev (n:=5) (by omega) _ _ _ _ _ _ _ _)
    ⟨Fz.r F,l,zar zal (rw_of D),zar zad (zao _ _ _ _ _),tv⟩
theorem z3k (F:Fz) (m f:Bool) (c d:Nat) (L A:List DLn) (K:List Cel) (w:Int) (s bs:List UInt8) (q:Nat → Int) (z:Int) (hq:m = true → L = []) (hl:L.length ≤ 1000) (a:A.length = L.length)
  (U:bs.length ≤ 1000000000000000000) (hi:∀ k,i64 (q k)) (Q:getI bs 0 = (z,q 0,0)) (hr:∀ k (h:k < L.length),getI bs (q k) = ((A[k]'(by omega)).2,q (k + 1),0) ∧ (A[k]'(by omega)).1 = (L[k]'h).1) :
  Ct Tryz.prog 92 [.va (.ptr ⟨4,0,0,0,0⟩),.va (.ptr ⟨1,0,0,0,0⟩)] F (hpR m f c d L K w s bs 0) 5 (finR m f c d A K w s):=by
 have I:=zf3 F bs 0 z (q 0) U ⟨by decide,by decide⟩ Q;rcases L with _ | ⟨a0,ar⟩
 ·obtain rfl:A = []:=jv a;refine ct_of hΘ Tryz.func92 rfl (by decide) _ _ rfl rfl rfl ?_;refine use I [(1,4)] rfl ⟨rfl,tv⟩ rfl ⟨zbg bs _,tv⟩ (by simp [SV.below,SA.below]) ⟨rfl,tv⟩ ?_;rintro i F1 Q n0 W ⟨rfl,rfl,rfl,rfl⟩;conv=>whnf
  refine zam hΘ (X:=Unit) (fun x=>[(11,.va (.int .i64 0))]) [3,12,13,14,15,16,17,18,19,20,21,22,23,24,25,26,27,28]
   (fun x=>[(0,.frz F),(1,docL m f 0 c K.length d w s),(2,rwE m 148 2 encN c []),(3,rwE f 151 6 encK d K)]) 5 (fun x=>0) ()
   (fun o p=>leI [] o p rfl ⟨tv,za3 (by omega) _ _ _ _ _ _ _ _,zan zal _ _ _ _ _ _,zan zad _ _ _ _ _ _,tv⟩ ⟨rfl,tv⟩ ⟨Fz.r F,rfl,zar zal (zao _ _ _ _ _),zar zad (zao _ _ _ _ _),tv⟩) ?_
  rintro ⟨⟩ o p;refine brd (by decide) ?_;exact clean [] (.ret (.tup [])) F [(1,docL m f 0 c K.length d w s),(2,rwE m 148 2 encN c []),(3,rwE f 151 6 encK d K),(4,.gone)] 5 ⟨Fz.r F,rfl,rfl,rfl⟩ (zah _) rfl rfl (by simp [Out.below,SV.below]) (zev (n:=5) (by omega) _ _ _ _ _ _ _ _) ⟨Fz.r F,rfl,zar zal (zao _ _ _ _ _),zar zad (zao _ _ _ _ _),tv⟩
 ·obtain rfl:=zdl hq;refine ct_of hΘ Tryz.func92 rfl (by decide) _ _ rfl rfl rfl ?_;refine use I [(1,4)] rfl ⟨rfl,tv⟩ rfl ⟨zbg bs _,tv⟩ (by simp [SV.below,SA.below]) ⟨rfl,tv⟩ ?_;rintro i F1 Q n0 W ⟨rfl,rfl,rfl,rfl⟩;conv=>whnf
  refine zam hΘ (X:={ y:Nat × DLn × List DLn // y.1 ≤ ar.length + 1 ∧ y.2.1 :: y.2.2 = mxl A (a0 :: ar) y.1 }) (fun y=>[(11,.va (.int .i64 y.1.1))]) [3,12,13,14,15,16,17,18,19,20,21,22,23,24,25,26,27,28]
   (fun y=>[(0,.frz F),(1,docL false f (ar.length + 1) c K.length d w s),(2,rwE false 148 2 encN c (y.1.2.1 :: y.1.2.2)),(3,rwE f 151 6 encK d K),(4,mrd bs (q y.1.1))]) 5 (fun y=>ar.length + 1 - y.1.1) ⟨(0,a0,ar),yj _,(zf6 _ _).symm⟩
   (fun o p=>leI [] o p rfl ⟨tv,za3 (by omega) _ _ _ _ _ _ _ _,zan zal _ _ _ _ _ _,zan zad _ _ _ _ _ _,zbg bs _,tv⟩ ⟨rfl,tv⟩ ⟨Fz.r F,rfl,zar zal (zao _ _ _ _ _),zar zad (zao _ _ _ _ _),rfl,tv⟩) ?_
  rintro ⟨⟨k,T,Y⟩,V,b⟩ o p;replace V:k ≤ ar.length + 1:=V;replace b:T :: Y = mxl A (a0 :: ar) k:=b;by_cases g:k < ar.length + 1
  ·have u:(k:Int) < ((ar.length + 1:Nat):Int):=by omega
   have B:ar.length + 1 - (k + 1) < ar.length + 1 - k:=by omega
   have E:k < 4611686018427387904:=by have:ar.length + 1 ≤ 1000:=hl; omega
   have R:=zkx (e:=encN) a g b;have J:=fun x=>zf5 (e:=encN) (x:=x) a g b
   have M:=hr k g;have h2:=zf4 a (k + 1);obtain ⟨Z,r2,G⟩:=h2;rw [← G] at J;have j:=zf3 F bs (q k) _ (q (k + 1)) U (hi k) M.1
   have S:[SA.str ((a0 :: ar)[k]'g).1,.int .i64 (A[k]'(by rw [a]; exact g)).2] = encN (A[k]'(by rw [a]; exact g)):=by
    rw [← M.2]; rfl
   have O:=fun x=>zn2 (e:=encN) (y:=x) a g b
   refine bri u ?_;refine ⟨rfl,⟨ju k,u⟩,rfl,_,R,?_⟩;refine drawP hΘ mixed (lk [0,1,2,3] (.alt 4 (.look 5 (.look 6 (.alt 7 .done .nil))) .nil)) [1] (by kernel_rfl) ?_;refine ⟨rfl,?_⟩;refine use j [(1,4)] rfl ⟨rfl,tv⟩ rfl ⟨zbg bs _,tv⟩ (by simp [SV.below,SA.below]) ⟨rfl,tv⟩ ?_;rintro i F1 Q n0 W ⟨rfl,rfl,rfl,rfl⟩;refine ⟨Fz.r F,rfl,rfl,⟨ju k,u⟩,rfl,_,O _,Fz.r F,rfl,?_⟩
   exact ⟨⟨(k + 1,Z,r2),g,G⟩,B,leR [] o p rfl ⟨tv,za3 (by omega) _ _ _ _ _ _ _ _,zan zal _ _ _ _ _ _,zan zad _ _ _ _ _ _,zbg bs _,tv⟩ ⟨cnt E,tv⟩
    ⟨Fz.r F,rfl,zar zal (rw_op rfl ((zlj _ _ _ _).trans (J _ S))),zar zad (zao _ _ _ _ _),rfl,tv⟩⟩
  ·have u:¬ (k:Int) < ((ar.length + 1:Nat):Int):=by omega
   have D:T :: Y = A:=by
    rw [b,show k = (a0 :: ar).length by show k = ar.length + 1; omega,zhi a]
   have l:docB false f (ar.length + 1) c K.length d w s = (docB false f A.length c K.length d w s).ren (sig []):=by rw [a]; rfl
   refine brj u ?_
   exact clean [] (.ret (.tup [])) F [(1,docL false f A.length c K.length d w s),(2,rwE false 148 2 encN c A),(3,rwE f 151 6 encK d K),(4,.gone)] 5 ⟨Fz.r F,rfl,rfl,rfl⟩ (zah _) rfl rfl (by simp [Out.below,SV.below]) (zev (n:=5) (by omega) _ _ _ _ _ _ _ _)
    ⟨Fz.r F,l,zar zal (rw_of D),zar zad (zao _ _ _ _ _),tv⟩
theorem z3l (F:Fz) (f D:Bool) (c d:Nat) (L:List DLn) (K A:List Cel) (w:Int) (s:List UInt8) (Z:D = true → K = []) (Y:K.length ≤ 1000) (a:A.length = K.length)
  (W:∀ k (h:k < K.length),A[k]'(by omega) = if (K[k]'h).sum = true then K[k]'h else { K[k]'h with value:=0 }) :
  Ct Tryz.prog 93 [.va .nilptr,.va (.ptr ⟨1,0,0,0,0⟩)] F (hpL f D c d L K w s) 4 (finL f D c d L A w s):=by
 rcases K with _ | ⟨a0,ar⟩
 ·obtain rfl:A = []:=jv a;refine ct_of hΘ Tryz.func93 rfl (by decide) _ _ rfl rfl rfl ?_;conv=>whnf
  refine zam hΘ (X:=Unit) (fun x=>[(12,.va (.int .i64 0))]) [3,4,13,14,15,16,17,18,19,20,21,22,23,24,25,26,27,28,29,30,31,32,33,34,35,36,37,38,39,40,41,42,43,44,45]
   (fun x=>[(0,.frz F),(1,docL f D L.length c 0 d w s),(2,rwE f 148 2 encN c L),(3,rwE D 151 6 encK d [])]) 4 (fun x=>0) ()
   (fun n o=>leI [] n o rfl ⟨tv,za3 (by omega) _ _ _ _ _ _ _ _,zan zal _ _ _ _ _ _,zan zad _ _ _ _ _ _,tv⟩ ⟨rfl,tv⟩ ⟨Fz.r F,rfl,zar zal (zao _ _ _ _ _),zar zad (zao _ _ _ _ _),tv⟩) ?_
  rintro ⟨⟩ n o;refine brd (by decide) ?_;exact clean [] (.ret (.tup [])) F (hpL f D c d L [] w s) 4 ⟨Fz.r F,rfl,rfl,rfl⟩ (zah _) rfl rfl (by simp [Out.below,SV.below]) (zb0 (by omega) _ _ _ _ _ _ _ _) ⟨Fz.r F,rfl,zar zal (zao _ _ _ _ _),zar zad (zao _ _ _ _ _),tv⟩
 ·obtain rfl:=zdl Z;refine ct_of hΘ Tryz.func93 rfl (by decide) _ _ rfl rfl rfl ?_;conv=>whnf
  refine zam hΘ (X:={ y:Nat × Cel × List Cel // y.1 ≤ ar.length + 1 ∧ y.2.1 :: y.2.2 = mxl A (a0 :: ar) y.1 }) (fun y=>[(12,.va (.int .i64 y.1.1))]) [3,4,13,14,15,16,17,18,19,20,21,22,23,24,25,26,27,28,29,30,31,32,33,34,35,36,37,38,39,40,41,42,43,44,45]
   (fun y=>[(0,.frz F),(1,docL f false L.length c (ar.length + 1) d w s),(2,rwE f 148 2 encN c L),(3,rwE false 151 6 encK d (y.1.2.1 :: y.1.2.2))]) 4 (fun y=>ar.length + 1 - y.1.1) ⟨(0,a0,ar),yj _,(zf6 _ _).symm⟩
   (fun n o=>leI [] n o rfl ⟨tv,za3 (by omega) _ _ _ _ _ _ _ _,zan zal _ _ _ _ _ _,zan zad _ _ _ _ _ _,tv⟩ ⟨rfl,tv⟩ ⟨Fz.r F,rfl,zar zal (zao _ _ _ _ _),zar zad (zao _ _ _ _ _),tv⟩) ?_
  rintro ⟨⟨k,Q,T⟩,S,b⟩ n o;replace S:k ≤ ar.length + 1:=S;replace b:Q :: T = mxl A (a0 :: ar) k:=b;by_cases g:k < ar.length + 1
  ·have B:(k:Int) < ((ar.length + 1:Nat):Int):=by omega
   have l:ar.length + 1 - (k + 1) < ar.length + 1 - k:=by omega
   have m:k < 4611686018427387904:=by have:ar.length + 1 ≤ 1000:=Y; omega
   have p:=zkx (e:=encK) a g b;have G:=fun x=>zf5 (e:=encK) (x:=x) a g b
   have i:=W k g;have V:=zf4 a (k + 1);obtain ⟨R,U,j⟩:=V;rw [← j] at G;have J:=zua a g b;rw [← j] at J
   have M:((a0 :: ar)[k]'g).sum = true ∨ ((a0 :: ar)[k]'g).sum = false:=by
    cases ((a0 :: ar)[k]'g).sum
    ·exact .inr rfl
    ·exact .inl rfl
   refine Or.elim M (fun I=>?_) (fun I=>?_)
   ·rw [if_pos I] at i;have u:=J i;refine bri B ?_;refine ⟨rfl,⟨ju k,B⟩,rfl,_,p,?_⟩;refine br (fun _=>?_) (fun h=>absurd (I.symm.trans h) (by simp))
    exact ⟨⟨(k + 1,R,U),g,j⟩,l,leR [] n o rfl ⟨tv,za3 (by omega) _ _ _ _ _ _ _ _,zan zal _ _ _ _ _ _,zan zad _ _ _ _ _ _,tv⟩ ⟨cnt m,tv⟩
     ⟨Fz.r F,rfl,zar zal (zao _ _ _ _ _),zar zad (rw_of u),tv⟩⟩
   ·rw [if_neg (by rw [I]; decide)] at i;have O:[SA.int .i64 ((a0 :: ar)[k]'g).row,.int .i64 ((a0 :: ar)[k]'g).col,.bool ((a0 :: ar)[k]'g).sum,.int .i64 0,.int .i64 ((a0 :: ar)[k]'g).top,.int .i64 ((a0 :: ar)[k]'g).left] = encK (A[k]'(by rw [a]; exact g)):=by rw [i]; rfl
    refine bri B ?_;refine ⟨rfl,⟨ju k,B⟩,rfl,_,p,?_⟩;refine br (fun h=>absurd (I.symm.trans h) (by simp)) (fun _=>?_);refine ⟨rfl,_,p,?_⟩
    exact ⟨⟨(k + 1,R,U),g,j⟩,l,leR [] n o rfl ⟨tv,za3 (by omega) _ _ _ _ _ _ _ _,zan zal _ _ _ _ _ _,zan zad _ _ _ _ _ _,tv⟩ ⟨cnt m,tv⟩
     ⟨Fz.r F,rfl,zar zal (zao _ _ _ _ _),zar zad (rw_op rfl (G _ O)),tv⟩⟩
  ·have B:¬ (k:Int) < ((ar.length + 1:Nat):Int):=by omega
   have E:Q :: T = A:=by
    rw [b,show k = (a0 :: ar).length by show k = ar.length + 1; omega,zhi a]
   have q:docB f false L.length c (ar.length + 1) d w s = (docB f false L.length c A.length d w s).ren (sig []):=by rw [a]; rfl
   refine brj B ?_
   exact clean [] (.ret (.tup [])) F (hpL f false c d L A w s) 4 ⟨Fz.r F,rfl,rfl,rfl⟩ (zah _) rfl rfl (by simp [Out.below,SV.below]) (zb0 (by omega) _ _ _ _ _ _ _ _)
    ⟨Fz.r F,q,zar zal (zao _ _ _ _ _),zar zad (rw_of E),tv⟩
theorem z3m (F:Fz) (l J:Bool) (i j:Nat) (L:List DLn) (K A:List Cel) (w:Int) (s bs:List UInt8) (q:Nat → Int) (z:Int) (hq:J = true → K = []) (hl:K.length ≤ 1000) (c:A.length = K.length)
  (V:bs.length ≤ 1000000000000000000) (hi:∀ k,i64 (q k)) (O:getI bs 0 = (z,q 0,0))
  (hr:∀ k (h:k < K.length),((K[k]'h).sum = true ∧ q (k + 1) = q k ∧ A[k]'(by omega) = K[k]'h) ∨
   ((K[k]'h).sum = false ∧ ∃ a b v,i64 a ∧ i64 b ∧ getI bs (q k) = ((K[k]'h).row,a,0) ∧ getI bs a = ((K[k]'h).col,b,0) ∧ getI bs b = (v,q (k + 1),0) ∧ A[k]'(by omega) = { K[k]'h with value:=v })) :
  Ct Tryz.prog 93 [.va (.ptr ⟨4,0,0,0,0⟩),.va (.ptr ⟨1,0,0,0,0⟩)] F (hpR l J i j L K w s bs 0) 5 (finR l J i j L A w s):=by
 have S:=zf3 F bs 0 z (q 0) V ⟨by decide,by decide⟩ O;rcases K with _ | ⟨a0,ar⟩
 ·obtain rfl:A = []:=jv c;refine ct_of hΘ Tryz.func93 rfl (by decide) _ _ rfl rfl rfl ?_;refine use S [(1,4)] rfl ⟨rfl,tv⟩ rfl ⟨zbg bs _,tv⟩ (by simp [SV.below,SA.below]) ⟨rfl,tv⟩ ?_;rintro f F1 O n0 W ⟨rfl,rfl,rfl,rfl⟩;conv=>whnf
  refine zam hΘ (X:=Unit) (fun x=>[(12,.va (.int .i64 0))]) [3,4,13,14,15,16,17,18,19,20,21,22,23,24,25,26,27,28,29,30,31,32,33,34,35,36,37,38,39,40,41,42,43,44,45]
   (fun x=>[(0,.frz F),(1,docL l J L.length i 0 j w s),(2,rwE l 148 2 encN i L),(3,rwE J 151 6 encK j [])]) 5 (fun x=>0) ()
   (fun B D=>leI [] B D rfl ⟨tv,za3 (by omega) _ _ _ _ _ _ _ _,zan zal _ _ _ _ _ _,zan zad _ _ _ _ _ _,tv⟩ ⟨rfl,tv⟩ ⟨Fz.r F,rfl,zar zal (zao _ _ _ _ _),zar zad (zao _ _ _ _ _),tv⟩) ?_
  rintro ⟨⟩ B D;refine brd (by decide) ?_;exact clean [] (.ret (.tup [])) F [(1,docL l J L.length i 0 j w s),(2,rwE l 148 2 encN i L),(3,rwE J 151 6 encK j []),(4,.gone)] 5 ⟨Fz.r F,rfl,rfl,rfl⟩ (zah _) rfl rfl (by simp [Out.below,SV.below]) (zev (n:=5) (by omega) _ _ _ _ _ _ _ _) ⟨Fz.r F,rfl,zar zal (zao _ _ _ _ _),zar zad (zao _ _ _ _ _),tv⟩
 ·obtain rfl:=zdl hq;refine ct_of hΘ Tryz.func93 rfl (by decide) _ _ rfl rfl rfl ?_;refine use S [(1,4)] rfl ⟨rfl,tv⟩ rfl ⟨zbg bs _,tv⟩ (by simp [SV.below,SA.below]) ⟨rfl,tv⟩ ?_;rintro f F1 O n0 W ⟨rfl,rfl,rfl,rfl⟩;conv=>whnf
  refine zam hΘ (X:={ y:Nat × Cel × List Cel // y.1 ≤ ar.length + 1 ∧ y.2.1 :: y.2.2 = mxl A (a0 :: ar) y.1 }) (fun y=>[(12,.va (.int .i64 y.1.1))]) [3,4,13,14,15,16,17,18,19,20,21,22,23,24,25,26,27,28,29,30,31,32,33,34,35,36,37,38,39,40,41,42,43,44,45]
   (fun y=>[(0,.frz F),(1,docL l false L.length i (ar.length + 1) j w s),(2,rwE l 148 2 encN i L),(3,rwE false 151 6 encK j (y.1.2.1 :: y.1.2.2)),(4,mrd bs (q y.1.1))]) 5 (fun y=>ar.length + 1 - y.1.1) ⟨(0,a0,ar),yj _,(zf6 _ _).symm⟩
   (fun B D=>leI [] B D rfl ⟨tv,za3 (by omega) _ _ _ _ _ _ _ _,zan zal _ _ _ _ _ _,zan zad _ _ _ _ _ _,zbg bs _,tv⟩ ⟨rfl,tv⟩ ⟨Fz.r F,rfl,zar zal (zao _ _ _ _ _),zar zad (zao _ _ _ _ _),rfl,tv⟩) ?_
  rintro ⟨⟨k,a1,r1⟩,hk,d⟩ B D;replace hk:k ≤ ar.length + 1:=hk;replace d:a1 :: r1 = mxl A (a0 :: ar) k:=d;by_cases g:k < ar.length + 1
  ·have M:(k:Int) < ((ar.length + 1:Nat):Int):=by omega
   have o:ar.length + 1 - (k + 1) < ar.length + 1 - k:=by omega
   have p:k < 4611686018427387904:=by have:ar.length + 1 ≤ 1000:=hl; omega
   have E:=zkx (e:=encK) c g d;have T:=fun x=>zf5 (e:=encK) (x:=x) c g d
   have h2:=zf4 c (k + 1);obtain ⟨a2,r2,m⟩:=h2;rw [← m] at T;have U:=zua c g d;rw [← m] at U;have u:=fun x=>zn2 (e:=encK) (y:=x) c g d
   refine Or.elim (hr k g) (fun Q=>?_) (fun Q=>?_)
   ·have I:=U Q.2.2;have ab:=Q.2.1;refine bri M ?_;refine ⟨rfl,⟨ju k,M⟩,rfl,_,E,?_⟩;refine br (fun _=>?_) (fun h=>absurd (Q.1.symm.trans h) (by simp))
    exact ⟨⟨(k + 1,a2,r2),g,m⟩,o,leR [] B D rfl ⟨tv,za3 (by omega) _ _ _ _ _ _ _ _,zan zal _ _ _ _ _ _,zan zad _ _ _ _ _ _,zbg bs _,tv⟩ ⟨cnt p,tv⟩
     ⟨Fz.r F,rfl,zar zal (zao _ _ _ _ _),zar zad (rw_of I),yda ab,tv⟩⟩
   ·have ac:=Q.1;have ad:=Q.2;obtain ⟨a,b,v,ia,ib,ga,gb,gv,aa⟩:=ad;have c0:=zf3 F bs (q k) _ a V (hi k) ga;have Y:=zf3 F bs a _ b V ia gb;have Z:=zf3 F bs b _ (q (k + 1)) V ib gv;have ae:[SA.int .i64 ((a0 :: ar)[k]'g).row,.int .i64 ((a0 :: ar)[k]'g).col,.bool ((a0 :: ar)[k]'g).sum,.int .i64 v,.int .i64 ((a0 :: ar)[k]'g).top,.int .i64 ((a0 :: ar)[k]'g).left] = encK (A[k]'(by rw [c]; exact g)):=by rw [aa]; rfl
    refine bri M ?_;refine ⟨rfl,⟨ju k,M⟩,rfl,_,E,?_⟩;refine br (fun h=>absurd (ac.symm.trans h) (by simp)) (fun _=>?_);refine use c0 [(1,4)] rfl ⟨rfl,tv⟩ rfl ⟨zbg bs _,tv⟩ (by simp [SV.below,SA.below]) ⟨rfl,tv⟩ ?_;rintro f F1 O n0 W ⟨rfl,rfl,rfl,rfl⟩;refine use Y [(1,4)] rfl ⟨rfl,tv⟩ rfl ⟨zbg bs _,tv⟩ (by simp [SV.below,SA.below]) ⟨rfl,tv⟩ ?_;rintro f F1 O n0 W ⟨rfl,rfl,rfl,rfl⟩;refine use Z [(1,4)] rfl ⟨rfl,tv⟩ rfl ⟨zbg bs _,tv⟩ (by simp [SV.below,SA.below]) ⟨rfl,tv⟩ ?_;rintro f F1 O n0 W ⟨rfl,rfl,rfl,rfl⟩;refine ⟨rfl,_,E,rfl,_,u _,rfl,_,(congrArg (·[0 + (k:Int).toNat]?) (zlj _ _ _ _)).trans (u _),?_⟩
    exact ⟨⟨(k + 1,a2,r2),g,m⟩,o,leR [] B D rfl ⟨tv,za3 (by omega) _ _ _ _ _ _ _ _,zan zal _ _ _ _ _ _,zan zad _ _ _ _ _ _,zbg bs _,tv⟩ ⟨cnt p,tv⟩
     ⟨Fz.r F,rfl,zar zal (zao _ _ _ _ _),zar zad (rw_op rfl ((zz1 _ _ _ _ _).trans (T _ ae))),rfl,tv⟩⟩
  ·have M:¬ (k:Int) < ((ar.length + 1:Nat):Int):=by omega
   have R:a1 :: r1 = A:=by
    rw [d,show k = (a0 :: ar).length by show k = ar.length + 1; omega,zhi c]
   have G:docB l false L.length i (ar.length + 1) j w s = (docB l false L.length i A.length j w s).ren (sig []):=by rw [c]; rfl
   refine brj M ?_
   exact clean [] (.ret (.tup [])) F [(1,docL l false L.length i A.length j w s),(2,rwE l 148 2 encN i L),(3,rwE false 151 6 encK j A),(4,.gone)] 5 ⟨Fz.r F,rfl,rfl,rfl⟩ (zah _) rfl rfl (by simp [Out.below,SV.below]) (zev (n:=5) (by omega) _ _ _ _ _ _ _ _)
    ⟨Fz.r F,G,zar zal (zao _ _ _ _ _),zar zad (rw_of R),tv⟩
theorem z3n (F:Fz) (c d:Bool) (a b:Nat) (L:List DLn) (K:List Cel) (w:Int) (s:List UInt8) :
  Ct Tryz.prog 96 [.va .nilptr,.va (.ptr ⟨1,0,0,0,0⟩)] F (hpL c d a b L K w s) 4 (finL c d a b L K 0 []):=by
 refine ct_of hΘ Tryz.func96 rfl (by decide) _ _ rfl rfl rfl ?_;exact clean [] (.ret (.tup [])) F (hpL c d a b L K 0 []) 4 ⟨Fz.r F,rfl,rfl,rfl⟩ (zah _) rfl rfl (by simp [Out.below,SV.below]) (zb0 (by omega) _ _ _ _ _ _ _ _) ⟨Fz.r F,rfl,zar zal (zao _ _ _ _ _),zar zad (zao _ _ _ _ _),tv⟩
theorem z3o (F:Fz) (g h:Bool) (e f:Nat) (L:List DLn) (K:List Cel) (w m z:Int) (s i bs:List UInt8) (a b c:Int) (l:bs.length ≤ 1000000000000000000) (A:i64 a) (ib:i64 b) (u:getI bs 0 = (m,a,0)) (x:getI bs a = (z,b,0)) (y:getS bs b = (i,c,0)) :
  Ct Tryz.prog 96 [.va (.ptr ⟨4,0,0,0,0⟩),.va (.ptr ⟨1,0,0,0,0⟩)] F (hpR g h e f L K w s bs 0) 5 (finR g h e f L K m i):=by
 have q:=zf3 F bs 0 _ a l ⟨by decide,by decide⟩ u;have j:=zf3 F bs a _ b l A x;have k:=zyv F bs b c i l ib y;refine ct_of hΘ Tryz.func96 rfl (by decide) _ _ rfl rfl rfl ?_;refine use q [(1,4)] rfl ⟨rfl,tv⟩ rfl ⟨zbg bs _,tv⟩ (by simp [SV.below,SA.below]) ⟨rfl,tv⟩ ?_;rintro d F1 o n0 p ⟨rfl,rfl,rfl,rfl⟩;refine use j [(1,4)] rfl ⟨rfl,tv⟩ rfl ⟨zbg bs _,tv⟩ (by simp [SV.below,SA.below]) ⟨rfl,tv⟩ ?_;rintro d F1 o n0 p ⟨rfl,rfl,rfl,rfl⟩;refine use k [(1,4)] rfl ⟨rfl,tv⟩ rfl ⟨zbg bs _,tv⟩ (by simp [SV.below,SA.below]) ⟨rfl,tv⟩ ?_;rintro d F1 o n0 p ⟨rfl,rfl,rfl,rfl⟩;exact clean [] (.ret (.tup [])) F [(1,docL g h L.length e K.length f m i),(2,rwE g 148 2 encN e L),(3,rwE h 151 6 encK f K),(4,.gone)] 5 ⟨Fz.r F,rfl,rfl,rfl⟩ (zah _) rfl rfl (by simp [Out.below,SV.below]) (zev (n:=5) (by omega) _ _ _ _ _ _ _ _) ⟨Fz.r F,rfl,zar zal (zao _ _ _ _ _),zar zad (zao _ _ _ _ _),tv⟩
def posn (a:List UInt8) (C:List (List UInt8)) (k:Nat):List UInt8:=a ++ (C.take k).flatten
theorem zh8 {a:List UInt8} {C:List (List UInt8)} {k:Nat} (h:k < C.length):posn a C (k + 1) = posn a C k ++ C[k]:=by
 unfold posn;rw [qg h,yl,ql]; simp
theorem zg4 (a:List UInt8) {C:List (List UInt8)} {k:Nat} (h:k < C.length):a ++ C.flatten = posn a C k ++ (C[k] ++ (C.drop (k + 1)).flatten):=by
 unfold posn
 conv=>lhs; rw [← y4 k C,qx h,yl,jw]
 rw [ql]
theorem yae (a:List UInt8) (C:List (List UInt8)) (k:Nat):(posn a C k).length ≤ (a ++ C.flatten).length:=by
 rcases qb8 k C.length with h | h
 ·rw [zg4 a h,qd]; omega
 ·unfold posn; rw [qn h]; exact qm _
def posI (a:List UInt8) (C:List (List UInt8)) (k:Nat):Int:=((posn a C k).length:Nat)
theorem zn8 {a:List UInt8} {C:List (List UInt8)} (b:(a ++ C.flatten).length ≤ 1000000000000000000) (k:Nat):i64 (posI a C k):=by
 have:=yae a C k;unfold posI i64; omega
theorem nums1 {n:Int} (h:okI n):zae [n] = putI n:=by simp [zae,zee h]
theorem znt {n:Int} (h:okI n) (C:List (List UInt8)):getI (zae [n] ++ C.flatten) 0 = (n,posI (zae [n]) C 0,0):=by
 have h1:=zck [] C.flatten h;have e:posI (zae [n]) C 0 = ((putI n).length:Nat):=by unfold posI posn; rw [nums1 h]; simp
 rw [e,nums1 h];exact h1
theorem z3f {a:List UInt8} {C:List (List UInt8)} {k:Nat} (h:k < C.length) {t:List UInt8} (c:t.length ≤ 65536) (b:C[k] = (putSR t).1):getS (a ++ C.flatten) (posI a C k) = (t,posI a C (k + 1),0):=by
 rw [zg4 a h,b,posI,zjx _ _ _ c,posI,zh8 h,b]
theorem z3e {a:List UInt8} {C:List (List UInt8)} {k:Nat} (h:k < C.length) {n:Int} (c:okI n) (b:C[k] = putI n):getI (a ++ C.flatten) (posI a C k) = (n,posI a C (k + 1),0):=by
 rw [zg4 a h,b,posI,zck _ _ c,posI,zh8 h,b]
theorem zv5 {c:List UInt8} {C:List (List UInt8)} {k:Nat} (h:k < C.length) {x y z:Int} (m:okI x) (n:okI y) (o:okI z) (i:C[k] = putI x ++ (putI y ++ putI z)) (j:(c ++ C.flatten).length ≤ 1000000000000000000) :
  ∃ a b:Int,i64 a ∧ i64 b ∧ getI (c ++ C.flatten) (posI c C k) = (x,a,0) ∧ getI (c ++ C.flatten) a = (y,b,0) ∧ getI (c ++ C.flatten) b = (z,posI c C (k + 1),0):=by
 have e:=zg4 c h;have d:c ++ C.flatten = posn c C k ++ (putI x ++ (putI y ++ (putI z ++ (C.drop (k + 1)).flatten))):=by rw [e,i]; simp only [ql]
 have f:c ++ C.flatten = (posn c C k ++ putI x) ++ (putI y ++ (putI z ++ (C.drop (k + 1)).flatten)):=by rw [d]; simp only [ql]
 have g:c ++ C.flatten = (posn c C k ++ putI x ++ putI y) ++ (putI z ++ (C.drop (k + 1)).flatten):=by rw [d]; simp only [ql]
 have l:posn c C (k + 1) = posn c C k ++ putI x ++ putI y ++ putI z:=by rw [zh8 h,i]; simp only [ql]
 refine ⟨((posn c C k ++ putI x).length:Nat),((posn c C k ++ putI x ++ putI y).length:Nat),?_,?_,?_,?_,?_⟩
 ·have:=congrArg List.length f;simp only [qd] at this j ⊢;unfold i64; omega
 ·have:=congrArg List.length g;simp only [qd] at this j ⊢;unfold i64; omega
 ·rw [posI,d]; exact zck _ _ m
 ·rw [f]; exact zck _ _ n
 ·rw [posI,l,g]; exact zck _ _ o
def zhu (c:Cel):List UInt8:=if c.sum = true then [] else zae [c.row,c.col,c.value]
theorem zjh:∀ l:List Cel,(l.map zhu).flatten = ((l.filter (keepQ false)).map fun c=>zae [c.row,c.col,c.value]).flatten
 |[]=>rfl
 |c :: r=>by
  rw [qv,jw,zjh r,List.filter_cons];by_cases h:c.sum = true
  ·have e:keepQ false c = false:=by unfold keepQ; rw [h]; rfl
   rw [zhu,if_pos h,e]; rfl
  ·have h:c.sum = false:=by simpa using h
   have e:keepQ false c = true:=by unfold keepQ; rw [h]; rfl
   rw [zhu,if_neg (by rw [h]; decide),e]; rfl
theorem zde {n:Int} (h:-1000000000000000 ≤ n ∧ n ≤ 1000000000000000):okI n:=by unfold okI; omega
theorem z0h {L:List DLn} (c:L.length ≤ 1000) (b:∀ l ∈ L,l.1.length ≤ 65536) (a:(ptext L).length ≤ 1000000000000000000) :
  ∃ q:Nat → Int,(∀ k,i64 (q k)) ∧ getI (ptext L) 0 = ((L.length:Int),q 0,0) ∧ ∀ k (h:k < L.length),getS (ptext L) (q k) = ((L[k]'h).1,q (k + 1),0):=by
 have e:ptext L = zae [(L.length:Int)] ++ (L.map fun x=>(putSR x.1).1).flatten:=rfl;rw [e] at a ⊢;refine ⟨posI (zae [(L.length:Int)]) (L.map fun x=>(putSR x.1).1),zn8 a,znt (zde (by omega)) _,fun k h=>?_⟩;exact z3f (by rw [qa]; exact h) (b _ (jp h)) (by rw [yq])
theorem zyu {L:List DLn} (m:L.length ≤ 1000) (j:∀ l ∈ L,okI l.2) (d:(pmot L).length ≤ 1000000000000000000) :
  ∃ q:Nat → Int,(∀ k,i64 (q k)) ∧ getI (pmot L) 0 = ((L.length:Int),q 0,0) ∧ ∀ k (h:k < L.length),getI (pmot L) (q k) = ((L[k]'h).2,q (k + 1),0):=by
 obtain ⟨a,f⟩:∃ a,zae [(L.length:Int)] = a:=⟨_,rfl⟩
 obtain ⟨C,b⟩:∃ C,L.map (fun x=>zae [x.2]) = C:=⟨_,rfl⟩
 have g:getI (a ++ C.flatten) 0 = ((L.length:Int),posI a C 0,0):=by
  rw [← f]; exact znt (zde (by omega)) C
 have e:pmot L = a ++ C.flatten:=by rw [← f,← b]; rfl
 rw [e] at d ⊢;refine ⟨posI a C,zn8 d,g,fun k h=>?_⟩;have h1:=j _ (jp h);have i:k < C.length:=by rw [← b,qa]; exact h
 have c:C[k] = putI (L[k]'h).2:=by
  subst b;rw [yq,nums1 h1]
 exact z3e i h1 c
theorem zwx {K:List Cel} (n:K.length ≤ 1000) (o:∀ c ∈ K,okI c.row ∧ okI c.col ∧ okI c.value) (f:(zcl false K).length ≤ 1000000000000000000) :
  ∃ (q:Nat → Int) (z:Int),(∀ k,i64 (q k)) ∧ getI (zcl false K) 0 = (z,q 0,0) ∧ ∀ k (h:k < K.length),((K[k]'h).sum = true ∧ q (k + 1) = q k) ∨
   ((K[k]'h).sum = false ∧ ∃ a b,i64 a ∧ i64 b ∧ getI (zcl false K) (q k) = ((K[k]'h).row,a,0) ∧ getI (zcl false K) a = ((K[k]'h).col,b,0) ∧ getI (zcl false K) b = ((K[k]'h).value,q (k + 1),0)):=by
 have p:(K.filter (keepQ false)).length ≤ 1000:=js (qad _ _) n
 have e:zcl false K = zae [((K.filter (keepQ false)).length:Int)] ++ (K.map zhu).flatten:=by
  rw [zjh]; rfl
 rw [e] at f ⊢;refine ⟨posI (zae [((K.filter (keepQ false)).length:Int)]) (K.map zhu),_,zn8 f,znt (zde (by omega)) _,fun k h=>?_⟩;have g:k < (K.map zhu).length:=by rw [qa]; exact h
 by_cases d:(K[k]'h).sum = true
 ·refine .inl ⟨d,?_⟩;have m:(K.map zhu)[k] = []:=by rw [yq,zhu,if_pos d]
  rw [posI,posI,zh8 g,m,jm]
 ·have d:(K[k]'h).sum = false:=by simpa using d
  obtain ⟨i,j,l⟩:=o _ (jp h);refine .inr ⟨d,zv5 g i j l ?_ f⟩;rw [yq,zhu,if_neg (by rw [d]; decide)];simp only [zae,qv,yv,jw,qaq,zee i,zee j,zee l,jm]
theorem zzj {w h:Int} {s:List UInt8} (f:okI w) (d:okI h) (k:s.length ≤ 65536) :
  ∃ a b c:Int,i64 a ∧ i64 b ∧ getI (zae [w,h] ++ (putSR s).1) 0 = (w,a,0) ∧ getI (zae [w,h] ++ (putSR s).1) a = (h,b,0) ∧ getS (zae [w,h] ++ (putSR s).1) b = (s,c,0):=by
 have l:=zia w f;have m:=zia h d
 have e:zae [w,h] ++ (putSR s).1 = putI w ++ (putI h ++ ((putSR s).1 ++ [])):=by
  simp only [zae,qv,yv,jw,qaq,zee f,zee d,jm,ql]
 have i:=zck [] (putI h ++ ((putSR s).1 ++ [])) f;have j:=zck (putI w) ((putSR s).1 ++ []) d;have g:=zjx (putI w ++ putI h) [] s k;rw [e];rw [ql (putI w)] at g;refine ⟨((putI w).length:Nat),((putI w ++ putI h).length:Nat),_,?_,?_,i,j,g⟩
 ·unfold i64; omega
 ·rw [qd]; unfold i64; omega
theorem zh1 (F:Fz) (hM:MLF F) (sk:SA) (m:Mig) (p:Int) (hp:1 ≤ p ∧ p ≤ 8) (g:FuncId) (a1 b1:SA) (d:Dc) (hk:KpsAt F sk m.keep) (Z:short m.keep) (aj:m.keep.length < 1000000) (hD:DocAt F a1 b1 d) (O:DcSmall d) (hd:docOk d = true)
  (n o:Bool) (i j:Nat) (L M:List DLn) (K J:List Cel) (w T:Int) (s S:List UInt8)
  (h0:zak p m.keep = [] → M = L ∧ J = K ∧ T = w ∧ S = s)
  (h1:zak p m.keep = [(6,0)] → ∀ F1,Ct Tryz.prog g [.va .nilptr,.va (.ptr ⟨1,0,0,0,0⟩)] F1 (hpL n o i j L K w s) 4 (finL n o i j M J T S))
  (h2:zak p m.keep ≠ [] → zak p m.keep ≠ [(6,0)] → ∀ F1,Ct Tryz.prog g [.va (.ptr ⟨4,0,0,0,0⟩),.va (.ptr ⟨1,0,0,0,0⟩)] F1 (hpR n o i j L K w s (zdb p (zak p m.keep) (propB p d)).1 0) 5 (finR n o i j M J T S)) :
  Ct Tryz.prog 88 [.agg (migS m sk),.agg (docS a1 b1 d.w d.bits),.va (.int .i64 p),.va (.fn (.func g) [⟨1,0,0,0,0⟩])] F (hpL n o i j L K w s) 4 (finL n o i j M J T S):=by
 have k:=zk3 F sk m p hk Z aj;have R:=zhn Z p;obtain ⟨t,ht⟩:∃ t,zak p m.keep = t:=⟨_,rfl⟩
 rw [ht] at k h0 h1 h2 R;obtain ⟨bs,ai⟩:∃ bs,(zdb p t (propB p d)).1 = bs:=⟨_,rfl⟩
 have am:=zcy (p:=p) hd;have X:=fun F1 (h:Fz.le F F1) V hb=>zs1 F1 (hM.mono h) V t p (propB p d) hb R (by omega)
 rw [ai] at X h2;have aa:=fun F1 V hb=>zpw F1 V t hb R
 obtain ⟨id,src,al,ak,ks⟩:=m;obtain ⟨kn,kb,ke,kc,kL,kr,rfl,k1,k2,k3,k4⟩:=hk;obtain ⟨an,ab,ae,ac,bn,bb,be,bc,rfl,rfl,hL,hK,Y⟩:=hD;have af:=fun F1 (h:Fz.le F F1)=>zzf pfun F1 an ab ae ac bn bb be bc d (hL.mono h) (hK.mono h) O.l O.c O.b Y p hp
 have ad:pAns p d = .ret (.tup [.va (.str (propB p d)),.va (.int .i64 0)]):=by rw [pAns,if_pos hd,if_pos hd]
 simp only [ad] at af;clear ad ht
 have Q:t = [] ∨ t = [(6,0)] ∨ (0 < t.length ∧ t ≠ [] ∧ t ≠ [(6,0)]):=by
  by_cases e:t = []
  ·exact .inl e
  ·by_cases W:t = [(6,0)]
   ·exact .inr (.inl W)
   ·exact .inr (.inr ⟨qa5.2 e,e,W⟩)
 refine Or.elim Q (fun e=>?_) (fun Q=>Or.elim Q (fun e=>?_) (fun e=>?_))
 ·subst e;obtain ⟨rfl,rfl,rfl,rfl⟩:=h0 rfl;refine ct_of hΘ Tryz.func88 rfl (by decide) _ _ rfl rfl rfl ?_;refine useFo k rfl (zaa _) rfl ?_;rintro _ F1 h ⟨V,rfl,a⟩;obtain ⟨G,B,E,D,A,I,rfl,q,u,x,y⟩:=a;refine bre (by decide) ?_;exact clean [] (.ret (.tup [])) F1 (hpL n o i j M J T S) 4 ⟨h,rfl,rfl,rfl⟩ (zah _) rfl rfl (by simp [Out.below,SV.below]) (zb0 (by omega) _ _ _ _ _ _ _ _) ⟨Fz.r F1,rfl,zar zal (zao _ _ _ _ _),zar zad (zao _ _ _ _ _),tv⟩
 ·subst e;have hc:=h1 rfl;refine ct_of hΘ Tryz.func88 rfl (by decide) _ _ rfl rfl rfl ?_;refine useFo k rfl (zaa _) rfl ?_;rintro _ F1 h ⟨V,rfl,a⟩;have f:=a;obtain ⟨G,B,E,D,A,I,rfl,q,u,x,y⟩:=a;refine brd (by decide) ?_;refine useFo (aa F1 _ f) rfl (zaa _) rfl ?_;rintro _ F2 U rfl;refine bre (by decide) ?_;refine use (hc F2) [(1,1),(2,2),(3,3)] rfl ⟨rfl,rfl,tv⟩ rfl (zb0 (by omega) _ _ _ _ _ _ _ _) (by simp [SV.below,SA.below]) ⟨rfl,zar zal (zao _ _ _ _ _),zar zad (zao _ _ _ _ _),tv⟩ ?_;rintro ag F3 x0 n0 l3 ⟨rfl,rfl,rfl⟩;exact clean [] (.ret (.tup [])) F3 (hpL n o i j M J T S) 4 ⟨Fz.t h (Fz.t U l3),rfl,rfl,rfl⟩ (zah _) rfl rfl (by simp [Out.below,SV.below]) (zb0 (by omega) _ _ _ _ _ _ _ _) ⟨Fz.r F3,rfl,zc5 zal,zc5 zad,tv⟩
 ·have e0:=e.1;have W:=e.2.2;have ti:¬ (t.length:Int) = 0:=by omega
  have hc:=h2 e.2.1 W;refine ct_of hΘ Tryz.func88 rfl (by decide) _ _ rfl rfl rfl ?_;refine useFo k rfl (zaa _) rfl ?_;rintro _ F1 h ⟨V,rfl,a⟩;have f:=a;obtain ⟨G,B,E,D,A,I,rfl,q,u,x,y⟩:=a;refine brj ti ?_;refine useFo (aa F1 _ f) rfl (zaa _) rfl ?_;rintro _ F2 U rfl;refine brj W ?_;refine useFo (af F2 (Fz.t h U)) rfl (zaa _) rfl ?_;rintro _ F3 l3 rfl;have ah:=f.mono (Fz.t U l3);have ha:=X F3 (Fz.t h (Fz.t U l3)) _ ah;refine useFo ha rfl (zaa _) rfl ?_;rintro _ F4 l4 rfl;refine use (hc F4) [(1,1),(2,2),(3,3),(4,6)] rfl ⟨rfl,rfl,tv⟩ rfl ⟨za3 (by omega) _ _ _ _ _ _ _ _,zan zal _ _ _ _ _ _,zan zad _ _ _ _ _ _,zbg _ _,tv⟩ (by simp [SV.below,SA.below]) ⟨rfl,zar zal (zao _ _ _ _ _),zar zad (zao _ _ _ _ _),rfl,tv⟩ ?_;rintro ag F5 x0 n0 l5 ⟨rfl,rfl,rfl⟩;exact clean [] (.ret (.tup [])) F5 (hpL n o i j M J T S) 4 ⟨Fz.t h (Fz.t U (Fz.t l3 (Fz.t l4 l5))),rfl,rfl,rfl⟩ (zah _) rfl rfl (by simp [Out.below,SV.below]) (zb0 (by omega) _ _ _ _ _ _ _ _) ⟨Fz.r F5,rfl,zc5 zal,zc5 zad,tv⟩
end Go.Proofs.YtfnkamphhpldcaaGreatDoor
