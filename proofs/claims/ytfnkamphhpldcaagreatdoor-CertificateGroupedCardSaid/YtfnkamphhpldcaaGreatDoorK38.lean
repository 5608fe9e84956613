import Derived.Test.YtfnkamphhpldcaaGreatDoorK37
set_option maxHeartbeats 64000000
namespace Go.Proofs.YtfnkamphhpldcaaGreatDoor
open Go Sx
set_option maxRecDepth 100000
abbrev hpR (b c:Bool) (a c2:Nat) (L:List DLn) (K:List Cel) (w:Int) (s bs:List UInt8) (p:Int):List (Nat × Ent):=[(1,docL b c L.length a K.length c2 w s),(2,rwE b 148 2 encN a L),(3,rwE c 151 6 encK c2 K),(4,mrd bs p)]
abbrev finR (b c:Bool) (a c2:Nat) (L:List DLn) (K:List Cel) (w:Int) (s:List UInt8):Out → Fz → List (Nat × Ent) → Nat → Prop:=fun o _ d n0=>n0 = 5 ∧ o = .ret (.tup []) ∧ d = [(1,docL b c L.length a K.length c2 w s),(2,rwE b 148 2 encN a L),(3,rwE c 151 6 encK c2 K),(4,.gone)]
theorem ze8 {n:Nat} (h:3 < n) {l d:Nat} (b c:Bool) (a c2:Nat) (L:List DLn) (K:List Cel) (w:Int) (s:List UInt8):bH n [(1,docL b c l a d c2 w s),(2,rwE b 148 2 encN a L),(3,rwE c 151 6 encK c2 K),(4,.gone)]:=
 ⟨za6 h _ _ _ _ _ _ _ _,zan zal _ _ _ _ _ _,zan zad _ _ _ _ _ _,tv,tv⟩
theorem zvk {α:Type} {A B L:List α} (h:A.length = B.length) {k:Nat} (a:k < B.length) (c:L = mxl A B k) (e:A[k]'(by omega) = B[k]):L = mxl A B (k + 1):=by
 rw [c,← z0c h a,e];have h1:=z0b h a;obtain ⟨d,b⟩:=qf.1 h1;rw [← b,List.set_getElem_self]
theorem yca {bs:List UInt8} {p a:Int} (h:a = p) {μ:Mu}:SB.cells 228 [.str bs,.int .i64 p] = SB.ren μ (.cells 228 [.str bs,.int .i64 a]):=by subst h; rfl
theorem z1h {α:Type} (l:List α) (k:Nat) (x y z:α):((l.set k x).set k y).set k z = l.set k z:=by simp
theorem z5o (F:Fz) (l d:Bool) (c c2:Nat) (L A:List DLn) (K:List Cel) (w:Int) (s bs:List UInt8) (q:Nat → Int) (z:Int) (hq:l = true → L = []) (hl:L.length ≤ 1000) (a:A.length = L.length)
  (T:bs.length ≤ 1000000000000000000) (hi:∀ k,i64 (q k)) (O:getI bs 0 = (z,q 0,0)) (hr:∀ k (h:k < L.length),getS bs (q k) = ((A[k]'(by omega)).1,q (k + 1),0) ∧ (A[k]'(by omega)).2 = (L[k]'h).2) :
  Ct Tryz.prog 89 [.va (.ptr ⟨4,0,0,0,0⟩),.va (.ptr ⟨1,0,0,0,0⟩)] F (hpR l d c c2 L K w s bs 0) 5 (finR l d c c2 A K w s):=by
 have G:=zgk F bs 0 z (q 0) T ⟨by decide,by decide⟩ O;rcases L with _ | ⟨a0,ar⟩
 ·obtain rfl:A = []:=jo a;refine ct_of hΘ Tryz.func89 rfl (by decide) _ _ rfl rfl rfl ?_;refine use G [(1,4)] rfl ⟨rfl,tv⟩ rfl ⟨zbl bs _,tv⟩ (by simp [SV.below,SA.below]) ⟨rfl,tv⟩ ?_;rintro f F1 O n0 V ⟨rfl,rfl,rfl,rfl⟩;conv=>whnf
  refine zam hΘ (X:=Unit) (fun x=>[(11,.va (.int .i64 0))]) (3::jr 12 17 [])
   (fun x=>[(0,.frz F),(1,docL l d 0 c K.length c2 w s),(2,rwE l 148 2 encN c []),(3,rwE d 151 6 encK c2 K)]) 5 (fun x=>0) ()
   (fun m o=>leI [] m o rfl ⟨tv,za6 (by omega) _ _ _ _ _ _ _ _,zan zal _ _ _ _ _ _,zan zad _ _ _ _ _ _,tv⟩ ⟨rfl,tv⟩ ⟨Fz.r F,rfl,zar zal (zao _ _ _ _ _),zar zad (zao _ _ _ _ _),tv⟩) ?_
  rintro ⟨⟩ m o;refine brd (by decide) ?_;exact clean [] (.ret (.tup [])) F [(1,docL l d 0 c K.length c2 w s),(2,rwE l 148 2 encN c []),(3,rwE d 151 6 encK c2 K),(4,.gone)] 5 ⟨Fz.r F,rfl,rfl,rfl⟩ (zah _) rfl rfl (by simp [Out.below,SV.below]) (ze8 (n:=5) (by omega) _ _ _ _ _ _ _ _) ⟨Fz.r F,rfl,zar zal (zao _ _ _ _ _),zar zad (zao _ _ _ _ _),tv⟩
 ·obtain rfl:=zdr hq;refine ct_of hΘ Tryz.func89 rfl (by decide) _ _ rfl rfl rfl ?_;refine use G [(1,4)] rfl ⟨rfl,tv⟩ rfl ⟨zbl bs _,tv⟩ (by simp [SV.below,SA.below]) ⟨rfl,tv⟩ ?_;rintro f F1 O n0 V ⟨rfl,rfl,rfl,rfl⟩;conv=>whnf
  refine zam hΘ (X:={ y:Nat × DLn × List DLn // y.1 ≤ ar.length + 1 ∧ y.2.1 :: y.2.2 = mxl A (a0 :: ar) y.1 }) (fun y=>[(11,.va (.int .i64 y.1.1))]) (3::jr 12 17 [])
   (fun y=>[(0,.frz F),(1,docL false d (ar.length + 1) c K.length c2 w s),(2,rwE false 148 2 encN c (y.1.2.1 :: y.1.2.2)),(3,rwE d 151 6 encK c2 K),(4,mrd bs (q y.1.1))]) 5 (fun y=>ar.length + 1 - y.1.1) ⟨(0,a0,ar),yd _,(zgn _ _).symm⟩
   (fun m o=>leI [] m o rfl ⟨tv,za6 (by omega) _ _ _ _ _ _ _ _,zan zal _ _ _ _ _ _,zan zad _ _ _ _ _ _,zbl bs _,tv⟩ ⟨rfl,tv⟩ ⟨Fz.r F,rfl,zar zal (zao _ _ _ _ _),zar zad (zao _ _ _ _ _),rfl,tv⟩) ?_
  rintro ⟨⟨k,S,W⟩,U,b⟩ m o;replace U:k ≤ ar.length + 1:=U;replace b:S :: W = mxl A (a0 :: ar) k:=b;by_cases g:k < ar.length + 1
  ·have p:(k:Int) < ((ar.length + 1:Nat):Int):=by omega
   have u:ar.length + 1 - (k + 1) < ar.length + 1 - k:=by omega
   have D:k < 4611686018427387904:=by have:ar.length + 1 ≤ 1000:=hl; omega
   have Q:=zln (e:=encN) a g b;have I:=fun x=>zgm (e:=encN) (x:=x) a g b
   have J:=hr k g;have Z:=zgl a (k + 1);obtain ⟨Y,r2,E⟩:=Z;rw [← E] at I;have i:=z0a F bs (q k) (q (k + 1)) _ T (hi k) J.1
   have R:[SA.str (A[k]'(by rw [a]; exact g)).1,.int .i64 ((a0 :: ar)[k]'g).2] = encN (A[k]'(by rw [a]; exact g)):=by
    rw [← J.2]; rfl
   have M:=fun x=>zov (e:=encN) (y:=x) a g b
   refine bri p ⟨rfl,⟨jw k,p⟩,rfl,_,Q,?_⟩;refine drawP hΘ mixed (lk [0,1,2,3] (.alt 4 (.look 5 (.look 6 (.alt 7 .done .nil))) .nil)) [1] (by kernel_rfl) ⟨rfl,?_⟩;refine use i [(1,4)] rfl ⟨rfl,tv⟩ rfl ⟨zbl bs _,tv⟩ (by simp [SV.below,SA.below]) ⟨rfl,tv⟩ ?_;rintro f F1 O n0 V ⟨rfl,rfl,rfl,rfl⟩;refine ⟨Fz.r F,rfl,rfl,⟨jw k,p⟩,rfl,_,M _,Fz.r F,rfl,?_⟩
   exact ⟨⟨(k + 1,Y,r2),g,E⟩,u,leR [] m o rfl ⟨tv,za6 (by omega) _ _ _ _ _ _ _ _,zan zal _ _ _ _ _ _,zan zad _ _ _ _ _ _,zbl bs _,tv⟩ ⟨cnt D,tv⟩
    ⟨Fz.r F,rfl,zar zal (rw_op rfl ((zmb _ _ _ _).trans (I _ R))),zar zad (zao _ _ _ _ _),rfl,tv⟩⟩
  ·have p:¬ (k:Int) < ((ar.length + 1:Nat):Int):=by omega
   have B:S :: W = A:=by
    rw [b,show k = (a0 :: ar).length by show k = ar.length + 1; omega,zh1 a]
   have j:docB false d (ar.length + 1) c K.length c2 w s = (docB false d A.length c K.length c2 w s).ren (sig []):=by rw [a]; rfl
   refine brj p ?_
   exact clean [] (.ret (.tup [])) F [(1,docL false d A.length c K.length c2 w s),(2,rwE false 148 2 encN c A),(3,rwE d 151 6 encK c2 K),(4,.gone)] 5 ⟨Fz.r F,rfl,rfl,rfl⟩ (zah _) rfl rfl (by simp [Out.below,SV.below]) (ze8 (n:=5) (by omega) _ _ _ _ _ _ _ _)
    ⟨Fz.r F,j,zar zal (rw_of B),zar zad (zao _ _ _ _ _),tv⟩
theorem z5q (F:Fz) (l d:Bool) (c c2:Nat) (L A:List DLn) (K:List Cel) (w:Int) (s bs:List UInt8) (q:Nat → Int) (z:Int) (hq:l = true → L = []) (hl:L.length ≤ 1000) (a:A.length = L.length)
  (T:bs.length ≤ 1000000000000000000) (hi:∀ k,i64 (q k)) (O:getI bs 0 = (z,q 0,0)) (hr:∀ k (h:k < L.length),getI bs (q k) = ((A[k]'(by omega)).2,q (k + 1),0) ∧ (A[k]'(by omega)).1 = (L[k]'h).1) :
  Ct Tryz.prog 92 [.va (.ptr ⟨4,0,0,0,0⟩),.va (.ptr ⟨1,0,0,0,0⟩)] F (hpR l d c c2 L K w s bs 0) 5 (finR l d c c2 A K w s):=by
 have G:=zgk F bs 0 z (q 0) T ⟨by decide,by decide⟩ O;rcases L with _ | ⟨a0,ar⟩
 ·obtain rfl:A = []:=jo a;refine ct_of hΘ Tryz.func92 rfl (by decide) _ _ rfl rfl rfl ?_;refine use G [(1,4)] rfl ⟨rfl,tv⟩ rfl ⟨zbl bs _,tv⟩ (by simp [SV.below,SA.below]) ⟨rfl,tv⟩ ?_;rintro f F1 O n0 V ⟨rfl,rfl,rfl,rfl⟩;conv=>whnf
  refine zam hΘ (X:=Unit) (fun x=>[(11,.va (.int .i64 0))]) (3::jr 12 17 [])
   (fun x=>[(0,.frz F),(1,docL l d 0 c K.length c2 w s),(2,rwE l 148 2 encN c []),(3,rwE d 151 6 encK c2 K)]) 5 (fun x=>0) ()
   (fun m o=>leI [] m o rfl ⟨tv,za6 (by omega) _ _ _ _ _ _ _ _,zan zal _ _ _ _ _ _,zan zad _ _ _ _ _ _,tv⟩ ⟨rfl,tv⟩ ⟨Fz.r F,rfl,zar zal (zao _ _ _ _ _),zar zad (zao _ _ _ _ _),tv⟩) ?_
  rintro ⟨⟩ m o;refine brd (by decide) ?_;exact clean [] (.ret (.tup [])) F [(1,docL l d 0 c K.length c2 w s),(2,rwE l 148 2 encN c []),(3,rwE d 151 6 encK c2 K),(4,.gone)] 5 ⟨Fz.r F,rfl,rfl,rfl⟩ (zah _) rfl rfl (by simp [Out.below,SV.below]) (ze8 (n:=5) (by omega) _ _ _ _ _ _ _ _) ⟨Fz.r F,rfl,zar zal (zao _ _ _ _ _),zar zad (zao _ _ _ _ _),tv⟩
 ·obtain rfl:=zdr hq;refine ct_of hΘ Tryz.func92 rfl (by decide) _ _ rfl rfl rfl ?_;refine use G [(1,4)] rfl ⟨rfl,tv⟩ rfl ⟨zbl bs _,tv⟩ (by simp [SV.below,SA.below]) ⟨rfl,tv⟩ ?_;rintro f F1 O n0 V ⟨rfl,rfl,rfl,rfl⟩;conv=>whnf
  refine zam hΘ (X:={ y:Nat × DLn × List DLn // y.1 ≤ ar.length + 1 ∧ y.2.1 :: y.2.2 = mxl A (a0 :: ar) y.1 }) (fun y=>[(11,.va (.int .i64 y.1.1))]) (3::jr 12 17 [])
   (fun y=>[(0,.frz F),(1,docL false d (ar.length + 1) c K.length c2 w s),(2,rwE false 148 2 encN c (y.1.2.1 :: y.1.2.2)),(3,rwE d 151 6 encK c2 K),(4,mrd bs (q y.1.1))]) 5 (fun y=>ar.length + 1 - y.1.1) ⟨(0,a0,ar),yd _,(zgn _ _).symm⟩
   (fun m o=>leI [] m o rfl ⟨tv,za6 (by omega) _ _ _ _ _ _ _ _,zan zal _ _ _ _ _ _,zan zad _ _ _ _ _ _,zbl bs _,tv⟩ ⟨rfl,tv⟩ ⟨Fz.r F,rfl,zar zal (zao _ _ _ _ _),zar zad (zao _ _ _ _ _),rfl,tv⟩) ?_
  rintro ⟨⟨k,S,W⟩,U,b⟩ m o;replace U:k ≤ ar.length + 1:=U;replace b:S :: W = mxl A (a0 :: ar) k:=b;by_cases g:k < ar.length + 1
  ·have p:(k:Int) < ((ar.length + 1:Nat):Int):=by omega
   have u:ar.length + 1 - (k + 1) < ar.length + 1 - k:=by omega
   have D:k < 4611686018427387904:=by have:ar.length + 1 ≤ 1000:=hl; omega
   have Q:=zln (e:=encN) a g b;have I:=fun x=>zgm (e:=encN) (x:=x) a g b
   have J:=hr k g;have Z:=zgl a (k + 1);obtain ⟨Y,r2,E⟩:=Z;rw [← E] at I;have i:=zgk F bs (q k) _ (q (k + 1)) T (hi k) J.1
   have R:[SA.str ((a0 :: ar)[k]'g).1,.int .i64 (A[k]'(by rw [a]; exact g)).2] = encN (A[k]'(by rw [a]; exact g)):=by
    rw [← J.2]; rfl
   have M:=fun x=>zov (e:=encN) (y:=x) a g b
   refine bri p ⟨rfl,⟨jw k,p⟩,rfl,_,Q,?_⟩;refine drawP hΘ mixed (lk [0,1,2,3] (.alt 4 (.look 5 (.look 6 (.alt 7 .done .nil))) .nil)) [1] (by kernel_rfl) ⟨rfl,?_⟩;refine use i [(1,4)] rfl ⟨rfl,tv⟩ rfl ⟨zbl bs _,tv⟩ (by simp [SV.below,SA.below]) ⟨rfl,tv⟩ ?_;rintro f F1 O n0 V ⟨rfl,rfl,rfl,rfl⟩;refine ⟨Fz.r F,rfl,rfl,⟨jw k,p⟩,rfl,_,M _,Fz.r F,rfl,?_⟩
   exact ⟨⟨(k + 1,Y,r2),g,E⟩,u,leR [] m o rfl ⟨tv,za6 (by omega) _ _ _ _ _ _ _ _,zan zal _ _ _ _ _ _,zan zad _ _ _ _ _ _,zbl bs _,tv⟩ ⟨cnt D,tv⟩
    ⟨Fz.r F,rfl,zar zal (rw_op rfl ((zmb _ _ _ _).trans (I _ R))),zar zad (zao _ _ _ _ _),rfl,tv⟩⟩
  ·have p:¬ (k:Int) < ((ar.length + 1:Nat):Int):=by omega
   have B:S :: W = A:=by
    rw [b,show k = (a0 :: ar).length by show k = ar.length + 1; omega,zh1 a]
   have j:docB false d (ar.length + 1) c K.length c2 w s = (docB false d A.length c K.length c2 w s).ren (sig []):=by rw [a]; rfl
   refine brj p ?_
   exact clean [] (.ret (.tup [])) F [(1,docL false d A.length c K.length c2 w s),(2,rwE false 148 2 encN c A),(3,rwE d 151 6 encK c2 K),(4,.gone)] 5 ⟨Fz.r F,rfl,rfl,rfl⟩ (zah _) rfl rfl (by simp [Out.below,SV.below]) (ze8 (n:=5) (by omega) _ _ _ _ _ _ _ _)
    ⟨Fz.r F,j,zar zal (rw_of B),zar zad (zao _ _ _ _ _),tv⟩
theorem z5r (F:Fz) (d B:Bool) (c c2:Nat) (L:List DLn) (K A:List Cel) (w:Int) (s:List UInt8) (Y:B = true → K = []) (W:K.length ≤ 1000) (a:A.length = K.length)
  (V:∀ k (h:k < K.length),A[k]'(by omega) = if (K[k]'h).sum = true then K[k]'h else { K[k]'h with value:=0 }) :
  Ct Tryz.prog 93 [.va .nilptr,.va (.ptr ⟨1,0,0,0,0⟩)] F (hpL d B c c2 L K w s) 4 (finL d B c c2 L A w s):=by
 rcases K with _ | ⟨a0,ar⟩
 ·obtain rfl:A = []:=jo a;refine ct_of hΘ Tryz.func93 rfl (by decide) _ _ rfl rfl rfl ?_;conv=>whnf
  refine zam hΘ (X:=Unit) (fun x=>[(12,.va (.int .i64 0))]) (3::4::jr 13 33 [])
   (fun x=>[(0,.frz F),(1,docL d B L.length c 0 c2 w s),(2,rwE d 148 2 encN c L),(3,rwE B 151 6 encK c2 [])]) 4 (fun x=>0) ()
   (fun m n=>leI [] m n rfl ⟨tv,za6 (by omega) _ _ _ _ _ _ _ _,zan zal _ _ _ _ _ _,zan zad _ _ _ _ _ _,tv⟩ ⟨rfl,tv⟩ ⟨Fz.r F,rfl,zar zal (zao _ _ _ _ _),zar zad (zao _ _ _ _ _),tv⟩) ?_
  rintro ⟨⟩ m n;refine brd (by decide) ?_;exact clean [] (.ret (.tup [])) F (hpL d B c c2 L [] w s) 4 ⟨Fz.r F,rfl,rfl,rfl⟩ (zah _) rfl rfl (by simp [Out.below,SV.below]) (zb5 (by omega) _ _ _ _ _ _ _ _) ⟨Fz.r F,rfl,zar zal (zao _ _ _ _ _),zar zad (zao _ _ _ _ _),tv⟩
 ·obtain rfl:=zdr Y;refine ct_of hΘ Tryz.func93 rfl (by decide) _ _ rfl rfl rfl ?_;conv=>whnf
  refine zam hΘ (X:={ y:Nat × Cel × List Cel // y.1 ≤ ar.length + 1 ∧ y.2.1 :: y.2.2 = mxl A (a0 :: ar) y.1 }) (fun y=>[(12,.va (.int .i64 y.1.1))]) (3::4::jr 13 33 [])
   (fun y=>[(0,.frz F),(1,docL d false L.length c (ar.length + 1) c2 w s),(2,rwE d 148 2 encN c L),(3,rwE false 151 6 encK c2 (y.1.2.1 :: y.1.2.2))]) 4 (fun y=>ar.length + 1 - y.1.1) ⟨(0,a0,ar),yd _,(zgn _ _).symm⟩
   (fun m n=>leI [] m n rfl ⟨tv,za6 (by omega) _ _ _ _ _ _ _ _,zan zal _ _ _ _ _ _,zan zad _ _ _ _ _ _,tv⟩ ⟨rfl,tv⟩ ⟨Fz.r F,rfl,zar zal (zao _ _ _ _ _),zar zad (zao _ _ _ _ _),tv⟩) ?_
  rintro ⟨⟨k,O,S⟩,R,b⟩ m n;replace R:k ≤ ar.length + 1:=R;replace b:O :: S = mxl A (a0 :: ar) k:=b;by_cases g:k < ar.length + 1
  ·have u:(k:Int) < ((ar.length + 1:Nat):Int):=by omega
   have j:ar.length + 1 - (k + 1) < ar.length + 1 - k:=by omega
   have l:k < 4611686018427387904:=by have:ar.length + 1 ≤ 1000:=W; omega
   have o:=zln (e:=encK) a g b;have E:=fun x=>zgm (e:=encK) (x:=x) a g b
   have f:=V k g;have U:=zgl a (k + 1);obtain ⟨Q,T,i⟩:=U;rw [← i] at E;have I:=zvk a g b;rw [← i] at I
   have J:((a0 :: ar)[k]'g).sum = true ∨ ((a0 :: ar)[k]'g).sum = false:=by
    cases ((a0 :: ar)[k]'g).sum
    ·exact .inr rfl
    ·exact .inl rfl
   refine Or.elim J (fun G=>?_) (fun G=>?_)
   ·rw [if_pos G] at f;have q:=I f;refine bri u ⟨rfl,⟨jw k,u⟩,rfl,_,o,?_⟩;refine br (fun _=>?_) (fun h=>absurd (G.symm.trans h) (by simp))
    exact ⟨⟨(k + 1,Q,T),g,i⟩,j,leR [] m n rfl ⟨tv,za6 (by omega) _ _ _ _ _ _ _ _,zan zal _ _ _ _ _ _,zan zad _ _ _ _ _ _,tv⟩ ⟨cnt l,tv⟩
     ⟨Fz.r F,rfl,zar zal (zao _ _ _ _ _),zar zad (rw_of q),tv⟩⟩
   ·rw [if_neg (by rw [G]; decide)] at f;have M:[SA.int .i64 ((a0 :: ar)[k]'g).row,.int .i64 ((a0 :: ar)[k]'g).col,.bool ((a0 :: ar)[k]'g).sum,.int .i64 0,.int .i64 ((a0 :: ar)[k]'g).top,.int .i64 ((a0 :: ar)[k]'g).left] = encK (A[k]'(by rw [a]; exact g)):=by rw [f]; rfl
    refine bri u ⟨rfl,⟨jw k,u⟩,rfl,_,o,?_⟩;refine br (fun h=>absurd (G.symm.trans h) (by simp)) (fun _=>?_);refine ⟨rfl,_,o,?_⟩
    exact ⟨⟨(k + 1,Q,T),g,i⟩,j,leR [] m n rfl ⟨tv,za6 (by omega) _ _ _ _ _ _ _ _,zan zal _ _ _ _ _ _,zan zad _ _ _ _ _ _,tv⟩ ⟨cnt l,tv⟩
     ⟨Fz.r F,rfl,zar zal (zao _ _ _ _ _),zar zad (rw_op rfl (E _ M)),tv⟩⟩
  ·have u:¬ (k:Int) < ((ar.length + 1:Nat):Int):=by omega
   have D:O :: S = A:=by
    rw [b,show k = (a0 :: ar).length by show k = ar.length + 1; omega,zh1 a]
   have p:docB d false L.length c (ar.length + 1) c2 w s = (docB d false L.length c A.length c2 w s).ren (sig []):=by rw [a]; rfl
   refine brj u ?_
   exact clean [] (.ret (.tup [])) F (hpL d false c c2 L A w s) 4 ⟨Fz.r F,rfl,rfl,rfl⟩ (zah _) rfl rfl (by simp [Out.below,SV.below]) (zb5 (by omega) _ _ _ _ _ _ _ _)
    ⟨Fz.r F,p,zar zal (zao _ _ _ _ _),zar zad (rw_of D),tv⟩
theorem z5s (F:Fz) (j I:Bool) (i c2:Nat) (L:List DLn) (K A:List Cel) (w:Int) (s bs:List UInt8) (q:Nat → Int) (z:Int) (hq:I = true → K = []) (hl:K.length ≤ 1000) (c:A.length = K.length)
  (U:bs.length ≤ 1000000000000000000) (hi:∀ k,i64 (q k)) (M:getI bs 0 = (z,q 0,0))
  (hr:∀ k (h:k < K.length),((K[k]'h).sum = true ∧ q (k + 1) = q k ∧ A[k]'(by omega) = K[k]'h) ∨
   ((K[k]'h).sum = false ∧ ∃ a b v,i64 a ∧ i64 b ∧ getI bs (q k) = ((K[k]'h).row,a,0) ∧ getI bs a = ((K[k]'h).col,b,0) ∧ getI bs b = (v,q (k + 1),0) ∧ A[k]'(by omega) = { K[k]'h with value:=v })) :
  Ct Tryz.prog 93 [.va (.ptr ⟨4,0,0,0,0⟩),.va (.ptr ⟨1,0,0,0,0⟩)] F (hpR j I i c2 L K w s bs 0) 5 (finR j I i c2 L A w s):=by
 have R:=zgk F bs 0 z (q 0) U ⟨by decide,by decide⟩ M;rcases K with _ | ⟨a0,ar⟩
 ·obtain rfl:A = []:=jo c;refine ct_of hΘ Tryz.func93 rfl (by decide) _ _ rfl rfl rfl ?_;refine use R [(1,4)] rfl ⟨rfl,tv⟩ rfl ⟨zbl bs _,tv⟩ (by simp [SV.below,SA.below]) ⟨rfl,tv⟩ ?_;rintro f F1 M n0 V ⟨rfl,rfl,rfl,rfl⟩;conv=>whnf
  refine zam hΘ (X:=Unit) (fun x=>[(12,.va (.int .i64 0))]) (3::4::jr 13 33 [])
   (fun x=>[(0,.frz F),(1,docL j I L.length i 0 c2 w s),(2,rwE j 148 2 encN i L),(3,rwE I 151 6 encK c2 [])]) 5 (fun x=>0) ()
   (fun u B=>leI [] u B rfl ⟨tv,za6 (by omega) _ _ _ _ _ _ _ _,zan zal _ _ _ _ _ _,zan zad _ _ _ _ _ _,tv⟩ ⟨rfl,tv⟩ ⟨Fz.r F,rfl,zar zal (zao _ _ _ _ _),zar zad (zao _ _ _ _ _),tv⟩) ?_
  rintro ⟨⟩ u B;refine brd (by decide) ?_;exact clean [] (.ret (.tup [])) F [(1,docL j I L.length i 0 c2 w s),(2,rwE j 148 2 encN i L),(3,rwE I 151 6 encK c2 []),(4,.gone)] 5 ⟨Fz.r F,rfl,rfl,rfl⟩ (zah _) rfl rfl (by simp [Out.below,SV.below]) (ze8 (n:=5) (by omega) _ _ _ _ _ _ _ _) ⟨Fz.r F,rfl,zar zal (zao _ _ _ _ _),zar zad (zao _ _ _ _ _),tv⟩
 ·obtain rfl:=zdr hq;refine ct_of hΘ Tryz.func93 rfl (by decide) _ _ rfl rfl rfl ?_;refine use R [(1,4)] rfl ⟨rfl,tv⟩ rfl ⟨zbl bs _,tv⟩ (by simp [SV.below,SA.below]) ⟨rfl,tv⟩ ?_;rintro f F1 M n0 V ⟨rfl,rfl,rfl,rfl⟩;conv=>whnf
  refine zam hΘ (X:={ y:Nat × Cel × List Cel // y.1 ≤ ar.length + 1 ∧ y.2.1 :: y.2.2 = mxl A (a0 :: ar) y.1 }) (fun y=>[(12,.va (.int .i64 y.1.1))]) (3::4::jr 13 33 [])
   (fun y=>[(0,.frz F),(1,docL j false L.length i (ar.length + 1) c2 w s),(2,rwE j 148 2 encN i L),(3,rwE false 151 6 encK c2 (y.1.2.1 :: y.1.2.2)),(4,mrd bs (q y.1.1))]) 5 (fun y=>ar.length + 1 - y.1.1) ⟨(0,a0,ar),yd _,(zgn _ _).symm⟩
   (fun u B=>leI [] u B rfl ⟨tv,za6 (by omega) _ _ _ _ _ _ _ _,zan zal _ _ _ _ _ _,zan zad _ _ _ _ _ _,zbl bs _,tv⟩ ⟨rfl,tv⟩ ⟨Fz.r F,rfl,zar zal (zao _ _ _ _ _),zar zad (zao _ _ _ _ _),rfl,tv⟩) ?_
  rintro ⟨⟨k,a1,r1⟩,hk,d⟩ u B;replace hk:k ≤ ar.length + 1:=hk;replace d:a1 :: r1 = mxl A (a0 :: ar) k:=d;by_cases g:k < ar.length + 1
  ·have J:(k:Int) < ((ar.length + 1:Nat):Int):=by omega
   have m:ar.length + 1 - (k + 1) < ar.length + 1 - k:=by omega
   have o:k < 4611686018427387904:=by have:ar.length + 1 ≤ 1000:=hl; omega
   have D:=zln (e:=encK) c g d;have S:=fun x=>zgm (e:=encK) (x:=x) c g d
   have h2:=zgl c (k + 1);obtain ⟨a2,r2,l⟩:=h2;rw [← l] at S;have T:=zvk c g d;rw [← l] at T;have p:=fun x=>zov (e:=encK) (y:=x) c g d
   refine Or.elim (hr k g) (fun O=>?_) (fun O=>?_)
   ·have G:=T O.2.2;have aa:=O.2.1;refine bri J ⟨rfl,⟨jw k,J⟩,rfl,_,D,?_⟩;refine br (fun _=>?_) (fun h=>absurd (O.1.symm.trans h) (by simp))
    exact ⟨⟨(k + 1,a2,r2),g,l⟩,m,leR [] u B rfl ⟨tv,za6 (by omega) _ _ _ _ _ _ _ _,zan zal _ _ _ _ _ _,zan zad _ _ _ _ _ _,zbl bs _,tv⟩ ⟨cnt o,tv⟩
     ⟨Fz.r F,rfl,zar zal (zao _ _ _ _ _),zar zad (rw_of G),yca aa,tv⟩⟩
   ·have ab:=O.1;have ac:=O.2;obtain ⟨a,b,v,ia,ib,ga,gb,gv,Z⟩:=ac;have c0:=zgk F bs (q k) _ a U (hi k) ga;have W:=zgk F bs a _ b U ia gb;have Y:=zgk F bs b _ (q (k + 1)) U ib gv;have ad:[SA.int .i64 ((a0 :: ar)[k]'g).row,.int .i64 ((a0 :: ar)[k]'g).col,.bool ((a0 :: ar)[k]'g).sum,.int .i64 v,.int .i64 ((a0 :: ar)[k]'g).top,.int .i64 ((a0 :: ar)[k]'g).left] = encK (A[k]'(by rw [c]; exact g)):=by rw [Z]; rfl
    refine bri J ⟨rfl,⟨jw k,J⟩,rfl,_,D,?_⟩;refine br (fun h=>absurd (ab.symm.trans h) (by simp)) (fun _=>?_);refine use c0 [(1,4)] rfl ⟨rfl,tv⟩ rfl ⟨zbl bs _,tv⟩ (by simp [SV.below,SA.below]) ⟨rfl,tv⟩ ?_;rintro f F1 M n0 V ⟨rfl,rfl,rfl,rfl⟩;refine use W [(1,4)] rfl ⟨rfl,tv⟩ rfl ⟨zbl bs _,tv⟩ (by simp [SV.below,SA.below]) ⟨rfl,tv⟩ ?_;rintro f F1 M n0 V ⟨rfl,rfl,rfl,rfl⟩;refine use Y [(1,4)] rfl ⟨rfl,tv⟩ rfl ⟨zbl bs _,tv⟩ (by simp [SV.below,SA.below]) ⟨rfl,tv⟩ ?_;rintro f F1 M n0 V ⟨rfl,rfl,rfl,rfl⟩;refine ⟨rfl,_,D,rfl,_,p _,rfl,_,(congrArg (·[0 + (k:Int).toNat]?) (zmb _ _ _ _)).trans (p _),?_⟩
    exact ⟨⟨(k + 1,a2,r2),g,l⟩,m,leR [] u B rfl ⟨tv,za6 (by omega) _ _ _ _ _ _ _ _,zan zal _ _ _ _ _ _,zan zad _ _ _ _ _ _,zbl bs _,tv⟩ ⟨cnt o,tv⟩
     ⟨Fz.r F,rfl,zar zal (zao _ _ _ _ _),zar zad (rw_op rfl ((z1h _ _ _ _ _).trans (S _ ad))),rfl,tv⟩⟩
  ·have J:¬ (k:Int) < ((ar.length + 1:Nat):Int):=by omega
   have Q:a1 :: r1 = A:=by
    rw [d,show k = (a0 :: ar).length by show k = ar.length + 1; omega,zh1 c]
   have E:docB j false L.length i (ar.length + 1) c2 w s = (docB j false L.length i A.length c2 w s).ren (sig []):=by rw [c]; rfl
   refine brj J ?_
   exact clean [] (.ret (.tup [])) F [(1,docL j false L.length i A.length c2 w s),(2,rwE j 148 2 encN i L),(3,rwE false 151 6 encK c2 A),(4,.gone)] 5 ⟨Fz.r F,rfl,rfl,rfl⟩ (zah _) rfl rfl (by simp [Out.below,SV.below]) (ze8 (n:=5) (by omega) _ _ _ _ _ _ _ _)
    ⟨Fz.r F,E,zar zal (zao _ _ _ _ _),zar zad (rw_of Q),tv⟩
theorem z5t (F:Fz) (b c:Bool) (a c2:Nat) (L:List DLn) (K:List Cel) (w:Int) (s:List UInt8) :
  Ct Tryz.prog 96 [.va .nilptr,.va (.ptr ⟨1,0,0,0,0⟩)] F (hpL b c a c2 L K w s) 4 (finL b c a c2 L K 0 []):=by
 refine ct_of hΘ Tryz.func96 rfl (by decide) _ _ rfl rfl rfl ?_;exact clean [] (.ret (.tup [])) F (hpL b c a c2 L K 0 []) 4 ⟨Fz.r F,rfl,rfl,rfl⟩ (zah _) rfl rfl (by simp [Out.below,SV.below]) (zb5 (by omega) _ _ _ _ _ _ _ _) ⟨Fz.r F,rfl,zar zal (zao _ _ _ _ _),zar zad (zao _ _ _ _ _),tv⟩
theorem z5u (F:Fz) (f g:Bool) (e c2:Nat) (L:List DLn) (K:List Cel) (w l z:Int) (s h bs:List UInt8) (a b c:Int) (k:bs.length ≤ 1000000000000000000) (y:i64 a) (ib:i64 b) (q:getI bs 0 = (l,a,0)) (u:getI bs a = (z,b,0)) (x:getS bs b = (h,c,0)) :
  Ct Tryz.prog 96 [.va (.ptr ⟨4,0,0,0,0⟩),.va (.ptr ⟨1,0,0,0,0⟩)] F (hpR f g e c2 L K w s bs 0) 5 (finR f g e c2 L K l h):=by
 have p:=zgk F bs 0 _ a k ⟨by decide,by decide⟩ q;have i:=zgk F bs a _ b k y u;have j:=z0a F bs b c h k ib x;refine ct_of hΘ Tryz.func96 rfl (by decide) _ _ rfl rfl rfl ?_;refine use p [(1,4)] rfl ⟨rfl,tv⟩ rfl ⟨zbl bs _,tv⟩ (by simp [SV.below,SA.below]) ⟨rfl,tv⟩ ?_;rintro d F1 m n0 o ⟨rfl,rfl,rfl,rfl⟩;refine use i [(1,4)] rfl ⟨rfl,tv⟩ rfl ⟨zbl bs _,tv⟩ (by simp [SV.below,SA.below]) ⟨rfl,tv⟩ ?_;rintro d F1 m n0 o ⟨rfl,rfl,rfl,rfl⟩;refine use j [(1,4)] rfl ⟨rfl,tv⟩ rfl ⟨zbl bs _,tv⟩ (by simp [SV.below,SA.below]) ⟨rfl,tv⟩ ?_;rintro d F1 m n0 o ⟨rfl,rfl,rfl,rfl⟩;exact clean [] (.ret (.tup [])) F [(1,docL f g L.length e K.length c2 l h),(2,rwE f 148 2 encN e L),(3,rwE g 151 6 encK c2 K),(4,.gone)] 5 ⟨Fz.r F,rfl,rfl,rfl⟩ (zah _) rfl rfl (by simp [Out.below,SV.below]) (ze8 (n:=5) (by omega) _ _ _ _ _ _ _ _) ⟨Fz.r F,rfl,zar zal (zao _ _ _ _ _),zar zad (zao _ _ _ _ _),tv⟩
def posn (a:List UInt8) (C:List (List UInt8)) (k:Nat):List UInt8:=a ++ (C.take k).flatten
theorem zir {a:List UInt8} {C:List (List UInt8)} {k:Nat} (h:k < C.length):posn a C (k + 1) = posn a C k ++ C[k]:=by
 unfold posn;rw [qh h,yq,qm]; simp
theorem zhn (a:List UInt8) {C:List (List UInt8)} {k:Nat} (h:k < C.length):a ++ C.flatten = posn a C k ++ (C[k] ++ (C.drop (k + 1)).flatten):=by
 unfold posn
 conv=>lhs; rw [← yv k C,qw h,yq,jx]
 rw [qm]
theorem z90 (a:List UInt8) (C:List (List UInt8)) (k:Nat):(posn a C k).length ≤ (a ++ C.flatten).length:=by
 rcases qcf k C.length with h | h
 ·rw [zhn a h,qb]; omega
 ·unfold posn; rw [qo h]; exact qi _
def posI (a:List UInt8) (C:List (List UInt8)) (k:Nat):Int:=((posn a C k).length:Nat)
theorem zo3 {a:List UInt8} {C:List (List UInt8)} (b:(a ++ C.flatten).length ≤ 1000000000000000000) (k:Nat):i64 (posI a C k):=by
 have:=z90 a C k;unfold posI i64; omega
theorem nums1 {n:Int} (h:okI n):zae [n] = putI n:=by simp [zae,zeo h]
theorem zom {n:Int} (h:okI n) (C:List (List UInt8)):getI (zae [n] ++ C.flatten) 0 = (n,posI (zae [n]) C 0,0):=by
 have h1:=zcp [] C.flatten h;have e:posI (zae [n]) C 0 = ((putI n).length:Nat):=by unfold posI posn; rw [nums1 h]; simp
 rw [e,nums1 h];exact h1
theorem z5l {a:List UInt8} {C:List (List UInt8)} {k:Nat} (h:k < C.length) {t:List UInt8} (c:t.length ≤ 65536) (b:C[k] = (putSR t).1):getS (a ++ C.flatten) (posI a C k) = (t,posI a C (k + 1),0):=by
 rw [zhn a h,b,posI,zkj _ _ _ c,posI,zir h,b]
theorem z5k {a:List UInt8} {C:List (List UInt8)} {k:Nat} (h:k < C.length) {n:Int} (c:okI n) (b:C[k] = putI n):getI (a ++ C.flatten) (posI a C k) = (n,posI a C (k + 1),0):=by
 rw [zhn a h,b,posI,zcp _ _ c,posI,zir h,b]
theorem zxc {c:List UInt8} {C:List (List UInt8)} {k:Nat} (h:k < C.length) {x y z:Int} (m:okI x) (n:okI y) (o:okI z) (i:C[k] = putI x ++ (putI y ++ putI z)) (j:(c ++ C.flatten).length ≤ 1000000000000000000) :
  ∃ a b:Int,i64 a ∧ i64 b ∧ getI (c ++ C.flatten) (posI c C k) = (x,a,0) ∧ getI (c ++ C.flatten) a = (y,b,0) ∧ getI (c ++ C.flatten) b = (z,posI c C (k + 1),0):=by
 have e:=zhn c h;have d:c ++ C.flatten = posn c C k ++ (putI x ++ (putI y ++ (putI z ++ (C.drop (k + 1)).flatten))):=by rw [e,i]; simp only [qm]
 have f:c ++ C.flatten = (posn c C k ++ putI x) ++ (putI y ++ (putI z ++ (C.drop (k + 1)).flatten)):=by rw [d]; simp only [qm]
 have g:c ++ C.flatten = (posn c C k ++ putI x ++ putI y) ++ (putI z ++ (C.drop (k + 1)).flatten):=by rw [d]; simp only [qm]
 have l:posn c C (k + 1) = posn c C k ++ putI x ++ putI y ++ putI z:=by rw [zir h,i]; simp only [qm]
 refine ⟨((posn c C k ++ putI x).length:Nat),((posn c C k ++ putI x ++ putI y).length:Nat),?_,?_,?_,?_,?_⟩
 ·have:=congrArg List.length f;simp only [qb] at this j ⊢;unfold i64; omega
 ·have:=congrArg List.length g;simp only [qb] at this j ⊢;unfold i64; omega
 ·rw [posI,d]; exact zcp _ _ m
 ·rw [f]; exact zcp _ _ n
 ·rw [posI,l,g]; exact zcp _ _ o
def zid (c:Cel):List UInt8:=if c.sum = true then [] else zae [c.row,c.col,c.value]
theorem zj0:∀ l:List Cel,(l.map zid).flatten = ((l.filter (keepQ false)).map fun c=>zae [c.row,c.col,c.value]).flatten
 |[]=>rfl
 |c :: r=>by
  rw [q5,jx,zj0 r,List.filter_cons];by_cases h:c.sum = true
  ·have e:keepQ false c = false:=by unfold keepQ; rw [h]; rfl
   rw [zid,if_pos h,e]; rfl
  ·have h:c.sum = false:=by simpa using h
   have e:keepQ false c = true:=by unfold keepQ; rw [h]; rfl
   rw [zid,if_neg (by rw [h]; decide),e]; rfl
theorem zdi {n:Int} (h:-1000000000000000 ≤ n ∧ n ≤ 1000000000000000):okI n:=by unfold okI; omega
theorem z1z {L:List DLn} (c:L.length ≤ 1000) (b:∀ l ∈ L,l.1.length ≤ 65536) (a:(ptext L).length ≤ 1000000000000000000) :
  ∃ q:Nat → Int,(∀ k,i64 (q k)) ∧ getI (ptext L) 0 = ((L.length:Int),q 0,0) ∧ ∀ k (h:k < L.length),getS (ptext L) (q k) = ((L[k]'h).1,q (k + 1),0):=by
 have e:ptext L = zae [(L.length:Int)] ++ (L.map fun x=>(putSR x.1).1).flatten:=rfl;rw [e] at a ⊢;refine ⟨posI (zae [(L.length:Int)]) (L.map fun x=>(putSR x.1).1),zo3 a,zom (zdi (by omega)) _,fun k h=>?_⟩;exact z5l (by rw [qa]; exact h) (b _ (qy h)) (by rw [yr])
theorem zz9 {L:List DLn} (m:L.length ≤ 1000) (j:∀ l ∈ L,okI l.2) (d:(pmot L).length ≤ 1000000000000000000) :
  ∃ q:Nat → Int,(∀ k,i64 (q k)) ∧ getI (pmot L) 0 = ((L.length:Int),q 0,0) ∧ ∀ k (h:k < L.length),getI (pmot L) (q k) = ((L[k]'h).2,q (k + 1),0):=by
 obtain ⟨a,f⟩:∃ a,zae [(L.length:Int)] = a:=⟨_,rfl⟩
 obtain ⟨C,b⟩:∃ C,L.map (fun x=>zae [x.2]) = C:=⟨_,rfl⟩
 have g:getI (a ++ C.flatten) 0 = ((L.length:Int),posI a C 0,0):=by
  rw [← f]; exact zom (zdi (by omega)) C
 have e:pmot L = a ++ C.flatten:=by rw [← f,← b]; rfl
 rw [e] at d ⊢;refine ⟨posI a C,zo3 d,g,fun k h=>?_⟩;have h1:=j _ (qy h);have i:k < C.length:=by rw [← b,qa]; exact h
 have c:C[k] = putI (L[k]'h).2:=by
  subst b;rw [yr,nums1 h1]
 exact z5k i h1 c
theorem zx3 {K:List Cel} (n:K.length ≤ 1000) (o:∀ c ∈ K,okI c.row ∧ okI c.col ∧ okI c.value) (f:(zcr false K).length ≤ 1000000000000000000) :
  ∃ (q:Nat → Int) (z:Int),(∀ k,i64 (q k)) ∧ getI (zcr false K) 0 = (z,q 0,0) ∧ ∀ k (h:k < K.length),((K[k]'h).sum = true ∧ q (k + 1) = q k) ∨
   ((K[k]'h).sum = false ∧ ∃ a b,i64 a ∧ i64 b ∧ getI (zcr false K) (q k) = ((K[k]'h).row,a,0) ∧ getI (zcr false K) a = ((K[k]'h).col,b,0) ∧ getI (zcr false K) b = ((K[k]'h).value,q (k + 1),0)):=by
 have p:(K.filter (keepQ false)).length ≤ 1000:=jk (qac _ _) n
 have e:zcr false K = zae [((K.filter (keepQ false)).length:Int)] ++ (K.map zid).flatten:=by
  rw [zj0]; rfl
 rw [e] at f ⊢;refine ⟨posI (zae [((K.filter (keepQ false)).length:Int)]) (K.map zid),_,zo3 f,zom (zdi (by omega)) _,fun k h=>?_⟩;have g:k < (K.map zid).length:=by rw [qa]; exact h
 by_cases d:(K[k]'h).sum = true
 ·refine .inl ⟨d,?_⟩;have m:(K.map zid)[k] = []:=by rw [yr,zid,if_pos d]
  rw [posI,posI,zir g,m,js]
 ·have d:(K[k]'h).sum = false:=by simpa using d
  obtain ⟨i,j,l⟩:=o _ (qy h);refine .inr ⟨d,zxc g i j l ?_ f⟩;rw [yr,zid,if_neg (by rw [d]; decide)];simp only [zae,q5,yy,jx,qat,zeo i,zeo j,zeo l,js]
theorem z0y {w h:Int} {s:List UInt8} (f:okI w) (d:okI h) (k:s.length ≤ 65536) :
  ∃ a b c:Int,i64 a ∧ i64 b ∧ getI (zae [w,h] ++ (putSR s).1) 0 = (w,a,0) ∧ getI (zae [w,h] ++ (putSR s).1) a = (h,b,0) ∧ getS (zae [w,h] ++ (putSR s).1) b = (s,c,0):=by
 have l:=zis w f;have m:=zis h d
 have e:zae [w,h] ++ (putSR s).1 = putI w ++ (putI h ++ ((putSR s).1 ++ [])):=by
  simp only [zae,q5,yy,jx,qat,zeo f,zeo d,js,qm]
 have i:=zcp [] (putI h ++ ((putSR s).1 ++ [])) f;have j:=zcp (putI w) ((putSR s).1 ++ []) d;have g:=zkj (putI w ++ putI h) [] s k;rw [e];rw [qm (putI w)] at g;refine ⟨((putI w).length:Nat),((putI w ++ putI h).length:Nat),_,?_,?_,i,j,g⟩
 ·unfold i64; omega
 ·rw [qb]; unfold i64; omega
theorem zil (F:Fz) (hM:MLF F) (sk:SA) (m:Mig) (p:Int) (hp:1 ≤ p ∧ p ≤ 8) (g:FuncId) (a1 b1:SA) (d:Dc) (hk:KpsAt F sk m.keep) (Y:short m.keep) (ai:m.keep.length < 1000000) (hD:DocAt F a1 b1 d) (M:DcSmall d) (hd:docOk d = true)
  (k n:Bool) (i c2:Nat) (L J:List DLn) (K I:List Cel) (w S:Int) (s R:List UInt8)
  (h0:zak p m.keep = [] → J = L ∧ I = K ∧ S = w ∧ R = s)
  (h1:zak p m.keep = [(6,0)] → ∀ F1,Ct Tryz.prog g [.va .nilptr,.va (.ptr ⟨1,0,0,0,0⟩)] F1 (hpL k n i c2 L K w s) 4 (finL k n i c2 J I S R))
  (h2:zak p m.keep ≠ [] → zak p m.keep ≠ [(6,0)] → ∀ F1,Ct Tryz.prog g [.va (.ptr ⟨4,0,0,0,0⟩),.va (.ptr ⟨1,0,0,0,0⟩)] F1 (hpR k n i c2 L K w s (zc4 p (zak p m.keep) (propB p d)).1 0) 5 (finR k n i c2 J I S R)) :
  Ct Tryz.prog 88 [.agg (migS m sk),.agg (docS a1 b1 d.w d.bits),.va (.int .i64 p),.va (.fn (.func g) [⟨1,0,0,0,0⟩])] F (hpL k n i c2 L K w s) 4 (finL k n i c2 J I S R):=by
 have j:=zlu F sk m p hk Y ai;have Q:=zh6 Y p;obtain ⟨t,ht⟩:∃ t,zak p m.keep = t:=⟨_,rfl⟩
 rw [ht] at j h0 h1 h2 Q;obtain ⟨bs,ah⟩:∃ bs,(zc4 p t (propB p d)).1 = bs:=⟨_,rfl⟩
 have al:=zc0 (p:=p) hd;have W:=fun F1 (h:Fz.le F F1) U hb=>zt4 F1 (hM.mono h) U t p (propB p d) hb Q (by omega)
 rw [ah] at W h2;have Z:=fun F1 U hb=>zqs F1 U t hb Q
 obtain ⟨id,src,ak,aj,ks⟩:=m;obtain ⟨kn,kb,ke,kc,kL,kr,rfl,k1,k2,k3,k4⟩:=hk;obtain ⟨an,ab,ae,ac,bn,bb,be,bc,rfl,rfl,hL,hK,X⟩:=hD;have ad:=fun F1 (h:Fz.le F F1)=>z0u pfun F1 an ab ae ac bn bb be bc d (hL.mono h) (hK.mono h) M.l M.c M.b X p hp
 have aa:pAns p d = .ret (.tup [.va (.str (propB p d)),.va (.int .i64 0)]):=by rw [pAns,if_pos hd,if_pos hd]
 simp only [aa] at ad;clear aa ht
 have O:t = [] ∨ t = [(6,0)] ∨ (0 < t.length ∧ t ≠ [] ∧ t ≠ [(6,0)]):=by
  by_cases e:t = []
  ·exact .inl e
  ·by_cases V:t = [(6,0)]
   ·exact .inr (.inl V)
   ·exact .inr (.inr ⟨qbc.2 e,e,V⟩)
 refine Or.elim O (fun e=>?_) (fun O=>Or.elim O (fun e=>?_) (fun e=>?_))
 ·subst e;obtain ⟨rfl,rfl,rfl,rfl⟩:=h0 rfl;refine ct_of hΘ Tryz.func88 rfl (by decide) _ _ rfl rfl rfl ?_;refine useFo j rfl (zaa _) rfl ?_;rintro _ F1 h ⟨U,rfl,a⟩;obtain ⟨E,A,D,B,y,G,rfl,o,q,u,x⟩:=a;refine bre (by decide) ?_;exact clean [] (.ret (.tup [])) F1 (hpL k n i c2 J I S R) 4 ⟨h,rfl,rfl,rfl⟩ (zah _) rfl rfl (by simp [Out.below,SV.below]) (zb5 (by omega) _ _ _ _ _ _ _ _) ⟨Fz.r F1,rfl,zar zal (zao _ _ _ _ _),zar zad (zao _ _ _ _ _),tv⟩
 ·subst e;have hc:=h1 rfl;refine ct_of hΘ Tryz.func88 rfl (by decide) _ _ rfl rfl rfl ?_;refine useFo j rfl (zaa _) rfl ?_;rintro _ F1 h ⟨U,rfl,a⟩;have f:=a;obtain ⟨E,A,D,B,y,G,rfl,o,q,u,x⟩:=a;refine brd (by decide) ?_;refine useFo (Z F1 _ f) rfl (zaa _) rfl ?_;rintro _ F2 T rfl;refine bre (by decide) ?_;refine use (hc F2) [(1,1),(2,2),(3,3)] rfl ⟨rfl,rfl,tv⟩ rfl (zb5 (by omega) _ _ _ _ _ _ _ _) (by simp [SV.below,SA.below]) ⟨rfl,zar zal (zao _ _ _ _ _),zar zad (zao _ _ _ _ _),tv⟩ ?_;rintro af F3 x0 n0 l3 ⟨rfl,rfl,rfl⟩;exact clean [] (.ret (.tup [])) F3 (hpL k n i c2 J I S R) 4 ⟨Fz.t h (Fz.t T l3),rfl,rfl,rfl⟩ (zah _) rfl rfl (by simp [Out.below,SV.below]) (zb5 (by omega) _ _ _ _ _ _ _ _) ⟨Fz.r F3,rfl,zc8 zal,zc8 zad,tv⟩
 ·have e0:=e.1;have V:=e.2.2;have ti:¬ (t.length:Int) = 0:=by omega
  have hc:=h2 e.2.1 V;refine ct_of hΘ Tryz.func88 rfl (by decide) _ _ rfl rfl rfl ?_;refine useFo j rfl (zaa _) rfl ?_;rintro _ F1 h ⟨U,rfl,a⟩;have f:=a;obtain ⟨E,A,D,B,y,G,rfl,o,q,u,x⟩:=a;refine brj ti ?_;refine useFo (Z F1 _ f) rfl (zaa _) rfl ?_;rintro _ F2 T rfl;refine brj V ?_;refine useFo (ad F2 (Fz.t h T)) rfl (zaa _) rfl ?_;rintro _ F3 l3 rfl;have ag:=f.mono (Fz.t T l3);have ha:=W F3 (Fz.t h (Fz.t T l3)) _ ag;refine useFo ha rfl (zaa _) rfl ?_;rintro _ F4 l4 rfl;refine use (hc F4) [(1,1),(2,2),(3,3),(4,6)] rfl ⟨rfl,rfl,tv⟩ rfl ⟨za6 (by omega) _ _ _ _ _ _ _ _,zan zal _ _ _ _ _ _,zan zad _ _ _ _ _ _,zbl _ _,tv⟩ (by simp [SV.below,SA.below]) ⟨rfl,zar zal (zao _ _ _ _ _),zar zad (zao _ _ _ _ _),rfl,tv⟩ ?_;rintro af F5 x0 n0 l5 ⟨rfl,rfl,rfl⟩;exact clean [] (.ret (.tup [])) F5 (hpL k n i c2 J I S R) 4 ⟨Fz.t h (Fz.t T (Fz.t l3 (Fz.t l4 l5))),rfl,rfl,rfl⟩ (zah _) rfl rfl (by simp [Out.below,SV.below]) (zb5 (by omega) _ _ _ _ _ _ _ _) ⟨Fz.r F5,rfl,zc8 zal,zc8 zad,tv⟩
theorem zwu (F:Fz) (q:Bool) (c:Nat) (l:List Cel) (n:q = true → l = []) (i:l.length ≤ 1000) :
  Ct Tryz.prog 87 [.va (.slice q 1 0 0 6 l.length c)] F [(1,rwE q 151 6 encK c l)] 2
   (fun o k m n0=>n0 = 2 ∧ ∃ j b c',o = .ret (.va (.slice j 0 b 0 6 l.length c')) ∧ Sl k 151 6 encK (.slice j 0 b 0 6 l.length c') l ∧ l.length ≤ c' ∧ m = [(1,rwE q 151 6 encK c l)]):=by
 rcases q with _ | _
 ·rcases l with _ | ⟨x,r⟩
  ·refine ct_of hΘ Tryz.func87 rfl (by decide) _ _ rfl rfl rfl ?_;refine brd (by decide) ⟨rfl,by simp,[],rfl,rfl,rfl,rfl,by decide,fun c' f=>?_⟩;refine zbe 3 (fun _=>.arr 151 6 [] c') rfl rfl rfl (fun _ _=>rfl) (fun _ _=>SB.bB_ok rfl) ?_;intro b e d a;exact clean [] (.ret (.va (.slice false 0 (b 0) 0 6 0 c'))) e [(1,rwE false 151 6 encK c [])] 2 ⟨d,rfl,false,b 0,c',rfl,Sl.new (l:=[]) (a 0 rfl),yd _,rfl⟩ ⟨rfl,rfl,rfl,.inr ⟨rfl,rfl,rfl,rfl⟩⟩ rfl rfl (.inr (by decide)) ⟨zan zad _ _ _ _ _ _,tv⟩ ⟨Fz.r e,zar zad (zao _ _ _ _ _),tv⟩
  ·replace i:r.length + 1 ≤ 1000:=i;have h:(0 + ((x :: r).map encK).length) * 48 ≤ 140737488355328:=by rw [qa,qe]; omega
   refine ct_of hΘ Tryz.func87 rfl (by decide) _ _ rfl rfl rfl ?_;refine brd (by decide) ⟨rfl,by simp,(x :: r).map encK,by rw [qaf,qo (by simp)],rfl,rfl,rfl,h,fun c' f=>?_⟩;have g:=f;clear f;refine zbe 3 (fun _=>.arr 151 6 ((x :: r).map encK) c') rfl rfl rfl (fun _ _=>by exact zcx zad rfl _ _ _ _) (fun _ _=>zbj zad _ _ _ _ _) ?_;intro b e d a;exact clean [] (.ret (.va (.slice false 0 (b 0) 0 6 (x :: r).length c'))) e [(1,rwE false 151 6 encK c (x :: r))] 2 ⟨d,rfl,false,b 0,c',rfl,Sl.new (l:=x :: r) (a 0 rfl),by simpa using g,rfl⟩ ⟨rfl,(by first | rfl | (rw [qa]; omega)),(by first | rfl | (rw [qa]; omega)),.inr ⟨rfl,rfl,rfl,rfl⟩⟩ rfl rfl (.inr (by decide)) ⟨zan zad _ _ _ _ _ _,tv⟩ ⟨Fz.r e,zar zad (zao _ _ _ _ _),tv⟩
 ·obtain rfl:=n rfl;refine ct_of hΘ Tryz.func87 rfl (by decide) _ _ rfl rfl rfl ?_;refine bre (by decide) ?_;exact clean [] (.ret (.va (.slice true 0 0 0 6 0 0))) F [(1,rwE true 151 6 encK c [])] 2 ⟨Fz.r F,rfl,true,0,0,rfl,Sl.nil,qi _,rfl⟩ ⟨rfl,rfl,rfl⟩ rfl rfl (.inl rfl) ⟨zan zad _ _ _ _ _ _,tv⟩ ⟨Fz.r F,zar zad (zao _ _ _ _ _),tv⟩
theorem sl_of {α:Type} {F:Fz} {q:Bool} {b c:Nat} {t sz:Nat} {e:α → List SA} {l:List α} (d:q = true → l = []) (a:q = false → F b = some (.arr t sz (l.map e) c)):Sl F t sz e (.slice q 0 b 0 sz l.length c) l:=by
 cases q with
 |true=>obtain rfl:=d rfl; exact ⟨true,b,0,c,[],0,rfl,fun _=>rfl,(fun h=>nomatch h),by simp,by simp⟩
 |false=>exact Sl.new (a rfl)
abbrev intE (z:Int):Ent:=.one (.cells 3 [.int .i64 z])
theorem yau (F:Fz) (c:Cel) (r k:Int):Ct Tryz.prog 221 [.agg (encK c),.va (.ptr ⟨1,0,0,0,0⟩),.va (.ptr ⟨2,0,0,0,0⟩)] F [(1,intE r),(2,intE k)] 3
  (fun o f h n0=>F = f ∧ n0 = 3 ∧ o = .ret (.va (.bool (decide (c.row = r ∧ c.col = k)))) ∧ h = [(1,intE r),(2,intE k)]):=by
 obtain ⟨a,b,j,l,ct,i⟩:=c;have e:(a = r ∧ b = k) ∨ (a = r ∧ ¬ b = k) ∨ ¬ a = r:=by omega
 rcases e with ⟨h1,d⟩ | ⟨h1,d⟩ | h1
 ·refine ct_of hΘ Tryz.func221 rfl (by decide) _ _ rfl rfl rfl ?_;refine ⟨fun _=>?_,fun g=>absurd h1 (oe g)⟩;exact clean [] (.ret (.va (.bool (decide (a = r ∧ b = k))))) F [(1,intE r),(2,intE k)] 3 ⟨Fz.r F,rfl,rfl,rfl,rfl⟩ (ob (by simp [h1,d])) rfl rfl trivial ⟨(SB.bB_ok rfl:SB.below 3 (.cells 3 [.int .i64 r])),(SB.bB_ok rfl:SB.below 3 (.cells 3 [.int .i64 k])),tv⟩ ⟨Fz.r F,rfl,rfl,tv⟩
 ·refine ct_of hΘ Tryz.func221 rfl (by decide) _ _ rfl rfl rfl ?_;refine ⟨fun _=>?_,fun g=>absurd h1 (oe g)⟩;exact clean [] (.ret (.va (.bool (decide (a = r ∧ b = k))))) F [(1,intE r),(2,intE k)] 3 ⟨Fz.r F,rfl,rfl,rfl,rfl⟩ (ob (by simp [h1,d])) rfl rfl trivial ⟨(SB.bB_ok rfl:SB.below 3 (.cells 3 [.int .i64 r])),(SB.bB_ok rfl:SB.below 3 (.cells 3 [.int .i64 k])),tv⟩ ⟨Fz.r F,rfl,rfl,tv⟩
 ·refine ct_of hΘ Tryz.func221 rfl (by decide) _ _ rfl rfl rfl ?_;refine ⟨fun g=>absurd (od g) h1,fun _=>?_⟩;exact clean [] (.ret (.va (.bool (decide (a = r ∧ b = k))))) F [(1,intE r),(2,intE k)] 3 ⟨Fz.r F,rfl,rfl,rfl,rfl⟩ (ob (by simp [h1])) rfl rfl trivial ⟨(SB.bB_ok rfl:SB.below 3 (.cells 3 [.int .i64 r])),(SB.bB_ok rfl:SB.below 3 (.cells 3 [.int .i64 k])),tv⟩ ⟨Fz.r F,rfl,rfl,tv⟩
theorem zms (c:Cel) (i j:Nat) (e:i < 3:=by omega) (f:j < 3:=by omega):∀ t ∈ [SV.agg (encK c),.va (.ptr ⟨i,0,0,0,0⟩),.va (.ptr ⟨j,0,0,0,0⟩)],SV.below 3 t:=by
 intro t b;simp only [qg,qp,or_false] at b;rcases b with rfl | rfl | rfl
 ·exact fun a d=>SA.below_mono (yd 3) ((zad c).2 a d)
 ·exact e
 ·exact f
theorem zfx {n:Nat} (r k:Int):bH n [(1,intE r),(2,intE k)]:=⟨(SB.bB_ok rfl:SB.below n (.cells 3 [.int .i64 r])),(SB.bB_ok rfl:SB.below n (.cells 3 [.int .i64 k])),tv⟩
theorem z88 (F:Fz) (q:Bool) (I L J:Nat) (K:List Cel) (r k:Int) (i:Nat) (R:Sl F 151 6 encK (.slice q 0 I L 6 K.length J) K) (hl:K.length ≤ 1000) (E:i < K.length) (y:(K[i]'E).row = r ∧ (K[i]'E).col = k) (l:∀ j (h:j < K.length),j < i → ¬ ((K[j]'h).row = r ∧ (K[j]'h).col = k)) :
  Ct Tryz.prog 220 [.va (.slice q 0 I L 6 K.length J),.va (.fn (.func 221) [⟨1,0,0,0,0⟩,⟨2,0,0,0,0⟩])] F [(1,intE r),(2,intE k)] 3
   (fun o O Q n0=>F = O ∧ n0 = 3 ∧ o = .ret (.va (.int .i64 i)) ∧ Q = [(1,intE r),(2,intE k)]):=by
 obtain ⟨Y,U,W,V,T,Z,D,A,c,S,B⟩:=R;cases D
 have b:q = false:=Sl.lt A E;refine ct_of hΘ Tryz.func220 rfl (by decide) _ _ rfl rfl rfl ?_;conv=>whnf
 refine zam hΘ (X:={ j:Nat // j ≤ i }) (fun x=>[(8,.va (.int .i64 x.1))]) (4::5::jr 9 10 [])
  (fun x=>[(0,.frz F),(1,intE r),(2,intE k)]) 3 (fun x=>i - x.1) ⟨0,yd _⟩
  (fun u w=>leI [] u w rfl ⟨tv,zfx r k⟩ ⟨rfl,tv⟩ ⟨Fz.r F,rfl,rfl,tv⟩) ?_
 rintro ⟨j,M⟩ u w;replace M:j ≤ i:=M;have s:j < K.length:=by omega
 have p:(j:Int) < (K.length:Int):=by omega
 have m:=Sl.at B s;have f:j < 4611686018427387904:=by omega
 have a:=yau F (K[j]'s) r k;by_cases g:j = i
 ·subst g;rw [decide_eq_true y] at a;refine bri p ⟨b,⟨jw j,p⟩,_,c b,_,m,?_⟩;refine use a [(1,1),(2,2)] rfl ⟨rfl,rfl,rfl,tv⟩ rfl (zfx r k) (zms _ _ _) ⟨rfl,rfl,tv⟩ ?_;rintro n F1 x0 n0 l1 ⟨rfl,rfl,rfl,rfl⟩;refine bre (by decide) ?_;exact clean [] (.ret (.va (.int .i64 j))) F [(1,intE r),(2,intE k)] 3 ⟨Fz.r F,rfl,rfl,rfl,rfl⟩ (zah _) rfl rfl trivial (zfx r k) ⟨Fz.r F,rfl,rfl,tv⟩
 ·have e:j < i:=by omega
  have G:=l j s e;have d:i - (j + 1) < i - j:=by omega
  rw [decide_eq_false G] at a;refine bri p ⟨b,⟨jw j,p⟩,_,c b,_,m,?_⟩;refine use a [(1,1),(2,2)] rfl ⟨rfl,rfl,rfl,tv⟩ rfl (zfx r k) (zms _ _ _) ⟨rfl,rfl,tv⟩ ?_;rintro n F1 x0 n0 l1 ⟨rfl,rfl,rfl,rfl⟩;refine brd (by decide) ?_;exact ⟨⟨j + 1,e⟩,d,leR [] u w rfl ⟨tv,zfx r k⟩ ⟨cnt f,tv⟩ ⟨Fz.r F,rfl,rfl,tv⟩⟩
theorem z6r (F:Fz) (J M:SA) (d:Dc) (hD:DocAt F J M d) (a:DcSmall d) (hd:docOk d = true) (r k:Int) (i:Nat) (f:i < d.cells.length) (x:(d.cells[i]'f).row = r ∧ (d.cells[i]'f).col = k) (n:∀ j (h:j < d.cells.length),j < i → ¬ ((d.cells[j]'h).row = r ∧ (d.cells[j]'h).col = k)) (v:Int) (E:(valsF d.cells)[i]? = some v) :
  Fo Tryz.prog F 153 [.agg (docS J M d.w d.bits),.va (.int .i64 r),.va (.int .i64 k)] (fun o _=>o = .ret (.tup [.va (.int .i64 v),.va (.bool true)])):=by
 obtain ⟨L,K,w,s⟩:=d;obtain ⟨an,X,Z,Y,S,O,R,Q,rfl,rfl,hL,u,m⟩:=hD;have B:=z88 F S O R Q K r k i u a.c f x n;have e:=fun F1 (q:Fz.le F F1)=>zc2 F1 _ _ ⟨L,K,w,s⟩ (hL.mono q) (u.mono q) a.l a.c a.b
 rw [hd] at e;have G:=fun F1 (q:Fz.le F F1)=>znx F1 an X Z L.length Y S O R Q K w s (u.mono q) a.c m
 replace f:i < K.length:=f;replace E:(valsF K)[i]? = some v:=E;have y:¬ (i:Int) < 0:=by omega
 have A:(i:Int) < (K.length:Int):=by omega
 refine fo_of hΘ Tryz.func153 rfl (by decide) _ _ rfl rfl rfl ?_;refine use B [(1,2),(2,3)] rfl ⟨⟨rfl,rfl,rfl,.inr ⟨rfl,rfl,rfl,rfl⟩⟩,rfl,tv⟩ rfl (zfx r k) (by simp [SV.below,SA.below]) ⟨rfl,rfl,tv⟩ ?_;rintro U F1 x0 n0 q ⟨rfl,rfl,rfl,rfl⟩;refine ⟨fun _=>?_,fun g=>absurd (od g) y⟩;refine useFo (e F (Fz.r F)) rfl (zaa _) rfl ?_;rintro _ W T ⟨rfl,rfl⟩;refine brd (by decide) ?_;refine useFo (G W T) rfl (zaa _) rfl ?_;rintro _ I l3 (⟨rfl,p⟩ | ⟨vb,vc,vL,V,rfl,hb,hr⟩)
 ·exact absurd f (by rw [p]; simp)
 ·have D:=hr i v E;refine ⟨rfl,⟨jw i,A⟩,_,hb,_,D,?_⟩;exact endFo (.ret (.tup [.va (.int .i64 v),.va (.bool true)])) I rfl (Fz.t T l3) (Fz.r I) rfl (zah _) rfl
end Go.Proofs.YtfnkamphhpldcaaGreatDoor
