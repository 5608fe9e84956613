import Derived.Test.YtfnkamphhpldcaaGreatDoorK25
import Derived.Test.YtfnkamphhpldcaaGreatDoorK22
import Derived.Test.YtfnkamphhpldcaaGreatDoorK10
import Derived.Test.YtfnkamphhpldcaaGreatDoorK21
set_option maxHeartbeats 64000000
namespace Go.Proofs.YtfnkamphhpldcaaGreatDoor
open Go Sx
theorem zt1 {p:Int} {v:Val} (h:VOK p v) (a:v.lost = true):v = loseV:=by
 grind [loseV,VOK]
theorem zf6 (a b:List Stp) (v:Val):runS (a ++ b) v = runS b (runS a v):=qa0
theorem zkq:∀ l:List Stp,runS l loseV = loseV
 |[]=>rfl
 |s :: r=>by
  show runS r (if loseV.lost = true then loseV else stepS s loseV) = loseV;rw [if_pos (show loseV.lost = true from rfl)]; exact zkq r
theorem yah (s:Stp) {v:Val} (h:v.lost = false):runS [s] v = stepS s v:=by
 grind [runS]
theorem ztd {p:Int} {v:Val} (a:VOK p v) (n:Int):runS [(6,n)] v = loseV:=by
 by_cases h:v.lost = true
 ·grind [zt1,zkq]
 ·rw [yah _ (by grind)]; rfl
def nfs (p:Int):List (List Stp):=
 [(6,0)] :: if p = 1 then [[],[(1,0)],[(2,0)],[(1,0),(2,0)]]
 else if p = 2 then [[],[(4,0)],[(4,1)],[(4,2)],[(4,3)],[(4,4)],[(4,5)],[(4,6)]]
 else if p = 3 ∨ p = 5 then [[],[(3,10)],[(3,100)],[(3,1000)]]
 else if p = 6 ∨ p = 7 then [[],[(5,0)],[(5,0),(5,0)],[(5,0),(5,0),(5,0)],[(5,0),(5,0),(5,0),(5,0)],[(5,0),(5,0),(5,0),(5,0),(5,0)]]
 else [[]]
def sts (p:Int):List Stp:=
 (6,0) :: if p = 1 then [(1,0),(2,0)] else if p = 2 then [(4,0),(4,1),(4,2),(4,3),(4,4),(4,5),(4,6)] else if p = 3 ∨ p = 5 then [(3,10),(3,100),(3,1000)] else if p = 6 ∨ p = 7 then [(5,0)] else []
theorem p8 {p:Int} (a:1 ≤ p ∧ p ≤ 8):p = 1 ∨ p = 2 ∨ p = 3 ∨ p = 4 ∨ p = 5 ∨ p = 6 ∨ p = 7 ∨ p = 8:=by omega
theorem zz4 {p:Int} {s:Stp} (a:1 ≤ p ∧ p ≤ 8) (h:zbg p s = true):s ∈ sts p:=by
 obtain ⟨k,n⟩:=s;rcases zcu a h with ⟨rfl,rfl,rfl⟩ | ⟨rfl,rfl,rfl⟩ | ⟨rfl,rfl | rfl,rfl | rfl | rfl⟩ | ⟨rfl,rfl,b⟩ | ⟨rfl,rfl | rfl,rfl⟩ | ⟨rfl,rfl⟩
 case inr.inr.inr.inl=>
  have:n = 0 ∨ n = 1 ∨ n = 2 ∨ n = 3 ∨ n = 4 ∨ n = 5 ∨ n = 6:=by omega
  simp_all [sts,zbg]
 case inr.inr.inr.inr.inr=>simp [sts]
 all_goals decide
theorem z4y {p:Int} (a:1 ≤ p ∧ p ≤ 8):∀ m ∈ nfs p,∀ s ∈ sts p,normS (m ++ [s]) ∈ nfs p:=by
 rcases p8 a with rfl | rfl | rfl | rfl | rfl | rfl | rfl | rfl<;>decide +kernel
theorem zlp (l:List Stp):normS (normS l) = normS l:=by
 have h:=zfb l [];rw [show normS [] = [] from rfl,js,js] at h;omega
theorem zq8 (l:List Stp) (s:Stp):normS (normS l ++ [s]) = normS (l ++ [s]):=by
 have h1:=zfb l [s]
 grind [zfb,zlp,normS]
theorem zv7 {α:Type} {P:List α → Prop} (a:P []) (h1:∀ l x,P l → P (l ++ [x])) (l:List α):P l:=by
 have:∀ n,n ≤ l.length → P (l.take n):=by
  intro n
  induction n with
  |zero=>intro _; exact a
  |succ n ih=>
   intro h;rw [qh (by omega)];exact h1 _ _ (ih (by omega))
 grind [List.take_length]
theorem zoz {p:Int} (a:1 ≤ p ∧ p ≤ 8) (l:List Stp):(∀ s ∈ l,zbg p s = true) → normS l ∈ nfs p:=by
 refine zv7 (P:=fun l=>(∀ s ∈ l,zbg p s = true) → normS l ∈ nfs p) ?_ ?_ l
 ·intro _;rcases p8 a with rfl | rfl | rfl | rfl | rfl | rfl | rfl | rfl<;>decide +kernel
 ·intro l x ih h;rw [← zq8]
  grind [z4y,List.mem_append_left,zz4]
theorem ycb {p:Int} (a:1 ≤ p ∧ p ≤ 8):∀ m ∈ nfs p,∀ x ∈ m,zbg p x = true:=by
 rcases p8 a with rfl | rfl | rfl | rfl | rfl | rfl | rfl | rfl<;>decide +kernel
theorem z9m:∀ b:UInt8,Lib.lowerB (Lib.lowerB b) = Lib.lowerB b:=by
 intro b;have:∀ n:Fin 256,Lib.lowerB (Lib.lowerB (UInt8.ofNat n.1)) = Lib.lowerB (UInt8.ofNat n.1):=by decide +kernel
 have h:=this ⟨b.toNat,b.toNat_lt⟩
 simp_all
theorem zz0:∀ b:UInt8,(Lib.lowerB b == 32) = (b == 32):=by
 intro b;have:∀ n:Fin 256,(Lib.lowerB (UInt8.ofNat n.1) == 32) = (UInt8.ofNat n.1 == 32):=by decide +kernel
 have h:=this ⟨b.toNat,b.toNat_lt⟩
 simp_all
theorem zzz (s:List UInt8):Lib.toLowerA (Lib.toLowerA s) = Lib.toLowerA s:=by
 unfold Lib.toLowerA
 grind [List.map_map,List.map_congr_left,z9m]
theorem zuy:∀ s:List UInt8,hasD (Lib.toLowerA s) = hasD s
 |[]=>rfl
 |[_]=>rfl
 |a :: b :: r=>by
  have ih:=zuy (b :: r);show ((Lib.lowerB a == 32 && Lib.lowerB b == 32) || hasD (Lib.toLowerA (b :: r))) = _
  grind [zz0,hasD]
theorem zo9:∀ s:List UInt8,repD (Lib.toLowerA s) = Lib.toLowerA (repD s)
 |[]=>rfl
 |[_]=>rfl
 |a :: b :: r=>by
  have c:=zo9 r;have d:=zo9 (b :: r);show (if (Lib.lowerB a == 32 && Lib.lowerB b == 32) = true then 32 :: repD (Lib.toLowerA r) else Lib.lowerB a :: repD (Lib.toLowerA (b :: r))) = _;rw [zz0,zz0,c,d,repD];split
  ·show _ = Lib.lowerB 32 :: Lib.toLowerA (repD r);rw [show Lib.lowerB 32 = 32 by decide]
  rfl
theorem z1l:∀ (f:Nat) (s:List UInt8),spS f (Lib.toLowerA s) = Lib.toLowerA (spS f s)
 |0,_=>rfl
 |f + 1,s=>by
  rw [spS,spS,zuy];split
  ·rw [zo9]; exact z1l f _
  rfl
theorem z4m (s:List UInt8):(Lib.toLowerA s).length = s.length:=by unfold Lib.toLowerA; simp
theorem z1n:∀ (f:Nat) (s:List UInt8),s.length ≤ f → hasD (spS f s) = false
 |0,s,h=>by
  grind [hasD,spS]
 |f + 1,s,h=>by
  rw [spS];by_cases a:hasD s = true
  ·rw [if_pos a]; exact z1n f _ (by have:=zl2 s a; omega)
  grind
theorem zqd (x:Ln):foldL (foldL x) = foldL x:=Prod.ext (zzz _) rfl
theorem zmd (x:Ln):zc3 (zc3 x) = zc3 x:=Prod.ext (z1k (z1n _ _ (qi _))) rfl
theorem zm2 (x:Ln):foldL (zc3 x) = zc3 (foldL x):=by
 grind [Prod.ext,z1l,z4m,spS,foldL,zc3]
theorem z9f {n k:Int} (b:0 ≤ k) (x:Ln):limL k (limL n x) = limL (if k < n then k else n) x:=by
 obtain ⟨t,m⟩:=x;refine Prod.ext rfl ?_;cases m with
 |nil=>rfl
 |cons a r=>
  show (if (if a > n then 0 else a) > k then 0 else (if a > n then 0 else a)) :: r = (if a > (if k < n then k else n) then 0 else a) :: r
  grind
theorem tm_tm {n k z:Int} (b:n = 10 ∨ n = 100 ∨ n = 1000) (a:k = 10 ∨ k = 100 ∨ k = 1000):(z - z.tmod n) - (z - z.tmod n).tmod k = z - z.tmod (if n < k then k else n):=by
 have e:∀ z m:Int,0 < m → z.tmod m = if 0 ≤ z then z % m else -((-z) % m):=by
  intro z m c;split
  ·grind
  ·rename_i h;have h1:=qdw z m
   grind
 rcases b with rfl | rfl | rfl<;>rcases a with rfl | rfl | rfl
 all_goals
  grind
theorem yac {n k:Int} (d:n = 10 ∨ n = 100 ∨ n = 1000) (c:k = 10 ∨ k = 100 ∨ k = 1000) (x:Ln):zg7 k (zg7 n x) = zg7 (if n < k then k else n) x:=by
 obtain ⟨t,m⟩:=x;refine Prod.ext rfl ?_
 match m with
 |[]=>rfl
 |[_]=>rfl
 |[_,_]=>rfl
 |a :: b :: z :: r=>
  show a :: b :: (z - z.tmod n - (z - z.tmod n).tmod k) :: r = a :: b :: (z - z.tmod _) :: r;rw [tm_tm d c]
theorem z3z {p:Int} {v:Val} (f:p = 6 ∨ p = 7) (i:VOK p v) (e:v.lost = false) (n:v.w ≤ 1) (m:v.h ≤ 1):halV v = v:=by
 obtain ⟨h1,j,k,a⟩:=zft i e f;obtain ⟨g,L,w,h,bits⟩:=v;dsimp only at *;subst e h1;have d:(w = 0 ∧ h = 0) ∨ (w = 1 ∧ h = 1):=by omega
 have c:bits = [] ∨ (w = 1 ∧ h = 1 ∧ ∃ b,bits = [b] ∧ (b = 48 ∨ b = 49)):=by
  rcases f with l | h7
  ·rw [if_neg (by omega)] at a; exact .inl a
  ·rw [if_pos h7] at a;rcases d with ⟨rfl,rfl⟩ | ⟨rfl,rfl⟩
   ·exact .inl (jo (by have:=a.1; omega))
   ·right;refine ⟨rfl,rfl,?_⟩
    match bits,a.1,a.2 with
    |[b],_,h5=>
     refine ⟨b,rfl,?_⟩;simpa using h5
    |[],h5,_=>simp at h5
    |_ :: _ :: _,h5,_=>simp only [qe] at h5; omega
 unfold halV;dsimp only;rcases c with rfl | ⟨rfl,rfl,b,rfl,c⟩
 ·rcases d with ⟨rfl,rfl⟩ | ⟨rfl,rfl⟩<;>rfl
 grind [halB,VOK]
theorem zvy {v:Val} (a:v.lost = false) (r:List Stp):runS ((5,0) :: r) v = runS r (halV v):=by
 grind [runS,stepS]
theorem half6 {p:Int} {v:Val} (a:p = 6 ∨ p = 7) (c:VOK p v) (b:v.lost = false) :
  runS [(5,0),(5,0),(5,0),(5,0),(5,0),(5,0)] v = runS [(5,0),(5,0),(5,0),(5,0),(5,0)] v:=by
 obtain ⟨_,i,j,_⟩:=zft c b a;rw [zvy b,zvy b];have d:=zjh a c b;have e:=zjh a d rfl;have f:=zjh a e rfl;have g:=zjh a f rfl;have h:=zjh a g rfl;show halV (halV (halV (halV (halV (halV v))))) = halV (halV (halV (halV (halV v))));refine z3z a h rfl ?_ ?_
 ·show (((((v.w + 1) / 2 + 1) / 2 + 1) / 2 + 1) / 2 + 1) / 2 ≤ 1;omega
 grind [halV,VOK]
theorem mm {f g k:Ln → Ln} (h:∀ x,g (f x) = k x) (L:List Ln):(L.map f).map g = L.map k:=by
 simp_all
theorem z0i (n k:Int):normS [(4,n),(4,k)] = [(4,if k < n then k else n)]:=by
 rfl
theorem z0j (n k:Int):normS [(3,n),(3,k)] = [(3,if n < k then k else n)]:=by
 rfl
theorem z9t {p:Int} (a:p = 6 ∨ p = 7) {m:List Stp} (h:m ∈ nfs p):m = [(6,0)] ∨ ∃ k,k ≤ 5 ∧ m = List.replicate k (5,0):=by
 rcases a with rfl | rfl
 all_goals
  rw [nfs,if_neg (by decide),if_neg (by decide),if_neg (by decide),if_pos (by decide)] at h;simp only [qg,qp,or_false] at h;rcases h with rfl | rfl | rfl | rfl | rfl | rfl | rfl
  ·grind
  ·simp_all
  ·exact .inr ⟨1,by omega,rfl⟩
  ·exact .inr ⟨2,by omega,rfl⟩
  ·exact .inr ⟨3,by omega,rfl⟩
  ·exact .inr ⟨4,by omega,rfl⟩
  ·exact .inr ⟨5,by omega,rfl⟩
theorem z5x {p:Int} (q:1 ≤ p ∧ p ≤ 8) {m:List Stp} (b:m ∈ nfs p) {s:Stp} (a:s ∈ sts p) {v:Val} (o:∀ x ∈ m,zbg p x = true) (u:VOK p v):runS (normS (m ++ [s])) v = runS (m ++ [s]) v:=by
 by_cases g:v.lost = true
 ·grind [zt1,zkq]
 have g:v.lost = false:=by simpa using g
 by_cases f:s = (6,0)
 ·subst f;rw [zer (by rw [zfg,zks]; simp),ztd u,zf6,ztd (zkx q m v o u)]
 by_cases j:m = [(6,0)]
 ·grind [zer,zfg,zks,zf6,ztd,zkq]
 obtain ⟨i,L,w,h,bits⟩:=v;replace g:i = false:=g;subst g;rcases p8 q with rfl | rfl | rfl | rfl | rfl | hp6 | hp7 | rfl
 ·rw [nfs,if_pos rfl] at b;rw [sts,if_pos rfl] at a;simp only [qg,qp,or_false] at b a;rcases b with b | rfl | rfl | rfl | rfl
  ·exact absurd b j
  all_goals
   rcases a with a | rfl | rfl
   ·exact absurd a f
  ·rfl
  ·rfl
  ·show Val.mk false (L.map foldL) w h bits = Val.mk false ((L.map foldL).map foldL) w h bits;rw [mm zqd]
  ·rfl
  ·show Val.mk false ((L.map foldL).map zc3) w h bits = Val.mk false ((L.map zc3).map foldL) w h bits;rw [mm (k:=fun x=>zc3 (foldL x)) (fun x=>rfl),mm zm2]
  ·show Val.mk false (L.map zc3) w h bits = Val.mk false ((L.map zc3).map zc3) w h bits;rw [mm zmd]
  ·show Val.mk false ((L.map foldL).map zc3) w h bits = Val.mk false (((L.map foldL).map zc3).map foldL) w h bits;rw [mm zm2,mm (k:=fun x=>zc3 (foldL x)) (fun x=>rfl),mm (k:=fun x=>zc3 (foldL x)) (fun x=>by rw [zqd])]
  ·show Val.mk false ((L.map foldL).map zc3) w h bits = Val.mk false (((L.map foldL).map zc3).map zc3) w h bits;rw [mm zmd]
 ·rw [nfs,if_neg (by decide),if_pos rfl] at b;rw [sts,if_neg (by decide),if_pos rfl] at a
  have e:m = [] ∨ ∃ n,m = [(4,n)]:=by
   simp only [qg,qp,or_false] at b;rcases b with b | rfl | rfl | rfl | rfl | rfl | rfl | rfl | rfl
   ·exact absurd b j
   ·exact .inl rfl
   all_goals grind
  have c:∃ k,0 ≤ k ∧ s = (4,k):=by
   simp only [qg,qp,or_false] at a;rcases a with a | rfl | rfl | rfl | rfl | rfl | rfl | rfl
   ·exact absurd a f
   all_goals exact ⟨_,by decide,rfl⟩
  obtain ⟨k,l,rfl⟩:=c;rcases e with rfl | ⟨n,rfl⟩
  ·rfl
  ·show runS (normS [(4,n),(4,k)]) _ = _;rw [z0i];show Val.mk false (L.map (limL (if k < n then k else n))) w h bits = Val.mk false ((L.map (limL n)).map (limL k)) w h bits;rw [mm (z9f l)]
 case inr.inr.inl | inr.inr.inr.inr.inl=>
  rw [nfs,if_neg (by decide),if_neg (by decide),if_pos (by decide)] at b;rw [sts,if_neg (by decide),if_neg (by decide),if_pos (by decide)] at a
  have e:m = [] ∨ ∃ n,(n = 10 ∨ n = 100 ∨ n = 1000) ∧ m = [(3,n)]:=by
   simp only [qg,qp,or_false] at b;rcases b with b | rfl | rfl | rfl | rfl
   ·exact absurd b j
   ·exact .inl rfl
   all_goals grind
  have c:∃ k,(k = 10 ∨ k = 100 ∨ k = 1000) ∧ s = (3,k):=by
   simp only [qg,qp,or_false] at a;rcases a with a | rfl | rfl | rfl
   ·exact absurd a f
   all_goals exact ⟨_,by decide,rfl⟩
  obtain ⟨k,l,rfl⟩:=c;rcases e with rfl | ⟨n,y,rfl⟩
  ·rfl
  ·show runS (normS [(3,n),(3,k)]) _ = _;rw [z0j];show Val.mk false (L.map (zg7 (if n < k then k else n))) w h bits = Val.mk false ((L.map (zg7 n)).map (zg7 k)) w h bits
   grind [mm,yac]
 case inr.inr.inr.inl | inr.inr.inr.inr.inr.inr.inr=>
  grind [sts]
 all_goals
  have d:p = 6 ∨ p = 7:=by omega
  have c:s = (5,0):=by
   rw [sts,if_neg (by omega),if_neg (by omega),if_neg (by omega),if_pos d] at a;simp only [qg,qp,or_false] at a;exact a.resolve_left f
  subst c;obtain ⟨k,l,rfl⟩:=(z9t d b).resolve_left j;rw [show List.replicate k ((5:Int),(0:Int)) ++ [(5,0)] = List.replicate (k + 1) (5,0) by rw [qcl],z4z]
  grind [Nat.min_eq_left,half6,runS,VOK,sts,nfs,zbg]
theorem z5w {p:Int} (b:1 ≤ p ∧ p ≤ 8) (l:List Stp):(∀ s ∈ l,zbg p s = true) → ∀ v,VOK p v → runS (normS l) v = runS l v:=by
 refine zv7 (P:=fun l=>(∀ s ∈ l,zbg p s = true) → ∀ v,VOK p v → runS (normS l) v = runS l v) ?_ ?_ l
 ·intro _ v _; rfl
 ·intro l x ih h v e;have c:∀ s ∈ l,zbg p s = true:=fun s f=>h s (qax _ f)
  have g:=h x (by simp);have d:=zoz b l c;have a:∀ s ∈ normS l,zbg p s = true:=ycb b _ d;rw [← zq8,z5x b d (zz4 b g) a e,zf6,zf6,ih c v e]
theorem ze3 {p:Int} {l:List Stp} {v:Val} (a:zaw p l = true) (b:VOK p v):zc4 p l (zbo p v) = (zbo p (runS l v),0):=by
 rw [zc4,if_pos a,zxd (zhc a) b]
theorem z7m {p:Int} {l:List Stp} {v:Val} (a:zaw p l = true) (b:VOK p v):VOK p (runS l v):=zkx (zhc a) l v (zfr a) b
theorem z0d {p:Int} (a:1 ≤ p ∧ p ≤ 8):∀ m ∈ nfs p,zaw p m = true:=by
 rcases p8 a with rfl | rfl | rfl | rfl | rfl | rfl | rfl | rfl<;>decide +kernel
theorem z9u {p:Int} {l:List Stp} (a:zaw p l = true):normS l ∈ nfs p:=zoz (zhc a) l (zfr a)
theorem z6w {p:Int} {a b:List Stp} (c:zaw p a = true) (d:zaw p b = true):∀ s ∈ a ++ b,zbg p s = true:=fun s e=>by
 rcases yj.1 e with h | h
 ·exact zfr c s h
 ·exact zfr d s h
theorem z8l {p:Int} {a b:List Stp} (c:zaw p a = true) (d:zaw p b = true):normS (a ++ b) ∈ nfs p:=zoz (zhc c) _ (z6w c d)
theorem compV {p:Int} {a b:List Stp} (c:zaw p a = true) (d:zaw p b = true):zaw p (normS (a ++ b)) = true:=z0d (zhc c) _ (z8l c d)
theorem z5v {p:Int} {a b:List Stp} {v:Val} (c:zaw p a = true) (d:zaw p b = true) (e:VOK p v):runS (normS (a ++ b)) v = runS b (runS a v):=by
 rw [z5w (zhc c) _ (z6w c d) v e,zf6]
theorem zwv (a b c:List Stp):normS (normS (a ++ b) ++ c) = normS (a ++ normS (b ++ c)):=by
 have h1:=zfb (normS (a ++ b)) c;have e:=zfb (a ++ b) c;have d:=zfb a (normS (b ++ c));have f:=zfb a (b ++ c);rw [zlp] at h1 d;rw [← h1,e,← d,f,qm]
instance decNums (p:Int):∀ (l acc:List Int),Decidable (zj5 p acc l)
 |[],_=>isTrue trivial
 |x :: r,acc=>@instDecidableAnd _ _ inferInstance (decNums p r (acc ++ [x]))
instance decLn (p:Int) (before:List Ln) (x:Ln):Decidable (lnOk p before x):=by
 unfold lnOk
 have:Decidable (∀ y,before.getLast? = some y → cmpL (y.2.take 2) (x.2.take 2) < 0):=by
  cases h:before.getLast? with
  |none=>exact isTrue (fun y hy=>by cases hy)
  |some z=>
   by_cases hz:cmpL (z.2.take 2) (x.2.take 2) < 0
   ·exact isTrue (fun y hy=>by cases hy; exact hz)
   ·exact isFalse (fun hy=>hz (hy z rfl))
 infer_instance
instance decLns (p:Int):∀ (l acc:List Ln),Decidable (lnsOk p acc l)
 |[],_=>isTrue trivial
 |x :: r,acc=>@instDecidableAnd _ _ (decLn p acc x) (decLns p r (acc ++ [x]))
def VOK1 (p:Int) (v:Val):Prop:=v.lost = false ∧
  if p = 8 then v.lines = [] ∧ v.bits = [] ∧ (0 ≤ v.w ∧ v.w ≤ 64) ∧ (0 ≤ v.h ∧ v.h ≤ 64)
  else if 6 ≤ p then v.lines = [] ∧ (0 ≤ v.w ∧ v.w ≤ 32) ∧ (min v.w 1 ≤ v.h ∧ v.h ≤ min v.w 1 * 32) ∧ (if p = 7 then (v.bits.length:Int) = v.w * v.h ∧ v.bits.all (fun b=>b == 48 || b == 49) = true else v.bits = [])
  else v.w = 0 ∧ v.h = 0 ∧ v.bits = [] ∧ v.lines.length ≤ 64 ∧ lnsOk p [] v.lines
instance decVOK (p:Int) (v:Val):Decidable (VOK1 p v):=by unfold VOK1; infer_instance
theorem nilV {p:Int} (a:1 ≤ p ∧ p ≤ 8):zaw p [] = true:=by
 rcases p8 a with rfl | rfl | rfl | rfl | rfl | rfl | rfl | rfl<;>decide
end Go.Proofs.YtfnkamphhpldcaaGreatDoor
namespace Sx
open Go
theorem ya0 {P:Program} {c:Code} {b:St} {Q:SE → St → Prop} {X:Type} (i:St) (I:X → St) (g:WfH b.h b.nx → WfT b.t b.nx → Le b i ∧ WP P c i (fun e f=>e = .normal ∧ ∃ x,Le f (I x))) (n:∀ x,Q .normal (I x)):WP P c b Q:=by
 unfold WP;intro C ρ a w D;obtain ⟨g,h1⟩:=g D.wfH D.wfT;unfold Le at g;obtain ⟨q,k⟩:=g C ρ a w D;unfold WP at h1;refine wp_mono (h1 C q a w k) ?_;rintro e m o ⟨u,f,p,⟨rfl,x,d⟩,rfl,j⟩;unfold Le at d;obtain ⟨s,l⟩:=d C p m o j;exact ⟨.normal,I x,s,n x,rfl,l⟩
end Sx
namespace Go.Proofs.YtfnkamphhpldcaaGreatDoor
open Go Sx
set_option maxRecDepth 100000
theorem zhr {P:Program} {F:Fz} {f:FuncId} {args:List SV} {b:Bool} {R:Fz → Prop} (h:Fo P F f args (fun o a=>o = .ret (.va (.bool b)) ∧ R a)):Fo P F f args (fun o a=>o = .ret (.va (.lit b)) ∧ R a):=by
 unfold Fo at *;refine zkv h fun o h n j=>?_
 unfold Cln at *;intro C ρ w e k S l i;obtain ⟨c,d,g,n0,x,⟨m,p,q,y,rfl,s⟩,u,A,r⟩:=j C ρ w e k S l i;exact ⟨.ret (.va (.lit b)),d,g,n0,x,⟨m,p,q,rfl,rfl,s⟩,u,tv,r⟩
end Go.Proofs.YtfnkamphhpldcaaGreatDoor
namespace Go.Proofs.YtfnkamphhpldcaaGreatDoor
open Go Sx
set_option maxRecDepth 100000
theorem zxl {p:Int} {v:Val} (a:Fits v):(zbo p v).length ≤ 100000000000:=by
 unfold zbo;split
 ·simp
 split
 ·have h1:=za3 [v.w,v.h];have b:=zdk v.bits;rw [qb];simp only [qe,qt] at h1;split
  ·omega
  ·simp only [qt]; omega
 ·have h1:=za3 [(v.lines.length:Int)];have b:=zjl (p:=p) v.lines (fun x d=>(a.h2 x d).2);have c:=a.h1;rw [qb];simp only [qe,qt] at h1;have e:74545 * v.lines.length ≤ 74545 * 1000:=qb4 _ c;omega
def inR (n b a:Int):Bool:=decide (b ≤ n) && decide (n ≤ a)
theorem zwz (n b a:Int):Pu Tryz.prog 217 [.va (.int .i64 n),.va (.int .i64 b),.va (.int .i64 a)] (.va (.bool (inR n b a))):=by
 intro F;refine fo_of hΘ Tryz.func217 rfl (by decide) _ _ rfl rfl rfl ?_;refine ⟨fun g=>?_,fun g=>?_⟩
 ·refine endPu rfl (Fz.r F) (ob ?_) rfl;unfold inR; rw [g,qaa]
 ·refine endPu rfl (Fz.r F) (ob ?_) rfl;unfold inR; rw [g,jj]
theorem zen {n c a:Int} {b:Bool} (h:inR n c a = b) (F:Fz):Fo Tryz.prog F 217 [.va (.int .i64 n),.va (.int .i64 c),.va (.int .i64 a)] (fun o d=>o = .ret (.va (.lit b)) ∧ d = F):=by
 have h1:=zwz n c a F;rw [h] at h1;exact zhr h1
abbrev docS (a b:SA) (w:Int) (s:List UInt8):List SA:=[a,b,.int .i64 w,.str s]
def hgt (w:Int) (s:List UInt8):Int:=if w < 1 then 0 else (s.length:Int).tdiv w
theorem zlc (F:Fz) (a b:SA) (w:Int) (s:List UInt8) (l:s.length ≤ 1000000000000000000):Fo Tryz.prog F 168 [.agg (docS a b w s)] (fun o d=>o = .ret (.va (.int .i64 (hgt w s))) ∧ d = F):=by
 have fin:∀ (z:Int) (h:Hp) (nx:Nat),hgt w s = z → lget h 0 = some (.frz F) → Cln 1 (FoK F fun o d=>o = .ret (.va (.int .i64 (hgt w s))) ∧ d = F) (.ret (.va (.int .i64 z))) h nx:=by
  intro z h nx j g;subst j;exact endPu g (Fz.r F) (zah _) rfl
 by_cases c:w < 1
 ·have e:hgt w s = 0:=if_pos c;refine fo_of hΘ Tryz.func168 rfl (by decide) _ _ rfl rfl rfl ?_;refine bri c ?_;exact fin 0 _ _ e rfl
 ·have f:w ≠ 0:=by omega
  have i:IntKind.i64.wrap ((s.length:Int).tdiv w) = (s.length:Int).tdiv w:=by
   have h1:0 ≤ (s.length:Int).tdiv w:=Int.tdiv_nonneg (by omega) (by omega)
   have k:(s.length:Int).tdiv w ≤ s.length:=by
    rw [ju (by omega)];exact Int.ediv_le_self _ (by omega)
   exact zaj (by omega) (by omega)
  have e:hgt w s = IntKind.i64.wrap ((s.length:Int).tdiv w):=by rw [i]; exact if_neg c
  refine fo_of hΘ Tryz.func168 rfl (by decide) _ _ rfl rfl rfl ?_;refine brj c ⟨f,?_⟩;exact fin _ _ _ e rfl
structure Cel where
 row:Int
 col:Int
 sum:Bool
 value:Int
 top:Int
 left:Int
def encK (c:Cel):List SA:=[.int .i64 c.row,.int .i64 c.col,.bool c.sum,.int .i64 c.value,.int .i64 c.top,.int .i64 c.left]
def celOk (c:Cel):Bool:=(inR c.row 0 31 && inR c.col 0 31) && (if c.sum = true then (decide (c.value = 0) && inR c.top 0 c.row) && inR c.left 0 c.col else (inR c.value (-1000000) 1000000 && decide (c.top = 0)) && decide (c.left = 0))
theorem zzi (F:Fz) (c:Cel):Fo Tryz.prog F 148 [.agg (encK c)] (fun o u=>o = .ret (.va (.bool (celOk c))) ∧ u = F):=by
 obtain ⟨i,f,j,b,d,left⟩:=c;have E:∃ l m n p q,inR i 0 31 = l ∧ inR f 0 31 = m ∧ inR d 0 i = n ∧ inR left 0 f = p ∧ inR b (-1000000) 1000000 = q:=⟨_,_,_,_,_,rfl,rfl,rfl,rfl,rfl⟩
 obtain ⟨l,m,n,p,q,h1,w,x,y,A⟩:=E;have I:=zen h1 F;have J:=zen w F;have K:=zen x F;have L:=zen y F;have M:=zen A F
 have fin:∀ (z:Bool) (a:SA) (h:Hp) (nx:Nat),celOk ⟨i,f,j,b,d,left⟩ = z → atomE (.bool z) (a.ren (resP h)) → lget h 0 = some (.frz F) → Cln 1 (FoK F fun o u=>o = .ret (.va (.bool (celOk ⟨i,f,j,b,d,left⟩))) ∧ u = F) (.ret (.va a)) h nx:=by
  intro z a h nx G D B;subst G;exact endPu B (Fz.r F) D rfl
 have e:celOk ⟨i,f,j,b,d,left⟩ = ((l && m) && (if j = true then (decide (b = 0) && n) && p else (q && decide (d = 0)) && decide (left = 0))):=by
  rw [← h1,← w,← x,← y,← A]; rfl
 clear h1 w x y A;refine fo_of hΘ Tryz.func148 rfl (by decide) _ _ rfl rfl rfl ?_;refine usePu I rfl ⟨rfl,rfl,rfl,tv⟩ rfl ?_;rcases l with _ | _
 ·exact fin false _ _ _ e rfl rfl
 ·refine usePu J rfl ⟨rfl,rfl,rfl,tv⟩ rfl ?_;rcases m with _ | _
  ·exact fin false _ _ _ e rfl rfl
  ·rcases j with _ | _
   ·refine br (fun g=>absurd g (by show ¬ false = true; decide)) (fun _=>?_);refine usePu M rfl ⟨rfl,rfl,rfl,tv⟩ rfl ?_;rcases q with _ | _
    ·exact fin false _ _ _ e rfl rfl
    ·conv=>whnf
     by_cases s:d = 0
     ·refine ⟨fun _=>?_,fun g=>absurd s (oe g)⟩;exact fin (decide (left = 0)) _ _ _ (by rw [e,decide_eq_true s]; simp) rfl rfl
     ·refine ⟨fun g=>absurd (od g) s,fun _=>?_⟩;exact fin false _ _ _ (by rw [e,decide_eq_false s]; simp) rfl rfl
   ·refine br (fun _=>?_) (fun g=>absurd g (by show ¬ true = false; decide));conv=>whnf
    by_cases k:b = 0
    ·refine ⟨fun _=>?_,fun g=>absurd k (oe g)⟩;refine usePu K rfl ⟨rfl,rfl,rfl,tv⟩ rfl ?_;rcases n with _ | _
     ·exact fin false _ _ _ (by rw [e,decide_eq_true k]; rfl) rfl rfl
     ·refine usePu L rfl ⟨rfl,rfl,rfl,tv⟩ rfl ?_;exact fin p _ _ _ (by rw [e,decide_eq_true k]; simp) rfl rfl
    ·refine ⟨fun g=>absurd (od g) k,fun _=>?_⟩;exact fin false _ _ _ (by rw [e,decide_eq_false k]; simp) rfl rfl
end Go.Proofs.YtfnkamphhpldcaaGreatDoor
namespace Go.Proofs.YtfnkamphhpldcaaGreatDoor
open Go Go.RowKit Sx
theorem z94 (w:World):PredAtRunes Tryz.prog 215 #[] badR w:=by
 intro W x hx hb;unfold FnGives
 go_enter Tryz.func215,Tryz.ntmps215
 by_cases h1:32 ≤ x
 ·by_cases h2:x ≤ 126
  ·go_wp2
   all_goals go_ret
   all_goals refine ⟨?_,0,rfl⟩
   all_goals (simp [badR,h1,h2]; try omega)
  ·go_wp2
   all_goals go_ret
   all_goals refine ⟨?_,0,rfl⟩
   all_goals (simp [badR,h1,h2]; try omega)
 ·go_wp2
  all_goals go_ret
  all_goals refine ⟨?_,0,rfl⟩
  all_goals (simp [badR,h1]; try omega)
theorem ifun (F:Fz) (s:List UInt8) (_:s.length ≤ 1000000000000000000):Fo Tryz.prog F 216 [.va (.str s),.va (.fn (.func 215) [])] (fun o b=>(∃ z,o = .ret (.va (.int .i64 z)) ∧ decide (0 ≤ z) = s.any badC) ∧ b = F):=by
 refine zce (zg2 (F:=F) (args:=[.va (.str s),.va (.fn (.func 215) [])]) (out:=.ret (.va (.int .i64 (Lib.idxFunc badR true ⟨s.toArray⟩)))) (vs:=[.string ⟨s.toArray⟩,.func (.func 215) #[] #[]]) (Sx.enters_of Tryz.func216 rfl (by decide)) rfl (by
   rintro ρ a h
   match a,h with
   |[v,u],h=>rw [h.1,h.2.1]; rfl) (.returned (.int .i64 (Lib.idxFunc badR true ⟨s.toArray⟩))) (fun ρ=>⟨_,rfl,rfl⟩) (fun C ρ w S=>by
   have h:=Any.strings_IndexFunc_runes { Tryz.laysGw17 with } 215 #[] (enters_of Tryz.func215 (by kernel_rfl) rfl) badR ⟨s.toArray⟩ w (z94 w);refine h.mono fun e f ⟨h1,c⟩=>⟨?_,c⟩
   rw [h1])) fun o b h=>⟨⟨_,h.1,by rw [Lib.idxFunc,zsv s _ 0 (by show s.length ≤ 0 + s.toArray.size; simp),qaf]⟩,h.2⟩
end Go.Proofs.YtfnkamphhpldcaaGreatDoor
namespace Go.Proofs.YtfnkamphhpldcaaGreatDoor
open Go Sx
set_option maxRecDepth 100000
abbrev DLn:=List UInt8 × Int
def encN (l:DLn):List SA:=[.str l.1,.int .i64 l.2]
def dlnOk (l:DLn):Bool:=(decide (l.1.length ≤ 80) && !l.1.any badC) && inR l.2 0 7
theorem zzk (F:Fz) (l:DLn):Fo Tryz.prog F 146 [.agg (encN l)] (fun o i=>o = .ret (.va (.bool (dlnOk l))) ∧ i = F):=by
 obtain ⟨t,m⟩:=l;have u:∃ j k,t.any badC = j ∧ inR m 0 7 = k:=⟨_,_,rfl,rfl⟩
 obtain ⟨j,k,h1,p⟩:=u;have w:=zen p F;have e:dlnOk (t,m) = ((decide (t.length ≤ 80) && !j) && k):=by rw [← h1,← p]; rfl
 have f:=fun b:t.length ≤ 80=>ifun F t (jk b (by decide))
 rw [h1] at f
 have fin:∀ (z:Bool) (a:SA) (h:Hp) (nx:Nat),dlnOk (t,m) = z → atomE (.bool z) (a.ren (resP h)) → lget h 0 = some (.frz F) → Cln 1 (FoK F fun o i=>o = .ret (.va (.bool (dlnOk (t,m)))) ∧ i = F) (.ret (.va a)) h nx:=by
  intro z a h nx n s q;subst n;exact endPu q (Fz.r F) s rfl
 clear h1 p;by_cases b:t.length ≤ 80
 ·have c:(t.length:Int) ≤ 80:=by omega
  refine fo_of hΘ Tryz.func146 rfl (by decide) _ _ rfl rfl rfl ?_;refine ⟨fun _=>?_,fun g=>absurd c (oe g)⟩;refine useFo (f b) rfl ⟨rfl,rfl,tv⟩ rfl ?_;rintro _ i _ ⟨⟨z,rfl,n⟩,rfl⟩;rcases j with _ | _
  ·have d:z < 0:=by
    have:=oe n; omega
   refine ⟨fun _=>?_,fun g=>absurd d (oe g)⟩;refine usePu w rfl ⟨rfl,rfl,rfl,tv⟩ rfl ?_;exact fin k _ _ _ (by rw [e,decide_eq_true b]; simp) rfl rfl
  ·have d:¬ z < 0:=by
    have:=od n; omega
   refine ⟨fun g=>absurd (od g) d,fun _=>?_⟩;exact fin false _ _ _ (by rw [e]; simp) rfl rfl
 ·have c:¬ (t.length:Int) ≤ 80:=by omega
  refine fo_of hΘ Tryz.func146 rfl (by decide) _ _ rfl rfl rfl ?_;refine ⟨fun g=>absurd (od g) c,fun _=>?_⟩;exact fin false _ _ _ (by rw [e,decide_eq_false b]; simp) rfl rfl
theorem z4d {n b a:Int}:inR n b a = true ↔ b ≤ n ∧ n ≤ a:=by
 unfold inR; simp
def bitK (b:UInt8):Bool:=b == 48 || b == 49
theorem zagg {l:List SA} {μ:Mu} (h:l.all SA.z = true) (a:∀ k,μ 0 k = (0,k)):svE (.agg l) (SV.ren μ (.agg l)):=by
 have b:(SV.agg l).z = true:=h;rw [SV.ren_id (.inl b) a]; exact zi2 _
def rasOk (w:Int) (s:List UInt8):Bool:=(inR w 0 32 && s.all bitK) && ((decide (w = 0) && (s == [])) || ((decide (0 < w) && decide ((s.length:Int) = w * hgt w s)) && inR (hgt w s) 1 32))
theorem zsx (F:Fz) (a b:SA) (w:Int) (s:List UInt8) (T:s.length ≤ 70000) (X:a.z = true) (Y:b.z = true):Fo Tryz.prog F 149 [.agg (docS a b w s)] (fun o A=>o = .ret (.va (.bool (rasOk w s))) ∧ A = F):=by
 have x:(docS a b w s).all SA.z = true:=by
  show (a.z && (b.z && (true && (true && true)))) = true;rw [X,Y]; rfl
 have y:([SV.agg (docS a b w s)].all SV.z) = true:=by
  show ((docS a b w s).all SA.z && true) = true;rw [x]; rfl
 have J:=tfun F s T;have n:=zlc F a b w s (by omega);have V:∃ l B m,inR w 0 32 = l ∧ s.all bitK = B ∧ inR (hgt w s) 1 32 = m:=⟨_,_,_,rfl,rfl,rfl⟩
 obtain ⟨l,B,m,h1,E,G⟩:=V;have M:=zen h1 F;have W:=zen G F
 have e:rasOk w s = ((l && B) && ((decide (w = 0) && (s == [])) || ((decide (0 < w) && decide ((s.length:Int) = w * hgt w s)) && m))):=by
  unfold rasOk; rw [h1,E,G]
 have S:l = true → 0 ≤ w ∧ w ≤ 32:=fun h=>z4d.1 (h1.trans h)
 have fin:∀ (z:Bool) (a:SA) (h:Hp) (nx:Nat),rasOk w s = z → atomE (.bool z) (a.ren (resP h)) → lget h 0 = some (.frz F) → Cln 1 (FoK F fun o A=>o = .ret (.va (.bool (rasOk w s))) ∧ A = F) (.ret (.va a)) h nx:=by
  intro z a h nx x R O;subst x;exact endPu O (Fz.r F) R rfl
 clear h1 G;rcases l with _ | _
 ·refine fo_of hΘ Tryz.func149 rfl (by decide) _ _ rfl rfl rfl ?_;refine usePu M rfl ⟨rfl,rfl,rfl,tv⟩ rfl ?_;exact fin false _ _ _ (by rw [e]; simp) rfl rfl
 have U:=S rfl;refine fo_of hΘ Tryz.func149 rfl (by decide) _ _ rfl rfl rfl ?_;refine usePu M rfl ⟨rfl,rfl,rfl,tv⟩ rfl ?_;refine useFo J rfl ⟨rfl,rfl,tv⟩ rfl ?_;rintro _ A _ ⟨rfl,r,rfl,q⟩;rcases B with _ | _
 ·have j:(!(r == [])) = true:=by
   have I:¬ r = []:=fun h=>by
    have K:s.all bitK = true:=q.1 h;rw [E] at K; cases K
   simpa using I
  refine br (fun _=>?_) (fun g=>absurd j (by rw [g]; simp));exact fin false _ _ _ (by rw [e]; simp) rfl rfl
 have j:(!(r == [])) = false:=by
  have I:r = []:=q.2 E;rw [I]; rfl
 refine br (fun g=>absurd g (by rw [j]; simp)) (fun _=>?_);refine drawP hΘ mixed (lk [0,1,2,3,4,5,6,7,8,9,10,11,12,13,14,15,16,17,18,19,20,21,22,23] (.alt 24 (lk [25,26,27,28,29] (.alt 30 (.alt 31 (lk [32,33,34] .done) .nil) .nil)) .nil)) [1] (by kernel_rfl) ⟨rfl,?_⟩;conv=>whnf
 by_cases d:w = 0
 ·refine ⟨fun _=>?_,fun g=>absurd d (oe g)⟩;refine ⟨rfl,?_⟩;conv=>whnf
  by_cases u:s = []
  ·have c:(s == []) = true:=by rw [u]; rfl
   refine ⟨fun g=>absurd g (by rw [c]; simp),fun _=>?_⟩;exact fin true _ _ _ (by rw [e,c,decide_eq_true d]; rfl) rfl rfl
  ·have c:(s == []) = false:=by simpa using u
   have p:¬ 0 < w:=by omega
   refine ⟨fun _=>?_,fun g=>absurd g (by rw [c]; simp)⟩;refine ⟨rfl,fun g=>absurd (od g) p,fun _=>?_⟩;exact fin false _ _ _ (by rw [e,c,decide_eq_false p]; simp) rfl rfl
 ·have i:0 < w:=by omega
  have f:IntKind.i64.wrap (w * hgt w s) = w * hgt w s:=by
   have L:0 ≤ hgt w s:=by
    unfold hgt; split
    ·omega
    ·exact Int.tdiv_nonneg (by omega) (by omega)
   have Q:hgt w s ≤ 70000:=by
    unfold hgt; split
    ·omega
    ·rw [ju (by omega)];exact qa2 (Int.ediv_le_self _ (by omega)) (by omega)
   have Z:w * hgt w s ≤ 32 * 70000:=qbd U.2 Q L (by omega);have h9:0 ≤ w * hgt w s:=qbs (by omega) L;exact zaj (by omega) (by omega)
  have e':rasOk w s = (decide ((s.length:Int) = IntKind.i64.wrap (w * hgt w s)) && m):=by
   rw [e,f,decide_eq_true i,decide_eq_false d]; simp
  clear f;refine ⟨fun g=>absurd (od g) d,fun _=>?_⟩;refine ⟨rfl,fun _=>?_,fun g=>absurd i (oe g)⟩;refine ⟨rfl,rfl,rfl,?_⟩;refine usePu n rfl ⟨zagg x (fun k=>rfl),tv⟩ y ⟨Fz.r F,rfl,?_⟩;conv=>whnf
  by_cases D:(s.length:Int) = IntKind.i64.wrap (w * hgt w s)
  ·refine ⟨fun _=>?_,fun g=>absurd D (oe g)⟩;rw [decide_eq_true D,qaa] at e';refine ⟨rfl,?_⟩;refine usePu n rfl ⟨zagg x (fun k=>rfl),tv⟩ y ⟨Fz.r F,rfl,?_⟩;refine usePu W rfl ⟨rfl,rfl,rfl,tv⟩ rfl ⟨Fz.r F,rfl,?_⟩;exact fin m _ _ _ e' rfl rfl
  ·refine ⟨fun g=>absurd (od g) D,fun _=>?_⟩;rw [decide_eq_false D,jj] at e';exact fin false _ _ _ e' rfl rfl
def idxG {α:Type} (q:α → Bool):List α → Nat → Int
 |[],_=>-1
 |x :: r,n=>if q x = false then n else idxG q r (n + 1)
theorem zld {α:Type} (q:α → Bool) (l:List α) (k:Nat) (h:k < l.length):idxG q (l.drop k) k = if q l[k] = false then (k:Int) else idxG q (l.drop (k + 1)) (k + 1):=by
 rw [qw h]; rfl
theorem zu3 {α:Type} (q:α → Bool):∀ (l:List α) (n:Nat),(0 ≤ idxG q l n) ↔ l.all q = false
 |[],n=>by simp [idxG]
 |x :: r,n=>by
  simp only [idxG,qb5];split
  ·rename_i h; simp [h]
  ·rename_i h;have:q x = true:=by simpa using h
   rw [zu3 q r (n + 1),this]; simp
theorem zu1 {α:Type} (q:α → Bool) (l:List α):(!decide (0 ≤ idxG q l 0)) = l.all q:=by
 have:=zu3 q l 0;cases h:l.all q with
 |true=>
  rw [h] at this;have a:¬ (0 ≤ idxG q l 0):=fun b=>by have:=this.1 b; cases this
  rw [decide_eq_false a]; rfl
 |false=>rw [h] at this; rw [decide_eq_true (this.2 rfl)]; rfl
theorem al1N (F:Fz) (x:DLn) (a:Nat) (_:True) (c:F a = some (.cells 224 [.fn (.func 146) []])):Fo Tryz.prog F 214 [.agg (encN x),.va (.ptr (fp a))] (fun o b=>o = .ret (.va (.bool (!dlnOk x))) ∧ b = F):=by
 have d:=zzk F x;refine fo_of hΘ Tryz.func214 rfl (by decide) _ _ rfl rfl rfl ?_;refine ⟨_,c,?_⟩;refine usePu d rfl (zaa _) rfl ?_;exact endPu rfl (Fz.r F) rfl rfl
theorem al2N (F:Fz) (O:SA) (l:List DLn) (p:Nat) (S:Sl F 148 2 encN O l) (hl:l.length < 1000000) (M:∀ x ∈ l,True) (R:F p = some (.cells 224 [.fn (.func 146) []])) :
  Fo Tryz.prog F 254 [.va O,.va (.fn (.func 214) [fp p])] (fun o n=>o = .ret (.va (.int .i64 (idxG dlnOk l 0))) ∧ n = F):=by
 have fin:∀ (x:Int) (h:Hp) (nx:Nat),idxG dlnOk l 0 = x → lget h 0 = some (.frz F) →
   Cln 1 (FoK F fun o n=>o = .ret (.va (.int .i64 (idxG dlnOk l 0))) ∧ n = F) (.ret (.va (.int .i64 x))) h nx:=by
  intro x h nx Z Q;exact endPu Q (Fz.r F) (oi Z) rfl
 obtain ⟨W,U,B,V,A,Y,rfl,f,w,T,y⟩:=S;refine fo_of hΘ Tryz.func254 rfl (by decide) _ _ rfl rfl rfl ?_
 refine zam hΘ (X:={ k:Nat // k ≤ l.length ∧ idxG dlnOk l 0 = idxG dlnOk (l.drop k) k }) (fun k=>[(8,.va (.int .i64 k.1))]) (4::5::jr 9 10 []) (fz fun _=>F) 1 (fun k=>l.length - k.1) ⟨0,by simp⟩
  (fun s u=>le0 s u rfl (Fz.r F) rfl ⟨rfl,tv⟩) ?_
 rintro ⟨k,L,c⟩ s u;replace L:k ≤ l.length:=L;replace c:idxG dlnOk l 0 = idxG dlnOk (l.drop k) k:=c;by_cases g:k < l.length
 ·have J:(k:Int) < (l.length:Nat):=by omega
  have j:0 ≤ (k:Int) ∧ (k:Int) < (l.length:Nat):=by omega
  have E:∃ x,l[k] = x:=⟨_,rfl⟩
  obtain ⟨x,d⟩:=E;have D:A[B + (k:Int).toNat]? = some (encN x):=by rw [← d]; exact Sl.at y g
  have K:=M _ (qy g)
  try rw [d] at K
  have a:=al1N F x p (trivial) R;rw [zld _ l k g,d] at c;have I:k + 1 ≤ l.length:=g;have i:l.length - (k + 1) < l.length - k:=by omega
  have m:k < 4611686018427387904:=by omega
  have e:∃ b,dlnOk x = b:=⟨_,rfl⟩
  obtain ⟨b,e⟩:=e;rw [e] at c a;clear M K d;refine bri J ⟨Sl.lt f g,j,_,w (Sl.lt f g),_,D,?_⟩;refine usePu a rfl (zaa _) rfl ?_;rcases b with _ | _
  ·refine br (fun _=>?_) (fun q=>absurd q (by decide));exact fin _ _ _ (c.trans (if_pos rfl)) rfl
  ·refine br (fun q=>absurd q (by decide)) (fun _=>?_);rw [if_neg (by decide)] at c;exact ⟨⟨k + 1,I,c⟩,i,lr0 s u rfl (Fz.r F) rfl ⟨cnt m,tv⟩⟩
 ·have G:¬ (k:Int) < (l.length:Nat):=by omega
  rw [yh (by omega)] at c;refine brj G ?_;exact fin _ _ _ c rfl
theorem al3N (F:Fz) (b:SA) (l:List DLn) (a:Nat) (c:Sl F 148 2 encN b l) (u:l.length < 1000000) (w:∀ x ∈ l,True) (e:F a = some (.cells 224 [.fn (.func 146) []])) :
  Fo Tryz.prog F 213 [.va b,.va (.fn (.func 214) [fp a])] (fun o d=>o = .ret (.va (.bool (decide (0 ≤ idxG dlnOk l 0)))) ∧ d = F):=by
 have h:=al2N F b l a c u w e;obtain ⟨q,m,p,n,k,s,rfl,f,g,i,j⟩:=c;refine fo_of hΘ Tryz.func213 rfl (by decide) _ _ rfl rfl rfl ?_;refine usePu h rfl (zaa _) rfl ?_;exact endPu rfl (Fz.r F) (ob rfl) rfl
theorem allN (F:Fz) (d:SA) (l:List DLn) (f:Sl F 148 2 encN d l) (B:l.length < 1000000) (D:∀ x ∈ l,True) :
  Fo Tryz.prog F 145 [.va d,.va (.fn (.func 146) [])] (fun o a=>o = .ret (.va (.bool (l.all dlnOk))) ∧ a = F):=by
 have h:=fun a (c:Fz.le F a) b=>al3N a d l b (f.mono c) B D
 have e:=zu1 dlnOk l;obtain ⟨y,s,w,u,q,A,rfl,k,m,n,p⟩:=f;refine fo_of hΘ Tryz.func145 rfl (by decide) _ _ rfl rfl rfl ?_;refine za4 1 (fun _=>.cells 224 [.fn (.func 146) []]) rfl rfl rfl (fun _ _=>rfl) (fun _ _=>SB.bB_ok rfl) ?_;intro b i g j;refine usePu (h i g (b 0) (j 0 rfl)) rfl (zaa _) rfl ?_;exact endPu rfl g (ob e.symm) rfl
theorem al1K (F:Fz) (x:Cel) (a:Nat) (_:True) (c:F a = some (.cells 226 [.fn (.func 148) []])):Fo Tryz.prog F 219 [.agg (encK x),.va (.ptr (fp a))] (fun o b=>o = .ret (.va (.bool (!celOk x))) ∧ b = F):=by
 have d:=zzi F x;refine fo_of hΘ Tryz.func219 rfl (by decide) _ _ rfl rfl rfl ?_;refine ⟨_,c,?_⟩;refine usePu d rfl (zaa _) rfl ?_;exact endPu rfl (Fz.r F) rfl rfl
theorem al2K (F:Fz) (O:SA) (l:List Cel) (p:Nat) (S:Sl F 151 6 encK O l) (hl:l.length < 1000000) (M:∀ x ∈ l,True) (R:F p = some (.cells 226 [.fn (.func 148) []])) :
  Fo Tryz.prog F 220 [.va O,.va (.fn (.func 219) [fp p])] (fun o n=>o = .ret (.va (.int .i64 (idxG celOk l 0))) ∧ n = F):=by
 have fin:∀ (x:Int) (h:Hp) (nx:Nat),idxG celOk l 0 = x → lget h 0 = some (.frz F) →
   Cln 1 (FoK F fun o n=>o = .ret (.va (.int .i64 (idxG celOk l 0))) ∧ n = F) (.ret (.va (.int .i64 x))) h nx:=by
  intro x h nx Z Q;exact endPu Q (Fz.r F) (oi Z) rfl
 obtain ⟨W,U,B,V,A,Y,rfl,f,w,T,y⟩:=S;refine fo_of hΘ Tryz.func220 rfl (by decide) _ _ rfl rfl rfl ?_
 refine zam hΘ (X:={ k:Nat // k ≤ l.length ∧ idxG celOk l 0 = idxG celOk (l.drop k) k }) (fun k=>[(8,.va (.int .i64 k.1))]) (4::5::jr 9 10 []) (fz fun _=>F) 1 (fun k=>l.length - k.1) ⟨0,by simp⟩
  (fun s u=>le0 s u rfl (Fz.r F) rfl ⟨rfl,tv⟩) ?_
 rintro ⟨k,L,c⟩ s u;replace L:k ≤ l.length:=L;replace c:idxG celOk l 0 = idxG celOk (l.drop k) k:=c;by_cases g:k < l.length
 ·have J:(k:Int) < (l.length:Nat):=by omega
  have j:0 ≤ (k:Int) ∧ (k:Int) < (l.length:Nat):=by omega
  have E:∃ x,l[k] = x:=⟨_,rfl⟩
  obtain ⟨x,d⟩:=E;have D:A[B + (k:Int).toNat]? = some (encK x):=by rw [← d]; exact Sl.at y g
  have K:=M _ (qy g)
  try rw [d] at K
  have a:=al1K F x p (trivial) R;rw [zld _ l k g,d] at c;have I:k + 1 ≤ l.length:=g;have i:l.length - (k + 1) < l.length - k:=by omega
  have m:k < 4611686018427387904:=by omega
  have e:∃ b,celOk x = b:=⟨_,rfl⟩
  obtain ⟨b,e⟩:=e;rw [e] at c a;clear M K d;refine bri J ⟨Sl.lt f g,j,_,w (Sl.lt f g),_,D,?_⟩;refine usePu a rfl (zaa _) rfl ?_;rcases b with _ | _
  ·refine br (fun _=>?_) (fun q=>absurd q (by decide));exact fin _ _ _ (c.trans (if_pos rfl)) rfl
  ·refine br (fun q=>absurd q (by decide)) (fun _=>?_);rw [if_neg (by decide)] at c;exact ⟨⟨k + 1,I,c⟩,i,lr0 s u rfl (Fz.r F) rfl ⟨cnt m,tv⟩⟩
 ·have G:¬ (k:Int) < (l.length:Nat):=by omega
  rw [yh (by omega)] at c;refine brj G ?_;exact fin _ _ _ c rfl
theorem al3K (F:Fz) (b:SA) (l:List Cel) (a:Nat) (c:Sl F 151 6 encK b l) (u:l.length < 1000000) (w:∀ x ∈ l,True) (e:F a = some (.cells 226 [.fn (.func 148) []])) :
  Fo Tryz.prog F 218 [.va b,.va (.fn (.func 219) [fp a])] (fun o d=>o = .ret (.va (.bool (decide (0 ≤ idxG celOk l 0)))) ∧ d = F):=by
 have h:=al2K F b l a c u w e;obtain ⟨q,m,p,n,k,s,rfl,f,g,i,j⟩:=c;refine fo_of hΘ Tryz.func218 rfl (by decide) _ _ rfl rfl rfl ?_;refine usePu h rfl (zaa _) rfl ?_;exact endPu rfl (Fz.r F) (ob rfl) rfl
theorem allK (F:Fz) (d:SA) (l:List Cel) (f:Sl F 151 6 encK d l) (B:l.length < 1000000) (D:∀ x ∈ l,True) :
  Fo Tryz.prog F 147 [.va d,.va (.fn (.func 148) [])] (fun o a=>o = .ret (.va (.bool (l.all celOk))) ∧ a = F):=by
 have h:=fun a (c:Fz.le F a) b=>al3K a d l b (f.mono c) B D
 have e:=zu1 celOk l;obtain ⟨y,s,w,u,q,A,rfl,k,m,n,p⟩:=f;refine fo_of hΘ Tryz.func147 rfl (by decide) _ _ rfl rfl rfl ?_;refine za4 1 (fun _=>.cells 226 [.fn (.func 148) []]) rfl rfl rfl (fun _ _=>rfl) (fun _ _=>SB.bB_ok rfl) ?_;intro b i g j;refine usePu (h i g (b 0) (j 0 rfl)) rfl (zaa _) rfl ?_;exact endPu rfl g (ob e.symm) rfl
def ltC (a b:Cel):Bool:=decide (a.row < b.row) || (decide (a.row = b.row) && decide (a.col < b.col))
def ascF:List Cel → Bool
 |a :: b :: r=>ltC a b && ascF (b :: r)
 |_=>true
theorem zk0:∀ (l:List Cel) (a b:Cel),ascF (l ++ [a,b]) = (ascF (l ++ [a]) && ltC a b)
 |[],a,b=>by simp [ascF]
 |[x],a,b=>by simp [ascF]
 |x :: y :: r,a,b=>by
  have ih:=zk0 (y :: r) a b;show (ltC x y && ascF ((y :: r) ++ [a,b])) = ((ltC x y && ascF ((y :: r) ++ [a])) && ltC a b);rw [ih,Bool.and_assoc]
theorem zxu {l:List Cel} {k:Nat} (h1:1 ≤ k) (g:k < l.length) {a b:Cel} (c:l[k - 1] = a) (d:l[k] = b):ascF (l.take (k + 1)) = (ascF (l.take k) && ltC a b):=by
 obtain ⟨m,rfl⟩:∃ m,k = m + 1:=⟨k - 1,by omega⟩
 rw [qh g,qh (show m < l.length by omega),qm,d];have e:l[m] = a:=c;rw [e];exact zk0 _ _ _
structure Dc where
 lines:List DLn
 cells:List Cel
 w:Int
 bits:List UInt8
def docOk (d:Dc):Bool:=((((decide (d.lines.length ≤ 64) && decide (d.cells.length ≤ 64)) && ascF d.cells) && d.lines.all dlnOk) && d.cells.all celOk) && rasOk d.w d.bits
def docE (a b:SA) (w:Int) (s:List UInt8):Ent:=.one (.cells 41 (docS a b w s))
theorem zee {n:Nat} {a b:SA} {w:Int} {s:List UInt8} (d:a.below n) (e:b.below n):(docE a b w s).below n:=by
 show ∀ x ∈ _,SA.below n x;intro x c;simp only [qg,qp,or_false] at c;rcases c with rfl | rfl | rfl | rfl
 ·exact d
 ·exact e
 ·trivial
 ·trivial
theorem zc2 (F:Fz) (sa sb:SA) (d:Dc) (R:Sl F 148 2 encN sa d.lines) (hb:Sl F 151 6 encK sb d.cells) (hl:d.lines.length ≤ 1000) (hc:d.cells.length ≤ 1000) (hs:d.bits.length ≤ 70000) :
  Fo Tryz.prog F 85 [.agg (docS sa sb d.w d.bits)] (fun o F'=>o = .ret (.va (.bool (docOk d))) ∧ F' = F):=by
 obtain ⟨L,K,w,s⟩:=d;replace R:Sl F 148 2 encN sa L:=R;replace hb:Sl F 151 6 encK sb K:=hb;replace hl:L.length ≤ 1000:=hl;replace hc:K.length ≤ 1000:=hc;have aL:=allN F sa L R (by omega) (fun _ _=>trivial);have aK:=allK F sb K hb (by omega) (fun _ _=>trivial);obtain ⟨V,S,U,T,ap,aq,rfl,al,am,an,ao⟩:=R;obtain ⟨ae,ab,u,ad,n,av,rfl,q,Z,au,aa⟩:=hb;have iR:=zsx F (.slice V 0 S U 2 L.length T) (.slice ae 0 ab u 6 K.length ad) w s hs rfl rfl
 have fin:∀ (z:Bool) (a:SA) (h:Hp) (nx:Nat),docOk ⟨L,K,w,s⟩ = z → atomE (.bool z) (a.ren (resP h)) → lget h 0 = some (.frz F) → Cln 1 (FoK F fun o F'=>o = .ret (.va (.bool (docOk ⟨L,K,w,s⟩))) ∧ F' = F) (.ret (.va a)) h nx:=by
  intro z a h nx hz R h0;subst hz;exact endPu h0 (Fz.r F) R rfl
 have D:ascF (K.take 1) = true:=by
  cases K with
  |nil=>rfl
  |cons x r=>rfl
 refine fo_of hΘ Tryz.func85 rfl (by decide) _ _ rfl rfl rfl ?_
 refine zam hΘ (X:={ y:Nat × Bool // 1 ≤ y.1 ∧ (y.1 = 1 ∨ y.1 ≤ K.length) ∧ y.2 = ascF (K.take y.1) }) (fun y=>[(3,.va (.bool y.1.2)),(4,.va (.int .i64 y.1.1))]) (jr 5 42 [])
  (fun _=>[(0,.frz F),(1,docE (.slice V 0 S U 2 L.length T) (.slice ae 0 ab u 6 K.length ad) w s)]) 2 (fun y=>K.length - y.1.1) ⟨(1,true),by omega,by omega,D.symm⟩
  (fun O Q=>leI [] O Q rfl ⟨tv,zee (.inr (by omega)) (.inr (by omega)),tv⟩ ⟨rfl,rfl,tv⟩ ⟨Fz.r F,rfl,tv⟩) ?_
 rintro ⟨⟨k,asc⟩,E,hk,f⟩ O Q;replace E:1 ≤ k:=E;replace hk:k = 1 ∨ k ≤ K.length:=hk;replace f:asc = ascF (K.take k):=f;by_cases g:k < K.length
 ·have g0:k < K.length:=g;have gp:k - 1 < K.length:=by omega
  have aj:(k:Int) < (K.length:Nat):=by omega
  have af:∃ a b,K[k - 1] = a ∧ K[k] = b:=⟨_,_,rfl,rfl⟩
  obtain ⟨a,b,G,I⟩:=af
  have W:n[u + (IntKind.i64.wrap ((k:Int) - 1)).toNat]? = some (encK a):=by
   rw [zaj (by omega) (by omega),show ((k:Int) - 1).toNat = ((k - 1:Nat):Int).toNat by omega,← G]; exact Sl.at aa gp
  have Y:n[u + (k:Int).toNat]? = some (encK b):=by rw [← I]; exact Sl.at aa g
  have ah:0 ≤ IntKind.i64.wrap ((k:Int) - 1) ∧ IntKind.i64.wrap ((k:Int) - 1) < (K.length:Nat):=by rw [zaj (by omega) (by omega)]; omega
  have ai:0 ≤ (k:Int) ∧ (k:Int) < (K.length:Nat):=by omega
  have j:=zxu E g G I;rw [← f] at j;have i:1 ≤ k + 1 ∧ (k + 1 = 1 ∨ k + 1 ≤ K.length):=by omega
  have l:K.length - (k + 1) < K.length - k:=by omega
  have m:k < 4611686018427387904:=by omega
  obtain ⟨ar,ac,a2,a3,a4,a5⟩:=a;obtain ⟨p,bc,b2,b3,b4,b5⟩:=b;replace j:ascF (K.take (k + 1)) = (asc && (decide (ar < p) || (decide (ar = p) && decide (ac < bc)))):=j;clear f G I;refine bri aj ?_;refine drawP hΘ mixed (lk [0,1,2,3,4,5,6,7,8,9,10] (.alt 11 (.alt 12 (.alt 13 (.last 14 .done) .nil) .nil) (.alt 12 (.alt 11 (.alt 13 (.last 14 .done) .nil) .nil) .nil))) [1] (by kernel_rfl) ⟨rfl,Sl.lt q g0,ah,rfl,_,Z (Sl.lt q g0),_,W,rfl,Sl.lt q g0,ai,rfl,_,Z (Sl.lt q g0),_,Y,?_,?_⟩
  all_goals
   refine ⟨Fz.r F,rfl,Fz.r F,rfl,Fz.r F,rfl,?_⟩;rcases asc with _ | _
   ·refine ⟨fun c=>absurd c (by show ¬ false = true; decide),fun _=>?_⟩;exact ⟨⟨(k + 1,false),i.1,i.2,by rw [j]; rfl⟩,l,leR [] O Q rfl ⟨tv,zee (.inr (by omega)) (.inr (by omega)),tv⟩ ⟨rfl,cnt m,tv⟩ ⟨Fz.r F,rfl,tv⟩⟩
   ·refine ⟨fun _=>?_,fun c=>absurd c (by show ¬ true = false; decide)⟩;conv=>whnf
    by_cases h1:ar < p
    ·refine ⟨fun c=>absurd h1 (oe c),fun _=>?_⟩;exact ⟨⟨(k + 1,true),i.1,i.2,by rw [j,decide_eq_true h1]; rfl⟩,l,leR [] O Q rfl ⟨tv,zee (.inr (by omega)) (.inr (by omega)),tv⟩ ⟨rfl,cnt m,tv⟩ ⟨Fz.r F,rfl,tv⟩⟩
    ·refine ⟨fun _=>?_,fun c=>absurd (od c) h1⟩;conv=>whnf
     by_cases h2:ar = p
     ·refine ⟨fun _=>?_,fun c=>absurd h2 (oe c)⟩;exact ⟨⟨(k + 1,decide (ac < bc)),i.1,i.2,by rw [j,decide_eq_false h1,decide_eq_true h2]; simp⟩,l,leR [] O Q rfl ⟨tv,zee (.inr (by omega)) (.inr (by omega)),tv⟩ ⟨rfl,cnt m,tv⟩ ⟨Fz.r F,rfl,tv⟩⟩
     ·refine ⟨fun c=>absurd (od c) h2,fun _=>?_⟩;exact ⟨⟨(k + 1,false),i.1,i.2,by rw [j,decide_eq_false h1,decide_eq_false h2]; rfl⟩,l,leR [] O Q rfl ⟨tv,zee (.inr (by omega)) (.inr (by omega)),tv⟩ ⟨rfl,cnt m,tv⟩ ⟨Fz.r F,rfl,tv⟩⟩
 ·have ag:¬ (k:Int) < (K.length:Nat):=by omega
  have A:asc = ascF K:=by
   rw [f,qo (by omega)]
  have e:docOk ⟨L,K,w,s⟩ = (((((decide (L.length ≤ 64) && decide (K.length ≤ 64)) && asc) && L.all dlnOk) && K.all celOk) && rasOk w s):=by rw [A]; rfl
  clear f A;have ak:∃ bL bK,L.all dlnOk = bL ∧ K.all celOk = bK:=⟨_,_,rfl,rfl⟩
  obtain ⟨bL,bK,n,B⟩:=ak;rw [n,B] at e;rw [n] at aL;rw [B] at aK;clear n B;refine brj ag ?_;conv=>whnf
  by_cases l1:L.length ≤ 64
  ·have J:(L.length:Int) ≤ 64:=by omega
   rw [decide_eq_true l1,qaa] at e;refine ⟨fun _=>?_,fun c=>absurd J (oe c)⟩;conv=>whnf
   by_cases l2:K.length ≤ 64
   ·have M:(K.length:Int) ≤ 64:=by omega
    rw [decide_eq_true l2,qaa] at e;refine ⟨fun _=>?_,fun c=>absurd M (oe c)⟩;conv=>whnf
    rcases asc with _ | _
    ·refine ⟨fun c=>absurd c (by show ¬ false = true; decide),fun _=>?_⟩;exact fin false _ _ _ e rfl rfl
    ·refine ⟨fun _=>?_,fun c=>absurd c (by show ¬ true = false; decide)⟩;refine usePu aL rfl ⟨⟨rfl,rfl,rfl,.inr ⟨rfl,rfl,rfl,rfl⟩⟩,rfl,tv⟩ rfl ?_;rcases bL with _ | _
     ·refine ⟨fun c=>absurd c (by decide),fun _=>?_⟩;exact fin false _ _ _ e rfl rfl
     ·refine ⟨fun _=>?_,fun c=>absurd c (by decide)⟩;refine usePu aK rfl ⟨⟨rfl,rfl,rfl,.inr ⟨rfl,rfl,rfl,rfl⟩⟩,rfl,tv⟩ rfl ?_;rcases bK with _ | _
      ·refine ⟨fun c=>absurd c (by decide),fun _=>?_⟩;exact fin false _ _ _ e rfl rfl
      ·refine ⟨fun _=>?_,fun c=>absurd c (by decide)⟩;refine usePu iR rfl ⟨rfl,tv⟩ rfl ?_;exact fin _ _ _ _ e rfl rfl
   ·have M:¬ (K.length:Int) ≤ 64:=by omega
    rw [decide_eq_false l2] at e;refine ⟨fun c=>absurd (od c) M,fun _=>?_⟩;exact fin false _ _ _ (by rw [e]; simp) rfl rfl
  ·have J:¬ (L.length:Int) ≤ 64:=by omega
   rw [decide_eq_false l1] at e;refine ⟨fun c=>absurd (od c) J,fun _=>?_⟩;exact fin false _ _ _ (by rw [e]; simp) rfl rfl
end Go.Proofs.YtfnkamphhpldcaaGreatDoor
