import Derived.Test.YtfnkamphhpldcaaGreatDoorK18
set_option maxHeartbeats 64000000
namespace Go.Proofs.YtfnkamphhpldcaaGreatDoor
open Go Sx
set_option maxRecDepth 100000
structure Val where
 lost:Bool
 lines:List Ln
 w:Int
 h:Int
 bits:List UInt8
def zcn (s:List UInt8) (p:Int):Nat → List Ln → Int → Option (List Ln × Int)
 |0,acc,q=>some (acc,q)
 |f + 1,acc,q=>match lineS s p acc q with
  |none=>none
  |some (x,q')=>zcn s p f (acc ++ [x]) q'
def readS (p:Int) (s:List UInt8):Option Val:=
 if ¬ (1 ≤ p ∧ p ≤ 8) then none else
 if s = [] then some ⟨true,[],0,0,[]⟩ else
 if p = 8 then
  if zca s 0 0 64 = true ∧ zca s (getI s 0).2.1 0 64 = true ∧ (getI s (getI s 0).2.1).2.1 = s.length then some ⟨false,[],(getI s 0).1,(getI s (getI s 0).2.1).1,[]⟩ else none
 else if 6 ≤ p then
  let w:=(getI s 0).1
  let q:=(getI s 0).2.1
  let h:=(getI s q).1
  let a:=(getI s q).2.1
  if zca s 0 0 32 = true ∧ zca s q (min w 1) (min w 1 * 32) = true then
   if p = 7 then
    if (getS s a).2.2 = 0 ∧ ((getS s a).1.length:Int) = w * h ∧ (getS s a).1.all (fun b=>b == 48 || b == 49) = true ∧ (getS s a).2.1 = s.length then some ⟨false,[],w,h,(getS s a).1⟩ else none
   else if a = s.length then some ⟨false,[],w,h,[]⟩ else none
  else none
 else
  if zca s 0 0 64 = true then match zcn s p (getI s 0).1.toNat [] (getI s 0).2.1 with
   |none=>none
   |some (l,q)=>if q = s.length then some ⟨false,l,0,0,[]⟩ else none
  else none
def valV (v:Val) (i c:Nat):SV:=.agg [.lit v.lost,gA 2 i c v.lines,.int .i64 v.w,.int .i64 v.h,.str v.bits]
theorem zjo {μ μ':Mu} {B:Nat} (h:∀ k,μ B k = μ' B k) (caps:Nat → Nat):∀ (j:Nat) (l:List Ln),(zbr B caps j l).map (List.map (SA.ren μ)) = (zbr B caps j l).map (List.map (SA.ren μ'))
 |_,[]=>rfl
 |j,x :: r=>by
  rw [zbr,qv,qv,zjo h caps (j + 1) r]
  congr 1
  simp only [qv,yv,zp0,h];rfl
theorem zu0 {s:List UInt8} {p:Int}:∀ (f:Nat) (acc:List Int) (q:Int) {n:List Int} {a:Int},numsS s p f acc q = some (n,a) → s.length ≤ 1000000000000000000 → i64 q → n.length = acc.length + f ∧ i64 a
 |0,acc,q,n,a,h,_,hq=>by simp [numsS] at h; obtain ⟨rfl,rfl⟩:=h; exact ⟨rfl,hq⟩
 |f + 1,acc,q,n,a,h,hs,hq=>by
  rw [numsS] at h;split at h
  ·rename_i d;have c:=zfv (ze0 d);obtain ⟨h1,b⟩:=zu0 f _ _ h hs ⟨by omega,by omega⟩;refine ⟨by rw [h1,qd]; simp; omega,b⟩
  ·cases h
theorem z8i {s:List UInt8} {q:Int} (h:(getS s q).2.2 = 0):0 ≤ (getS s q).2.1 ∧ (getS s q).2.1 ≤ s.length:=by
 rw [getS] at h ⊢;split at h
 ·rename_i h1; exact absurd h h1
 ·rename_i h1;have b:=zfv (s:=s) (p:=q) (by simpa using h1);rw [if_neg h1];split at h
  ·simp at h
  ·rename_i a;rw [if_neg a];show 0 ≤ (getI s q).2.1 + (getI s q).1 ∧ (getI s q).2.1 + (getI s q).1 ≤ s.length;omega
theorem zuy {s:List UInt8} {p q:Int} {a:List Ln} {x:Ln} {d:Int} (h:lineS s p a q = some (x,d)) (g:s.length ≤ 1000000000000000000) (i:i64 q) (o:1 ≤ p ∧ p ≤ 5) :
  i64 d ∧ (p ≠ 1 ∧ p ≠ 2 → 2 ≤ x.2.length):=by
 rw [lineS] at h;split at h
 ·rename_i h1;split at h
  ·rename_i k;have:=z8i k.1;simp only [Option.some.injEq,Prod.mk.injEq] at h;obtain ⟨rfl,rfl⟩:=h;exact ⟨⟨by omega,by omega⟩,fun c=>absurd h1 c.1⟩
  ·cases h
 ·rename_i h1;split at h
  ·cases h
  ·rename_i n l j;obtain ⟨c,f⟩:=zu0 _ _ _ j g i
   have e:x = ([],n) ∧ d = l:=by
    split at h
    ·simp only [Option.some.injEq,Prod.mk.injEq] at h; exact ⟨h.1.symm,h.2.symm⟩
    ·split at h
     ·simp only [Option.some.injEq,Prod.mk.injEq] at h; exact ⟨h.1.symm,h.2.symm⟩
     ·split at h
      ·simp only [Option.some.injEq,Prod.mk.injEq] at h; exact ⟨h.1.symm,h.2.symm⟩
      ·cases h
   obtain ⟨rfl,rfl⟩:=e;refine ⟨f,fun m=>?_⟩;have b:p = 3 ∨ p = 4 ∨ p = 5:=by omega
   have:3 ≤ cols p:=by rcases b with rfl | rfl | rfl<;>decide
   show 2 ≤ n.length;rw [c]; simp; omega
def mfz (bf:Nat → Nat):Mu:=fun i k=>if i = 5 then (0,bf k) else (i,k)
theorem zo2 (bf caps:Nat → Nat):∀ (j:Nat) (l:List Ln),∀ y ∈ (zbr 5 caps j l).map (List.map (SA.ren (mfz bf))),∀ a ∈ y,a.below 1
 |_,[],y,hy,_,_=>by simp [zbr] at hy
 |j,x :: r,y,hy,a,ha=>by
  rw [zbr,qv] at hy;rcases qj.1 hy with rfl | hy
  ·simp only [qv,yv,qj,qs,or_false,zp0] at ha;rcases ha with rfl | rfl
   ·trivial
   ·cases x.2 with
    |nil=>trivial
    |cons _ _=>exact .inr (yx)
  ·exact zo2 bf caps (j + 1) r y hy a ha
structure R1 (s:List UInt8) (p:Int) (m:Nat) (q1:Int) (acc:List Ln) (c:Nat) (caps:Nat → Nat) (q:Int):Prop where
 h1:acc.length ≤ m
 h2:i64 q
 h3:zcn s p m [] q1 = zcn s p (m - acc.length) acc q
 h4:∀ k x,acc[k]? = some x → x.2.length ≤ caps k
 h5:p ≠ 1 ∧ p ≠ 2 → ∀ x ∈ acc,2 ≤ x.2.length
def accE (B i c:Nat) (l:List Ln):Ent:=.one (.cells 201 [.lit false,gA 2 i c l,.int .i64 0,.int .i64 0,.str []])
theorem zi2 {n i:Nat} (h:i < n) (B c:Nat) (l:List Ln):(accE B i c l).below n:=by
 intro a b;simp only [qj,qs,or_false] at b;rcases b with rfl | rfl | rfl | rfl | rfl
 ·trivial
 ·cases l with
  |nil=>trivial
  |cons x r=>exact .inr h
 all_goals trivial
theorem z0d {μ:Mu} {j:Nat} (h:μ 4 0 = (j,0)) (c n:Nat) (l:List Ln) (x:Ln) (a:n = l.length + 1) :
  SB.cells 201 [.lit false,.slice false j 0 0 2 n c,.int .i64 0,.int .i64 0,.str []] = SB.ren μ (.cells 201 [.lit false,gA 2 4 c (l ++ [x]),.int .i64 0,.int .i64 0,.str []]):=by
 subst a;cases l with
 |nil=>simp only [gA,qw,SB.ren,qv,yv,SA.ren,h,qt]
 |cons y r=>simp only [gA,yh,SB.ren,qv,yv,SA.ren,h]; simp
def gx (m:Nat):Nat → Nat × Nat:=fun k=>if k < m then (5,k) else (6,0)
def capx (m a:Nat) (caps:Nat → Nat):Nat → Nat:=fun k=>if k = m then a else caps k
theorem zo3 {μ τ:Mu} {caps:Nat → Nat} {a:Nat} {acc:List Ln} (x:Ln) (h:∀ k,μ 5 k = gx acc.length k) (c:τ 2 0 = (6,0)) :
  zbr 5 caps 0 acc ++ [[.str x.1,(gA 1 2 a x.2).ren τ]] = (zbr 5 (capx acc.length a caps) 0 (acc ++ [x])).map (List.map (SA.ren μ)):=by
 rw [zmo,jj,zep (B':=5) (caps':=caps) (m:=acc.length) (fun k b=>⟨by rw [h,gx,if_pos b],by rw [capx,if_neg (by omega)]⟩) 0 acc (by omega)]
 congr 1
 simp only [qv,yv,zp0,h,gx,capx,q5,Nat.lt_irrefl,if_false,if_true];cases x.2 with
 |nil=>rfl
 |cons y r=>simp only [gA,SA.ren,c]
theorem zyn {μ τ:Mu} {h1:Hp} {caps:Nat → Nat} {c:Nat} {acc:List Ln} (x:Ln) (n:lget h1 5 = some (famE caps acc)) (l:lget h1 6 = some ((gE 3 1 encI c x.2).ren τ)) :
  genE (gx acc.length) [5,6] h1 ((famE (capx acc.length c caps) (acc ++ [x])).ren μ):=by
 rw [zj2];rw [zgc zaz] at l
 have m:∀ k,k < acc.length → ((acc ++ [x]).map (·.2)).getD k [] = (acc.map (·.2)).getD k []:=fun k b=>by
  rw [y9,y9,jj,jw (by simpa using b)]
 have j:((acc ++ [x]).map (·.2)).getD acc.length [] = x.2:=by
  rw [y9,jj,jy (by simp)]; simp
 refine ⟨fun k b i=>?_,fun k o b d _ _ f=>?_⟩
 ·by_cases e:k < acc.length
  ·have h:gx acc.length k = (5,k):=if_pos e;rw [h];refine ⟨by simp,famE caps acc,n,rfl,⟨e,?_⟩,?_⟩
   ·have a:(!(((acc ++ [x]).map (·.2)).getD k []).isEmpty) = true:=i;rw [m k e] at a; exact a
   ·show SB.arr 3 1 (((acc.map (·.2)).getD k []).map encI) (caps k) = SB.arr 3 1 ((((acc ++ [x]).map (·.2)).getD k []).map encI) (capx acc.length c caps k);rw [m k e,capx,if_neg (by omega)]
  ·have g:k = acc.length:=by rw [qd] at b; simp at b; omega
   subst g;have h:gx acc.length acc.length = (6,0):=if_neg (by omega);rw [h];refine ⟨by simp,gE 3 1 encI c x.2,l,rfl,⟨?_,rfl⟩,?_⟩
   ·have a:(!(((acc ++ [x]).map (·.2)).getD acc.length []).isEmpty) = true:=i;rw [j] at a; exact a
   ·show SB.arr 3 1 (x.2.map encI) c = SB.arr 3 1 ((((acc ++ [x]).map (·.2)).getD acc.length []).map encI) (capx acc.length c caps acc.length);rw [j,capx,if_pos rfl]
 ·rw [qd] at b d;simp at b d;unfold gx at f;split at f<;>split at f<;>simp at f<;>omega
theorem zu9 {caps:Nat → Nat} {c:Nat} {acc:List Ln} {x:Ln} (h:∀ k y,acc[k]? = some y → y.2.length ≤ caps k) (e:x.2.length ≤ c):∀ k y,(acc ++ [x])[k]? = some y → y.2.length ≤ capx acc.length c caps k:=by
 intro k y a;unfold capx;by_cases d:k = acc.length
 ·subst d;rw [jy (by omega)] at a;simp at a; subst a;rw [if_pos rfl]; exact e
 ·have b:k < (acc ++ [x]).length:=(qi.1 a).1;rw [qd] at b;simp at b;rw [jw (by omega)] at a;rw [if_neg d]; exact h k y a
theorem zwz {p:Int} {acc:List Ln} {x:Ln} (h:p ≠ 1 ∧ p ≠ 2 → ∀ y ∈ acc,2 ≤ y.2.length) (b:p ≠ 1 ∧ p ≠ 2 → 2 ≤ x.2.length):p ≠ 1 ∧ p ≠ 2 → ∀ y ∈ acc ++ [x],2 ≤ y.2.length:=by
 intro a y hy;rcases ym.1 hy with hy | hy
 ·exact h a y hy
 ·rw [qu.1 hy]; exact b a
theorem ztb {α:Type} {μ:Mu} {i j:Nat} (h:μ i 0 = (j,0)) (sz c:Nat) (l:List α):(gA sz i c l).ren μ = gA sz j c l:=by
 cases l with
 |nil=>rfl
 |cons x r=>simp only [gA,SA.ren,h]
theorem ztr {μ:Mu} {i j:Nat} (h:μ i 0 = (j,0)) (v:Val) (c:Nat):(valV v i c).ren μ = valV v j c:=by
 simp only [valV,SV.ren,qv,yv,ztb h]; rfl
theorem zm2 {n i:Nat} (h:i < n) (v:Val) (c:Nat):(valV v i c).below n:=by
 intro a b;simp only [qj,qs,or_false] at b;rcases b with rfl | rfl | rfl | rfl | rfl
 ·trivial
 ·cases v.lines with
  |nil=>trivial
  |cons x r=>exact .inr h
 all_goals trivial
theorem zv1 {μ:Mu} {caps:Nat → Nat} {c:Nat} {l:List Ln} (h:∀ k,μ 2 k = (5,k)):subE (some (zbi 5 caps c l)) ((zbi 2 caps c l).ren μ):=
 ⟨rfl,congrArg (fun L=>SB.arr 259 2 L c) (zep (m:=l.length) (fun k _=>⟨h k,rfl⟩) 0 l (by omega)).symm⟩
theorem zby {μ:Mu} {caps:Nat → Nat} {l:List Ln}:subE (some (famE caps l)) ((famE caps l).ren μ):=by
 rw [zj2];cases l with
 |nil=>trivial
 |cons x r=>exact ⟨rfl,rfl,rfl⟩
def readK (F:Fz) (p:Int) (s:List UInt8):Out → Fz → List (Nat × Ent) → Nat → Prop:=fun o b a n0=>F = b ∧ match readS p s with
 |some v=>∃ c caps,n0 = 3 ∧ o = .ret (valV v 1 c) ∧ a = [(1,zbi 2 caps c v.lines),(2,famE caps v.lines)]
 |none=>n0 = 1 ∧ o = .panic perr ∧ a = []
theorem zl9 {F:Fz} {p:Int} {s:List UInt8} {v:Val} {c:Nat} {caps:Nat → Nat} (h:readS p s = some v):readK F p s (.ret (valV v 1 c)) F [(1,zbi 2 caps c v.lines),(2,famE caps v.lines)] 3:=
 ⟨rfl,by rw [h]; exact ⟨c,caps,rfl,rfl,rfl⟩⟩
theorem zfp {F:Fz} {p:Int} {s:List UInt8} (h:readS p s = none):readK F p s (.panic perr) F [] 1:=⟨rfl,by rw [h]; exact ⟨rfl,rfl,rfl⟩⟩
theorem zc3 {F:Fz} {p:Int} {s:List UInt8} {h:Hp} {nx:Nat} (c:readS p s = none) (a:lget h 0 = some (.frz F)):Cln 1 (fun o b a n0=>Fz.le F b ∧ readK F p s o b a n0) (.panic perr) h nx:=
 clean [] (.panic perr) F [] 1 ⟨Fz.r F,zfp c⟩ rfl rfl rfl trivial trivial ⟨by show subE (lget h 0) (.frz F); rw [a]; exact Fz.r F,tv⟩
theorem zn8 {F:Fz} {p:Int} {s:List UInt8} {h:Hp} {nx:Nat} {l:Bool} {w a:Int} {bits:List UInt8} (e:readS p s = some ⟨l,[],w,a,bits⟩) (b:lget h 0 = some (.frz F)) (f:lget h 99 = none) :
  Cln 1 (fun o d b n0=>Fz.le F d ∧ readK F p s o d b n0) (.ret (.agg [.lit l,.nilsl,.int .i64 w,.int .i64 a,.str bits])) h nx:=
 clean [(1,99),(2,100)] (.ret (valV ⟨l,[],w,a,bits⟩ 1 0)) F [(1,zbi 2 (fun _=>0) 0 []),(2,famE (fun _=>0) [])] 3 ⟨Fz.r F,zl9 (c:=0) (caps:=fun _=>0) e⟩ rfl rfl rfl (zm2 (by omega) _ _) ⟨zaq (by omega) _ _ _,zaw _ _ _,tv⟩
  ⟨by show subE (lget h 0) (.frz F); rw [b]; exact Fz.r F,by show subE (lget h 99) (.opt false _); rw [f]; rfl,tv,tv⟩
theorem zz8 {p:Int} {s:List UInt8} (h:¬ (1 ≤ p ∧ p ≤ 8)):readS p s = none:=by rw [readS,if_pos h]
theorem zsr {p:Int} (h:1 ≤ p ∧ p ≤ 8):readS p [] = some ⟨true,[],0,0,[]⟩:=by rw [readS,if_neg (by omega),if_pos rfl]
theorem zvl (F:Fz) (s:List UInt8) (p:Int) (b:¬ (1 ≤ p ∧ p ≤ 8)):Ct Tryz.prog 129 [.va (.int .i64 p),.va (.str s)] F [] 1 (readK F p s):=by
 refine ct_of hΘ Tryz.func129 rfl (by decide) _ _ rfl rfl rfl ?_;refine usePu (zd0 p 1 8 F) rfl (zaa _) rfl ?_;refine useFo (zcv F (decide (1 ≤ p) && decide (p ≤ 8))) rfl ⟨rfl,tv⟩ rfl ?_;rintro _ _ c ⟨rfl,⟨a,rfl⟩ | ⟨a,rfl⟩⟩
 ·exact absurd (by simpa using a) b
 ·exact zc3 (zz8 b) rfl
theorem zqo (F:Fz) (p:Int) (c:1 ≤ p ∧ p ≤ 8):Ct Tryz.prog 129 [.va (.int .i64 p),.va (.str [])] F [] 1 (readK F p []):=by
 refine ct_of hΘ Tryz.func129 rfl (by decide) _ _ rfl rfl rfl ?_;refine usePu (zd0 p 1 8 F) rfl (zaa _) rfl ?_;refine useFo (zcv F (decide (1 ≤ p) && decide (p ≤ 8))) rfl ⟨rfl,tv⟩ rfl ?_;rintro _ _ e ⟨rfl,⟨b,rfl⟩ | ⟨b,rfl⟩⟩
 ·refine bre (by decide) ?_;refine useFo (zcv F true) rfl ⟨rfl,tv⟩ rfl ?_;rintro _ _ d ⟨rfl,⟨a,rfl⟩ | ⟨a,rfl⟩⟩
  ·exact zn8 (zsr c) rfl rfl
  ·cases a
 ·exfalso; have:¬ (1 ≤ p ∧ p ≤ 8):=fun h=>by simp [h] at b
  exact this c
theorem zqx (w:CFun) (F:Fz) (s:List UInt8) (p:Int) (M:s.length ≤ 1000000000000000000) (o:1 ≤ p ∧ p ≤ 5) (G:¬ s = []) :
  Ct Tryz.prog 129 [.va (.int .i64 p),.va (.str s)] F [] 1 (readK F p s):=by
 have T:=fun lo hi=>ze1 F s 0 lo hi M (by unfold i64; omega)
 refine ct_of hΘ Tryz.func129 rfl (by decide) _ _ rfl rfl rfl ?_;refine usePu (zd0 p 1 8 F) rfl (zaa _) rfl ?_;refine useFo (zcv F (decide (1 ≤ p) && decide (p ≤ 8))) rfl ⟨rfl,tv⟩ rfl ?_;rintro _ _ l1 ⟨rfl,⟨E,rfl⟩ | ⟨E,rfl⟩⟩
 ·have ag:1 ≤ p ∧ p ≤ 8:=by simpa using E
  refine br (fun g=>?_) (fun g=>?_)
  ·exact absurd (by simpa using g) G
  ·clear g;refine br (fun g=>absurd (od g) (by omega)) (fun _=>?_);refine br (fun g=>absurd (od g) (by omega)) (fun _=>?_);refine use (T 0 64) [(1,3)] rfl ⟨rfl,rfl,rfl,tv⟩ rfl ⟨za6 _ _,tv⟩ (by simp [SV.below,SA.below]) ⟨rfl,tv⟩ ?_;rintro u F0 I n0 S ⟨rfl,rfl,a⟩;by_cases y:zca s 0 0 64 = true
   ·rw [if_pos y] at a;obtain ⟨ho,hh⟩:=a;subst ho; subst hh;have aj:=zfv (ze0 y)
    have ai:0 ≤ (getI s 0).1 ∧ (getI s 0).1 ≤ 64:=by
     simp only [zca,qf,decide_eq_true_eq] at y; exact y.2
    have hm:∃ m:Nat,(getI s 0).1 = m ∧ m ≤ 64:=⟨(getI s 0).1.toNat,by omega,by omega⟩
    obtain ⟨m,em,af⟩:=hm
    have f:readS p s = match zcn s p m [] (getI s 0).2.1 with
      |none=>none
      |some (l,q)=>if q = s.length then some ⟨false,l,0,0,[]⟩ else none:=by
     rw [readS,if_neg (by omega),if_neg G,if_neg (by omega),if_neg (by omega),if_pos y,em]; rfl
    have ad:i64 (getI s 0).2.1:=⟨by omega,by omega⟩
    refine zam hΘ (X:={ x:List Ln × Nat × (Nat → Nat) × Int // R1 s p m (getI s 0).2.1 x.1 x.2.1 x.2.2.1 x.2.2.2 }) (fun x=>[(15,.va (.int .i64 x.1.1.length))]) [16,17,18,19,20,21,22,23,24,25,26,27]
     (fun x=>[(0,.frz F),(2,accE 5 4 x.1.2.1 x.1.1),(3,rdr s x.1.2.2.2),(4,zbi 5 x.1.2.2.1 x.1.2.1 x.1.1),(5,famE x.1.2.2.1 x.1.1)]) 6 (fun x=>m - x.1.1.length) ⟨([],0,fun _=>0,(getI s 0).2.1),⟨by simp,ad,rfl,by simp,by simp⟩⟩
     (fun V W=>leI [(4,4),(5,5)] V W rfl ⟨tv,zi2 (by omega) _ _ _,za6 s _,zaq (by omega) _ _ _,zaw _ _ _,tv⟩ ⟨rfl,tv⟩ ⟨Fz.r F,rfl,rfl,rfl,tv,tv⟩) ?_
    rintro ⟨⟨acc,c,caps,q⟩,h1,J,D,K,R⟩ V W;replace h1:acc.length ≤ m:=h1;replace J:i64 q:=J;replace D:zcn s p m [] (getI s 0).2.1 = zcn s p (m - acc.length) acc q:=D;replace K:∀ k x,acc[k]? = some x → x.2.length ≤ caps k:=K;replace R:p ≠ 1 ∧ p ≠ 2 → ∀ x ∈ acc,2 ≤ x.2.length:=R;have aa:=zsf w;refine br (fun Q=>?_) (fun Q=>?_)
    ·have O:acc.length < m:=by
      have I:(acc.length:Int) < (getI s 0).1:=od Q;rw [em] at I; omega
     clear Q;rcases acc with _ | ⟨a0,ar⟩
     ·refine drawP hΘ mixed (lk [0,1,2,3,4,5] (.alt 6 (.alt 7 (.alt 8 (.look 9 (.last 10 .done)) .nil) .nil) .nil)) [2] (by kernel_rfl) ?_;conv=>whnf
      repeat' ((conv=>whnf); first
       |refine ⟨rfl,?_⟩
       |refine ⟨Fz.r _,rfl,?_⟩
       |refine ⟨Fz.r _,rfl,rfl,?_⟩
       |refine ⟨⟨by simp,by simp⟩,?_⟩
       |fail)
      refine use (zsf w F s p q (.slice true 0 0 0 2 0 0) [] ⟨true,0,0,0,[],0,rfl,fun _=>rfl,fun h=>(nomatch h),by simp,by simp⟩ M o J (by simp) (by simp)) [(1,3)] rfl ⟨rfl,rfl,⟨rfl,rfl,rfl⟩,tv⟩ rfl ⟨za6 _ _,tv⟩ (by simp [SV.below,SA.below]) ⟨rfl,tv⟩ ?_;rintro u F0 I n0 S ⟨rfl,a⟩
      have d:lineS s p [] q = none ∨ ∃ x n,lineS s p [] q = some (x,n):=by
       cases lineS s p [] q with
       |none=>exact .inl rfl
       |some z=>exact .inr ⟨z.1,z.2,rfl⟩
      have U:m - 0 = (m - 1) + 1:=by omega
      rcases d with d | ⟨x,n,d⟩
      ·rw [d] at a;obtain ⟨q3,rfl,rfl,rfl⟩:=a;refine clean [] (.panic perr) F [] 1 ⟨Fz.r F,zfp ?_⟩ rfl rfl rfl trivial trivial ⟨Fz.r F,tv⟩;have b:zcn s p m [] (getI s 0).2.1 = none:=by rw [D]; show zcn s p (m - 0) [] q = none; rw [U,zcn,d]
       rw [f,b]
      ·rw [d] at a;obtain ⟨Z,A,rfl,rfl,rfl⟩:=a;have e:=zuy d M J o;refine ⟨Fz.r F,rfl,Fz.r F,rfl,nb rfl,_,rfl,rfl,rfl,nb rfl,fun c' Y=>?_⟩;clear Y;refine ⟨Fz.r F,rfl,?_⟩;conv=>whnf
       have b:zcn s p m [] (getI s 0).2.1 = zcn s p (m - ([] ++ [x]).length) ([] ++ [x]) n:=by rw [D]; show zcn s p (m - 0) [] q = _; rw [U,zcn,d]; rfl
       exact ⟨⟨([] ++ [x],c',capx 0 Z caps,n),⟨by show 1 ≤ m; exact O,e.1,b,zu9 K A,zwz R e.2⟩⟩,by show m - 1 < m - 0; omega,
        leR [(4,.to 8),(5,.fn (gx 0) [5,6])] V W rfl ⟨tv,zi2 (by omega) _ _ _,za6 s _,zaq (by omega) _ _ _,zaw _ _ _,tv⟩ ⟨cnt (by omega),tv⟩
        ⟨Fz.r F,z0d (μ:=sig [(4,.to 8),(5,.fn (gx 0) [5,6])]) (j:=8) rfl c' _ [] x rfl,rfl,congrArg (fun L=>SB.arr 259 2 L c') (zo3 (μ:=sig [(4,.to 8),(5,.fn (gx 0) [5,6])]) (acc:=[]) x (fun k=>rfl) rfl),zyn (acc:=[]) x rfl rfl,tv⟩⟩
     ·replace h1:ar.length + 1 ≤ m:=h1;replace O:ar.length + 1 < m:=O;refine drawP hΘ mixed (lk [0,1,2,3,4,5] (.alt 6 (.alt 7 (.alt 8 (.look 9 (.last 10 .done)) .nil) .nil) .nil)) [2] (by kernel_rfl) ?_;conv=>whnf
      repeat' ((conv=>whnf); first
       |refine ⟨rfl,?_⟩
       |refine ⟨Fz.r _,rfl,?_⟩
       |refine ⟨Fz.r _,rfl,rfl,?_⟩
       |refine ⟨⟨by simp,by simp⟩,?_⟩
       |fail)
      refine lend 5 (fun k=>(famE caps (a0 :: ar)).at k) rfl rfl rfl (fun k _=>zck _ _ _) (fun k _=>zb0 _ _ _) ?_;intro bf G1 ah ae;refine lend 4 (fun _=>.arr 259 2 ((zbr 5 caps 0 (a0 :: ar)).map (List.map (SA.ren (mfz bf)))) c) rfl rfl rfl (fun _ _=>congrArg (fun L=>SB.arr 259 2 L c) (zjo (μ':=mfz bf) (B:=5) (by intro k; rfl) caps 0 (a0 :: ar))) (fun _ _=>zo2 bf caps 0 (a0 :: ar)) ?_;intro b4 G2 ac ab;refine use (zsf w G2 s p q _ (a0 :: ar) (ybm (bf:=bf) (caps:=caps) (by simp) (ab 0 ⟨rfl,rfl⟩) (fun k hk=>ac _ _ (ae k hk)) K) M o J (by simp; omega) R) [(1,3)] rfl ⟨rfl,rfl,⟨rfl,rfl,rfl,.inr ⟨rfl,rfl,rfl,rfl⟩⟩,tv⟩ rfl ⟨za6 _ _,tv⟩ (by simp [SV.below,SA.below]) ⟨rfl,tv⟩ ?_;rintro u F0 I n0 S ⟨rfl,a⟩
      have d:lineS s p (a0 :: ar) q = none ∨ ∃ x n,lineS s p (a0 :: ar) q = some (x,n):=by
       cases lineS s p (a0 :: ar) q with
       |none=>exact .inl rfl
       |some z=>exact .inr ⟨z.1,z.2,rfl⟩
      have U:m - (ar.length + 1) = (m - (ar.length + 1 + 1)) + 1:=by omega
      rcases d with d | ⟨x,n,d⟩
      ·rw [d] at a;obtain ⟨q3,rfl,rfl,rfl⟩:=a;refine ⟨G2,rfl,Fz.r _,rfl,G1,rfl,Fz.r _,rfl,?_⟩;refine clean [] (.panic perr) F [] 1 ⟨Fz.r F,zfp ?_⟩ rfl rfl rfl trivial trivial ⟨Fz.r F,tv⟩;have b:zcn s p m [] (getI s 0).2.1 = none:=by rw [D]; show zcn s p (m - (ar.length + 1)) (a0 :: ar) q = none; rw [U,zcn,d]
       rw [f,b]
      ·rw [d] at a;obtain ⟨Z,A,rfl,rfl,rfl⟩:=a;refine ⟨G2,rfl,Fz.r _,rfl,G1,rfl,Fz.r _,rfl,?_⟩;have e:=zuy d M J o;refine ⟨Fz.r F,rfl,Fz.r F,rfl,nb rfl,_,rfl,rfl,rfl,(zi1 5 caps 0 (a0 :: ar)).symm,rfl,by show (ar.length + 1 + 1) * 40 ≤ 140737488355328; omega,fun c' Y=>?_⟩;clear Y;refine ⟨Fz.r F,rfl,?_⟩;conv=>whnf
       have b:zcn s p m [] (getI s 0).2.1 = zcn s p (m - ((a0 :: ar) ++ [x]).length) ((a0 :: ar) ++ [x]) n:=by
        rw [D]; show zcn s p (m - (ar.length + 1)) (a0 :: ar) q = _;rw [U,zcn,d,qd]; rfl
       exact ⟨⟨((a0 :: ar) ++ [x],c',capx (ar.length + 1) Z caps,n),⟨by rw [qd]; exact O,e.1,b,zu9 K A,zwz R e.2⟩⟩,by show m - ((a0 :: ar) ++ [x]).length < m - (ar.length + 1); rw [qd]; simp; omega,
        leR [(4,.to 8),(5,.fn (gx (ar.length + 1)) [5,6])] V W rfl ⟨tv,zi2 (by omega) _ _ _,za6 s _,zaq (by omega) _ _ _,zaw _ _ _,tv⟩ ⟨by show SA.int .i64 _ = SA.int .i64 _; rw [qd]; exact cnt (by simp; omega),tv⟩
        ⟨Fz.r F,z0d (μ:=sig [(4,.to 8),(5,.fn (gx (ar.length + 1)) [5,6])]) (j:=8) rfl c' _ (a0 :: ar) x rfl,rfl,congrArg (fun L=>SB.arr 259 2 L c') (zo3 (μ:=sig [(4,.to 8),(5,.fn (gx (ar.length + 1)) [5,6])]) (acc:=a0 :: ar) x (fun k=>rfl) rfl),zyn (acc:=a0 :: ar) x rfl rfl,tv⟩⟩
    ·have O:acc.length = m:=by
      have I:¬ (acc.length:Int) < (getI s 0).1:=oe Q;rw [em] at I; omega
     clear Q;have b:zcn s p m [] (getI s 0).2.1 = some (acc,q):=by rw [D,show m - acc.length = 0 by omega,zcn]
     rw [b] at f;replace f:readS p s = if q = s.length then some ⟨false,acc,0,0,[]⟩ else none:=f
     refine useFo (zcv F (decide (q = (s.length:Int)))) rfl ⟨rfl,tv⟩ rfl ?_;rintro _ _ l2 ⟨rfl,⟨E,rfl⟩ | ⟨E,rfl⟩⟩
     ·refine clean [(1,4),(2,5)] (.ret (valV ⟨false,acc,0,0,[]⟩ 1 c)) F [(1,zbi 2 caps c acc),(2,famE caps acc)] 3 ⟨Fz.r F,zl9 (v:=⟨false,acc,0,0,[]⟩) ?_⟩ ?_ rfl rfl (zm2 (by omega) _ _) ⟨zaq (by omega) _ _ _,zaw _ _ _,tv⟩ ⟨Fz.r F,zv1 (fun k=>rfl),zby,tv⟩
      ·rw [f,if_pos (od E)]
      ·exact (ztr (i:=1) (j:=4) rfl ⟨false,acc,0,0,[]⟩ c).trans (ztr (i:=4) (j:=4) (by rfl) ⟨false,acc,0,0,[]⟩ c).symm
     ·refine clean [] (.panic perr) F [] 1 ⟨Fz.r F,zfp ?_⟩ rfl rfl rfl trivial trivial ⟨Fz.r F,tv⟩;rw [f,if_neg (oe E)]
   ·rw [if_neg y] at a;obtain ⟨ho,hh⟩:=a;subst ho; subst hh;have f:readS p s = none:=by rw [readS,if_neg (by omega),if_neg G,if_neg (by omega),if_neg (by omega),if_neg y]
    refine clean [] (.panic perr) F [] 1 ⟨Fz.r F,zfp ?_⟩ rfl rfl rfl trivial trivial ⟨Fz.r F,tv⟩;exact f
 ·exfalso; have:=oe (p:=1 ≤ p ∧ p ≤ 8) (by simpa using E); omega
def TFun:Prop:=∀ (F:Fz) (s:List UInt8),s.length ≤ 70000 → Fo Tryz.prog F 184 [.va (.str s),.va (.str [48,49])] (fun o a=>F = a ∧ ∃ r:List UInt8,o = .ret (.va (.str r)) ∧ (r = [] ↔ s.all (fun b=>b == 48 || b == 49) = true))
theorem zp9 (F:Fz) (s:List UInt8) (l:s.length ≤ 1000000000000000000) (i:¬ s = []):Ct Tryz.prog 129 [.va (.int .i64 8),.va (.str s)] F [] 1 (readK F 8 s):=by
 have e:=ze1 F s 0 0 64 l (by unfold i64; omega)
 have j:readS 8 s = if zca s 0 0 64 = true ∧ zca s (getI s 0).2.1 0 64 = true ∧ (getI s (getI s 0).2.1).2.1 = s.length then some ⟨false,[],(getI s 0).1,(getI s (getI s 0).2.1).1,[]⟩ else none:=by
  rw [readS,if_neg (by omega),if_neg i,if_pos rfl]
 refine ct_of hΘ Tryz.func129 rfl (by decide) _ _ rfl rfl rfl ?_;refine usePu (zd0 8 1 8 F) rfl (zaa _) rfl ?_;refine useFo (zcv F true) rfl ⟨rfl,tv⟩ rfl ?_;rintro _ _ u ⟨rfl,⟨m,rfl⟩ | ⟨m,rfl⟩⟩
 ·refine br (fun g=>absurd (by simpa using g) i) (fun _=>?_);refine bre (by decide) ?_;refine use e [(1,3)] rfl ⟨rfl,rfl,rfl,tv⟩ rfl ⟨za6 _ _,tv⟩ (by simp [SV.below,SA.below]) ⟨rfl,tv⟩ ?_;rintro f o n n0 k ⟨rfl,rfl,a⟩;by_cases d:zca s 0 0 64 = true
  ·rw [if_pos d] at a;obtain ⟨rfl,rfl⟩:=a;have p:=zfv (ze0 d);refine use (ze1 F s (getI s 0).2.1 0 64 l ⟨by omega,by omega⟩) [(1,3)] rfl ⟨rfl,rfl,rfl,tv⟩ rfl ⟨za6 _ _,tv⟩ (by simp [SV.below,SA.below]) ⟨rfl,tv⟩ ?_;rintro f o n n0 k ⟨rfl,rfl,a⟩;by_cases b:zca s (getI s 0).2.1 0 64 = true
   ·rw [if_pos b] at a;obtain ⟨rfl,rfl⟩:=a;refine useFo (zcv F (decide ((getI s (getI s 0).2.1).2.1 = (s.length:Int)))) rfl ⟨rfl,tv⟩ rfl ?_;rintro _ _ q ⟨rfl,⟨c,rfl⟩ | ⟨c,rfl⟩⟩
    ·exact zn8 (by rw [j,if_pos ⟨d,b,od c⟩]) rfl rfl
    ·exact zc3 (by rw [j,if_neg (fun h=>oe c h.2.2)]) rfl
   ·rw [if_neg b] at a;obtain ⟨rfl,rfl⟩:=a;exact zc3 (by rw [j,if_neg (fun h=>b h.2.1)]) rfl
  ·rw [if_neg d] at a;obtain ⟨rfl,rfl⟩:=a;exact zc3 (by rw [j,if_neg (fun h=>d h.1)]) rfl
 ·cases m
theorem zol (hT:TFun) (F:Fz) (s:List UInt8) (p:Int) (hp:p = 6 ∨ p = 7) (Q:s.length ≤ 1000000000000000000) (J:¬ s = []):Ct Tryz.prog 129 [.va (.int .i64 p),.va (.str s)] F [] 1 (readK F p s):=by
 have m:=ze1 F s 0 0 32 Q (by unfold i64; omega);obtain ⟨w,M⟩:∃ w,(getI s 0).1 = w:=⟨_,rfl⟩
 obtain ⟨q,R⟩:∃ q,(getI s 0).2.1 = q:=⟨_,rfl⟩
 obtain ⟨h,S⟩:∃ h,(getI s q).1 = h:=⟨_,rfl⟩
 obtain ⟨c,x⟩:∃ c,(getI s q).2.1 = c:=⟨_,rfl⟩
 have i:readS p s = if zca s 0 0 32 = true ∧ zca s q (min w 1) (min w 1 * 32) = true then
   if p = 7 then
    if (getS s c).2.2 = 0 ∧ ((getS s c).1.length:Int) = w * h ∧ (getS s c).1.all (fun b=>b == 48 || b == 49) = true ∧ (getS s c).2.1 = s.length then some ⟨false,[],w,h,(getS s c).1⟩ else none
   else if c = s.length then some ⟨false,[],w,h,[]⟩ else none
  else none:=by
  rw [readS,if_neg (by omega),if_neg J,if_neg (by omega),if_pos (by omega)];simp only [M,R,S,x]
 rw [M,R] at m;have l:=fun (k:zca s 0 0 32 = true)=>zfv (ze0 k)
 rw [R] at l
 have E:zca s 0 0 32 = true → 0 ≤ w ∧ w ≤ 32:=fun k=>by
  simp only [zca,qf,decide_eq_true_eq,M] at k; exact k.2
 refine ct_of hΘ Tryz.func129 rfl (by decide) _ _ rfl rfl rfl ?_;refine usePu (zd0 p 1 8 F) rfl (zaa _) rfl ?_;refine useFo (zcv F (decide (1 ≤ p) && decide (p ≤ 8))) rfl ⟨rfl,tv⟩ rfl ?_;rintro _ _ l1 ⟨rfl,⟨W,rfl⟩ | ⟨W,rfl⟩⟩
 ·refine br (fun g=>absurd (by simpa using g) J) (fun _=>?_);refine br (fun g=>absurd (od g) (by omega)) (fun _=>?_);refine br (fun _=>?_) (fun g=>absurd (oe g) (by omega));refine use m [(1,3)] rfl ⟨rfl,rfl,rfl,tv⟩ rfl ⟨za6 _ _,tv⟩ (by simp [SV.below,SA.below]) ⟨rfl,tv⟩ ?_;rintro o U B n0 G ⟨rfl,rfl,a⟩;by_cases k:zca s 0 0 32 = true
  ·rw [if_pos k] at a;obtain ⟨rfl,rfl⟩:=a;have aa:=l k;have Y:=E k;have X:(if 1 < w then 1 else w) = min w 1:=by split<;>omega
   have e2:IntKind.i64.wrap ((if 1 < w then 1 else w) * 32) = min w 1 * 32:=by rw [X,zaj (by omega) (by omega)]
   have y:=ze1 F s q (if 1 < w then 1 else w) (IntKind.i64.wrap ((if 1 < w then 1 else w) * 32)) Q ⟨by omega,by omega⟩;refine use y [(1,3)] rfl ⟨rfl,rfl,rfl,tv⟩ rfl ⟨za6 _ _,tv⟩ (by simp [SV.below,SA.below]) ⟨rfl,tv⟩ ?_;rintro o U B n0 G ⟨rfl,rfl,a⟩;rw [X,zaj (n:=min w 1 * 32) (by omega) (by omega),S,x] at a;by_cases f:zca s q (min w 1) (min w 1 * 32) = true
   ·rw [if_pos f] at a;obtain ⟨rfl,rfl⟩:=a;have I:=zfv (ze0 f);rw [x] at I
    have Z:min w 1 ≤ h ∧ h ≤ min w 1 * 32:=by
     simp only [zca,qf,decide_eq_true_eq,S] at f; exact f.2
    rw [if_pos ⟨k,f⟩] at i
    have ab:0 ≤ w * h ∧ w * h ≤ 1024:=by
     refine ⟨qct (by omega) (by omega),?_⟩;have:w * h ≤ 32 * 32:=qbn (by omega) (by omega) (by omega) (by omega);omega
    refine br (fun O=>?_) (fun O=>?_)
    ·have A:p = 7:=od O;rw [if_pos A] at i;refine use (zt3 F s c Q ⟨by omega,by omega⟩) [(1,3)] rfl ⟨rfl,tv⟩ rfl ⟨za6 _ _,tv⟩ (by simp [SV.below,SA.below]) ⟨rfl,tv⟩ ?_;rintro o U B n0 G ⟨rfl,rfl,a⟩;by_cases L:(getS s c).2.2 = 0
     ·rw [if_pos L] at a;obtain ⟨rfl,rfl⟩:=a;have T:IntKind.i64.wrap (w * h) = w * h:=zaj (by omega) (by omega);refine ⟨fun D=>?_,fun D=>?_⟩
      ·have u:((getS s c).1.length:Int) = w * h:=by
        have B:=od D;rw [← T]; exact B
       clear D;refine useFo (hT F (getS s c).1 (by omega)) rfl (zaa _) rfl ?_;rintro _ _ K ⟨rfl,r,rfl,V⟩;refine useFo (zcv F (r == [])) rfl ⟨rfl,tv⟩ rfl ?_;rintro _ _ K ⟨rfl,⟨e,rfl⟩ | ⟨e,rfl⟩⟩
       ·have j:=V.1 (by simpa using e);refine useFo (zcv F (decide ((getS s c).2.1 = (s.length:Int)))) rfl ⟨rfl,tv⟩ rfl ?_;rintro _ _ K ⟨rfl,⟨d,rfl⟩ | ⟨d,rfl⟩⟩
        ·exact zn8 (by rw [i,if_pos ⟨L,u,j,od d⟩]) rfl rfl
        ·exact zc3 (by rw [i,if_neg (fun h=>oe d h.2.2.2)]) rfl
       ·have j:¬ (getS s c).1.all (fun b=>b == 48 || b == 49) = true:=fun h=>by
         rw [V.2 h] at e; cases e
        exact zc3 (by rw [i,if_neg (fun h=>j h.2.2.1)]) rfl
      ·have u:¬ ((getS s c).1.length:Int) = w * h:=by
        have B:=oe D;rw [← T]; exact B
       clear D;refine useFo (zcv F false) rfl ⟨rfl,tv⟩ rfl ?_;rintro _ _ K ⟨rfl,⟨e,rfl⟩ | ⟨e,rfl⟩⟩
       ·cases e
       ·exact zc3 (by rw [i,if_neg (fun h=>u h.2.1)]) rfl
     ·rw [if_neg L] at a;obtain ⟨rfl,rfl⟩:=a;exact zc3 (by rw [i,if_neg (fun h=>L h.1)]) rfl
    ·have A:¬ p = 7:=oe O;rw [if_neg A] at i;refine useFo (zcv F (decide (c = (s.length:Int)))) rfl ⟨rfl,tv⟩ rfl ?_;rintro _ _ K ⟨rfl,⟨d,rfl⟩ | ⟨d,rfl⟩⟩
     ·exact zn8 (by rw [i,if_pos (od d)]) rfl rfl
     ·exact zc3 (by rw [i,if_neg (oe d)]) rfl
   ·rw [if_neg f] at a;obtain ⟨rfl,rfl⟩:=a;exact zc3 (by rw [i,if_neg (fun h=>f h.2)]) rfl
  ·rw [if_neg k] at a;obtain ⟨rfl,rfl⟩:=a;exact zc3 (by rw [i,if_neg (fun h=>k h.1)]) rfl
 ·exfalso; have:¬ (1 ≤ p ∧ p ≤ 8):=fun h=>by simp [h] at W
  omega
theorem z8f (c:CFun) (e:TFun) (F:Fz) (s:List UInt8) (p:Int) (b:s.length ≤ 1000000000000000000):Ct Tryz.prog 129 [.va (.int .i64 p),.va (.str s)] F [] 1 (readK F p s):=by
 by_cases d:1 ≤ p ∧ p ≤ 8
 ·by_cases a:s = []
  ·subst a; exact zqo F p d
  ·by_cases f:p = 8
   ·subst f; exact zp9 F s b a
   ·by_cases g:6 ≤ p
    ·exact zol e F s p (by omega) b a
    ·exact zqx c F s p b (by omega) a
 ·exact zvl F s p d
def PFun:Prop:=∀ (F:Fz) (n:Int),Fo Tryz.prog F 78 [.va (.int .i64 n)] (fun o a=>o = .ret (.tup [.va (.str (putIR n).1),.va (.int .i64 (putIR n).2)]) ∧ a = F)
theorem zen (d:PFun) (F:Fz) (s:List UInt8) (i:s.length ≤ 9000000000000000000):Fo Tryz.prog F 79 [.va (.str s)] (fun o c=>o = .ret (.tup [.va (.str (putSR s).1),.va (.int .i64 (putSR s).2)]) ∧ c = F):=by
 refine fo_of hΘ Tryz.func79 rfl (by decide) _ _ rfl rfl rfl ?_;refine br (fun g=>?_) (fun g=>?_)
 ·have a:65536 < s.length:=by have b:(65536:Int) < s.length:=(by simpa using g); omega
  exact endFo (.ret (.tup [.va (.str []),.va (.int .i64 10)])) F rfl (Fz.r F) (Fz.r F) ⟨by rw [putSR,if_pos a],rfl⟩ (zah _) rfl
 ·have a:¬ 65536 < s.length:=by have b:¬ (65536:Int) < s.length:=(by simpa using g); omega
  have f:putIR s.length = (putI s.length,0):=by rw [putIR,if_neg (by omega)]
  have e:putSR s = (putI s.length ++ s,0):=by rw [putSR,if_neg a]
  refine usePu (d F s.length) rfl (zaa _) rfl ?_;conv=>whnf
  have h:=zei s.length;refine ⟨by omega,?_⟩;exact endFo (.ret (.tup [.va (.str ((putIR s.length).1 ++ s)),.va (.int .i64 0)])) F rfl (Fz.r F) (Fz.r F) ⟨by rw [e,f],rfl⟩ (zah _) rfl
def outC (i j c:Nat) (l:List UInt8):Ent:=.one (.cells 81 [gA 1 j c l])
theorem za9 {n j:Nat} (h:j < n) (i c:Nat) (l:List UInt8):(outC i j c l).below n:=by
 intro a b;simp only [qj,qs,or_false] at b;subst b;cases l with
 |nil=>trivial
 |cons x r=>exact .inr h
abbrev outN (c:Nat) (l:List UInt8):List (Nat × Ent):=[(1,outC 1 3 c l),(2,.gone),(3,gE 5 1 encB c l)]
theorem zgw (c:Nat) (l:List UInt8):bH 4 (outN c l):=⟨za9 (by omega) _ _ _,tv,zai zab _ _ _ _ _,tv⟩
theorem zj1 {μ:Mu} {j j':Nat} (h:μ j 0 = (j',0)) (i c:Nat) (l:List UInt8):(outC i j c l).ren μ = outC i j' c l:=by
 show Ent.one (.cells _ [(gA 1 j c l).ren μ]) = _;rw [ztb h]; rfl
theorem zh9 {μ:Mu} {j j':Nat} (h:μ j 0 = (j',0)) {i i' c:Nat} {l:List UInt8}:subE (some (outC i' j' c l)) ((outC i j c l).ren μ):=by rw [zj1 h]; exact rfl
theorem zj5 {μ:Mu} {j j':Nat} (h:μ j 0 = (j',0)) {i c n:Nat} {x:UInt8} {l:List UInt8} (a:n = l.length + 1):subE (some (.one (.cells 81 [.slice false j' 0 0 1 n c]))) ((outC i j c (x :: l)).ren μ):=by
 subst a; rw [zj1 h]; exact rfl
abbrev outH (c:Nat) (l:List UInt8):List (Nat × Ent):=[(1,outC 1 2 c l),(2,gE 5 1 encB c l)]
theorem zr9 (m:PFun) (F:Fz) (s out:List UInt8) (c:Nat) (h:s.length ≤ 9000000000000000000) (f:out.length ≤ 1000000000000) :
  Ct Tryz.prog 197 [.va (.str s),.va (.ptr ⟨1,0,0,0,0⟩)] F (outH c out) 3
   (fun o l k n0=>F = l ∧ n0 = 4 ∧ o = .ret (.tup []) ∧ ∃ c',k = outN c' (out ++ (putSR s).1)):=by
 have a:=zen m F s h;have e:=zdf s;obtain ⟨t,g⟩:∃ t,(putSR s).1 = t:=⟨_,rfl⟩
 rw [g] at a e ⊢;rcases out with _ | ⟨x,r⟩
 ·rcases t with _ | ⟨b,t⟩
  ·refine ct_of hΘ Tryz.func197 rfl (by decide) _ _ rfl rfl rfl ?_;refine usePu (a) rfl (zaa _) rfl ?_;refine ⟨rfl,rfl,?_⟩;exact clean [(3,2)] (.ret (.tup [])) F (outN c []) 4 ⟨Fz.r F,rfl,rfl,rfl,c,rfl⟩ trivial rfl rfl (Out.bB_ok (o:=.ret (.tup [])) rfl) (zgw _ _) ⟨Fz.r F,rfl,zax zab (zay _ _ _ _),tv⟩
  ·refine ct_of hΘ Tryz.func197 rfl (by decide) _ _ rfl rfl rfl ?_;refine usePu (a) rfl (zaa _) rfl ?_;refine ⟨rfl,rfl,by show ((t.map fun b:UInt8=>[SA.int .u8 b.toNat]).length + 1) * 1 ≤ 140737488355328; rw [qa]; simp at e; omega,fun c' d=>?_⟩;clear d;exact clean [(3,3)] (.ret (.tup [])) F (outN c' (b :: t)) 4 ⟨Fz.r F,rfl,rfl,rfl,c',rfl⟩ trivial rfl rfl (Out.bB_ok (o:=.ret (.tup [])) rfl) (zgw _ _) ⟨Fz.r F,zj5 (i:=1) (j:=3) (j':=3) (by rfl) (by simp),zax zab (zcs _ (by rfl)),tv⟩
 ·replace f:r.length + 1 ≤ 1000000000000:=f;refine ct_of hΘ Tryz.func197 rfl (by decide) _ _ rfl rfl rfl ?_;refine usePu (a) rfl (zaa _) rfl ?_;refine ⟨rfl,rfl,by simp,rfl,by rw [qa]; show (r.length + 1 + t.length) * 1 ≤ 140737488355328; omega,fun c' d=>?_⟩;clear d;exact clean [(3,3)] (.ret (.tup [])) F (outN c' (x :: (r ++ t))) 4 ⟨Fz.r F,rfl,rfl,rfl,c',rfl⟩ trivial rfl rfl (Out.bB_ok (o:=.ret (.tup [])) rfl) (zgw _ _) ⟨Fz.r F,zj5 (i:=1) (j:=3) (j':=3) (by rfl) (by rw [qa,qd]; omega),zax zab (zcs _ (by show ((x :: r).map encB) ++ (t.map encB) = (x :: (r ++ t)).map encB; simp)),tv⟩
theorem zk7 (Q:PFun) (F:Fz) (G:SA) (l:List Int) (out:List UInt8) (c:Nat) (U:zek F G l) (W:l.length < 1000000) (Y:out.length ≤ 1000000000000) :
  Ct Tryz.prog 196 [.va G,.va (.ptr ⟨1,0,0,0,0⟩)] F (outH c out) 3
   (fun o M L n0=>F = M ∧ n0 = 4 ∧ o = .ret (.tup []) ∧ ∃ c',L = outN c' (out ++ zae l)):=by
 obtain ⟨S,I,R,T,O,V,rfl,d,m,K,p⟩:=U;refine ct_of hΘ Tryz.func196 rfl (by decide) _ _ rfl rfl rfl ?_
 refine zam hΘ (X:={ x:Nat × List UInt8 × Nat // x.1 ≤ l.length ∧ x.2.1 = out ++ ((l.take x.1).map fun n=>(putIR n).1).flatten }) (fun x=>[(9,.va (.int .i64 x.1.1))]) [4,5,6,10,11,12,13,14,15,16,17,18,19,20,21]
  (fun x=>[(0,.frz F),(1,outC 1 3 x.1.2.2 x.1.2.1),(2,.gone),(3,gE 5 1 encB x.1.2.2 x.1.2.1)]) 4 (fun x=>l.length - x.1.1) ⟨(0,out,c),by simp⟩
  (fun q w=>leI [(3,2)] q w rfl ⟨tv,za9 (by omega) _ _ _,tv,zai zab _ _ _ _ _,tv⟩ ⟨rfl,tv⟩ ⟨Fz.r F,zh9 (i:=1) (i':=1) (j:=3) (j':=2) (by rfl),zax zab (zay _ _ _ _),tv⟩) ?_
 rintro ⟨⟨k,ob,D⟩,E,f⟩ q w;replace E:k ≤ l.length:=E;replace f:ob = out ++ ((l.take k).map fun n=>(putIR n).1).flatten:=f
 have h:ob.length ≤ 1000009000000:=by
  have J:=zga zei (l.take k);rw [qq] at J;rw [f,qd]; omega
 refine br (fun A=>?_) (fun A=>?_)
 ·have a:k < l.length:=by simpa using A
  clear A;have g:=Q F l[k];have y:∃ t,(putIR l[k]).1 = t:=⟨_,rfl⟩
  obtain ⟨t,y⟩:=y;have u:=zei l[k];have e:ob ++ t = out ++ ((l.take (k + 1)).map fun n=>(putIR n).1).flatten:=by rw [zb1 a,y,f,ql]
  rw [y] at g u;rcases ob with _ | ⟨x,r⟩
  ·rcases t with _ | ⟨b,t⟩
   ·refine ⟨Sl.lt d a,⟨by simp,by simpa using a⟩,_,m (Sl.lt d a),_,Sl.at p a,?_⟩;refine usePu (g) rfl (zaa _) rfl ?_;refine ⟨rfl,rfl,?_⟩;exact ⟨⟨(k + 1,[],D),by show k + 1 ≤ l.length; omega,e⟩,by show l.length - (k + 1) < l.length - k; omega,leR [(3,3)] q w rfl ⟨tv,za9 (by omega) _ _ _,tv,zai zab _ _ _ _ _,tv⟩ ⟨cnt (by omega),tv⟩ ⟨Fz.r F,rfl,zax zab (zay _ _ _ _),tv⟩⟩
   ·refine ⟨Sl.lt d a,⟨by simp,by simpa using a⟩,_,m (Sl.lt d a),_,Sl.at p a,?_⟩;refine usePu (g) rfl (zaa _) rfl ?_;refine ⟨rfl,rfl,by show ((t.map fun b:UInt8=>[SA.int .u8 b.toNat]).length + 1) * 1 ≤ 140737488355328; rw [qa]; simp at u; omega,fun c' B=>?_⟩;clear B;exact ⟨⟨(k + 1,b :: t,c'),by show k + 1 ≤ l.length; omega,e⟩,by show l.length - (k + 1) < l.length - k; omega,leR [(3,4)] q w rfl ⟨tv,za9 (by omega) _ _ _,tv,zai zab _ _ _ _ _,tv⟩ ⟨cnt (by omega),tv⟩ ⟨Fz.r F,zj5 (i:=1) (j:=3) (j':=4) (by rfl) (by simp),zax zab (zcs _ (by rfl)),tv⟩⟩
  ·replace h:r.length + 1 ≤ 1000009000000:=h;refine ⟨Sl.lt d a,⟨by simp,by simpa using a⟩,_,m (Sl.lt d a),_,Sl.at p a,?_⟩;refine usePu (g) rfl (zaa _) rfl ?_;refine ⟨rfl,rfl,by simp,rfl,by rw [qa]; show (r.length + 1 + t.length) * 1 ≤ 140737488355328; omega,fun c' B=>?_⟩;clear B;exact ⟨⟨(k + 1,x :: (r ++ t),c'),by show k + 1 ≤ l.length; omega,e⟩,by show l.length - (k + 1) < l.length - k; omega,leR [(3,4)] q w rfl ⟨tv,za9 (by omega) _ _ _,tv,zai zab _ _ _ _ _,tv⟩ ⟨cnt (by omega),tv⟩ ⟨Fz.r F,zj5 (i:=1) (j:=3) (j':=4) (by rfl) (by rw [qa,qd]; omega),zax zab (zcs _ (by show ((x :: r).map encB) ++ (t.map encB) = (x :: (r ++ t)).map encB; simp)),tv⟩⟩
 ·have a:¬ k < l.length:=by simpa using A
  have s:ob = out ++ zae l:=by rw [f,zae,qn (by omega)]
  exact clean [(3,3)] (.ret (.tup [])) F (outN D ob) 4 ⟨Fz.r F,rfl,rfl,rfl,D,by rw [s]⟩ trivial rfl rfl (Out.bB_ok (o:=.ret (.tup [])) rfl) (zgw _ _) ⟨Fz.r F,zh9 (i:=1) (i':=1) (j:=3) (j':=3) (by rfl),zax zab (zay _ _ _ _),tv⟩
def lineW (p:Int) (x:Ln):List UInt8:=(if p = 1 then (putSR x.1).1 else []) ++ zae x.2
def zbt (p:Int) (v:Val):List UInt8:=
 if v.lost = true then [] else
 if 6 ≤ p then zae [v.w,v.h] ++ (if p = 7 then (putSR v.bits).1 else []) else
 zae [(v.lines.length:Int)] ++ (v.lines.map (lineW p)).flatten
theorem za0 (l:List Int):(zae l).length ≤ 9 * l.length:=zga zei l
abbrev valH (v:Val) (c:Nat) (caps:Nat → Nat):List (Nat × Ent):=[(1,zbi 2 caps c v.lines),(2,famE caps v.lines)]
theorem za8 {μ:Mu} {B B':Nat} {caps:Nat → Nat} {c:Nat} {l:List Ln} (h:∀ k,μ B k = (B',k)):subE (some (zbi B' caps c l)) ((zbi B caps c l).ren μ):=
 ⟨rfl,congrArg (fun L=>SB.arr 259 2 L c) (zep (m:=l.length) (fun k _=>⟨h k,rfl⟩) 0 l (by omega)).symm⟩
theorem zxh (v:Val) (c:Nat) (caps:Nat → Nat):bH 3 (valH v c caps):=⟨zaq (by omega) _ _ _,zaw _ _ _,tv⟩
theorem convR (μ:Mu) (l:List UInt8) (n:Nat) (a:n = l.length):(((l.map encB).map (List.map (SA.ren μ))).drop 0).take n = l.map encB:=by
 subst a;have h:(l.map encB).map (List.map (SA.ren μ)) = l.map encB:=by rw [q9]; exact q8 fun x _=>rfl
 rw [h,qaf,qn (by simp)]
theorem zbl {α:Type} {e:α → List SA} (a:Plain e) {t sz c:Nat} {τ μ:Mu} {l:List α}:subE (some ((gE t sz e c l).ren τ)) ((gE t sz e c l).ren μ):=by rw [zgc a,zgc a]; exact zay _ _ _ _
theorem zdt {F F1:Fz} {v:Val} {c:Nat} {caps:Nat → Nat} {p:Int} {t:List UInt8} {h:Hp} {nx:Nat} (e:t = zbt p v) (a:Fz.le F F1) (b:lget h 0 = some (.frz F1)) (h1:lget h 1 = some (zbi 2 caps c v.lines)) (d:lget h 2 = some (famE caps v.lines)) :
  Cln 3 (fun o f b n0=>Fz.le F f ∧ (n0 = 3 ∧ o = .ret (.va (.str (zbt p v))) ∧ b = valH v c caps)) (.ret (.va (.str t))) h nx:=
 clean [] (.ret (.va (.str t))) F1 (valH v c caps) 3 ⟨a,rfl,by rw [e],rfl⟩ rfl rfl rfl trivial (zxh _ _ _)
  ⟨by show subE (lget h 0) (.frz F1); rw [b]; exact Fz.r F1,by show subE (lget h 1) ((zbi 2 caps c v.lines).ren (sig [])); rw [h1]; exact za8 (fun k=>rfl),by show subE (lget h 2) ((famE caps v.lines).ren (sig [])); rw [d]; exact zby,tv⟩
theorem zqh (F:Fz) (v:Val) (c:Nat) (caps:Nat → Nat) (p:Int) (d:v.lost = true) :
  Ct Tryz.prog 131 [valV v 1 c,.va (.int .i64 p)] F (valH v c caps) 3 (fun o f e n0=>n0 = 3 ∧ o = .ret (.va (.str (zbt p v))) ∧ e = valH v c caps):=by
 obtain ⟨a,b,w,h,bits⟩:=v;replace d:a = true:=d;subst d;refine ct_of hΘ Tryz.func131 rfl (by decide) _ _ rfl rfl rfl ?_;exact zdt (by rw [zbt,if_pos rfl]) (Fz.r F) rfl rfl rfl
theorem zlv (O:PFun) (F:Fz) (v:Val) (c:Nat) (caps:Nat → Nat) (p:Int) (M:v.lost = false) (T:p = 6 ∨ p = 7 ∨ p = 8) (R:v.bits.length ≤ 70000) :
  Ct Tryz.prog 131 [valV v 1 c,.va (.int .i64 p)] F (valH v c caps) 3 (fun o u j n0=>n0 = 3 ∧ o = .ret (.va (.str (zbt p v))) ∧ j = valH v c caps):=by
 obtain ⟨I,d,w,h,bits⟩:=v;replace M:I = false:=M;subst M;replace R:bits.length ≤ 70000:=R;have G:zbt p ⟨false,d,w,h,bits⟩ = zae [w,h] ++ (if p = 7 then (putSR bits).1 else []):=by rw [zbt,if_neg (by simp),if_pos (by omega)]
 obtain ⟨J,i⟩:∃ J,[] ++ zae [w,h] = J:=⟨_,rfl⟩
 have K:J.length ≤ 100:=by rw [← i]; have:=za0 [w,h]; simp at this ⊢; omega
 refine ct_of hΘ Tryz.func131 rfl (by decide) _ _ rfl rfl rfl ?_;refine br (fun _=>?_) (fun g=>absurd (oe g) (by omega));refine za7 5 (fun _=>.arr 3 1 ([w,h].map encI) 2) rfl rfl rfl (fun _ _=>rfl) (fun _ _=>SB.bB_ok rfl) ?_;intro S F1 E Q;have s:=zk7 O F1 _ [w,h] [] 0 (Sl.new (l:=[w,h]) (cap:=2) (Q 0 rfl)) (by simp) (by simp);rw [i] at s;have B:∃ A,J ++ (putSR bits).1 = A:=⟨_,rfl⟩
 rcases J with _ | ⟨x,r⟩
 ·skip
  refine use s [(1,4),(2,5)] rfl ⟨⟨rfl,rfl,rfl,.inr ⟨rfl,rfl,rfl,rfl⟩⟩,rfl,tv⟩ rfl ⟨za9 (by omega) _ _ _,zai zab _ _ _ _ _,tv⟩ (by simp [SV.below,SA.below]) ⟨rfl,rfl,tv⟩ ?_;rintro b u j n0 m ⟨rfl,rfl,rfl,f,rfl⟩;refine br (fun D=>?_) (fun D=>?_)
  ·have e:p = 7:=od D;obtain ⟨A,n⟩:=B;have k:A = zbt p ⟨false,d,w,h,bits⟩:=by rw [G,if_pos e,← qw (zae [w,h]),i]; exact n.symm
   have a:∀ f,Ct Tryz.prog 197 [.va (.str bits),.va (.ptr ⟨1,0,0,0,0⟩)] F1 (outH f []) 3 (fun o u j n0=>F1 = u ∧ n0 = 4 ∧ o = .ret (.tup []) ∧ ∃ c',j = outN c' A):=fun f=>by
    have:=zr9 O F1 bits [] f (by omega) (js K (by omega));rw [n] at this; exact this
   conv=>whnf
   rcases A with _ | ⟨y,q⟩
   ·refine use (a f) [(1,4),(2,6)] rfl ⟨rfl,rfl,tv⟩ rfl ⟨za9 (by omega) _ _ _,zai zab _ _ _ _ _,tv⟩ (by simp [SV.below,SA.below]) ⟨rfl,zbl zab,tv⟩ ?_;rintro b u j n0 m ⟨rfl,rfl,rfl,L,rfl⟩;exact zdt k E rfl rfl rfl
   ·refine use (a f) [(1,4),(2,6)] rfl ⟨rfl,rfl,tv⟩ rfl ⟨za9 (by omega) _ _ _,zai zab _ _ _ _ _,tv⟩ (by simp [SV.below,SA.below]) ⟨rfl,zbl zab,tv⟩ ?_;rintro b u j n0 m ⟨rfl,rfl,rfl,L,rfl⟩;refine ⟨rfl,by simp,(y :: q).map encB,convR _ (y :: q) _ rfl,y :: q,rfl,?_⟩;exact zdt k E rfl rfl rfl
  ·have e:¬ p = 7:=oe D;rw [if_neg e,jm] at G;exact zdt (by rw [G]; exact i.symm) E rfl rfl rfl
 ·skip
  refine use s [(1,4),(2,5)] rfl ⟨⟨rfl,rfl,rfl,.inr ⟨rfl,rfl,rfl,rfl⟩⟩,rfl,tv⟩ rfl ⟨za9 (by omega) _ _ _,zai zab _ _ _ _ _,tv⟩ (by simp [SV.below,SA.below]) ⟨rfl,rfl,tv⟩ ?_;rintro b u j n0 m ⟨rfl,rfl,rfl,f,rfl⟩;refine br (fun D=>?_) (fun D=>?_)
  ·have e:p = 7:=od D;obtain ⟨A,n⟩:=B;have k:A = zbt p ⟨false,d,w,h,bits⟩:=by rw [G,if_pos e,← qw (zae [w,h]),i]; exact n.symm
   have a:∀ f,Ct Tryz.prog 197 [.va (.str bits),.va (.ptr ⟨1,0,0,0,0⟩)] F1 (outH f (x :: r)) 3 (fun o u j n0=>F1 = u ∧ n0 = 4 ∧ o = .ret (.tup []) ∧ ∃ c',j = outN c' A):=fun f=>by
    have:=zr9 O F1 bits (x :: r) f (by omega) (js K (by omega));rw [n] at this; exact this
   conv=>whnf
   rcases A with _ | ⟨y,q⟩
   ·refine use (a f) [(1,4),(2,6)] rfl ⟨rfl,rfl,tv⟩ rfl ⟨za9 (by omega) _ _ _,zai zab _ _ _ _ _,tv⟩ (by simp [SV.below,SA.below]) ⟨rfl,zbl zab,tv⟩ ?_;rintro b u j n0 m ⟨rfl,rfl,rfl,L,rfl⟩;exact zdt k E rfl rfl rfl
   ·refine use (a f) [(1,4),(2,6)] rfl ⟨rfl,rfl,tv⟩ rfl ⟨za9 (by omega) _ _ _,zai zab _ _ _ _ _,tv⟩ (by simp [SV.below,SA.below]) ⟨rfl,zbl zab,tv⟩ ?_;rintro b u j n0 m ⟨rfl,rfl,rfl,L,rfl⟩;refine ⟨rfl,by simp,(y :: q).map encB,convR _ (y :: q) _ rfl,y :: q,rfl,?_⟩;exact zdt k E rfl rfl rfl
  ·have e:¬ p = 7:=oe D;rw [if_neg e,jm] at G;refine ⟨rfl,by simp,(x :: r).map encB,convR _ (x :: r) _ rfl,x :: r,rfl,?_⟩;exact zdt (by rw [G]; exact i.symm) E rfl rfl rfl
end Go.Proofs.YtfnkamphhpldcaaGreatDoor
