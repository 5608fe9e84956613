import Derived.Test.YtfnkamphhpldcaaGreatDoorK25
import Derived.Test.YtfnkamphhpldcaaGreatDoorK22
import Derived.Test.YtfnkamphhpldcaaGreatDoorK10
import Derived.Test.YtfnkamphhpldcaaGreatDoorK21
set_option maxHeartbeats 64000000
namespace Go.Proofs.YtfnkamphhpldcaaGreatDoor
open Go Sx
theorem zkx {p:Int} {l:List Stp} {v:Val} (a:zbb p l = true) (b:VOK p v):zdb p l (zbt p v) = (zbt p (runS l v),0):=by
 rw [zdb,if_pos a,zv0 (zla a) b]
theorem yb0 {p:Int} {l:List Stp} {v:Val} (a:zbb p l = true) (b:VOK p v):VOK p (runS l v):=zoa (zla a) l v (zg2 a) b
theorem z8k {p:Int} {l:List Stp} (a:zbb p l = true):normS l ∈ nfs p:=z2a (zla a) l (zg2 a)
instance decNums (p:Int):∀ (l acc:List Int),Decidable (zmt p acc l)
 |[],_=>isTrue trivial
 |x :: r,acc=>@instDecidableAnd _ _ inferInstance (decNums p r (acc ++ [x]))
instance decLn (p:Int) (before:List Ln) (x:Ln):Decidable (lnOk p before x):=by
 unfold lnOk
 have:Decidable (∀ y,before.getLast? = some y → cmpL (y.2.take 2) (x.2.take 2) < 0):=by
  cases h:before.getLast? with
  |none=>exact isTrue (fun y hy=>by cases hy)
  |some z=>
   by_cases hz:cmpL (z.2.take 2) (x.2.take 2) < 0
   ·exact isTrue (fun y hy=>by cases hy; exact hz)
   ·exact isFalse (fun hy=>hz (hy z rfl))
 infer_instance
instance decLns (p:Int):∀ (l acc:List Ln),Decidable (lnsOk p acc l)
 |[],_=>isTrue trivial
 |x :: r,acc=>@instDecidableAnd _ _ (decLn p acc x) (decLns p r (acc ++ [x]))
def VOK1 (p:Int) (v:Val):Prop:=v.lost = false ∧
  if p = 8 then v.lines = [] ∧ v.bits = [] ∧ (0 ≤ v.w ∧ v.w ≤ 64) ∧ (0 ≤ v.h ∧ v.h ≤ 64)
  else if 6 ≤ p then v.lines = [] ∧ (0 ≤ v.w ∧ v.w ≤ 32) ∧ (min v.w 1 ≤ v.h ∧ v.h ≤ min v.w 1 * 32) ∧ (if p = 7 then (v.bits.length:Int) = v.w * v.h ∧ v.bits.all (fun b=>b == 48 || b == 49) = true else v.bits = [])
  else v.w = 0 ∧ v.h = 0 ∧ v.bits = [] ∧ v.lines.length ≤ 64 ∧ lnsOk p [] v.lines
instance decVOK (p:Int) (v:Val):Decidable (VOK1 p v):=by unfold VOK1; infer_instance
theorem nilV {p:Int} (a:1 ≤ p ∧ p ≤ 8):zbb p [] = true:=by
 rcases p8 a with rfl | rfl | rfl | rfl | rfl | rfl | rfl | rfl<;>decide
end Go.Proofs.YtfnkamphhpldcaaGreatDoor
namespace Sx
open Go
theorem ydz {P:Program} {c:Code} {b:St} {Q:SE → St → Prop} {X:Type} (i:St) (I:X → St) (g:WfH b.h b.nx → WfT b.t b.nx → Le b i ∧ WP P c i (fun e d=>e = .normal ∧ ∃ x,Le d (I x))) (o:∀ x,Q .normal (I x)):WP P c b Q:=by
 unfold WP;intro C ρ a w D;obtain ⟨g,h1⟩:=g D.wfH D.wfT;unfold Le at g;obtain ⟨j,m⟩:=g C ρ a w D;unfold WP at h1;refine wp_mono (h1 C j a w m) ?_;rintro e p q ⟨u,d,s,⟨rfl,x,f⟩,rfl,l⟩;unfold Le at f;obtain ⟨k,n⟩:=f C s p q l;exact ⟨.normal,I x,k,o x,rfl,n⟩
end Sx
namespace Go.Proofs.YtfnkamphhpldcaaGreatDoor
open Go Sx
set_option maxRecDepth 100000
theorem zgs {P:Program} {F:Fz} {f:FuncId} {args:List SV} {b:Bool} {R:Fz → Prop} (h:Fo P F f args (fun o a=>o = .ret (.va (.bool b)) ∧ R a)):Fo P F f args (fun o a=>o = .ret (.va (.lit b)) ∧ R a):=by
 unfold Fo at *;refine zkg h fun o h n i=>?_
 unfold Cln at *;intro C ρ w e l S p s;obtain ⟨c,k,j,n0,x,⟨m,g,q,y,rfl,d⟩,u,A,r⟩:=i C ρ w e l S p s;exact ⟨.ret (.va (.lit b)),k,j,n0,x,⟨m,g,q,rfl,rfl,d⟩,u,tv,r⟩
end Go.Proofs.YtfnkamphhpldcaaGreatDoor
namespace Go.Proofs.YtfnkamphhpldcaaGreatDoor
open Go Sx
set_option maxRecDepth 100000
theorem zv2 {p:Int} {v:Val} (a:Fits v):(zbt p v).length ≤ 100000000000:=by
 unfold zbt;split
 ·simp
 split
 ·have h1:=za0 [v.w,v.h];have d:=zdf v.bits;rw [qd];simp only [qh,qt] at h1;split
  ·omega
  ·simp only [qt]; omega
 ·have h1:=za0 [(v.lines.length:Int)];have d:=zi9 (p:=p) v.lines (fun x c=>(a.h2 x c).2);have b:=a.h1;rw [qd];simp only [qh,qt] at h1;have e:74545 * v.lines.length ≤ 74545 * 1000:=qbu _ b;omega
def inR (n a b:Int):Bool:=decide (a ≤ n) && decide (n ≤ b)
theorem zv8 (n b a:Int):Pu Tryz.prog 217 [.va (.int .i64 n),.va (.int .i64 b),.va (.int .i64 a)] (.va (.bool (inR n b a))):=by
 intro F;refine fo_of hΘ Tryz.func217 rfl (by decide) _ _ rfl rfl rfl ?_;refine ⟨fun g=>?_,fun g=>?_⟩
 ·refine endPu rfl (Fz.r F) (ob ?_) rfl;unfold inR; rw [g,qab]
 ·refine endPu rfl (Fz.r F) (ob ?_) rfl;unfold inR; rw [g,ji]
theorem zec {n c a:Int} {b:Bool} (h:inR n c a = b) (F:Fz):Fo Tryz.prog F 217 [.va (.int .i64 n),.va (.int .i64 c),.va (.int .i64 a)] (fun o d=>o = .ret (.va (.lit b)) ∧ d = F):=by
 have h1:=zv8 n c a F;rw [h] at h1;exact zgs h1
abbrev docS (a b:SA) (w:Int) (s:List UInt8):List SA:=[a,b,.int .i64 w,.str s]
def hgt (w:Int) (s:List UInt8):Int:=if w < 1 then 0 else (s.length:Int).tdiv w
theorem zky (F:Fz) (a b:SA) (w:Int) (s:List UInt8) (l:s.length ≤ 1000000000000000000):Fo Tryz.prog F 168 [.agg (docS a b w s)] (fun o f=>o = .ret (.va (.int .i64 (hgt w s))) ∧ f = F):=by
 have c:∀ (z:Int) (h:Hp) (nx:Nat),hgt w s = z → lget h 0 = some (.frz F) → Cln 1 (FoK F fun o f=>o = .ret (.va (.int .i64 (hgt w s))) ∧ f = F) (.ret (.va (.int .i64 z))) h nx:=by
  intro z h nx i j;subst i;exact endPu j (Fz.r F) (zah _) rfl
 by_cases d:w < 1
 ·have e:hgt w s = 0:=if_pos d;refine fo_of hΘ Tryz.func168 rfl (by decide) _ _ rfl rfl rfl ?_;refine bri d ?_;exact c 0 _ _ e rfl
 ·have g:w ≠ 0:=by omega
  have k:IntKind.i64.wrap ((s.length:Int).tdiv w) = (s.length:Int).tdiv w:=by
   have h1:0 ≤ (s.length:Int).tdiv w:=Int.tdiv_nonneg (by omega) (by omega)
   have m:(s.length:Int).tdiv w ≤ s.length:=by
    rw [jq (by omega)];exact Int.ediv_le_self _ (by omega)
   exact zaj (by omega) (by omega)
  have e:hgt w s = IntKind.i64.wrap ((s.length:Int).tdiv w):=by rw [k]; exact if_neg d
  refine fo_of hΘ Tryz.func168 rfl (by decide) _ _ rfl rfl rfl ?_;refine brj d ?_;refine ⟨g,?_⟩;exact c _ _ _ e rfl
structure Cel where
 row:Int
 col:Int
 sum:Bool
 value:Int
 top:Int
 left:Int
def encK (c:Cel):List SA:=[.int .i64 c.row,.int .i64 c.col,.bool c.sum,.int .i64 c.value,.int .i64 c.top,.int .i64 c.left]
def celOk (c:Cel):Bool:=(inR c.row 0 31 && inR c.col 0 31) && (if c.sum = true then (decide (c.value = 0) && inR c.top 0 c.row) && inR c.left 0 c.col else (inR c.value (-1000000) 1000000 && decide (c.top = 0)) && decide (c.left = 0))
theorem zz2 (F:Fz) (c:Cel):Fo Tryz.prog F 148 [.agg (encK c)] (fun o A=>o = .ret (.va (.bool (celOk c))) ∧ A = F):=by
 obtain ⟨i,k,j,b,f,left⟩:=c;have E:∃ n u q p s,inR i 0 31 = n ∧ inR k 0 31 = u ∧ inR f 0 i = q ∧ inR left 0 k = p ∧ inR b (-1000000) 1000000 = s:=⟨_,_,_,_,_,rfl,rfl,rfl,rfl,rfl⟩
 obtain ⟨n,u,q,p,s,h1,y,B,w,x⟩:=E;have M:=zec h1 F;have K:=zec y F;have L:=zec B F;have D:=zec w F;have J:=zec x F
 have d:∀ (z:Bool) (a:SA) (h:Hp) (nx:Nat),celOk ⟨i,k,j,b,f,left⟩ = z → atomE (.bool z) (a.ren (resP h)) → lget h 0 = some (.frz F) → Cln 1 (FoK F fun o A=>o = .ret (.va (.bool (celOk ⟨i,k,j,b,f,left⟩))) ∧ A = F) (.ret (.va a)) h nx:=by
  intro z a h nx G O I;subst G;exact endPu I (Fz.r F) O rfl
 have e:celOk ⟨i,k,j,b,f,left⟩ = ((n && u) && (if j = true then (decide (b = 0) && q) && p else (s && decide (f = 0)) && decide (left = 0))):=by
  rw [← h1,← y,← B,← w,← x]; rfl
 clear h1 y B w x;refine fo_of hΘ Tryz.func148 rfl (by decide) _ _ rfl rfl rfl ?_;refine usePu M rfl ⟨rfl,rfl,rfl,tv⟩ rfl ?_;rcases n with _ | _
 ·exact d false _ _ _ e rfl rfl
 ·refine usePu K rfl ⟨rfl,rfl,rfl,tv⟩ rfl ?_;rcases u with _ | _
  ·exact d false _ _ _ e rfl rfl
  ·rcases j with _ | _
   ·refine br (fun g=>absurd g (by show ¬ false = true; decide)) (fun _=>?_);refine usePu J rfl ⟨rfl,rfl,rfl,tv⟩ rfl ?_;rcases s with _ | _
    ·exact d false _ _ _ e rfl rfl
    ·conv=>whnf
     by_cases m:f = 0
     ·refine ⟨fun _=>?_,fun g=>absurd m (oe g)⟩;exact d (decide (left = 0)) _ _ _ (by rw [e,decide_eq_true m]; simp) rfl rfl
     ·refine ⟨fun g=>absurd (od g) m,fun _=>?_⟩;exact d false _ _ _ (by rw [e,decide_eq_false m]; simp) rfl rfl
   ·refine br (fun _=>?_) (fun g=>absurd g (by show ¬ true = false; decide));conv=>whnf
    by_cases l:b = 0
    ·refine ⟨fun _=>?_,fun g=>absurd l (oe g)⟩;refine usePu L rfl ⟨rfl,rfl,rfl,tv⟩ rfl ?_;rcases q with _ | _
     ·exact d false _ _ _ (by rw [e,decide_eq_true l]; rfl) rfl rfl
     ·refine usePu D rfl ⟨rfl,rfl,rfl,tv⟩ rfl ?_;exact d p _ _ _ (by rw [e,decide_eq_true l]; simp) rfl rfl
    ·refine ⟨fun g=>absurd (od g) l,fun _=>?_⟩;exact d false _ _ _ (by rw [e,decide_eq_false l]; simp) rfl rfl
end Go.Proofs.YtfnkamphhpldcaaGreatDoor
namespace Go.Proofs.YtfnkamphhpldcaaGreatDoor
open Go Go.RowKit Sx
theorem ybr (w:World):PredAtRunes Tryz.prog 215 #[] badR w:=by
 intro W x hx hb;unfold FnGives
 go_enter Tryz.func215,Tryz.ntmps215
 by_cases h1:32 ≤ x
 ·by_cases h2:x ≤ 126
  ·go_wp2
   all_goals go_ret
   all_goals refine ⟨?_,0,rfl⟩
   all_goals (simp [badR,h1,h2]; try omega)
  ·go_wp2
   all_goals go_ret
   all_goals refine ⟨?_,0,rfl⟩
   all_goals (simp [badR,h1,h2]; try omega)
 ·go_wp2
  all_goals go_ret
  all_goals refine ⟨?_,0,rfl⟩
  all_goals (simp [badR,h1]; try omega)
theorem ifun (F:Fz) (s:List UInt8) (d:s.length ≤ 1000000000000000000):Fo Tryz.prog F 216 [.va (.str s),.va (.fn (.func 215) [])] (fun o b=>(∃ z,o = .ret (.va (.int .i64 z)) ∧ decide (0 ≤ z) = s.any badC) ∧ b = F):=by
 refine zb9 (zgo (F:=F) (args:=[.va (.str s),.va (.fn (.func 215) [])]) (out:=.ret (.va (.int .i64 (Lib.idxFunc badR true ⟨s.toArray⟩)))) (vs:=[.string ⟨s.toArray⟩,.func (.func 215) #[] #[]]) (Sx.enters_of Tryz.func216 rfl (by decide)) rfl (by
   rintro ρ a h
   match a,h with
   |[v,u],h=>rw [h.1,h.2.1]; rfl) (.returned (.int .i64 (Lib.idxFunc badR true ⟨s.toArray⟩))) (fun ρ=>⟨_,rfl,rfl⟩) (fun C ρ w S=>by
   have h:=Any.strings_IndexFunc_runes { Tryz.laysGw17 with } 215 #[] (enters_of Tryz.func215 (by kernel_rfl) rfl) badR ⟨s.toArray⟩ w (ybr w);refine h.mono fun e f ⟨h1,c⟩=>⟨?_,c⟩
   rw [h1])) fun o b h=>⟨⟨_,h.1,by rw [Lib.idxFunc,zrx s _ 0 (by show s.length ≤ 0 + s.toArray.size; simp),qaf]⟩,h.2⟩
end Go.Proofs.YtfnkamphhpldcaaGreatDoor
namespace Go.Proofs.YtfnkamphhpldcaaGreatDoor
open Go Sx
set_option maxRecDepth 100000
abbrev DLn:=List UInt8 × Int
def encN (l:DLn):List SA:=[.str l.1,.int .i64 l.2]
def dlnOk (l:DLn):Bool:=(decide (l.1.length ≤ 80) && !l.1.any badC) && inR l.2 0 7
theorem z0m (F:Fz) (l:DLn):Fo Tryz.prog F 146 [.agg (encN l)] (fun o k=>o = .ret (.va (.bool (dlnOk l))) ∧ k = F):=by
 obtain ⟨t,m⟩:=l;have s:∃ p n,t.any badC = p ∧ inR m 0 7 = n:=⟨_,_,rfl,rfl⟩
 obtain ⟨p,n,h1,q⟩:=s;have w:=zec q F;have e:dlnOk (t,m) = ((decide (t.length ≤ 80) && !b1) && n):=by rw [← h1,← q]; rfl
 have i:=fun b:t.length ≤ 80=>ifun F t (js b (by decide))
 rw [h1] at i
 have f:∀ (z:Bool) (a:SA) (h:Hp) (nx:Nat),dlnOk (t,m) = z → atomE (.bool z) (a.ren (resP h)) → lget h 0 = some (.frz F) → Cln 1 (FoK F fun o k=>o = .ret (.va (.bool (dlnOk (t,m)))) ∧ k = F) (.ret (.va a)) h nx:=by
  intro z a h nx j x u;subst j;exact endPu u (Fz.r F) x rfl
 clear h1 q;by_cases b:t.length ≤ 80
 ·have c:(t.length:Int) ≤ 80:=by omega
  refine fo_of hΘ Tryz.func146 rfl (by decide) _ _ rfl rfl rfl ?_;refine ⟨fun _=>?_,fun g=>absurd c (oe g)⟩;refine useFo (i b) rfl ⟨rfl,rfl,tv⟩ rfl ?_;rintro _ k _ ⟨⟨z,rfl,j⟩,rfl⟩;rcases p with _ | _
  ·have d:z < 0:=by
    have:=oe j; omega
   refine ⟨fun _=>?_,fun g=>absurd d (oe g)⟩;refine usePu w rfl ⟨rfl,rfl,rfl,tv⟩ rfl ?_;exact f n _ _ _ (by rw [e,decide_eq_true b]; simp) rfl rfl
  ·have d:¬ z < 0:=by
    have:=od j; omega
   refine ⟨fun g=>absurd (od g) d,fun _=>?_⟩;exact f false _ _ _ (by rw [e]; simp) rfl rfl
 ·have c:¬ (t.length:Int) ≤ 80:=by omega
  refine fo_of hΘ Tryz.func146 rfl (by decide) _ _ rfl rfl rfl ?_;refine ⟨fun g=>absurd (od g) c,fun _=>?_⟩;exact f false _ _ _ (by rw [e,decide_eq_false b]; simp) rfl rfl
theorem z01 {n a b:Int}:inR n a b = true ↔ a ≤ n ∧ n ≤ b:=by
 unfold inR; simp
def bitK (b:UInt8):Bool:=b == 48 || b == 49
theorem zagg {l:List SA} {μ:Mu} (h:l.all SA.z = true) (b:∀ k,μ 0 k = (0,k)):svE (.agg l) (SV.ren μ (.agg l)):=by
 have a:(SV.agg l).z = true:=h;rw [SV.ren_id (.inl a) b]; exact zis _
def rasOk (w:Int) (s:List UInt8):Bool:=(inR w 0 32 && s.all bitK) && ((decide (w = 0) && (s == [])) || ((decide (0 < w) && decide ((s.length:Int) = w * hgt w s)) && inR (hgt w s) 1 32))
theorem zra (F:Fz) (a b:SA) (w:Int) (s:List UInt8) (T:s.length ≤ 70000) (Q:a.z = true) (Z:b.z = true):Fo Tryz.prog F 149 [.agg (docS a b w s)] (fun o B=>o = .ret (.va (.bool (rasOk w s))) ∧ B = F):=by
 have q:(docS a b w s).all SA.z = true:=by
  show (a.z && (b.z && (true && (true && true)))) = true;rw [Q,Z]; rfl
 have y:([SV.agg (docS a b w s)].all SV.z) = true:=by
  show ((docS a b w s).all SA.z && true) = true;rw [q]; rfl
 have J:=tfun F s T;have A:=zky F a b w s (by omega);have S:∃ n E u,inR w 0 32 = n ∧ s.all bitK = E ∧ inR (hgt w s) 1 32 = u:=⟨_,_,_,rfl,rfl,rfl⟩
 obtain ⟨n,E,u,h1,I,K⟩:=S;have O:=zec h1 F;have V:=zec K F
 have e:rasOk w s = ((n && E) && ((decide (w = 0) && (s == [])) || ((decide (0 < w) && decide ((s.length:Int) = w * hgt w s)) && u))):=by
  unfold rasOk; rw [h1,I,K]
 have W:n = true → 0 ≤ w ∧ w ≤ 32:=fun h=>z01.1 (h1.trans h)
 have c:∀ (z:Bool) (a:SA) (h:Hp) (nx:Nat),rasOk w s = z → atomE (.bool z) (a.ren (resP h)) → lget h 0 = some (.frz F) → Cln 1 (FoK F fun o B=>o = .ret (.va (.bool (rasOk w s))) ∧ B = F) (.ret (.va a)) h nx:=by
  intro z a h nx q X U;subst q;exact endPu U (Fz.r F) X rfl
 clear h1 K;rcases n with _ | _
 ·refine fo_of hΘ Tryz.func149 rfl (by decide) _ _ rfl rfl rfl ?_;refine usePu O rfl ⟨rfl,rfl,rfl,tv⟩ rfl ?_;exact c false _ _ _ (by rw [e]; simp) rfl rfl
 have R:=W rfl;refine fo_of hΘ Tryz.func149 rfl (by decide) _ _ rfl rfl rfl ?_;refine usePu O rfl ⟨rfl,rfl,rfl,tv⟩ rfl ?_;refine useFo J rfl ⟨rfl,rfl,tv⟩ rfl ?_;rintro _ B _ ⟨rfl,r,rfl,x⟩;rcases E with _ | _
 ·have l:(!(r == [])) = true:=by
   have G:¬ r = []:=fun h=>by
    have L:s.all bitK = true:=x.1 h;rw [I] at L; cases L
   simpa using G
  refine br (fun _=>?_) (fun g=>absurd l (by rw [g]; simp));exact c false _ _ _ (by rw [e]; simp) rfl rfl
 have l:(!(r == [])) = false:=by
  have G:r = []:=x.2 I;rw [G]; rfl
 refine br (fun g=>absurd g (by rw [l]; simp)) (fun _=>?_);refine drawP hΘ mixed (lk [0,1,2,3,4,5,6,7,8,9,10,11,12,13,14,15,16,17,18,19,20,21,22,23] (.alt 24 (lk [25,26,27,28,29] (.alt 30 (.alt 31 (lk [32,33,34] .done) .nil) .nil)) .nil)) [1] (by kernel_rfl) ?_;refine ⟨rfl,?_⟩;conv=>whnf
 by_cases f:w = 0
 ·refine ⟨fun _=>?_,fun g=>absurd f (oe g)⟩;refine ⟨rfl,?_⟩;conv=>whnf
  by_cases m:s = []
  ·have d:(s == []) = true:=by rw [m]; rfl
   refine ⟨fun g=>absurd g (by rw [d]; simp),fun _=>?_⟩;exact c true _ _ _ (by rw [e,d,decide_eq_true f]; rfl) rfl rfl
  ·have d:(s == []) = false:=by simpa using m
   have p:¬ 0 < w:=by omega
   refine ⟨fun _=>?_,fun g=>absurd g (by rw [d]; simp)⟩;refine ⟨rfl,fun g=>absurd (od g) p,fun _=>?_⟩;exact c false _ _ _ (by rw [e,d,decide_eq_false p]; simp) rfl rfl
 ·have i:0 < w:=by omega
  have j:IntKind.i64.wrap (w * hgt w s) = w * hgt w s:=by
   have M:0 ≤ hgt w s:=by
    unfold hgt; split
    ·omega
    ·exact Int.tdiv_nonneg (by omega) (by omega)
   have Y:hgt w s ≤ 70000:=by
    unfold hgt; split
    ·omega
    ·rw [jq (by omega)];exact qau (Int.ediv_le_self _ (by omega)) (by omega)
   have h8:w * hgt w s ≤ 32 * 70000:=qbn R.2 Y M (by omega);have h9:0 ≤ w * hgt w s:=qct (by omega) M;exact zaj (by omega) (by omega)
  have e':rasOk w s = (decide ((s.length:Int) = IntKind.i64.wrap (w * hgt w s)) && u):=by
   rw [e,j,decide_eq_true i,decide_eq_false f]; simp
  clear j;refine ⟨fun g=>absurd (od g) f,fun _=>?_⟩;refine ⟨rfl,fun _=>?_,fun g=>absurd i (oe g)⟩;refine ⟨rfl,rfl,rfl,?_⟩;refine usePu A rfl ⟨zagg q (fun k=>rfl),tv⟩ y ?_;refine ⟨Fz.r F,rfl,?_⟩;conv=>whnf
  by_cases D:(s.length:Int) = IntKind.i64.wrap (w * hgt w s)
  ·refine ⟨fun _=>?_,fun g=>absurd D (oe g)⟩;rw [decide_eq_true D,qab] at e';refine ⟨rfl,?_⟩;refine usePu A rfl ⟨zagg q (fun k=>rfl),tv⟩ y ?_;refine ⟨Fz.r F,rfl,?_⟩;refine usePu V rfl ⟨rfl,rfl,rfl,tv⟩ rfl ?_;refine ⟨Fz.r F,rfl,?_⟩;exact c u _ _ _ e' rfl rfl
  ·refine ⟨fun g=>absurd (od g) D,fun _=>?_⟩;rw [decide_eq_false D,ji] at e';exact c false _ _ _ e' rfl rfl
def idxG {α:Type} (q:α → Bool):List α → Nat → Int
 |[],_=>-1
 |x :: r,n=>if q x = false then n else idxG q r (n + 1)
theorem zle {α:Type} (q:α → Bool) (l:List α) (k:Nat) (h:k < l.length):idxG q (l.drop k) k = if q l[k] = false then (k:Int) else idxG q (l.drop (k + 1)) (k + 1):=by
 rw [qx h]; rfl
theorem zux {α:Type} (q:α → Bool):∀ (l:List α) (n:Nat),(0 ≤ idxG q l n) ↔ l.all q = false
 |[],n=>by simp [idxG]
 |x :: r,n=>by
  simp only [idxG,qbw];split
  ·rename_i h; simp [h]
  ·rename_i h;have:q x = true:=by simpa using h
   rw [zux q r (n + 1),this]; simp
theorem zsz {α:Type} (q:α → Bool) (l:List α):(!decide (0 ≤ idxG q l 0)) = l.all q:=by
 have:=zux q l 0;cases h:l.all q with
 |true=>
  rw [h] at this;have b:¬ (0 ≤ idxG q l 0):=fun a=>by have:=this.1 a; cases this
  rw [decide_eq_false b]; rfl
 |false=>rw [h] at this; rw [decide_eq_true (this.2 rfl)]; rfl
theorem al1N (F:Fz) (x:DLn) (a:Nat) (e:True) (b:F a = some (.cells 224 [.fn (.func 146) []])):Fo Tryz.prog F 214 [.agg (encN x),.va (.ptr (fp a))] (fun o c=>o = .ret (.va (.bool (!dlnOk x))) ∧ c = F):=by
 have d:=z0m F x;refine fo_of hΘ Tryz.func214 rfl (by decide) _ _ rfl rfl rfl ?_;refine ⟨_,b,?_⟩;refine usePu d rfl (zaa _) rfl ?_;exact endPu rfl (Fz.r F) rfl rfl
theorem al2N (F:Fz) (Q:SA) (l:List DLn) (y:Nat) (Z:Sl F 148 2 encN Q l) (hl:l.length < 1000000) (M:∀ x ∈ l,True) (V:F y = some (.cells 224 [.fn (.func 146) []])) :
  Fo Tryz.prog F 254 [.va Q,.va (.fn (.func 214) [fp y])] (fun o G=>o = .ret (.va (.int .i64 (idxG dlnOk l 0))) ∧ G = F):=by
 have n:∀ (x:Int) (h:Hp) (nx:Nat),idxG dlnOk l 0 = x → lget h 0 = some (.frz F) →
   Cln 1 (FoK F fun o G=>o = .ret (.va (.int .i64 (idxG dlnOk l 0))) ∧ G = F) (.ret (.va (.int .i64 x))) h nx:=by
  intro x h nx U T;exact endPu T (Fz.r F) (oi U) rfl
 obtain ⟨W,R,J,Y,E,aa,rfl,f,D,S,K⟩:=Z;refine fo_of hΘ Tryz.func254 rfl (by decide) _ _ rfl rfl rfl ?_
 refine zam hΘ (X:={ k:Nat // k ≤ l.length ∧ idxG dlnOk l 0 = idxG dlnOk (l.drop k) k }) (fun k=>[(8,.va (.int .i64 k.1))]) [4,5,9,10,11,12,13,14,15,16,17,18] (fz fun _=>F) 1 (fun k=>l.length - k.1) ⟨0,by simp⟩
  (fun s I=>le0 s I rfl (Fz.r F) rfl ⟨rfl,tv⟩) ?_
 rintro ⟨k,O,d⟩ s I;replace O:k ≤ l.length:=O;replace d:idxG dlnOk l 0 = idxG dlnOk (l.drop k) k:=d;by_cases g:k < l.length
 ·have q:(k:Int) < (l.length:Nat):=by omega
  have i:0 ≤ (k:Int) ∧ (k:Int) < (l.length:Nat):=by omega
  have B:∃ x,l[k] = x:=⟨_,rfl⟩
  obtain ⟨x,c⟩:=B;have w:E[J + (k:Int).toNat]? = some (encN x):=by rw [← c]; exact Sl.at K g
  have L:=M _ (jp g)
  try rw [c] at L
  have a:=al1N F x y (trivial) V;rw [zle _ l k g,c] at d;have u:k + 1 ≤ l.length:=g;have m:l.length - (k + 1) < l.length - k:=by omega
  have j:k < 4611686018427387904:=by omega
  have e:∃ b,dlnOk x = b:=⟨_,rfl⟩
  obtain ⟨b,e⟩:=e;rw [e] at d a;clear M L c;refine bri q ?_;refine ⟨Sl.lt f g,i,_,D (Sl.lt f g),_,w,?_⟩;refine usePu a rfl (zaa _) rfl ?_;rcases b with _ | _
  ·refine br (fun _=>?_) (fun A=>absurd A (by decide));exact n _ _ _ (d.trans (if_pos rfl)) rfl
  ·refine br (fun A=>absurd A (by decide)) (fun _=>?_);rw [if_neg (by decide)] at d;exact ⟨⟨k + 1,u,d⟩,m,lr0 s I rfl (Fz.r F) rfl ⟨cnt j,tv⟩⟩
 ·have p:¬ (k:Int) < (l.length:Nat):=by omega
  rw [yg (by omega)] at d;refine brj p ?_;exact n _ _ _ d rfl
theorem al3N (F:Fz) (b:SA) (l:List DLn) (a:Nat) (c:Sl F 148 2 encN b l) (g:l.length < 1000000) (d:∀ x ∈ l,True) (i:F a = some (.cells 224 [.fn (.func 146) []])) :
  Fo Tryz.prog F 213 [.va b,.va (.fn (.func 214) [fp a])] (fun o n=>o = .ret (.va (.bool (decide (0 ≤ idxG dlnOk l 0)))) ∧ n = F):=by
 have h:=al2N F b l a c g d i;obtain ⟨q,e,p,s,m,w,rfl,k,j,f,u⟩:=c;refine fo_of hΘ Tryz.func213 rfl (by decide) _ _ rfl rfl rfl ?_;refine usePu h rfl (zaa _) rfl ?_;exact endPu rfl (Fz.r F) (ob rfl) rfl
theorem allN (F:Fz) (c:SA) (l:List DLn) (g:Sl F 148 2 encN c l) (n:l.length < 1000000) (i:∀ x ∈ l,True) :
  Fo Tryz.prog F 145 [.va c,.va (.fn (.func 146) [])] (fun o a=>o = .ret (.va (.bool (l.all dlnOk))) ∧ a = F):=by
 have h:=fun a (d:Fz.le F a) b=>al3N a c l b (g.mono d) n i
 have e:=zsz dlnOk l;obtain ⟨y,j,w,A,u,D,rfl,s,q,k,B⟩:=g;refine fo_of hΘ Tryz.func145 rfl (by decide) _ _ rfl rfl rfl ?_;refine za7 1 (fun _=>.cells 224 [.fn (.func 146) []]) rfl rfl rfl (fun _ _=>rfl) (fun _ _=>SB.bB_ok rfl) ?_;intro b m f p;refine usePu (h m f (b 0) (p 0 rfl)) rfl (zaa _) rfl ?_;exact endPu rfl f (ob e.symm) rfl
theorem al1K (F:Fz) (x:Cel) (a:Nat) (e:True) (b:F a = some (.cells 226 [.fn (.func 148) []])):Fo Tryz.prog F 219 [.agg (encK x),.va (.ptr (fp a))] (fun o c=>o = .ret (.va (.bool (!celOk x))) ∧ c = F):=by
 have d:=zz2 F x;refine fo_of hΘ Tryz.func219 rfl (by decide) _ _ rfl rfl rfl ?_;refine ⟨_,b,?_⟩;refine usePu d rfl (zaa _) rfl ?_;exact endPu rfl (Fz.r F) rfl rfl
theorem al2K (F:Fz) (Q:SA) (l:List Cel) (y:Nat) (Z:Sl F 151 6 encK Q l) (hl:l.length < 1000000) (M:∀ x ∈ l,True) (V:F y = some (.cells 226 [.fn (.func 148) []])) :
  Fo Tryz.prog F 220 [.va Q,.va (.fn (.func 219) [fp y])] (fun o G=>o = .ret (.va (.int .i64 (idxG celOk l 0))) ∧ G = F):=by
 have n:∀ (x:Int) (h:Hp) (nx:Nat),idxG celOk l 0 = x → lget h 0 = some (.frz F) →
   Cln 1 (FoK F fun o G=>o = .ret (.va (.int .i64 (idxG celOk l 0))) ∧ G = F) (.ret (.va (.int .i64 x))) h nx:=by
  intro x h nx U T;exact endPu T (Fz.r F) (oi U) rfl
 obtain ⟨W,R,J,Y,E,aa,rfl,f,D,S,K⟩:=Z;refine fo_of hΘ Tryz.func220 rfl (by decide) _ _ rfl rfl rfl ?_
 refine zam hΘ (X:={ k:Nat // k ≤ l.length ∧ idxG celOk l 0 = idxG celOk (l.drop k) k }) (fun k=>[(8,.va (.int .i64 k.1))]) [4,5,9,10,11,12,13,14,15,16,17,18] (fz fun _=>F) 1 (fun k=>l.length - k.1) ⟨0,by simp⟩
  (fun s I=>le0 s I rfl (Fz.r F) rfl ⟨rfl,tv⟩) ?_
 rintro ⟨k,O,d⟩ s I;replace O:k ≤ l.length:=O;replace d:idxG celOk l 0 = idxG celOk (l.drop k) k:=d;by_cases g:k < l.length
 ·have q:(k:Int) < (l.length:Nat):=by omega
  have i:0 ≤ (k:Int) ∧ (k:Int) < (l.length:Nat):=by omega
  have B:∃ x,l[k] = x:=⟨_,rfl⟩
  obtain ⟨x,c⟩:=B;have w:E[J + (k:Int).toNat]? = some (encK x):=by rw [← c]; exact Sl.at K g
  have L:=M _ (jp g)
  try rw [c] at L
  have a:=al1K F x y (trivial) V;rw [zle _ l k g,c] at d;have u:k + 1 ≤ l.length:=g;have m:l.length - (k + 1) < l.length - k:=by omega
  have j:k < 4611686018427387904:=by omega
  have e:∃ b,celOk x = b:=⟨_,rfl⟩
  obtain ⟨b,e⟩:=e;rw [e] at d a;clear M L c;refine bri q ?_;refine ⟨Sl.lt f g,i,_,D (Sl.lt f g),_,w,?_⟩;refine usePu a rfl (zaa _) rfl ?_;rcases b with _ | _
  ·refine br (fun _=>?_) (fun A=>absurd A (by decide));exact n _ _ _ (d.trans (if_pos rfl)) rfl
  ·refine br (fun A=>absurd A (by decide)) (fun _=>?_);rw [if_neg (by decide)] at d;exact ⟨⟨k + 1,u,d⟩,m,lr0 s I rfl (Fz.r F) rfl ⟨cnt j,tv⟩⟩
 ·have p:¬ (k:Int) < (l.length:Nat):=by omega
  rw [yg (by omega)] at d;refine brj p ?_;exact n _ _ _ d rfl
theorem al3K (F:Fz) (b:SA) (l:List Cel) (a:Nat) (c:Sl F 151 6 encK b l) (g:l.length < 1000000) (d:∀ x ∈ l,True) (i:F a = some (.cells 226 [.fn (.func 148) []])) :
  Fo Tryz.prog F 218 [.va b,.va (.fn (.func 219) [fp a])] (fun o n=>o = .ret (.va (.bool (decide (0 ≤ idxG celOk l 0)))) ∧ n = F):=by
 have h:=al2K F b l a c g d i;obtain ⟨q,e,p,s,m,w,rfl,k,j,f,u⟩:=c;refine fo_of hΘ Tryz.func218 rfl (by decide) _ _ rfl rfl rfl ?_;refine usePu h rfl (zaa _) rfl ?_;exact endPu rfl (Fz.r F) (ob rfl) rfl
theorem allK (F:Fz) (c:SA) (l:List Cel) (g:Sl F 151 6 encK c l) (n:l.length < 1000000) (i:∀ x ∈ l,True) :
  Fo Tryz.prog F 147 [.va c,.va (.fn (.func 148) [])] (fun o a=>o = .ret (.va (.bool (l.all celOk))) ∧ a = F):=by
 have h:=fun a (d:Fz.le F a) b=>al3K a c l b (g.mono d) n i
 have e:=zsz celOk l;obtain ⟨y,j,w,A,u,D,rfl,s,q,k,B⟩:=g;refine fo_of hΘ Tryz.func147 rfl (by decide) _ _ rfl rfl rfl ?_;refine za7 1 (fun _=>.cells 226 [.fn (.func 148) []]) rfl rfl rfl (fun _ _=>rfl) (fun _ _=>SB.bB_ok rfl) ?_;intro b m f p;refine usePu (h m f (b 0) (p 0 rfl)) rfl (zaa _) rfl ?_;exact endPu rfl f (ob e.symm) rfl
def ltC (a b:Cel):Bool:=decide (a.row < b.row) || (decide (a.row = b.row) && decide (a.col < b.col))
def ascF:List Cel → Bool
 |a :: b :: r=>ltC a b && ascF (b :: r)
 |_=>true
theorem zk3:∀ (l:List Cel) (a b:Cel),ascF (l ++ [a,b]) = (ascF (l ++ [a]) && ltC a b)
 |[],a,b=>by simp [ascF]
 |[x],a,b=>by simp [ascF,Bool.and_assoc]
 |x :: y :: r,a,b=>by
  have ih:=zk3 (y :: r) a b;show (ltC x y && ascF ((y :: r) ++ [a,b])) = ((ltC x y && ascF ((y :: r) ++ [a])) && ltC a b);rw [ih,Bool.and_assoc]
theorem zxg {l:List Cel} {k:Nat} (h1:1 ≤ k) (g:k < l.length) {a b:Cel} (d:l[k - 1] = a) (c:l[k] = b):ascF (l.take (k + 1)) = (ascF (l.take k) && ltC a b):=by
 obtain ⟨m,rfl⟩:∃ m,k = m + 1:=⟨k - 1,by omega⟩
 rw [qg g,qg (show m < l.length by omega),ql,c];have e:l[m] = a:=d;rw [e];exact zk3 _ _ _
structure Dc where
 lines:List DLn
 cells:List Cel
 w:Int
 bits:List UInt8
def docOk (d:Dc):Bool:=((((decide (d.lines.length ≤ 64) && decide (d.cells.length ≤ 64)) && ascF d.cells) && d.lines.all dlnOk) && d.cells.all celOk) && rasOk d.w d.bits
def docE (a b:SA) (w:Int) (s:List UInt8):Ent:=.one (.cells 41 (docS a b w s))
theorem zd7 {n:Nat} {a b:SA} {w:Int} {s:List UInt8} (e:a.below n) (d:b.below n):(docE a b w s).below n:=by
 show ∀ x ∈ _,SA.below n x;intro x c;simp only [qj,qs,or_false] at c;rcases c with rfl | rfl | rfl | rfl
 ·exact e
 ·exact d
 ·trivial
 ·trivial
theorem zcz (F:Fz) (sa sb:SA) (d:Dc) (S:Sl F 148 2 encN sa d.lines) (hb:Sl F 151 6 encK sb d.cells) (hl:d.lines.length ≤ 1000) (hc:d.cells.length ≤ 1000) (hs:d.bits.length ≤ 70000) :
  Fo Tryz.prog F 85 [.agg (docS sa sb d.w d.bits)] (fun o F'=>o = .ret (.va (.bool (docOk d))) ∧ F' = F):=by
 obtain ⟨L,K,w,s⟩:=d;replace S:Sl F 148 2 encN sa L:=S;replace hb:Sl F 151 6 encK sb K:=hb;replace hl:L.length ≤ 1000:=hl;replace hc:K.length ≤ 1000:=hc;have aL:=allN F sa L S (by omega) (fun _ _=>trivial);have aK:=allK F sb K hb (by omega) (fun _ _=>trivial);obtain ⟨Z,aa,Y,V,av,aw,rfl,ap,ao,an,aq⟩:=S;obtain ⟨ae,ab,A,af,n,am,rfl,q,T,au,U⟩:=hb;have iR:=zra F (.slice Z 0 aa Y 2 L.length V) (.slice ae 0 ab A 6 K.length af) w s hs rfl rfl
 have p:∀ (z:Bool) (a:SA) (h:Hp) (nx:Nat),docOk ⟨L,K,w,s⟩ = z → atomE (.bool z) (a.ren (resP h)) → lget h 0 = some (.frz F) → Cln 1 (FoK F fun o F'=>o = .ret (.va (.bool (docOk ⟨L,K,w,s⟩))) ∧ F' = F) (.ret (.va a)) h nx:=by
  intro z a h nx hz S h0;subst hz;exact endPu h0 (Fz.r F) S rfl
 have J:ascF (K.take 1) = true:=by
  cases K with
  |nil=>rfl
  |cons x r=>rfl
 refine fo_of hΘ Tryz.func85 rfl (by decide) _ _ rfl rfl rfl ?_
 refine zam hΘ (X:={ y:Nat × Bool // 1 ≤ y.1 ∧ (y.1 = 1 ∨ y.1 ≤ K.length) ∧ y.2 = ascF (K.take y.1) }) (fun y=>[(3,.va (.bool y.1.2)),(4,.va (.int .i64 y.1.1))]) [5,6,7,8,9,10,11,12,13,14,15,16,17,18,19,20,21,22,23,24,25,26,27,28,29,30,31,32,33,34,35,36,37,38,39,40,41,42,43,44,45,46]
  (fun _=>[(0,.frz F),(1,docE (.slice Z 0 aa Y 2 L.length V) (.slice ae 0 ab A 6 K.length af) w s)]) 2 (fun y=>K.length - y.1.1) ⟨(1,true),by omega,by omega,J.symm⟩
  (fun R Q=>leI [] R Q rfl ⟨tv,zd7 (.inr (by omega)) (.inr (by omega)),tv⟩ ⟨rfl,rfl,tv⟩ ⟨Fz.r F,rfl,tv⟩) ?_
 rintro ⟨⟨k,asc⟩,I,hk,f⟩ R Q;replace I:1 ≤ k:=I;replace hk:k = 1 ∨ k ≤ K.length:=hk;replace f:asc = ascF (K.take k):=f;by_cases g:k < K.length
 ·have g0:k < K.length:=g;have gp:k - 1 < K.length:=by omega
  have ai:(k:Int) < (K.length:Nat):=by omega
  have al:∃ a b,K[k - 1] = a ∧ K[k] = b:=⟨_,_,rfl,rfl⟩
  obtain ⟨a,b,D,O⟩:=al
  have W:n[A + (IntKind.i64.wrap ((k:Int) - 1)).toNat]? = some (encK a):=by
   rw [zaj (by omega) (by omega),show ((k:Int) - 1).toNat = ((k - 1:Nat):Int).toNat by omega,← D]; exact Sl.at U gp
  have ad:n[A + (k:Int).toNat]? = some (encK b):=by rw [← O]; exact Sl.at U g
  have ak:0 ≤ IntKind.i64.wrap ((k:Int) - 1) ∧ IntKind.i64.wrap ((k:Int) - 1) < (K.length:Nat):=by rw [zaj (by omega) (by omega)]; omega
  have ah:0 ≤ (k:Int) ∧ (k:Int) < (K.length:Nat):=by omega
  have j:=zxg I g D O;rw [← f] at j;have i:1 ≤ k + 1 ∧ (k + 1 = 1 ∨ k + 1 ≤ K.length):=by omega
  have m:K.length - (k + 1) < K.length - k:=by omega
  have l:k < 4611686018427387904:=by omega
  obtain ⟨ar,ac,a2,a3,a4,a5⟩:=a;obtain ⟨u,bc,b2,b3,b4,b5⟩:=b;replace j:ascF (K.take (k + 1)) = (asc && (decide (ar < u) || (decide (ar = u) && decide (ac < bc)))):=j;clear f D O;refine bri ai ?_;refine drawP hΘ mixed (lk [0,1,2,3,4,5,6,7,8,9,10] (.alt 11 (.alt 12 (.alt 13 (.last 14 .done) .nil) .nil) (.alt 12 (.alt 11 (.alt 13 (.last 14 .done) .nil) .nil) .nil))) [1] (by kernel_rfl) ?_;refine ⟨rfl,Sl.lt q g0,ak,rfl,_,T (Sl.lt q g0),_,W,rfl,Sl.lt q g0,ah,rfl,_,T (Sl.lt q g0),_,ad,?_,?_⟩
  all_goals
   refine ⟨Fz.r F,rfl,Fz.r F,rfl,Fz.r F,rfl,?_⟩;rcases asc with _ | _
   ·refine ⟨fun c=>absurd c (by show ¬ false = true; decide),fun _=>?_⟩;exact ⟨⟨(k + 1,false),i.1,i.2,by rw [j]; rfl⟩,m,leR [] R Q rfl ⟨tv,zd7 (.inr (by omega)) (.inr (by omega)),tv⟩ ⟨rfl,cnt l,tv⟩ ⟨Fz.r F,rfl,tv⟩⟩
   ·refine ⟨fun _=>?_,fun c=>absurd c (by show ¬ true = false; decide)⟩;conv=>whnf
    by_cases h1:ar < u
    ·refine ⟨fun c=>absurd h1 (oe c),fun _=>?_⟩;exact ⟨⟨(k + 1,true),i.1,i.2,by rw [j,decide_eq_true h1]; rfl⟩,m,leR [] R Q rfl ⟨tv,zd7 (.inr (by omega)) (.inr (by omega)),tv⟩ ⟨rfl,cnt l,tv⟩ ⟨Fz.r F,rfl,tv⟩⟩
    ·refine ⟨fun _=>?_,fun c=>absurd (od c) h1⟩;conv=>whnf
     by_cases h2:ar = u
     ·refine ⟨fun _=>?_,fun c=>absurd h2 (oe c)⟩;exact ⟨⟨(k + 1,decide (ac < bc)),i.1,i.2,by rw [j,decide_eq_false h1,decide_eq_true h2]; simp⟩,m,leR [] R Q rfl ⟨tv,zd7 (.inr (by omega)) (.inr (by omega)),tv⟩ ⟨rfl,cnt l,tv⟩ ⟨Fz.r F,rfl,tv⟩⟩
     ·refine ⟨fun c=>absurd (od c) h2,fun _=>?_⟩;exact ⟨⟨(k + 1,false),i.1,i.2,by rw [j,decide_eq_false h1,decide_eq_false h2]; rfl⟩,m,leR [] R Q rfl ⟨tv,zd7 (.inr (by omega)) (.inr (by omega)),tv⟩ ⟨rfl,cnt l,tv⟩ ⟨Fz.r F,rfl,tv⟩⟩
 ·have ag:¬ (k:Int) < (K.length:Nat):=by omega
  have B:asc = ascF K:=by
   rw [f,qn (by omega)]
  have e:docOk ⟨L,K,w,s⟩ = (((((decide (L.length ≤ 64) && decide (K.length ≤ 64)) && asc) && L.all dlnOk) && K.all celOk) && rasOk w s):=by rw [B]; rfl
  clear f B;have aj:∃ bL bK,L.all dlnOk = bL ∧ K.all celOk = bK:=⟨_,_,rfl,rfl⟩
  obtain ⟨bL,bK,n,G⟩:=aj;rw [n,G] at e;rw [n] at aL;rw [G] at aK;clear n G;refine brj ag ?_;conv=>whnf
  by_cases l1:L.length ≤ 64
  ·have E:(L.length:Int) ≤ 64:=by omega
   rw [decide_eq_true l1,qab] at e;refine ⟨fun _=>?_,fun c=>absurd E (oe c)⟩;conv=>whnf
   by_cases l2:K.length ≤ 64
   ·have M:(K.length:Int) ≤ 64:=by omega
    rw [decide_eq_true l2,qab] at e;refine ⟨fun _=>?_,fun c=>absurd M (oe c)⟩;conv=>whnf
    rcases asc with _ | _
    ·refine ⟨fun c=>absurd c (by show ¬ false = true; decide),fun _=>?_⟩;exact p false _ _ _ e rfl rfl
    ·refine ⟨fun _=>?_,fun c=>absurd c (by show ¬ true = false; decide)⟩;refine usePu aL rfl ⟨⟨rfl,rfl,rfl,.inr ⟨rfl,rfl,rfl,rfl⟩⟩,rfl,tv⟩ rfl ?_;rcases bL with _ | _
     ·refine ⟨fun c=>absurd c (by decide),fun _=>?_⟩;exact p false _ _ _ e rfl rfl
     ·refine ⟨fun _=>?_,fun c=>absurd c (by decide)⟩;refine usePu aK rfl ⟨⟨rfl,rfl,rfl,.inr ⟨rfl,rfl,rfl,rfl⟩⟩,rfl,tv⟩ rfl ?_;rcases bK with _ | _
      ·refine ⟨fun c=>absurd c (by decide),fun _=>?_⟩;exact p false _ _ _ e rfl rfl
      ·refine ⟨fun _=>?_,fun c=>absurd c (by decide)⟩;refine usePu iR rfl ⟨rfl,tv⟩ rfl ?_;exact p _ _ _ _ e rfl rfl
   ·have M:¬ (K.length:Int) ≤ 64:=by omega
    rw [decide_eq_false l2] at e;refine ⟨fun c=>absurd (od c) M,fun _=>?_⟩;exact p false _ _ _ (by rw [e]; simp) rfl rfl
  ·have E:¬ (L.length:Int) ≤ 64:=by omega
   rw [decide_eq_false l1] at e;refine ⟨fun c=>absurd (od c) E,fun _=>?_⟩;exact p false _ _ _ (by rw [e]; simp) rfl rfl
def zd2 (n:Int):Int:=if 1000000000000 < (if -1000000000000 > n then -1000000000000 else n) then 1000000000000 else (if -1000000000000 > n then -1000000000000 else n)
def zpp (c e:Cel):Bool:=inR e.row c.top c.row && inR e.col c.left c.col
def sumF (c:Cel):List (Cel × Int) → Int → Int
 |[],n=>n
 |(e,v) :: r,n=>sumF c r (if zpp c e = true then IntKind.i64.wrap (n + v) else n)
theorem zqy (c:Cel):∀ (l:List (Cel × Int)) (e:Cel) (v n:Int),sumF c (l ++ [(e,v)]) n = if zpp c e = true then IntKind.i64.wrap (sumF c l n + v) else sumF c l n
 |[],e,v,n=>rfl
 |(e',v') :: r,e,v,n=>zqy c r e v _
def valF (done:List Cel) (o:List Int) (c:Cel):Int:=zd2 (if c.sum = true then sumF c (done.zip o) c.value else c.value)
def valsA:List Cel → List Cel → List Int → List Int
 |[],_,o=>o
 |c :: r,done,o=>valsA r (done ++ [c]) (o ++ [valF done o c])
def valsF (l:List Cel):List Int:=valsA l [] []
theorem zvw {l:List Cel} {k:Nat} {o:List Int} {c:Cel} (g:k < l.length) (a:l[k] = c):valsA (l.drop k) (l.take k) o = valsA (l.drop (k + 1)) (l.take (k + 1)) (o ++ [valF (l.take k) o c]):=by
 rw [qx g,qg g,a]; rfl
theorem z5p {l:List Cel} {o:List Int} {k j:Nat} {e:Cel} {v:Int} (h:k ≤ l.length) (c:o.length = k) (g:j < k) (d:l[j]? = some e) (a:o[j]? = some v) :
  ((l.take k).zip o).take (j + 1) = ((l.take k).zip o).take j ++ [(e,v)]:=by
 have f:((l.take k).zip o).length = k:=by rw [qak,qq,c]; omega
 rw [qg (by rw [f]; exact g),qc4]
 have h1:(l.take k)[j]'(by rw [qq]; omega) = e:=by
  rw [List.getElem_take];exact (qi.1 d).2
 have b:o[j]'(by omega) = v:=(qi.1 a).2;rw [h1,b]
def docE4 (a b:SA) (w:Int) (s:List UInt8):Ent:=.one (.cells 176 (docS a b w s))
theorem zbu {n:Nat} {a b:SA} {w:Int} {s:List UInt8} (d:a.below n) (c:b.below n):(docE4 a b w s).below n:=zd7 (w:=w) (s:=s) d c
def celE (c:Cel):Ent:=.one (.cells 151 (encK c))
theorem zg7 {n:Nat} (c:Cel):(celE c).below n:=(SB.bB_ok rfl:SB.below n (.cells 151 (encK c)))
theorem ycb {F a:Fz} {o:List Int} {e b:Nat} {h:Hp} {nx:Nat} (d:Fz.le F a) (i:a b = some (.arr 3 1 (o.map encI) e)) (j:lget h 0 = some (.frz a)) {K:List Cel} (g:valsF K = o) {u:Out} (f:u.ren (resP h) = .ret (.va (.slice false 0 b 0 1 o.length e))) :
  Cln 1 (FoK F fun o a=>∃ r,o = .ret (.va r) ∧ ((K = [] ∧ r = .nilsl) ∨ (zek a r (valsF K) ∧ ∃ b c,r = .slice false 0 b 0 1 (valsF K).length c))) u h nx:=by
 subst g;exact endFo (.ret (.va (.slice false 0 b 0 1 (valsF K).length e))) a j d (Fz.r a) ⟨_,rfl,.inr ⟨Sl.new (l:=valsF K) i,_,_,rfl⟩⟩ (by rw [f]; exact zah _) rfl
theorem zxi (F:Fz) (an:Bool) (ab ae al ac:Nat) (bn:Bool) (bb u G:Nat) (K:List Cel) (w:Int) (s:List UInt8) (hb:Sl F 151 6 encK (.slice bn 0 bb u 6 K.length G) K) (hl:K.length ≤ 1000) (a4:K.length ≤ G) :
  Fo Tryz.prog F 166 [.agg (docS (.slice an 0 ab ae 2 al ac) (.slice bn 0 bb u 6 K.length G) w s)] (fun o F'=>∃ r,o = .ret (.va r) ∧ ((K = [] ∧ r = .nilsl) ∨ (zek F' r (valsF K) ∧ ∃ b c,r = .slice false 0 b 0 1 (valsF K).length c))):=by
 obtain ⟨a7,a6,a9,ba,aj,a5,aq,A,aa,a8,ad⟩:=hb;cases aq
 refine fo_of hΘ Tryz.func166 rfl (by decide) _ _ rfl rfl rfl ?_
 refine zam hΘ (X:={ y:Nat × List Int × Nat // y.1 ≤ K.length ∧ y.2.1.length = y.1 ∧ valsF K = valsA (K.drop y.1) (K.take y.1) y.2.1 }) (fun y=>[(3,.va (gA 1 2 y.1.2.2 y.1.2.1)),(13,.va (.int .i64 y.1.1))]) [4,5,6,7,8,14,15,16,17,18,19,20,21,22,23,24,25,26,27,28,29,30,31,32,33,34,35,36,37,38,39,40,41,42,43,44,45,46,47,48,49,50,51,52,53,54,55,56,57,58,59,60,61,62]
  (fun y=>[(0,.frz F),(1,docE4 (.slice an 0 ab ae 2 al ac) (.slice bn 0 bb u 6 K.length G) w s),(2,gE 3 1 encI y.1.2.2 y.1.2.1)]) 3 (fun y=>K.length - y.1.1) ⟨(0,[],0),yj _,rfl,rfl⟩
  (fun J I=>leI [(2,2)] J I rfl ⟨tv,zbu (.inr (by omega)) (.inr (by omega)),zai zaz _ _ _ _ _,tv⟩ ⟨rfl,rfl,tv⟩ ⟨Fz.r F,rfl,rfl,tv⟩) ?_
 rintro ⟨⟨k,o,co⟩,hk,l,d⟩ J I;replace hk:k ≤ K.length:=hk;replace l:o.length = k:=l;replace d:valsF K = valsA (K.drop k) (K.take k) o:=d;by_cases g:k < K.length
 ·have aw:(k:Int) < (K.length:Nat):=by omega
  have am:0 ≤ (k:Int) ∧ (k:Int) < (K.length:Nat):=by omega
  have a3:∃ c,K[k] = c:=⟨_,rfl⟩
  obtain ⟨c,hc⟩:=a3;have ay:aj[u + (k:Int).toNat]? = some (encK c):=by rw [← hc]; exact Sl.at ad g
  rw [zvw g hc] at d;have B:k + 1 ≤ K.length:=g;have h:K.length - (k + 1) < K.length - k:=by omega
  have f:k < 4611686018427387904:=by omega
  refine bri aw ?_;refine ⟨Sl.lt A g,am,_,aa (Sl.lt A g),_,ay,?_⟩;conv=>whnf
  by_cases hs:c.sum = true
  ·refine br (fun _=>?_) (fun g2=>absurd hs (by rw [g2]; simp));have W:valF (K.take k) o c = zd2 (sumF c ((K.take k).zip o) c.value):=by rw [valF,if_pos hs]
   have ao:0 ≤ (k:Int) ∧ (k:Int) ≤ (G:Nat):=by omega
   refine ⟨ao,?_⟩
   refine zam hΘ (X:={ y:Nat × Int // y.1 ≤ k ∧ y.2 = sumF c (((K.take k).zip o).take y.1) c.value }) (fun y=>[(6,.va (.int .i64 y.1.2)),(28,.va (.int .i64 y.1.1))]) [7,8,29,30,31,32,33,34,35,36,37,38,39,40,41,42,43,44,45,46,47,48,49,50,51,52,53,54,55]
    (fun _=>[(0,.frz F),(1,docE4 (.slice an 0 ab ae 2 al ac) (.slice bn 0 bb u 6 K.length G) w s),(2,gE 3 1 encI co o),(3,celE c)]) 4 (fun y=>k - y.1.1) ⟨(0,c.value),yj _,rfl⟩
    (fun J I=>leI [] J I rfl ⟨tv,zbu (.inr (by omega)) (.inr (by omega)),zai zaz _ _ _ _ _,zg7 _,tv⟩ ⟨rfl,rfl,tv⟩ ⟨Fz.r F,rfl,zax zaz (zay _ _ _ _),rfl,tv⟩) ?_
   rintro ⟨⟨j,n⟩,hj,hn⟩ Q R;replace hj:j ≤ k:=hj;replace hn:n = sumF c (((K.take k).zip o).take j) c.value:=hn;by_cases gj:j < k
   ·have a1:(j:Int) < (k:Nat):=by omega
    have a2:0 ≤ (j:Int) ∧ (j:Int) < (k:Nat):=by omega
    have D:j < K.length:=by omega
    have M:j < o.length:=by omega
    have Z:∃ e v,K[j] = e ∧ o[j] = v:=⟨_,_,rfl,rfl⟩
    obtain ⟨e,v,O,S⟩:=Z
    have af:aj[(if G = 0 then u else u + 0) + (j:Int).toNat]? = some (encK e):=by
     rw [← O,show (if G = 0 then u else u + 0) = u by split<;>rfl]; exact Sl.at ad D
    have av:(o.map encI)[0 + (j:Int).toNat]? = some (encI v):=by rw [q5,qp,qy,qe M,S]; rfl
    have ak:=z5p (e:=e) (v:=v) hk l gj (by rw [qe D,O]) (by rw [qe M,S])
    have x:sumF c (((K.take k).zip o).take (j + 1)) c.value = if zpp c e = true then IntKind.i64.wrap (n + v) else n:=by
     rw [ak,zqy,← hn]
    have ax:0 ≤ (j:Int) ∧ (j:Int) < (o.length:Nat):=by omega
    have az:∃ b1 b2,inR e.row c.top c.row = b1 ∧ inR e.col c.left c.col = b2:=⟨_,_,rfl,rfl⟩
    obtain ⟨b1,b2,p,q⟩:=az;have w1:=zec p F;have w2:=zec q F;have ag:zpp c e = (b1 && b2):=by unfold zpp; rw [p,q]
    rw [ag] at x;have T:j + 1 ≤ k:=gj;have L:k - (j + 1) < k - j:=by omega
    have m:j < 4611686018427387904:=by omega
    clear ak O S p q ag;rcases o with _ | ⟨E,a⟩
    ·exact absurd M (by simp)
    ·refine bri a1 ?_;refine ⟨Sl.lt A D,a2,_,aa (Sl.lt A D),_,af,?_⟩;refine usePu w1 rfl ⟨rfl,rfl,rfl,tv⟩ rfl ?_;rcases b1 with _ | _
     ·exact ⟨⟨(j + 1,n),T,by rw [x]; rfl⟩,L,leR [] Q R rfl ⟨tv,zbu (.inr (by omega)) (.inr (by omega)),zai zaz _ _ _ _ _,zg7 _,tv⟩ ⟨rfl,cnt m,tv⟩ ⟨Fz.r F,rfl,zax zaz (zay _ _ _ _),rfl,tv⟩⟩
     ·refine usePu w2 rfl ⟨rfl,rfl,rfl,tv⟩ rfl ?_;rcases b2 with _ | _
      ·exact ⟨⟨(j + 1,n),T,by rw [x]; rfl⟩,L,leR [] Q R rfl ⟨tv,zbu (.inr (by omega)) (.inr (by omega)),zai zaz _ _ _ _ _,zg7 _,tv⟩ ⟨rfl,cnt m,tv⟩ ⟨Fz.r F,rfl,zax zaz (zay _ _ _ _),rfl,tv⟩⟩
      ·refine ⟨rfl,ax,rfl,_,av,?_⟩;exact ⟨⟨(j + 1,IntKind.i64.wrap (n + v)),T,by rw [x]; rfl⟩,L,leR [] Q R rfl ⟨tv,zbu (.inr (by omega)) (.inr (by omega)),zai zaz _ _ _ _ _,zg7 _,tv⟩ ⟨rfl,cnt m,tv⟩ ⟨Fz.r F,rfl,zax zaz (zay _ _ _ _),rfl,tv⟩⟩
   ·have ah:¬ (j:Int) < (k:Nat):=by omega
    have a0:j = k:=by omega
    have ar:((K.take k).zip o).length = k:=by rw [qak,qq,l]; omega
    rw [a0,qn (qb5 ar)] at hn;rw [← hn] at W;rcases o with _ | ⟨E,a⟩
    ·refine brj ah ?_;refine ⟨nb rfl,[encI (zd2 (n))],rfl,rfl,rfl,by show 1 * 8 ≤ 140737488355328; omega,fun c' U=>?_⟩;exact ⟨⟨(k + 1,([]) ++ [zd2 (n)],c'),B,by rw [qd,yk,l],by rw [W] at d; exact d⟩,h,leRn [_,_,_] [_,_] [(2,5)] J I rfl ⟨tv,zbu (.inr (by omega)) (.inr (by omega)),zai zaz _ _ _ _ _,tv⟩ ⟨by (conv=>whnf); exact ⟨rfl,rfl,rfl,.inr ⟨rfl,rfl,rfl,rfl⟩⟩,cnt f,tv⟩ ⟨Fz.r F,rfl,zax zaz (zcs _ (by simp)),tv⟩⟩
    ·have V:(a.length + 1 + 1) * 8 ≤ 140737488355328:=by
      have h9:a.length + 1 = k:=l;omega
     refine brj ah ?_;refine ⟨nb rfl,[encI (zd2 (n))],rfl,rfl,rfl,by simp,rfl,V,fun c' U=>?_⟩;exact ⟨⟨(k + 1,(E :: a) ++ [zd2 (n)],c'),B,by rw [qd,yk,l],by rw [W] at d; exact d⟩,h,leRn [_,_,_] [_,_] [(2,5)] J I rfl ⟨tv,zbu (.inr (by omega)) (.inr (by omega)),zai zaz _ _ _ _ _,tv⟩ ⟨zuv (μ:=sig [(2,5)]) (i:=2) (j:=5) rfl 1 c' _ (E :: a) (zd2 n) rfl,cnt f,tv⟩ ⟨Fz.r F,rfl,zax zaz (zcs _ (by simp)),tv⟩⟩
  ·refine br (fun g2=>absurd g2 hs) (fun _=>?_);have W:valF (K.take k) o c = zd2 c.value:=by rw [valF,if_neg hs]
   rcases o with _ | ⟨E,a⟩
   ·refine ⟨nb rfl,[encI (zd2 (c.value))],rfl,rfl,rfl,by show 1 * 8 ≤ 140737488355328; omega,fun c' U=>?_⟩;exact ⟨⟨(k + 1,([]) ++ [zd2 (c.value)],c'),B,by rw [qd,yk,l],by rw [W] at d; exact d⟩,h,leR [(2,5)] J I rfl ⟨tv,zbu (.inr (by omega)) (.inr (by omega)),zai zaz _ _ _ _ _,tv⟩ ⟨by (conv=>whnf); exact ⟨rfl,rfl,rfl,.inr ⟨rfl,rfl,rfl,rfl⟩⟩,cnt f,tv⟩ ⟨Fz.r F,rfl,zax zaz (zcs _ (by simp)),tv⟩⟩
   ·have V:(a.length + 1 + 1) * 8 ≤ 140737488355328:=by
     have h9:a.length + 1 = k:=l;omega
    refine ⟨nb rfl,[encI (zd2 (c.value))],rfl,rfl,rfl,by simp,rfl,V,fun c' U=>?_⟩;exact ⟨⟨(k + 1,(E :: a) ++ [zd2 (c.value)],c'),B,by rw [qd,yk,l],by rw [W] at d; exact d⟩,h,leR [(2,5)] J I rfl ⟨tv,zbu (.inr (by omega)) (.inr (by omega)),zai zaz _ _ _ _ _,tv⟩ ⟨zuv (μ:=sig [(2,5)]) (i:=2) (j:=5) rfl 1 c' _ (E :: a) (zd2 c.value) rfl,cnt f,tv⟩ ⟨Fz.r F,rfl,zax zaz (zcs _ (by simp)),tv⟩⟩
 ·have Y:¬ (k:Int) < (K.length:Nat):=by omega
  have ai:k = K.length:=by omega
  rw [ai,yg (qm _)] at d;replace d:valsF K = o:=d;rcases o with _ | ⟨E,a⟩
  ·have hK:K = []:=jv (by rw [← ai,← l]; rfl);refine brj Y ?_;exact endFo (.ret (.va .nilsl)) F rfl (Fz.r F) (Fz.r F) ⟨_,rfl,.inl ⟨hK,rfl⟩⟩ (zah _) rfl
  ·refine brj Y ?_;refine zbn 2 (fun _=>.arr 3 1 ((E :: a).map encI) co) rfl rfl rfl (fun _ _=>by exact zcx zaz rfl _ _ _ _) (fun _ _=>zbd zaz _ _ _ _ _) ?_;intro b' F' ap au;exact ycb ap (au 0 ⟨rfl,rfl⟩) rfl d rfl
end Go.Proofs.YtfnkamphhpldcaaGreatDoor
