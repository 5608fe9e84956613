import Derived.Test.YtfnkamphhpldcaaGreatDoorK38
set_option maxHeartbeats 64000000
namespace Go.Proofs.YtfnkamphhpldcaaGreatDoor
open Go Sx
set_option maxRecDepth 100000
def encK2 (x:Cel × Bool):List SA:=[.int .i64 x.1.row,.int .i64 x.1.col,bif x.2 then .lit x.1.sum else .bool x.1.sum,.int .i64 x.1.value,.int .i64 x.1.top,.int .i64 x.1.left]
theorem zkh:Plain encK2:=fun x=>by
 obtain ⟨c,f⟩:=x
 cases f<;>exact ⟨fun μ=>rfl,fun a b=>by
  simp only [encK2,qg,qp,or_false] at b;rcases b with rfl | rfl | rfl | rfl | rfl | rfl<;>trivial⟩
theorem z8r (l:List Cel):(l.map fun c=>(c,false)).map encK2 = l.map encK:=by rw [q9]; rfl
theorem z3m {t c:Nat} (l:List Cel) (ρ:Rho) (o:Obj) (h:(SB.arr t 6 ((l.map fun c=>(c,true)).map encK2) c).ok ρ o):(SB.arr t 6 (l.map encK) c).ok ρ o:=by
 refine zr6 (by simp) ?_ ?_ ρ o h
 ·intro z a;obtain ⟨u,_,rfl⟩:=ji.1 a;rfl
 ·intro ρ;rw [q9,qby,qby,q9,q9];rfl
theorem z7y {K:List Cel} (b:ascF K = true) {i:Nat} (a:i < K.length):∀ j (h:j < K.length),j < i → ¬ ((K[j]'h).row = (K[i]'a).row ∧ (K[j]'h).col = (K[i]'a).col):=by
 intro j h c;have:=List.pairwise_iff_getElem.1 (zr7 K b) j i h a c;unfold ltC at this;simp only [qak,qd,decide_eq_true_eq] at this;omega
theorem rw_K2 (μ:Mu) (a:Cel) (r:List Cel) (q:Bool) (t c:Nat):subE (some ((rwE q t 6 encK c (a :: r)).ren μ)) (rwE q t 6 encK2 c ((a,false) :: r.map fun c=>(c,false))):=by
 rw [zv1 zad];exact ⟨rfl,congrArg (fun L=>SB.arr t 6 L c) (z8r (a :: r)).symm⟩
theorem zmx {f e:Bool} {b d c' l k:Nat} {w:Int} {s:List UInt8}:(Ent.one (.cells 41 [.slice f 2 0 0 2 l d,.slice e 0 b 0 6 k c',.int .i64 w,.str s])).below 5:=by
 intro a c;simp only [qg,qp,or_false] at c;rcases c with rfl | rfl | rfl | rfl
 ·exact .inr (by omega)
 ·exact .inr (by omega)
 ·trivial
 ·trivial
theorem swK2 {t c:Nat} {l:List (Cel × Bool)} {A:List Cel} (h:l = A.map fun c=>(c,true)) (ρ:Rho) (o:Obj) (g:(SB.arr t 6 (l.map encK2) c).ok ρ o):(SB.arr t 6 (A.map encK) c).ok ρ o:=by
 subst h; exact z3m A ρ o g
theorem zod {F:Fz} {a e:Bool} {b c d c2:Nat} {L:List DLn} {K:List Cel} {w:Int} {s:List UInt8} (i:a = true → L = []) (g:a = false → F b = some (.arr 148 2 (L.map encN) d)) (f:Sl F 151 6 encK (.slice e 0 c 0 6 K.length c2) K) (h:K.length ≤ c2) :
  DocAt F (.slice a 0 b 0 2 L.length d) (.slice e 0 c 0 6 K.length c2) ⟨L,K,w,s⟩:=⟨a,b,0,d,e,c,0,c2,rfl,rfl,sl_of i g,f,h⟩
def allV (o:List Int):Bool:=o.all fun n=>inR n (-1000000) 1000000
theorem z7i {V:List Int} {k:Nat} (h:k < V.length) (g:¬ (-1000000 ≤ V[k] ∧ V[k] ≤ 1000000)):allV V = false:=by
 rw [allV];refine qc2.2 fun h1=>g ?_
 exact inRW.1 (qn.1 h1 _ (qy h))
theorem inAll {V:List Int} {k:Nat} (a:∀ j (_:j < k),∀ g:j < V.length,inR (V[j]'g) (-1000000) 1000000 = true) (h:k < V.length) (b:-1000000 ≤ V[k]) (c:V[k] ≤ 1000000):∀ j (_:j < k + 1),∀ g:j < V.length,inR (V[j]'g) (-1000000) 1000000 = true:=by
 intro j d g;rcases qcf j k with h1 | h1
 ·exact a j h1 g
 ·obtain rfl:j = k:=by omega
  exact inRW.2 ⟨b,c⟩
abbrev gone3:List (Nat × Ent):=[(1,.gone),(2,.gone),(3,.gone)]
theorem zy7 (F:Fz) (l J:Bool) (d c2:Nat) (L:List DLn) (K:List Cel) (w:Int) (s:List UInt8) (am:l = true → L = []) (af:J = true → K = []) (hd:docOk ⟨L,K,w,s⟩ = true) (ag:DcSmall ⟨L,K,w,s⟩) :
  Ct Tryz.prog 95 [.va (.ptr ⟨1,0,0,0,0⟩)] F (hpL l J d c2 L K w s) 4
   (fun o _ h0 n0=>n0 = 4 ∧ ((allV (valsF K) = true ∧ o = .ret (.va (.bool true)) ∧ h0 = hpL l J d c2 L (frzR K (valsF K)) w s) ∨ (allV (valsF K) = false ∧ o = .ret (.va (.bool false)) ∧ h0 = gone3))):=by
 obtain ⟨V,hV⟩:∃ V,valsF K = V:=⟨_,rfl⟩
 have E:V.length = K.length:=by rw [← hV]; exact zdm K
 rw [hV];obtain ⟨A,hA⟩:∃ A,frzR K V = A:=⟨_,rfl⟩
 have D:A.length = K.length:=by rw [← hA,frzR,qa,qal]; omega
 have aj:∀ k (h:k < K.length),A[k]'(by omega) = ⟨(K[k]'h).row,(K[k]'h).col,false,V[k]'(by omega),0,0⟩:=fun k h=>by
  subst hA; simp [frzR,frzC]
 rw [hA];have u:=(zbk hd).asc;have T:K.length ≤ 1000:=ag.c;have W:=fun F1=>zwu F1 J c2 K af T
 have B:=fun F1 a b (hD:DocAt F1 a b ⟨L,K,w,s⟩) i (hi:i < K.length) v hv=>z6r F1 a b ⟨L,K,w,s⟩ hD ag hd (K[i]'hi).row (K[i]'hi).col i hi ⟨rfl,rfl⟩ (z7y u hi) v hv
 have ah:valsF (Dc.cells ⟨L,K,w,s⟩) = V:=hV;rw [ah] at B;clear ah hV hA u hd;rcases K with _ | ⟨a0,ar⟩
 ·obtain rfl:A = []:=jo D;obtain rfl:V = []:=jo E;refine ct_of hΘ Tryz.func95 rfl (by decide) _ _ rfl rfl rfl ?_;refine use (W F) [(1,3)] rfl ⟨⟨rfl,rfl,rfl,.inr ⟨rfl,rfl,rfl,rfl⟩⟩,tv⟩ rfl ⟨zan zad _ _ _ _ _ _,tv⟩ (by simp [SV.below,SA.below]) ⟨zar zad (zao _ _ _ _ _),tv⟩ ?_;rintro ai F1 x0 n0 l1 ⟨rfl,q',b,c',rfl,hS,hc,rfl⟩;conv=>whnf
  refine zam hΘ (X:=Unit) (fun x=>[(22,.va (.int .i64 0))]) (2::4::5::6::7::jr 23 40 [])
   (fun x=>[(0,.frz F1),(1,docL l J L.length d 0 c2 w s),(2,rwE l 148 2 encN d L),(3,rwE J 151 6 encK c2 [])]) 5 (fun x=>0) ()
   (fun O Q=>leI [] O Q rfl ⟨tv,za6 (by omega) _ _ _ _ _ _ _ _,zan zal _ _ _ _ _ _,zan zad _ _ _ _ _ _,tv⟩ ⟨rfl,tv⟩ ⟨Fz.r F1,rfl,zar zal (zao _ _ _ _ _),zc8 zad,tv⟩) ?_
  rintro ⟨⟩ O Q;refine brd (by decide) ?_;exact clean [] (.ret (.va (.bool true))) F1 (hpL l J d c2 L [] w s) 4 ⟨l1,rfl,.inl ⟨rfl,rfl,rfl⟩⟩ (zah _) rfl rfl trivial (zb5 (by omega) _ _ _ _ _ _ _ _) ⟨Fz.r F1,rfl,zar zal (zao _ _ _ _ _),zar zad (zao _ _ _ _ _),tv⟩
 ·obtain rfl:=zdr af;refine ct_of hΘ Tryz.func95 rfl (by decide) _ _ rfl rfl rfl ?_;refine use (W F) [(1,3)] rfl ⟨⟨rfl,rfl,rfl,.inr ⟨rfl,rfl,rfl,rfl⟩⟩,tv⟩ rfl ⟨zan zad _ _ _ _ _ _,tv⟩ (by simp [SV.below,SA.below]) ⟨zar zad (zao _ _ _ _ _),tv⟩ ?_;rintro ai F1 x0 n0 l1 ⟨rfl,q',b,c',rfl,hS,hc,rfl⟩;conv=>whnf
  refine zam hΘ (X:={ y:Nat × (Cel × Bool) × List (Cel × Bool) // y.1 ≤ ar.length + 1 ∧ (∀ j (h:j < y.1),∀ g:j < V.length,inR (V[j]'g) (-1000000) 1000000 = true) ∧ y.2.1 :: y.2.2 = mxl (A.map fun c=>(c,true)) ((a0 :: ar).map fun c=>(c,false)) y.1 }) (fun y=>[(22,.va (.int .i64 y.1.1))]) (2::4::5::6::7::jr 23 40 [])
   (fun y=>[(0,.frz F1),(1,docL l false L.length d (ar.length + 1) c2 w s),(2,rwE l 148 2 encN d L),(3,rwE false 151 6 encK2 c2 (y.1.2.1 :: y.1.2.2)),(4,.one (.cells 41 [.slice l 2 0 0 2 L.length d,.slice q' 0 b 0 6 (ar.length + 1) c',.int .i64 w,.str s]))]) 5 (fun y=>ar.length + 1 - y.1.1)
   ⟨(0,(a0,false),ar.map fun c=>(c,false)),yd _,fun j h=>absurd h (qb8 j),(zgn _ _).symm⟩
   (fun O Q=>leI [] O Q rfl ⟨tv,za6 (by omega) _ _ _ _ _ _ _ _,zan zal _ _ _ _ _ _,zan zkh _ _ _ _ _ _,zmx,tv⟩ ⟨rfl,tv⟩ ⟨Fz.r F1,rfl,zar zal (zao _ _ _ _ _),zar zkh (rw_K2 _ _ _ _ _ _),rfl,tv⟩) ?_
  rintro ⟨⟨k,a1,r1⟩,hk,q,p⟩ O Q;replace hk:k ≤ ar.length + 1:=hk;replace q:∀ j (h:j < k),∀ g:j < V.length,inR (V[j]'g) (-1000000) 1000000 = true:=q;replace p:a1 :: r1 = mxl (A.map fun c=>(c,true)) ((a0 :: ar).map fun c=>(c,false)) k:=p;have m:(A.map fun c=>(c,true)).length = ((a0 :: ar).map fun c=>(c,false)).length:=by rw [qa,qa,D]
  have S:((a0 :: ar).map fun c=>(c,false)).length = ar.length + 1:=by rw [qa]; rfl
  by_cases g:k < ar.length + 1
  ·have gi:(k:Int) < ((ar.length + 1:Nat):Int):=by omega
   have Y:ar.length + 1 - (k + 1) < ar.length + 1 - k:=by omega
   have ab:k < 4611686018427387904:=by have:ar.length + 1 ≤ 1000:=T; omega
   have g2:k < ((a0 :: ar).map fun c=>(c,false)).length:=by rw [S]; exact g
   have f:=zln (e:=encK2) m g2 p;have ae:=fun x=>zgm (e:=encK2) (x:=x) m g2 p
   rw [yr] at f;have R:=aj k g;have M:k < V.length:=by rw [E]; exact g
   have I:=fun F1 a b hD=>B F1 a b hD k g (V[k]'M) (qc M)
   have h2:=zgl (a0:=(a0,false)) (ar:=ar.map fun c=>(c,false)) m (k + 1);obtain ⟨a2,r2,al⟩:=h2;have ad:a2 :: r2 = mxl (A.map fun c=>(c,true)) ((a0 :: ar).map fun c=>(c,false)) (k + 1):=al;rw [← ad] at ae;have an:[SA.int .i64 ((a0 :: ar)[k]'g).row,.int .i64 ((a0 :: ar)[k]'g).col,.lit false,.int .i64 (V[k]'M),.int .i64 0,.int .i64 0] = encK2 ((A.map fun c=>(c,true))[k]'(by rw [m]; exact g2)):=by rw [yr,R]; rfl
   refine bri gi ⟨rfl,⟨jw k,gi⟩,?_⟩;refine drawP hΘ mixed (lk [0,1,2,3,4,5,6,7,8] (.alt 9 (lk [10,11,12,13,14] .done) .nil)) [3,4] (by kernel_rfl) ⟨rfl,rfl,rfl,_,f,rfl,rfl,_,f,?_⟩;refine lend 2 (fun _=>.arr 148 2 (L.map encN) d) rfl rfl rfl (fun _ _=>by exact zcx zal rfl _ _ _ _) (fun _ _=>zbj zal _ _ _ _ _) ?_;intro bl F2 l2 ak;refine useFo (I F2 (.slice l 0 (bl 0) 0 2 L.length d) (.slice q' 0 b 0 6 (ar.length + 1) c') (zod am (fun h=>ak 0 ⟨by rw [h]; rfl,rfl⟩) (hS.mono l2) hc)) rfl ⟨rfl,rfl,rfl,tv⟩ rfl ?_;rintro _ F3 l3 rfl;refine ⟨F3,rfl,l3,rfl,Fz.r F1,rfl,rfl,fun g1=>?_,fun g1=>?_⟩
   ·refine br (fun g3=>?_) (fun g3=>?_)
    ·exact clean [] (.ret (.va (.bool false))) F1 gone3 4 ⟨l1,rfl,.inr ⟨z7i M (fun h=>absurd (od g3) (qcj.2 h.2)),rfl,rfl⟩⟩ (zah _) rfl rfl trivial ⟨tv,tv,tv,tv⟩ ⟨Fz.r F1,tv⟩
    ·have aa:=inAll q M (qcj.1 (oe g1)) (qcj.1 (oe g3));refine drawP hΘ mixed (lk [0,1,2,3,4,5,6,7,8,9] (.alt 10 (.look 11 (.last 12 .done)) .nil)) [3] (by kernel_rfl) ⟨rfl,rfl,_,f,rfl,rfl,_,f,Fz.r F1,rfl,rfl,_,f,?_⟩
     exact ⟨⟨(k + 1,a2,r2),g,aa,ad⟩,Y,leR [] O Q rfl ⟨tv,za6 (by omega) _ _ _ _ _ _ _ _,zan zal _ _ _ _ _ _,zan zkh _ _ _ _ _ _,zmx,tv⟩ ⟨cnt ab,tv⟩
      ⟨Fz.r F1,rfl,zar zal (zao _ _ _ _ _),zar zkh (rw_op rfl (ae _ an)),rfl,tv⟩⟩
   ·exact clean [] (.ret (.va (.bool false))) F1 gone3 4 ⟨l1,rfl,.inr ⟨z7i M (fun h=>absurd (od g1) (qcj.2 h.1)),rfl,rfl⟩⟩ (zah _) rfl rfl trivial ⟨tv,tv,tv,tv⟩ ⟨Fz.r F1,tv⟩
  ·have gi:¬ (k:Int) < ((ar.length + 1:Nat):Int):=by omega
   have ac:k = ar.length + 1:=by omega
   have Z:a1 :: r1 = A.map fun c=>(c,true):=by
    rw [p,show k = ((a0 :: ar).map fun c=>(c,false)).length by rw [S]; exact ac,zh1 m]
   have U:allV V = true:=by
    rw [allV,qn];intro n hn;obtain ⟨j,hj,rfl⟩:=qbv.1 hn;exact q j (by rw [ac]; exact Nat.lt_of_lt_of_eq hj E) hj
   have G:docB l false L.length d (ar.length + 1) c2 w s = (docB l false L.length d A.length c2 w s).ren (sig []):=by rw [D]; rfl
   refine brj gi ?_;refine ycs 3 (.arr 151 6 (A.map encK) c2) rfl (swK2 Z) (zbj zad _ _ _ _ _) ?_;exact clean [] (.ret (.va (.bool true))) F1 (hpL l false d c2 L A w s) 4 ⟨l1,rfl,.inl ⟨U,rfl,rfl⟩⟩ (zah _) rfl rfl trivial (zb5 (by omega) _ _ _ _ _ _ _ _) ⟨Fz.r F1,G,zar zal (zao _ _ _ _ _),zar zad (zao _ _ _ _ _),tv⟩
def lin1 (a:List Kp) (d:Dc):List DLn:=d.lines.map fun l=>((lineR (zak 1 a) (zak 2 a) l).1,l.2)
theorem zkp {p:Int} (a:1 ≤ p ∧ p ≤ 8) {t:List Stp} (c:zaw p t = true) {d e:Dc} (b:docOk d = true) (h:runS t (zb8 p d) = zb8 p e):(zc4 p t (propB p d)).1 = propB p e:=by
 rw [zho a,ze3 c (zg1 a b),h,← zho a]
theorem zp9 {L:List DLn} (h:L.all dlnOk = true):(∀ l ∈ L,l.1.length ≤ 65536) ∧ ∀ l ∈ L,okI l.2:=by
 refine ⟨fun l a=>?_,fun l a=>?_⟩
 all_goals
  have:=qn.1 h l a;unfold dlnOk at this;simp only [qd,decide_eq_true_eq,inRW] at this
 ·omega
 ·exact zdi (by omega)
theorem zx4 {K:List Cel} (h:∀ c ∈ K,celOk c = true):∀ c ∈ K,okI c.row ∧ okI c.col ∧ okI c.value:=by
 intro c b;have:=h c b;unfold celOk at this;simp only [qd,inRW] at this;refine ⟨zdi (by omega),zdi (by omega),?_⟩;cases a:c.sum with
 |true=>
  rw [a] at this;simp only [if_true,qd,decide_eq_true_eq] at this;exact zdi (by omega)
 |false=>
  rw [a] at this;simp only [jv,if_false,qd,decide_eq_true_eq,inRW] at this;exact zdi (by omega)
theorem z2v {c:Cel} (h:c.sum = false):(⟨c.row,c.col,false,0,c.top,c.left⟩:Cel) = { c with value:=0 }:=by
 obtain ⟨a,b,s,v,t,l⟩:=c;replace h:s = false:=h;subst h; rfl
section
variable (F:Fz) (hM:MLF F) (sk:SA) (m:Mig) (a1 b1:SA) (d:Dc) (hk:KpsAt F sk m.keep) (hks:short m.keep) (hkl:m.keep.length < 1000000) (hko:m.keep.all zbd = true) (hD:DocAt F a1 b1 d) (hsm:DcSmall d) (hd:docOk d = true) (q1 q2:Bool) (c1 c2:Nat)
include hM hk hks hkl hko hD hsm hd
theorem ya4 (c:q1 = true → d.lines = []):Ct Tryz.prog 88 [.agg (migS m sk),.agg (docS a1 b1 d.w d.bits),.va (.int .i64 1),.va (.fn (.func 89) [⟨1,0,0,0,0⟩])] F (hpL q1 q2 c1 c2 d.lines d.cells d.w d.bits) 4 (finL q1 q2 c1 c2 (lin1 m.keep d) d.cells d.w d.bits):=by
 have g:=zbp hko (p:=1) (by omega);have j:=zbp hko (p:=2) (by omega);refine zil F hM sk m 1 (by omega) _ a1 b1 d hk hks hkl hD hsm hd q1 q2 c1 c2 d.lines _ d.cells _ d.w _ d.bits _ (fun e=>⟨?_,rfl,rfl,rfl⟩) (fun e F1=>?_) (fun _ e F1=>?_)
 ·rw [lin1,e]
  conv=>rhs; rw [← qc5 d.lines]
  exact qz fun l _=>rfl
 ·refine z5n F1 q1 q2 c1 c2 d.lines _ d.cells d.w d.bits c hsm.l ?_;rw [lin1,e];exact qz fun l _=>rfl
 ·have i:=zop g.1 j.1 hd;have o:=zkp (p:=1) (by omega) g.2.1 hd (val1 g.1 j.1 hd e d.cells d.w d.bits)
  have s:docOk ⟨d.lines.map (lineR (zak 1 m.keep) (zak 2 m.keep)),d.cells,d.w,d.bits⟩ = true:=by
   have h:=zbk hd;exact zif (by rw [qa]; exact h.lines) h.cells h.asc i h.cel h.ras
  have a:=zc0 (p:=1) s;have f:(d.lines.map (lineR (zak 1 m.keep) (zak 2 m.keep))).length ≤ 1000:=by rw [qa]; exact hsm.l
  have b:propB 1 ⟨d.lines.map (lineR (zak 1 m.keep) (zak 2 m.keep)),d.cells,d.w,d.bits⟩ = ptext (d.lines.map (lineR (zak 1 m.keep) (zak 2 m.keep))):=rfl;rw [o,b];rw [b] at a;obtain ⟨q,u,n,x⟩:=z1z f (zp9 i).1 (by omega);refine z5o F1 q1 q2 c1 c2 d.lines _ d.cells d.w d.bits _ q _ c hsm.l (by rw [lin1,qa]) (by omega) u n fun k h=>?_
  have:=x k (by rw [qa]; exact h);simp only [yr] at this;simp only [lin1,yr];exact ⟨this,tv⟩
theorem ya5 (f:q1 = true → lin1 m.keep d = []):Ct Tryz.prog 88 [.agg (migS m sk),.agg (docS a1 b1 d.w d.bits),.va (.int .i64 2),.va (.fn (.func 92) [⟨1,0,0,0,0⟩])] F (hpL q1 q2 c1 c2 (lin1 m.keep d) d.cells d.w d.bits) 4 (finL q1 q2 c1 c2 (midD m.keep d).lines d.cells d.w d.bits):=by
 have n:=zbp hko (p:=1) (by omega);have i:=zbp hko (p:=2) (by omega);have a:(lin1 m.keep d).length ≤ 1000:=by rw [lin1,qa]; exact hsm.l
 refine zil F hM sk m 2 (by omega) _ a1 b1 d hk hks hkl hD hsm hd q1 q2 c1 c2 (lin1 m.keep d) _ d.cells _ d.w _ d.bits _ (fun e=>⟨?_,rfl,rfl,rfl⟩) (fun e F1=>?_) (fun _ e F1=>?_)
 ·rw [lin1,midD,e];exact qz fun l _=>rfl
 ·refine z5p F1 q1 q2 c1 c2 _ _ d.cells d.w d.bits f a ?_;rw [lin1,midD,e,q9];exact qz fun l _=>rfl
 ·have j:=zop n.1 i.1 hd;have s:=zkp (p:=2) (by omega) i.2.1 hd (val2 n.1 i.1 hd e d.cells d.w d.bits)
  have u:docOk ⟨d.lines.map (lineR (zak 1 m.keep) (zak 2 m.keep)),d.cells,d.w,d.bits⟩ = true:=by
   have h:=zbk hd;exact zif (by rw [qa]; exact h.lines) h.cells h.asc j h.cel h.ras
  have b:=zc0 (p:=2) u;have g:(d.lines.map (lineR (zak 1 m.keep) (zak 2 m.keep))).length ≤ 1000:=by rw [qa]; exact hsm.l
  have c:propB 2 ⟨d.lines.map (lineR (zak 1 m.keep) (zak 2 m.keep)),d.cells,d.w,d.bits⟩ = pmot (d.lines.map (lineR (zak 1 m.keep) (zak 2 m.keep))):=rfl;rw [s,c];rw [c] at b;obtain ⟨q,x,o,y⟩:=zz9 g (zp9 j).2 (by omega);refine z5q F1 q1 q2 c1 c2 _ _ d.cells d.w d.bits _ q _ f a (by rw [lin1,midD,qa,qa]) (by omega) x o fun k h=>?_
  have:=y k (by rw [qa]; rw [lin1,qa] at h; exact h);simp only [yr] at this;simp only [lin1,midD,yr];exact ⟨this,tv⟩
theorem ya6 (i:q2 = true → d.cells = []):Ct Tryz.prog 88 [.agg (migS m sk),.agg (docS a1 b1 d.w d.bits),.va (.int .i64 3),.va (.fn (.func 93) [⟨1,0,0,0,0⟩])] F (hpL q1 q2 c1 c2 (midD m.keep d).lines d.cells d.w d.bits) 4 (finL q1 q2 c1 c2 (midD m.keep d).lines (midD m.keep d).cells d.w d.bits):=by
 have u:=zbp hko (p:=3) (by omega);refine zil F hM sk m 3 (by omega) _ a1 b1 d hk hks hkl hD hsm hd q1 q2 c1 c2 _ _ d.cells _ d.w _ d.bits _ (fun e=>⟨rfl,?_,rfl,rfl⟩) (fun e F1=>?_) (fun _ e F1=>?_)
 ·rw [midD,e]
  conv=>rhs; rw [← qc5 d.cells]
  exact qz fun c _=>zp1 c
 ·refine z5r F1 q1 q2 c1 c2 _ d.cells _ d.w d.bits i hsm.c (by rw [midD,qa]) fun k h=>?_
  simp only [midD,yr,e];unfold cellR;split
  ·rfl
  ·rename_i s;have s:(d.cells[k]).sum = false:=by simpa using s
   rw [if_pos rfl];exact z2v s
 ·have n:=cells_ok u.1 hd;have M:=zkp (p:=3) (by omega) u.2.1 hd (val3 u.1 hd e d.lines d.w d.bits)
  have O:docOk ⟨d.lines,d.cells.map (cellR (zak 3 m.keep)),d.w,d.bits⟩ = true:=by
   have h:=zbk hd;exact zif h.lines (by rw [qa]; exact h.cells) n.1 (qn.2 h.ln) n.2 h.ras
  have f:=zc0 (p:=3) O;have o:(d.cells.map (cellR (zak 3 m.keep))).length ≤ 1000:=by rw [qa]; exact hsm.c
  have g:propB 3 ⟨d.lines,d.cells.map (cellR (zak 3 m.keep)),d.w,d.bits⟩ = zcr false (d.cells.map (cellR (zak 3 m.keep))):=rfl;rw [M,g];rw [g] at f;obtain ⟨q,z,Q,L,R⟩:=zx3 o (zx4 n.2) (by omega);refine z5s F1 q1 q2 c1 c2 _ d.cells _ d.w d.bits _ q z i hsm.c (by rw [midD,qa]) (by omega) Q L fun k h=>?_
  have:=R k (by rw [qa]; exact h);simp only [yr] at this;simp only [midD,yr];obtain ⟨x,y,A,B,D,E⟩:=zdg (zak 3 m.keep) d.cells[k];rw [x,y,A] at this;rcases this with ⟨j,l⟩ | ⟨j,a,b,l,G,I,J,K⟩
  ·exact .inl ⟨j,l,E j⟩
  ·refine .inr ⟨j,a,b,_,l,G,I,J,K,?_⟩;have S:cellR (zak 3 m.keep) d.cells[k] = ⟨(cellR (zak 3 m.keep) d.cells[k]).row,(cellR (zak 3 m.keep) d.cells[k]).col,(cellR (zak 3 m.keep) d.cells[k]).sum,(cellR (zak 3 m.keep) d.cells[k]).value,(cellR (zak 3 m.keep) d.cells[k]).top,(cellR (zak 3 m.keep) d.cells[k]).left⟩:=rfl;rw [S,x,y,A,B,D]
theorem ya7 (L:List DLn) (K:List Cel):Ct Tryz.prog 88 [.agg (migS m sk),.agg (docS a1 b1 d.w d.bits),.va (.int .i64 7),.va (.fn (.func 96) [⟨1,0,0,0,0⟩])] F (hpL q1 q2 c1 c2 L K d.w d.bits) 4 (finL q1 q2 c1 c2 L K (rasV (zak 7 m.keep) d).w (rasV (zak 7 m.keep) d).bits):=by
 have j:=zbp hko (p:=7) (by omega);have f:=z0x j.1 hd;refine zil F hM sk m 7 (by omega) _ a1 b1 d hk hks hkl hD hsm hd q1 q2 c1 c2 L _ K _ d.w _ d.bits _ (fun e=>⟨rfl,rfl,?_,?_⟩) (fun e F1=>?_) (fun _ e F1=>?_)
 ·rw [e]; rfl
 ·rw [e]; rfl
 ·rw [e]; exact z5t F1 q1 q2 c1 c2 L K d.w d.bits
 ·have q:=zkp (p:=7) (e:=⟨[],[],(rasV (zak 7 m.keep) d).w,(rasV (zak 7 m.keep) d).bits⟩) (by omega) j.2.1 hd (f.2 e).1;have g:∀ w s,propB 7 ⟨[],[],w,s⟩ = zae [w,hgt w s] ++ (putSR s).1:=fun _ _=>rfl
  obtain ⟨i,y,A,B⟩:=zit f.1;rw [q,g];generalize rasV (zak 7 m.keep) d = v at i y A B;have h:0 ≤ hgt v.w v.bits ∧ hgt v.w v.bits ≤ 32:=by omega
  have D:v.bits.length ≤ 2000:=by
   have h1:v.w * hgt v.w v.bits ≤ 32 * 32:=qbd i.2 h.2 h.1 (by omega);omega
  have x:=za3 [v.w,hgt v.w v.bits]
  have E:(putSR v.bits).1.length ≤ 70000:=by
   have:=zdk v.bits;omega
  obtain ⟨a,b,c,u,ib,k,l,o⟩:=z0y (zdi (n:=v.w) (by omega)) (zdi (n:=hgt v.w v.bits) (by omega)) (s:=v.bits) (by omega);refine z5u F1 q1 q2 c1 c2 L K d.w v.w _ d.bits v.bits _ a b c ?_ u ib k l o;rw [qb];simp only [qe,qt] at x;omega
end
def runX (m:Mig) (d:Dc):Option Dc:=if migOk m = true ∧ docOk d = true then runD m.keep d else none
def docZ:List SA:=[.nilsl,.nilsl,.int .i64 0,.str []]
abbrev RunK (m:Mig) (d:Dc):Out → Fz → Prop:=fun o c=>(runX m d = none ∧ o = .ret (.tup [.agg docZ,.va (.int .i64 90)])) ∨ (∃ e a b,runX m d = some e ∧ o = .ret (.tup [.agg (docS a b e.w e.bits),.va (.int .i64 0)]) ∧ DocAt c a b e)
theorem zfu (m:Mig) (sk c d:SA) (w:Int) (s:List UInt8) (p:Int) (g:FuncId) (h1:c.z = true) (k:d.z = true) (l:sk.z = true):∀ t ∈ [SV.agg (migS m sk),.agg (docS c d w s),.va (.int .i64 p),.va (.fn (.func g) [⟨1,0,0,0,0⟩])],SV.below 4 t:=by
 intro t f;have h:=SA.below_mono (show 1 ≤ 4 by decide) (SA.z_below h1);have i:=SA.below_mono (show 1 ≤ 4 by decide) (SA.z_below k);have j:=SA.below_mono (show 1 ≤ 4 by decide) (SA.z_below l);simp only [qg,qp,or_false] at f;rcases f with rfl | rfl | rfl | rfl
 ·intro a b;simp only [qg,qp,or_false] at b;rcases b with rfl | rfl | rfl | rfl | rfl
  ·trivial
  ·trivial
  ·trivial
  ·trivial
  ·exact j
 ·intro a b;simp only [qg,qp,or_false] at b;rcases b with rfl | rfl | rfl | rfl
  ·exact h
  ·exact i
  ·trivial
  ·trivial
 ·trivial
 ·intro p e;simp only [qs] at e;subst e; decide
theorem zoj {α:Type} {e:α → List SA} (a:Plain e) {l:List α} (t sz c:Nat) (μ:Mu) {ν:Mu}:((SB.arr t sz (l.map e) c).ren ν).ren μ = SB.arr t sz (l.map e) c:=by
 rw [zcx a rfl,zcx a rfl]
theorem zow {α β:Type} {a:List α} {b:List β} (h:a.length = b.length) (c:b = []):a = []:=by
 subst c; exact jo h
theorem zut (K:List Cel):(frzR K (valsF K)).length = K.length:=by rw [frzR,qa,qal,zdm,qdx]
theorem ycg (F:Fz) (hM:MLF F) (sk:SA) (m:Mig) (a1 b1:SA) (d:Dc) (hk:KpsAt F sk m.keep) (y:short m.keep) (u:m.keep.length < 1000000) (Z:DocAt F a1 b1 d) (g:DcSmall d) :
  Fo Tryz.prog F 38 [.agg (migS m sk),.agg (docS a1 b1 d.w d.bits)] (RunK m d):=by
 have hv:=zq5 F sk m hk y u;have M:=hk;have S:=Z;obtain ⟨an,ab,ae,ac,bn,bb,be,bc,rfl,rfl,hL,hK,az⟩:=Z;obtain ⟨kn,kb,ke,kc,kL,kr,rfl,-,-,-,-⟩:=hk;have U:=fun F1 (f:Fz.le F F1)=>zc2 F1 _ _ d (hL.mono f) (hK.mono f) g.l g.c g.b
 by_cases V:migOk m = true
 ·rw [V] at hv;by_cases B:docOk d = true
  ·rw [B] at U
   have x:m.keep.all zbd = true:=by
    simp only [migOk,qd] at V;exact V.2.2.2.2.2
   have hX:runX m d = runD m.keep d:=if_pos ⟨V,B⟩;have ay:=fun F1 (f:Fz.le F F1)=>zyh F1 an ab ae ac d.lines (hL.mono f) g.l
   have ax:=fun F1 (f:Fz.le F F1)=>zyg F1 bn bb be bc d.cells (hK.mono f) g.c
   have e1:(lin1 m.keep d).length = d.lines.length:=by rw [lin1,qa]
   have e2:(midD m.keep d).lines.length = d.lines.length:=by rw [midD,qa]
   have e3:(midD m.keep d).cells.length = d.cells.length:=by rw [midD,qa]
   have aa:=fun F1 (f:Fz.le F F1) k p R c2 (i:k = true → d.lines = [])=>ya4 F1 (hM.mono f) _ m _ _ d (KpsAt.up M f) y u x (S.mono f) g B k p R c2 i
   have E:=fun F1 (f:Fz.le F F1) k p R c2 (i:k = true → d.lines = [])=>ya5 F1 (hM.mono f) _ m _ _ d (KpsAt.up M f) y u x (S.mono f) g B k p R c2 (fun h=>by rw [lin1,i h]; rfl)
   have G:=fun F1 (f:Fz.le F F1) k p R c2 (q:p = true → d.cells = [])=>ya6 F1 (hM.mono f) _ m _ _ d (KpsAt.up M f) y u x (S.mono f) g B k p R c2 q
   have I:=fun F1 (f:Fz.le F F1) k p R c2 L K=>ya7 F1 (hM.mono f) _ m _ _ d (KpsAt.up M f) y u x (S.mono f) g B k p R c2 L K
   have ad:docOk ⟨(midD m.keep d).lines,(midD m.keep d).cells,d.w,d.bits⟩ = true:=z7g x B;have af:DcSmall ⟨(midD m.keep d).lines,(midD m.keep d).cells,d.w,d.bits⟩:=⟨by show (midD m.keep d).lines.length ≤ 1000; rw [e2]; exact g.l,by show (midD m.keep d).cells.length ≤ 1000; rw [e3]; exact g.c,g.b⟩
   have al:=fun F1 k p R c2 (i:k = true → d.lines = []) (q:p = true → d.cells = [])=>zy7 F1 k p R c2 (midD m.keep d).lines (midD m.keep d).cells d.w d.bits (fun h=>by rw [midD,i h]; rfl) (fun h=>by rw [midD,q h]; rfl) ad af
   have av:=fun F1 (f:Fz.le F F1)=>zwf F1 _ m 4 (KpsAt.up M f) y u
   obtain ⟨D,ag⟩:∃ D,runX m d = D:=⟨_,rfl⟩
   show Fo Tryz.prog F 38 _ (fun o F'=>(runX m d = none ∧ o = .ret (.tup [.agg docZ,.va (.int .i64 90)])) ∨ (∃ e a b,runX m d = some e ∧ o = .ret (.tup [.agg (docS a b e.w e.bits),.va (.int .i64 0)]) ∧ DocAt F' a b e));rw [ag];have ar:runD m.keep d = D:=by rw [← ag,hX]
   obtain ⟨L1,au⟩:∃ L1,lin1 m.keep d = L1:=⟨_,rfl⟩
   obtain ⟨A,ai⟩:∃ A,(midD m.keep d).lines = A:=⟨_,rfl⟩
   obtain ⟨n,ah⟩:∃ n,(midD m.keep d).cells = n:=⟨_,rfl⟩
   obtain ⟨X,ak⟩:∃ X,(rasV (zak 7 m.keep) d).w = X:=⟨_,rfl⟩
   obtain ⟨W,aj⟩:∃ W,(rasV (zak 7 m.keep) d).bits = W:=⟨_,rfl⟩
   have J:(¬ 0 < (zak 4 m.keep).length → D = some ⟨A,n,X,W⟩) ∧ (0 < (zak 4 m.keep).length → D = if allV (valsF n) = true then some ⟨A,frzR n (valsF n),X,W⟩ else none):=by
    rw [← ar,← ai,← ah,← ak,← aj];exact ⟨fun h=>if_neg h,fun h=>if_pos h⟩
   rw [au] at aa E e1;rw [ai] at E G e2 al;rw [ah] at G e3 al;rw [ak,aj] at I;obtain ⟨T,hT⟩:∃ T,decide (0 < (zak 4 m.keep).length) = T:=⟨_,rfl⟩
   rw [hT] at av;clear ar hX ag V B ad af x au ai ah ak aj;obtain ⟨id,src,aq,Y,ks⟩:=m;obtain ⟨L,K,w,s⟩:=d;refine fo_of hΘ Tryz.func38 rfl (by decide) _ _ rfl rfl rfl ?_;refine useFo hv rfl (zaa _) rfl ?_;rintro _ F1 f rfl;refine gae (by decide) ?_;refine usePu (U F1 f) rfl (zaa _) rfl ?_;refine brd (by decide) ?_;refine drawP hΘ mixed (lk [0,1,3,4] (.alt 2 (.alt 5 (.look 6 (.alt 7 (.look 8 (.last 9 .done)) .nil)) .nil) .nil)) [2] (by kernel_rfl) ⟨rfl,rfl,?_⟩;refine use (ay F1 f) [] rfl ⟨⟨rfl,rfl,rfl,.inr ⟨rfl,rfl,rfl,rfl⟩⟩,tv⟩ rfl trivial (by simp [SV.below,SA.below]) trivial ?_;rintro j F2 x0 n0 u2 ⟨rfl,rfl,k,O,i,a0,rfl,rfl⟩;refine ⟨Fz.r F1,rfl,?_⟩;refine use (ax F1 f) [] rfl ⟨⟨rfl,rfl,rfl,.inr ⟨rfl,rfl,rfl,rfl⟩⟩,tv⟩ rfl trivial (by simp [SV.below,SA.below]) trivial ?_;rintro j F2 x0 n0 u2 ⟨rfl,rfl,p,Q,q,aw,rfl,rfl⟩;refine ⟨Fz.r F1,rfl,Fz.r F1,rfl,?_⟩;refine use (aa F1 f k p O Q i) [(1,5),(2,6),(3,7)] rfl ⟨rfl,rfl,rfl,rfl,tv⟩ rfl (zb5 (by omega) _ _ _ _ _ _ _ _) (zfu _ _ _ _ _ _ _ _ rfl rfl rfl) ⟨rfl,zc8 zal,zc8 zad,tv⟩ ?_;rintro j F2 x0 n0 u2 ⟨rfl,rfl,rfl⟩;conv=>whnf
   have l2:=Fz.t f u2;refine use (E F2 l2 k p O Q i) [(1,5),(2,6),(3,7)] rfl ⟨rfl,rfl,rfl,rfl,tv⟩ rfl (zb5 (by omega) _ _ _ _ _ _ _ _) (zfu _ _ _ _ _ _ _ _ rfl rfl rfl) ⟨rfl,zc8 zal,zc8 zad,tv⟩ ?_;rintro j F3 x0 n0 u3 ⟨rfl,rfl,rfl⟩;conv=>whnf
   have l3:=Fz.t l2 u3;refine use (G F3 l3 k p O Q q) [(1,5),(2,6),(3,7)] rfl ⟨rfl,rfl,rfl,rfl,tv⟩ rfl (zb5 (by omega) _ _ _ _ _ _ _ _) (zfu _ _ _ _ _ _ _ _ rfl rfl rfl) ⟨rfl,zc8 zal,zc8 zad,tv⟩ ?_;rintro j F4 x0 n0 u4 ⟨rfl,rfl,rfl⟩;conv=>whnf
   have l4:=Fz.t l3 u4;refine useFo (av F4 l4) rfl (zaa _) rfl ?_;rintro _ F5 u5 rfl;have l5:=Fz.t l4 u5;refine ⟨fun gT=>?_,fun gT=>?_⟩
   ·refine use (al F5 k p O Q i q) [(1,5),(2,6),(3,7)] rfl ⟨rfl,tv⟩ rfl (zb5 (by omega) _ _ _ _ _ _ _ _) (by simp [SV.below,SA.below]) ⟨rfl,zc8 zal,zc8 zad,tv⟩ ?_;rintro j F6 x0 n0 u6 ⟨rfl,⟨am,rfl,rfl⟩ | ⟨am,rfl,rfl⟩⟩
    ·have l6:=Fz.t l5 u6;have Z:=(J.2 (od (hT.trans gT))).trans (if_pos am);refine brd (by decide) ?_;refine use (I F6 l6 k p O Q A (frzR n (valsF n))) [(1,5),(2,6),(3,7)] rfl ⟨rfl,rfl,rfl,rfl,tv⟩ rfl (zb5 (by omega) _ _ _ _ _ _ _ _) (zfu _ _ _ _ _ _ _ _ rfl rfl rfl) ⟨rfl,zc8 zal,zc8 zad,tv⟩ ?_;rintro j F8 x0 n0 u8 ⟨rfl,rfl,rfl⟩;refine zbe 6 (fun _=>.arr 148 2 (A.map encN) O) rfl rfl rfl (fun _ _=>by exact zoj zal _ _ _ _) (fun _ _=>zbj zal _ _ _ _ _) ?_;intro z1 F9 u9 ao;refine zbe 7 (fun _=>.arr 151 6 (((frzR n (valsF n))).map encK) Q) rfl rfl rfl (fun _ _=>by exact zoj zad _ _ _ _) (fun _ _=>zbj zad _ _ _ _ _) ?_;intro z2 FA uA ap;exact endFo (.ret (.tup [.agg [.slice k 0 (z1 0) 0 2 A.length O,.slice p 0 (z2 0) 0 6 ((frzR n (valsF n))).length Q,.int .i64 X,.str W],.va (.int .i64 0)])) FA rfl (Fz.t l6 (Fz.t u8 (Fz.t u9 uA))) (Fz.r FA) (.inr ⟨⟨A,(frzR n (valsF n)),X,W⟩,_,_,Z,rfl,zod (fun h=>zow e2 (i h)) (fun h=>uA _ _ (ao 0 ⟨by rw [h]; rfl,rfl⟩)) (sl_of (fun h=>zow ((zut n).trans e3) (q h)) fun h=>ap 0 ⟨by rw [h]; rfl,rfl⟩) (by rw [((zut n).trans e3)]; exact aw)⟩) ⟨rfl,rfl,tv⟩ rfl
    ·have l6:=Fz.t l5 u6;have Z:=(J.2 (od (hT.trans gT))).trans (if_neg (by rw [am]; decide));refine bre (by decide) ?_;exact endFo (.ret (.tup [.agg docZ,.va (.int .i64 90)])) F6 rfl l6 (Fz.r F6) (.inl ⟨Z,rfl⟩) ⟨rfl,rfl,tv⟩ rfl
   ·have Z:=J.1 (oe (hT.trans gT));refine use (I F5 l5 k p O Q A n) [(1,5),(2,6),(3,7)] rfl ⟨rfl,rfl,rfl,rfl,tv⟩ rfl (zb5 (by omega) _ _ _ _ _ _ _ _) (zfu _ _ _ _ _ _ _ _ rfl rfl rfl) ⟨rfl,zc8 zal,zc8 zad,tv⟩ ?_;rintro j F8 x0 n0 u8 ⟨rfl,rfl,rfl⟩;refine zbe 6 (fun _=>.arr 148 2 (A.map encN) O) rfl rfl rfl (fun _ _=>by exact zoj zal _ _ _ _) (fun _ _=>zbj zal _ _ _ _ _) ?_;intro z1 F9 u9 ao;refine zbe 7 (fun _=>.arr 151 6 ((n).map encK) Q) rfl rfl rfl (fun _ _=>by exact zoj zad _ _ _ _) (fun _ _=>zbj zad _ _ _ _ _) ?_;intro z2 FA uA ap;exact endFo (.ret (.tup [.agg [.slice k 0 (z1 0) 0 2 A.length O,.slice p 0 (z2 0) 0 6 (n).length Q,.int .i64 X,.str W],.va (.int .i64 0)])) FA rfl (Fz.t l5 (Fz.t u8 (Fz.t u9 uA))) (Fz.r FA) (.inr ⟨⟨A,n,X,W⟩,_,_,Z,rfl,zod (fun h=>zow e2 (i h)) (fun h=>uA _ _ (ao 0 ⟨by rw [h]; rfl,rfl⟩)) (sl_of (fun h=>zow e3 (q h)) fun h=>ap 0 ⟨by rw [h]; rfl,rfl⟩) (by rw [e3]; exact aw)⟩) ⟨rfl,rfl,tv⟩ rfl
  ·have B:docOk d = false:=by simpa using B
   rw [B] at U;have hX:runX m d = none:=if_neg (by rintro ⟨_,h⟩; rw [B] at h; cases h);obtain ⟨id,src,aq,Y,ks⟩:=m;obtain ⟨L,K,w,s⟩:=d;refine fo_of hΘ Tryz.func38 rfl (by decide) _ _ rfl rfl rfl ?_;refine useFo hv rfl (zaa _) rfl ?_;rintro _ F1 f rfl;refine gae (by decide) ?_;refine usePu (U F1 f) rfl (zaa _) rfl ?_;refine bre (by decide) ?_;exact endFo (.ret (.tup [.agg docZ,.va (.int .i64 90)])) F1 rfl f (Fz.r F1) (.inl ⟨hX,rfl⟩) ⟨rfl,rfl,tv⟩ rfl
 ·have V:migOk m = false:=by simpa using V
  rw [V] at hv;have hX:runX m d = none:=if_neg (by rintro ⟨h,_⟩; rw [V] at h; cases h);obtain ⟨id,src,aq,Y,ks⟩:=m;obtain ⟨L,K,w,s⟩:=d;refine fo_of hΘ Tryz.func38 rfl (by decide) _ _ rfl rfl rfl ?_;refine useFo hv rfl (zaa _) rfl ?_;rintro _ F1 f rfl;refine gaf (by decide) ?_;exact endFo (.ret (.tup [.agg docZ,.va (.int .i64 90)])) F1 rfl f (Fz.r F1) (.inl ⟨hX,rfl⟩) ⟨rfl,rfl,tv⟩ rfl
end Go.Proofs.YtfnkamphhpldcaaGreatDoor
