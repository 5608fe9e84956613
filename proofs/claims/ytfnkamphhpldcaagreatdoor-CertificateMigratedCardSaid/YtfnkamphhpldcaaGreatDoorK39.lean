import Derived.Test.YtfnkamphhpldcaaGreatDoorK38
set_option maxHeartbeats 64000000
namespace Go.Proofs.YtfnkamphhpldcaaGreatDoor
open Go Sx
set_option maxRecDepth 100000
theorem zvr (F:Fz) (q:Bool) (c:Nat) (l:List Cel) (k:q = true → l = []) (i:l.length ≤ 1000) :
  Ct Tryz.prog 87 [.va (.slice q 1 0 0 6 l.length c)] F [(1,rwE q 151 6 encK c l)] 2
   (fun o n m n0=>n0 = 2 ∧ ∃ j b c',o = .ret (.va (.slice j 0 b 0 6 l.length c')) ∧ Sl n 151 6 encK (.slice j 0 b 0 6 l.length c') l ∧ l.length ≤ c' ∧ m = [(1,rwE q 151 6 encK c l)]):=by
 rcases q with _ | _
 ·rcases l with _ | ⟨x,r⟩
  ·refine ct_of hΘ Tryz.func87 rfl (by decide) _ _ rfl rfl rfl ?_;refine brd (by decide) ?_;refine ⟨rfl,by simp,[],rfl,rfl,rfl,rfl,by decide,fun c' f=>?_⟩;refine zbn 3 (fun _=>.arr 151 6 [] c') rfl rfl rfl (fun _ _=>rfl) (fun _ _=>SB.bB_ok rfl) ?_;intro b e a d;exact clean [] (.ret (.va (.slice false 0 (b 0) 0 6 0 c'))) e [(1,rwE false 151 6 encK c [])] 2 ⟨a,rfl,false,b 0,c',rfl,Sl.new (l:=[]) (d 0 rfl),yj _,rfl⟩ ⟨rfl,rfl,rfl,.inr ⟨rfl,rfl,rfl,rfl⟩⟩ rfl rfl (.inr (by decide)) ⟨zan zad _ _ _ _ _ _,tv⟩ ⟨Fz.r e,zar zad (zao _ _ _ _ _),tv⟩
  ·replace i:r.length + 1 ≤ 1000:=i;have h:(0 + ((x :: r).map encK).length) * 48 ≤ 140737488355328:=by rw [qa,qh]; omega
   refine ct_of hΘ Tryz.func87 rfl (by decide) _ _ rfl rfl rfl ?_;refine brd (by decide) ?_;refine ⟨rfl,by simp,(x :: r).map encK,by rw [qaf,qn (by simp)],rfl,rfl,rfl,h,fun c' f=>?_⟩;have g:=f;clear f;refine zbn 3 (fun _=>.arr 151 6 ((x :: r).map encK) c') rfl rfl rfl (fun _ _=>by exact zcx zad rfl _ _ _ _) (fun _ _=>zbd zad _ _ _ _ _) ?_;intro b e a d;exact clean [] (.ret (.va (.slice false 0 (b 0) 0 6 (x :: r).length c'))) e [(1,rwE false 151 6 encK c (x :: r))] 2 ⟨a,rfl,false,b 0,c',rfl,Sl.new (l:=x :: r) (d 0 rfl),by simpa using g,rfl⟩ ⟨rfl,(by first | rfl | (rw [qa]; omega)),(by first | rfl | (rw [qa]; omega)),.inr ⟨rfl,rfl,rfl,rfl⟩⟩ rfl rfl (.inr (by decide)) ⟨zan zad _ _ _ _ _ _,tv⟩ ⟨Fz.r e,zar zad (zao _ _ _ _ _),tv⟩
 ·obtain rfl:=k rfl;refine ct_of hΘ Tryz.func87 rfl (by decide) _ _ rfl rfl rfl ?_;refine bre (by decide) ?_;exact clean [] (.ret (.va (.slice true 0 0 0 6 0 0))) F [(1,rwE true 151 6 encK c [])] 2 ⟨Fz.r F,rfl,true,0,0,rfl,Sl.nil,qm _,rfl⟩ ⟨rfl,rfl,rfl⟩ rfl rfl (.inl rfl) ⟨zan zad _ _ _ _ _ _,tv⟩ ⟨Fz.r F,zar zad (zao _ _ _ _ _),tv⟩
theorem sl_of {α:Type} {F:Fz} {q:Bool} {b c:Nat} {t sz:Nat} {e:α → List SA} {l:List α} (d:q = true → l = []) (a:q = false → F b = some (.arr t sz (l.map e) c)):Sl F t sz e (.slice q 0 b 0 sz l.length c) l:=by
 cases q with
 |true=>obtain rfl:=d rfl; exact ⟨true,b,0,c,[],0,rfl,fun _=>rfl,(fun h=>nomatch h),by simp,by simp⟩
 |false=>exact Sl.new (a rfl)
abbrev intE (z:Int):Ent:=.one (.cells 3 [.int .i64 z])
theorem z9n (F:Fz) (c:Cel) (r k:Int):Ct Tryz.prog 221 [.agg (encK c),.va (.ptr ⟨1,0,0,0,0⟩),.va (.ptr ⟨2,0,0,0,0⟩)] F [(1,intE r),(2,intE k)] 3
  (fun o f h n0=>F = f ∧ n0 = 3 ∧ o = .ret (.va (.bool (decide (c.row = r ∧ c.col = k)))) ∧ h = [(1,intE r),(2,intE k)]):=by
 obtain ⟨a,b,j,l,ct,i⟩:=c;have e:(a = r ∧ b = k) ∨ (a = r ∧ ¬ b = k) ∨ ¬ a = r:=by omega
 rcases e with ⟨h1,d⟩ | ⟨h1,d⟩ | h1
 ·refine ct_of hΘ Tryz.func221 rfl (by decide) _ _ rfl rfl rfl ?_;refine ⟨fun _=>?_,fun g=>absurd h1 (oe g)⟩;exact clean [] (.ret (.va (.bool (decide (a = r ∧ b = k))))) F [(1,intE r),(2,intE k)] 3 ⟨Fz.r F,rfl,rfl,rfl,rfl⟩ (ob (by simp [h1,d])) rfl rfl trivial ⟨(SB.bB_ok rfl:SB.below 3 (.cells 3 [.int .i64 r])),(SB.bB_ok rfl:SB.below 3 (.cells 3 [.int .i64 k])),tv⟩ ⟨Fz.r F,rfl,rfl,tv⟩
 ·refine ct_of hΘ Tryz.func221 rfl (by decide) _ _ rfl rfl rfl ?_;refine ⟨fun _=>?_,fun g=>absurd h1 (oe g)⟩;exact clean [] (.ret (.va (.bool (decide (a = r ∧ b = k))))) F [(1,intE r),(2,intE k)] 3 ⟨Fz.r F,rfl,rfl,rfl,rfl⟩ (ob (by simp [h1,d])) rfl rfl trivial ⟨(SB.bB_ok rfl:SB.below 3 (.cells 3 [.int .i64 r])),(SB.bB_ok rfl:SB.below 3 (.cells 3 [.int .i64 k])),tv⟩ ⟨Fz.r F,rfl,rfl,tv⟩
 ·refine ct_of hΘ Tryz.func221 rfl (by decide) _ _ rfl rfl rfl ?_;refine ⟨fun g=>absurd (od g) h1,fun _=>?_⟩;exact clean [] (.ret (.va (.bool (decide (a = r ∧ b = k))))) F [(1,intE r),(2,intE k)] 3 ⟨Fz.r F,rfl,rfl,rfl,rfl⟩ (ob (by simp [h1])) rfl rfl trivial ⟨(SB.bB_ok rfl:SB.below 3 (.cells 3 [.int .i64 r])),(SB.bB_ok rfl:SB.below 3 (.cells 3 [.int .i64 k])),tv⟩ ⟨Fz.r F,rfl,rfl,tv⟩
theorem zmu (c:Cel) (i j:Nat) (f:i < 3:=by omega) (e:j < 3:=by omega):∀ t ∈ [SV.agg (encK c),.va (.ptr ⟨i,0,0,0,0⟩),.va (.ptr ⟨j,0,0,0,0⟩)],SV.below 3 t:=by
 intro t b;simp only [qj,qs,or_false] at b;rcases b with rfl | rfl | rfl
 ·exact fun a d=>SA.below_mono (yj 3) ((zad c).2 a d)
 ·exact f
 ·exact e
theorem zfl {n:Nat} (r k:Int):bH n [(1,intE r),(2,intE k)]:=⟨(SB.bB_ok rfl:SB.below n (.cells 3 [.int .i64 r])),(SB.bB_ok rfl:SB.below n (.cells 3 [.int .i64 k])),tv⟩
theorem yae (F:Fz) (A:Bool) (I E G:Nat) (K:List Cel) (r k:Int) (i:Nat) (hb:Sl F 151 6 encK (.slice A 0 I E 6 K.length G) K) (hl:K.length ≤ 1000) (W:i < K.length) (s:(K[i]'hi).row = r ∧ (K[i]'hi).col = k) (m:∀ j (h:j < K.length),j < i → ¬ ((K[j]'h).row = r ∧ (K[j]'h).col = k)) :
  Ct Tryz.prog 220 [.va (.slice A 0 I E 6 K.length G),.va (.fn (.func 221) [⟨1,0,0,0,0⟩,⟨2,0,0,0,0⟩])] F [(1,intE r),(2,intE k)] 3
   (fun o T R n0=>F = T ∧ n0 = 3 ∧ o = .ret (.va (.int .i64 i)) ∧ R = [(1,intE r),(2,intE k)]):=by
 obtain ⟨Q,V,U,aa,M,O,y,D,d,S,u⟩:=hb;cases y
 have b:A = false:=Sl.lt D W;refine ct_of hΘ Tryz.func220 rfl (by decide) _ _ rfl rfl rfl ?_
 refine zam hΘ (X:={ j:Nat // j ≤ i }) (fun x=>[(8,.va (.int .i64 x.1))]) [4,5,9,10,11,12,13,14,15,16,17,18]
  (fun x=>[(0,.frz F),(1,intE r),(2,intE k)]) 3 (fun x=>i - x.1) ⟨0,yj _⟩
  (fun q w=>leI [] q w rfl ⟨tv,zfl r k⟩ ⟨rfl,tv⟩ ⟨Fz.r F,rfl,rfl,tv⟩) ?_
 rintro ⟨j,L⟩ q w;replace L:j ≤ i:=L;have J:j < K.length:=by omega
 have p:(j:Int) < (K.length:Int):=by omega
 have c:=Sl.at u J;have e:j < 4611686018427387904:=by omega
 have a:=z9n F (K[j]'gj) r k;by_cases g:j = i
 ·subst g;rw [decide_eq_true s] at a;refine bri p ?_;refine ⟨b,⟨jt j,p⟩,_,d b,_,c,?_⟩;refine use a [(1,1),(2,2)] rfl ⟨rfl,rfl,rfl,tv⟩ rfl (zfl r k) (zmu _ _ _) ⟨rfl,rfl,tv⟩ ?_;rintro f F1 Z n0 Y ⟨rfl,rfl,rfl,rfl⟩;refine bre (by decide) ?_;exact clean [] (.ret (.va (.int .i64 j))) F [(1,intE r),(2,intE k)] 3 ⟨Fz.r F,rfl,rfl,rfl,rfl⟩ (zah _) rfl rfl trivial (zfl r k) ⟨Fz.r F,rfl,rfl,tv⟩
 ·have n:j < i:=by omega
  have B:=m j J n;have l:i - (j + 1) < i - j:=by omega
  rw [decide_eq_false B] at a;refine bri p ?_;refine ⟨b,⟨jt j,p⟩,_,d b,_,c,?_⟩;refine use a [(1,1),(2,2)] rfl ⟨rfl,rfl,rfl,tv⟩ rfl (zfl r k) (zmu _ _ _) ⟨rfl,rfl,tv⟩ ?_;rintro f F1 Z n0 Y ⟨rfl,rfl,rfl,rfl⟩;refine brd (by decide) ?_;exact ⟨⟨j + 1,n⟩,l,leR [] q w rfl ⟨tv,zfl r k⟩ ⟨cnt e,tv⟩ ⟨Fz.r F,rfl,rfl,tv⟩⟩
theorem z3v (F:Fz) (Q J:SA) (d:Dc) (hD:DocAt F Q J d) (a:DcSmall d) (hd:docOk d = true) (r k:Int) (i:Nat) (q:i < d.cells.length) (x:(d.cells[i]'hi).row = r ∧ (d.cells[i]'hi).col = k) (p:∀ j (h:j < d.cells.length),j < i → ¬ ((d.cells[j]'h).row = r ∧ (d.cells[j]'h).col = k)) (v:Int) (y:(valsF d.cells)[i]? = some v) :
  Fo Tryz.prog F 153 [.agg (docS Q J d.w d.bits),.va (.int .i64 r),.va (.int .i64 k)] (fun o F'=>o = .ret (.tup [.va (.int .i64 v),.va (.bool true)])):=by
 obtain ⟨L,K,w,s⟩:=d;obtain ⟨W,ab,ae,Z,T,S,M,O,rfl,rfl,hL,A,f⟩:=hD;have B:=yae F T S M O K r k i A a.c q x p;have e:=fun F1 (m:Fz.le F F1)=>zcz F1 _ _ ⟨L,K,w,s⟩ (hL.mono m) (A.mono m) a.l a.c a.b
 rw [hd] at e;have G:=fun F1 (m:Fz.le F F1)=>zmq F1 W ab ae L.length Z T S M O K w s (A.mono m) a.c f
 replace q:i < K.length:=q;replace y:(valsF K)[i]? = some v:=y;have E:¬ (i:Int) < 0:=by omega
 have D:(i:Int) < (K.length:Int):=by omega
 refine fo_of hΘ Tryz.func153 rfl (by decide) _ _ rfl rfl rfl ?_;refine use B [(1,2),(2,3)] rfl ⟨⟨rfl,rfl,rfl,.inr ⟨rfl,rfl,rfl,rfl⟩⟩,rfl,tv⟩ rfl (zfl r k) (by simp [SV.below,SA.below]) ⟨rfl,rfl,tv⟩ ?_;rintro U F1 x0 n0 m ⟨rfl,rfl,rfl,rfl⟩;refine ⟨fun _=>?_,fun g=>absurd (od g) E⟩;refine useFo (e F (Fz.r F)) rfl (zaa _) rfl ?_;rintro _ X R ⟨rfl,rfl⟩;refine brd (by decide) ?_;refine useFo (G X R) rfl (zaa _) rfl ?_;rintro _ V Y (⟨rfl,n⟩ | ⟨vb,vc,vL,I,rfl,hb,hr⟩)
 ·exact absurd q (by rw [n]; simp)
 ·have u:=hr i v y;refine ⟨rfl,⟨jt i,D⟩,_,hb,_,u,?_⟩;exact endFo (.ret (.tup [.va (.int .i64 v),.va (.bool true)])) V rfl (Fz.t R Y) (Fz.r V) rfl (zah _) rfl
def encK2 (x:Cel × Bool):List SA:=[.int .i64 x.1.row,.int .i64 x.1.col,bif x.2 then .lit x.1.sum else .bool x.1.sum,.int .i64 x.1.value,.int .i64 x.1.top,.int .i64 x.1.left]
theorem zjv:Plain encK2:=fun x=>by
 obtain ⟨c,f⟩:=x
 cases f<;>exact ⟨fun μ=>rfl,fun a b=>by
  simp only [encK2,qj,qs,or_false] at b;rcases b with rfl | rfl | rfl | rfl | rfl | rfl<;>trivial⟩
theorem z8l (l:List Cel):(l.map fun c=>(c,false)).map encK2 = l.map encK:=by rw [q9]; rfl
theorem z5l {t c:Nat} (l:List Cel) (ρ:Rho) (o:Obj) (h:(SB.arr t 6 ((l.map fun c=>(c,true)).map encK2) c).ok ρ o):(SB.arr t 6 (l.map encK) c).ok ρ o:=by
 refine zsi (by simp) ?_ ?_ ρ o h
 ·intro z a;obtain ⟨u,_,rfl⟩:=qz.1 a;rfl
 ·intro ρ;rw [q9,qbo,qbo,q9,q9];rfl
theorem z9a {K:List Cel} (a:ascF K = true) {i:Nat} (c:i < K.length):∀ j (h:j < K.length),j < i → ¬ ((K[j]'h).row = (K[i]'hi).row ∧ (K[j]'h).col = (K[i]'hi).col):=by
 intro j h b;have:=List.pairwise_iff_getElem.1 (zr0 K a) j i h c b;unfold ltC at this;simp only [yy,qf,decide_eq_true_eq] at this;omega
theorem rw_K2 (μ:Mu) (a:Cel) (r:List Cel) (q:Bool) (t c:Nat):subE (some ((rwE q t 6 encK c (a :: r)).ren μ)) (rwE q t 6 encK2 c ((a,false) :: r.map fun c=>(c,false))):=by
 rw [zum zad];exact ⟨rfl,congrArg (fun L=>SB.arr t 6 L c) (z8l (a :: r)).symm⟩
theorem zl4 {e f:Bool} {b d c' l k:Nat} {w:Int} {s:List UInt8}:(Ent.one (.cells 41 [.slice e 2 0 0 2 l d,.slice f 0 b 0 6 k c',.int .i64 w,.str s])).below 5:=by
 intro a c;simp only [qj,qs,or_false] at c;rcases c with rfl | rfl | rfl | rfl
 ·exact .inr (by omega)
 ·exact .inr (by omega)
 ·trivial
 ·trivial
theorem swK2 {t c:Nat} {l:List (Cel × Bool)} {A:List Cel} (h:l = A.map fun c=>(c,true)) (ρ:Rho) (o:Obj) (g:(SB.arr t 6 (l.map encK2) c).ok ρ o):(SB.arr t 6 (A.map encK) c).ok ρ o:=by
 subst h; exact z5l A ρ o g
theorem zno {F:Fz} {b d:Bool} {e f c a:Nat} {L:List DLn} {K:List Cel} {w:Int} {s:List UInt8} (j:b = true → L = []) (i:b = false → F e = some (.arr 148 2 (L.map encN) c)) (h:Sl F 151 6 encK (.slice d 0 f 0 6 K.length a) K) (g:K.length ≤ a) :
  DocAt F (.slice b 0 e 0 2 L.length c) (.slice d 0 f 0 6 K.length a) ⟨L,K,w,s⟩:=⟨b,e,0,c,d,f,0,a,rfl,rfl,sl_of j i,h,g⟩
def allV (o:List Int):Bool:=o.all fun n=>inR n (-1000000) 1000000
theorem z7j {V:List Int} {k:Nat} (h:k < V.length) (g:¬ (-1000000 ≤ V[k] ∧ V[k] ≤ 1000000)):allV V = false:=by
 rw [allV];refine qcx.2 fun h1=>g ?_
 exact inRW.1 (qo.1 h1 _ (jp h))
theorem inAll {V:List Int} {k:Nat} (a:∀ j (h:j < k),∀ g:j < V.length,inR (V[j]'g) (-1000000) 1000000 = true) (h:k < V.length) (b:-1000000 ≤ V[k]) (c:V[k] ≤ 1000000):∀ j (h:j < k + 1),∀ g:j < V.length,inR (V[j]'g) (-1000000) 1000000 = true:=by
 intro j d g;rcases qb7 j k with h1 | h1
 ·exact a j h1 g
 ·obtain rfl:j = k:=by omega
  exact inRW.2 ⟨b,c⟩
abbrev gone3:List (Nat × Ent):=[(1,.gone),(2,.gone),(3,.gone)]
theorem zwn (F:Fz) (f M:Bool) (l m:Nat) (L:List DLn) (K:List Cel) (w:Int) (s:List UInt8) (an:f = true → L = []) (W:M = true → K = []) (hd:docOk ⟨L,K,w,s⟩ = true) (S:DcSmall ⟨L,K,w,s⟩) :
  Ct Tryz.prog 95 [.va (.ptr ⟨1,0,0,0,0⟩)] F (hpL f M l m L K w s) 4
   (fun o F0 h0 n0=>n0 = 4 ∧ ((allV (valsF K) = true ∧ o = .ret (.va (.bool true)) ∧ h0 = hpL f M l m L (frzR K (valsF K)) w s) ∨ (allV (valsF K) = false ∧ o = .ret (.va (.bool false)) ∧ h0 = gone3))):=by
 obtain ⟨V,hV⟩:∃ V,valsF K = V:=⟨_,rfl⟩
 have J:V.length = K.length:=by rw [← hV]; exact zdg K
 rw [hV];obtain ⟨A,hA⟩:∃ A,frzR K V = A:=⟨_,rfl⟩
 have G:A.length = K.length:=by rw [← hA,frzR,qa,qak]; omega
 have aj:∀ k (h:k < K.length),A[k]'(by omega) = ⟨(K[k]'h).row,(K[k]'h).col,false,V[k]'(by omega),0,0⟩:=fun k h=>by
  subst hA; simp [frzR,frzC]
 rw [hA];have B:=(zbg hd).asc;have aa:K.length ≤ 1000:=S.c;have R:=fun F1=>zvr F1 M m K W aa
 have D:=fun F1 a b (hD:DocAt F1 a b ⟨L,K,w,s⟩) i (hi:i < K.length) v hv=>z3v F1 a b ⟨L,K,w,s⟩ hD S hd (K[i]'hi).row (K[i]'hi).col i hi ⟨rfl,rfl⟩ (z9a B hi) v hv
 have ae:valsF (Dc.cells ⟨L,K,w,s⟩) = V:=hV;rw [ae] at D;clear ae hV hA B hd;rcases K with _ | ⟨a0,ar⟩
 ·obtain rfl:A = []:=jv G;obtain rfl:V = []:=jv J;refine ct_of hΘ Tryz.func95 rfl (by decide) _ _ rfl rfl rfl ?_;refine use (R F) [(1,3)] rfl ⟨⟨rfl,rfl,rfl,.inr ⟨rfl,rfl,rfl,rfl⟩⟩,tv⟩ rfl ⟨zan zad _ _ _ _ _ _,tv⟩ (by simp [SV.below,SA.below]) ⟨zar zad (zao _ _ _ _ _),tv⟩ ?_;rintro Z F1 x0 n0 l1 ⟨rfl,q',b,c',rfl,hS,hc,rfl⟩
  refine zam hΘ (X:=Unit) (fun x=>[(22,.va (.int .i64 0))]) [2,4,5,6,7,23,24,25,26,27,28,29,30,31,32,33,34,35,36,37,38,39,40,41,42,43,44,45,46,47,48,49,50,51,52,53,54,55,56,57,58,59,60,61,62]
   (fun x=>[(0,.frz F1),(1,docL f M L.length l 0 m w s),(2,rwE f 148 2 encN l L),(3,rwE M 151 6 encK m [])]) 5 (fun x=>0) ()
   (fun Q O=>leI [] Q O rfl ⟨tv,za3 (by omega) _ _ _ _ _ _ _ _,zan zal _ _ _ _ _ _,zan zad _ _ _ _ _ _,tv⟩ ⟨rfl,tv⟩ ⟨Fz.r F1,rfl,zar zal (zao _ _ _ _ _),zc5 zad,tv⟩) ?_
  rintro ⟨⟩ Q O;refine brd (by decide) ?_;exact clean [] (.ret (.va (.bool true))) F1 (hpL f M l m L [] w s) 4 ⟨l1,rfl,.inl ⟨rfl,rfl,rfl⟩⟩ (zah _) rfl rfl trivial (zbx (by omega) _ _ _ _ _ _ _ _) ⟨Fz.r F1,rfl,zar zal (zao _ _ _ _ _),zar zad (zao _ _ _ _ _),tv⟩
 ·obtain rfl:=zdk W;refine ct_of hΘ Tryz.func95 rfl (by decide) _ _ rfl rfl rfl ?_;refine use (R F) [(1,3)] rfl ⟨⟨rfl,rfl,rfl,.inr ⟨rfl,rfl,rfl,rfl⟩⟩,tv⟩ rfl ⟨zan zad _ _ _ _ _ _,tv⟩ (by simp [SV.below,SA.below]) ⟨zar zad (zao _ _ _ _ _),tv⟩ ?_;rintro Z F1 x0 n0 l1 ⟨rfl,q',b,c',rfl,hS,hc,rfl⟩
  refine zam hΘ (X:={ y:Nat × (Cel × Bool) × List (Cel × Bool) // y.1 ≤ ar.length + 1 ∧ (∀ j (h:j < y.1),∀ g:j < V.length,inR (V[j]'g) (-1000000) 1000000 = true) ∧ y.2.1 :: y.2.2 = mxl (A.map fun c=>(c,true)) ((a0 :: ar).map fun c=>(c,false)) y.1 }) (fun y=>[(22,.va (.int .i64 y.1.1))]) [2,4,5,6,7,23,24,25,26,27,28,29,30,31,32,33,34,35,36,37,38,39,40,41,42,43,44,45,46,47,48,49,50,51,52,53,54,55,56,57,58,59,60,61,62]
   (fun y=>[(0,.frz F1),(1,docL f false L.length l (ar.length + 1) m w s),(2,rwE f 148 2 encN l L),(3,rwE false 151 6 encK2 m (y.1.2.1 :: y.1.2.2)),(4,.one (.cells 41 [.slice f 2 0 0 2 L.length l,.slice q' 0 b 0 6 (ar.length + 1) c',.int .i64 w,.str s]))]) 5 (fun y=>ar.length + 1 - y.1.1)
   ⟨(0,(a0,false),ar.map fun c=>(c,false)),yj _,fun j h=>absurd h (qby j),(zfy _ _).symm⟩
   (fun Q O=>leI [] Q O rfl ⟨tv,za3 (by omega) _ _ _ _ _ _ _ _,zan zal _ _ _ _ _ _,zan zjv _ _ _ _ _ _,zl4,tv⟩ ⟨rfl,tv⟩ ⟨Fz.r F1,rfl,zar zal (zao _ _ _ _ _),zar zjv (rw_K2 _ _ _ _ _ _),rfl,tv⟩) ?_
  rintro ⟨⟨k,a1,r1⟩,hk,u,q⟩ Q O;replace hk:k ≤ ar.length + 1:=hk;replace u:∀ j (h:j < k),∀ g:j < V.length,inR (V[j]'g) (-1000000) 1000000 = true:=u;replace q:a1 :: r1 = mxl (A.map fun c=>(c,true)) ((a0 :: ar).map fun c=>(c,false)) k:=q;have p:(A.map fun c=>(c,true)).length = ((a0 :: ar).map fun c=>(c,false)).length:=by rw [qa,qa,G]
  have ac:((a0 :: ar).map fun c=>(c,false)).length = ar.length + 1:=by rw [qa]; rfl
  by_cases g:k < ar.length + 1
  ·have gi:(k:Int) < ((ar.length + 1:Nat):Int):=by omega
   have ai:ar.length + 1 - (k + 1) < ar.length + 1 - k:=by omega
   have ag:k < 4611686018427387904:=by have:ar.length + 1 ≤ 1000:=aa; omega
   have g2:k < ((a0 :: ar).map fun c=>(c,false)).length:=by rw [ac]; exact g
   have d:=zj8 (e:=encK2) p g2 q;have T:=fun x=>zf6 (e:=encK2) (x:=x) p g2 q
   rw [yr] at d;have U:=aj k g;have gv:k < V.length:=by rw [J]; exact g
   have I:=fun F1 a b hD=>D F1 a b hD k g (V[k]'gv) (qe gv)
   have h2:=zf5 (a0:=(a0,false)) (ar:=ar.map fun c=>(c,false)) p (k + 1);obtain ⟨a2,r2,am⟩:=h2;have ab:a2 :: r2 = mxl (A.map fun c=>(c,true)) ((a0 :: ar).map fun c=>(c,false)) (k + 1):=am;rw [← ab] at T;have ak:[SA.int .i64 ((a0 :: ar)[k]'g).row,.int .i64 ((a0 :: ar)[k]'g).col,.lit false,.int .i64 (V[k]'gv),.int .i64 0,.int .i64 0] = encK2 ((A.map fun c=>(c,true))[k]'(by rw [p]; exact g2)):=by rw [yr,U]; rfl
   refine bri gi ?_;refine ⟨rfl,⟨jt k,gi⟩,?_⟩;refine drawP hΘ mixed (lk [0,1,2,3,4,5,6,7,8] (.alt 9 (lk [10,11,12,13,14] .done) .nil)) [3,4] (by kernel_rfl) ?_;refine ⟨rfl,rfl,rfl,_,d,rfl,rfl,_,d,?_⟩;refine lend 2 (fun _=>.arr 148 2 (L.map encN) l) rfl rfl rfl (fun _ _=>by exact zcx zal rfl _ _ _ _) (fun _ _=>zbd zal _ _ _ _ _) ?_;intro bl F2 l2 al;refine useFo (I F2 (.slice f 0 (bl 0) 0 2 L.length l) (.slice q' 0 b 0 6 (ar.length + 1) c') (zno an (fun h=>al 0 ⟨by rw [h]; rfl,rfl⟩) (hS.mono l2) hc)) rfl ⟨rfl,rfl,rfl,tv⟩ rfl ?_;rintro _ F3 l3 rfl;refine ⟨F3,rfl,l3,rfl,Fz.r F1,rfl,rfl,fun g1=>?_,fun g1=>?_⟩
   ·refine br (fun g3=>?_) (fun g3=>?_)
    ·exact clean [] (.ret (.va (.bool false))) F1 gone3 4 ⟨l1,rfl,.inr ⟨z7j gv (fun h=>absurd (od g3) (qce.2 h.2)),rfl,rfl⟩⟩ (zah _) rfl rfl trivial ⟨tv,tv,tv,tv⟩ ⟨Fz.r F1,tv⟩
    ·have ah:=inAll u gv (qce.1 (oe g1)) (qce.1 (oe g3));refine drawP hΘ mixed (lk [0,1,2,3,4,5,6,7,8,9] (.alt 10 (.look 11 (.last 12 .done)) .nil)) [3] (by kernel_rfl) ?_;refine ⟨rfl,rfl,_,d,rfl,rfl,_,d,Fz.r F1,rfl,rfl,_,d,?_⟩
     exact ⟨⟨(k + 1,a2,r2),g,ah,ab⟩,ai,leR [] Q O rfl ⟨tv,za3 (by omega) _ _ _ _ _ _ _ _,zan zal _ _ _ _ _ _,zan zjv _ _ _ _ _ _,zl4,tv⟩ ⟨cnt ag,tv⟩
      ⟨Fz.r F1,rfl,zar zal (zao _ _ _ _ _),zar zjv (rw_op rfl (T _ ak)),rfl,tv⟩⟩
   ·exact clean [] (.ret (.va (.bool false))) F1 gone3 4 ⟨l1,rfl,.inr ⟨z7j gv (fun h=>absurd (od g1) (qce.2 h.1)),rfl,rfl⟩⟩ (zah _) rfl rfl trivial ⟨tv,tv,tv,tv⟩ ⟨Fz.r F1,tv⟩
  ·have gi:¬ (k:Int) < ((ar.length + 1:Nat):Int):=by omega
   have ad:k = ar.length + 1:=by omega
   have af:a1 :: r1 = A.map fun c=>(c,true):=by
    rw [q,show k = ((a0 :: ar).map fun c=>(c,false)).length by rw [ac]; exact ad,zhm p]
   have Y:allV V = true:=by
    rw [allV,qo];intro n hn;obtain ⟨j,hj,rfl⟩:=List.mem_iff_getElem.1 hn;exact u j (by rw [ad]; exact Nat.lt_of_lt_of_eq hj J) hj
   have E:docB f false L.length l (ar.length + 1) m w s = (docB f false L.length l A.length m w s).ren (sig []):=by rw [G]; rfl
   refine brj gi ?_;refine ycu 3 (.arr 151 6 (A.map encK) m) rfl (swK2 af) (zbd zad _ _ _ _ _) ?_;exact clean [] (.ret (.va (.bool true))) F1 (hpL f false l m L A w s) 4 ⟨l1,rfl,.inl ⟨Y,rfl,rfl⟩⟩ (zah _) rfl rfl trivial (zbx (by omega) _ _ _ _ _ _ _ _) ⟨Fz.r F1,E,zar zal (zao _ _ _ _ _),zar zad (zao _ _ _ _ _),tv⟩
def lin1 (a:List Kp) (d:Dc):List DLn:=d.lines.map fun l=>((lineR (zak 1 a) (zak 2 a) l).1,l.2)
theorem zjy {p:Int} (a:1 ≤ p ∧ p ≤ 8) {t:List Stp} (b:zbb p t = true) {d e:Dc} (c:docOk d = true) (h:runS t (zcl p d) = zcl p e):(zdb p t (propB p d)).1 = propB p e:=by
 rw [zio a,zkx b (zhv a c),h,← zio a]
theorem zqs {L:List DLn} (h:L.all dlnOk = true):(∀ l ∈ L,l.1.length ≤ 65536) ∧ ∀ l ∈ L,okI l.2:=by
 refine ⟨fun l a=>?_,fun l a=>?_⟩
 all_goals
  have:=qo.1 h l a;unfold dlnOk at this;simp only [qf,decide_eq_true_eq,inRW] at this
 ·omega
 ·exact zde (by omega)
theorem zzw {K:List Cel} (h:∀ c ∈ K,celOk c = true):∀ c ∈ K,okI c.row ∧ okI c.col ∧ okI c.value:=by
 intro c b;have:=h c b;unfold celOk at this;simp only [qf,inRW] at this;refine ⟨zde (by omega),zde (by omega),?_⟩;cases a:c.sum with
 |true=>
  rw [a] at this;simp only [if_true,qf,decide_eq_true_eq] at this;exact zde (by omega)
 |false=>
  rw [a] at this;simp only [ju,if_false,qf,decide_eq_true_eq,inRW] at this;exact zde (by omega)
theorem z2o {c:Cel} (h:c.sum = false):(⟨c.row,c.col,false,0,c.top,c.left⟩:Cel) = { c with value:=0 }:=by
 obtain ⟨a,b,s,v,t,l⟩:=c;replace h:s = false:=h;subst h; rfl
section
variable (F:Fz) (hM:MLF F) (sk:SA) (m:Mig) (a1 b1:SA) (d:Dc) (hk:KpsAt F sk m.keep) (hks:short m.keep) (hkl:m.keep.length < 1000000) (hko:m.keep.all zbk = true) (hD:DocAt F a1 b1 d) (hsm:DcSmall d) (hd:docOk d = true) (q1 q2:Bool) (c1 c2:Nat)
include hM hk hks hkl hko hD hsm hd
theorem yc3 (c:q1 = true → d.lines = []):Ct Tryz.prog 88 [.agg (migS m sk),.agg (docS a1 b1 d.w d.bits),.va (.int .i64 1),.va (.fn (.func 89) [⟨1,0,0,0,0⟩])] F (hpL q1 q2 c1 c2 d.lines d.cells d.w d.bits) 4 (finL q1 q2 c1 c2 (lin1 m.keep d) d.cells d.w d.bits):=by
 have g:=zbe hko (p:=1) (by omega);have j:=zbe hko (p:=2) (by omega);refine zik F hM sk m 1 (by omega) _ a1 b1 d hk hks hkl hD hsm hd q1 q2 c1 c2 d.lines _ d.cells _ d.w _ d.bits _ (fun e=>⟨?_,rfl,rfl,rfl⟩) (fun e F1=>?_) (fun _ e F1=>?_)
 ·rw [lin1,e]
  conv=>rhs; rw [← qcz d.lines]
  exact q8 fun l _=>rfl
 ·refine z03 F1 q1 q2 c1 c2 d.lines _ d.cells d.w d.bits c hsm.l ?_;rw [lin1,e];exact q8 fun l _=>rfl
 ·have i:=zoe g.1 j.1 hd;have o:=zjy (p:=1) (by omega) g.2.1 hd (val1 g.1 j.1 hd e d.cells d.w d.bits)
  have u:docOk ⟨d.lines.map (lineR (zak 1 m.keep) (zak 2 m.keep)),d.cells,d.w,d.bits⟩ = true:=by
   have h:=zbg hd;exact zgt (by rw [qa]; exact h.lines) h.cells h.asc i h.cel h.ras
  have b:=zcw (p:=1) u;have f:(d.lines.map (lineR (zak 1 m.keep) (zak 2 m.keep))).length ≤ 1000:=by rw [qa]; exact hsm.l
  have a:propB 1 ⟨d.lines.map (lineR (zak 1 m.keep) (zak 2 m.keep)),d.cells,d.w,d.bits⟩ = ptext (d.lines.map (lineR (zak 1 m.keep) (zak 2 m.keep))):=rfl;rw [o,a];rw [a] at b;obtain ⟨q,s,x,n⟩:=zzi f (zqs i).1 (by omega);refine z3g F1 q1 q2 c1 c2 d.lines _ d.cells d.w d.bits _ q _ c hsm.l (by rw [lin1,qa]) (by omega) s x fun k h=>?_
  have:=n k (by rw [qa]; exact h);simp only [yr] at this;simp only [lin1,yr];exact ⟨this,tv⟩
theorem yc6 (f:q1 = true → lin1 m.keep d = []):Ct Tryz.prog 88 [.agg (migS m sk),.agg (docS a1 b1 d.w d.bits),.va (.int .i64 2),.va (.fn (.func 92) [⟨1,0,0,0,0⟩])] F (hpL q1 q2 c1 c2 (lin1 m.keep d) d.cells d.w d.bits) 4 (finL q1 q2 c1 c2 (midD m.keep d).lines d.cells d.w d.bits):=by
 have j:=zbe hko (p:=1) (by omega);have i:=zbe hko (p:=2) (by omega);have c:(lin1 m.keep d).length ≤ 1000:=by rw [lin1,qa]; exact hsm.l
 refine zik F hM sk m 2 (by omega) _ a1 b1 d hk hks hkl hD hsm hd q1 q2 c1 c2 (lin1 m.keep d) _ d.cells _ d.w _ d.bits _ (fun e=>⟨?_,rfl,rfl,rfl⟩) (fun e F1=>?_) (fun _ e F1=>?_)
 ·rw [lin1,midD,e];exact q8 fun l _=>rfl
 ·refine z0s F1 q1 q2 c1 c2 _ _ d.cells d.w d.bits f c ?_;rw [lin1,midD,e,q9];exact q8 fun l _=>rfl
 ·have n:=zoe j.1 i.1 hd;have y:=zjy (p:=2) (by omega) i.2.1 hd (val2 j.1 i.1 hd e d.cells d.w d.bits)
  have s:docOk ⟨d.lines.map (lineR (zak 1 m.keep) (zak 2 m.keep)),d.cells,d.w,d.bits⟩ = true:=by
   have h:=zbg hd;exact zgt (by rw [qa]; exact h.lines) h.cells h.asc n h.cel h.ras
  have b:=zcw (p:=2) s;have g:(d.lines.map (lineR (zak 1 m.keep) (zak 2 m.keep))).length ≤ 1000:=by rw [qa]; exact hsm.l
  have a:propB 2 ⟨d.lines.map (lineR (zak 1 m.keep) (zak 2 m.keep)),d.cells,d.w,d.bits⟩ = pmot (d.lines.map (lineR (zak 1 m.keep) (zak 2 m.keep))):=rfl;rw [y,a];rw [a] at b;obtain ⟨q,u,o,x⟩:=z0h g (zqs n).2 (by omega);refine z5r F1 q1 q2 c1 c2 _ _ d.cells d.w d.bits _ q _ f c (by rw [lin1,midD,qa,qa]) (by omega) u o fun k h=>?_
  have:=x k (by rw [qa]; rw [lin1,qa] at h; exact h);simp only [yr] at this;simp only [lin1,midD,yr];exact ⟨this,tv⟩
theorem ydp (g:q2 = true → d.cells = []):Ct Tryz.prog 88 [.agg (migS m sk),.agg (docS a1 b1 d.w d.bits),.va (.int .i64 3),.va (.fn (.func 93) [⟨1,0,0,0,0⟩])] F (hpL q1 q2 c1 c2 (midD m.keep d).lines d.cells d.w d.bits) 4 (finL q1 q2 c1 c2 (midD m.keep d).lines (midD m.keep d).cells d.w d.bits):=by
 have u:=zbe hko (p:=3) (by omega);refine zik F hM sk m 3 (by omega) _ a1 b1 d hk hks hkl hD hsm hd q1 q2 c1 c2 _ _ d.cells _ d.w _ d.bits _ (fun e=>⟨rfl,?_,rfl,rfl⟩) (fun e F1=>?_) (fun _ e F1=>?_)
 ·rw [midD,e]
  conv=>rhs; rw [← qcz d.cells]
  exact q8 fun c _=>zpj c
 ·refine z7b F1 q1 q2 c1 c2 _ d.cells _ d.w d.bits g hsm.c (by rw [midD,qa]) fun k h=>?_
  simp only [midD,yr,e];unfold cellR;split
  ·rfl
  ·rename_i l;have l:(d.cells[k]).sum = false:=by simpa using l
   rw [if_pos rfl];exact z2o l
 ·have n:=cells_ok u.1 hd;have S:=zjy (p:=3) (by omega) u.2.1 hd (val3 u.1 hd e d.lines d.w d.bits)
  have I:docOk ⟨d.lines,d.cells.map (cellR (zak 3 m.keep)),d.w,d.bits⟩ = true:=by
   have h:=zbg hd;exact zgt h.lines (by rw [qa]; exact h.cells) n.1 (qo.2 h.ln) n.2 h.ras
  have i:=zcw (p:=3) I;have s:(d.cells.map (cellR (zak 3 m.keep))).length ≤ 1000:=by rw [qa]; exact hsm.c
  have f:propB 3 ⟨d.lines,d.cells.map (cellR (zak 3 m.keep)),d.w,d.bits⟩ = zcm false (d.cells.map (cellR (zak 3 m.keep))):=rfl;rw [S,f];rw [f] at i;obtain ⟨q,z,M,D,Q⟩:=zxv s (zzw n.2) (by omega);refine z3a F1 q1 q2 c1 c2 _ d.cells _ d.w d.bits _ q z g hsm.c (by rw [midD,qa]) (by omega) M D fun k h=>?_
  have:=Q k (by rw [qa]; exact h);simp only [yr] at this;simp only [midD,yr];obtain ⟨A,y,x,B,G,J⟩:=zcp (zak 3 m.keep) d.cells[k];rw [A,y,x] at this;rcases this with ⟨j,o⟩ | ⟨j,a,b,o,R,L,O,K⟩
  ·exact .inl ⟨j,o,J j⟩
  ·refine .inr ⟨j,a,b,_,o,R,L,O,K,?_⟩;have E:cellR (zak 3 m.keep) d.cells[k] = ⟨(cellR (zak 3 m.keep) d.cells[k]).row,(cellR (zak 3 m.keep) d.cells[k]).col,(cellR (zak 3 m.keep) d.cells[k]).sum,(cellR (zak 3 m.keep) d.cells[k]).value,(cellR (zak 3 m.keep) d.cells[k]).top,(cellR (zak 3 m.keep) d.cells[k]).left⟩:=rfl;rw [E,A,y,x,B,G]
theorem ycc (L:List DLn) (K:List Cel):Ct Tryz.prog 88 [.agg (migS m sk),.agg (docS a1 b1 d.w d.bits),.va (.int .i64 7),.va (.fn (.func 96) [⟨1,0,0,0,0⟩])] F (hpL q1 q2 c1 c2 L K d.w d.bits) 4 (finL q1 q2 c1 c2 L K (rasV (zak 7 m.keep) d).w (rasV (zak 7 m.keep) d).bits):=by
 have j:=zbe hko (p:=7) (by omega);have f:=zyj j.1 hd;refine zik F hM sk m 7 (by omega) _ a1 b1 d hk hks hkl hD hsm hd q1 q2 c1 c2 L _ K _ d.w _ d.bits _ (fun e=>⟨rfl,rfl,?_,?_⟩) (fun e F1=>?_) (fun _ e F1=>?_)
 ·rw [e]; rfl
 ·rw [e]; rfl
 ·rw [e]; exact z3t F1 q1 q2 c1 c2 L K d.w d.bits
 ·have y:=zjy (p:=7) (e:=⟨[],[],(rasV (zak 7 m.keep) d).w,(rasV (zak 7 m.keep) d).bits⟩) (by omega) j.2.1 hd (f.2 e).1;have g:∀ w s,propB 7 ⟨[],[],w,s⟩ = zae [w,hgt w s] ++ (putSR s).1:=fun _ _=>rfl
  obtain ⟨h,A,o,B⟩:=zh5 f.1;rw [y,g];generalize rasV (zak 7 m.keep) d = v at h A o B;have i:0 ≤ hgt v.w v.bits ∧ hgt v.w v.bits ≤ 32:=by omega
  have D:v.bits.length ≤ 2000:=by
   have h1:v.w * hgt v.w v.bits ≤ 32 * 32:=qbn h.2 i.2 i.1 (by omega);omega
  have u:=za0 [v.w,hgt v.w v.bits]
  have E:(putSR v.bits).1.length ≤ 70000:=by
   have:=zdf v.bits;omega
  obtain ⟨a,b,c,l,ib,x,q,k⟩:=zwy (zde (n:=v.w) (by omega)) (zde (n:=hgt v.w v.bits) (by omega)) (s:=v.bits) (by omega);refine z6n F1 q1 q2 c1 c2 L K d.w v.w _ d.bits v.bits _ a b c ?_ l ib x q k;rw [qd];simp only [qh,qt] at u;omega
end
def runX (m:Mig) (d:Dc):Option Dc:=if migOk m = true ∧ docOk d = true then runD m.keep d else none
def docZ:List SA:=[.nilsl,.nilsl,.int .i64 0,.str []]
abbrev RunK (m:Mig) (d:Dc):Out → Fz → Prop:=fun o c=>(runX m d = none ∧ o = .ret (.tup [.agg docZ,.va (.int .i64 90)])) ∨ (∃ e a b,runX m d = some e ∧ o = .ret (.tup [.agg (docS a b e.w e.bits),.va (.int .i64 0)]) ∧ DocAt c a b e)
theorem zfu (m:Mig) (sk e d:SA) (w:Int) (s:List UInt8) (p:Int) (g:FuncId) (h1:e.z = true) (i:d.z = true) (j:sk.z = true):∀ t ∈ [SV.agg (migS m sk),.agg (docS e d w s),.va (.int .i64 p),.va (.fn (.func g) [⟨1,0,0,0,0⟩])],SV.below 4 t:=by
 intro t c;have k:=SA.below_mono (show 1 ≤ 4 by decide) (SA.z_below h1);have h:=SA.below_mono (show 1 ≤ 4 by decide) (SA.z_below i);have l:=SA.below_mono (show 1 ≤ 4 by decide) (SA.z_below j);simp only [qj,qs,or_false] at c;rcases c with rfl | rfl | rfl | rfl
 ·intro a b;simp only [qj,qs,or_false] at b;rcases b with rfl | rfl | rfl | rfl | rfl
  ·trivial
  ·trivial
  ·trivial
  ·trivial
  ·exact l
 ·intro a b;simp only [qj,qs,or_false] at b;rcases b with rfl | rfl | rfl | rfl
  ·exact k
  ·exact h
  ·trivial
  ·trivial
 ·trivial
 ·intro p f;simp only [qu] at f;subst f; decide
theorem zm6 {α:Type} {e:α → List SA} (a:Plain e) {l:List α} (t sz c:Nat) (μ:Mu) {ν:Mu}:((SB.arr t sz (l.map e) c).ren ν).ren μ = SB.arr t sz (l.map e) c:=by
 rw [zcx a rfl,zcx a rfl]
theorem znv {α β:Type} {a:List α} {b:List β} (h:a.length = b.length) (c:b = []):a = []:=by
 subst c; exact jv h
theorem zuj (K:List Cel):(frzR K (valsF K)).length = K.length:=by rw [frzR,qa,qak,zdg,qdk]
theorem ydm (F:Fz) (hM:MLF F) (sk:SA) (m:Mig) (a1 b1:SA) (d:Dc) (hk:KpsAt F sk m.keep) (x:short m.keep) (u:m.keep.length < 1000000) (X:DocAt F a1 b1 d) (g:DcSmall d) :
  Fo Tryz.prog F 38 [.agg (migS m sk),.agg (docS a1 b1 d.w d.bits)] (RunK m d):=by
 have hv:=zqa F sk m hk x u;have J:=hk;have S:=X;obtain ⟨an,ab,ae,ac,bn,bb,be,bc,rfl,rfl,hL,hK,az⟩:=X;obtain ⟨kn,kb,ke,kc,kL,kr,rfl,-,-,-,-⟩:=hk;have U:=fun F1 (f:Fz.le F F1)=>zcz F1 _ _ d (hL.mono f) (hK.mono f) g.l g.c g.b
 by_cases W:migOk m = true
 ·rw [W] at hv;by_cases A:docOk d = true
  ·rw [A] at U
   have y:m.keep.all zbk = true:=by
    simp only [migOk,qf] at W;exact W.2.2.2.2.2
   have hX:runX m d = runD m.keep d:=if_pos ⟨W,A⟩;have ax:=fun F1 (f:Fz.le F F1)=>zzv F1 an ab ae ac d.lines (hL.mono f) g.l
   have ay:=fun F1 (f:Fz.le F F1)=>zyy F1 bn bb be bc d.cells (hK.mono f) g.c
   have e1:(lin1 m.keep d).length = d.lines.length:=by rw [lin1,qa]
   have e2:(midD m.keep d).lines.length = d.lines.length:=by rw [midD,qa]
   have e3:(midD m.keep d).cells.length = d.cells.length:=by rw [midD,qa]
   have ad:=fun F1 (f:Fz.le F F1) k p V R (j:k = true → d.lines = [])=>yc3 F1 (hM.mono f) _ m _ _ d (KpsAt.up J f) x u y (S.mono f) g A k p V R j
   have G:=fun F1 (f:Fz.le F F1) k p V R (j:k = true → d.lines = [])=>yc6 F1 (hM.mono f) _ m _ _ d (KpsAt.up J f) x u y (S.mono f) g A k p V R (fun h=>by rw [lin1,j h]; rfl)
   have E:=fun F1 (f:Fz.le F F1) k p V R (q:p = true → d.cells = [])=>ydp F1 (hM.mono f) _ m _ _ d (KpsAt.up J f) x u y (S.mono f) g A k p V R q
   have M:=fun F1 (f:Fz.le F F1) k p V R L K=>ycc F1 (hM.mono f) _ m _ _ d (KpsAt.up J f) x u y (S.mono f) g A k p V R L K
   have af:docOk ⟨(midD m.keep d).lines,(midD m.keep d).cells,d.w,d.bits⟩ = true:=z7i y A;have aa:DcSmall ⟨(midD m.keep d).lines,(midD m.keep d).cells,d.w,d.bits⟩:=⟨by show (midD m.keep d).lines.length ≤ 1000; rw [e2]; exact g.l,by show (midD m.keep d).cells.length ≤ 1000; rw [e3]; exact g.c,g.b⟩
   have am:=fun F1 k p V R (j:k = true → d.lines = []) (q:p = true → d.cells = [])=>zwn F1 k p V R (midD m.keep d).lines (midD m.keep d).cells d.w d.bits (fun h=>by rw [midD,j h]; rfl) (fun h=>by rw [midD,q h]; rfl) af aa
   have aw:=fun F1 (f:Fz.le F F1)=>zuk F1 _ m 4 (KpsAt.up J f) x u
   obtain ⟨D,al⟩:∃ D,runX m d = D:=⟨_,rfl⟩
   show Fo Tryz.prog F 38 _ (fun o F'=>(runX m d = none ∧ o = .ret (.tup [.agg docZ,.va (.int .i64 90)])) ∨ (∃ e a b,runX m d = some e ∧ o = .ret (.tup [.agg (docS a b e.w e.bits),.va (.int .i64 0)]) ∧ DocAt F' a b e));rw [al];have au:runD m.keep d = D:=by rw [← al,hX]
   obtain ⟨L1,ar⟩:∃ L1,lin1 m.keep d = L1:=⟨_,rfl⟩
   obtain ⟨B,ak⟩:∃ B,(midD m.keep d).lines = B:=⟨_,rfl⟩
   obtain ⟨n,ag⟩:∃ n,(midD m.keep d).cells = n:=⟨_,rfl⟩
   obtain ⟨RW,ao⟩:∃ RW,(rasV (zak 7 m.keep) d).w = RW:=⟨_,rfl⟩
   obtain ⟨Y,ap⟩:∃ Y,(rasV (zak 7 m.keep) d).bits = Y:=⟨_,rfl⟩
   have I:(¬ 0 < (zak 4 m.keep).length → D = some ⟨B,n,RW,Y⟩) ∧ (0 < (zak 4 m.keep).length → D = if allV (valsF n) = true then some ⟨B,frzR n (valsF n),RW,Y⟩ else none):=by
    rw [← au,← ak,← ag,← ao,← ap];exact ⟨fun h=>if_neg h,fun h=>if_pos h⟩
   rw [ar] at ad G e1;rw [ak] at G E e2 am;rw [ag] at E e3 am;rw [ao,ap] at M;obtain ⟨T,hT⟩:∃ T,decide (0 < (zak 4 m.keep).length) = T:=⟨_,rfl⟩
   rw [hT] at aw;clear au hX al W A af aa y ar ak ag ao ap;obtain ⟨id,src,av,Z,ks⟩:=m;obtain ⟨L,K,w,s⟩:=d;refine fo_of hΘ Tryz.func38 rfl (by decide) _ _ rfl rfl rfl ?_;refine useFo hv rfl (zaa _) rfl ?_;rintro _ F1 f rfl;refine gae (by decide) ?_;refine usePu (U F1 f) rfl (zaa _) rfl ?_;refine brd (by decide) ?_;refine drawP hΘ mixed (lk [0,1,3,4] (.alt 2 (.alt 5 (.look 6 (.alt 7 (.look 8 (.last 9 .done)) .nil)) .nil) .nil)) [2] (by kernel_rfl) ?_;refine ⟨rfl,rfl,?_⟩;refine use (ax F1 f) [] rfl ⟨⟨rfl,rfl,rfl,.inr ⟨rfl,rfl,rfl,rfl⟩⟩,tv⟩ rfl trivial (by simp [SV.below,SA.below]) trivial ?_;rintro i F2 x0 n0 u2 ⟨rfl,rfl,k,Q,j,a0,rfl,rfl⟩;refine ⟨Fz.r F1,rfl,?_⟩;refine use (ay F1 f) [] rfl ⟨⟨rfl,rfl,rfl,.inr ⟨rfl,rfl,rfl,rfl⟩⟩,tv⟩ rfl trivial (by simp [SV.below,SA.below]) trivial ?_;rintro i F2 x0 n0 u2 ⟨rfl,rfl,p,O,q,aq,rfl,rfl⟩;refine ⟨Fz.r F1,rfl,Fz.r F1,rfl,?_⟩;refine use (ad F1 f k p Q O j) [(1,5),(2,6),(3,7)] rfl ⟨rfl,rfl,rfl,rfl,tv⟩ rfl (zbx (by omega) _ _ _ _ _ _ _ _) (zfu _ _ _ _ _ _ _ _ rfl rfl rfl) ⟨rfl,zc5 zal,zc5 zad,tv⟩ ?_;rintro i F2 x0 n0 u2 ⟨rfl,rfl,rfl⟩;conv=>whnf
   have l2:=Fz.t f u2;refine use (G F2 l2 k p Q O j) [(1,5),(2,6),(3,7)] rfl ⟨rfl,rfl,rfl,rfl,tv⟩ rfl (zbx (by omega) _ _ _ _ _ _ _ _) (zfu _ _ _ _ _ _ _ _ rfl rfl rfl) ⟨rfl,zc5 zal,zc5 zad,tv⟩ ?_;rintro i F3 x0 n0 u3 ⟨rfl,rfl,rfl⟩;conv=>whnf
   have l3:=Fz.t l2 u3;refine use (E F3 l3 k p Q O q) [(1,5),(2,6),(3,7)] rfl ⟨rfl,rfl,rfl,rfl,tv⟩ rfl (zbx (by omega) _ _ _ _ _ _ _ _) (zfu _ _ _ _ _ _ _ _ rfl rfl rfl) ⟨rfl,zc5 zal,zc5 zad,tv⟩ ?_;rintro i F4 x0 n0 u4 ⟨rfl,rfl,rfl⟩;conv=>whnf
   have l4:=Fz.t l3 u4;refine useFo (aw F4 l4) rfl (zaa _) rfl ?_;rintro _ F5 u5 rfl;have l5:=Fz.t l4 u5;refine ⟨fun gT=>?_,fun gT=>?_⟩
   ·refine use (am F5 k p Q O j q) [(1,5),(2,6),(3,7)] rfl ⟨rfl,tv⟩ rfl (zbx (by omega) _ _ _ _ _ _ _ _) (by simp [SV.below,SA.below]) ⟨rfl,zc5 zal,zc5 zad,tv⟩ ?_;rintro i F6 x0 n0 u6 ⟨rfl,⟨ah,rfl,rfl⟩ | ⟨ah,rfl,rfl⟩⟩
    ·have l6:=Fz.t l5 u6;have X:=(I.2 (od (hT.trans gT))).trans (if_pos ah);refine brd (by decide) ?_;refine use (M F6 l6 k p Q O B (frzR n (valsF n))) [(1,5),(2,6),(3,7)] rfl ⟨rfl,rfl,rfl,rfl,tv⟩ rfl (zbx (by omega) _ _ _ _ _ _ _ _) (zfu _ _ _ _ _ _ _ _ rfl rfl rfl) ⟨rfl,zc5 zal,zc5 zad,tv⟩ ?_;rintro i F8 x0 n0 u8 ⟨rfl,rfl,rfl⟩;refine zbn 6 (fun _=>.arr 148 2 (B.map encN) Q) rfl rfl rfl (fun _ _=>by exact zm6 zal _ _ _ _) (fun _ _=>zbd zal _ _ _ _ _) ?_;intro z1 F9 u9 aj;refine zbn 7 (fun _=>.arr 151 6 (((frzR n (valsF n))).map encK) O) rfl rfl rfl (fun _ _=>by exact zm6 zad _ _ _ _) (fun _ _=>zbd zad _ _ _ _ _) ?_;intro z2 FA uA ai;exact endFo (.ret (.tup [.agg [.slice k 0 (z1 0) 0 2 B.length Q,.slice p 0 (z2 0) 0 6 ((frzR n (valsF n))).length O,.int .i64 RW,.str Y],.va (.int .i64 0)])) FA rfl (Fz.t l6 (Fz.t u8 (Fz.t u9 uA))) (Fz.r FA) (.inr ⟨⟨B,(frzR n (valsF n)),RW,Y⟩,_,_,X,rfl,zno (fun h=>znv e2 (j h)) (fun h=>uA _ _ (aj 0 ⟨by rw [h]; rfl,rfl⟩)) (sl_of (fun h=>znv ((zuj n).trans e3) (q h)) fun h=>ai 0 ⟨by rw [h]; rfl,rfl⟩) (by rw [((zuj n).trans e3)]; exact aq)⟩) ⟨rfl,rfl,tv⟩ rfl
    ·have l6:=Fz.t l5 u6;have X:=(I.2 (od (hT.trans gT))).trans (if_neg (by rw [ah]; decide));refine bre (by decide) ?_;exact endFo (.ret (.tup [.agg docZ,.va (.int .i64 90)])) F6 rfl l6 (Fz.r F6) (.inl ⟨X,rfl⟩) ⟨rfl,rfl,tv⟩ rfl
   ·have X:=I.1 (oe (hT.trans gT));refine use (M F5 l5 k p Q O B n) [(1,5),(2,6),(3,7)] rfl ⟨rfl,rfl,rfl,rfl,tv⟩ rfl (zbx (by omega) _ _ _ _ _ _ _ _) (zfu _ _ _ _ _ _ _ _ rfl rfl rfl) ⟨rfl,zc5 zal,zc5 zad,tv⟩ ?_;rintro i F8 x0 n0 u8 ⟨rfl,rfl,rfl⟩;refine zbn 6 (fun _=>.arr 148 2 (B.map encN) Q) rfl rfl rfl (fun _ _=>by exact zm6 zal _ _ _ _) (fun _ _=>zbd zal _ _ _ _ _) ?_;intro z1 F9 u9 aj;refine zbn 7 (fun _=>.arr 151 6 ((n).map encK) O) rfl rfl rfl (fun _ _=>by exact zm6 zad _ _ _ _) (fun _ _=>zbd zad _ _ _ _ _) ?_;intro z2 FA uA ai;exact endFo (.ret (.tup [.agg [.slice k 0 (z1 0) 0 2 B.length Q,.slice p 0 (z2 0) 0 6 (n).length O,.int .i64 RW,.str Y],.va (.int .i64 0)])) FA rfl (Fz.t l5 (Fz.t u8 (Fz.t u9 uA))) (Fz.r FA) (.inr ⟨⟨B,n,RW,Y⟩,_,_,X,rfl,zno (fun h=>znv e2 (j h)) (fun h=>uA _ _ (aj 0 ⟨by rw [h]; rfl,rfl⟩)) (sl_of (fun h=>znv e3 (q h)) fun h=>ai 0 ⟨by rw [h]; rfl,rfl⟩) (by rw [e3]; exact aq)⟩) ⟨rfl,rfl,tv⟩ rfl
  ·have A:docOk d = false:=by simpa using A
   rw [A] at U;have hX:runX m d = none:=if_neg (by rintro ⟨_,h⟩; rw [A] at h; cases h);obtain ⟨id,src,av,Z,ks⟩:=m;obtain ⟨L,K,w,s⟩:=d;refine fo_of hΘ Tryz.func38 rfl (by decide) _ _ rfl rfl rfl ?_;refine useFo hv rfl (zaa _) rfl ?_;rintro _ F1 f rfl;refine gae (by decide) ?_;refine usePu (U F1 f) rfl (zaa _) rfl ?_;refine bre (by decide) ?_;exact endFo (.ret (.tup [.agg docZ,.va (.int .i64 90)])) F1 rfl f (Fz.r F1) (.inl ⟨hX,rfl⟩) ⟨rfl,rfl,tv⟩ rfl
 ·have W:migOk m = false:=by simpa using W
  rw [W] at hv;have hX:runX m d = none:=if_neg (by rintro ⟨h,_⟩; rw [W] at h; cases h);obtain ⟨id,src,av,Z,ks⟩:=m;obtain ⟨L,K,w,s⟩:=d;refine fo_of hΘ Tryz.func38 rfl (by decide) _ _ rfl rfl rfl ?_;refine useFo hv rfl (zaa _) rfl ?_;rintro _ F1 f rfl;refine gaf (by decide) ?_;exact endFo (.ret (.tup [.agg docZ,.va (.int .i64 90)])) F1 rfl f (Fz.r F1) (.inl ⟨hX,rfl⟩) ⟨rfl,rfl,tv⟩ rfl
end Go.Proofs.YtfnkamphhpldcaaGreatDoor
