import Derived.Test.YtfnkamphhpldcaaGreatDoorK28
import Derived.Test.YtfnkamphhpldcaaGreatDoorK29
import Derived.Test.YtfnkamphhpldcaaGreatDoorK25
import Derived.Test.YtfnkamphhpldcaaGreatDoorK26
import Derived.Test.YtfnkamphhpldcaaGreatDoorK23
set_option maxHeartbeats 64000000
namespace Go.Proofs.YtfnkamphhpldcaaGreatDoor
open Go Sx
set_option maxRecDepth 100000
theorem zgk {P:Program} {f:FuncId} {args:List SV} {h:Hp} {nx:Nat} {K:Out → Hp → Nat → Prop} (i:Nat) (h1:(Nat.ble (i + 1) nx && !Nat.beq i 0) = true) (c:zba P f args (lput h i .gone) nx K):zba P f args h nx K:=by
 unfold zba at *;intro C ρ w vs S b d;simp only [qf,qan] at h1;have e:i < nx:=nb h1.1;have a:i ≠ 0:=fun h=>by rw [h] at h1; exact absurd h1.2 (by decide)
 exact c C ρ w vs (S.forget e a) b d
theorem zc4 {n:Int} (h:-4611686018427387903 ≤ n ∧ n ≤ 4611686018427387903) (l:List Int):zae (n :: l) ≠ []:=by
 rw [zae,qv,jx,zed h];intro h;exact zi5 n (qc6.1 h).1
theorem zm1 {α:Type} {a b:List α} (h:a ≠ []):a ++ b ≠ []:=fun c=>h (qc6.1 c).1
theorem ze5 {p:Int} {d:Dc} (h:docOk d = true):propB p d ≠ []:=by
 obtain ⟨i,g,l,f,c,a⟩:=zbg h;obtain ⟨j,m,o,n⟩:=zh5 a;have e:∀ b,(d.cells.filter (keepQ b)).length ≤ 64:=fun b=>js (qad _ _) g
 have h1:=e true;have k:=e false;unfold propB;split
 ·exact zm1 (zc4 (by omega) _)
 split
 ·exact zm1 (zc4 (by omega) _)
 split
 ·exact zm1 (zc4 (by omega) _)
 split
 ·exact zm1 (zc4 (by omega) _)
 split
 ·exact zm1 (zc4 (by omega) _)
 split
 ·exact zc4 (by omega) _
 split
 ·exact zm1 (zc4 (by omega) _)
 ·exact zc4 (by omega) _
def pAns (p:Int) (d:Dc):Out:=.ret (.tup [.va (.str (if docOk d = true then propB p d else [])),.va (.int .i64 (if docOk d = true then 0 else 60))])
theorem zhy {p:Int} {d:Dc} (h:docOk d = true):pAns p d = .ret (.tup [.va (.str (propB p d)),.va (.int .i64 0)]):=by rw [pAns,if_pos h,if_pos h]
theorem zh4 {p:Int} {d:Dc} (h:docOk d = false):pAns p d = .ret (.tup [.va (.str []),.va (.int .i64 60)]):=by rw [pAns,h]; rfl
theorem z1i (hP:PFun) (F:Fz) (q:Bool) (B E y:Nat) (D:Bool) (A u i:Nat) (d:Dc) (G:Sl F 148 2 encN (.slice q 0 B E 2 d.lines.length y) d.lines) (Q:Sl F 151 6 encK (.slice D 0 A u 6 d.cells.length i) d.cells)
  (J:d.lines.length ≤ 1000) (R:d.cells.length ≤ 1000) (S:d.bits.length ≤ 70000) (j:d.cells.length ≤ i) :
  Fo Tryz.prog F 48 [.agg (docS (.slice q 0 B E 2 d.lines.length y) (.slice D 0 A u 6 d.cells.length i) d.w d.bits),.va (.int .i64 1)] (fun o F'=>o = pAns 1 d):=by
 have f:=zcz F _ _ d G Q J R S;have c:=zhy (p:=1) (d:=d);have g:=zh4 (p:=1) (d:=d);have e:=ze5 (p:=1) (d:=d);have U:propB 1 d = ptext d.lines:=rfl
 have n:docOk d = true → ∀ x ∈ d.lines,x.1.length ≤ 1000000:=fun M x n=>by
  have:=(zbg M).ln x n;unfold dlnOk at this;simp only [qf,decide_eq_true_eq] at this;omega
 have a:=zcw (p:=1) (d:=d);have b:=fun M:docOk d = true=>ydv hP F q B E y D A u d.cells.length i d.lines d.w d.bits G J (n M)
 rw [← U] at b;clear n U S J R j;obtain ⟨T,V⟩:∃ T,propB 1 d = T:=⟨_,rfl⟩
 rw [V] at b c e a;clear V;obtain ⟨L,K,w,s⟩:=d;replace G:Sl F 148 2 encN (.slice q 0 B E 2 L.length y) L:=G;replace Q:Sl F 151 6 encK (.slice D 0 A u 6 K.length i) K:=Q;obtain ⟨v,Y⟩:∃ v,docOk ⟨L,K,w,s⟩ = v:=⟨_,rfl⟩
 rw [Y] at f c g e b a
 have m:∀ (z:Out) (F1:Fz) (h:Hp) (nx:Nat),pAns 1 ⟨L,K,w,s⟩ = z → (∀ μ,z.ren μ = z) → z.z = true → Fz.le F F1 → lget h 0 = some (.frz F1) → Cln 1 (FoK F fun o F'=>o = pAns 1 ⟨L,K,w,s⟩) z h nx:=by
  intro z F1 h nx X hr O l I;subst X;exact endFo (pAns 1 ⟨L,K,w,s⟩) F1 I l (Fz.r F1) rfl (by rw [hr]; exact zah _) O
 refine fo_of hΘ Tryz.func48 rfl (by decide) _ _ rfl rfl rfl ?_;refine use (ze6 F) [] rfl trivial rfl trivial (by simp) trivial ?_;rintro _ F0 I n0 l ⟨rfl,rfl,rfl,rfl⟩;refine bre (by decide) ?_;refine usePu f rfl (zaa _) rfl ?_;rcases v with _ | _
 ·refine bre (by decide) ?_;exact m _ F _ _ (g rfl) (fun _=>rfl) rfl (Fz.r F) rfl
 ·refine brd (by decide) ?_;refine zgk 2 rfl ?_;refine use (b rfl) [(1,3),(2,2)] rfl ⟨rfl,rfl,tv⟩ rfl ⟨zas _ (by omega) (by omega) _ _,zai zab _ _ _ _ _,tv⟩ (by simp [SV.below,SC.below,SA.below]) ⟨rfl,rfl,tv⟩ ?_;rintro W F1 I n0 k ⟨rfl,rfl,u1,c1,Z,rfl⟩;refine zfb (e rfl) (a rfl) rfl (zej (by rfl) (by rfl) _ _) rfl (zgc zab _ _ _ _ _) ?_;intro o';exact m _ F1 _ _ (c rfl) (fun _=>rfl) rfl k rfl
theorem z4o (hP:PFun) (F:Fz) (n:Bool) (A D u:Nat) (B:Bool) (y q i:Nat) (d:Dc) (E:Sl F 148 2 encN (.slice n 0 A D 2 d.lines.length u) d.lines) (O:Sl F 151 6 encK (.slice B 0 y q 6 d.cells.length i) d.cells)
  (J:d.lines.length ≤ 1000) (Q:d.cells.length ≤ 1000) (R:d.bits.length ≤ 70000) (j:d.cells.length ≤ i) :
  Fo Tryz.prog F 48 [.agg (docS (.slice n 0 A D 2 d.lines.length u) (.slice B 0 y q 6 d.cells.length i) d.w d.bits),.va (.int .i64 2)] (fun o F'=>o = pAns 2 d):=by
 have f:=zcz F _ _ d E O J Q R;have c:=zhy (p:=2) (d:=d);have g:=zh4 (p:=2) (d:=d);have e:=ze5 (p:=2) (d:=d);have U:propB 2 d = pmot d.lines:=rfl
 have G:docOk d = true → ∀ x ∈ d.lines,x.1.length ≤ 1000000:=fun S x G=>by
  have:=(zbg S).ln x G;unfold dlnOk at this;simp only [qf,decide_eq_true_eq] at this;omega
 have a:=zcw (p:=2) (d:=d);have b:=fun S:docOk d = true=>ycw hP F n A D u B y q d.cells.length i d.lines d.w d.bits E J
 rw [← U] at b;clear G U R J Q j;obtain ⟨T,V⟩:∃ T,propB 2 d = T:=⟨_,rfl⟩
 rw [V] at b c e a;clear V;obtain ⟨L,K,w,s⟩:=d;replace E:Sl F 148 2 encN (.slice n 0 A D 2 L.length u) L:=E;replace O:Sl F 151 6 encK (.slice B 0 y q 6 K.length i) K:=O;obtain ⟨v,Y⟩:∃ v,docOk ⟨L,K,w,s⟩ = v:=⟨_,rfl⟩
 rw [Y] at f c g e b a
 have m:∀ (z:Out) (F1:Fz) (h:Hp) (nx:Nat),pAns 2 ⟨L,K,w,s⟩ = z → (∀ μ,z.ren μ = z) → z.z = true → Fz.le F F1 → lget h 0 = some (.frz F1) → Cln 1 (FoK F fun o F'=>o = pAns 2 ⟨L,K,w,s⟩) z h nx:=by
  intro z F1 h nx X hr M l I;subst X;exact endFo (pAns 2 ⟨L,K,w,s⟩) F1 I l (Fz.r F1) rfl (by rw [hr]; exact zah _) M
 refine fo_of hΘ Tryz.func48 rfl (by decide) _ _ rfl rfl rfl ?_;refine use (ze6 F) [] rfl trivial rfl trivial (by simp) trivial ?_;rintro _ F0 I n0 l ⟨rfl,rfl,rfl,rfl⟩;refine brd (by decide) ?_; (conv=>whnf); refine bre (by decide) ?_;refine usePu f rfl (zaa _) rfl ?_;rcases v with _ | _
 ·refine bre (by decide) ?_;exact m _ F _ _ (g rfl) (fun _=>rfl) rfl (Fz.r F) rfl
 ·refine brd (by decide) ?_;refine zgk 2 rfl ?_;refine use (b rfl) [(1,3),(2,2)] rfl ⟨rfl,rfl,tv⟩ rfl ⟨zas _ (by omega) (by omega) _ _,zai zab _ _ _ _ _,tv⟩ (by simp [SV.below,SC.below,SA.below]) ⟨rfl,rfl,tv⟩ ?_;rintro W F1 I n0 k ⟨rfl,rfl,u1,c1,Z,rfl⟩;refine zfb (e rfl) (a rfl) rfl (zej (by rfl) (by rfl) _ _) rfl (zgc zab _ _ _ _ _) ?_;intro o';exact m _ F1 _ _ (c rfl) (fun _=>rfl) rfl k rfl
theorem z06 (hP:PFun) (F:Fz) (n:Bool) (A D u:Nat) (B:Bool) (y q i:Nat) (d:Dc) (O:Sl F 148 2 encN (.slice n 0 A D 2 d.lines.length u) d.lines) (E:Sl F 151 6 encK (.slice B 0 y q 6 d.cells.length i) d.cells)
  (R:d.lines.length ≤ 1000) (G:d.cells.length ≤ 1000) (Q:d.bits.length ≤ 70000) (j:d.cells.length ≤ i) :
  Fo Tryz.prog F 48 [.agg (docS (.slice n 0 A D 2 d.lines.length u) (.slice B 0 y q 6 d.cells.length i) d.w d.bits),.va (.int .i64 3)] (fun o F'=>o = pAns 3 d):=by
 have f:=zcz F _ _ d O E R G Q;have c:=zhy (p:=3) (d:=d);have g:=zh4 (p:=3) (d:=d);have e:=ze5 (p:=3) (d:=d);have U:propB 3 d = zcm false d.cells:=rfl
 have I:docOk d = true → ∀ x ∈ d.lines,x.1.length ≤ 1000000:=fun S x I=>by
  have:=(zbg S).ln x I;unfold dlnOk at this;simp only [qf,decide_eq_true_eq] at this;omega
 have a:=zcw (p:=3) (d:=d);have b:=fun S:docOk d = true=>yc7 hP F n A D d.lines.length u B y q i d.cells d.w d.bits E G
 rw [← U] at b;clear I U Q R G j;obtain ⟨T,V⟩:∃ T,propB 3 d = T:=⟨_,rfl⟩
 rw [V] at b c e a;clear V;obtain ⟨L,K,w,s⟩:=d;replace O:Sl F 148 2 encN (.slice n 0 A D 2 L.length u) L:=O;replace E:Sl F 151 6 encK (.slice B 0 y q 6 K.length i) K:=E;obtain ⟨v,Y⟩:∃ v,docOk ⟨L,K,w,s⟩ = v:=⟨_,rfl⟩
 rw [Y] at f c g e b a
 have m:∀ (z:Out) (F1:Fz) (h:Hp) (nx:Nat),pAns 3 ⟨L,K,w,s⟩ = z → (∀ μ,z.ren μ = z) → z.z = true → Fz.le F F1 → lget h 0 = some (.frz F1) → Cln 1 (FoK F fun o F'=>o = pAns 3 ⟨L,K,w,s⟩) z h nx:=by
  intro z F1 h nx X hr M l J;subst X;exact endFo (pAns 3 ⟨L,K,w,s⟩) F1 J l (Fz.r F1) rfl (by rw [hr]; exact zah _) M
 refine fo_of hΘ Tryz.func48 rfl (by decide) _ _ rfl rfl rfl ?_;refine use (ze6 F) [] rfl trivial rfl trivial (by simp) trivial ?_;rintro _ F0 J n0 l ⟨rfl,rfl,rfl,rfl⟩;refine brd (by decide) ?_; (conv=>whnf); refine brd (by decide) ?_; (conv=>whnf); refine bre (by decide) ?_;refine usePu f rfl (zaa _) rfl ?_;rcases v with _ | _
 ·refine bre (by decide) ?_;exact m _ F _ _ (g rfl) (fun _=>rfl) rfl (Fz.r F) rfl
 ·refine brd (by decide) ?_;refine zgk 2 rfl ?_;refine use (b rfl) [(1,3),(2,2)] rfl ⟨rfl,rfl,tv⟩ rfl ⟨zas _ (by omega) (by omega) _ _,zai zab _ _ _ _ _,tv⟩ (by simp [SV.below,SC.below,SA.below]) ⟨rfl,rfl,tv⟩ ?_;rintro W F1 J n0 k ⟨rfl,rfl,u1,c1,Z,rfl⟩;refine zfb (e rfl) (a rfl) rfl (zej (by rfl) (by rfl) _ _) rfl (zgc zab _ _ _ _ _) ?_;intro o';exact m _ F1 _ _ (c rfl) (fun _=>rfl) rfl k rfl
theorem z3n (hP:PFun) (F:Fz) (n:Bool) (A D u:Nat) (B:Bool) (y q i:Nat) (d:Dc) (O:Sl F 148 2 encN (.slice n 0 A D 2 d.lines.length u) d.lines) (E:Sl F 151 6 encK (.slice B 0 y q 6 d.cells.length i) d.cells)
  (R:d.lines.length ≤ 1000) (G:d.cells.length ≤ 1000) (Q:d.bits.length ≤ 70000) (j:d.cells.length ≤ i) :
  Fo Tryz.prog F 48 [.agg (docS (.slice n 0 A D 2 d.lines.length u) (.slice B 0 y q 6 d.cells.length i) d.w d.bits),.va (.int .i64 4)] (fun o F'=>o = pAns 4 d):=by
 have f:=zcz F _ _ d O E R G Q;have c:=zhy (p:=4) (d:=d);have g:=zh4 (p:=4) (d:=d);have e:=ze5 (p:=4) (d:=d);have U:propB 4 d = zcm true d.cells:=rfl
 have I:docOk d = true → ∀ x ∈ d.lines,x.1.length ≤ 1000000:=fun S x I=>by
  have:=(zbg S).ln x I;unfold dlnOk at this;simp only [qf,decide_eq_true_eq] at this;omega
 have a:=zcw (p:=4) (d:=d);have b:=fun S:docOk d = true=>yc2 hP F n A D d.lines.length u B y q i d.cells d.w d.bits E G
 rw [← U] at b;clear I U Q R G j;obtain ⟨T,V⟩:∃ T,propB 4 d = T:=⟨_,rfl⟩
 rw [V] at b c e a;clear V;obtain ⟨L,K,w,s⟩:=d;replace O:Sl F 148 2 encN (.slice n 0 A D 2 L.length u) L:=O;replace E:Sl F 151 6 encK (.slice B 0 y q 6 K.length i) K:=E;obtain ⟨v,Y⟩:∃ v,docOk ⟨L,K,w,s⟩ = v:=⟨_,rfl⟩
 rw [Y] at f c g e b a
 have m:∀ (z:Out) (F1:Fz) (h:Hp) (nx:Nat),pAns 4 ⟨L,K,w,s⟩ = z → (∀ μ,z.ren μ = z) → z.z = true → Fz.le F F1 → lget h 0 = some (.frz F1) → Cln 1 (FoK F fun o F'=>o = pAns 4 ⟨L,K,w,s⟩) z h nx:=by
  intro z F1 h nx X hr M l J;subst X;exact endFo (pAns 4 ⟨L,K,w,s⟩) F1 J l (Fz.r F1) rfl (by rw [hr]; exact zah _) M
 refine fo_of hΘ Tryz.func48 rfl (by decide) _ _ rfl rfl rfl ?_;refine use (ze6 F) [] rfl trivial rfl trivial (by simp) trivial ?_;rintro _ F0 J n0 l ⟨rfl,rfl,rfl,rfl⟩;refine brd (by decide) ?_; (conv=>whnf); refine brd (by decide) ?_; (conv=>whnf); refine brd (by decide) ?_; (conv=>whnf); refine bre (by decide) ?_;refine usePu f rfl (zaa _) rfl ?_;rcases v with _ | _
 ·refine bre (by decide) ?_;exact m _ F _ _ (g rfl) (fun _=>rfl) rfl (Fz.r F) rfl
 ·refine brd (by decide) ?_;refine zgk 2 rfl ?_;refine use (b rfl) [(1,3),(2,2)] rfl ⟨rfl,rfl,tv⟩ rfl ⟨zas _ (by omega) (by omega) _ _,zai zab _ _ _ _ _,tv⟩ (by simp [SV.below,SC.below,SA.below]) ⟨rfl,rfl,tv⟩ ?_;rintro W F1 J n0 k ⟨rfl,rfl,u1,c1,Z,rfl⟩;refine zfb (e rfl) (a rfl) rfl (zej (by rfl) (by rfl) _ _) rfl (zgc zab _ _ _ _ _) ?_;intro o';exact m _ F1 _ _ (c rfl) (fun _=>rfl) rfl k rfl
theorem z1e (hP:PFun) (F:Fz) (n:Bool) (A D u:Nat) (B:Bool) (y q j:Nat) (d:Dc) (O:Sl F 148 2 encN (.slice n 0 A D 2 d.lines.length u) d.lines) (E:Sl F 151 6 encK (.slice B 0 y q 6 d.cells.length j) d.cells)
  (R:d.lines.length ≤ 1000) (G:d.cells.length ≤ 1000) (Q:d.bits.length ≤ 70000) (c:d.cells.length ≤ j) :
  Fo Tryz.prog F 48 [.agg (docS (.slice n 0 A D 2 d.lines.length u) (.slice B 0 y q 6 d.cells.length j) d.w d.bits),.va (.int .i64 5)] (fun o F'=>o = pAns 5 d):=by
 have g:=zcz F _ _ d O E R G Q;have e:=zhy (p:=5) (d:=d);have i:=zh4 (p:=5) (d:=d);have f:=ze5 (p:=5) (d:=d);have U:propB 5 d = pvals d.cells:=rfl
 have I:docOk d = true → ∀ x ∈ d.lines,x.1.length ≤ 1000000:=fun S x I=>by
  have:=(zbg S).ln x I;unfold dlnOk at this;simp only [qf,decide_eq_true_eq] at this;omega
 have a:=zcw (p:=5) (d:=d);have b:=fun S:docOk d = true=>yc8 hP F n A D d.lines.length u B y q j d.cells d.w d.bits E G c
 rw [← U] at b;clear I U Q R G c;obtain ⟨T,V⟩:∃ T,propB 5 d = T:=⟨_,rfl⟩
 rw [V] at b e f a;clear V;obtain ⟨L,K,w,s⟩:=d;replace O:Sl F 148 2 encN (.slice n 0 A D 2 L.length u) L:=O;replace E:Sl F 151 6 encK (.slice B 0 y q 6 K.length j) K:=E;obtain ⟨v,Y⟩:∃ v,docOk ⟨L,K,w,s⟩ = v:=⟨_,rfl⟩
 rw [Y] at g e i f b a
 have m:∀ (z:Out) (F1:Fz) (h:Hp) (nx:Nat),pAns 5 ⟨L,K,w,s⟩ = z → (∀ μ,z.ren μ = z) → z.z = true → Fz.le F F1 → lget h 0 = some (.frz F1) → Cln 1 (FoK F fun o F'=>o = pAns 5 ⟨L,K,w,s⟩) z h nx:=by
  intro z F1 h nx X hr M l J;subst X;exact endFo (pAns 5 ⟨L,K,w,s⟩) F1 J l (Fz.r F1) rfl (by rw [hr]; exact zah _) M
 refine fo_of hΘ Tryz.func48 rfl (by decide) _ _ rfl rfl rfl ?_;refine use (ze6 F) [] rfl trivial rfl trivial (by simp) trivial ?_;rintro _ F0 J n0 l ⟨rfl,rfl,rfl,rfl⟩;refine brd (by decide) ?_; (conv=>whnf); refine brd (by decide) ?_; (conv=>whnf); refine brd (by decide) ?_; (conv=>whnf); refine brd (by decide) ?_; (conv=>whnf); refine bre (by decide) ?_;refine usePu g rfl (zaa _) rfl ?_;rcases v with _ | _
 ·refine bre (by decide) ?_;exact m _ F _ _ (i rfl) (fun _=>rfl) rfl (Fz.r F) rfl
 ·refine brd (by decide) ?_;refine zgk 2 rfl ?_;refine use (b rfl) [(1,3),(2,2)] rfl ⟨rfl,rfl,tv⟩ rfl ⟨zas _ (by omega) (by omega) _ _,zai zab _ _ _ _ _,tv⟩ (by simp [SV.below,SC.below,SA.below]) ⟨rfl,rfl,tv⟩ ?_;rintro W F1 J n0 k ⟨rfl,rfl,u1,c1,Z,rfl⟩;refine zfb (f rfl) (a rfl) rfl (zej (by rfl) (by rfl) _ _) rfl (zgc zab _ _ _ _ _) ?_;intro o';exact m _ F1 _ _ (e rfl) (fun _=>rfl) rfl k rfl
theorem z5e (hP:PFun) (F:Fz) (n:Bool) (A D u:Nat) (B:Bool) (y q i:Nat) (d:Dc) (M:Sl F 148 2 encN (.slice n 0 A D 2 d.lines.length u) d.lines) (J:Sl F 151 6 encK (.slice B 0 y q 6 d.cells.length i) d.cells)
  (R:d.lines.length ≤ 1000) (O:d.cells.length ≤ 1000) (Q:d.bits.length ≤ 70000) (j:d.cells.length ≤ i) :
  Fo Tryz.prog F 48 [.agg (docS (.slice n 0 A D 2 d.lines.length u) (.slice B 0 y q 6 d.cells.length i) d.w d.bits),.va (.int .i64 6)] (fun o F'=>o = pAns 6 d):=by
 have f:=zcz F _ _ d M J R O Q;have c:=zhy (p:=6) (d:=d);have g:=zh4 (p:=6) (d:=d);have e:=ze5 (p:=6) (d:=d);have U:propB 6 d = zae [d.w,hgt d.w d.bits]:=rfl
 have E:docOk d = true → ∀ x ∈ d.lines,x.1.length ≤ 1000000:=fun S x E=>by
  have:=(zbg S).ln x E;unfold dlnOk at this;simp only [qf,decide_eq_true_eq] at this;omega
 have a:=zcw (p:=6) (d:=d);have b:=fun S:docOk d = true=>yds hP F n A D d.lines.length u B y q d.cells.length i d.w d.bits (by omega)
 rw [← U] at b;clear E U Q R O j;obtain ⟨T,V⟩:∃ T,propB 6 d = T:=⟨_,rfl⟩
 rw [V] at b c e a;clear V;obtain ⟨L,K,w,s⟩:=d;replace M:Sl F 148 2 encN (.slice n 0 A D 2 L.length u) L:=M;replace J:Sl F 151 6 encK (.slice B 0 y q 6 K.length i) K:=J;obtain ⟨v,Y⟩:∃ v,docOk ⟨L,K,w,s⟩ = v:=⟨_,rfl⟩
 rw [Y] at f c g e b a
 have m:∀ (z:Out) (F1:Fz) (h:Hp) (nx:Nat),pAns 6 ⟨L,K,w,s⟩ = z → (∀ μ,z.ren μ = z) → z.z = true → Fz.le F F1 → lget h 0 = some (.frz F1) → Cln 1 (FoK F fun o F'=>o = pAns 6 ⟨L,K,w,s⟩) z h nx:=by
  intro z F1 h nx X hr I l G;subst X;exact endFo (pAns 6 ⟨L,K,w,s⟩) F1 G l (Fz.r F1) rfl (by rw [hr]; exact zah _) I
 refine fo_of hΘ Tryz.func48 rfl (by decide) _ _ rfl rfl rfl ?_;refine use (ze6 F) [] rfl trivial rfl trivial (by simp) trivial ?_;rintro _ F0 G n0 l ⟨rfl,rfl,rfl,rfl⟩;refine brd (by decide) ?_; (conv=>whnf); refine brd (by decide) ?_; (conv=>whnf); refine brd (by decide) ?_; (conv=>whnf); refine brd (by decide) ?_; (conv=>whnf); refine brd (by decide) ?_; (conv=>whnf); refine bre (by decide) ?_;refine usePu f rfl (zaa _) rfl ?_;rcases v with _ | _
 ·refine bre (by decide) ?_;exact m _ F _ _ (g rfl) (fun _=>rfl) rfl (Fz.r F) rfl
 ·refine brd (by decide) ?_;refine zgk 2 rfl ?_;refine use (b rfl) [(1,3),(2,2)] rfl ⟨rfl,rfl,tv⟩ rfl ⟨zas _ (by omega) (by omega) _ _,zai zab _ _ _ _ _,tv⟩ (by simp [SV.below,SC.below,SA.below]) ⟨rfl,rfl,tv⟩ ?_;rintro W F1 G n0 k ⟨rfl,rfl,u1,c1,Z,rfl⟩;refine zfb (e rfl) (a rfl) rfl (zej (by rfl) (by rfl) _ _) rfl (zgc zab _ _ _ _ _) ?_;intro o';exact m _ F1 _ _ (c rfl) (fun _=>rfl) rfl k rfl
theorem z2t (hP:PFun) (F:Fz) (n:Bool) (A D u:Nat) (B:Bool) (y q i:Nat) (d:Dc) (M:Sl F 148 2 encN (.slice n 0 A D 2 d.lines.length u) d.lines) (J:Sl F 151 6 encK (.slice B 0 y q 6 d.cells.length i) d.cells)
  (R:d.lines.length ≤ 1000) (O:d.cells.length ≤ 1000) (Q:d.bits.length ≤ 70000) (j:d.cells.length ≤ i) :
  Fo Tryz.prog F 48 [.agg (docS (.slice n 0 A D 2 d.lines.length u) (.slice B 0 y q 6 d.cells.length i) d.w d.bits),.va (.int .i64 7)] (fun o F'=>o = pAns 7 d):=by
 have f:=zcz F _ _ d M J R O Q;have c:=zhy (p:=7) (d:=d);have g:=zh4 (p:=7) (d:=d);have e:=ze5 (p:=7) (d:=d);have U:propB 7 d = zae [d.w,hgt d.w d.bits] ++ (putSR d.bits).1:=rfl
 have E:docOk d = true → ∀ x ∈ d.lines,x.1.length ≤ 1000000:=fun S x E=>by
  have:=(zbg S).ln x E;unfold dlnOk at this;simp only [qf,decide_eq_true_eq] at this;omega
 have a:=zcw (p:=7) (d:=d);have b:=fun S:docOk d = true=>ydr hP F n A D d.lines.length u B y q d.cells.length i d.w d.bits (by omega)
 rw [← U] at b;clear E U Q R O j;obtain ⟨T,V⟩:∃ T,propB 7 d = T:=⟨_,rfl⟩
 rw [V] at b c e a;clear V;obtain ⟨L,K,w,s⟩:=d;replace M:Sl F 148 2 encN (.slice n 0 A D 2 L.length u) L:=M;replace J:Sl F 151 6 encK (.slice B 0 y q 6 K.length i) K:=J;obtain ⟨v,Y⟩:∃ v,docOk ⟨L,K,w,s⟩ = v:=⟨_,rfl⟩
 rw [Y] at f c g e b a
 have m:∀ (z:Out) (F1:Fz) (h:Hp) (nx:Nat),pAns 7 ⟨L,K,w,s⟩ = z → (∀ μ,z.ren μ = z) → z.z = true → Fz.le F F1 → lget h 0 = some (.frz F1) → Cln 1 (FoK F fun o F'=>o = pAns 7 ⟨L,K,w,s⟩) z h nx:=by
  intro z F1 h nx X hr I l G;subst X;exact endFo (pAns 7 ⟨L,K,w,s⟩) F1 G l (Fz.r F1) rfl (by rw [hr]; exact zah _) I
 refine fo_of hΘ Tryz.func48 rfl (by decide) _ _ rfl rfl rfl ?_;refine use (ze6 F) [] rfl trivial rfl trivial (by simp) trivial ?_;rintro _ F0 G n0 l ⟨rfl,rfl,rfl,rfl⟩;refine brd (by decide) ?_; (conv=>whnf); refine brd (by decide) ?_; (conv=>whnf); refine brd (by decide) ?_; (conv=>whnf); refine brd (by decide) ?_; (conv=>whnf); refine brd (by decide) ?_; (conv=>whnf); refine brd (by decide) ?_; (conv=>whnf); refine bre (by decide) ?_;refine usePu f rfl (zaa _) rfl ?_;rcases v with _ | _
 ·refine bre (by decide) ?_;exact m _ F _ _ (g rfl) (fun _=>rfl) rfl (Fz.r F) rfl
 ·refine brd (by decide) ?_;refine zgk 2 rfl ?_;refine use (b rfl) [(1,3),(2,2)] rfl ⟨rfl,rfl,tv⟩ rfl ⟨zas _ (by omega) (by omega) _ _,zai zab _ _ _ _ _,tv⟩ (by simp [SV.below,SC.below,SA.below]) ⟨rfl,rfl,tv⟩ ?_;rintro W F1 G n0 k ⟨rfl,rfl,u1,c1,Z,rfl⟩;refine zfb (e rfl) (a rfl) rfl (zej (by rfl) (by rfl) _ _) rfl (zgc zab _ _ _ _ _) ?_;intro o';exact m _ F1 _ _ (c rfl) (fun _=>rfl) rfl k rfl
theorem z6p (hP:PFun) (F:Fz) (n:Bool) (A D u:Nat) (B:Bool) (y q i:Nat) (d:Dc) (M:Sl F 148 2 encN (.slice n 0 A D 2 d.lines.length u) d.lines) (J:Sl F 151 6 encK (.slice B 0 y q 6 d.cells.length i) d.cells)
  (R:d.lines.length ≤ 1000) (O:d.cells.length ≤ 1000) (Q:d.bits.length ≤ 70000) (j:d.cells.length ≤ i) :
  Fo Tryz.prog F 48 [.agg (docS (.slice n 0 A D 2 d.lines.length u) (.slice B 0 y q 6 d.cells.length i) d.w d.bits),.va (.int .i64 8)] (fun o F'=>o = pAns 8 d):=by
 have f:=zcz F _ _ d M J R O Q;have c:=zhy (p:=8) (d:=d);have g:=zh4 (p:=8) (d:=d);have e:=ze5 (p:=8) (d:=d);have U:propB 8 d = zae [(d.lines.length:Int),(d.cells.length:Int)]:=rfl
 have E:docOk d = true → ∀ x ∈ d.lines,x.1.length ≤ 1000000:=fun S x E=>by
  have:=(zbg S).ln x E;unfold dlnOk at this;simp only [qf,decide_eq_true_eq] at this;omega
 have a:=zcw (p:=8) (d:=d);have b:=fun S:docOk d = true=>yb6 hP F n A D d.lines.length u B y q d.cells.length i d.w d.bits
 rw [← U] at b;clear E U Q R O j;obtain ⟨T,V⟩:∃ T,propB 8 d = T:=⟨_,rfl⟩
 rw [V] at b c e a;clear V;obtain ⟨L,K,w,s⟩:=d;replace M:Sl F 148 2 encN (.slice n 0 A D 2 L.length u) L:=M;replace J:Sl F 151 6 encK (.slice B 0 y q 6 K.length i) K:=J;obtain ⟨v,Y⟩:∃ v,docOk ⟨L,K,w,s⟩ = v:=⟨_,rfl⟩
 rw [Y] at f c g e b a
 have m:∀ (z:Out) (F1:Fz) (h:Hp) (nx:Nat),pAns 8 ⟨L,K,w,s⟩ = z → (∀ μ,z.ren μ = z) → z.z = true → Fz.le F F1 → lget h 0 = some (.frz F1) → Cln 1 (FoK F fun o F'=>o = pAns 8 ⟨L,K,w,s⟩) z h nx:=by
  intro z F1 h nx X hr I l G;subst X;exact endFo (pAns 8 ⟨L,K,w,s⟩) F1 G l (Fz.r F1) rfl (by rw [hr]; exact zah _) I
 refine fo_of hΘ Tryz.func48 rfl (by decide) _ _ rfl rfl rfl ?_;refine use (ze6 F) [] rfl trivial rfl trivial (by simp) trivial ?_;rintro _ F0 G n0 l ⟨rfl,rfl,rfl,rfl⟩;refine brd (by decide) ?_; (conv=>whnf); refine brd (by decide) ?_; (conv=>whnf); refine brd (by decide) ?_; (conv=>whnf); refine brd (by decide) ?_; (conv=>whnf); refine brd (by decide) ?_; (conv=>whnf); refine brd (by decide) ?_; (conv=>whnf); refine brd (by decide) ?_; (conv=>whnf); refine bre (by decide) ?_;refine usePu f rfl (zaa _) rfl ?_;rcases v with _ | _
 ·refine bre (by decide) ?_;exact m _ F _ _ (g rfl) (fun _=>rfl) rfl (Fz.r F) rfl
 ·refine brd (by decide) ?_;refine zgk 2 rfl ?_;refine use (b rfl) [(1,3),(2,2)] rfl ⟨rfl,rfl,tv⟩ rfl ⟨zas _ (by omega) (by omega) _ _,zai zab _ _ _ _ _,tv⟩ (by simp [SV.below,SC.below,SA.below]) ⟨rfl,rfl,tv⟩ ?_;rintro W F1 G n0 k ⟨rfl,rfl,u1,c1,Z,rfl⟩;refine zfb (e rfl) (a rfl) rfl (zej (by rfl) (by rfl) _ _) rfl (zgc zab _ _ _ _ _) ?_;intro o';exact m _ F1 _ _ (c rfl) (fun _=>rfl) rfl k rfl
theorem zyo (n:PFun) (F:Fz) (c:Bool) (h j f:Nat) (i:Bool) (g e b:Nat) (d:Dc) (s:Sl F 148 2 encN (.slice c 0 h j 2 d.lines.length f) d.lines) (q:Sl F 151 6 encK (.slice i 0 g e 6 d.cells.length b) d.cells)
  (m:d.lines.length ≤ 1000) (k:d.cells.length ≤ 1000) (l:d.bits.length ≤ 70000) (a:d.cells.length ≤ b) (p:Int) (y:1 ≤ p ∧ p ≤ 8) :
  Fo Tryz.prog F 48 [.agg (docS (.slice c 0 h j 2 d.lines.length f) (.slice i 0 g e 6 d.cells.length b) d.w d.bits),.va (.int .i64 p)] (fun o x=>o = pAns p d):=by
 have u:p = 1 ∨ p = 2 ∨ p = 3 ∨ p = 4 ∨ p = 5 ∨ p = 6 ∨ p = 7 ∨ p = 8:=by omega
 rcases u with rfl | rfl | rfl | rfl | rfl | rfl | rfl | rfl
 ·exact z1i n F c h j f i g e b d s q m k l a
 ·exact z4o n F c h j f i g e b d s q m k l a
 ·exact z06 n F c h j f i g e b d s q m k l a
 ·exact z3n n F c h j f i g e b d s q m k l a
 ·exact z1e n F c h j f i g e b d s q m k l a
 ·exact z5e n F c h j f i g e b d s q m k l a
 ·exact z2t n F c h j f i g e b d s q m k l a
 ·exact z6p n F c h j f i g e b d s q m k l a
def allB (d:Dc):List (List UInt8):=(List.range 8).map fun k:Nat=>propB ((k:Int) + 1) d
theorem zct (d:Dc):(allB d).length = 8:=by simp [allB]
theorem zot (d:Dc) (k:Nat) (h:k < 8):(allB d)[k]? = some (propB ((k:Int) + 1) d):=by simp [allB,h]
theorem ze9 {n:Nat} {a b:SA} {w:Int} {s:List UInt8} (d:a.below n) (c:b.below n):(Ent.one (.cells 41 (docS a b w s))).below n:=zd7 (w:=w) (s:=s) d c
theorem zd9:Plain encS:=fun x=>⟨fun μ=>rfl,fun a b=>by simp only [encS,qu] at b; subst b; trivial⟩
abbrev z7n (a b:SA) (w:Int) (s:List UInt8):Ent:=.one (.cells 41 (docS a b w s))
theorem ydj (hP:PFun) (F:Fz) (S:Bool) (W ae U:Nat) (Y:Bool) (V T E:Nat) (d:Dc) (ha:Sl F 148 2 encN (.slice S 0 W ae 2 d.lines.length U) d.lines) (hb:Sl F 151 6 encK (.slice Y 0 V T 6 d.cells.length E) d.cells)
  (hl:d.lines.length ≤ 1000) (hc:d.cells.length ≤ 1000) (hs:d.bits.length ≤ 70000) (m:d.cells.length ≤ E) :
  Fo Tryz.prog F 14 [.agg (docS (.slice S 0 W ae 2 d.lines.length U) (.slice Y 0 V T 6 d.cells.length E) d.w d.bits)] (fun o F'=>(docOk d = false ∧ o = .ret (.tup [.va .nilsl,.va (.int .i64 60)])) ∨
   (docOk d = true ∧ ∃ b c,o = .ret (.tup [.va (.slice false 0 b 0 1 8 c),.va (.int .i64 0)]) ∧ F' b = some (.arr 9 1 ((allB d).map encS) c))):=by
 have M:=fun F1 (l1:Fz.le F F1)=>zyo hP F1 S W ae U Y V T E d (ha.mono l1) (hb.mono l1) hl hc hs m
 have O:=fun p=>zhy (p:=p) (d:=d)
 have R:=fun p=>zh4 (p:=p) (d:=d)
 have f:=zct d;have hgt:=zot d;obtain ⟨A,hA⟩:∃ A,allB d = A:=⟨_,rfl⟩
 rw [hA] at f hgt ⊢;clear hA ha hb hl hc hs m;obtain ⟨L,K,w,s⟩:=d;obtain ⟨v,hv⟩:∃ v,docOk ⟨L,K,w,s⟩ = v:=⟨_,rfl⟩
 rw [hv] at O R ⊢;clear hv;rcases v with _ | _
 ·have a:=M F (Fz.r F) 1 (by omega);rw [R 1 rfl] at a;refine fo_of hΘ Tryz.func14 rfl (by decide) _ _ rfl rfl rfl ?_
  refine zam hΘ (X:={ k:Nat // k = 0 }) (fun k=>[(4,.va .nilsl),(8,.va (.int .i64 k.1))]) [2,3,5,6,7,9,10,11,12,13,14,15,16,17,18,19,20,21,22,23,24,25]
   (fun y=>[(0,.frz F),(1,z7n (.slice S 0 W ae 2 L.length U) (.slice Y 0 V T 6 K.length E) w s)]) 2 (fun k=>0) ⟨0,rfl⟩
   (fun q D=>leI [] q D rfl ⟨tv,ze9 (.inr (by omega)) (.inr (by omega)),tv⟩ ⟨rfl,rfl,tv⟩ ⟨Fz.r F,rfl,tv⟩) ?_
  rintro ⟨k,rfl⟩ q D;refine br (fun _=>?_) (fun x=>absurd x (by decide));refine useFo a rfl (zaa _) rfl ?_;rintro _ F1 l1 rfl;refine br (fun _=>?_) (fun x=>absurd x (by decide));exact endFo (.ret (.tup [.va .nilsl,.va (.int .i64 60)])) F1 rfl l1 (Fz.r F1) (.inl ⟨rfl,rfl⟩) (zah _) rfl
 ·refine fo_of hΘ Tryz.func14 rfl (by decide) _ _ rfl rfl rfl ?_
  refine zam hΘ (X:={ y:Nat × List (List UInt8) × Nat × Fz // Fz.le F y.2.2.2 ∧ y.1 ≤ 8 ∧ y.2.1 = A.take y.1 }) (fun y=>[(4,.va (gA 1 2 y.1.2.2.1 y.1.2.1)),(8,.va (.int .i64 y.1.1))]) [2,3,5,6,7,9,10,11,12,13,14,15,16,17,18,19,20,21,22,23,24,25]
   (fun y=>[(0,.frz y.1.2.2.2),(1,z7n (.slice S 0 W ae 2 L.length U) (.slice Y 0 V T 6 K.length E) w s),(2,gE 9 1 encS y.1.2.2.1 y.1.2.1)]) 3 (fun y=>8 - y.1.1) ⟨(0,[],0,F),Fz.r F,by omega,by simp⟩
   (fun q D=>leI [(2,2)] q D rfl ⟨tv,ze9 (.inr (by omega)) (.inr (by omega)),zai zd9 _ _ _ _ _,tv⟩ ⟨rfl,rfl,tv⟩ ⟨Fz.r F,rfl,rfl,tv⟩) ?_
  rintro ⟨⟨k,o,co,G⟩,J,hk,I⟩ q D;replace J:Fz.le F G:=J;replace hk:k ≤ 8:=hk;replace I:o = A.take k:=I;by_cases g:k < 8
  ·have l:(k:Int) < 8:=by omega
   have Q:k + 1 ≤ 8:=g;have n:8 - (k + 1) < 8 - k:=by omega
   have h:k < 4611686018427387904:=by omega
   have hw:SA.int .i64 ((k:Int) + 1) = SA.int .i64 (IntKind.i64.wrap ((k:Int) + 1)):=cnt h;have ai:∃ t,propB ((k:Int) + 1) ⟨L,K,w,s⟩ = t:=⟨_,rfl⟩
   obtain ⟨t,ht⟩:=ai;have a:=M G J ((k:Int) + 1) (by omega);rw [O ((k:Int) + 1) rfl,ht] at a
   have aa:o ++ [t] = A.take (k + 1):=by
    have Z:k < A.length:=by omega
    rw [qg Z,I];have:=hgt k g;rw [qe Z,ht] at this;rw [Option.some.inj this]
   have B:o.length = k:=by rw [I,qq]; omega
   clear ht I;rcases o with _ | ⟨o0,e⟩
   ·refine bri l ?_;refine useFo a rfl ⟨rfl,hw,tv⟩ rfl ?_;rintro _ G2 l2 rfl;refine br (fun x=>absurd x (by decide)) (fun _=>?_);refine ⟨nb rfl,[encS t],rfl,rfl,rfl,by show 1 * 16 ≤ 140737488355328; omega,fun c' ad=>?_⟩;exact ⟨⟨(k + 1,[] ++ [t],c',G2),Fz.t J l2,Q,aa⟩,n,leR [(2,4)] q D rfl ⟨tv,ze9 (.inr (by omega)) (.inr (by omega)),zai zd9 _ _ _ _ _,tv⟩ ⟨by (conv=>whnf); exact ⟨rfl,rfl,rfl,.inr ⟨rfl,rfl,rfl,rfl⟩⟩,cnt h,tv⟩ ⟨Fz.r G2,rfl,zax zd9 (zcs _ (by simp)),tv⟩⟩
   ·have af:(e.length + 1 + 1) * 16 ≤ 140737488355328:=by
     have h9:e.length + 1 = k:=B;omega
    refine bri l ?_;refine useFo a rfl ⟨rfl,hw,tv⟩ rfl ?_;rintro _ G2 l2 rfl;refine br (fun x=>absurd x (by decide)) (fun _=>?_);refine ⟨nb rfl,[encS t],rfl,rfl,rfl,by simp,rfl,af,fun c' ad=>?_⟩;exact ⟨⟨(k + 1,(o0 :: e) ++ [t],c',G2),Fz.t J l2,Q,aa⟩,n,leR [(2,4)] q D rfl ⟨tv,ze9 (.inr (by omega)) (.inr (by omega)),zai zd9 _ _ _ _ _,tv⟩ ⟨zuv (μ:=sig [(2,4)]) (i:=2) (j:=4) rfl 1 c' _ (o0 :: e) t rfl,cnt h,tv⟩ ⟨Fz.r G2,rfl,zax zd9 (zcs _ (by simp)),tv⟩⟩
  ·have l:¬ (k:Int) < 8:=by omega
   have ah:k = 8:=by omega
   have u:o = A:=by rw [I,ah,qn (by omega)]
   rcases o with _ | ⟨o0,e⟩
   ·rw [← u] at f; cases f
   ·have B:e.length + 1 = 8:=by rw [← u] at f; exact f
    refine brj l ?_;refine zbn 2 (fun _=>.arr 9 1 ((o0 :: e).map encS) co) rfl rfl rfl (fun _ _=>by exact zcx zd9 rfl _ _ _ _) (fun _ _=>zbd zd9 _ _ _ _ _) ?_;intro b' F' ag aj;refine endFo (.ret (.tup [.va (.slice false 0 (b' 0) 0 1 8 co),.va (.int .i64 0)])) F' rfl (Fz.t J ag) (Fz.r F') (.inr ⟨rfl,_,_,rfl,by rw [← u]; exact aj 0 ⟨rfl,rfl⟩⟩) ?_ rfl;exact ⟨⟨rfl,B.symm,rfl,.inr ⟨rfl,rfl,rfl,rfl⟩⟩,rfl,tv⟩
def DocAt (F:Fz) (a b:SA) (d:Dc):Prop:=
 ∃ (i:Bool) (f g h:Nat) (e:Bool) (j k c:Nat),a = .slice i 0 f g 2 d.lines.length h ∧ b = .slice e 0 j k 6 d.cells.length c ∧ Sl F 148 2 encN a d.lines ∧ Sl F 151 6 encK b d.cells ∧ d.cells.length ≤ c
theorem DocAt.mono {F e:Fz} {a b:SA} {d:Dc} (h:DocAt F a b d) (c:Fz.le F e):DocAt e a b d:=by
 obtain ⟨g,n,s,k,p,l,i,j,h1,o,q,f,m⟩:=h;exact ⟨g,n,s,k,p,l,i,j,h1,o,q.mono c,f.mono c,m⟩
structure DcSmall (d:Dc):Prop where
 l:d.lines.length ≤ 1000
 c:d.cells.length ≤ 1000
 b:d.bits.length ≤ 70000
theorem znl (F:Fz) (a b:SA) (d:Dc) (h:DocAt F a b d) (e:DcSmall d) :
  Fo Tryz.prog F 14 [.agg (docS a b d.w d.bits)] (fun o q=>(docOk d = false ∧ o = .ret (.tup [.va .nilsl,.va (.int .i64 60)])) ∨
   (docOk d = true ∧ ∃ b c,o = .ret (.tup [.va (.slice false 0 b 0 1 8 c),.va (.int .i64 0)]) ∧ q b = some (.arr 9 1 ((allB d).map encS) c))):=by
 obtain ⟨g,p,x,k,s,m,i,j,rfl,rfl,u,f,n⟩:=h;exact ydj pfun F g p x k s m i j d u f e.l e.c e.b n
theorem zch {d:Dc} (e:docOk d = true):∀ s ∈ allB d,s.length ≤ 900000000000:=by
 intro s b;obtain ⟨k,c,rfl⟩:=qz.1 b;have f:k < 8:=qcr.1 c;have a:1 ≤ (k:Int) + 1 ∧ (k:Int) + 1 ≤ 8:=by omega
 show (propB ((k:Int) + 1) d).length ≤ _;rw [zio a];have:=zv2 (p:=(k:Int) + 1) (zw0 a (zhv a e));omega
theorem zoj {F:Fz} {b c:Nat} {d:Dc} (h:F b = some (.arr 9 1 ((allB d).map encS) c)):Sl F 9 1 encS (.slice false 0 b 0 1 8 c) (allB d):=by
 have:=Sl.new (enc:=encS) (cap:=c) h;rw [zct] at this;exact this
theorem zpl {a:List Kp} (b:short a) (p:Int):(zb4 a p).length < 1000000:=by
 unfold zb4;split
 ·decide
 ·split
  ·exact zhd b _
  ·exact zhd b _
theorem zeo {a:List Kp} (c:short a):short (zbh a):=by
 intro x b;obtain ⟨k,_,rfl⟩:=qz.1 b;exact zpl c _
def makeC (m:Mig) (d e:Dc):Crt:=⟨root8 (allB d),root8 (allB e),1,zbh m.keep⟩
def zdq (m:Mig) (d e:Dc):Bool:=migOk m && (docOk d && (docOk e && zcq (makeC m d e) (allB d) (allB e)))
theorem zny (F:Fz) (hM:MLF F) (R:RNDF F) (sk O V X D:SA) (m:Mig) (d e:Dc) (hk:KpsAt F sk m.keep) (Y:short m.keep) (hl:m.keep.length < 1000000) (i:DocAt F O V d) (a:DocAt F X D e) (T:DcSmall d) (M:DcSmall e) :
  Fo Tryz.prog F 21 [.agg (migS m sk),.agg (docS O V d.w d.bits),.agg (docS X D e.w e.bits)] (fun o F'=>
   (zdq m d e = false ∧ o = .ret (.tup [.agg [.str [],.str [],.int .i64 0,.nilsl],.va (.int .i64 100)])) ∨
   (zdq m d e = true ∧ ∃ sc,o = .ret (.tup [.agg (crtS (makeC m d e) sc),.va (.int .i64 0)]) ∧ ClsAt F' sc (zbh m.keep))):=by
 have n:=zqk F sk m hk Y hl;have p:=fun F1 (g:Fz.le F F1)=>znl F1 O V d (i.mono g) T
 have f:=fun F1 (g:Fz.le F F1)=>znl F1 X D e (a.mono g) M
 obtain ⟨id,src,u,l,B⟩:=m;obtain ⟨kn,kb,ke,kc,kL,kr,rfl,k1,k2,k3,k4⟩:=hk;obtain ⟨ae,ak,ah,aj,ag,an,af,al,rfl,rfl,-,-,-⟩:=i;obtain ⟨aa,ac,ao,ad,ab,am,ap,ai,rfl,rfl,-,-,-⟩:=a;refine fo_of hΘ Tryz.func21 rfl (by decide) _ _ rfl rfl rfl ?_;refine useFo n rfl (zaa _) rfl ?_;rintro _ F1 g (⟨q,rfl⟩ | ⟨q,b,c,rfl,L⟩)
 ·refine useFo (p F1 g) rfl (zaa _) rfl ?_;rintro _ y k (⟨i,rfl⟩ | ⟨i,D,c2,rfl,Q⟩)
  ·refine useFo (f y (Fz.t g k)) rfl (zaa _) rfl ?_;rintro _ h j (⟨a,rfl⟩ | ⟨a,W,U,rfl,x⟩)
   ·conv=>whnf
    repeat
     first
      |refine gaf (by decide) ?_
       conv=>whnf
      |refine gae (by decide) ?_
       conv=>whnf
      |refine brd (by decide) ?_
       conv=>whnf
      |refine bre (by decide) ?_
       conv=>whnf
    exact endFo (.ret (.tup [.agg [.str [],.str [],.int .i64 0,.nilsl],.va (.int .i64 100)])) h rfl (Fz.t g (Fz.t k j)) (Fz.r h) (.inl ⟨by simp only [zdq,q,i,a,ji,yd],rfl⟩) (zah _) rfl
   ·conv=>whnf
    repeat
     first
      |refine gaf (by decide) ?_
       conv=>whnf
      |refine gae (by decide) ?_
       conv=>whnf
      |refine brd (by decide) ?_
       conv=>whnf
      |refine bre (by decide) ?_
       conv=>whnf
    exact endFo (.ret (.tup [.agg [.str [],.str [],.int .i64 0,.nilsl],.va (.int .i64 100)])) h rfl (Fz.t g (Fz.t k j)) (Fz.r h) (.inl ⟨by simp only [zdq,q,i,a,ji,yd],rfl⟩) (zah _) rfl
  ·refine useFo (f y (Fz.t g k)) rfl (zaa _) rfl ?_;rintro _ h j (⟨a,rfl⟩ | ⟨a,W,U,rfl,x⟩)
   ·conv=>whnf
    repeat
     first
      |refine gaf (by decide) ?_
       conv=>whnf
      |refine gae (by decide) ?_
       conv=>whnf
      |refine brd (by decide) ?_
       conv=>whnf
      |refine bre (by decide) ?_
       conv=>whnf
    exact endFo (.ret (.tup [.agg [.str [],.str [],.int .i64 0,.nilsl],.va (.int .i64 100)])) h rfl (Fz.t g (Fz.t k j)) (Fz.r h) (.inl ⟨by simp only [zdq,q,i,a,ji,yd],rfl⟩) (zah _) rfl
   ·conv=>whnf
    repeat
     first
      |refine gaf (by decide) ?_
       conv=>whnf
      |refine gae (by decide) ?_
       conv=>whnf
      |refine brd (by decide) ?_
       conv=>whnf
      |refine bre (by decide) ?_
       conv=>whnf
    exact endFo (.ret (.tup [.agg [.str [],.str [],.int .i64 0,.nilsl],.va (.int .i64 100)])) h rfl (Fz.t g (Fz.t k j)) (Fz.r h) (.inl ⟨by simp only [zdq,q,i,a,ji,yd],rfl⟩) (zah _) rfl
 ·refine useFo (p F1 g) rfl (zaa _) rfl ?_;rintro _ y k (⟨i,rfl⟩ | ⟨i,D,c2,rfl,Q⟩)
  ·refine useFo (f y (Fz.t g k)) rfl (zaa _) rfl ?_;rintro _ h j (⟨a,rfl⟩ | ⟨a,W,U,rfl,x⟩)
   ·conv=>whnf
    repeat
     first
      |refine gaf (by decide) ?_
       conv=>whnf
      |refine gae (by decide) ?_
       conv=>whnf
      |refine brd (by decide) ?_
       conv=>whnf
      |refine bre (by decide) ?_
       conv=>whnf
    exact endFo (.ret (.tup [.agg [.str [],.str [],.int .i64 0,.nilsl],.va (.int .i64 100)])) h rfl (Fz.t g (Fz.t k j)) (Fz.r h) (.inl ⟨by simp only [zdq,q,i,a,ji,yd],rfl⟩) (zah _) rfl
   ·conv=>whnf
    repeat
     first
      |refine gaf (by decide) ?_
       conv=>whnf
      |refine gae (by decide) ?_
       conv=>whnf
      |refine brd (by decide) ?_
       conv=>whnf
      |refine bre (by decide) ?_
       conv=>whnf
    exact endFo (.ret (.tup [.agg [.str [],.str [],.int .i64 0,.nilsl],.va (.int .i64 100)])) h rfl (Fz.t g (Fz.t k j)) (Fz.r h) (.inl ⟨by simp only [zdq,q,i,a,ji,yd],rfl⟩) (zah _) rfl
  ·refine useFo (f y (Fz.t g k)) rfl (zaa _) rfl ?_;rintro _ h j (⟨a,rfl⟩ | ⟨a,W,U,rfl,x⟩)
   ·conv=>whnf
    repeat
     first
      |refine gaf (by decide) ?_
       conv=>whnf
      |refine gae (by decide) ?_
       conv=>whnf
      |refine brd (by decide) ?_
       conv=>whnf
      |refine bre (by decide) ?_
       conv=>whnf
    exact endFo (.ret (.tup [.agg [.str [],.str [],.int .i64 0,.nilsl],.va (.int .i64 100)])) h rfl (Fz.t g (Fz.t k j)) (Fz.r h) (.inl ⟨by simp only [zdq,q,i,a,ji,yd],rfl⟩) (zah _) rfl
   ·conv=>whnf
    repeat
     first
      |refine gaf (by decide) ?_
       conv=>whnf
      |refine gae (by decide) ?_
       conv=>whnf
      |refine brd (by decide) ?_
       conv=>whnf
      |refine bre (by decide) ?_
       conv=>whnf
    refine useFo (zgy h (R.mono (Fz.t g (Fz.t k j))) _ (allB d) (zoj (j _ _ Q)) (zct d) (zch i)) rfl (zaa _) rfl ?_;rintro _ F4 G rfl;have Z:=Fz.t g (Fz.t k (Fz.t j G));refine useFo (zgy F4 (R.mono Z) _ (allB e) (zoj (G _ _ x)) (zct e) (zch a)) rfl (zaa _) rfl ?_;rintro _ F5 J rfl;have I:=Fz.t Z J;have h5:=KpsAt.up L (Fz.t k (Fz.t j (Fz.t G J)));have s:=zju F5 (hM.mono I) (R.mono I) _ _ _ (makeC ⟨id,src,u,l,B⟩ d e) (allB d) (allB e) h5 (zeo Y) (by show (zbh B).length < _; rw [zc1]; decide) (zoj (J _ _ (G _ _ (j _ _ Q)))) (zoj (J _ _ (G _ _ x))) (zch i) (zch a)
    have S:zcq (makeC ⟨id,src,u,l,B⟩ d e) (allB d) (allB e) = true ∨ zcq (makeC ⟨id,src,u,l,B⟩ d e) (allB d) (allB e) = false:=by
     cases zcq (makeC ⟨id,src,u,l,B⟩ d e) (allB d) (allB e)
     ·exact .inr rfl
     ·exact .inl rfl
    refine Or.elim S (fun E=>?_) (fun E=>?_)
    ·rw [E] at s;refine useFo s rfl (zaa _) rfl ?_;rintro _ A K rfl;refine brd (by decide) ?_;exact endFo (.ret (.tup [.agg [.str (root8 (allB d)),.str (root8 (allB e)),.int .i64 1,.slice false 0 b 0 2 8 c],.va (.int .i64 0)])) A rfl (Fz.t I K) (Fz.r A) (.inr ⟨by simp only [zdq,q,i,a,E,qab],_,rfl,KpsAt.up h5 K⟩) (zah _) rfl
    ·rw [E] at s;refine useFo s rfl (zaa _) rfl ?_;rintro _ A K rfl;refine bre (by decide) ?_;exact endFo (.ret (.tup [.agg [.str [],.str [],.int .i64 0,.nilsl],.va (.int .i64 100)])) A rfl (Fz.t I K) (Fz.r A) (.inl ⟨by simp only [zdq,q,i,a,E,qab],rfl⟩) (zah _) rfl
end Go.Proofs.YtfnkamphhpldcaaGreatDoor
namespace Sx
open Go Go.RowKit
section
variable {P:Program} {Θ:Tys} {C:Ctx} {ρ:Rho} {st:St} {a:Act} {w:World} {Q:SE → St → Prop}
theorem z8e {x y:Code} (h:WP P x st fun e b=>(match e with
  |.normal=>WP P y b Q
  |.ret=>Q .ret b
  |.exit id=>Q (.exit id) b
  |.panic v=>Q (.panic v) b)):WP P (.seq x y) st Q:=by
 unfold WP at h ⊢;intro C ρ a w D;refine wp_seq (wp_mono (h C ρ a w D) ?_);rintro e g i ⟨j,b,d,f,rfl,c⟩;cases j with
 |normal=>exact f C d g i c
 |ret=>exact ⟨.ret,b,d,f,rfl,c⟩
 |exit id=>exact ⟨.exit id,b,d,f,rfl,c⟩
 |panic v=>exact ⟨.panic v,b,d,f,rfl,c⟩
theorem zzz (hΘ:Θ.Ok P) {id:Nat} {i j:Oper} {x:Operand} {ts:Array TypeId} (K:i.guard = none) (n:j.op = .defer ⟨.value x,#[],ts⟩) (u:j.guard = none) (l:j.dst = none)
  (h1:sop P Θ st.t i.op st.h st.nx (fun v h nx=>setd i.dst v { st with h:=h,nx:=nx } fun g=>∃ f caps,ev g.t x = .va (.fn (.func f) caps) ∧ Q .normal { g with d:=(.clo f,caps.map SA.ptr) :: g.d }) (fun v h nx=>Q (.panic v) { st with h:=h,nx:=nx })) :
  WP P (.region id #[i,j] false) st Q:=by
 unfold WP;intro C ρ a w D;refine wp_region_list ?_;have O:Region.wanted i (yielded #[i,j] a.tmps) = true:=by simp [Region.wanted,K]
 show wpList P #[i,j] (Up C Q) [i,j] a w;unfold wpList;rw [if_pos O];left;refine zij (zh0 hΘ h1 D) ?_ ?_
 ·rintro V L ⟨v,sv,X,J,k,rfl,T,Y,Z,A,_,_⟩;obtain ⟨g,⟨f,caps,s,q⟩,c⟩:=ziv T A Y Z;have E:Region.wanted j (yielded #[i,j] (a.put i.dst v).tmps) = true:=by simp [Region.wanted,u]
  unfold wpList;rw [if_pos E];left;have o:=za4 c x;rw [s] at o;have M:(a.put i.dst v).eval x = .func (.func f) #[] (caps.map fun p=>Value.pointer (some (p.addr k))).toArray:=o.1
  have m:(execOp (a.put i.dst v).eval j).run P L = .ok (.defer (defOf k (.clo f,caps.map SA.ptr))) L:=by
   obtain ⟨S,op,type,pos,I,guard⟩:=j;simp only at n; subst n;have U:(caps.map SA.ptr).map (SA.den k) = caps.map fun p=>Value.pointer (some (p.addr k)):=by rw [q9]; rfl
   simp [execOp,resolve,M,Deferred.ofValue,defOf,defV,U]
  simp only [Oper.wp,m,Oper.upon];refine ⟨.normal,_,k,q,rfl,?_⟩;rw [l]
  have B:∀ y ∈ (Dk.clo f,caps.map SA.ptr) :: g.d,∀ b ∈ y.2,b.below g.nx:=by
   intro y hy;rcases qj.1 hy with rfl | hy
   ·intro b R;obtain ⟨p,W,rfl⟩:=qz.1 R;exact o.2 p W
   ·exact c.dw y hy
  have G:defOf k (Dk.clo f,caps.map SA.ptr) :: (a.put i.dst v).defers = ((Dk.clo f,caps.map SA.ptr) :: g.d).map (defOf k):=by rw [c.df]; rfl
  exact { sat:=c.sat,nt:=c.nt,tm:=c.tm,tw:=c.tw,n0:=c.n0,df:=G,dw:=B }
 ·rintro e V L ⟨v,X,J,k,rfl,q,A⟩;exact ⟨.panic v,_,k,q,rfl,A⟩
def endQK (P:Program) (Θ:Tys) (b:List ResultVar) (K:Out → Hp → Nat → Prop):SE → St → Prop:=fun e st=>
 match e with
 |.normal=>(match st.d with
  |(.clo f,asl) :: r=>r = [] ∧ DefWP P f asl st.h st.nx none fun h nx=>sres Θ { st with h:=h,nx:=nx } b fun v=>K (.ret v) h nx
  |_=>False)
 |.ret=>(match st.d with
  |(.clo f,asl) :: r=>r = [] ∧ DefWP P f asl st.h st.nx none fun h nx=>sres Θ { st with h:=h,nx:=nx } b fun v=>K (.ret v) h nx
  |_=>False)
 |.panic _=>False
 |.exit _=>False
theorem zm0 (hΘ:Θ.Ok P) {fn:Func} {st:St} {B:List ResultVar} (s:fn.results.toList = B) {K:Out → Hp → Nat → Prop} {R:Ending → World → Prop} (m:Option Value) {f:FuncId} {b:List SA} {r:List (Dk × List SA)}
  (O:st.d = (.clo f,b) :: r) (U:r = []) (D:Den C ρ st a w)
  (x:DefWP P f b st.h st.nx m fun h nx=>sres Θ { st with h:=h,nx:=nx } B fun v=>K (.ret v) h nx)
  (J:∀ v sv q c o n,K (.ret sv) q c → sv.rel o v → sv.below c → Sat C o q c n → (∀ i,i < st.nx → o i = ρ i) → st.nx ≤ c → R (.returned v) n) :
  Leaves P fn a.tmps R a.defers (zo9 m) w:=by
 have k:=D.df;have j:=D.dw;subst U;rw [O] at k j;rw [k];unfold DefWP at x;obtain ⟨g,E⟩:=x C ρ w D.sat (j (.clo f,b) (by simp));unfold Enters at g;refine ⟨by cases m<;>simp [zo9],.func f,(b.map (SA.den ρ)).toArray,f,(b.map (SA.den ρ)).toArray,rfl,?_,?_⟩
 ·have V:(#[]:Array Value) ++ (b.map (SA.den ρ)).toArray = (b.map (SA.den ρ)).toArray:=by simp
  simp only [defOf,defV,invoke,V,g]
 ·refine E.mono ?_;rintro e u n ⟨v,q,c,o,rfl,M,I,A,p,l⟩;have L:=D.heap A p l;obtain ⟨y,sv,h1,S,T,G⟩:=zfe (fn:=fn) hΘ L (by rw [s]; exact I);show Leaves P fn a.tmps R [] (settle u) n;rw [M];exact ⟨y,h1,J y sv q c o n G S T A p l⟩
theorem z6r (hΘ:Θ.Ok P) {f:FuncId} {fn:Func} {c:Code} {args:List SV} {h:Hp} {nx:Nat} {K:Out → Hp → Nat → Prop} (W:P.funcs[f]? = some fn) (Z:fn.body = some c) (hn:(fn.name == "runtime.NumGoroutine") = false)
  (nt:Nat) (rs:List ResultVar) (aa:fn.ntmps = nt) (B:fn.results.toList = rs) (hl:Nat.ble args.length nt = true)
  (V:WP P c ⟨[zex 0 args],h,nx,nx,nt,[]⟩ (endQK P Θ rs K)):zba P f args h nx K:=by
 unfold zba;intro C ρ w vs S j T;refine ⟨enters_of W Z hn,?_⟩;unfold WP at V
 let A:Ctx:={ C with ρ0:=ρ,n0:=nx }
 have S1:Sat A ρ h nx w:={ S with anch:=fun _ _ _=>rfl,n0:=qm _,n1:=S.pos }
 have X:=zh7 j;have ab:=nb hl
 have D:Den A ρ ⟨[zex 0 args],h,nx,nx,nt,[]⟩ { tmps:=vs.toArray ++ Array.replicate (fn.ntmps - vs.toArray.size) undef,defers:=[] } w:=by
  refine { sat:=S1,nt:=?_,tm:=?_,tw:=?_,n0:=rfl,df:=rfl,dw:=by simp }
  ·simp; omega
  ·intro n s l;simp only [lget] at l;split at l
   ·rename_i v M;cases l
    obtain ⟨u,_,g,h3,_⟩:=zc8 (nx:=nx) args vs 0 n s j M;simp only [qat] at g;refine ⟨u,?_,h3⟩;rw [qax (by simpa using (qi.1 g).1)];simpa using g
   ·simp at l
  ·intro n s l;simp only [lget] at l;split at l
   ·rename_i v M;cases l
    obtain ⟨u,_,_,_,h4⟩:=zc8 (nx:=nx) args vs 0 n s j M;exact T s h4
   ·simp at l
 refine calls_of_wp_defers W Z (wp_mono (V A ρ _ w D) ?_);rintro e a' w' ⟨se,y,E,d,rfl,L⟩
 have x:∀ {o:Rho} {g:Hp} {b:Nat} {p:World},Sat A o g b p → Sat C o g b p:=fun q=>{ q with
  anch:=fun i J k=>by rw [q.anch i (yz J S.n0) k]; exact S.anch i J k
  n0:=js S.n0 q.n0
  n1:=S.n1 }
 have I:∀ v sv g b o p,K (.ret sv) g b → sv.rel o v → sv.below b → Sat A o g b p → (∀ i,i < y.nx → o i = E i) → y.nx ≤ b →
   ∃ out Y m E,K out Y m ∧ out.rel E (Ending.returned v) ∧ Sat C E Y m p ∧ (∀ i,i < nx → E i = ρ i) ∧ nx ≤ m ∧ (match out with | .ret s=>s.below m | .panic _=>True):=by
  intro v sv g b o p hk hr O q ac G;exact ⟨.ret sv,g,b,o,hk,⟨v,rfl,hr⟩,x q,fun i J=>funext fun k=>q.anch i J k,js L.sat.n0 G,O⟩
 cases se with
 |normal=>
  simp only [endQK] at d;split at d
  ·rename_i f2 U r R;exact zm0 hΘ B none R d.1 L d.2 I
  ·exact d.elim
 |ret=>
  simp only [endQK] at d;split at d
  ·rename_i f2 U r R;exact zm0 hΘ B none R d.1 L d.2 I
  ·exact d.elim
 |panic v=>exact d.elim
 |exit id=>exact d.elim
end
end Sx
namespace Sx
open Go
variable {P:Program} {C:Ctx} {ρ:Rho} {h:Hp} {nx:Nat} {w:World}
theorem Sat.swap (s:Sat C ρ h nx w) {i:Nat} {b u:SB} (q:lget h i = some (.one b)) (A:∀ ρ o,b.ok ρ o → u.ok ρ o) (m:u.below nx):Sat C ρ (lput h i (.one u)) nx w:=by
 have B:=s.ne0 q rfl
 have g:∀ j k,St.owns (lput h i (.one u)) j k → St.owns h j k:=by
  rintro j k ⟨x,e,l⟩;by_cases f:j = i
  ·subst f; rw [zaf] at e; cases e; exact ⟨_,q,l⟩
  ·rw [zac _ _ _ _ f] at e; exact ⟨_,e,l⟩
 exact { s with
  lt:=fun j x e=>by
   by_cases f:j = i
   ·subst f; exact s.lt _ _ q
   ·rw [zac _ _ _ _ f] at e; exact s.lt _ _ e
  blk:=fun j x e k l=>by
   by_cases f:j = i
   ·subst f; rw [zaf] at e; cases e
    obtain ⟨o,h1,y⟩:=s.blk _ _ q k l;exact ⟨o,h1,A _ _ y⟩
   ·rw [zac _ _ _ _ f] at e; exact s.blk _ _ e k l
  wf:=fun j x e k l=>by
   by_cases f:j = i
   ·subst f; rw [zaf] at e; cases e
    exact m
   ·rw [zac _ _ _ _ f] at e; exact s.wf _ _ e k l
  inj:=fun a b c d h1 y=>s.inj a b c d (g _ _ h1) (g _ _ y)
  own:=fun a b h1=>s.own a b (g _ _ h1)
  fz:=by rw [zac _ _ _ _ (Ne.symm B)]; exact s.fz
  only:=fun j F n=>by
   by_cases f:j = i
   ·subst f; rw [zaf] at n; cases n
   ·rw [zac _ _ _ _ f] at n; exact s.only _ _ n
  lnk:=fun j b p=>by
   by_cases f:j = i
   ·subst f; rw [zaf] at p; cases p
   ·rw [zac _ _ _ _ f] at p; exact s.lnk _ _ p }
theorem swapC {f:FuncId} {args:List SV} {K:Out → Hp → Nat → Prop} (i:Nat) {b:SB} (c:SB) (k:lget h i = some (.one b)) (d:∀ ρ o,b.ok ρ o → c.ok ρ o) (a:c.below nx) (g:zba P f args (lput h i (.one c)) nx K):zba P f args h nx K:=by
 unfold zba at *;intro C ρ w vs S e j;exact g C ρ w vs (S.swap k d a) e j
theorem zsi {t sz a:Nat} {L c:List (List SA)} (d:c.length = L.length) (h1:∀ x ∈ c,x.length = sz) (g:∀ ρ,c.flatten.map (SA.den ρ) = L.flatten.map (SA.den ρ)) (ρ:Rho) (o:Obj) (h:(SB.arr t sz L a).ok ρ o):(SB.arr t sz c a).ok ρ o:=by
 obtain ⟨j,i,b,f,e⟩:=h;exact ⟨h1,by rw [d]; exact i,b,by rw [d]; exact f,by rw [g]; exact e⟩
theorem ybn {f:FuncId} {args args':List SV} {K:Out → Hp → Nat → Prop} (a:∀ ρ vs,relL ρ args vs → relL ρ args' vs) (d:∀ n,(∀ s ∈ args,s.below n) → ∀ s ∈ args',s.below n) (c:zba P f args' h nx K):zba P f args h nx K:=by
 unfold zba at *;intro C ρ w vs S h1 b;exact c C ρ w vs S (a ρ vs h1) (d nx b)
theorem zn6 {n:Nat} {a:Out → Fz → List (Nat × Ent) → Nat → Prop} {out out':Out} (b:∀ ρ e,out.rel ρ e → out'.rel ρ e) (d:out'.below nx) (c:Cln n a out' h nx):Cln n a out h nx:=by
 unfold Cln at *;intro C ρ w e f S h1 g;exact c C ρ w e f S (b ρ e h1) d
end Sx
