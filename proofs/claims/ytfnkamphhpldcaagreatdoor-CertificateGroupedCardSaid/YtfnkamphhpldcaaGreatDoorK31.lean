import Derived.Test.YtfnkamphhpldcaaGreatDoorK29
import Derived.Test.YtfnkamphhpldcaaGreatDoorK30
import Derived.Test.YtfnkamphhpldcaaGreatDoorK25
import Derived.Test.YtfnkamphhpldcaaGreatDoorK26
import Derived.Test.YtfnkamphhpldcaaGreatDoorK23
set_option maxHeartbeats 64000000
namespace Go.Proofs.YtfnkamphhpldcaaGreatDoor
open Go Sx
set_option maxRecDepth 100000
theorem zg3 {P:Program} {f:FuncId} {args:List SV} {h:Hp} {nx:Nat} {K:Out → Hp → Nat → Prop} (i:Nat) (h1:(Nat.ble (i + 1) nx && !Nat.beq i 0) = true) (d:zbf P f args (lput h i .gone) nx K):zbf P f args h nx K:=by
 unfold zbf at *;intro C ρ w vs S e b;simp only [qd,qao] at h1;have c:i < nx:=nb h1.1;have a:i ≠ 0:=fun h=>by rw [h] at h1; exact absurd h1.2 (by decide)
 exact d C ρ w vs (S.forget c a) e b
theorem zc6 {n:Int} (h:-4611686018427387903 ≤ n ∧ n ≤ 4611686018427387903) (l:List Int):zae (n :: l) ≠ []:=by
 rw [zae,q5,jx,zeo h];intro h;exact zjo n (qde.1 h).1
theorem zmn {α:Type} {a b:List α} (h:a ≠ []):a ++ b ≠ []:=fun c=>h (qde.1 c).1
theorem zfm {p:Int} {d:Dc} (g:docOk d = true):propB p d ≠ []:=by
 obtain ⟨k,f,j,h,c,a⟩:=zbk g;obtain ⟨l,m,n,o⟩:=zit a;have e:∀ b,(d.cells.filter (keepQ b)).length ≤ 64:=fun b=>jk (qac _ _) f
 have h1:=e true;have i:=e false;unfold propB;split
 ·exact zmn (zc6 (by omega) _)
 split
 ·exact zmn (zc6 (by omega) _)
 split
 ·exact zmn (zc6 (by omega) _)
 split
 ·exact zmn (zc6 (by omega) _)
 split
 ·exact zmn (zc6 (by omega) _)
 split
 ·exact zc6 (by omega) _
 split
 ·exact zmn (zc6 (by omega) _)
 ·exact zc6 (by omega) _
def pAns (p:Int) (d:Dc):Out:=.ret (.tup [.va (.str (if docOk d = true then propB p d else [])),.va (.int .i64 (if docOk d = true then 0 else 60))])
theorem ziq {p:Int} {d:Dc} (h:docOk d = true):pAns p d = .ret (.tup [.va (.str (propB p d)),.va (.int .i64 0)]):=by rw [pAns,if_pos h,if_pos h]
theorem zio {p:Int} {d:Dc} (h:docOk d = false):pAns p d = .ret (.tup [.va (.str []),.va (.int .i64 60)]):=by rw [pAns,h]; rfl
theorem z5c (X:PFun) (F:Fz) (u:Bool) (m q n:Nat) (B:Bool) (y A f:Nat) (d:Dc) (D:Sl F 148 2 encN (.slice u 0 m q 2 d.lines.length n) d.lines) (I:Sl F 151 6 encK (.slice B 0 y A 6 d.cells.length f) d.cells)
  (M:d.lines.length ≤ 1000) (S:d.cells.length ≤ 1000) (U:d.bits.length ≤ 70000) (_:d.cells.length ≤ f) :
  Fo Tryz.prog F 48 [.agg (docS (.slice u 0 m q 2 d.lines.length n) (.slice B 0 y A 6 d.cells.length f) d.w d.bits),.va (.int .i64 1)] (fun o _=>o = pAns 1 d):=by
 have l:=zc2 F _ _ d D I M S U;have e:=ziq (p:=1) (d:=d);have k:=zio (p:=1) (d:=d);have c:=zfm (p:=1) (d:=d);have Q:propB 1 d = ptext d.lines:=rfl
 have E:docOk d = true → ∀ x ∈ d.lines,x.1.length ≤ 1000000:=fun J x E=>by
  have:=(zbk J).ln x E;unfold dlnOk at this;simp only [qd,decide_eq_true_eq] at this;omega
 have a:=zc0 (p:=1) (d:=d);have b:=fun J:docOk d = true=>ybb X F u m q n B y A d.cells.length f d.lines d.w d.bits D M (E J)
 rw [← Q] at b;clear E Q U M S;obtain ⟨T,R⟩:∃ T,propB 1 d = T:=⟨_,rfl⟩
 rw [R] at b e c a;clear R;obtain ⟨L,K,w,s⟩:=d;replace D:Sl F 148 2 encN (.slice u 0 m q 2 L.length n) L:=D;replace I:Sl F 151 6 encK (.slice B 0 y A 6 K.length f) K:=I;obtain ⟨v,hv⟩:∃ v,docOk ⟨L,K,w,s⟩ = v:=⟨_,rfl⟩
 rw [hv] at l e k c b a
 have fin:∀ (z:Out) (F1:Fz) (h:Hp) (nx:Nat),pAns 1 ⟨L,K,w,s⟩ = z → (∀ μ,z.ren μ = z) → z.z = true → Fz.le F F1 → lget h 0 = some (.frz F1) → Cln 1 (FoK F fun o W=>o = pAns 1 ⟨L,K,w,s⟩) z h nx:=by
  intro z F1 h nx hz Y O i G;subst hz;exact endFo (pAns 1 ⟨L,K,w,s⟩) F1 G i (Fz.r F1) rfl (by rw [Y]; exact zah _) O
 refine fo_of hΘ Tryz.func48 rfl (by decide) _ _ rfl rfl rfl ?_;refine use (zfn F) [] rfl trivial rfl trivial (by simp) trivial ?_;rintro _ F0 G n0 i ⟨rfl,rfl,rfl,rfl⟩;refine bre (by decide) ?_;refine usePu l rfl (zaa _) rfl ?_;rcases v with _ | _
 ·refine bre (by decide) ?_;exact fin _ F _ _ (k rfl) (fun _=>rfl) rfl (Fz.r F) rfl
 ·refine brd (by decide) ?_;refine zg3 2 rfl ?_;refine use (b rfl) [(1,3),(2,2)] rfl ⟨rfl,rfl,tv⟩ rfl ⟨zas _ (by omega) (by omega) _ _,zai zab _ _ _ _ _,tv⟩ (by simp [SV.below,SC.below,SA.below]) ⟨rfl,rfl,tv⟩ ?_;rintro V F1 G n0 j ⟨rfl,rfl,u1,c1,Z,rfl⟩;refine zfp (c rfl) (a rfl) rfl (zeu (by rfl) (by rfl) _ _) rfl (zgu zab _ _ _ _ _) ?_;intro o';exact fin _ F1 _ _ (e rfl) (fun _=>rfl) rfl j rfl
theorem z5d (X:PFun) (F:Fz) (u:Bool) (m q n:Nat) (B:Bool) (y A f:Nat) (d:Dc) (D:Sl F 148 2 encN (.slice u 0 m q 2 d.lines.length n) d.lines) (G:Sl F 151 6 encK (.slice B 0 y A 6 d.cells.length f) d.cells)
  (I:d.lines.length ≤ 1000) (R:d.cells.length ≤ 1000) (U:d.bits.length ≤ 70000) (_:d.cells.length ≤ f) :
  Fo Tryz.prog F 48 [.agg (docS (.slice u 0 m q 2 d.lines.length n) (.slice B 0 y A 6 d.cells.length f) d.w d.bits),.va (.int .i64 2)] (fun o _=>o = pAns 2 d):=by
 have l:=zc2 F _ _ d D G I R U;have e:=ziq (p:=2) (d:=d);have k:=zio (p:=2) (d:=d);have c:=zfm (p:=2) (d:=d);have O:propB 2 d = pmot d.lines:=rfl
 have J:docOk d = true → ∀ x ∈ d.lines,x.1.length ≤ 1000000:=fun S x J=>by
  have:=(zbk S).ln x J;unfold dlnOk at this;simp only [qd,decide_eq_true_eq] at this;omega
 have a:=zc0 (p:=2) (d:=d);have b:=fun S:docOk d = true=>ybc X F u m q n B y A d.cells.length f d.lines d.w d.bits D I
 rw [← O] at b;clear J O U I R;obtain ⟨T,Q⟩:∃ T,propB 2 d = T:=⟨_,rfl⟩
 rw [Q] at b e c a;clear Q;obtain ⟨L,K,w,s⟩:=d;replace D:Sl F 148 2 encN (.slice u 0 m q 2 L.length n) L:=D;replace G:Sl F 151 6 encK (.slice B 0 y A 6 K.length f) K:=G;obtain ⟨v,hv⟩:∃ v,docOk ⟨L,K,w,s⟩ = v:=⟨_,rfl⟩
 rw [hv] at l e k c b a
 have fin:∀ (z:Out) (F1:Fz) (h:Hp) (nx:Nat),pAns 2 ⟨L,K,w,s⟩ = z → (∀ μ,z.ren μ = z) → z.z = true → Fz.le F F1 → lget h 0 = some (.frz F1) → Cln 1 (FoK F fun o W=>o = pAns 2 ⟨L,K,w,s⟩) z h nx:=by
  intro z F1 h nx hz Y M i E;subst hz;exact endFo (pAns 2 ⟨L,K,w,s⟩) F1 E i (Fz.r F1) rfl (by rw [Y]; exact zah _) M
 refine fo_of hΘ Tryz.func48 rfl (by decide) _ _ rfl rfl rfl ?_;refine use (zfn F) [] rfl trivial rfl trivial (by simp) trivial ?_;rintro _ F0 E n0 i ⟨rfl,rfl,rfl,rfl⟩;refine brd (by decide) ?_; (conv=>whnf); refine bre (by decide) ?_;refine usePu l rfl (zaa _) rfl ?_;rcases v with _ | _
 ·refine bre (by decide) ?_;exact fin _ F _ _ (k rfl) (fun _=>rfl) rfl (Fz.r F) rfl
 ·refine brd (by decide) ?_;refine zg3 2 rfl ?_;refine use (b rfl) [(1,3),(2,2)] rfl ⟨rfl,rfl,tv⟩ rfl ⟨zas _ (by omega) (by omega) _ _,zai zab _ _ _ _ _,tv⟩ (by simp [SV.below,SC.below,SA.below]) ⟨rfl,rfl,tv⟩ ?_;rintro V F1 E n0 j ⟨rfl,rfl,u1,c1,Z,rfl⟩;refine zfp (c rfl) (a rfl) rfl (zeu (by rfl) (by rfl) _ _) rfl (zgu zab _ _ _ _ _) ?_;intro o';exact fin _ F1 _ _ (e rfl) (fun _=>rfl) rfl j rfl
theorem z5e (X:PFun) (F:Fz) (u:Bool) (m q n:Nat) (B:Bool) (y A f:Nat) (d:Dc) (G:Sl F 148 2 encN (.slice u 0 m q 2 d.lines.length n) d.lines) (D:Sl F 151 6 encK (.slice B 0 y A 6 d.cells.length f) d.cells)
  (S:d.lines.length ≤ 1000) (I:d.cells.length ≤ 1000) (U:d.bits.length ≤ 70000) (_:d.cells.length ≤ f) :
  Fo Tryz.prog F 48 [.agg (docS (.slice u 0 m q 2 d.lines.length n) (.slice B 0 y A 6 d.cells.length f) d.w d.bits),.va (.int .i64 3)] (fun o _=>o = pAns 3 d):=by
 have l:=zc2 F _ _ d G D S I U;have e:=ziq (p:=3) (d:=d);have k:=zio (p:=3) (d:=d);have c:=zfm (p:=3) (d:=d);have O:propB 3 d = zcr false d.cells:=rfl
 have J:docOk d = true → ∀ x ∈ d.lines,x.1.length ≤ 1000000:=fun R x J=>by
  have:=(zbk R).ln x J;unfold dlnOk at this;simp only [qd,decide_eq_true_eq] at this;omega
 have a:=zc0 (p:=3) (d:=d);have b:=fun R:docOk d = true=>ybd X F u m q d.lines.length n B y A f d.cells d.w d.bits D I
 rw [← O] at b;clear J O U S I;obtain ⟨T,Q⟩:∃ T,propB 3 d = T:=⟨_,rfl⟩
 rw [Q] at b e c a;clear Q;obtain ⟨L,K,w,s⟩:=d;replace G:Sl F 148 2 encN (.slice u 0 m q 2 L.length n) L:=G;replace D:Sl F 151 6 encK (.slice B 0 y A 6 K.length f) K:=D;obtain ⟨v,hv⟩:∃ v,docOk ⟨L,K,w,s⟩ = v:=⟨_,rfl⟩
 rw [hv] at l e k c b a
 have fin:∀ (z:Out) (F1:Fz) (h:Hp) (nx:Nat),pAns 3 ⟨L,K,w,s⟩ = z → (∀ μ,z.ren μ = z) → z.z = true → Fz.le F F1 → lget h 0 = some (.frz F1) → Cln 1 (FoK F fun o W=>o = pAns 3 ⟨L,K,w,s⟩) z h nx:=by
  intro z F1 h nx hz Y M i E;subst hz;exact endFo (pAns 3 ⟨L,K,w,s⟩) F1 E i (Fz.r F1) rfl (by rw [Y]; exact zah _) M
 refine fo_of hΘ Tryz.func48 rfl (by decide) _ _ rfl rfl rfl ?_;refine use (zfn F) [] rfl trivial rfl trivial (by simp) trivial ?_;rintro _ F0 E n0 i ⟨rfl,rfl,rfl,rfl⟩;refine brd (by decide) ?_; (conv=>whnf); refine brd (by decide) ?_; (conv=>whnf); refine bre (by decide) ?_;refine usePu l rfl (zaa _) rfl ?_;rcases v with _ | _
 ·refine bre (by decide) ?_;exact fin _ F _ _ (k rfl) (fun _=>rfl) rfl (Fz.r F) rfl
 ·refine brd (by decide) ?_;refine zg3 2 rfl ?_;refine use (b rfl) [(1,3),(2,2)] rfl ⟨rfl,rfl,tv⟩ rfl ⟨zas _ (by omega) (by omega) _ _,zai zab _ _ _ _ _,tv⟩ (by simp [SV.below,SC.below,SA.below]) ⟨rfl,rfl,tv⟩ ?_;rintro V F1 E n0 j ⟨rfl,rfl,u1,c1,Z,rfl⟩;refine zfp (c rfl) (a rfl) rfl (zeu (by rfl) (by rfl) _ _) rfl (zgu zab _ _ _ _ _) ?_;intro o';exact fin _ F1 _ _ (e rfl) (fun _=>rfl) rfl j rfl
theorem z5f (X:PFun) (F:Fz) (u:Bool) (m q n:Nat) (B:Bool) (y A f:Nat) (d:Dc) (G:Sl F 148 2 encN (.slice u 0 m q 2 d.lines.length n) d.lines) (D:Sl F 151 6 encK (.slice B 0 y A 6 d.cells.length f) d.cells)
  (S:d.lines.length ≤ 1000) (I:d.cells.length ≤ 1000) (U:d.bits.length ≤ 70000) (_:d.cells.length ≤ f) :
  Fo Tryz.prog F 48 [.agg (docS (.slice u 0 m q 2 d.lines.length n) (.slice B 0 y A 6 d.cells.length f) d.w d.bits),.va (.int .i64 4)] (fun o _=>o = pAns 4 d):=by
 have l:=zc2 F _ _ d G D S I U;have e:=ziq (p:=4) (d:=d);have k:=zio (p:=4) (d:=d);have c:=zfm (p:=4) (d:=d);have O:propB 4 d = zcr true d.cells:=rfl
 have J:docOk d = true → ∀ x ∈ d.lines,x.1.length ≤ 1000000:=fun R x J=>by
  have:=(zbk R).ln x J;unfold dlnOk at this;simp only [qd,decide_eq_true_eq] at this;omega
 have a:=zc0 (p:=4) (d:=d);have b:=fun R:docOk d = true=>ybe X F u m q d.lines.length n B y A f d.cells d.w d.bits D I
 rw [← O] at b;clear J O U S I;obtain ⟨T,Q⟩:∃ T,propB 4 d = T:=⟨_,rfl⟩
 rw [Q] at b e c a;clear Q;obtain ⟨L,K,w,s⟩:=d;replace G:Sl F 148 2 encN (.slice u 0 m q 2 L.length n) L:=G;replace D:Sl F 151 6 encK (.slice B 0 y A 6 K.length f) K:=D;obtain ⟨v,hv⟩:∃ v,docOk ⟨L,K,w,s⟩ = v:=⟨_,rfl⟩
 rw [hv] at l e k c b a
 have fin:∀ (z:Out) (F1:Fz) (h:Hp) (nx:Nat),pAns 4 ⟨L,K,w,s⟩ = z → (∀ μ,z.ren μ = z) → z.z = true → Fz.le F F1 → lget h 0 = some (.frz F1) → Cln 1 (FoK F fun o W=>o = pAns 4 ⟨L,K,w,s⟩) z h nx:=by
  intro z F1 h nx hz Y M i E;subst hz;exact endFo (pAns 4 ⟨L,K,w,s⟩) F1 E i (Fz.r F1) rfl (by rw [Y]; exact zah _) M
 refine fo_of hΘ Tryz.func48 rfl (by decide) _ _ rfl rfl rfl ?_;refine use (zfn F) [] rfl trivial rfl trivial (by simp) trivial ?_;rintro _ F0 E n0 i ⟨rfl,rfl,rfl,rfl⟩;refine brd (by decide) ?_; (conv=>whnf); refine brd (by decide) ?_; (conv=>whnf); refine brd (by decide) ?_; (conv=>whnf); refine bre (by decide) ?_;refine usePu l rfl (zaa _) rfl ?_;rcases v with _ | _
 ·refine bre (by decide) ?_;exact fin _ F _ _ (k rfl) (fun _=>rfl) rfl (Fz.r F) rfl
 ·refine brd (by decide) ?_;refine zg3 2 rfl ?_;refine use (b rfl) [(1,3),(2,2)] rfl ⟨rfl,rfl,tv⟩ rfl ⟨zas _ (by omega) (by omega) _ _,zai zab _ _ _ _ _,tv⟩ (by simp [SV.below,SC.below,SA.below]) ⟨rfl,rfl,tv⟩ ?_;rintro V F1 E n0 j ⟨rfl,rfl,u1,c1,Z,rfl⟩;refine zfp (c rfl) (a rfl) rfl (zeu (by rfl) (by rfl) _ _) rfl (zgu zab _ _ _ _ _) ?_;intro o';exact fin _ F1 _ _ (e rfl) (fun _=>rfl) rfl j rfl
theorem z5g (X:PFun) (F:Fz) (u:Bool) (m q n:Nat) (B:Bool) (y A g:Nat) (d:Dc) (G:Sl F 148 2 encN (.slice u 0 m q 2 d.lines.length n) d.lines) (D:Sl F 151 6 encK (.slice B 0 y A 6 d.cells.length g) d.cells)
  (S:d.lines.length ≤ 1000) (I:d.cells.length ≤ 1000) (U:d.bits.length ≤ 70000) (c:d.cells.length ≤ g) :
  Fo Tryz.prog F 48 [.agg (docS (.slice u 0 m q 2 d.lines.length n) (.slice B 0 y A 6 d.cells.length g) d.w d.bits),.va (.int .i64 5)] (fun o _=>o = pAns 5 d):=by
 have l:=zc2 F _ _ d G D S I U;have f:=ziq (p:=5) (d:=d);have k:=zio (p:=5) (d:=d);have e:=zfm (p:=5) (d:=d);have O:propB 5 d = pvals d.cells:=rfl
 have J:docOk d = true → ∀ x ∈ d.lines,x.1.length ≤ 1000000:=fun R x J=>by
  have:=(zbk R).ln x J;unfold dlnOk at this;simp only [qd,decide_eq_true_eq] at this;omega
 have a:=zc0 (p:=5) (d:=d);have b:=fun R:docOk d = true=>ybf X F u m q d.lines.length n B y A g d.cells d.w d.bits D I c
 rw [← O] at b;clear J O U S I c;obtain ⟨T,Q⟩:∃ T,propB 5 d = T:=⟨_,rfl⟩
 rw [Q] at b f e a;clear Q;obtain ⟨L,K,w,s⟩:=d;replace G:Sl F 148 2 encN (.slice u 0 m q 2 L.length n) L:=G;replace D:Sl F 151 6 encK (.slice B 0 y A 6 K.length g) K:=D;obtain ⟨v,hv⟩:∃ v,docOk ⟨L,K,w,s⟩ = v:=⟨_,rfl⟩
 rw [hv] at l f k e b a
 have fin:∀ (z:Out) (F1:Fz) (h:Hp) (nx:Nat),pAns 5 ⟨L,K,w,s⟩ = z → (∀ μ,z.ren μ = z) → z.z = true → Fz.le F F1 → lget h 0 = some (.frz F1) → Cln 1 (FoK F fun o W=>o = pAns 5 ⟨L,K,w,s⟩) z h nx:=by
  intro z F1 h nx hz Y M i E;subst hz;exact endFo (pAns 5 ⟨L,K,w,s⟩) F1 E i (Fz.r F1) rfl (by rw [Y]; exact zah _) M
 refine fo_of hΘ Tryz.func48 rfl (by decide) _ _ rfl rfl rfl ?_;refine use (zfn F) [] rfl trivial rfl trivial (by simp) trivial ?_;rintro _ F0 E n0 i ⟨rfl,rfl,rfl,rfl⟩;refine brd (by decide) ?_; (conv=>whnf); refine brd (by decide) ?_; (conv=>whnf); refine brd (by decide) ?_; (conv=>whnf); refine brd (by decide) ?_; (conv=>whnf); refine bre (by decide) ?_;refine usePu l rfl (zaa _) rfl ?_;rcases v with _ | _
 ·refine bre (by decide) ?_;exact fin _ F _ _ (k rfl) (fun _=>rfl) rfl (Fz.r F) rfl
 ·refine brd (by decide) ?_;refine zg3 2 rfl ?_;refine use (b rfl) [(1,3),(2,2)] rfl ⟨rfl,rfl,tv⟩ rfl ⟨zas _ (by omega) (by omega) _ _,zai zab _ _ _ _ _,tv⟩ (by simp [SV.below,SC.below,SA.below]) ⟨rfl,rfl,tv⟩ ?_;rintro V F1 E n0 j ⟨rfl,rfl,u1,c1,Z,rfl⟩;refine zfp (e rfl) (a rfl) rfl (zeu (by rfl) (by rfl) _ _) rfl (zgu zab _ _ _ _ _) ?_;intro o';exact fin _ F1 _ _ (f rfl) (fun _=>rfl) rfl j rfl
theorem z5h (X:PFun) (F:Fz) (u:Bool) (m q n:Nat) (B:Bool) (y A f:Nat) (d:Dc) (E:Sl F 148 2 encN (.slice u 0 m q 2 d.lines.length n) d.lines) (G:Sl F 151 6 encK (.slice B 0 y A 6 d.cells.length f) d.cells)
  (S:d.lines.length ≤ 1000) (Q:d.cells.length ≤ 1000) (U:d.bits.length ≤ 70000) (_:d.cells.length ≤ f) :
  Fo Tryz.prog F 48 [.agg (docS (.slice u 0 m q 2 d.lines.length n) (.slice B 0 y A 6 d.cells.length f) d.w d.bits),.va (.int .i64 6)] (fun o _=>o = pAns 6 d):=by
 have l:=zc2 F _ _ d E G S Q U;have e:=ziq (p:=6) (d:=d);have k:=zio (p:=6) (d:=d);have c:=zfm (p:=6) (d:=d);have M:propB 6 d = zae [d.w,hgt d.w d.bits]:=rfl
 have I:docOk d = true → ∀ x ∈ d.lines,x.1.length ≤ 1000000:=fun R x I=>by
  have:=(zbk R).ln x I;unfold dlnOk at this;simp only [qd,decide_eq_true_eq] at this;omega
 have a:=zc0 (p:=6) (d:=d);have b:=fun R:docOk d = true=>ybg X F u m q d.lines.length n B y A d.cells.length f d.w d.bits (by omega)
 rw [← M] at b;clear I M U S Q;obtain ⟨T,O⟩:∃ T,propB 6 d = T:=⟨_,rfl⟩
 rw [O] at b e c a;clear O;obtain ⟨L,K,w,s⟩:=d;replace E:Sl F 148 2 encN (.slice u 0 m q 2 L.length n) L:=E;replace G:Sl F 151 6 encK (.slice B 0 y A 6 K.length f) K:=G;obtain ⟨v,hv⟩:∃ v,docOk ⟨L,K,w,s⟩ = v:=⟨_,rfl⟩
 rw [hv] at l e k c b a
 have fin:∀ (z:Out) (F1:Fz) (h:Hp) (nx:Nat),pAns 6 ⟨L,K,w,s⟩ = z → (∀ μ,z.ren μ = z) → z.z = true → Fz.le F F1 → lget h 0 = some (.frz F1) → Cln 1 (FoK F fun o W=>o = pAns 6 ⟨L,K,w,s⟩) z h nx:=by
  intro z F1 h nx hz Y J i D;subst hz;exact endFo (pAns 6 ⟨L,K,w,s⟩) F1 D i (Fz.r F1) rfl (by rw [Y]; exact zah _) J
 refine fo_of hΘ Tryz.func48 rfl (by decide) _ _ rfl rfl rfl ?_;refine use (zfn F) [] rfl trivial rfl trivial (by simp) trivial ?_;rintro _ F0 D n0 i ⟨rfl,rfl,rfl,rfl⟩;refine brd (by decide) ?_; (conv=>whnf); refine brd (by decide) ?_; (conv=>whnf); refine brd (by decide) ?_; (conv=>whnf); refine brd (by decide) ?_; (conv=>whnf); refine brd (by decide) ?_; (conv=>whnf); refine bre (by decide) ?_;refine usePu l rfl (zaa _) rfl ?_;rcases v with _ | _
 ·refine bre (by decide) ?_;exact fin _ F _ _ (k rfl) (fun _=>rfl) rfl (Fz.r F) rfl
 ·refine brd (by decide) ?_;refine zg3 2 rfl ?_;refine use (b rfl) [(1,3),(2,2)] rfl ⟨rfl,rfl,tv⟩ rfl ⟨zas _ (by omega) (by omega) _ _,zai zab _ _ _ _ _,tv⟩ (by simp [SV.below,SC.below,SA.below]) ⟨rfl,rfl,tv⟩ ?_;rintro V F1 D n0 j ⟨rfl,rfl,u1,c1,Z,rfl⟩;refine zfp (c rfl) (a rfl) rfl (zeu (by rfl) (by rfl) _ _) rfl (zgu zab _ _ _ _ _) ?_;intro o';exact fin _ F1 _ _ (e rfl) (fun _=>rfl) rfl j rfl
theorem z5i (X:PFun) (F:Fz) (u:Bool) (m q n:Nat) (B:Bool) (y A f:Nat) (d:Dc) (E:Sl F 148 2 encN (.slice u 0 m q 2 d.lines.length n) d.lines) (G:Sl F 151 6 encK (.slice B 0 y A 6 d.cells.length f) d.cells)
  (S:d.lines.length ≤ 1000) (Q:d.cells.length ≤ 1000) (U:d.bits.length ≤ 70000) (_:d.cells.length ≤ f) :
  Fo Tryz.prog F 48 [.agg (docS (.slice u 0 m q 2 d.lines.length n) (.slice B 0 y A 6 d.cells.length f) d.w d.bits),.va (.int .i64 7)] (fun o _=>o = pAns 7 d):=by
 have l:=zc2 F _ _ d E G S Q U;have e:=ziq (p:=7) (d:=d);have k:=zio (p:=7) (d:=d);have c:=zfm (p:=7) (d:=d);have M:propB 7 d = zae [d.w,hgt d.w d.bits] ++ (putSR d.bits).1:=rfl
 have I:docOk d = true → ∀ x ∈ d.lines,x.1.length ≤ 1000000:=fun R x I=>by
  have:=(zbk R).ln x I;unfold dlnOk at this;simp only [qd,decide_eq_true_eq] at this;omega
 have a:=zc0 (p:=7) (d:=d);have b:=fun R:docOk d = true=>ybh X F u m q d.lines.length n B y A d.cells.length f d.w d.bits (by omega)
 rw [← M] at b;clear I M U S Q;obtain ⟨T,O⟩:∃ T,propB 7 d = T:=⟨_,rfl⟩
 rw [O] at b e c a;clear O;obtain ⟨L,K,w,s⟩:=d;replace E:Sl F 148 2 encN (.slice u 0 m q 2 L.length n) L:=E;replace G:Sl F 151 6 encK (.slice B 0 y A 6 K.length f) K:=G;obtain ⟨v,hv⟩:∃ v,docOk ⟨L,K,w,s⟩ = v:=⟨_,rfl⟩
 rw [hv] at l e k c b a
 have fin:∀ (z:Out) (F1:Fz) (h:Hp) (nx:Nat),pAns 7 ⟨L,K,w,s⟩ = z → (∀ μ,z.ren μ = z) → z.z = true → Fz.le F F1 → lget h 0 = some (.frz F1) → Cln 1 (FoK F fun o W=>o = pAns 7 ⟨L,K,w,s⟩) z h nx:=by
  intro z F1 h nx hz Y J i D;subst hz;exact endFo (pAns 7 ⟨L,K,w,s⟩) F1 D i (Fz.r F1) rfl (by rw [Y]; exact zah _) J
 refine fo_of hΘ Tryz.func48 rfl (by decide) _ _ rfl rfl rfl ?_;refine use (zfn F) [] rfl trivial rfl trivial (by simp) trivial ?_;rintro _ F0 D n0 i ⟨rfl,rfl,rfl,rfl⟩;refine brd (by decide) ?_; (conv=>whnf); refine brd (by decide) ?_; (conv=>whnf); refine brd (by decide) ?_; (conv=>whnf); refine brd (by decide) ?_; (conv=>whnf); refine brd (by decide) ?_; (conv=>whnf); refine brd (by decide) ?_; (conv=>whnf); refine bre (by decide) ?_;refine usePu l rfl (zaa _) rfl ?_;rcases v with _ | _
 ·refine bre (by decide) ?_;exact fin _ F _ _ (k rfl) (fun _=>rfl) rfl (Fz.r F) rfl
 ·refine brd (by decide) ?_;refine zg3 2 rfl ?_;refine use (b rfl) [(1,3),(2,2)] rfl ⟨rfl,rfl,tv⟩ rfl ⟨zas _ (by omega) (by omega) _ _,zai zab _ _ _ _ _,tv⟩ (by simp [SV.below,SC.below,SA.below]) ⟨rfl,rfl,tv⟩ ?_;rintro V F1 D n0 j ⟨rfl,rfl,u1,c1,Z,rfl⟩;refine zfp (c rfl) (a rfl) rfl (zeu (by rfl) (by rfl) _ _) rfl (zgu zab _ _ _ _ _) ?_;intro o';exact fin _ F1 _ _ (e rfl) (fun _=>rfl) rfl j rfl
theorem z5j (X:PFun) (F:Fz) (u:Bool) (m q n:Nat) (B:Bool) (y A f:Nat) (d:Dc) (E:Sl F 148 2 encN (.slice u 0 m q 2 d.lines.length n) d.lines) (G:Sl F 151 6 encK (.slice B 0 y A 6 d.cells.length f) d.cells)
  (S:d.lines.length ≤ 1000) (Q:d.cells.length ≤ 1000) (U:d.bits.length ≤ 70000) (_:d.cells.length ≤ f) :
  Fo Tryz.prog F 48 [.agg (docS (.slice u 0 m q 2 d.lines.length n) (.slice B 0 y A 6 d.cells.length f) d.w d.bits),.va (.int .i64 8)] (fun o _=>o = pAns 8 d):=by
 have l:=zc2 F _ _ d E G S Q U;have e:=ziq (p:=8) (d:=d);have k:=zio (p:=8) (d:=d);have c:=zfm (p:=8) (d:=d);have M:propB 8 d = zae [(d.lines.length:Int),(d.cells.length:Int)]:=rfl
 have I:docOk d = true → ∀ x ∈ d.lines,x.1.length ≤ 1000000:=fun R x I=>by
  have:=(zbk R).ln x I;unfold dlnOk at this;simp only [qd,decide_eq_true_eq] at this;omega
 have a:=zc0 (p:=8) (d:=d);have b:=fun R:docOk d = true=>ybi X F u m q d.lines.length n B y A d.cells.length f d.w d.bits
 rw [← M] at b;clear I M U S Q;obtain ⟨T,O⟩:∃ T,propB 8 d = T:=⟨_,rfl⟩
 rw [O] at b e c a;clear O;obtain ⟨L,K,w,s⟩:=d;replace E:Sl F 148 2 encN (.slice u 0 m q 2 L.length n) L:=E;replace G:Sl F 151 6 encK (.slice B 0 y A 6 K.length f) K:=G;obtain ⟨v,hv⟩:∃ v,docOk ⟨L,K,w,s⟩ = v:=⟨_,rfl⟩
 rw [hv] at l e k c b a
 have fin:∀ (z:Out) (F1:Fz) (h:Hp) (nx:Nat),pAns 8 ⟨L,K,w,s⟩ = z → (∀ μ,z.ren μ = z) → z.z = true → Fz.le F F1 → lget h 0 = some (.frz F1) → Cln 1 (FoK F fun o W=>o = pAns 8 ⟨L,K,w,s⟩) z h nx:=by
  intro z F1 h nx hz Y J i D;subst hz;exact endFo (pAns 8 ⟨L,K,w,s⟩) F1 D i (Fz.r F1) rfl (by rw [Y]; exact zah _) J
 refine fo_of hΘ Tryz.func48 rfl (by decide) _ _ rfl rfl rfl ?_;refine use (zfn F) [] rfl trivial rfl trivial (by simp) trivial ?_;rintro _ F0 D n0 i ⟨rfl,rfl,rfl,rfl⟩;refine brd (by decide) ?_; (conv=>whnf); refine brd (by decide) ?_; (conv=>whnf); refine brd (by decide) ?_; (conv=>whnf); refine brd (by decide) ?_; (conv=>whnf); refine brd (by decide) ?_; (conv=>whnf); refine brd (by decide) ?_; (conv=>whnf); refine brd (by decide) ?_; (conv=>whnf); refine bre (by decide) ?_;refine usePu l rfl (zaa _) rfl ?_;rcases v with _ | _
 ·refine bre (by decide) ?_;exact fin _ F _ _ (k rfl) (fun _=>rfl) rfl (Fz.r F) rfl
 ·refine brd (by decide) ?_;refine zg3 2 rfl ?_;refine use (b rfl) [(1,3),(2,2)] rfl ⟨rfl,rfl,tv⟩ rfl ⟨zas _ (by omega) (by omega) _ _,zai zab _ _ _ _ _,tv⟩ (by simp [SV.below,SC.below,SA.below]) ⟨rfl,rfl,tv⟩ ?_;rintro V F1 D n0 j ⟨rfl,rfl,u1,c1,Z,rfl⟩;refine zfp (c rfl) (a rfl) rfl (zeu (by rfl) (by rfl) _ _) rfl (zgu zab _ _ _ _ _) ?_;intro o';exact fin _ F1 _ _ (e rfl) (fun _=>rfl) rfl j rfl
theorem z0u (k:PFun) (F:Fz) (g:Bool) (c f e:Nat) (j:Bool) (h i b:Nat) (d:Dc) (l:Sl F 148 2 encN (.slice g 0 c f 2 d.lines.length e) d.lines) (m:Sl F 151 6 encK (.slice j 0 h i 6 d.cells.length b) d.cells)
  (q:d.lines.length ≤ 1000) (n:d.cells.length ≤ 1000) (s:d.bits.length ≤ 70000) (a:d.cells.length ≤ b) (p:Int) (y:1 ≤ p ∧ p ≤ 8) :
  Fo Tryz.prog F 48 [.agg (docS (.slice g 0 c f 2 d.lines.length e) (.slice j 0 h i 6 d.cells.length b) d.w d.bits),.va (.int .i64 p)] (fun o _=>o = pAns p d):=by
 have u:p = 1 ∨ p = 2 ∨ p = 3 ∨ p = 4 ∨ p = 5 ∨ p = 6 ∨ p = 7 ∨ p = 8:=by omega
 rcases u with rfl | rfl | rfl | rfl | rfl | rfl | rfl | rfl
 ·exact z5c k F g c f e j h i b d l m q n s a
 ·exact z5d k F g c f e j h i b d l m q n s a
 ·exact z5e k F g c f e j h i b d l m q n s a
 ·exact z5f k F g c f e j h i b d l m q n s a
 ·exact z5g k F g c f e j h i b d l m q n s a
 ·exact z5h k F g c f e j h i b d l m q n s a
 ·exact z5i k F g c f e j h i b d l m q n s a
 ·exact z5j k F g c f e j h i b d l m q n s a
def allB (d:Dc):List (List UInt8):=(List.range 8).map fun k:Nat=>propB ((k:Int) + 1) d
theorem zda (d:Dc):(allB d).length = 8:=by simp [allB]
theorem zkc (d:Dc) (k:Nat) (h:k < 8):(allB d)[k]? = some (propB ((k:Int) + 1) d):=by simp [allB,h]
theorem zfl {n:Nat} {a b:SA} {w:Int} {s:List UInt8} (c:a.below n) (d:b.below n):(Ent.one (.cells 41 (docS a b w s))).below n:=zee (w:=w) (s:=s) c d
theorem zeg:Plain encS:=fun x=>⟨fun μ=>rfl,fun a b=>by simp only [encS,qs] at b; subst b; trivial⟩
abbrev z7c (a b:SA) (w:Int) (s:List UInt8):Ent:=.one (.cells 41 (docS a b w s))
theorem ya2 (hP:PFun) (F:Fz) (S:Bool) (O R Q:Nat) (V:Bool) (T U E:Nat) (d:Dc) (ha:Sl F 148 2 encN (.slice S 0 O R 2 d.lines.length Q) d.lines) (hb:Sl F 151 6 encK (.slice V 0 T U 6 d.cells.length E) d.cells)
  (hl:d.lines.length ≤ 1000) (hc:d.cells.length ≤ 1000) (hs:d.bits.length ≤ 70000) (m:d.cells.length ≤ E) :
  Fo Tryz.prog F 14 [.agg (docS (.slice S 0 O R 2 d.lines.length Q) (.slice V 0 T U 6 d.cells.length E) d.w d.bits)] (fun o F'=>(docOk d = false ∧ o = .ret (.tup [.va .nilsl,.va (.int .i64 60)])) ∨
   (docOk d = true ∧ ∃ b c,o = .ret (.tup [.va (.slice false 0 b 0 1 8 c),.va (.int .i64 0)]) ∧ F' b = some (.arr 9 1 ((allB d).map encS) c))):=by
 have ad:=fun F1 (l1:Fz.le F F1)=>z0u hP F1 S O R Q V T U E d (ha.mono l1) (hb.mono l1) hl hc hs m
 have af:=fun p=>ziq (p:=p) (d:=d)
 have aa:=fun p=>zio (p:=p) (d:=d)
 have f:=zda d;have hgt:=zkc d;obtain ⟨A,hA⟩:∃ A,allB d = A:=⟨_,rfl⟩
 rw [hA] at f hgt ⊢;clear hA ha hb hl hc hs m;obtain ⟨L,K,w,s⟩:=d;obtain ⟨v,hv⟩:∃ v,docOk ⟨L,K,w,s⟩ = v:=⟨_,rfl⟩
 rw [hv] at af aa ⊢;clear hv;rcases v with _ | _
 ·have a:=ad F (Fz.r F) 1 (by omega);rw [aa 1 rfl] at a;refine fo_of hΘ Tryz.func14 rfl (by decide) _ _ rfl rfl rfl ?_
  refine zam hΘ (X:={ k:Nat // k = 0 }) (fun k=>[(4,.va .nilsl),(8,.va (.int .i64 k.1))]) (2::3::5::6::7::jr 9 17 [])
   (fun y=>[(0,.frz F),(1,z7c (.slice S 0 O R 2 L.length Q) (.slice V 0 T U 6 K.length E) w s)]) 2 (fun k=>0) ⟨0,rfl⟩
   (fun u x=>leI [] u x rfl ⟨tv,zfl (.inr (by omega)) (.inr (by omega)),tv⟩ ⟨rfl,rfl,tv⟩ ⟨Fz.r F,rfl,tv⟩) ?_
  rintro ⟨k,rfl⟩ u x;refine br (fun _=>?_) (fun q=>absurd q (by decide));refine useFo a rfl (zaa _) rfl ?_;rintro _ F1 l1 rfl;refine br (fun _=>?_) (fun q=>absurd q (by decide));exact endFo (.ret (.tup [.va .nilsl,.va (.int .i64 60)])) F1 rfl l1 (Fz.r F1) (.inl ⟨rfl,rfl⟩) (zah _) rfl
 ·refine fo_of hΘ Tryz.func14 rfl (by decide) _ _ rfl rfl rfl ?_
  refine zam hΘ (X:={ y:Nat × List (List UInt8) × Nat × Fz // Fz.le F y.2.2.2 ∧ y.1 ≤ 8 ∧ y.2.1 = A.take y.1 }) (fun y=>[(4,.va (gA 1 2 y.1.2.2.1 y.1.2.1)),(8,.va (.int .i64 y.1.1))]) (2::3::5::6::7::jr 9 17 [])
   (fun y=>[(0,.frz y.1.2.2.2),(1,z7c (.slice S 0 O R 2 L.length Q) (.slice V 0 T U 6 K.length E) w s),(2,gE 9 1 encS y.1.2.2.1 y.1.2.1)]) 3 (fun y=>8 - y.1.1) ⟨(0,[],0,F),Fz.r F,by omega,by simp⟩
   (fun u x=>leI [(2,2)] u x rfl ⟨tv,zfl (.inr (by omega)) (.inr (by omega)),zai zeg _ _ _ _ _,tv⟩ ⟨rfl,rfl,tv⟩ ⟨Fz.r F,rfl,rfl,tv⟩) ?_
  rintro ⟨⟨k,o,co,G⟩,I,hk,J⟩ u x;replace I:Fz.le F G:=I;replace hk:k ≤ 8:=hk;replace J:o = A.take k:=J;by_cases g:k < 8
  ·have l:(k:Int) < 8:=by omega
   have W:k + 1 ≤ 8:=g;have n:8 - (k + 1) < 8 - k:=by omega
   have h:k < 4611686018427387904:=by omega
   have hw:SA.int .i64 ((k:Int) + 1) = SA.int .i64 (IntKind.i64.wrap ((k:Int) + 1)):=cnt h;have al:∃ t,propB ((k:Int) + 1) ⟨L,K,w,s⟩ = t:=⟨_,rfl⟩
   obtain ⟨t,ht⟩:=al;have a:=ad G I ((k:Int) + 1) (by omega);rw [af ((k:Int) + 1) rfl,ht] at a
   have Z:o ++ [t] = A.take (k + 1):=by
    have Y:k < A.length:=by omega
    rw [qh Y,J];have:=hgt k g;rw [qc Y,ht] at this;rw [Option.some.inj this]
   have D:o.length = k:=by rw [J,qk]; omega
   clear ht J;rcases o with _ | ⟨o0,e⟩
   ·refine bri l ?_;refine useFo a rfl ⟨rfl,hw,tv⟩ rfl ?_;rintro _ M l2 rfl;refine br (fun q=>absurd q (by decide)) (fun _=>?_);refine ⟨nb rfl,[encS t],rfl,rfl,rfl,by show 1 * 16 ≤ 140737488355328; omega,fun c' ah=>?_⟩;exact ⟨⟨(k + 1,[] ++ [t],c',M),Fz.t I l2,W,Z⟩,n,leR [(2,4)] u x rfl ⟨tv,zfl (.inr (by omega)) (.inr (by omega)),zai zeg _ _ _ _ _,tv⟩ ⟨by (conv=>whnf); exact ⟨rfl,rfl,rfl,.inr ⟨rfl,rfl,rfl,rfl⟩⟩,cnt h,tv⟩ ⟨Fz.r M,rfl,za0 zeg (zb9 _ (by simp)),tv⟩⟩
   ·have ak:(e.length + 1 + 1) * 16 ≤ 140737488355328:=by
     have h9:e.length + 1 = k:=D;omega
    refine bri l ?_;refine useFo a rfl ⟨rfl,hw,tv⟩ rfl ?_;rintro _ M l2 rfl;refine br (fun q=>absurd q (by decide)) (fun _=>?_);refine ⟨nb rfl,[encS t],rfl,rfl,rfl,by simp,rfl,ak,fun c' ah=>?_⟩;exact ⟨⟨(k + 1,(o0 :: e) ++ [t],c',M),Fz.t I l2,W,Z⟩,n,leR [(2,4)] u x rfl ⟨tv,zfl (.inr (by omega)) (.inr (by omega)),zai zeg _ _ _ _ _,tv⟩ ⟨zg4 (μ:=sig [(2,4)]) (i:=2) (j:=4) rfl 1 c' _ (o0 :: e) t rfl,cnt h,tv⟩ ⟨Fz.r M,rfl,za0 zeg (zb9 _ (by simp)),tv⟩⟩
  ·have l:¬ (k:Int) < 8:=by omega
   have ai:k = 8:=by omega
   have B:o = A:=by rw [J,ai,qo (by omega)]
   rcases o with _ | ⟨o0,e⟩
   ·rw [← B] at f; cases f
   ·have D:e.length + 1 = 8:=by rw [← B] at f; exact f
    refine brj l ?_;refine zbe 2 (fun _=>.arr 9 1 ((o0 :: e).map encS) co) rfl rfl rfl (fun _ _=>by exact zcx zeg rfl _ _ _ _) (fun _ _=>zbj zeg _ _ _ _ _) ?_;intro b' F' aj ag;refine endFo (.ret (.tup [.va (.slice false 0 (b' 0) 0 1 8 co),.va (.int .i64 0)])) F' rfl (Fz.t I aj) (Fz.r F') (.inr ⟨rfl,_,_,rfl,by rw [← B]; exact ag 0 ⟨rfl,rfl⟩⟩) ?_ rfl;exact ⟨⟨rfl,D.symm,rfl,.inr ⟨rfl,rfl,rfl,rfl⟩⟩,rfl,tv⟩
def DocAt (F:Fz) (a b:SA) (d:Dc):Prop:=
 ∃ (h:Bool) (e g f:Nat) (k:Bool) (i j c:Nat),a = .slice h 0 e g 2 d.lines.length f ∧ b = .slice k 0 i j 6 d.cells.length c ∧ Sl F 148 2 encN a d.lines ∧ Sl F 151 6 encK b d.cells ∧ d.cells.length ≤ c
theorem DocAt.mono {F e:Fz} {a b:SA} {d:Dc} (h:DocAt F a b d) (c:Fz.le F e):DocAt e a b d:=by
 obtain ⟨j,f,i,g,n,k,m,l,h1,o,p,q,s⟩:=h;exact ⟨j,f,i,g,n,k,m,l,h1,o,p.mono c,q.mono c,s⟩
structure DcSmall (d:Dc):Prop where
 l:d.lines.length ≤ 1000
 c:d.cells.length ≤ 1000
 b:d.bits.length ≤ 70000
theorem zn1 (F:Fz) (a b:SA) (d:Dc) (h:DocAt F a b d) (e:DcSmall d) :
  Fo Tryz.prog F 14 [.agg (docS a b d.w d.bits)] (fun o f=>(docOk d = false ∧ o = .ret (.tup [.va .nilsl,.va (.int .i64 60)])) ∨
   (docOk d = true ∧ ∃ b c,o = .ret (.tup [.va (.slice false 0 b 0 1 8 c),.va (.int .i64 0)]) ∧ f b = some (.arr 9 1 ((allB d).map encS) c))):=by
 obtain ⟨k,g,j,i,q,m,p,n,rfl,rfl,s,u,x⟩:=h;exact ya2 pfun F k g j i q m p n d s u e.l e.c e.b x
theorem zdv {d:Dc} (b:docOk d = true):∀ s ∈ allB d,s.length ≤ 900000000000:=by
 intro s f;obtain ⟨k,c,rfl⟩:=ji.1 f;have e:k < 8:=qcw.1 c;have a:1 ≤ (k:Int) + 1 ∧ (k:Int) + 1 ≤ 8:=by omega
 show (propB ((k:Int) + 1) d).length ≤ _;rw [zho a];have:=zxl (p:=(k:Int) + 1) (zy4 a (zg1 a b));omega
theorem zn0 {F:Fz} {b c:Nat} {d:Dc} (h:F b = some (.arr 9 1 ((allB d).map encS) c)):Sl F 9 1 encS (.slice false 0 b 0 1 8 c) (allB d):=by
 have:=Sl.new (enc:=encS) (cap:=c) h;rw [zda] at this;exact this
theorem zp4 {b:List Kp} (a:short b) (p:Int):(zbv b p).length < 1000000:=by
 unfold zbv;split
 ·decide
 ·split
  ·exact zh6 a _
  ·exact zh6 a _
theorem zew {a:List Kp} (b:short a):short (zbi a):=by
 intro x c;obtain ⟨k,_,rfl⟩:=ji.1 c;exact zp4 b _
def makeC (m:Mig) (d e:Dc):Crt:=⟨root8 (allB d),root8 (allB e),1,zbi m.keep⟩
def zdx (m:Mig) (d e:Dc):Bool:=migOk m && (docOk d && (docOk e && zb1 (makeC m d e) (allB d) (allB e)))
theorem zor (F:Fz) (hM:MLF F) (T:RNDF F) (sk L O M A:SA) (m:Mig) (d e:Dc) (Z:KpsAt F sk m.keep) (hs:short m.keep) (hl:m.keep.length < 1000000) (i:DocAt F L O d) (a:DocAt F M A e) (V:DcSmall d) (W:DcSmall e) :
  Fo Tryz.prog F 21 [.agg (migS m sk),.agg (docS L O d.w d.bits),.agg (docS M A e.w e.bits)] (fun o F'=>
   (zdx m d e = false ∧ o = .ret (.tup [.agg [.str [],.str [],.int .i64 0,.nilsl],.va (.int .i64 100)])) ∨
   (zdx m d e = true ∧ ∃ sc,o = .ret (.tup [.agg (crtS (makeC m d e) sc),.va (.int .i64 0)]) ∧ ClsAt F' sc (zbi m.keep))):=by
 have p:=zyd F sk m Z hs hl;have n:=fun F1 (g:Fz.le F F1)=>zn1 F1 L O d (i.mono g) V
 have f:=fun F1 (g:Fz.le F F1)=>zn1 F1 M A e (a.mono g) W
 obtain ⟨id,src,s,l,E⟩:=m;obtain ⟨kn,kb,ke,kc,kL,kr,rfl,k1,k2,k3,k4⟩:=Z;obtain ⟨ag,aa,ae,ac,ao,ai,am,ak,rfl,rfl,-,-,-⟩:=i;obtain ⟨ah,ab,af,ad,ap,aj,an,al,rfl,rfl,-,-,-⟩:=a;refine fo_of hΘ Tryz.func21 rfl (by decide) _ _ rfl rfl rfl ?_;refine useFo p rfl (zaa _) rfl ?_;rintro _ F1 g (⟨q,rfl⟩ | ⟨q,b,c,rfl,U⟩)
 ·refine useFo (n F1 g) rfl (zaa _) rfl ?_;rintro _ x j (⟨i,rfl⟩ | ⟨i,A,c2,rfl,S⟩)
  ·refine useFo (f x (Fz.t g j)) rfl (zaa _) rfl ?_;rintro _ h k (⟨a,rfl⟩ | ⟨a,Q,R,rfl,B⟩)
   ·conv=>whnf
    repeat
     first
      |refine gaf (by decide) ?_
       conv=>whnf
      |refine gae (by decide) ?_
       conv=>whnf
      |refine brd (by decide) ?_
       conv=>whnf
      |refine bre (by decide) ?_
       conv=>whnf
    exact endFo (.ret (.tup [.agg [.str [],.str [],.int .i64 0,.nilsl],.va (.int .i64 100)])) h rfl (Fz.t g (Fz.t j k)) (Fz.r h) (.inl ⟨by simp only [zdx,q,i,a,jj,yf],rfl⟩) (zah _) rfl
   ·conv=>whnf
    repeat
     first
      |refine gaf (by decide) ?_
       conv=>whnf
      |refine gae (by decide) ?_
       conv=>whnf
      |refine brd (by decide) ?_
       conv=>whnf
      |refine bre (by decide) ?_
       conv=>whnf
    exact endFo (.ret (.tup [.agg [.str [],.str [],.int .i64 0,.nilsl],.va (.int .i64 100)])) h rfl (Fz.t g (Fz.t j k)) (Fz.r h) (.inl ⟨by simp only [zdx,q,i,a,jj,yf],rfl⟩) (zah _) rfl
  ·refine useFo (f x (Fz.t g j)) rfl (zaa _) rfl ?_;rintro _ h k (⟨a,rfl⟩ | ⟨a,Q,R,rfl,B⟩)
   ·conv=>whnf
    repeat
     first
      |refine gaf (by decide) ?_
       conv=>whnf
      |refine gae (by decide) ?_
       conv=>whnf
      |refine brd (by decide) ?_
       conv=>whnf
      |refine bre (by decide) ?_
       conv=>whnf
    exact endFo (.ret (.tup [.agg [.str [],.str [],.int .i64 0,.nilsl],.va (.int .i64 100)])) h rfl (Fz.t g (Fz.t j k)) (Fz.r h) (.inl ⟨by simp only [zdx,q,i,a,jj,yf],rfl⟩) (zah _) rfl
   ·conv=>whnf
    repeat
     first
      |refine gaf (by decide) ?_
       conv=>whnf
      |refine gae (by decide) ?_
       conv=>whnf
      |refine brd (by decide) ?_
       conv=>whnf
      |refine bre (by decide) ?_
       conv=>whnf
    exact endFo (.ret (.tup [.agg [.str [],.str [],.int .i64 0,.nilsl],.va (.int .i64 100)])) h rfl (Fz.t g (Fz.t j k)) (Fz.r h) (.inl ⟨by simp only [zdx,q,i,a,jj],rfl⟩) (zah _) rfl
 ·refine useFo (n F1 g) rfl (zaa _) rfl ?_;rintro _ x j (⟨i,rfl⟩ | ⟨i,A,c2,rfl,S⟩)
  ·refine useFo (f x (Fz.t g j)) rfl (zaa _) rfl ?_;rintro _ h k (⟨a,rfl⟩ | ⟨a,Q,R,rfl,B⟩)
   ·conv=>whnf
    repeat
     first
      |refine gaf (by decide) ?_
       conv=>whnf
      |refine gae (by decide) ?_
       conv=>whnf
      |refine brd (by decide) ?_
       conv=>whnf
      |refine bre (by decide) ?_
       conv=>whnf
    exact endFo (.ret (.tup [.agg [.str [],.str [],.int .i64 0,.nilsl],.va (.int .i64 100)])) h rfl (Fz.t g (Fz.t j k)) (Fz.r h) (.inl ⟨by simp only [zdx,q,i,a,jj,yf],rfl⟩) (zah _) rfl
   ·conv=>whnf
    repeat
     first
      |refine gaf (by decide) ?_
       conv=>whnf
      |refine gae (by decide) ?_
       conv=>whnf
      |refine brd (by decide) ?_
       conv=>whnf
      |refine bre (by decide) ?_
       conv=>whnf
    exact endFo (.ret (.tup [.agg [.str [],.str [],.int .i64 0,.nilsl],.va (.int .i64 100)])) h rfl (Fz.t g (Fz.t j k)) (Fz.r h) (.inl ⟨by simp only [zdx,q,i,a,jj,yf],rfl⟩) (zah _) rfl
  ·refine useFo (f x (Fz.t g j)) rfl (zaa _) rfl ?_;rintro _ h k (⟨a,rfl⟩ | ⟨a,Q,R,rfl,B⟩)
   ·conv=>whnf
    repeat
     first
      |refine gaf (by decide) ?_
       conv=>whnf
      |refine gae (by decide) ?_
       conv=>whnf
      |refine brd (by decide) ?_
       conv=>whnf
      |refine bre (by decide) ?_
       conv=>whnf
    exact endFo (.ret (.tup [.agg [.str [],.str [],.int .i64 0,.nilsl],.va (.int .i64 100)])) h rfl (Fz.t g (Fz.t j k)) (Fz.r h) (.inl ⟨by simp only [zdx,q,i,a,jj,yf],rfl⟩) (zah _) rfl
   ·conv=>whnf
    repeat
     first
      |refine gaf (by decide) ?_
       conv=>whnf
      |refine gae (by decide) ?_
       conv=>whnf
      |refine brd (by decide) ?_
       conv=>whnf
      |refine bre (by decide) ?_
       conv=>whnf
    refine useFo (zkf h (T.mono (Fz.t g (Fz.t j k))) _ (allB d) (zn0 (k _ _ S)) (zda d) (zdv i)) rfl (zaa _) rfl ?_;rintro _ F4 G rfl;have m4:=Fz.t g (Fz.t j (Fz.t k G));refine useFo (zkf F4 (T.mono m4) _ (allB e) (zn0 (G _ _ B)) (zda e) (zdv a)) rfl (zaa _) rfl ?_;rintro _ F5 I rfl;have K:=Fz.t m4 I;have Y:=KpsAt.up U (Fz.t j (Fz.t k (Fz.t G I)));have u:=zn8 F5 (hM.mono K) (T.mono K) _ _ _ (makeC ⟨id,src,s,l,E⟩ d e) (allB d) (allB e) Y (zew hs) (by show (zbi E).length < _; rw [zdp]; decide) (zn0 (I _ _ (G _ _ (k _ _ S)))) (zn0 (I _ _ (G _ _ B))) (zdv i) (zdv a)
    have X:zb1 (makeC ⟨id,src,s,l,E⟩ d e) (allB d) (allB e) = true ∨ zb1 (makeC ⟨id,src,s,l,E⟩ d e) (allB d) (allB e) = false:=by
     cases zb1 (makeC ⟨id,src,s,l,E⟩ d e) (allB d) (allB e)
     ·exact .inr rfl
     ·exact .inl rfl
    refine Or.elim X (fun D=>?_) (fun D=>?_)
    ·rw [D] at u;refine useFo u rfl (zaa _) rfl ?_;rintro _ y J rfl;refine brd (by decide) ?_;exact endFo (.ret (.tup [.agg [.str (root8 (allB d)),.str (root8 (allB e)),.int .i64 1,.slice false 0 b 0 2 8 c],.va (.int .i64 0)])) y rfl (Fz.t K J) (Fz.r y) (.inr ⟨by simp only [zdx,q,i,a,D,qaa],_,rfl,KpsAt.up Y J⟩) (zah _) rfl
    ·rw [D] at u;refine useFo u rfl (zaa _) rfl ?_;rintro _ y J rfl;refine bre (by decide) ?_;exact endFo (.ret (.tup [.agg [.str [],.str [],.int .i64 0,.nilsl],.va (.int .i64 100)])) y rfl (Fz.t K J) (Fz.r y) (.inl ⟨by simp only [zdx,q,i,a,D,qaa],rfl⟩) (zah _) rfl
end Go.Proofs.YtfnkamphhpldcaaGreatDoor
namespace Sx
open Go Go.RowKit
section
variable {P:Program} {Θ:Tys} {C:Ctx} {ρ:Rho} {st:St} {a:Act} {w:World} {Q:SE → St → Prop}
theorem z6v {x y:Code} (h:WP P x st fun e b=>(match e with
  |.normal=>WP P y b Q
  |.ret=>Q .ret b
  |.exit id=>Q (.exit id) b
  |.panic v=>Q (.panic v) b)):WP P (.seq x y) st Q:=by
 unfold WP at h ⊢;intro C ρ a w D;refine wp_seq (wp_mono (h C ρ a w D) ?_);rintro e g j ⟨i,b,f,d,rfl,c⟩;cases i with
 |normal=>exact d C f g j c
 |ret=>exact ⟨.ret,b,f,d,rfl,c⟩
 |exit id=>exact ⟨.exit id,b,f,d,rfl,c⟩
 |panic v=>exact ⟨.panic v,b,f,d,rfl,c⟩
theorem zxp (hΘ:Θ.Ok P) {id:Nat} {i j:Oper} {x:Operand} {ts:Array TypeId} (E:i.guard = none) (m:j.op = .defer ⟨.value x,#[],ts⟩) (G:j.guard = none) (l:j.dst = none)
  (h1:sop P Θ st.t i.op st.h st.nx (fun v h nx=>setd i.dst v { st with h:=h,nx:=nx } fun g=>∃ f caps,ev g.t x = .va (.fn (.func f) caps) ∧ Q .normal { g with d:=(.clo f,caps.map SA.ptr) :: g.d }) (fun v h nx=>Q (.panic v) { st with h:=h,nx:=nx })) :
  WP P (.region id #[i,j] false) st Q:=by
 unfold WP;intro C ρ a w D;refine wp_region_list ?_;have J:Region.wanted i (yielded #[i,j] a.tmps) = true:=by simp [Region.wanted,E]
 show wpList P #[i,j] (Up C Q) [i,j] a w;unfold wpList;rw [if_pos J];left;refine zi4 (zi0 hΘ h1 D) ?_ ?_
 ·rintro S R ⟨v,sv,V,O,k,rfl,X,Z,W,o,_,_⟩;obtain ⟨g,⟨f,caps,B,I⟩,c⟩:=zjr X o Z W;have K:Region.wanted j (yielded #[i,j] (a.put i.dst v).tmps) = true:=by simp [Region.wanted,G]
  unfold wpList;rw [if_pos K];left;have L:=za7 c x;rw [B] at L;have M:(a.put i.dst v).eval x = .func (.func f) #[] (caps.map fun p=>Value.pointer (some (p.addr k))).toArray:=L.1
  have n:(execOp (a.put i.dst v).eval j).run P R = .ok (.defer (defOf k (.clo f,caps.map SA.ptr))) R:=by
   obtain ⟨T,op,type,pos,q,guard⟩:=j;simp only at m; subst m;have U:(caps.map SA.ptr).map (SA.den k) = caps.map fun p=>Value.pointer (some (p.addr k)):=by rw [q9]; rfl
   simp [execOp,resolve,M,Deferred.ofValue,defOf,defV,U]
  simp only [Oper.wp,n,Oper.upon];refine ⟨.normal,_,k,I,rfl,?_⟩;rw [l]
  have A:∀ y ∈ (Dk.clo f,caps.map SA.ptr) :: g.d,∀ b ∈ y.2,b.below g.nx:=by
   intro y hy;rcases qg.1 hy with rfl | hy
   ·intro b s;obtain ⟨p,Y,rfl⟩:=ji.1 s;exact L.2 p Y
   ·exact c.dw y hy
  have u:defOf k (Dk.clo f,caps.map SA.ptr) :: (a.put i.dst v).defers = ((Dk.clo f,caps.map SA.ptr) :: g.d).map (defOf k):=by rw [c.df]; rfl
  exact { sat:=c.sat,nt:=c.nt,tm:=c.tm,tw:=c.tw,n0:=c.n0,df:=u,dw:=A }
 ·rintro e S R ⟨v,V,O,k,rfl,I,o⟩;exact ⟨.panic v,_,k,I,rfl,o⟩
def endQK (P:Program) (Θ:Tys) (b:List ResultVar) (K:Out → Hp → Nat → Prop):SE → St → Prop:=fun e st=>
 match e with
 |.normal=>(match st.d with
  |(.clo f,asl) :: r=>r = [] ∧ DefWP P f asl st.h st.nx none fun h nx=>sres Θ { st with h:=h,nx:=nx } b fun v=>K (.ret v) h nx
  |_=>False)
 |.ret=>(match st.d with
  |(.clo f,asl) :: r=>r = [] ∧ DefWP P f asl st.h st.nx none fun h nx=>sres Θ { st with h:=h,nx:=nx } b fun v=>K (.ret v) h nx
  |_=>False)
 |.panic _=>False
 |.exit _=>False
theorem zne (hΘ:Θ.Ok P) {fn:Func} {st:St} {A:List ResultVar} (s:fn.results.toList = A) {K:Out → Hp → Nat → Prop} {R:Ending → World → Prop} (m:Option Value) {f:FuncId} {b:List SA} {r:List (Dk × List SA)}
  (S:st.d = (.clo f,b) :: r) (U:r = []) (D:Den C ρ st a w)
  (y:DefWP P f b st.h st.nx m fun h nx=>sres Θ { st with h:=h,nx:=nx } A fun v=>K (.ret v) h nx)
  (M:∀ v sv q c p o,K (.ret sv) q c → sv.rel p v → sv.below c → Sat C p q c o → (∀ i,i < st.nx → p i = ρ i) → st.nx ≤ c → R (.returned v) o) :
  Leaves P fn a.tmps R a.defers (zq4 m) w:=by
 have k:=D.df;have l:=D.dw;subst U;rw [S] at k l;rw [k];unfold DefWP at y;obtain ⟨g,O⟩:=y C ρ w D.sat (l (.clo f,b) (by simp));unfold Enters at g;refine ⟨by cases m<;>simp [zq4],.func f,(b.map (SA.den ρ)).toArray,f,(b.map (SA.den ρ)).toArray,rfl,?_,?_⟩
 ·have G:(#[]:Array Value) ++ (b.map (SA.den ρ)).toArray = (b.map (SA.den ρ)).toArray:=by simp
  simp only [defOf,defV,invoke,G,g]
 ·refine O.mono ?_;rintro e u o ⟨v,q,c,p,rfl,V,T,x,j,n⟩;have E:=D.heap x j n;obtain ⟨B,sv,h1,I,J,L⟩:=zf9 (fn:=fn) hΘ E (by rw [s]; exact T);show Leaves P fn a.tmps R [] (settle u) o;rw [V];exact ⟨B,h1,M B sv q c p o L I J x j n⟩
theorem z2r (hΘ:Θ.Ok P) {f:FuncId} {fn:Func} {c:Code} {args:List SV} {h:Hp} {nx:Nat} {K:Out → Hp → Nat → Prop} (W:P.funcs[f]? = some fn) (V:fn.body = some c) (hn:(fn.name == "runtime.NumGoroutine") = false)
  (nt:Nat) (Z:List ResultVar) (ac:fn.ntmps = nt) (B:fn.results.toList = Z) (hl:Nat.ble args.length nt = true)
  (Y:WP P c ⟨[ze4 0 args],h,nx,nx,nt,[]⟩ (endQK P Θ Z K)):zbf P f args h nx K:=by
 unfold zbf;intro C ρ w vs S j O;refine ⟨enters_of W V hn,?_⟩;unfold WP at Y
 let x:Ctx:={ C with ρ0:=ρ,n0:=nx }
 have S1:Sat x ρ h nx w:={ S with anch:=fun _ _ _=>rfl,n0:=qi _,n1:=S.pos }
 have X:=ziv j;have ab:=nb hl
 have D:Den x ρ ⟨[ze4 0 args],h,nx,nx,nt,[]⟩ { tmps:=vs.toArray ++ Array.replicate (fn.ntmps - vs.toArray.size) undef,defers:=[] } w:=by
  refine { sat:=S1,nt:=?_,tm:=?_,tw:=?_,n0:=rfl,df:=rfl,dw:=by simp }
  ·simp; omega
  ·intro n s l;simp only [lget] at l;split at l
   ·rename_i v T;cases l
    obtain ⟨u,_,g,h3,_⟩:=zdb (nx:=nx) args vs 0 n s j T;simp only [qaw] at g;refine ⟨u,?_,h3⟩;rw [qa3 (by simpa using (qf.1 g).1)];simpa using g
   ·simp at l
  ·intro n s l;simp only [lget] at l;split at l
   ·rename_i v T;cases l
    obtain ⟨u,_,_,_,h4⟩:=zdb (nx:=nx) args vs 0 n s j T;exact O s h4
   ·simp at l
 refine calls_of_wp_defers W V (wp_mono (Y x ρ _ w D) ?_);rintro e a' w' ⟨se,E,G,d,rfl,J⟩
 have y:∀ {o:Rho} {g:Hp} {b:Nat} {q:World},Sat x o g b q → Sat C o g b q:=fun p=>{ p with
  anch:=fun i I k=>by rw [p.anch i (y5 I S.n0) k]; exact S.anch i I k
  n0:=jk S.n0 p.n0
  n1:=S.n1 }
 have fin:∀ v sv g b o q,K (.ret sv) g b → sv.rel o v → sv.below b → Sat x o g b q → (∀ i,i < E.nx → o i = G i) → E.nx ≤ b →
   ∃ out U m G,K out U m ∧ out.rel G (Ending.returned v) ∧ Sat C G U m q ∧ (∀ i,i < nx → G i = ρ i) ∧ nx ≤ m ∧ (match out with | .ret s=>s.below m | .panic _=>True):=by
  intro v sv g b o q hk hr M p aa A;exact ⟨.ret sv,g,b,o,hk,⟨v,rfl,hr⟩,y p,fun i I=>funext fun k=>p.anch i I k,jk J.sat.n0 A,M⟩
 cases se with
 |normal=>
  simp only [endQK] at d;split at d
  ·rename_i f2 L r R;exact zne hΘ B none R d.1 J d.2 fin
  ·exact d.elim
 |ret=>
  simp only [endQK] at d;split at d
  ·rename_i f2 L r R;exact zne hΘ B none R d.1 J d.2 fin
  ·exact d.elim
 |panic v=>exact d.elim
 |exit id=>exact d.elim
end
end Sx
namespace Sx
open Go
variable {P:Program} {C:Ctx} {ρ:Rho} {h:Hp} {nx:Nat} {w:World}
theorem Sat.swap (s:Sat C ρ h nx w) {i:Nat} {b n:SB} (q:lget h i = some (.one b)) (B:∀ ρ o,b.ok ρ o → n.ok ρ o) (m:n.below nx):Sat C ρ (lput h i (.one n)) nx w:=by
 have A:=s.ne0 q rfl
 have g:∀ j k,St.owns (lput h i (.one n)) j k → St.owns h j k:=by
  rintro j k ⟨x,f,l⟩;by_cases e:j = i
  ·subst e; rw [zaf] at f; cases f; exact ⟨_,q,l⟩
  ·rw [zac _ _ _ _ e] at f; exact ⟨_,f,l⟩
 exact { s with
  lt:=fun j x f=>by
   by_cases e:j = i
   ·subst e; exact s.lt _ _ q
   ·rw [zac _ _ _ _ e] at f; exact s.lt _ _ f
  blk:=fun j x f k l=>by
   by_cases e:j = i
   ·subst e; rw [zaf] at f; cases f
    obtain ⟨o,h1,y⟩:=s.blk _ _ q k l;exact ⟨o,h1,B _ _ y⟩
   ·rw [zac _ _ _ _ e] at f; exact s.blk _ _ f k l
  wf:=fun j x f k l=>by
   by_cases e:j = i
   ·subst e; rw [zaf] at f; cases f
    exact m
   ·rw [zac _ _ _ _ e] at f; exact s.wf _ _ f k l
  inj:=fun a b c d h1 y=>s.inj a b c d (g _ _ h1) (g _ _ y)
  own:=fun a b h1=>s.own a b (g _ _ h1)
  fz:=by rw [zac _ _ _ _ (Ne.symm A)]; exact s.fz
  only:=fun j F p=>by
   by_cases e:j = i
   ·subst e; rw [zaf] at p; cases p
   ·rw [zac _ _ _ _ e] at p; exact s.only _ _ p
  lnk:=fun j b u=>by
   by_cases e:j = i
   ·subst e; rw [zaf] at u; cases u
   ·rw [zac _ _ _ _ e] at u; exact s.lnk _ _ u }
theorem swapC {f:FuncId} {args:List SV} {K:Out → Hp → Nat → Prop} (i:Nat) {b:SB} (c:SB) (g:lget h i = some (.one b)) (d:∀ ρ o,b.ok ρ o → c.ok ρ o) (a:c.below nx) (j:zbf P f args (lput h i (.one c)) nx K):zbf P f args h nx K:=by
 unfold zbf at *;intro C ρ w vs S k e;exact j C ρ w vs (S.swap g d a) k e
theorem zr6 {t sz a:Nat} {L b:List (List SA)} (c:b.length = L.length) (h1:∀ x ∈ b,x.length = sz) (g:∀ ρ,b.flatten.map (SA.den ρ) = L.flatten.map (SA.den ρ)) (ρ:Rho) (o:Obj) (h:(SB.arr t sz L a).ok ρ o):(SB.arr t sz b a).ok ρ o:=by
 obtain ⟨i,d,tail,e,f⟩:=h;exact ⟨h1,by rw [c]; exact d,tail,by rw [c]; exact e,by rw [g]; exact f⟩
theorem z7x {f:FuncId} {args args':List SV} {K:Out → Hp → Nat → Prop} (d:∀ ρ vs,relL ρ args vs → relL ρ args' vs) (b:∀ n,(∀ s ∈ args,s.below n) → ∀ s ∈ args',s.below n) (c:zbf P f args' h nx K):zbf P f args h nx K:=by
 unfold zbf at *;intro C ρ w vs S h1 a;exact c C ρ w vs S (d ρ vs h1) (b nx a)
theorem zo1 {n:Nat} {a:Out → Fz → List (Nat × Ent) → Nat → Prop} {out out':Out} (f:∀ ρ e,out.rel ρ e → out'.rel ρ e) (b:out'.below nx) (c:Cln n a out' h nx):Cln n a out h nx:=by
 unfold Cln at *;intro C ρ w e d S h1 g;exact c C ρ w e d S (f ρ e h1) b
end Sx
namespace Go.Proofs.YtfnkamphhpldcaaGreatDoor
open Go Sx
set_option maxRecDepth 100000
def exD (t:List UInt8) (m:Int):Dc:=⟨[(t,m)],[],0,[]⟩
theorem ze7 (t:List UInt8) (m:Int):DcSmall (exD t m):=⟨by show 1 ≤ 1000; decide,by show 0 ≤ 1000; decide,by show 0 ≤ 70000; decide⟩
theorem exAt {F:Fz} {b:Nat} {t:List UInt8} {m:Int} (h:F b = some (.arr 148 2 ([(t,m)].map encN) 1)):DocAt F (.slice false 0 b 0 2 1 1) (.slice true 0 0 0 6 0 0) (exD t m):=
 ⟨false,b,0,1,true,0,0,0,rfl,rfl,Sl.new (l:=[(t,m)]) h,Sl.nil,qi _⟩
theorem zbz (F:Fz) (t:List UInt8) (m:Int) :
  Fo Tryz.prog F 45 [.va (.str t),.va (.int .i64 m)] (fun o a=>∃ b,o = .ret (.agg (docS (.slice false 0 b 0 2 1 1) (.slice true 0 0 0 6 0 0) 0 [])) ∧ a b = some (.arr 148 2 ([(t,m)].map encN) 1)):=by
 refine fo_of hΘ Tryz.func45 rfl (by decide) _ _ rfl rfl rfl ?_;refine zbe 2 (fun _=>.arr 148 2 ([(t,m)].map encN) 1) rfl rfl rfl (fun _ _=>rfl) (fun _ _=>SB.bB_ok rfl) ?_;intro b a d c;refine zo1 (out':=.ret (.agg (docS (.slice false 2 0 0 2 1 1) (.slice true 0 0 0 6 0 0) 0 []))) (fun _ _ h=>h) (Out.bB_ok rfl) ?_;exact endFo (.ret (.agg (docS (.slice false 0 (b 0) 0 2 1 1) (.slice true 0 0 0 6 0 0) 0 []))) a rfl d (Fz.r a) ⟨_,rfl,c 0 rfl⟩ (zah _) rfl
end Go.Proofs.YtfnkamphhpldcaaGreatDoor
