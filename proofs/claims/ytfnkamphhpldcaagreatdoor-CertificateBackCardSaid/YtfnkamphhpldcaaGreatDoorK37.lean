import Derived.Test.YtfnkamphhpldcaaGreatDoorK34
import Derived.Test.YtfnkamphhpldcaaGreatDoorK15
import Derived.Test.YtfnkamphhpldcaaGreatDoorK24
set_option maxHeartbeats 64000000
namespace Go.Proofs.YtfnkamphhpldcaaGreatDoor
open Go Sx
set_option maxRecDepth 100000
def zcw (a b:Crt):Bool:=decide (a.dst = b.src) && (crtOk b && decide (a.len + b.len ≤ 64))
def zfu (x y:Kp):Kp:=(x.1,(compR x.1 x.2 y.2).1)
def joinC (a b:Crt):Crt:=⟨a.src,b.dst,a.len + b.len,List.zipWith zfu a.cl b.cl⟩
def badE:SA:=.ifc 213 (.int .i64 100)
theorem jO1 {a b:Crt} (h:(!(a.dst == b.src)) = true):zcw a b = false:=by
 have h1:(a.dst == b.src) = false:=by simpa using h
 simp only [zcw,beqD h1,qt]
theorem jO2 {a b:Crt} (h:(!crtOk b) = true):zcw a b = false:=by
 have h1:crtOk b = false:=by simpa using h
 simp only [zcw,h1,qt,jp]
theorem zkm {b:Crt} (h:crtOk b = true):1 ≤ b.len ∧ b.len ≤ 64:=by
 simp only [crtOk,qd,decide_eq_true_eq] at h
 exact ⟨h.2.2.1,h.2.2.2.1⟩
theorem zr1 {α:Type} {μ:Mu} {i j c n t:Nat} {L:List α} {x:α} {a b:List UInt8} {w:Int} (hm:μ i 0 = (j,0)) (hn:n = L.length + 1):SB.cells t [.str a,.str b,.int .i64 w,.slice false j 0 0 2 n c] = SB.ren μ (.cells t [.str a,.str b,.int .i64 w,gA 2 i c (L ++ [x])]):=by
 subst hn
 cases L with
 |nil=>simp only [gA,qu,SB.ren,qx,ym,SA.ren,hm,qp]
 |cons y r=>simp only [gA,jt,SB.ren,qx,ym,SA.ren,hm,qa,qe,qp]
theorem z0k (F:Fz) (sa sb:SA) (a b:Crt) (ha:ClsAt F sa a.cl) (hb:ClsAt F sb b.cl) (ha8:a.cl.length = 8) (hal:0 ≤ a.len ∧ a.len ≤ 1000000) (hsa:short a.cl) (hsb:short b.cl) (hlb:b.cl.length < 1000000) :
  Fo Tryz.prog F 70 [.agg (crtS a sa),.agg (crtS b sb)] (fun o F'=>
   (zcw a b = false ∧ o = .ret (.tup [.agg [.str a.src,.str b.dst,.int .i64 (IntKind.i64.wrap (a.len + b.len)),.nilsl],.va badE])) ∨
   (zcw a b = true ∧ ∃ sc,o = .ret (.tup [.agg (crtS (joinC a b) sc),.va .nilif]) ∧ ClsAt F' sc (joinC a b).cl)):=by
 have hvalid:=zei F sb b hb hsb hlb
 have e1:=jO1 (a:=a) (b:=b)
 have e2:=jO2 (a:=a) (b:=b)
 have hb8:crtOk b = true → b.cl.length = 8:=fun h=>(zef h).1
 have hbl:crtOk b = true → 1 ≤ b.len ∧ b.len ≤ 64:=zkm
 have hok:zcw a b = (decide (a.dst = b.src) && (crtOk b && decide (a.len + b.len ≤ 64))):=rfl
 obtain ⟨v,hv⟩:∃ v,crtOk b = v:=⟨_,rfl⟩
 rw [hv] at hvalid e2 hb8 hbl hok
 clear hv
 obtain ⟨sA,dA,nA,kA⟩:=a
 obtain ⟨sB,dB,nB,kB⟩:=b
 have fin:∀ (F1:Fz) (h:Hp) (nx:Nat),zcw ⟨sA,dA,nA,kA⟩ ⟨sB,dB,nB,kB⟩ = false → lget h 0 = some (.frz F1) → Fz.le F F1 → Cln 1 (FoK F (fun o F'=>
   (zcw ⟨sA,dA,nA,kA⟩ ⟨sB,dB,nB,kB⟩ = false ∧ o = .ret (.tup [.agg [.str sA,.str dB,.int .i64 (IntKind.i64.wrap (nA + nB)),.nilsl],.va badE])) ∨
   (zcw ⟨sA,dA,nA,kA⟩ ⟨sB,dB,nB,kB⟩ = true ∧ ∃ sc,o = .ret (.tup [.agg (crtS (joinC ⟨sA,dA,nA,kA⟩ ⟨sB,dB,nB,kB⟩) sc),.va .nilif]) ∧ ClsAt F' sc (joinC ⟨sA,dA,nA,kA⟩ ⟨sB,dB,nB,kB⟩).cl))) (.ret (.tup [.agg [.str sA,.str dB,.int .i64 (IntKind.i64.wrap (nA + nB)),.nilsl],.va badE])) h nx:=by
  intro F1 h nx hj h0 hle
  exact endFo (.ret (.tup [.agg [.str sA,.str dB,.int .i64 (IntKind.i64.wrap (nA + nB)),.nilsl],.va badE])) F1 h0 hle (Fz.r F1) (.inl ⟨hj,rfl⟩) (zaj _) rfl
 obtain ⟨an,ab,ae,ac,aL,ar,rfl,a1,a2,a3,a4⟩:=ha
 obtain ⟨bn,bb,be,bc,bL,br_,rfl,b1,b2,b3,b4⟩:=hb
 have hf:∀ k (h:k < kA.length) (h':k < kB.length),(fun k=>zfu (kA[k]?.getD (0,[])) (kB[k]?.getD (0,[]))) k = ((kA[k]'h).1,(compR (kA[k]'h).1 (kA[k]'h).2 (kB[k]'h').2).1):=fun k h h'=>by
  simp only [qc h,qc h',ju,zfu]
 obtain ⟨f,hfd⟩:∃ f:Nat → Kp,f = fun k=>zfu (kA[k]?.getD (0,[])) (kB[k]?.getD (0,[])):=⟨_,rfl⟩
 rw [← hfd] at hf
 let outE4 (c:Nat) (l:List ZC):Ent:=.one (.cells 48 [.str sA,.str dB,.int .i64 (IntKind.i64.wrap (nA + nB)),gA 2 5 c l])
 have hob:∀ (n c:Nat) (l:List ZC),5 < n → (outE4 c l).below n:=fun n c l hn=>by
  intro a ha
  simp only [qj,qq,or_false] at ha
  rcases ha with rfl | rfl | rfl | rfl
  ·trivial
  ·trivial
  ·trivial
  ·exact zeg (by omega) _ _ _
 refine fo_of hΘ Tryz.func70 rfl (by decide) _ _ rfl rfl rfl ?_;conv=>whnf
 refine ⟨fun g1=>?_,fun g1=>?_⟩
 rotate_left
 ·conv=>whnf
  exact fin F _ _ (e1 g1) rfl (Fz.r F)
 conv=>whnf
 refine useFo hvalid rfl (zaa _) rfl ?_
 rintro _ F1 l1 rfl;conv=>whnf
 refine ⟨fun g2=>?_,fun g2=>?_⟩
 rotate_left
 ·conv=>whnf
  exact fin F1 _ _ (e2 g2) rfl l1
 replace g2:v = true:=by simpa using g2
 have hn:=hbl g2
 have h8:=hb8 g2
 replace hn:1 ≤ nB ∧ nB ≤ 64:=hn
 replace h8:kB.length = 8:=h8
 replace ha8:kA.length = 8:=ha8
 replace hal:0 ≤ nA ∧ nA ≤ 1000000:=hal
 have hw:IntKind.i64.wrap (nA + nB) = nA + nB:=zal (by omega) (by omega)
 have g1':decide (dA = sB) = true:=by
  have h:(dA == sB) = true:=by simpa using g1
  exact beqD h
 by_cases g3:nA + nB ≤ 64
 ·have hj:zcw ⟨sA,dA,nA,kA⟩ ⟨sB,dB,nB,kB⟩ = true:=by rw [hok,g1',g2,decide_eq_true g3]; rfl
  conv=>whnf
  refine br (fun g=>absurd (od g) (by show ¬ (64:Int) < IntKind.i64.wrap (nA + nB); rw [hw]; omega)) (fun _=>?_);conv=>whnf
  refine zan hΘ (X:={ y:Nat × List ZC × Nat × Fz // Fz.le F y.2.2.2 ∧ y.1 ≤ 8 ∧ y.2.1.length = y.1 ∧ RowOf y.2.2.2 f y.2.1 }) (fun y=>[(39,.va (.int .i64 y.1.1))]) [7,8,40,41,42,43,44,45,46,47,48,49,50,51,52,53,54,55,56,57,58,59,60,61,62,63,64,65]
   (fun y=>[(0,.frz y.1.2.2.2),(1,.one (.cells 48 (crtS ⟨sA,dA,nA,kA⟩ (.slice an 0 ab ae 2 kA.length ac)))),(2,.one (.cells 48 (crtS ⟨sB,dB,nB,kB⟩ (.slice bn 0 bb be 2 kB.length bc)))),
    (3,.one (.cells 48 [.str [],.str [],.int .i64 0,.nilsl])),(4,outE4 y.1.2.2.1 y.1.2.1),(5,gE 52 2 encZ y.1.2.2.1 y.1.2.1)]) 6 (fun y=>8 - y.1.1) ⟨(0,[],0,F1),l1,by omega,rfl,RowOf.nil⟩
   (fun hH hT=>leI [(5,5)] hH hT rfl ⟨tv,zar _ (.inr (by omega)),zar _ (.inr (by omega)),zar ⟨[],[],0,[]⟩ (sk:=.nilsl) trivial,hob 6 0 [] (by omega),zgh zcl (by omega) _ _ _ _,tv⟩ ⟨rfl,tv⟩ ⟨Fz.r F1,rfl,rfl,rfl,rfl,rfl,tv⟩) ?_
  rintro ⟨⟨k,o,co,G⟩,hG,hk,ho,hrow⟩ hH hT
  replace hG:Fz.le F G:=hG
  replace hk:k ≤ 8:=hk
  replace ho:o.length = k:=ho
  replace hrow:RowOf G f o:=hrow
  by_cases g:k < 8
  ·have gA:k < kA.length:=by omega
   have gB:k < kB.length:=by omega
   have gi:(k:Int) < (kA.length:Int):=by omega
   have gi':(k:Int) < (kB.length:Int):=by omega
   have hk1:k + 1 ≤ 8:=g
   have hdec:8 - (k + 1) < 8 - k:=by omega
   have hk62:k < 4611686018427387904:=by omega
   have hObt:=SlR.at a4 gA
   obtain ⟨y,hy,sx,rfl,hsx⟩:=hObt
   have hObt:=SlR.at b4 gB
   obtain ⟨z,hz,sy,rfl,hsy⟩:=hObt
   have hcall:=zpx G sx sy (kA[k]'gA).2 (kB[k]'gB).2 (kA[k]'gA).1 (hsx.mono hG) (hsy.mono hG) (hsa _ (jj gA)) (hsb _ (jj gB))
   have hnA:=SlR.lt a1 gA
   have hnB:=SlR.lt b1 gB
   have hfk:=hf k gA gB
   have hsn:∀ (G2:Fz) (z:ZC),Fz.le G G2 → KpR G2 z.1 ((kA[k]'gA).1,(compR (kA[k]'gA).1 (kA[k]'gA).2 (kB[k]'gB).2).1) → RowOf G2 f (o ++ [z]):=fun G2 z hle hz=>(hrow.mono hle).snoc (by rw [ho,hfk]; exact hz)
   have hlen:∀ z:ZC,(o ++ [z]).length = k + 1:=fun z=>by rw [qa,ho]; rfl
   obtain ⟨hsxn,hsxb,hsxe,hsxc,hsxL,hsxr,rfl,hsx1,hsx2,hsx3,hsx4⟩:=hsx
   obtain ⟨hsyn,hsyb,hsye,hsyc,hsyL,hsyr,rfl,hsy1,hsy2,hsy3,hsy4⟩:=hsy
   rcases o with _ | ⟨o0,or'⟩
   ·conv=>whnf
    refine bri gi ?_;conv=>whnf
    refine ⟨hnA,⟨by simp,gi⟩,?_⟩;conv=>whnf
    refine ⟨_,hG _ _ (a2 hnA),?_⟩;conv=>whnf
    refine ⟨_,hy,?_⟩;conv=>whnf
    refine drawP hΘ mixed (lk [0,2,4,5,6,7,8,9] (.alt 1 (.alt 3 (.alt 10 (lk [11,12,13,14] (.alt 15 .done .nil)) .nil) .nil) (.alt 3 (.alt 1 (.alt 10 (lk [11,12,13,14] (.alt 15 .done .nil)) .nil) .nil) .nil))) [2] (by kernel_rfl) ?_;conv=>whnf
    refine ⟨rfl,?_⟩;conv=>whnf
    refine ⟨hnB,⟨by simp,gi'⟩,?_⟩;conv=>whnf
    refine ⟨rfl,?_⟩;conv=>whnf
    refine ⟨_,hG _ _ (b2 hnB),?_⟩;conv=>whnf
    refine ⟨_,hz,?_⟩;conv=>whnf
    refine ⟨?_,?_⟩
    all_goals
     conv=>whnf
     refine ⟨Fz.r G,rfl,?_⟩;conv=>whnf
     refine ⟨Fz.r G,rfl,?_⟩;conv=>whnf
     refine useFo hcall rfl (zaa _) rfl ?_
     rintro _ G2 l2 ⟨sc,rfl,hsc⟩
     have hsc':=hsc
     obtain ⟨hscn,hscb,hsce,hscc,hscL,hscr,rfl,hsc1,hsc2,hsc3,hsc4⟩:=hsc
     conv=>whnf
     refine ⟨l2,rfl,?_⟩;conv=>whnf
     refine ⟨Fz.r G2,rfl,?_⟩;conv=>whnf
     refine ⟨nb rfl,[[.int .i64 (kA[k]'gA).1,.slice hscn 0 hscb hsce 2 (compR (kA[k]'gA).1 (kA[k]'gA).2 (kB[k]'gB).2).1.length hscc]],rfl,?_⟩;conv=>whnf
     refine ⟨rfl,rfl,?_⟩;conv=>whnf
     refine ⟨by show 1 * 32 ≤ 140737488355328; omega,fun c' hc'=>?_⟩;conv=>whnf
     exact ⟨⟨(k + 1,[] ++ [mkZ (kA[k]'gA).1 (.slice hscn 0 hscb hsce 2 (compR (kA[k]'gA).1 (kA[k]'gA).2 (kB[k]'gB).2).1.length hscc) rfl],c',G2),Fz.t hG l2,hk1,hlen _,hsn G2 _ l2 ⟨_,rfl,hsc'⟩⟩,hdec,leR [(5,8)] hH hT rfl ⟨tv,zar _ (.inr (by omega)),zar _ (.inr (by omega)),zar ⟨[],[],0,[]⟩ (sk:=.nilsl) trivial,hob 6 c' _ (by omega),zgh zcl (by omega) _ _ _ _,tv⟩ ⟨cnt hk62,tv⟩ ⟨Fz.r G2,rfl,rfl,rfl,zr1 (μ:=sig [(5,8)]) rfl rfl,zq2 (μ:=sig [(5,8)]) zcl (fun k=>rfl) (zcg _ (by rw [q5]; rfl)),tv⟩⟩
   ·have hsz:(or'.length + 1 + 1) * 32 ≤ 140737488355328:=by
     have h9:or'.length + 1 = k:=ho
     omega
    conv=>whnf
    refine bri gi ?_;conv=>whnf
    refine ⟨hnA,⟨by simp,gi⟩,?_⟩;conv=>whnf
    refine ⟨_,hG _ _ (a2 hnA),?_⟩;conv=>whnf
    refine ⟨_,hy,?_⟩;conv=>whnf
    refine drawP hΘ mixed (lk [0,2,4,5,6,7,8,9] (.alt 1 (.alt 3 (.alt 10 (lk [11,12,13,14] (.alt 15 .done .nil)) .nil) .nil) (.alt 3 (.alt 1 (.alt 10 (lk [11,12,13,14] (.alt 15 .done .nil)) .nil) .nil) .nil))) [2] (by kernel_rfl) ?_;conv=>whnf
    refine ⟨rfl,?_⟩;conv=>whnf
    refine ⟨hnB,⟨by simp,gi'⟩,?_⟩;conv=>whnf
    refine ⟨rfl,?_⟩;conv=>whnf
    refine ⟨_,hG _ _ (b2 hnB),?_⟩;conv=>whnf
    refine ⟨_,hz,?_⟩;conv=>whnf
    refine ⟨?_,?_⟩
    all_goals
     conv=>whnf
     refine ⟨Fz.r G,rfl,?_⟩;conv=>whnf
     refine ⟨Fz.r G,rfl,?_⟩;conv=>whnf
     refine useFo hcall rfl (zaa _) rfl ?_
     rintro _ G2 l2 ⟨sc,rfl,hsc⟩
     have hsc':=hsc
     obtain ⟨hscn,hscb,hsce,hscc,hscL,hscr,rfl,hsc1,hsc2,hsc3,hsc4⟩:=hsc
     conv=>whnf
     refine ⟨l2,rfl,?_⟩;conv=>whnf
     refine ⟨Fz.r G2,rfl,?_⟩;conv=>whnf
     refine ⟨nb rfl,[[.int .i64 (kA[k]'gA).1,.slice hscn 0 hscb hsce 2 (compR (kA[k]'gA).1 (kA[k]'gA).2 (kB[k]'gB).2).1.length hscc]],rfl,?_⟩;conv=>whnf
     refine ⟨rfl,rfl,by simp,rfl,hsz,fun c' hc'=>?_⟩;conv=>whnf
     exact ⟨⟨(k + 1,(o0 :: or') ++ [mkZ (kA[k]'gA).1 (.slice hscn 0 hscb hsce 2 (compR (kA[k]'gA).1 (kA[k]'gA).2 (kB[k]'gB).2).1.length hscc) rfl],c',G2),Fz.t hG l2,hk1,hlen _,hsn G2 _ l2 ⟨_,rfl,hsc'⟩⟩,hdec,leR [(5,8)] hH hT rfl ⟨tv,zar _ (.inr (by omega)),zar _ (.inr (by omega)),zar ⟨[],[],0,[]⟩ (sk:=.nilsl) trivial,hob 6 c' _ (by omega),zgh zcl (by omega) _ _ _ _,tv⟩ ⟨cnt hk62,tv⟩ ⟨Fz.r G2,rfl,rfl,rfl,zr1 (μ:=sig [(5,8)]) rfl rfl,zq2 (μ:=sig [(5,8)]) zcl (fun k=>rfl) (zcg _ (by rw [q5]; rfl)),tv⟩⟩
  ·have hk8:k = 8:=by omega
   have ho8:o.length = 8:=ho.trans hk8
   have gi:¬ (k:Int) < (kA.length:Int):=by omega
   have hjl:(joinC ⟨sA,dA,nA,kA⟩ ⟨sB,dB,nB,kB⟩).cl.length = 8:=by
    show (List.zipWith zfu kA kB).length = 8
    rw [qbe,ha8,h8]; rfl
   have hend:∀ (F':Fz) (b c n:Nat),Fz.le G F' → F' b = some (.arr 52 2 (o.map encZ) c) → n = 8 → ClsAt F' (.slice false 0 b 0 2 n c) (joinC ⟨sA,dA,nA,kA⟩ ⟨sB,dB,nB,kB⟩).cl:=fun F' b c n hle hb hn=>by
    have h:=(hrow.mono hle).sl (cap:=c) (l:=(joinC ⟨sA,dA,nA,kA⟩ ⟨sB,dB,nB,kB⟩).cl) hb (by rw [ho8,hjl]) fun i x hx=>by
     have hi:i < 8:=by have:=(qh.1 hx).1; rw [hjl] at this; exact this
     rw [hf i (by omega) (by omega)]
     replace hx:(List.zipWith zfu kA kB)[i]? = some x:=hx
     rw [List.getElem?_zipWith,qc (show i < kA.length by omega),qc (show i < kB.length by omega)] at hx
     exact (Option.some.inj hx).symm
    rw [hjl] at h
    subst hn
    exact h
   rcases o with _ | ⟨o0,or'⟩
   ·cases ho8
   ·have hol:or'.length + 1 = 8:=ho8
    conv=>whnf
    refine brj gi ?_;conv=>whnf
    refine zbl 5 (fun _=>.arr 52 2 ((o0 :: or').map encZ) co) rfl rfl rfl (fun _ _=>by exact zim (μ:=resP _) zcl (fun k=>rfl) rfl _ _ _) (fun _ _=>zfq zcl (by omega) _ _ _ _) ?_
    intro b' F' hle hb'
    refine endFo (.ret (.tup [.agg [.str sA,.str dB,.int .i64 (nA + nB),.slice false 0 (b' 0) 0 2 (or'.length + 1) co],.va .nilif])) F' rfl (Fz.t hG hle) (Fz.r F') (.inr ⟨hj,_,rfl,hend F' _ _ _ hle (hb' 0 ⟨rfl,rfl⟩) hol⟩) ?_ rfl
    exact ⟨(by show SC.agg [.str sA,.str dB,.int .i64 (nA + nB),.slice false 0 (b' 0) 0 2 (or'.length + 1) co] = SC.agg [.str sA,.str dB,.int .i64 (IntKind.i64.wrap (nA + nB)),.slice false 0 (b' 0) 0 2 (or'.length + 1) co]; rw [hw]),rfl,tv⟩
 ·have hj:zcw ⟨sA,dA,nA,kA⟩ ⟨sB,dB,nB,kB⟩ = false:=by rw [hok,g1',g2,decide_eq_false g3]; rfl
  conv=>whnf
  refine br (fun _=>?_) (fun g=>absurd (show (64:Int) < IntKind.i64.wrap (nA + nB) by rw [hw]; omega) (oe g));conv=>whnf
  exact fin F1 _ _ hj rfl l1
def CrtR (F:Fz) (y:List SA) (c:Crt):Prop:=∃ sk,y = crtS c sk ∧ ClsAt F sk c.cl
theorem CrtR.mono {F F':Fz} {y:List SA} {x:Crt} (h:CrtR F y x) (hle:Fz.le F F'):CrtR F' y x:=by
 obtain ⟨sk,h1,h2⟩:=h; exact ⟨sk,h1,KpsAt.up h2 hle⟩
abbrev zn7 (F:Fz) (a:SA) (l:List Crt):Prop:=SlR F 48 4 (CrtR F) a l
theorem zn7.up {F F':Fz} {a:SA} {l:List Crt} (h:zn7 F a l) (hle:Fz.le F F'):zn7 F' a l:=SlR.mono h hle fun _ _ h=>h.mono hle
def foldS:Crt → List Crt → Option Crt
 |a,[]=>some a
 |a,b :: r=>if zcw a b = true then foldS (joinC a b) r else none
structure Acc (a:Crt):Prop where
 n:a.cl.length = 8
 l:0 ≤ a.len ∧ a.len ≤ 64
 s:short a.cl
theorem Acc.join {a b:Crt} (h:Acc a) (hj:zcw a b = true):Acc (joinC a b):=by
 simp only [zcw,qd,decide_eq_true_eq] at hj
 have h8:=(zef hj.2.1).1
 have hl:=zkm hj.2.1
 refine ⟨?_,?_,?_⟩
 ·show (List.zipWith zfu a.cl b.cl).length = 8
  rw [qbe,h.n,h8]; rfl
 ·have:=h.l
  show 0 ≤ a.len + b.len ∧ a.len + b.len ≤ 64
  omega
 ·intro x hx
  obtain ⟨i,hi,rfl⟩:=List.getElem_of_mem (show x ∈ List.zipWith zfu a.cl b.cl from hx)
  rw [List.getElem_zipWith]
  show (compR _ _ _).1.length < _
  unfold compR
  split
  ·show (normS _).length < _
   have:=zm9 ((a.cl[i]'(by rw [qbe] at hi; omega)).2 ++ (b.cl[i]'(by rw [qbe] at hi; omega)).2)
   omega
  ·simp
theorem Acc.ok {a:Crt} (h:crtOk a = true) (hs:short a.cl):Acc a:=⟨(zef h).1,by have:=zkm h; omega,hs⟩
theorem zxx (F:Fz) (sb se sc room:Nat) (L:List (List SA)) (c0:Crt) (r:List Crt) (hb:F sb = some (.arr 48 4 L room)) (hL:∀ (k:Nat) x,(c0 :: r)[k]? = some x → ∃ y,L[se + k]? = some y ∧ CrtR F y x) (hcap:r.length + 1 ≤ sc)
  (ha:Acc c0) (hs:∀ c ∈ r,short c.cl) (hl:∀ c ∈ r,c.cl.length < 1000000) (hr:r.length < 1000000) :
  Fo Tryz.prog F 69 [.va (.slice false 0 sb se 4 (r.length + 1) sc),.va (.fn (.func 70) [])] (fun o F'=>
   (foldS c0 r = none ∧ ∃ x y n,o = .ret (.tup [.agg [.str x,.str y,.int .i64 n,.nilsl],.va badE])) ∨
   (∃ c,foldS c0 r = some c ∧ ∃ sk,o = .ret (.tup [.agg (crtS c sk),.va .nilif]) ∧ ClsAt F' sk c.cl)):=by
 have h0:=hL 0 c0 rfl
 obtain ⟨y0,hy0,sk0,rfl,hk0⟩:=h0
 have hk0':=hk0
 obtain ⟨kn,kb,ke,kc,kL,kr,rfl,k1,k2,k3,k4⟩:=hk0
 refine fo_of hΘ Tryz.func69 rfl (by decide) _ _ rfl rfl rfl ?_;conv=>whnf
 refine ⟨rfl,⟨by simp,by simp⟩,?_⟩;conv=>whnf
 refine ⟨_,hb,?_⟩;conv=>whnf
 refine ⟨_,hy0,?_⟩;conv=>whnf
 refine ⟨⟨by decide,by omega⟩,?_⟩;conv=>whnf
 refine zan hΘ (X:={ x:Nat × Crt × (Bool × Nat × Nat × Nat) × Fz // Fz.le F x.2.2.2 ∧ x.1 ≤ r.length ∧ foldS c0 r = foldS x.2.1 (r.drop x.1) ∧ Acc x.2.1 ∧ ClsAt x.2.2.2 (.slice x.2.2.1.1 0 x.2.2.1.2.1 x.2.2.1.2.2.1 2 x.2.1.cl.length x.2.2.1.2.2.2) x.2.1.cl }) (fun x=>[(7,.va .nilif),(16,.va (.int .i64 x.1.1))]) [9,17,18,19,20,21,22,23,24,25,26,27,28,29]
  (fun x=>[(0,.frz x.1.2.2.2),(1,.one (.cells 48 [.str [],.str [],.int .i64 0,.nilsl])),(2,.one (.cells 48 (crtS x.1.2.1 (.slice x.1.2.2.1.1 0 x.1.2.2.1.2.1 x.1.2.2.1.2.2.1 2 x.1.2.1.cl.length x.1.2.2.1.2.2.2))))]) 3 (fun x=>r.length - x.1.1) ⟨(0,c0,(kn,kb,ke,kc),F),Fz.r F,by simp,rfl,ha,hk0'⟩
  (fun hH hT=>leI [] hH hT rfl ⟨tv,zar ⟨[],[],0,[]⟩ (sk:=.nilsl) trivial,zar _ (.inr (by omega)),tv⟩ ⟨rfl,rfl,tv⟩ ⟨Fz.r F,rfl,rfl,tv⟩) ?_
 rintro ⟨⟨k,a,⟨nl,b,e,c⟩,G⟩,hG,hkr,hp,hacc,hka⟩ hH hT
 replace hG:Fz.le F G:=hG
 replace hkr:k ≤ r.length:=hkr
 replace hp:foldS c0 r = foldS a (r.drop k):=hp
 replace hacc:Acc a:=hacc
 replace hka:ClsAt G (.slice nl 0 b e 2 a.cl.length c) a.cl:=hka
 by_cases g:k < r.length
 ·have gi:(k:Int) < ((r.length + 1 - 1:Nat):Int):=by omega
  have hkk:(c0 :: r)[k + 1]? = some (r[k]'g):=by rw [qbm,qc g]
  have hObt:=hL (k + 1) (r[k]'g) hkk
  obtain ⟨y,hy,sk,rfl,hsk⟩:=hObt
  have hmem:=jj g
  have hcall:=z0k G _ sk a (r[k]'g) hka (KpsAt.up hsk hG) hacc.n (by have:=hacc.l; omega) hacc.s (hs _ hmem) (hl _ hmem)
  have hdec:r.length - (k + 1) < r.length - k:=by omega
  have hk62:k < 4611686018427387904:=by omega
  have hpd:foldS c0 r = if zcw a (r[k]'g) = true then foldS (joinC a (r[k]'g)) (r.drop (k + 1)) else none:=by
   rw [hp,qv g]; rfl
  have hyk:L[(if sc = Int.toNat 1 then se else se + Int.toNat 1) + ((k:Nat):Int).toNat]? = some (crtS (r[k]'g) sk):=by
   rw [if_neg (by show ¬ sc = 1; omega),show se + Int.toNat 1 + ((k:Nat):Int).toNat = se + (k + 1) by show se + 1 + k = se + (k + 1); omega]
   exact hy
  obtain ⟨mn,mb,me,mc,mL,mr,rfl,m1,m2,m3,m4⟩:=hsk
  conv=>whnf
  refine bri gi ?_;conv=>whnf
  refine ⟨rfl,⟨by simp,gi⟩,?_⟩;conv=>whnf
  refine ⟨_,hG _ _ hb,?_⟩;conv=>whnf
  refine ⟨_,hyk,?_⟩;conv=>whnf
  refine useFo hcall rfl (zaa _) rfl ?_
  rintro _ G2 l2 (⟨hj,rfl⟩ | ⟨hj,sj,rfl,hcj⟩)
  ·have hn:foldS c0 r = none:=by rw [hpd,if_neg (by rw [hj]; simp)]
   conv=>whnf
   exact endFo (.ret (.tup [.agg [.str a.src,.str (r[k]'g).dst,.int .i64 (IntKind.i64.wrap (a.len + (r[k]'g).len)),.nilsl],.va badE])) G2 rfl (Fz.t hG l2) (Fz.r G2) (.inl ⟨hn,_,_,_,rfl⟩) (zaj _) rfl
  ·have hpj:foldS c0 r = foldS (joinC a (r[k]'g)) (r.drop (k + 1)):=by rw [hpd,if_pos hj]
   have haj:=hacc.join hj
   have hcj':=hcj
   obtain ⟨jn,jb,je,jc,jL,jr,rfl,j1,j2,j3,j4⟩:=hcj
   conv=>whnf
   exact ⟨⟨(k + 1,joinC a (r[k]'g),(jn,jb,je,jc),G2),Fz.t hG l2,g,hpj,haj,hcj'⟩,hdec,leR [] hH hT rfl ⟨tv,zar ⟨[],[],0,[]⟩ (sk:=.nilsl) trivial,zar _ (.inr (by omega)),tv⟩ ⟨rfl,cnt hk62,tv⟩ ⟨Fz.r G2,rfl,rfl,tv⟩⟩
 ·have gi:¬ (k:Int) < ((r.length + 1 - 1:Nat):Int):=by omega
  have hpe:foldS c0 r = some a:=by rw [hp,jq (by omega)]; rfl
  conv=>whnf
  refine brj gi ?_;conv=>whnf
  exact endFo (.ret (.tup [.agg (crtS a (.slice nl 0 b e 2 a.cl.length c)),.va .nilif])) G rfl hG (Fz.r G) (.inr ⟨_,hpe,_,rfl,hka⟩) (zaj _) rfl
theorem zr5 {h:Hp} {nx:Nat} {K:Out → Hp → Nat → Prop} {x y:SA} {vx vy:Value} {b:Bool} (hx:∀ ρ,x.den ρ = vx) (hy:∀ ρ,y.den ρ = vy)
  (hc:∀ w,Calls Tryz.prog 135 #[vx,vy] w fun e w'=>e = .returned (.bool b) ∧ w' = w) (hk:K (.ret (.va (.bool b))) h nx):za6 Tryz.prog 135 [.va x,.va y] h nx K:=by
 unfold za6
 intro C ρ w vs S hr hb
 refine ⟨Sx.enters_of Tryz.func135 rfl (by decide),?_⟩
 match vs,hr with
 |[v,u],hr=>
  have hv:v = vx:=by
   have h1:v = x.den ρ:=hr.1
   rw [h1,hx]
  have hu:u = vy:=by
   have h1:u = y.den ρ:=hr.2.1
   rw [h1,hy]
  subst hv hu
  refine (hc w).mono ?_
  rintro e w' ⟨rfl,rfl⟩
  exact ⟨.ret (.va (.bool b)),h,nx,ρ,hk,⟨_,rfl,rfl⟩,S,fun _ _=>rfl,qf _,tv⟩
theorem zx8 (F:Fz):Fo Tryz.prog F 71 [.va .nilif] (fun o F'=>o = .ret (.va (.int .i64 0)) ∧ F' = F):=by
 refine fo_of hΘ Tryz.func71 rfl (by decide) _ _ rfl rfl rfl ?_;conv=>whnf
 refine zr5 (fun _=>rfl) (fun _=>rfl) (z4q _) ?_;conv=>whnf
 refine brd (by decide) ?_;conv=>whnf
 exact endPu rfl (Fz.r F) (zaj _) rfl
theorem z1w (F:Fz):Fo Tryz.prog F 71 [.va badE] (fun o F'=>o = .ret (.va (.int .i64 100)) ∧ F' = F):=by
 refine fo_of hΘ Tryz.func71 rfl (by decide) _ _ rfl rfl rfl ?_;conv=>whnf
 refine zr5 (fun _=>rfl) (fun _=>rfl) (is_F 100 10) ?_;conv=>whnf
 refine brd (by decide) ?_;conv=>whnf
 exact endPu rfl (Fz.r F) (zaj _) rfl
theorem KpsAt.zrow {F:Fz} {t:Nat} {sa:SA} {ks:List Kp} (h:SlR F t 2 (KpR F) sa ks):∃ (nil:Bool) (b e cap:Nat) (L:List (List SA)) (room:Nat) (o:List ZC),sa = .slice nil 0 b e 2 ks.length cap ∧ (nil = true → ks = []) ∧ (nil = false → F b = some (.arr t 2 L room)) ∧ e + ks.length ≤ L.length ∧
  (L.drop e).take ks.length = o.map encZ ∧ o.length = ks.length ∧ ∀ (i:Nat) (z:ZC) (x:Kp),o[i]? = some z → ks[i]? = some x → KpR F z.1 x:=by
 obtain ⟨nil,b,e,cap,L,room,h1,h2,h3,h4,h5⟩:=h
 refine ⟨nil,b,e,cap,L,room,?_⟩
 have key:∀ (ks:List Kp) (M:List (List SA)),(∀ (k:Nat) x,ks[k]? = some x → ∃ y,M[k]? = some y ∧ KpR F y x) → ∃ o:List ZC,M.take ks.length = o.map encZ ∧ o.length = ks.length ∧ ∀ (i:Nat) (z:ZC) (x:Kp),o[i]? = some z → ks[i]? = some x → KpR F z.1 x:=by
  intro ks
  induction ks with
  |nil=>intro M _; exact ⟨[],by simp,rfl,fun i z x h=>by simp at h⟩
  |cons k r ih=>
   intro M hM
   obtain ⟨y,hy,hk⟩:=hM 0 k rfl
   cases M with
   |nil=>simp at hy
   |cons m M'=>
    have hym:m = y:=by simpa using hy
    subst hym
    obtain ⟨o,ho1,ho2,ho3⟩:=ih M' (fun i x hx=>by
     obtain ⟨y,h1,h2⟩:=hM (i + 1) x (by simpa using hx)
     exact ⟨y,by simpa using h1,h2⟩)
    have hz:∀ a ∈ m,a.z = true:=by
     obtain ⟨sa,rfl,hs⟩:=hk
     intro a ha
     simp only [qj,qq,or_false] at ha
     rcases ha with rfl | rfl
     ·rfl
     ·exact hs.z
    refine ⟨⟨m,hz⟩ :: o,?_,by simp [ho2],?_⟩
    ·rw [qe,List.take_succ_cons,ho1]; rfl
    ·intro i z x hz' hx
     cases i with
     |zero=>
      have h1:(⟨m,hz⟩:ZC) = z:=by simpa using hz'
      have h2:k = x:=by simpa using hx
      subst h1 h2
      exact hk
     |succ i=>exact ho3 i z x (by simpa using hz') (by simpa using hx)
 obtain ⟨o,ho1,ho2,ho3⟩:=key ks (L.drop e) (fun k x hx=>by
  obtain ⟨y,hy,hk⟩:=h5 k x hx
  exact ⟨y,by rw [qab]; exact hy,hk⟩)
 exact ⟨o,h1,h2,h3,h4,ho1,ho2,ho3⟩
theorem zt7 (F:Fz) (b e c room:Nat) (L:List (List SA)) (o:List ZC) (hb:F b = some (.arr 52 2 L room)) (he:e + o.length ≤ L.length) (hX:(L.drop e).take o.length = o.map encZ) (hl:o.length = 8) :
  Ct Tryz.prog 72 [.va (.slice false 0 b e 2 8 c)] F [] 1
   (fun out F0 h0 n0=>F0 = F ∧ n0 = 2 ∧ ∃ c',out = .ret (.va (.slice false 1 0 0 2 8 c')) ∧ h0 = [(1,.one (.arr 52 2 (o.map encZ) c'))]):=by
 rw [hl] at he hX
 rcases o with _ | ⟨o0,or'⟩
 ·cases hl
 have hl8:or'.length + 1 = 8:=hl
 have hsz:(0 + ((o0 :: or').map encZ).length) * 32 ≤ 140737488355328:=by rw [qb,hl]; decide
 refine ct_of hΘ Tryz.func72 rfl (by decide) _ _ rfl rfl rfl ?_;conv=>whnf
 refine brd (by decide) ?_;conv=>whnf
 refine ⟨52,L,room,hb,he,(o0 :: or').map encZ,hX,?_⟩
 refine ⟨rfl,rfl,?_⟩
 refine ⟨rfl,hsz,fun c' hc=>?_⟩
 clear hc;conv=>whnf
 exact clean [(1,2)] (.ret (.va (.slice false 1 0 0 2 8 c'))) F [(1,.one (.arr 52 2 ((o0 :: or').map encZ) c'))] 2 ⟨Fz.r F,rfl,rfl,c',rfl,rfl⟩ ⟨rfl,(by rw [qb,hl]),rfl,.inr ⟨rfl,rfl,rfl,rfl⟩⟩ rfl rfl (Out.bB_ok (o:=.ret (.va (.slice false 1 0 0 2 8 c'))) rfl) ⟨zfq zcl (by omega) 52 2 c' (o0 :: or'),tv⟩ ⟨Fz.r F,(zim (μ:=sig [(1,2)]) zcl (fun k=>rfl) rfl _ _ _).symm,tv⟩
def zcc:List Crt → Option Crt
 |[]=>none
 |c :: r=>if crtOk c = true then foldS c r else none
theorem zna:∀ {r:List Crt} {a c:Crt},Acc a → foldS a r = some c → Acc c
 |[],a,c,h,hf=>by cases hf; exact h
 |b :: r,a,c,h,hf=>by
  rw [foldS] at hf
  split at hf
  ·rename_i hj; exact zna (h.join hj) hf
  ·cases hf
theorem zge (F:Fz) (nl:Bool) (sb se sc:Nat) (l:List Crt) (hl:zn7 F (.slice nl 0 sb se 4 l.length sc) l) (hcap:l.length ≤ sc) (hs:∀ c ∈ l,short c.cl) (hll:∀ c ∈ l,c.cl.length < 1000000) (hlen:l.length < 1000000) :
  Fo Tryz.prog F 30 [.va (.slice nl 0 sb se 4 l.length sc)] (fun o F'=>
   (zcc l = none ∧ o = .ret (.tup [.agg [.str [],.str [],.int .i64 0,.nilsl],.va (.int .i64 100)])) ∨
   (∃ c,zcc l = some c ∧ ∃ sk,o = .ret (.tup [.agg (crtS c sk),.va (.int .i64 0)]) ∧ ClsAt F' sk c.cl)):=by
 have fin:∀ (F1:Fz) (h:Hp) (nx:Nat),zcc l = none → lget h 0 = some (.frz F1) → Fz.le F F1 → Cln 1 (FoK F (fun o F'=>
   (zcc l = none ∧ o = .ret (.tup [.agg [.str [],.str [],.int .i64 0,.nilsl],.va (.int .i64 100)])) ∨
   (∃ c,zcc l = some c ∧ ∃ sk,o = .ret (.tup [.agg (crtS c sk),.va (.int .i64 0)]) ∧ ClsAt F' sk c.cl))) (.ret (.tup [.agg [.str [],.str [],.int .i64 0,.nilsl],.va (.int .i64 100)])) h nx:=by
  intro F1 h nx hj h0 hle
  exact endFo (.ret (.tup [.agg [.str [],.str [],.int .i64 0,.nilsl],.va (.int .i64 100)])) F1 h0 hle (Fz.r F1) (.inl ⟨hj,rfl⟩) (zaj _) rfl
 obtain ⟨nil',b',e',cap',L,room,heq,l1,l2,l3,l4⟩:=hl
 cases heq
 rcases l with _ | ⟨c0,r⟩
 ·refine fo_of hΘ Tryz.func30 rfl (by decide) _ _ rfl rfl rfl ?_;conv=>whnf
  refine gaf (by decide) ?_;conv=>whnf
  exact fin F _ _ rfl rfl (Fz.r F)
 ·have hnl:nl = false:=SlR.lt l1 (show 0 < (c0 :: r).length by simp)
  subst hnl
  have hbl:=l2 rfl
  have hz:=l4 0 c0 rfl
  obtain ⟨y0,hy0,sk0,rfl,hk0⟩:=hz
  have hc0:short c0.cl:=hs c0 (by simp)
  have hvalid:=zei F sk0 c0 hk0 hc0 (hll c0 (by simp))
  have hfold:=fun (hv:crtOk c0 = true) (F1:Fz) (m1:Fz.le F F1)=>zxx F1 sb se sc room L c0 r (m1 _ _ hbl) (fun k x hx=>by obtain ⟨y,h1,h2⟩:=l4 k x hx; exact ⟨y,h1,h2.mono m1⟩) hcap (Acc.ok hv hc0) (fun c hc=>hs c (by simp [hc])) (fun c hc=>hll c (by simp [hc])) (by simp at hlen; omega)
  obtain ⟨kn,kb,ke,kc,kL,kr,rfl,-,-,-,-⟩:=hk0
  have hvc:crtOk c0 = true ∨ crtOk c0 = false:=by
   cases crtOk c0
   ·exact .inr rfl
   ·exact .inl rfl
  rcases hvc with hv | hv
  ·rw [hv] at hvalid
   have hfold:=hfold hv
   have hcs:zcc (c0 :: r) = foldS c0 r:=by rw [zcc,if_pos hv]
   refine fo_of hΘ Tryz.func30 rfl (by decide) _ _ rfl rfl rfl ?_;conv=>whnf
   refine ⟨fun _=>?_,fun g=>absurd g (by simp; omega)⟩;conv=>whnf
   refine ⟨rfl,⟨by simp,by simp⟩,?_⟩;conv=>whnf
   refine ⟨_,hbl,?_⟩;conv=>whnf
   refine ⟨_,hy0,?_⟩;conv=>whnf
   refine useFo hvalid rfl (zaa _) rfl ?_
   rintro _ F1 m1 rfl;conv=>whnf
   refine brd (by decide) ?_;conv=>whnf
   refine useFo (hfold F1 m1) rfl (zaa _) rfl ?_
   rintro _ F2 m2 (⟨hn,x,y,n,rfl⟩ | ⟨c,hc,sk,rfl,hk⟩)
   ·conv=>whnf
    refine usePu (z1w F2) rfl (zaa _) rfl ?_;conv=>whnf
    exact fin F2 _ _ (hcs.trans hn) rfl (Fz.t m1 m2)
   ·have hac:=zna (Acc.ok hv hc0) hc
    have h8:=hac.n
    have hzr:=KpsAt.zrow hk
    obtain ⟨n',b1,e1,c1,L1,r1,o,rfl,z1,z2,z3,z4,z5,z6⟩:=hzr
    have hn':n' = false:=SlR.lt z1 (show 0 < c.cl.length by omega)
    subst hn'
    have ho8:o.length = 8:=z5.trans h8
    conv=>whnf
    refine use (zt7 F2 b1 e1 c1 r1 L1 o (z2 rfl) (by rw [z5]; exact z3) (by rw [z5]; exact z4) ho8) [] rfl ⟨⟨rfl,h8.symm,rfl,.inr ⟨rfl,rfl,rfl,rfl⟩⟩,tv⟩ rfl trivial (by simp [SV.below,SA.below]) trivial ?_
    rintro out0 F3 h0 n0 hle ⟨rfl,rfl,c',rfl,rfl⟩;conv=>whnf
    have hrow0:∀ i (z:ZC) (x:Kp),o[i]? = some z → c.cl[i]? = some x → KpR F3 z.1 x:=fun i z x h1 h2=>z6 i z x h1 h2
    refine zan hΘ (X:={ x:Nat × List ZC × Fz // Fz.le F x.2.2 ∧ x.1 ≤ 8 ∧ x.2.1.length = 8 ∧ ∀ (i:Nat) (z:ZC) (y:Kp),x.2.1[i]? = some z → c.cl[i]? = some y → KpR x.2.2 z.1 y }) (fun x=>[(35,.va (.int .i64 x.1.1))]) [6,36,37,38,39,40,41,42,43,44,45,46,47,48,49,50]
     (fun x=>[(0,.frz x.1.2.2),(1,.one (.cells 48 [.str [],.str [],.int .i64 0,.nilsl])),(2,.one (.cells 48 (crtS c (.slice false 3 0 0 2 8 c')))),(3,.one (.arr 52 2 (x.1.2.1.map encZ) c'))]) 4 (fun x=>8 - x.1.1) ⟨(0,o,F3),Fz.t m1 m2,by omega,ho8,hrow0⟩
     (fun hH hT=>leI [] hH hT rfl ⟨tv,zar ⟨[],[],0,[]⟩ (sk:=.nilsl) trivial,zar _ (.inr (by omega)),zfq zcl (by omega) 52 2 c' o,tv⟩ ⟨rfl,tv⟩ ⟨Fz.r F3,rfl,rfl,(zim (μ:=tau [] 1 3) zcl (fun k=>rfl) rfl _ _ _).trans (zim (μ:=sig []) zcl (fun k=>rfl) rfl _ _ _).symm,tv⟩) ?_
    rintro ⟨⟨k,p,G⟩,hG,hk8,hp8,hrow⟩ hH hT
    replace hG:Fz.le F G:=hG
    replace hk8:k ≤ 8:=hk8
    replace hp8:p.length = 8:=hp8
    replace hrow:∀ (i:Nat) (z:ZC) (y:Kp),p[i]? = some z → c.cl[i]? = some y → KpR G z.1 y:=hrow
    by_cases g:k < 8
    ·have gi:(k:Int) < 8:=by omega
     have gk:k < p.length:=by omega
     have gc:k < c.cl.length:=by omega
     have hdec:8 - (k + 1) < 8 - k:=by omega
     have hk62:k < 4611686018427387904:=by omega
     have hkp:=hrow k (p[k]'gk) (c.cl[k]'gc) (qc gk) (qc gc)
     obtain ⟨sx,hsx,hst⟩:=hkp
     have hy:(p.map encZ)[0 + (k:Int).toNat]? = some [.int .i64 (c.cl[k]'gc).1,sx]:=by
      rw [ql,ji,qs,qc gk]
      exact congrArg some hsx
     have hset:∀ (G2:Fz) (z:ZC),Fz.le G G2 → KpR G2 z.1 (c.cl[k]'gc) → ∀ (i:Nat) (z':ZC) (y:Kp),(p.set k z)[i]? = some z' → c.cl[i]? = some y → KpR G2 z'.1 y:=by
      intro G2 z hle hz i z' y h1 h2
      by_cases hi:k = i
      ·subst hi
       rw [qcr gk] at h1
       rw [qc gc] at h2
       cases h1
       cases h2
       exact hz
      ·rw [qa9 hi] at h1
       exact (hrow i z' y h1 h2).mono hle
     have hseq:∀ (z:ZC) (w:List SA),z.1 = w → SB.arr 52 2 ((p.map encZ).set (0 + (k:Int).toNat) w) c' = (SB.arr 52 2 ((p.set k z).map encZ) c').ren (sig []):=fun z w hw=>by
      rw [zim (μ:=sig []) zcl (fun k=>rfl) rfl,ql,ji,qbo,← hw]
      rfl
     have hcl:=zof G sx (c.cl[k]'gc).2 hst (hac.s _ (jj gc))
     obtain ⟨hstn,hstb,hste,hstc,hstL,hstr,rfl,hst1,hst2,hst3,hst4⟩:=hst
     conv=>whnf
     refine bri gi ?_;conv=>whnf
     refine drawP hΘ mixed (lk [0,1,2,3,4,5,6,7] (.alt 8 (.alt 9 (.look 10 (.look 11 (.alt 12 .done .nil))) .nil) .nil)) [2] (by kernel_rfl) ?_;conv=>whnf
     refine ⟨rfl,?_⟩;conv=>whnf
     refine ⟨rfl,?_⟩;conv=>whnf
     refine ⟨rfl,⟨by simp,gi⟩,?_⟩;conv=>whnf
     refine ⟨_,hy,?_⟩;conv=>whnf
     refine ⟨Fz.r G,rfl,?_⟩;conv=>whnf
     refine useFo hcl rfl (zaa _) rfl ?_
     rintro _ G2 u2 ⟨sn,rfl,hsn⟩
     have hsn':=hsn
     obtain ⟨hsnn,hsnb,hsne,hsnc,hsnL,hsnr,rfl,hsn1,hsn2,hsn3,hsn4⟩:=hsn
     conv=>whnf
     refine ⟨u2,rfl,?_⟩;conv=>whnf
     refine ⟨rfl,⟨by simp,gi⟩,?_⟩;conv=>whnf
     refine ⟨_,hy,?_⟩;conv=>whnf
     refine ⟨Fz.r G2,rfl,?_⟩;conv=>whnf
     exact ⟨⟨(k + 1,p.set k (mkZ (c.cl[k]'gc).1 (.slice hsnn 0 hsnb hsne 2 (c.cl[k]'gc).2.length hsnc) rfl),G2),Fz.t hG u2,g,by show (p.set k _).length = 8; rw [qa2]; exact hp8,hset G2 _ u2 ⟨_,rfl,hsn'⟩⟩,hdec,leR [] hH hT rfl ⟨tv,zar ⟨[],[],0,[]⟩ (sk:=.nilsl) trivial,zar _ (.inr (by omega)),zfq zcl (by omega) 52 2 c' _,tv⟩ ⟨cnt hk62,tv⟩ ⟨Fz.r G2,rfl,rfl,hseq _ _ rfl,tv⟩⟩
    ·have gi:¬ (k:Int) < 8:=by omega
     have hend:∀ (F':Fz) (b:Nat),Fz.le G F' → F' b = some (.arr 52 2 (p.map encZ) c') → ClsAt F' (.slice false 0 b 0 2 8 c') c.cl:=fun F' b hle hb=>by
      have h:=SlR.new (F:=F') (t:=52) (sz:=2) (R:=KpR F') (cap:=c') (l:=c.cl) hb (by rw [qb,hp8,h8]) fun i x hx=>by
       have hi:i < p.length:=by rw [hp8,← h8]; exact (qh.1 hx).1
       exact ⟨encZ p[i],by rw [qs,qc hi]; rfl,(hrow i p[i] x (qc hi) hx).mono hle⟩
      rw [h8] at h
      exact h
     conv=>whnf
     refine brj gi ?_;conv=>whnf
     refine zbl 3 (fun _=>.arr 52 2 (p.map encZ) c') rfl rfl rfl (fun _ _=>by exact zim (μ:=resP _) zcl (fun k=>rfl) rfl _ _ _) (fun _ _=>zfq zcl (by omega) _ _ _ _) ?_
     intro b' F' hle hb'
     exact endFo (.ret (.tup [.agg (crtS c (.slice false 0 (b' 0) 0 2 8 c')),.va (.int .i64 0)])) F' rfl (Fz.t hG hle) (Fz.r F') (.inr ⟨c,hcs.trans hc,_,rfl,hend F' _ hle (hb' 0 rfl)⟩) (zaj _) rfl
  ·rw [hv] at hvalid
   have hcs:zcc (c0 :: r) = none:=by rw [zcc,if_neg (by rw [hv]; simp)]
   refine fo_of hΘ Tryz.func30 rfl (by decide) _ _ rfl rfl rfl ?_;conv=>whnf
   refine ⟨fun _=>?_,fun g=>absurd g (by simp; omega)⟩;conv=>whnf
   refine ⟨rfl,⟨by simp,by simp⟩,?_⟩;conv=>whnf
   refine ⟨_,hbl,?_⟩;conv=>whnf
   refine ⟨_,hy0,?_⟩;conv=>whnf
   refine useFo hvalid rfl (zaa _) rfl ?_
   rintro _ F1 m1 rfl;conv=>whnf
   refine bre (by decide) ?_;conv=>whnf
   exact fin F1 _ _ hcs rfl m1
abbrev strE (s:List UInt8):Ent:=.one (.cells 9 [.str s])
theorem zcf (n:Nat) (s:List UInt8):(strE s).below n:=fun a ha=>by
 simp only [qy] at ha
 subst ha; trivial
theorem zlx {l:List Int} {k:Nat} (g:k < l.length):zae (l.take (k + 1)) = zae (l.take k) ++ (putIR (l[k]'g)).1:=zbo g
theorem z4f (F:Fz) (sa:SA) (l:List Int) (out:List UInt8) (ha:zd7 F sa l) (hl:l.length < 1000000) (ho:out.length ≤ 1000000000) :
  Ct Tryz.prog 77 [.va sa,.va (.ptr ⟨1,0,0,0,0⟩)] F [(1,strE out)] 2 (fun o F0 h0 n0=>F0 = F ∧ n0 = 2 ∧ o = .ret (.tup []) ∧ h0 = [(1,strE (out ++ zae l))]):=by
 obtain ⟨han,hab,hae,hac,haL,har,rfl,ha1,ha2,ha3,ha4⟩:=ha
 refine ct_of hΘ Tryz.func77 rfl (by decide) _ _ rfl rfl rfl ?_;conv=>whnf
 refine zan hΘ (X:={ k:Nat // k ≤ l.length }) (fun x=>[(9,.va (.int .i64 x.1))]) [4,5,6,10,11,12,13,14,15,16,17,18,19,20,21]
  (fun x=>[(0,.frz F),(1,strE (out ++ zae (l.take x.1)))]) 2 (fun x=>l.length - x.1) ⟨0,by simp⟩
  (fun hH hT=>leI [] hH hT rfl ⟨tv,zcf _ _,tv⟩ ⟨rfl,tv⟩ ⟨Fz.r F,by show SB.cells _ [.str out] = SB.cells _ [.str (out ++ [])]; rw [jw],tv⟩) ?_
 rintro ⟨k,hk⟩ hH hT
 by_cases g:k < l.length
 ·have gi:(k:Int) < (l.length:Int):=by omega
  have hdec:l.length - (k + 1) < l.length - k:=by omega
  have hk62:k < 4611686018427387904:=by omega
  have hps:=pfun F (l[k]'g)
  have hlen:(out ++ zae (l.take k)).length ≤ 1000000000000:=by
   have h9:=zfn zd3 (l.take k)
   rw [qn] at h9
   show (out ++ ((l.take k).map fun n=>(putIR n).1).flatten).length ≤ _
   rw [qa]; omega
  have htl:=zd3 (l[k]'g)
  have hsum:(out ++ zae (l.take k)).length + (putIR (l[k]'g)).1.length ≤ 9223372036854775807:=by omega
  have hnx:out ++ zae (l.take k) ++ (putIR (l[k]'g)).1 = out ++ zae (l.take (k + 1)):=by rw [zlx g,qk]
  conv=>whnf
  refine bri gi ?_;conv=>whnf
  refine ⟨Sl.lt ha1 g,⟨by simp,by simpa using g⟩,?_⟩;conv=>whnf
  refine ⟨_,ha2 (Sl.lt ha1 g),?_⟩;conv=>whnf
  refine ⟨_,Sl.at ha4 g,?_⟩;conv=>whnf
  refine usePu (hps) rfl (zaa _) rfl ?_;conv=>whnf
  refine ⟨hsum,?_⟩;conv=>whnf
  exact ⟨⟨k + 1,g⟩,hdec,leR [] hH hT rfl ⟨tv,zcf _ _,tv⟩ ⟨cnt hk62,tv⟩ ⟨Fz.r F,by show SB.cells _ [.str _] = SB.cells _ [.str _]; rw [hnx],tv⟩⟩
 ·have gi:¬ (k:Int) < (l.length:Int):=by omega
  have hnx:out ++ zae (l.take k) = out ++ zae l:=by rw [qm (by omega)]
  conv=>whnf
  refine brj gi ?_;conv=>whnf
  exact clean [] (.ret (.tup [])) F [(1,strE (out ++ zae l))] 2 ⟨Fz.r F,rfl,rfl,rfl,rfl⟩ trivial rfl rfl (Out.bB_ok (o:=.ret (.tup [])) rfl) ⟨zcf _ _,tv⟩ ⟨Fz.r F,by show SB.cells _ [.str _] = SB.cells _ [.str _]; rw [hnx],tv⟩
def stpN (s:Stp):List UInt8:=zae [s.1,s.2]
def zgc (x:Kp):List UInt8:=zae [(x.2.length:Int)] ++ (x.2.map stpN).flatten
def encC (c:Crt):List UInt8:=(putSR c.src).1 ++ (putSR c.dst).1 ++ zae [c.len] ++ (c.cl.map zgc).flatten
theorem zra (s:Stp):(stpN s).length ≤ 18:=zaz _
theorem ztm (x:Kp) (h:x.2.length ≤ 64):(zgc x).length ≤ 1161:=by
 have h1:=zaz [(x.2.length:Int)]
 have h2:=zfn zra x.2
 rw [zgc,qa]
 simp only [qe,qp] at h1
 omega
def encP (o:List UInt8) (st:List Stp) (j:Nat):List UInt8:=o ++ zae [(st.length:Int)] ++ ((st.take j).map stpN).flatten
theorem z7b (o:List UInt8) (st:List Stp):encP o st 0 = o ++ zae [(st.length:Int)]:=by simp [encP]
theorem zvk (o:List UInt8) (st:List Stp) (j:Nat) (g:j < st.length):encP o st (j + 1) = encP o st j ++ zae [(st[j]'g).1,(st[j]'g).2]:=by
 rw [encP,zbo g,← qk]; rfl
theorem zy0 (o:List UInt8) (x:Kp):encP o x.2 x.2.length = o ++ zgc x:=by
 rw [encP,yr,qk]; rfl
theorem zzj (o:List UInt8) (st:List Stp) (j:Nat) (h:st.length ≤ 64):(encP o st j).length ≤ o.length + 1161:=by
 have h1:=zaz [(st.length:Int)]
 have h2:=zfn zra (st.take j)
 rw [qn] at h2
 simp only [qe,qp] at h1
 simp only [encP,qa]
 omega
theorem zpv {c:Crt} (h:crtOk c = true):∀ x ∈ c.cl,x.2.length ≤ 64:=by
 simp only [crtOk,qd,decide_eq_true_eq] at h
 have key:∀ (l:List Kp) (i:Int),clOk l i = true → ∀ x ∈ l,x.2.length ≤ 64:=by
  intro l
  induction l with
  |nil=>intro i _ x hx; simp at hx
  |cons y r ih=>
   intro i h x hx
   rw [clOk,qd] at h
   rcases qj.1 hx with rfl | hx
   ·have:=h.1
    simp only [clAt,qd] at this
    exact zhf this.2.1
   ·exact ih (i + 1) h.2 x hx
 exact key c.cl 1 h.2.2.2.2.2
theorem zwh (F:Fz) (sk:SA) (c:Crt) (hk:ClsAt F sk c.cl) (hs:short c.cl) (hl:c.cl.length < 1000000) :
  Fo Tryz.prog F 34 [.agg (crtS c sk)] (fun o F'=>(crtOk c = false ∧ o = .ret (.tup [.va (.str []),.va (.int .i64 100)])) ∨ (crtOk c = true ∧ o = .ret (.tup [.va (.str (encC c)),.va (.int .i64 0)]))):=by
 have hvalid:=zei F sk c hk hs hl
 have hvc:crtOk c = true ∨ crtOk c = false:=by
  cases crtOk c
  ·exact .inr rfl
  ·exact .inl rfl
 rcases hvc with hv | hv
 rotate_left
 ·rw [hv] at hvalid ⊢
  obtain ⟨kn,kb,ke,kc,kL,kr,rfl,k1,k2,k3,k4⟩:=hk
  refine fo_of hΘ Tryz.func34 rfl (by decide) _ _ rfl rfl rfl ?_;conv=>whnf
  refine useFo hvalid rfl (zaa _) rfl ?_
  rintro _ F1 l1 rfl;conv=>whnf
  refine bre (by decide) ?_;conv=>whnf
  exact endFo (.ret (.tup [.va (.str []),.va (.int .i64 100)])) F1 rfl l1 (Fz.r F1) (.inl ⟨rfl,rfl⟩) (zaj _) rfl
 have h8:=(zef hv).1
 have h64:=zpv hv
 rw [hv] at hvalid ⊢
 obtain ⟨src,dst,len,ks⟩:=c
 replace hk:ClsAt F sk ks:=hk
 replace h8:ks.length = 8:=h8
 replace h64:∀ x ∈ ks,x.2.length ≤ 64:=h64
 have hs32:src.length = 32 ∧ dst.length = 32:=by
  have h:=hv
  simp only [crtOk,qd,decide_eq_true_eq] at h
  exact ⟨h.1,h.2.1⟩
 obtain ⟨kn,kb,ke,kc,kL,kr,rfl,k1,k2,k3,k4⟩:=hk
 have pA:=fun F1=>zd8 pfun F1 src (by omega)
 have pB:=fun F1=>zd8 pfun F1 dst (by omega)
 have lA:=zdg src
 have lB:=zdg dst
 have hput:=fun F1 sa n (h:zd7 F1 sa n) (hn:n.length < 1000000) out (ho:out.length ≤ 1000000000)=>z4f F1 sa n out h hn ho
 show Fo Tryz.prog F 34 [.agg (crtS ⟨src,dst,len,ks⟩ (.slice kn 0 kb ke 2 ks.length kc))] (fun o F'=>(true = false ∧ o = .ret (.tup [.va (.str []),.va (.int .i64 100)])) ∨ (true = true ∧ o = .ret (.tup [.va (.str ((putSR src).1 ++ (putSR dst).1 ++ zae [len] ++ (ks.map zgc).flatten)),.va (.int .i64 0)])))
 obtain ⟨A,hA⟩:∃ A,(putSR src).1 = A:=⟨_,rfl⟩
 obtain ⟨B,hB⟩:∃ B,(putSR dst).1 = B:=⟨_,rfl⟩
 rw [hA] at pA lA ⊢
 rw [hB] at pB lB ⊢
 clear hA hB
 obtain ⟨O,hO⟩:∃ O:Nat → List UInt8,O = fun k=>A ++ B ++ zae [len] ++ ((ks.take k).map zgc).flatten:=⟨_,rfl⟩
 have O0:A ++ B ++ zae [len] = O 0:=by rw [hO]; simp
 have O8:A ++ B ++ zae [len] ++ (ks.map zgc).flatten = O 8:=by rw [hO]; simp only; rw [qm (by omega)]
 have Os:∀ k (g:k < ks.length),O (k + 1) = O k ++ zgc (ks[k]'g):=fun k g=>by
  rw [hO]; simp only; rw [zbo g,← qk]
 have Ol:∀ k,(O k).length ≤ 200000:=fun k=>by
  have h1:=zaz [len]
  have h2:∀ l:List Kp,(∀ x ∈ l,x.2.length ≤ 64) → ((l.map zgc).flatten).length ≤ 1161 * l.length:=by
   intro l
   induction l with
   |nil=>intro _; simp
   |cons y r ih=>
    intro h
    have h3:=ztm y (h y (by simp))
    have h4:=ih fun x hx=>h x (by simp [hx])
    rw [qx,jy,qa,qe]
    omega
  have h5:=h2 (ks.take k) fun x hx=>h64 x (jv hx)
  rw [qn] at h5
  rw [hO]; simp only [qa]
  simp only [qe,qp] at h1
  omega
 rw [O8]
 clear hO O8
 refine fo_of hΘ Tryz.func34 rfl (by decide) _ _ rfl rfl rfl ?_;conv=>whnf
 refine useFo hvalid rfl (zaa _) rfl ?_
 rintro _ F1 l1 rfl;conv=>whnf
 refine brd (by decide) ?_;conv=>whnf
 refine rounds hΘ 3 ?_;conv=>whnf
 refine bre (by decide) ?_;conv=>whnf
 refine ⟨⟨by decide,by decide⟩,_,rfl,?_⟩;conv=>whnf
 refine usePu (pA F1) rfl (zaa _) rfl ?_;conv=>whnf
 refine ⟨by show 0 + A.length ≤ 9223372036854775807; omega,?_⟩;conv=>whnf
 refine bre (by decide) ?_;conv=>whnf
 refine ⟨⟨by decide,by decide⟩,_,rfl,?_⟩;conv=>whnf
 refine usePu (pB F1) rfl (zaa _) rfl ?_;conv=>whnf
 refine ⟨by show ([] ++ A).length + B.length ≤ 9223372036854775807; rw [qu]; omega,?_⟩;conv=>whnf
 refine brd (by decide) ?_;conv=>whnf
 refine za0 3 (fun _=>.arr 3 1 ([len].map encI) 1) rfl rfl rfl (fun _ _=>rfl) (fun _ _=>SB.bB_ok rfl) ?_
 intro b2 F2 l2 hb2
 refine use (hput F2 _ [len] (Sl.new (l:=[len]) (cap:=1) (hb2 0 rfl)) (by simp) ([] ++ A ++ B) (by rw [qu,qa]; omega)) [(1,2)] rfl ⟨⟨rfl,rfl,rfl,.inr ⟨rfl,rfl,rfl,rfl⟩⟩,rfl,tv⟩ rfl ⟨zcf _ _,tv⟩ (by simp [SV.below,SA.below]) ⟨rfl,tv⟩ ?_
 rintro out0 F3 h0 n0 hle ⟨rfl,rfl,rfl,rfl⟩
 have m3:=Fz.t l1 l2
 conv=>whnf
 refine zan hΘ (X:={ x:Nat × Fz // Fz.le F x.2 ∧ x.1 ≤ 8 }) (fun x=>[(43,.va (.int .i64 x.1.1))]) [11,13,44,45,46,47,48,49,50,51,52,53,54,55,56,57,58,59,60,61,62,63,64,65,66,67,68]
  (fun x=>[(0,.frz x.1.2),(1,.one (.cells 48 (crtS ⟨src,dst,len,ks⟩ (.slice kn 0 kb ke 2 ks.length kc)))),(2,strE (O x.1.1)),(3,.gone)]) 4 (fun x=>8 - x.1.1) ⟨(0,F3),m3,by omega⟩
  (fun hH hT=>leI [] hH hT rfl ⟨tv,zar _ (.inr (by omega)),zcf _ _,tv,tv⟩ ⟨rfl,tv⟩ ⟨Fz.r F3,rfl,by show SB.cells _ [.str _] = SB.cells _ [.str _]; rw [← O0,qu],tv⟩) ?_
 rintro ⟨⟨k,G⟩,hG,hk8⟩ hH hT
 replace hG:Fz.le F G:=hG
 replace hk8:k ≤ 8:=hk8
 by_cases g:k < 8
 ·have gk:k < ks.length:=by omega
  have gi:(k:Int) < (ks.length:Int):=by omega
  have hdec:8 - (k + 1) < 8 - k:=by omega
  have hk62:k < 4611686018427387904:=by omega
  have hx64:=h64 (ks[k]'gk) (jj gk)
  have hOk:=Ol k
  have hOs:=Os k gk
  have hObt:=SlR.at k4 gk
  obtain ⟨y,hy,a,rfl,hst⟩:=hObt
  have hnil:=SlR.lt k1 gk
  obtain ⟨hstn,hstb,hste,hstc,hstL,hstr,rfl,hst1,hst2,hst3,hst4⟩:=hst
  conv=>whnf
  refine bri gi ?_;conv=>whnf
  refine ⟨hnil,⟨by simp,gi⟩,?_⟩;conv=>whnf
  refine ⟨_,hG _ _ (k2 hnil),?_⟩;conv=>whnf
  refine ⟨_,hy,?_⟩;conv=>whnf
  refine za0 5 (fun _=>.arr 3 1 ([(((ks[k]'gk).2.length:Nat):Int)].map encI) 1) rfl rfl rfl (fun _ _=>rfl) (fun _ _=>SB.bB_ok rfl) ?_
  intro b3 F4 l4 hb3
  refine use (hput F4 _ [(((ks[k]'gk).2.length:Nat):Int)] (Sl.new (l:=[(((ks[k]'gk).2.length:Nat):Int)]) (cap:=1) (hb3 0 rfl)) (by simp) (O k) (by omega)) [(1,2)] rfl ⟨⟨rfl,rfl,rfl,.inr ⟨rfl,rfl,rfl,rfl⟩⟩,rfl,tv⟩ rfl ⟨zcf _ _,tv⟩ (by simp [SV.below,SA.below]) ⟨rfl,tv⟩ ?_
  rintro out0 F5 h0 n0 hle ⟨rfl,rfl,rfl,rfl⟩
  have m4:=Fz.t hG l4
  conv=>whnf
  refine zan hΘ (X:={ x:Nat × Fz // Fz.le F x.2 ∧ x.1 ≤ (ks[k]'gk).2.length }) (fun x=>[(56,.va (.int .i64 x.1.1))]) [13,57,58,59,60,61,62,63,64,65,66,67]
   (fun x=>[(0,.frz x.1.2),(2,strE (encP (O k) (ks[k]'gk).2 x.1.1))]) 6 (fun x=>(ks[k]'gk).2.length - x.1.1) ⟨(0,F5),m4,by omega⟩
   (fun hH hT=>leI [] hH hT rfl ⟨tv,zcf _ _,tv⟩ ⟨rfl,tv⟩ ⟨Fz.r F5,by show SB.cells _ [.str _] = SB.cells _ [.str _]; rw [z7b],tv⟩) ?_
  rintro ⟨⟨j,G2⟩,hG2,hj⟩ hH2 hT2
  replace hG2:Fz.le F G2:=hG2
  replace hj:j ≤ (ks[k]'gk).2.length:=hj
  have hPl:=zzj (O k) (ks[k]'gk).2 j hx64
  by_cases gj:j < (ks[k]'gk).2.length
  ·have gji:(j:Int) < (((ks[k]'gk).2.length:Nat):Int):=by omega
   have hdec2:(ks[k]'gk).2.length - (j + 1) < (ks[k]'gk).2.length - j:=by omega
   have hj62:j < 4611686018427387904:=by omega
   have hPs:=zvk (O k) (ks[k]'gk).2 j gj
   have hsn:=Sl.lt hst1 gj
   have hse:=Sl.at hst4 gj
   conv=>whnf
   refine bri gji ?_;conv=>whnf
   refine ⟨hsn,⟨by simp,gji⟩,?_⟩;conv=>whnf
   refine ⟨_,hG2 _ _ (hst2 hsn),?_⟩;conv=>whnf
   refine ⟨_,hse,?_⟩;conv=>whnf
   refine za0 7 (fun _=>.arr 3 1 ([((ks[k]'gk).2[j]'gj).1,((ks[k]'gk).2[j]'gj).2].map encI) 2) rfl rfl rfl (fun _ _=>rfl) (fun _ _=>SB.bB_ok rfl) ?_
   intro b5 F6 l6 hb5
   refine use (hput F6 _ [((ks[k]'gk).2[j]'gj).1,((ks[k]'gk).2[j]'gj).2] (Sl.new (l:=[((ks[k]'gk).2[j]'gj).1,((ks[k]'gk).2[j]'gj).2]) (cap:=2) (hb5 0 rfl)) (by simp) (encP (O k) (ks[k]'gk).2 j) (by omega)) [(1,2)] rfl ⟨⟨rfl,rfl,rfl,.inr ⟨rfl,rfl,rfl,rfl⟩⟩,rfl,tv⟩ rfl ⟨zcf _ _,tv⟩ (by simp [SV.below,SA.below]) ⟨rfl,tv⟩ ?_
   rintro out0 F7 h0 n0 hle ⟨rfl,rfl,rfl,rfl⟩;conv=>whnf
   exact ⟨⟨(j + 1,F7),Fz.t hG2 l6,gj⟩,hdec2,leR [] hH2 hT2 rfl ⟨tv,zcf _ _,tv⟩ ⟨cnt hj62,tv⟩ ⟨Fz.r F7,congrArg (fun s=>SB.cells 9 [.str s]) hPs.symm,tv⟩⟩
  ·have gji:¬ (j:Int) < (((ks[k]'gk).2.length:Nat):Int):=by omega
   have hPe:=zy0 (O k) (ks[k]'gk)
   have hje:j = (ks[k]'gk).2.length:=by omega
   have hPfin:encP (O k) (ks[k]'gk).2 j = O (k + 1):=by rw [hje,hPe,← hOs]
   conv=>whnf
   refine brj gji ?_;conv=>whnf
   exact ⟨⟨(k + 1,G2),hG2,g⟩,hdec,leRn [_,_,_] [_,_] [] hH hT rfl ⟨tv,zar _ (.inr (by omega)),zcf _ _,tv,tv⟩ ⟨cnt hk62,tv⟩ ⟨Fz.r G2,rfl,congrArg (fun s=>SB.cells 9 [.str s]) hPfin,tv⟩⟩
 ·have gi:¬ (k:Int) < (ks.length:Int):=by omega
  have hk:k = 8:=by omega
  subst hk
  conv=>whnf
  refine brj gi ?_;conv=>whnf
  exact endFo (.ret (.tup [.va (.str (O 8)),.va (.int .i64 0)])) G rfl hG (Fz.r G) (.inr ⟨rfl,rfl⟩) (zaj _) rfl
end Go.Proofs.YtfnkamphhpldcaaGreatDoor
