import Derived.Test.YtfnkamphhpldcaaGreatDoorK31
import Derived.Test.YtfnkamphhpldcaaGreatDoorK30
set_option maxHeartbeats 64000000
namespace Go.Proofs.YtfnkamphhpldcaaGreatDoor
open Go Sx
set_option maxRecDepth 100000
def zcw (a b:Crt):Bool:=decide (a.dst = b.src) && (crtOk b && decide (a.len + b.len ≤ 64))
def zf0 (x y:Kp):Kp:=(x.1,(compR x.1 x.2 y.2).1)
def joinC (a b:Crt):Crt:=⟨a.src,b.dst,a.len + b.len,List.zipWith zf0 a.cl b.cl⟩
def badE:SA:=.ifc 213 (.int .i64 100)
theorem jO1 {a b:Crt} (h:(!(a.dst == b.src)) = true):zcw a b = false:=by
 have h1:(a.dst == b.src) = false:=by simpa using h
 simp only [zcw,beqD h1,qt]
theorem jO2 {a b:Crt} (h:(!crtOk b) = true):zcw a b = false:=by
 have h1:crtOk b = false:=by simpa using h
 simp only [zcw,h1,qt,jp]
theorem zkk {b:Crt} (h:crtOk b = true):1 ≤ b.len ∧ b.len ≤ 64:=by
 simp only [crtOk,qd,decide_eq_true_eq] at h
 exact ⟨h.2.2.1,h.2.2.2.1⟩
theorem zrp {α:Type} {μ:Mu} {i j c n t:Nat} {L:List α} {x:α} {a b:List UInt8} {w:Int} (hm:μ i 0 = (j,0)) (hn:n = L.length + 1):SB.cells t [.str a,.str b,.int .i64 w,.slice false j 0 0 2 n c] = SB.ren μ (.cells t [.str a,.str b,.int .i64 w,gA 2 i c (L ++ [x])]):=by
 subst hn
 cases L with
 |nil=>simp only [gA,qu,SB.ren,qx,ym,SA.ren,hm,qp]
 |cons y r=>simp only [gA,jt,SB.ren,qx,ym,SA.ren,hm,qa,qe,qp]
theorem zzn (F:Fz) (sa sb:SA) (a b:Crt) (ha:ClsAt F sa a.cl) (hb:ClsAt F sb b.cl) (ha8:a.cl.length = 8) (hal:0 ≤ a.len ∧ a.len ≤ 1000000) (hsa:short a.cl) (hsb:short b.cl) (hlb:b.cl.length < 1000000) :
  Fo Tryz.prog F 70 [.agg (crtS a sa),.agg (crtS b sb)] (fun o F'=>
   (zcw a b = false ∧ o = .ret (.tup [.agg [.str a.src,.str b.dst,.int .i64 (IntKind.i64.wrap (a.len + b.len)),.nilsl],.va badE])) ∨
   (zcw a b = true ∧ ∃ sc,o = .ret (.tup [.agg (crtS (joinC a b) sc),.va .nilif]) ∧ ClsAt F' sc (joinC a b).cl)):=by
 have hvalid:=zeh F sb b hb hsb hlb
 have e1:=jO1 (a:=a) (b:=b)
 have e2:=jO2 (a:=a) (b:=b)
 have hb8:crtOk b = true → b.cl.length = 8:=fun h=>(zeg h).1
 have hbl:crtOk b = true → 1 ≤ b.len ∧ b.len ≤ 64:=zkk
 have hok:zcw a b = (decide (a.dst = b.src) && (crtOk b && decide (a.len + b.len ≤ 64))):=rfl
 obtain ⟨v,hv⟩:∃ v,crtOk b = v:=⟨_,rfl⟩
 rw [hv] at hvalid e2 hb8 hbl hok
 clear hv
 obtain ⟨sA,dA,nA,kA⟩:=a
 obtain ⟨sB,dB,nB,kB⟩:=b
 have fin:∀ (F1:Fz) (h:Hp) (nx:Nat),zcw ⟨sA,dA,nA,kA⟩ ⟨sB,dB,nB,kB⟩ = false → lget h 0 = some (.frz F1) → Fz.le F F1 → Cln 1 (FoK F (fun o F'=>
   (zcw ⟨sA,dA,nA,kA⟩ ⟨sB,dB,nB,kB⟩ = false ∧ o = .ret (.tup [.agg [.str sA,.str dB,.int .i64 (IntKind.i64.wrap (nA + nB)),.nilsl],.va badE])) ∨
   (zcw ⟨sA,dA,nA,kA⟩ ⟨sB,dB,nB,kB⟩ = true ∧ ∃ sc,o = .ret (.tup [.agg (crtS (joinC ⟨sA,dA,nA,kA⟩ ⟨sB,dB,nB,kB⟩) sc),.va .nilif]) ∧ ClsAt F' sc (joinC ⟨sA,dA,nA,kA⟩ ⟨sB,dB,nB,kB⟩).cl))) (.ret (.tup [.agg [.str sA,.str dB,.int .i64 (IntKind.i64.wrap (nA + nB)),.nilsl],.va badE])) h nx:=by
  intro F1 h nx hj h0 hle
  exact endFo (.ret (.tup [.agg [.str sA,.str dB,.int .i64 (IntKind.i64.wrap (nA + nB)),.nilsl],.va badE])) F1 h0 hle (Fz.r F1) (.inl ⟨hj,rfl⟩) (zaj _) rfl
 obtain ⟨an,ab,ae,ac,aL,ar,rfl,a1,a2,a3,a4⟩:=ha
 obtain ⟨bn,bb,be,bc,bL,br_,rfl,b1,b2,b3,b4⟩:=hb
 have hf:∀ k (h:k < kA.length) (h':k < kB.length),(fun k=>zf0 (kA[k]?.getD (0,[])) (kB[k]?.getD (0,[]))) k = ((kA[k]'h).1,(compR (kA[k]'h).1 (kA[k]'h).2 (kB[k]'h').2).1):=fun k h h'=>by
  simp only [qc h,qc h',ju,zf0]
 obtain ⟨f,hfd⟩:∃ f:Nat → Kp,f = fun k=>zf0 (kA[k]?.getD (0,[])) (kB[k]?.getD (0,[])):=⟨_,rfl⟩
 rw [← hfd] at hf
 let outE4 (c:Nat) (l:List ZC):Ent:=.one (.cells 48 [.str sA,.str dB,.int .i64 (IntKind.i64.wrap (nA + nB)),gA 2 5 c l])
 have hob:∀ (n c:Nat) (l:List ZC),5 < n → (outE4 c l).below n:=fun n c l hn=>by
  intro a ha
  simp only [qj,qq,or_false] at ha
  rcases ha with rfl | rfl | rfl | rfl
  ·trivial
  ·trivial
  ·trivial
  ·exact zet (by omega) _ _ _
 refine fo_of hΘ Tryz.func70 rfl (by decide) _ _ rfl rfl rfl ?_;conv=>whnf
 refine ⟨fun g1=>?_,fun g1=>?_⟩
 rotate_left
 ·conv=>whnf
  exact fin F _ _ (e1 g1) rfl (Fz.r F)
 conv=>whnf
 refine useFo hvalid rfl (zaa _) rfl ?_
 rintro _ F1 l1 rfl;conv=>whnf
 refine ⟨fun g2=>?_,fun g2=>?_⟩
 rotate_left
 ·conv=>whnf
  exact fin F1 _ _ (e2 g2) rfl l1
 replace g2:v = true:=by simpa using g2
 have hn:=hbl g2
 have h8:=hb8 g2
 replace hn:1 ≤ nB ∧ nB ≤ 64:=hn
 replace h8:kB.length = 8:=h8
 replace ha8:kA.length = 8:=ha8
 replace hal:0 ≤ nA ∧ nA ≤ 1000000:=hal
 have hw:IntKind.i64.wrap (nA + nB) = nA + nB:=zal (by omega) (by omega)
 have g1':decide (dA = sB) = true:=by
  have h:(dA == sB) = true:=by simpa using g1
  exact beqD h
 by_cases g3:nA + nB ≤ 64
 ·have hj:zcw ⟨sA,dA,nA,kA⟩ ⟨sB,dB,nB,kB⟩ = true:=by rw [hok,g1',g2,decide_eq_true g3]; rfl
  conv=>whnf
  refine br (fun g=>absurd (od g) (by show ¬ (64:Int) < IntKind.i64.wrap (nA + nB); rw [hw]; omega)) (fun _=>?_);conv=>whnf
  refine zan hΘ (X:={ y:Nat × List ZC × Nat × Fz // Fz.le F y.2.2.2 ∧ y.1 ≤ 8 ∧ y.2.1.length = y.1 ∧ RowOf y.2.2.2 f y.2.1 }) (fun y=>[(39,.va (.int .i64 y.1.1))]) [7,8,40,41,42,43,44,45,46,47,48,49,50,51,52,53,54,55,56,57,58,59,60,61,62,63,64,65]
   (fun y=>[(0,.frz y.1.2.2.2),(1,.one (.cells 48 (crtS ⟨sA,dA,nA,kA⟩ (.slice an 0 ab ae 2 kA.length ac)))),(2,.one (.cells 48 (crtS ⟨sB,dB,nB,kB⟩ (.slice bn 0 bb be 2 kB.length bc)))),
    (3,.one (.cells 48 [.str [],.str [],.int .i64 0,.nilsl])),(4,outE4 y.1.2.2.1 y.1.2.1),(5,gE 52 2 encZ y.1.2.2.1 y.1.2.1)]) 6 (fun y=>8 - y.1.1) ⟨(0,[],0,F1),l1,by omega,rfl,RowOf.nil⟩
   (fun hH hT=>leI [(5,5)] hH hT rfl ⟨tv,zar _ (.inr (by omega)),zar _ (.inr (by omega)),zar ⟨[],[],0,[]⟩ (sk:=.nilsl) trivial,hob 6 0 [] (by omega),zgn zcl (by omega) _ _ _ _,tv⟩ ⟨rfl,tv⟩ ⟨Fz.r F1,rfl,rfl,rfl,rfl,rfl,tv⟩) ?_
  rintro ⟨⟨k,o,co,G⟩,hG,hk,ho,hrow⟩ hH hT
  replace hG:Fz.le F G:=hG
  replace hk:k ≤ 8:=hk
  replace ho:o.length = k:=ho
  replace hrow:RowOf G f o:=hrow
  by_cases g:k < 8
  ·have gA:k < kA.length:=by omega
   have gB:k < kB.length:=by omega
   have gi:(k:Int) < (kA.length:Int):=by omega
   have gi':(k:Int) < (kB.length:Int):=by omega
   have hk1:k + 1 ≤ 8:=g
   have hdec:8 - (k + 1) < 8 - k:=by omega
   have hk62:k < 4611686018427387904:=by omega
   have hObt:=SlR.at a4 gA
   obtain ⟨y,hy,sx,rfl,hsx⟩:=hObt
   have hObt:=SlR.at b4 gB
   obtain ⟨z,hz,sy,rfl,hsy⟩:=hObt
   have hcall:=zql G sx sy (kA[k]'gA).2 (kB[k]'gB).2 (kA[k]'gA).1 (hsx.mono hG) (hsy.mono hG) (hsa _ (jj gA)) (hsb _ (jj gB))
   have hnA:=SlR.lt a1 gA
   have hnB:=SlR.lt b1 gB
   have hfk:=hf k gA gB
   have hsn:∀ (G2:Fz) (z:ZC),Fz.le G G2 → KpR G2 z.1 ((kA[k]'gA).1,(compR (kA[k]'gA).1 (kA[k]'gA).2 (kB[k]'gB).2).1) → RowOf G2 f (o ++ [z]):=fun G2 z hle hz=>(hrow.mono hle).snoc (by rw [ho,hfk]; exact hz)
   have hlen:∀ z:ZC,(o ++ [z]).length = k + 1:=fun z=>by rw [qa,ho]; rfl
   obtain ⟨hsxn,hsxb,hsxe,hsxc,hsxL,hsxr,rfl,hsx1,hsx2,hsx3,hsx4⟩:=hsx
   obtain ⟨hsyn,hsyb,hsye,hsyc,hsyL,hsyr,rfl,hsy1,hsy2,hsy3,hsy4⟩:=hsy
   rcases o with _ | ⟨o0,or'⟩
   ·conv=>whnf
    refine bri gi ?_;conv=>whnf
    refine ⟨hnA,⟨by simp,gi⟩,?_⟩;conv=>whnf
    refine ⟨_,hG _ _ (a2 hnA),?_⟩;conv=>whnf
    refine ⟨_,hy,?_⟩;conv=>whnf
    refine drawP hΘ mixed (lk [0,2,4,5,6,7,8,9] (.alt 1 (.alt 3 (.alt 10 (lk [11,12,13,14] (.alt 15 .done .nil)) .nil) .nil) (.alt 3 (.alt 1 (.alt 10 (lk [11,12,13,14] (.alt 15 .done .nil)) .nil) .nil) .nil))) [2] (by kernel_rfl) ?_;conv=>whnf
    refine ⟨rfl,?_⟩;conv=>whnf
    refine ⟨hnB,⟨by simp,gi'⟩,?_⟩;conv=>whnf
    refine ⟨rfl,?_⟩;conv=>whnf
    refine ⟨_,hG _ _ (b2 hnB),?_⟩;conv=>whnf
    refine ⟨_,hz,?_⟩;conv=>whnf
    refine ⟨?_,?_⟩
    all_goals
     conv=>whnf
     refine ⟨Fz.r G,rfl,?_⟩;conv=>whnf
     refine ⟨Fz.r G,rfl,?_⟩;conv=>whnf
     refine useFo hcall rfl (zaa _) rfl ?_
     rintro _ G2 l2 ⟨sc,rfl,hsc⟩
     have hsc':=hsc
     obtain ⟨hscn,hscb,hsce,hscc,hscL,hscr,rfl,hsc1,hsc2,hsc3,hsc4⟩:=hsc
     conv=>whnf
     refine ⟨l2,rfl,?_⟩;conv=>whnf
     refine ⟨Fz.r G2,rfl,?_⟩;conv=>whnf
     refine ⟨nb rfl,[[.int .i64 (kA[k]'gA).1,.slice hscn 0 hscb hsce 2 (compR (kA[k]'gA).1 (kA[k]'gA).2 (kB[k]'gB).2).1.length hscc]],rfl,?_⟩;conv=>whnf
     refine ⟨rfl,rfl,?_⟩;conv=>whnf
     refine ⟨by show 1 * 32 ≤ 140737488355328; omega,fun c' hc'=>?_⟩;conv=>whnf
     exact ⟨⟨(k + 1,[] ++ [mkZ (kA[k]'gA).1 (.slice hscn 0 hscb hsce 2 (compR (kA[k]'gA).1 (kA[k]'gA).2 (kB[k]'gB).2).1.length hscc) rfl],c',G2),Fz.t hG l2,hk1,hlen _,hsn G2 _ l2 ⟨_,rfl,hsc'⟩⟩,hdec,leR [(5,8)] hH hT rfl ⟨tv,zar _ (.inr (by omega)),zar _ (.inr (by omega)),zar ⟨[],[],0,[]⟩ (sk:=.nilsl) trivial,hob 6 c' _ (by omega),zgn zcl (by omega) _ _ _ _,tv⟩ ⟨cnt hk62,tv⟩ ⟨Fz.r G2,rfl,rfl,rfl,zrp (μ:=sig [(5,8)]) rfl rfl,zss (μ:=sig [(5,8)]) zcl (fun k=>rfl) (zcj _ (by rw [q5]; rfl)),tv⟩⟩
   ·have hsz:(or'.length + 1 + 1) * 32 ≤ 140737488355328:=by
     have h9:or'.length + 1 = k:=ho
     omega
    conv=>whnf
    refine bri gi ?_;conv=>whnf
    refine ⟨hnA,⟨by simp,gi⟩,?_⟩;conv=>whnf
    refine ⟨_,hG _ _ (a2 hnA),?_⟩;conv=>whnf
    refine ⟨_,hy,?_⟩;conv=>whnf
    refine drawP hΘ mixed (lk [0,2,4,5,6,7,8,9] (.alt 1 (.alt 3 (.alt 10 (lk [11,12,13,14] (.alt 15 .done .nil)) .nil) .nil) (.alt 3 (.alt 1 (.alt 10 (lk [11,12,13,14] (.alt 15 .done .nil)) .nil) .nil) .nil))) [2] (by kernel_rfl) ?_;conv=>whnf
    refine ⟨rfl,?_⟩;conv=>whnf
    refine ⟨hnB,⟨by simp,gi'⟩,?_⟩;conv=>whnf
    refine ⟨rfl,?_⟩;conv=>whnf
    refine ⟨_,hG _ _ (b2 hnB),?_⟩;conv=>whnf
    refine ⟨_,hz,?_⟩;conv=>whnf
    refine ⟨?_,?_⟩
    all_goals
     conv=>whnf
     refine ⟨Fz.r G,rfl,?_⟩;conv=>whnf
     refine ⟨Fz.r G,rfl,?_⟩;conv=>whnf
     refine useFo hcall rfl (zaa _) rfl ?_
     rintro _ G2 l2 ⟨sc,rfl,hsc⟩
     have hsc':=hsc
     obtain ⟨hscn,hscb,hsce,hscc,hscL,hscr,rfl,hsc1,hsc2,hsc3,hsc4⟩:=hsc
     conv=>whnf
     refine ⟨l2,rfl,?_⟩;conv=>whnf
     refine ⟨Fz.r G2,rfl,?_⟩;conv=>whnf
     refine ⟨nb rfl,[[.int .i64 (kA[k]'gA).1,.slice hscn 0 hscb hsce 2 (compR (kA[k]'gA).1 (kA[k]'gA).2 (kB[k]'gB).2).1.length hscc]],rfl,?_⟩;conv=>whnf
     refine ⟨rfl,rfl,by simp,rfl,hsz,fun c' hc'=>?_⟩;conv=>whnf
     exact ⟨⟨(k + 1,(o0 :: or') ++ [mkZ (kA[k]'gA).1 (.slice hscn 0 hscb hsce 2 (compR (kA[k]'gA).1 (kA[k]'gA).2 (kB[k]'gB).2).1.length hscc) rfl],c',G2),Fz.t hG l2,hk1,hlen _,hsn G2 _ l2 ⟨_,rfl,hsc'⟩⟩,hdec,leR [(5,8)] hH hT rfl ⟨tv,zar _ (.inr (by omega)),zar _ (.inr (by omega)),zar ⟨[],[],0,[]⟩ (sk:=.nilsl) trivial,hob 6 c' _ (by omega),zgn zcl (by omega) _ _ _ _,tv⟩ ⟨cnt hk62,tv⟩ ⟨Fz.r G2,rfl,rfl,rfl,zrp (μ:=sig [(5,8)]) rfl rfl,zss (μ:=sig [(5,8)]) zcl (fun k=>rfl) (zcj _ (by rw [q5]; rfl)),tv⟩⟩
  ·have hk8:k = 8:=by omega
   have ho8:o.length = 8:=ho.trans hk8
   have gi:¬ (k:Int) < (kA.length:Int):=by omega
   have hjl:(joinC ⟨sA,dA,nA,kA⟩ ⟨sB,dB,nB,kB⟩).cl.length = 8:=by
    show (List.zipWith zf0 kA kB).length = 8
    rw [qbh,ha8,h8]; rfl
   have hend:∀ (F':Fz) (b c n:Nat),Fz.le G F' → F' b = some (.arr 52 2 (o.map encZ) c) → n = 8 → ClsAt F' (.slice false 0 b 0 2 n c) (joinC ⟨sA,dA,nA,kA⟩ ⟨sB,dB,nB,kB⟩).cl:=fun F' b c n hle hb hn=>by
    have h:=(hrow.mono hle).sl (cap:=c) (l:=(joinC ⟨sA,dA,nA,kA⟩ ⟨sB,dB,nB,kB⟩).cl) hb (by rw [ho8,hjl]) fun i x hx=>by
     have hi:i < 8:=by have:=(qh.1 hx).1; rw [hjl] at this; exact this
     rw [hf i (by omega) (by omega)]
     replace hx:(List.zipWith zf0 kA kB)[i]? = some x:=hx
     rw [List.getElem?_zipWith,qc (show i < kA.length by omega),qc (show i < kB.length by omega)] at hx
     exact (Option.some.inj hx).symm
    rw [hjl] at h
    subst hn
    exact h
   rcases o with _ | ⟨o0,or'⟩
   ·cases ho8
   ·have hol:or'.length + 1 = 8:=ho8
    conv=>whnf
    refine brj gi ?_;conv=>whnf
    refine zbl 5 (fun _=>.arr 52 2 ((o0 :: or').map encZ) co) rfl rfl rfl (fun _ _=>by exact ziv (μ:=resP _) zcl (fun k=>rfl) rfl _ _ _) (fun _ _=>zfr zcl (by omega) _ _ _ _) ?_
    intro b' F' hle hb'
    refine endFo (.ret (.tup [.agg [.str sA,.str dB,.int .i64 (nA + nB),.slice false 0 (b' 0) 0 2 (or'.length + 1) co],.va .nilif])) F' rfl (Fz.t hG hle) (Fz.r F') (.inr ⟨hj,_,rfl,hend F' _ _ _ hle (hb' 0 ⟨rfl,rfl⟩) hol⟩) ?_ rfl
    exact ⟨(by show SC.agg [.str sA,.str dB,.int .i64 (nA + nB),.slice false 0 (b' 0) 0 2 (or'.length + 1) co] = SC.agg [.str sA,.str dB,.int .i64 (IntKind.i64.wrap (nA + nB)),.slice false 0 (b' 0) 0 2 (or'.length + 1) co]; rw [hw]),rfl,tv⟩
 ·have hj:zcw ⟨sA,dA,nA,kA⟩ ⟨sB,dB,nB,kB⟩ = false:=by rw [hok,g1',g2,decide_eq_false g3]; rfl
  conv=>whnf
  refine br (fun _=>?_) (fun g=>absurd (show (64:Int) < IntKind.i64.wrap (nA + nB) by rw [hw]; omega) (oe g));conv=>whnf
  exact fin F1 _ _ hj rfl l1
def CrtR (F:Fz) (y:List SA) (c:Crt):Prop:=∃ sk,y = crtS c sk ∧ ClsAt F sk c.cl
theorem CrtR.mono {F F':Fz} {y:List SA} {x:Crt} (h:CrtR F y x) (hle:Fz.le F F'):CrtR F' y x:=by
 obtain ⟨sk,h1,h2⟩:=h; exact ⟨sk,h1,KpsAt.up h2 hle⟩
abbrev zox (F:Fz) (a:SA) (l:List Crt):Prop:=SlR F 48 4 (CrtR F) a l
theorem zox.up {F F':Fz} {a:SA} {l:List Crt} (h:zox F a l) (hle:Fz.le F F'):zox F' a l:=SlR.mono h hle fun _ _ h=>h.mono hle
def foldS:Crt → List Crt → Option Crt
 |a,[]=>some a
 |a,b :: r=>if zcw a b = true then foldS (joinC a b) r else none
structure Acc (a:Crt):Prop where
 n:a.cl.length = 8
 l:0 ≤ a.len ∧ a.len ≤ 64
 s:short a.cl
theorem Acc.join {a b:Crt} (h:Acc a) (hj:zcw a b = true):Acc (joinC a b):=by
 simp only [zcw,qd,decide_eq_true_eq] at hj
 have h8:=(zeg hj.2.1).1
 have hl:=zkk hj.2.1
 refine ⟨?_,?_,?_⟩
 ·show (List.zipWith zf0 a.cl b.cl).length = 8
  rw [qbh,h.n,h8]; rfl
 ·have:=h.l
  show 0 ≤ a.len + b.len ∧ a.len + b.len ≤ 64
  omega
 ·intro x hx
  obtain ⟨i,hi,rfl⟩:=List.getElem_of_mem (show x ∈ List.zipWith zf0 a.cl b.cl from hx)
  rw [List.getElem_zipWith]
  show (compR _ _ _).1.length < _
  unfold compR
  split
  ·show (normS _).length < _
   have:=zns ((a.cl[i]'(by rw [qbh] at hi; omega)).2 ++ (b.cl[i]'(by rw [qbh] at hi; omega)).2)
   omega
  ·simp
theorem Acc.ok {a:Crt} (h:crtOk a = true) (hs:short a.cl):Acc a:=⟨(zeg h).1,by have:=zkk h; omega,hs⟩
theorem zzm (F:Fz) (sb se sc room:Nat) (L:List (List SA)) (c0:Crt) (r:List Crt) (hb:F sb = some (.arr 48 4 L room)) (hL:∀ (k:Nat) x,(c0 :: r)[k]? = some x → ∃ y,L[se + k]? = some y ∧ CrtR F y x) (hcap:r.length + 1 ≤ sc)
  (ha:Acc c0) (hs:∀ c ∈ r,short c.cl) (hl:∀ c ∈ r,c.cl.length < 1000000) (hr:r.length < 1000000) :
  Fo Tryz.prog F 69 [.va (.slice false 0 sb se 4 (r.length + 1) sc),.va (.fn (.func 70) [])] (fun o F'=>
   (foldS c0 r = none ∧ ∃ x y n,o = .ret (.tup [.agg [.str x,.str y,.int .i64 n,.nilsl],.va badE])) ∨
   (∃ c,foldS c0 r = some c ∧ ∃ sk,o = .ret (.tup [.agg (crtS c sk),.va .nilif]) ∧ ClsAt F' sk c.cl)):=by
 have h0:=hL 0 c0 rfl
 obtain ⟨y0,hy0,sk0,rfl,hk0⟩:=h0
 have hk0':=hk0
 obtain ⟨kn,kb,ke,kc,kL,kr,rfl,k1,k2,k3,k4⟩:=hk0
 refine fo_of hΘ Tryz.func69 rfl (by decide) _ _ rfl rfl rfl ?_;conv=>whnf
 refine ⟨rfl,⟨by simp,by simp⟩,?_⟩;conv=>whnf
 refine ⟨_,hb,?_⟩;conv=>whnf
 refine ⟨_,hy0,?_⟩;conv=>whnf
 refine ⟨⟨by decide,by omega⟩,?_⟩;conv=>whnf
 refine zan hΘ (X:={ x:Nat × Crt × (Bool × Nat × Nat × Nat) × Fz // Fz.le F x.2.2.2 ∧ x.1 ≤ r.length ∧ foldS c0 r = foldS x.2.1 (r.drop x.1) ∧ Acc x.2.1 ∧ ClsAt x.2.2.2 (.slice x.2.2.1.1 0 x.2.2.1.2.1 x.2.2.1.2.2.1 2 x.2.1.cl.length x.2.2.1.2.2.2) x.2.1.cl }) (fun x=>[(7,.va .nilif),(16,.va (.int .i64 x.1.1))]) [9,17,18,19,20,21,22,23,24,25,26,27,28,29]
  (fun x=>[(0,.frz x.1.2.2.2),(1,.one (.cells 48 [.str [],.str [],.int .i64 0,.nilsl])),(2,.one (.cells 48 (crtS x.1.2.1 (.slice x.1.2.2.1.1 0 x.1.2.2.1.2.1 x.1.2.2.1.2.2.1 2 x.1.2.1.cl.length x.1.2.2.1.2.2.2))))]) 3 (fun x=>r.length - x.1.1) ⟨(0,c0,(kn,kb,ke,kc),F),Fz.r F,by simp,rfl,ha,hk0'⟩
  (fun hH hT=>leI [] hH hT rfl ⟨tv,zar ⟨[],[],0,[]⟩ (sk:=.nilsl) trivial,zar _ (.inr (by omega)),tv⟩ ⟨rfl,rfl,tv⟩ ⟨Fz.r F,rfl,rfl,tv⟩) ?_
 rintro ⟨⟨k,a,⟨nl,b,e,c⟩,G⟩,hG,hkr,hp,hacc,hka⟩ hH hT
 replace hG:Fz.le F G:=hG
 replace hkr:k ≤ r.length:=hkr
 replace hp:foldS c0 r = foldS a (r.drop k):=hp
 replace hacc:Acc a:=hacc
 replace hka:ClsAt G (.slice nl 0 b e 2 a.cl.length c) a.cl:=hka
 by_cases g:k < r.length
 ·have gi:(k:Int) < ((r.length + 1 - 1:Nat):Int):=by omega
  have hkk:(c0 :: r)[k + 1]? = some (r[k]'g):=by rw [qbm,qc g]
  have hObt:=hL (k + 1) (r[k]'g) hkk
  obtain ⟨y,hy,sk,rfl,hsk⟩:=hObt
  have hmem:=jj g
  have hcall:=zzn G _ sk a (r[k]'g) hka (KpsAt.up hsk hG) hacc.n (by have:=hacc.l; omega) hacc.s (hs _ hmem) (hl _ hmem)
  have hdec:r.length - (k + 1) < r.length - k:=by omega
  have hk62:k < 4611686018427387904:=by omega
  have hpd:foldS c0 r = if zcw a (r[k]'g) = true then foldS (joinC a (r[k]'g)) (r.drop (k + 1)) else none:=by
   rw [hp,qv g]; rfl
  have hyk:L[(if sc = Int.toNat 1 then se else se + Int.toNat 1) + ((k:Nat):Int).toNat]? = some (crtS (r[k]'g) sk):=by
   rw [if_neg (by show ¬ sc = 1; omega),show se + Int.toNat 1 + ((k:Nat):Int).toNat = se + (k + 1) by show se + 1 + k = se + (k + 1); omega]
   exact hy
  obtain ⟨mn,mb,me,mc,mL,mr,rfl,m1,m2,m3,m4⟩:=hsk
  conv=>whnf
  refine bri gi ?_;conv=>whnf
  refine ⟨rfl,⟨by simp,gi⟩,?_⟩;conv=>whnf
  refine ⟨_,hG _ _ hb,?_⟩;conv=>whnf
  refine ⟨_,hyk,?_⟩;conv=>whnf
  refine useFo hcall rfl (zaa _) rfl ?_
  rintro _ G2 l2 (⟨hj,rfl⟩ | ⟨hj,sj,rfl,hcj⟩)
  ·have hn:foldS c0 r = none:=by rw [hpd,if_neg (by rw [hj]; simp)]
   conv=>whnf
   exact endFo (.ret (.tup [.agg [.str a.src,.str (r[k]'g).dst,.int .i64 (IntKind.i64.wrap (a.len + (r[k]'g).len)),.nilsl],.va badE])) G2 rfl (Fz.t hG l2) (Fz.r G2) (.inl ⟨hn,_,_,_,rfl⟩) (zaj _) rfl
  ·have hpj:foldS c0 r = foldS (joinC a (r[k]'g)) (r.drop (k + 1)):=by rw [hpd,if_pos hj]
   have haj:=hacc.join hj
   have hcj':=hcj
   obtain ⟨jn,jb,je,jc,jL,jr,rfl,j1,j2,j3,j4⟩:=hcj
   conv=>whnf
   exact ⟨⟨(k + 1,joinC a (r[k]'g),(jn,jb,je,jc),G2),Fz.t hG l2,g,hpj,haj,hcj'⟩,hdec,leR [] hH hT rfl ⟨tv,zar ⟨[],[],0,[]⟩ (sk:=.nilsl) trivial,zar _ (.inr (by omega)),tv⟩ ⟨rfl,cnt hk62,tv⟩ ⟨Fz.r G2,rfl,rfl,tv⟩⟩
 ·have gi:¬ (k:Int) < ((r.length + 1 - 1:Nat):Int):=by omega
  have hpe:foldS c0 r = some a:=by rw [hp,jq (by omega)]; rfl
  conv=>whnf
  refine brj gi ?_;conv=>whnf
  exact endFo (.ret (.tup [.agg (crtS a (.slice nl 0 b e 2 a.cl.length c)),.va .nilif])) G rfl hG (Fz.r G) (.inr ⟨_,hpe,_,rfl,hka⟩) (zaj _) rfl
end Go.Proofs.YtfnkamphhpldcaaGreatDoor
