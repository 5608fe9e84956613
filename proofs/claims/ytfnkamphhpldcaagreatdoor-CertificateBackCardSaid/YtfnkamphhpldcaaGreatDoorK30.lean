import Derived.Test.YtfnkamphhpldcaaGreatDoorK29
import Derived.Test.YtfnkamphhpldcaaGreatDoorK25
import Derived.Test.YtfnkamphhpldcaaGreatDoorK26
import Derived.Test.YtfnkamphhpldcaaGreatDoorK24
set_option maxHeartbeats 64000000
namespace Go.Proofs.YtfnkamphhpldcaaGreatDoor
open Go Sx
set_option maxRecDepth 100000
theorem z4y (hP:PFun) (F:Fz) (an:Bool) (ab ae ac:Nat) (bn:Bool) (bb be bc:Nat) (d:Dc) (ha:Sl F 148 2 encN (.slice an 0 ab ae 2 d.lines.length ac) d.lines) (hb:Sl F 151 6 encK (.slice bn 0 bb be 6 d.cells.length bc) d.cells)
  (hl:d.lines.length ≤ 1000) (hc:d.cells.length ≤ 1000) (hs:d.bits.length ≤ 70000) (hcap:d.cells.length ≤ bc) (p:Int) (hp:1 ≤ p ∧ p ≤ 8) :
  Fo Tryz.prog F 48 [.agg (docS (.slice an 0 ab ae 2 d.lines.length ac) (.slice bn 0 bb be 6 d.cells.length bc) d.w d.bits),.va (.int .i64 p)] (fun o F'=>o = pAns p d):=by
 have h8:p = 1 ∨ p = 2 ∨ p = 3 ∨ p = 4 ∨ p = 5 ∨ p = 6 ∨ p = 7 ∨ p = 8:=by omega
 rcases h8 with rfl | rfl | rfl | rfl | rfl | rfl | rfl | rfl
 ·exact z1n hP F an ab ae ac bn bb be bc d ha hb hl hc hs hcap
 ·exact z0x hP F an ab ae ac bn bb be bc d ha hb hl hc hs hcap
 ·exact zyw hP F an ab ae ac bn bb be bc d ha hb hl hc hs hcap
 ·exact z0l hP F an ab ae ac bn bb be bc d ha hb hl hc hs hcap
 ·exact z10 hP F an ab ae ac bn bb be bc d ha hb hl hc hs hcap
 ·exact z0s hP F an ab ae ac bn bb be bc d ha hb hl hc hs hcap
 ·exact zyg hP F an ab ae ac bn bb be bc d ha hb hl hc hs hcap
 ·exact zxq hP F an ab ae ac bn bb be bc d ha hb hl hc hs hcap
def allB (d:Dc):List (List UInt8):=(List.range 8).map fun k:Nat=>propB ((k:Int) + 1) d
theorem zc5 (d:Dc):(allB d).length = 8:=by simp [allB]
theorem zr4 (d:Dc) (k:Nat) (h:k < 8):(allB d)[k]? = some (propB ((k:Int) + 1) d):=by simp [allB,h]
theorem zex {n:Nat} {a b:SA} {w:Int} {s:List UInt8} (ha:a.below n) (hb:b.below n):(Ent.one (.cells 41 (docS a b w s))).below n:=zb7 (w:=w) (s:=s) ha hb
theorem zdx:Plain encS:=fun x=>⟨fun μ=>rfl,fun a ha=>by simp only [encS,qy] at ha; subst ha; trivial⟩
abbrev z19 (a b:SA) (w:Int) (s:List UInt8):Ent:=.one (.cells 41 (docS a b w s))
theorem z8j (hP:PFun) (F:Fz) (an:Bool) (ab ae ac:Nat) (bn:Bool) (bb be bc:Nat) (d:Dc) (ha:Sl F 148 2 encN (.slice an 0 ab ae 2 d.lines.length ac) d.lines) (hb:Sl F 151 6 encK (.slice bn 0 bb be 6 d.cells.length bc) d.cells)
  (hl:d.lines.length ≤ 1000) (hc:d.cells.length ≤ 1000) (hs:d.bits.length ≤ 70000) (hcap:d.cells.length ≤ bc) :
  Fo Tryz.prog F 14 [.agg (docS (.slice an 0 ab ae 2 d.lines.length ac) (.slice bn 0 bb be 6 d.cells.length bc) d.w d.bits)] (fun o F'=>(docOk d = false ∧ o = .ret (.tup [.va .nilsl,.va (.int .i64 60)])) ∨
   (docOk d = true ∧ ∃ b c,o = .ret (.tup [.va (.slice false 0 b 0 1 8 c),.va (.int .i64 0)]) ∧ F' b = some (.arr 9 1 ((allB d).map encS) c))):=by
 have hpr:=fun F1 (l1:Fz.le F F1)=>z4y hP F1 an ab ae ac bn bb be bc d (ha.mono l1) (hb.mono l1) hl hc hs hcap
 have hpt:=fun p=>zhs (p:=p) (d:=d)
 have hpf:=fun p=>zhn (p:=p) (d:=d)
 have hgl:=zc5 d
 have hgt:=zr4 d
 obtain ⟨A,hA⟩:∃ A,allB d = A:=⟨_,rfl⟩
 rw [hA] at hgl hgt ⊢
 clear hA ha hb hl hc hs hcap
 obtain ⟨L,K,w,s⟩:=d
 obtain ⟨v,hv⟩:∃ v,docOk ⟨L,K,w,s⟩ = v:=⟨_,rfl⟩
 rw [hv] at hpt hpf ⊢
 clear hv
 rcases v with _ | _
 ·have hcall:=hpr F (Fz.r F) 1 (by omega)
  rw [hpf 1 rfl] at hcall
  refine fo_of hΘ Tryz.func14 rfl (by decide) _ _ rfl rfl rfl ?_;conv=>whnf
  refine zan hΘ (X:={ k:Nat // k = 0 }) (fun k=>[(4,.va .nilsl),(8,.va (.int .i64 k.1))]) [2,3,5,6,7,9,10,11,12,13,14,15,16,17,18,19,20,21,22,23,24,25]
   (fun y=>[(0,.frz F),(1,z19 (.slice an 0 ab ae 2 L.length ac) (.slice bn 0 bb be 6 K.length bc) w s)]) 2 (fun k=>0) ⟨0,rfl⟩
   (fun hH hT=>leI [] hH hT rfl ⟨tv,zex (.inr (by omega)) (.inr (by omega)),tv⟩ ⟨rfl,rfl,tv⟩ ⟨Fz.r F,rfl,tv⟩) ?_
  rintro ⟨k,rfl⟩ hH hT;conv=>whnf
  refine br (fun _=>?_) (fun g2=>absurd g2 (by decide));conv=>whnf
  refine useFo hcall rfl (zaa _) rfl ?_
  rintro _ F1 l1 rfl;conv=>whnf
  refine br (fun _=>?_) (fun g2=>absurd g2 (by decide));conv=>whnf
  exact endFo (.ret (.tup [.va .nilsl,.va (.int .i64 60)])) F1 rfl l1 (Fz.r F1) (.inl ⟨rfl,rfl⟩) (zaj _) rfl
 ·refine fo_of hΘ Tryz.func14 rfl (by decide) _ _ rfl rfl rfl ?_;conv=>whnf
  refine zan hΘ (X:={ y:Nat × List (List UInt8) × Nat × Fz // Fz.le F y.2.2.2 ∧ y.1 ≤ 8 ∧ y.2.1 = A.take y.1 }) (fun y=>[(4,.va (gA 1 2 y.1.2.2.1 y.1.2.1)),(8,.va (.int .i64 y.1.1))]) [2,3,5,6,7,9,10,11,12,13,14,15,16,17,18,19,20,21,22,23,24,25]
   (fun y=>[(0,.frz y.1.2.2.2),(1,z19 (.slice an 0 ab ae 2 L.length ac) (.slice bn 0 bb be 6 K.length bc) w s),(2,gE 9 1 encS y.1.2.2.1 y.1.2.1)]) 3 (fun y=>8 - y.1.1) ⟨(0,[],0,F),Fz.r F,by omega,by simp⟩
   (fun hH hT=>leI [(2,2)] hH hT rfl ⟨tv,zex (.inr (by omega)) (.inr (by omega)),zai zdx _ _ _ _ _,tv⟩ ⟨rfl,rfl,tv⟩ ⟨Fz.r F,rfl,rfl,tv⟩) ?_
  rintro ⟨⟨k,o,co,G⟩,hG,hk,ho⟩ hH hT
  replace hG:Fz.le F G:=hG
  replace hk:k ≤ 8:=hk
  replace ho:o = A.take k:=ho
  by_cases g:k < 8
  ·have hlt:(k:Int) < 8:=by omega
   have hk1:k + 1 ≤ 8:=g
   have hdec:8 - (k + 1) < 8 - k:=by omega
   have hk62:k < 4611686018427387904:=by omega
   have hw:SA.int .i64 ((k:Int) + 1) = SA.int .i64 (IntKind.i64.wrap ((k:Int) + 1)):=cnt hk62
   have hxt:∃ t,propB ((k:Int) + 1) ⟨L,K,w,s⟩ = t:=⟨_,rfl⟩
   obtain ⟨t,ht⟩:=hxt
   have hcall:=hpr G hG ((k:Int) + 1) (by omega)
   rw [hpt ((k:Int) + 1) rfl,ht] at hcall
   have hnx:o ++ [t] = A.take (k + 1):=by
    have hkA:k < A.length:=by omega
    rw [qi hkA,ho]
    have:=hgt k g
    rw [qc hkA,ht] at this
    rw [Option.some.inj this]
   have hol:o.length = k:=by rw [ho,qn]; omega
   clear ht ho
   rcases o with _ | ⟨o0,or'⟩
   ·conv=>whnf
    refine bri hlt ?_;conv=>whnf
    refine useFo hcall rfl ⟨rfl,hw,tv⟩ rfl ?_
    rintro _ G2 l2 rfl;conv=>whnf
    refine br (fun g2=>absurd g2 (by decide)) (fun _=>?_);conv=>whnf
    refine ⟨nb rfl,[encS t],rfl,?_⟩;conv=>whnf
    refine ⟨rfl,rfl,?_⟩;conv=>whnf
    refine ⟨by show 1 * 16 ≤ 140737488355328; omega,fun c' hc'=>?_⟩;conv=>whnf
    exact ⟨⟨(k + 1,[] ++ [t],c',G2),Fz.t hG l2,hk1,hnx⟩,hdec,leR [(2,4)] hH hT rfl ⟨tv,zex (.inr (by omega)) (.inr (by omega)),zai zdx _ _ _ _ _,tv⟩ ⟨by (conv=>whnf); exact ⟨rfl,rfl,rfl,.inr ⟨rfl,rfl,rfl,rfl⟩⟩,cnt hk62,tv⟩ ⟨Fz.r G2,rfl,zav zdx (zcj _ (by simp)),tv⟩⟩
   ·have hsz:(or'.length + 1 + 1) * 16 ≤ 140737488355328:=by
     have h9:or'.length + 1 = k:=hol
     omega
    conv=>whnf
    refine bri hlt ?_;conv=>whnf
    refine useFo hcall rfl ⟨rfl,hw,tv⟩ rfl ?_
    rintro _ G2 l2 rfl;conv=>whnf
    refine br (fun g2=>absurd g2 (by decide)) (fun _=>?_);conv=>whnf
    refine ⟨nb rfl,[encS t],rfl,?_⟩;conv=>whnf
    refine ⟨rfl,rfl,by simp,rfl,hsz,fun c' hc'=>?_⟩;conv=>whnf
    exact ⟨⟨(k + 1,(o0 :: or') ++ [t],c',G2),Fz.t hG l2,hk1,hnx⟩,hdec,leR [(2,4)] hH hT rfl ⟨tv,zex (.inr (by omega)) (.inr (by omega)),zai zdx _ _ _ _ _,tv⟩ ⟨zq1 (μ:=sig [(2,4)]) (i:=2) (j:=4) rfl 1 c' _ (o0 :: or') t rfl,cnt hk62,tv⟩ ⟨Fz.r G2,rfl,zav zdx (zcj _ (by simp)),tv⟩⟩
  ·have hlt:¬ (k:Int) < 8:=by omega
   have hk8:k = 8:=by omega
   have hoA:o = A:=by rw [ho,hk8,qm (by omega)]
   rcases o with _ | ⟨o0,or'⟩
   ·rw [← hoA] at hgl; cases hgl
   ·have hol:or'.length + 1 = 8:=by rw [← hoA] at hgl; exact hgl
    conv=>whnf
    refine brj hlt ?_;conv=>whnf
    refine zbl 2 (fun _=>.arr 9 1 ((o0 :: or').map encS) co) rfl rfl rfl (fun _ _=>by exact zcx zdx rfl _ _ _ _) (fun _ _=>zbk zdx _ _ _ _ _) ?_
    intro b' F' hle hb'
    refine endFo (.ret (.tup [.va (.slice false 0 (b' 0) 0 1 8 co),.va (.int .i64 0)])) F' rfl (Fz.t hG hle) (Fz.r F') (.inr ⟨rfl,_,_,rfl,by rw [← hoA]; exact hb' 0 ⟨rfl,rfl⟩⟩) ?_ rfl
    exact ⟨⟨rfl,hol.symm,rfl,.inr ⟨rfl,rfl,rfl,rfl⟩⟩,rfl,tv⟩
def DocAt (F:Fz) (a b:SA) (d:Dc):Prop:=
 ∃ (an:Bool) (ab ae ac:Nat) (bn:Bool) (bb be bc:Nat),a = .slice an 0 ab ae 2 d.lines.length ac ∧ b = .slice bn 0 bb be 6 d.cells.length bc ∧ Sl F 148 2 encN a d.lines ∧ Sl F 151 6 encK b d.cells ∧ d.cells.length ≤ bc
theorem DocAt.mono {F F':Fz} {a b:SA} {d:Dc} (h:DocAt F a b d) (hle:Fz.le F F'):DocAt F' a b d:=by
 obtain ⟨an,ab,ae,ac,bn,bb,be,bc,h1,h2,h3,h4,h5⟩:=h
 exact ⟨an,ab,ae,ac,bn,bb,be,bc,h1,h2,h3.mono hle,h4.mono hle,h5⟩
structure DcSmall (d:Dc):Prop where
 l:d.lines.length ≤ 1000
 c:d.cells.length ≤ 1000
 b:d.bits.length ≤ 70000
theorem zpt (F:Fz) (a b:SA) (d:Dc) (h:DocAt F a b d) (hs:DcSmall d) :
  Fo Tryz.prog F 14 [.agg (docS a b d.w d.bits)] (fun o F'=>(docOk d = false ∧ o = .ret (.tup [.va .nilsl,.va (.int .i64 60)])) ∨
   (docOk d = true ∧ ∃ b c,o = .ret (.tup [.va (.slice false 0 b 0 1 8 c),.va (.int .i64 0)]) ∧ F' b = some (.arr 9 1 ((allB d).map encS) c))):=by
 obtain ⟨an,ab,ae,ac,bn,bb,be,bc,rfl,rfl,h3,h4,h5⟩:=h
 exact z8j pfun F an ab ae ac bn bb be bc d h3 h4 hs.l hs.c hs.b h5
theorem zdc {d:Dc} (hd:docOk d = true):∀ s ∈ allB d,s.length ≤ 900000000000:=by
 intro s hs
 obtain ⟨k,hk,rfl⟩:=q9.1 hs
 have hk8:k < 8:=qce.1 hk
 have hp:1 ≤ (k:Int) + 1 ∧ (k:Int) + 1 ≤ 8:=by omega
 show (propB ((k:Int) + 1) d).length ≤ _
 rw [zqv hp]
 have:=ztm (p:=(k:Int) + 1) (zwn hp (zod hp hd))
 omega
theorem zl2 {F:Fz} {b c:Nat} {d:Dc} (h:F b = some (.arr 9 1 ((allB d).map encS) c)):Sl F 9 1 encS (.slice false 0 b 0 1 8 c) (allB d):=by
 have:=Sl.new (enc:=encS) (cap:=c) h
 rw [zc5] at this
 exact this
theorem zoo {ks:List Kp} (hs:short ks) (p:Int):(zb5 ks p).length < 1000000:=by
 unfold zb5
 split
 ·decide
 ·split
  ·exact zj5 hs _
  ·exact zj5 hs _
theorem zea {ks:List Kp} (hs:short ks):short (zbq ks):=by
 intro x hx
 obtain ⟨k,_,rfl⟩:=q9.1 hx
 exact zoo hs _
def makeC (m:Mig) (d e:Dc):Crt:=⟨root8 (allB d),root8 (allB e),1,zbq m.keep⟩
def zdn (m:Mig) (d e:Dc):Bool:=migOk m && (docOk d && (docOk e && zcf (makeC m d e) (allB d) (allB e)))
theorem zmj (F:Fz) (hM:MLF F) (hR:RNDF F) (sk a1 b1 a2 b2:SA) (m:Mig) (d e:Dc) (hk:KpsAt F sk m.keep) (hs:short m.keep) (hl:m.keep.length < 1000000) (hd:DocAt F a1 b1 d) (he:DocAt F a2 b2 e) (hd1:DcSmall d) (he1:DcSmall e) :
  Fo Tryz.prog F 21 [.agg (migS m sk),.agg (docS a1 b1 d.w d.bits),.agg (docS a2 b2 e.w e.bits)] (fun o F'=>
   (zdn m d e = false ∧ o = .ret (.tup [.agg [.str [],.str [],.int .i64 0,.nilsl],.va (.int .i64 100)])) ∨
   (zdn m d e = true ∧ ∃ sc,o = .ret (.tup [.agg (crtS (makeC m d e) sc),.va (.int .i64 0)]) ∧ ClsAt F' sc (zbq m.keep))):=by
 have hclaims:=zvz F sk m hk hs hl
 have hall1:=fun F1 (l1:Fz.le F F1)=>zpt F1 a1 b1 d (hd.mono l1) hd1
 have hall2:=fun F1 (l1:Fz.le F F1)=>zpt F1 a2 b2 e (he.mono l1) he1
 obtain ⟨id,src,dst,back,ks⟩:=m
 obtain ⟨kn,kb,ke,kc,kL,kr,rfl,k1,k2,k3,k4⟩:=hk
 obtain ⟨an1,ab1,ae1,ac1,bn1,bb1,be1,bc1,rfl,rfl,-,-,-⟩:=hd
 obtain ⟨an2,ab2,ae2,ac2,bn2,bb2,be2,bc2,rfl,rfl,-,-,-⟩:=he
 refine fo_of hΘ Tryz.func21 rfl (by decide) _ _ rfl rfl rfl ?_;conv=>whnf
 refine useFo hclaims rfl (zaa _) rfl ?_
 rintro _ F1 l1 (⟨hm,rfl⟩ | ⟨hm,b,c,rfl,hcl⟩)
 ·conv=>whnf
  refine useFo (hall1 F1 l1) rfl (zaa _) rfl ?_
  rintro _ F2 l2 (⟨hd,rfl⟩ | ⟨hd,b2,c2,rfl,hA⟩)
  ·conv=>whnf
   refine useFo (hall2 F2 (Fz.t l1 l2)) rfl (zaa _) rfl ?_
   rintro _ F3 l3 (⟨he,rfl⟩ | ⟨he,b3,c3,rfl,hB⟩)
   ·conv=>whnf
    repeat
     first
      |refine gaf (by decide) ?_
       conv=>whnf
      |refine gae (by decide) ?_
       conv=>whnf
      |refine brd (by decide) ?_
       conv=>whnf
      |refine bre (by decide) ?_
       conv=>whnf
    exact endFo (.ret (.tup [.agg [.str [],.str [],.int .i64 0,.nilsl],.va (.int .i64 100)])) F3 rfl (Fz.t l1 (Fz.t l2 l3)) (Fz.r F3) (.inl ⟨by simp only [zdn,hm,hd,he,qt,jp],rfl⟩) (zaj _) rfl
   ·conv=>whnf
    repeat
     first
      |refine gaf (by decide) ?_
       conv=>whnf
      |refine gae (by decide) ?_
       conv=>whnf
      |refine brd (by decide) ?_
       conv=>whnf
      |refine bre (by decide) ?_
       conv=>whnf
    exact endFo (.ret (.tup [.agg [.str [],.str [],.int .i64 0,.nilsl],.va (.int .i64 100)])) F3 rfl (Fz.t l1 (Fz.t l2 l3)) (Fz.r F3) (.inl ⟨by simp only [zdn,hm,hd,he,qt,jp],rfl⟩) (zaj _) rfl
  ·conv=>whnf
   refine useFo (hall2 F2 (Fz.t l1 l2)) rfl (zaa _) rfl ?_
   rintro _ F3 l3 (⟨he,rfl⟩ | ⟨he,b3,c3,rfl,hB⟩)
   ·conv=>whnf
    repeat
     first
      |refine gaf (by decide) ?_
       conv=>whnf
      |refine gae (by decide) ?_
       conv=>whnf
      |refine brd (by decide) ?_
       conv=>whnf
      |refine bre (by decide) ?_
       conv=>whnf
    exact endFo (.ret (.tup [.agg [.str [],.str [],.int .i64 0,.nilsl],.va (.int .i64 100)])) F3 rfl (Fz.t l1 (Fz.t l2 l3)) (Fz.r F3) (.inl ⟨by simp only [zdn,hm,hd,he,qt,jp],rfl⟩) (zaj _) rfl
   ·conv=>whnf
    repeat
     first
      |refine gaf (by decide) ?_
       conv=>whnf
      |refine gae (by decide) ?_
       conv=>whnf
      |refine brd (by decide) ?_
       conv=>whnf
      |refine bre (by decide) ?_
       conv=>whnf
    exact endFo (.ret (.tup [.agg [.str [],.str [],.int .i64 0,.nilsl],.va (.int .i64 100)])) F3 rfl (Fz.t l1 (Fz.t l2 l3)) (Fz.r F3) (.inl ⟨by simp only [zdn,hm,hd,he,qt,jp],rfl⟩) (zaj _) rfl
 ·conv=>whnf
  refine useFo (hall1 F1 l1) rfl (zaa _) rfl ?_
  rintro _ F2 l2 (⟨hd,rfl⟩ | ⟨hd,b2,c2,rfl,hA⟩)
  ·conv=>whnf
   refine useFo (hall2 F2 (Fz.t l1 l2)) rfl (zaa _) rfl ?_
   rintro _ F3 l3 (⟨he,rfl⟩ | ⟨he,b3,c3,rfl,hB⟩)
   ·conv=>whnf
    repeat
     first
      |refine gaf (by decide) ?_
       conv=>whnf
      |refine gae (by decide) ?_
       conv=>whnf
      |refine brd (by decide) ?_
       conv=>whnf
      |refine bre (by decide) ?_
       conv=>whnf
    exact endFo (.ret (.tup [.agg [.str [],.str [],.int .i64 0,.nilsl],.va (.int .i64 100)])) F3 rfl (Fz.t l1 (Fz.t l2 l3)) (Fz.r F3) (.inl ⟨by simp only [zdn,hm,hd,he,qt,jp],rfl⟩) (zaj _) rfl
   ·conv=>whnf
    repeat
     first
      |refine gaf (by decide) ?_
       conv=>whnf
      |refine gae (by decide) ?_
       conv=>whnf
      |refine brd (by decide) ?_
       conv=>whnf
      |refine bre (by decide) ?_
       conv=>whnf
    exact endFo (.ret (.tup [.agg [.str [],.str [],.int .i64 0,.nilsl],.va (.int .i64 100)])) F3 rfl (Fz.t l1 (Fz.t l2 l3)) (Fz.r F3) (.inl ⟨by simp only [zdn,hm,hd,he,qt,jp],rfl⟩) (zaj _) rfl
  ·conv=>whnf
   refine useFo (hall2 F2 (Fz.t l1 l2)) rfl (zaa _) rfl ?_
   rintro _ F3 l3 (⟨he,rfl⟩ | ⟨he,b3,c3,rfl,hB⟩)
   ·conv=>whnf
    repeat
     first
      |refine gaf (by decide) ?_
       conv=>whnf
      |refine gae (by decide) ?_
       conv=>whnf
      |refine brd (by decide) ?_
       conv=>whnf
      |refine bre (by decide) ?_
       conv=>whnf
    exact endFo (.ret (.tup [.agg [.str [],.str [],.int .i64 0,.nilsl],.va (.int .i64 100)])) F3 rfl (Fz.t l1 (Fz.t l2 l3)) (Fz.r F3) (.inl ⟨by simp only [zdn,hm,hd,he,qt,jp],rfl⟩) (zaj _) rfl
   ·conv=>whnf
    repeat
     first
      |refine gaf (by decide) ?_
       conv=>whnf
      |refine gae (by decide) ?_
       conv=>whnf
      |refine brd (by decide) ?_
       conv=>whnf
      |refine bre (by decide) ?_
       conv=>whnf
    refine useFo (ziy F3 (hR.mono (Fz.t l1 (Fz.t l2 l3))) _ (allB d) (zl2 (l3 _ _ hA)) (zc5 d) (zdc hd)) rfl (zaa _) rfl ?_
    rintro _ F4 l4 rfl
    have m4:=Fz.t l1 (Fz.t l2 (Fz.t l3 l4))
    conv=>whnf
    refine useFo (ziy F4 (hR.mono m4) _ (allB e) (zl2 (l4 _ _ hB)) (zc5 e) (zdc he)) rfl (zaa _) rfl ?_
    rintro _ F5 l5 rfl
    have m5:=Fz.t m4 l5
    have h5:=KpsAt.up hcl (Fz.t l2 (Fz.t l3 (Fz.t l4 l5)))
    have hck:=zmd F5 (hM.mono m5) (hR.mono m5) _ _ _ (makeC ⟨id,src,dst,back,ks⟩ d e) (allB d) (allB e) h5 (zea hs) (by show (zbq ks).length < _; rw [zc8]; decide) (zl2 (l5 _ _ (l4 _ _ (l3 _ _ hA)))) (zl2 (l5 _ _ (l4 _ _ hB))) (zdc hd) (zdc he)
    have hvc:zcf (makeC ⟨id,src,dst,back,ks⟩ d e) (allB d) (allB e) = true ∨ zcf (makeC ⟨id,src,dst,back,ks⟩ d e) (allB d) (allB e) = false:=by
     cases zcf (makeC ⟨id,src,dst,back,ks⟩ d e) (allB d) (allB e)
     ·exact .inr rfl
     ·exact .inl rfl
    refine Or.elim hvc (fun hv=>?_) (fun hv=>?_)
    ·rw [hv] at hck
     conv=>whnf
     refine useFo hck rfl (zaa _) rfl ?_
     rintro _ F6 l6 rfl;conv=>whnf
     refine brd (by decide) ?_;conv=>whnf
     exact endFo (.ret (.tup [.agg [.str (root8 (allB d)),.str (root8 (allB e)),.int .i64 1,.slice false 0 b 0 2 8 c],.va (.int .i64 0)])) F6 rfl (Fz.t m5 l6) (Fz.r F6) (.inr ⟨by simp only [zdn,hm,hd,he,hv,y5],_,rfl,KpsAt.up h5 l6⟩) (zaj _) rfl
    ·rw [hv] at hck
     conv=>whnf
     refine useFo hck rfl (zaa _) rfl ?_
     rintro _ F6 l6 rfl;conv=>whnf
     refine bre (by decide) ?_;conv=>whnf
     exact endFo (.ret (.tup [.agg [.str [],.str [],.int .i64 0,.nilsl],.va (.int .i64 100)])) F6 rfl (Fz.t m5 l6) (Fz.r F6) (.inl ⟨by simp only [zdn,hm,hd,he,hv,y5],rfl⟩) (zaj _) rfl
end Go.Proofs.YtfnkamphhpldcaaGreatDoor
namespace Sx
open Go Go.RowKit
section
variable {P:Program} {Θ:Tys} {C:Ctx} {ρ:Rho} {st:St} {a:Act} {w:World} {Q:SE → St → Prop}
theorem z2g {x y:Code} (h:WP P x st fun e st'=>(match e with
  |.normal=>WP P y st' Q
  |.ret=>Q .ret st'
  |.exit id=>Q (.exit id) st'
  |.panic v=>Q (.panic v) st')):WP P (.seq x y) st Q:=by
 unfold WP at h ⊢
 intro C ρ a w D
 refine wp_seq (wp_mono (h C ρ a w D) ?_)
 rintro e a' w' ⟨se,st',ρ',hq,rfl,D'⟩
 cases se with
 |normal=>exact hq C ρ' a' w' D'
 |ret=>exact ⟨.ret,st',ρ',hq,rfl,D'⟩
 |exit id=>exact ⟨.exit id,st',ρ',hq,rfl,D'⟩
 |panic v=>exact ⟨.panic v,st',ρ',hq,rfl,D'⟩
theorem zvu (hΘ:Θ.Ok P) {id:Nat} {o1 o2:Oper} {x:Operand} {ts:Array TypeId} (hg1:o1.guard = none) (ho2:o2.op = .defer ⟨.value x,#[],ts⟩) (hg2:o2.guard = none) (hdst:o2.dst = none)
  (h1:sop P Θ st.t o1.op st.h st.nx (fun v h nx=>setd o1.dst v { st with h:=h,nx:=nx } fun st'=>∃ f caps,ev st'.t x = .va (.fn (.func f) caps) ∧ Q .normal { st' with d:=(.clo f,caps.map SA.ptr) :: st'.d }) (fun v h nx=>Q (.panic v) { st with h:=h,nx:=nx })) :
  WP P (.region id #[o1,o2] false) st Q:=by
 unfold WP
 intro C ρ a w D
 refine wp_region_list ?_
 have hw1:Region.wanted o1 (yielded #[o1,o2] a.tmps) = true:=by simp [Region.wanted,hg1]
 show wpList P #[o1,o2] (Up C Q) [o1,o2] a w
 unfold wpList
 rw [if_pos hw1]
 left
 refine zhd (zhl hΘ h1 D) ?_ ?_
 ·rintro a' w' ⟨v,sv,h',nx',ρ',rfl,hk,hr,hb,D',_,_⟩
  obtain ⟨st',⟨f,caps,hev,hq⟩,D''⟩:=zh9 hk D' hr hb
  have hw2:Region.wanted o2 (yielded #[o1,o2] (a.put o1.dst v).tmps) = true:=by simp [Region.wanted,hg2]
  unfold wpList
  rw [if_pos hw2]
  left
  have hx:=zaz D'' x
  rw [hev] at hx
  have hxv:(a.put o1.dst v).eval x = .func (.func f) #[] (caps.map fun p=>Value.pointer (some (p.addr ρ'))).toArray:=hx.1
  have hrun:(execOp (a.put o1.dst v).eval o2).run P w' = .ok (.defer (defOf ρ' (.clo f,caps.map SA.ptr))) w':=by
   obtain ⟨dst,op,type,pos,after,guard⟩:=o2
   simp only at ho2; subst ho2
   have e3:(caps.map SA.ptr).map (SA.den ρ') = caps.map fun p=>Value.pointer (some (p.addr ρ')):=by rw [yd]; rfl
   simp [execOp,resolve,hxv,Deferred.ofValue,defOf,defV,e3]
  simp only [Oper.wp,hrun,Oper.upon]
  refine ⟨.normal,_,ρ',hq,rfl,?_⟩
  rw [hdst]
  have hdw:∀ y ∈ (Dk.clo f,caps.map SA.ptr) :: st'.d,∀ b ∈ y.2,b.below st'.nx:=by
   intro y hy
   rcases qj.1 hy with rfl | hy
   ·intro b hb'
    obtain ⟨p,hp,rfl⟩:=q9.1 hb'
    exact hx.2 p hp
   ·exact D''.dw y hy
  have hdf:defOf ρ' (Dk.clo f,caps.map SA.ptr) :: (a.put o1.dst v).defers = ((Dk.clo f,caps.map SA.ptr) :: st'.d).map (defOf ρ'):=by rw [D''.df]; rfl
  exact { sat:=D''.sat,nt:=D''.nt,tm:=D''.tm,tw:=D''.tw,n0:=D''.n0,df:=hdf,dw:=hdw }
 ·rintro e a' w' ⟨v,h',nx',ρ',rfl,hq,D'⟩
  exact ⟨.panic v,_,ρ',hq,rfl,D'⟩
def endQK (P:Program) (Θ:Tys) (rs:List ResultVar) (K:Out → Hp → Nat → Prop):SE → St → Prop:=fun e st=>
 match e with
 |.normal=>(match st.d with
  |(.clo f,asl) :: r=>r = [] ∧ DefWP P f asl st.h st.nx none fun h nx=>sres Θ { st with h:=h,nx:=nx } rs fun v=>K (.ret v) h nx
  |_=>False)
 |.ret=>(match st.d with
  |(.clo f,asl) :: r=>r = [] ∧ DefWP P f asl st.h st.nx none fun h nx=>sres Θ { st with h:=h,nx:=nx } rs fun v=>K (.ret v) h nx
  |_=>False)
 |.panic _=>False
 |.exit _=>False
theorem zkw (hΘ:Θ.Ok P) {fn:Func} {st:St} {rs:List ResultVar} (hrs:fn.results.toList = rs) {K:Out → Hp → Nat → Prop} {R:Ending → World → Prop} (m:Option Value) {f:FuncId} {asl:List SA} {r:List (Dk × List SA)}
  (hd:st.d = (.clo f,asl) :: r) (hr:r = []) (D:Den C ρ st a w)
  (hw:DefWP P f asl st.h st.nx m fun h nx=>sres Θ { st with h:=h,nx:=nx } rs fun v=>K (.ret v) h nx)
  (hR:∀ v sv h' nx' ρ' w',K (.ret sv) h' nx' → sv.rel ρ' v → sv.below nx' → Sat C ρ' h' nx' w' → (∀ i,i < st.nx → ρ' i = ρ i) → st.nx ≤ nx' → R (.returned v) w') :
  Leaves P fn a.tmps R a.defers (znb m) w:=by
 have hdf:=D.df
 have hdw:=D.dw
 subst hr
 rw [hd] at hdf hdw
 rw [hdf]
 unfold DefWP at hw
 obtain ⟨hent,hc⟩:=hw C ρ w D.sat (hdw (.clo f,asl) (by simp))
 unfold Enters at hent
 refine ⟨by cases m<;>simp [znb],.func f,(asl.map (SA.den ρ)).toArray,f,(asl.map (SA.den ρ)).toArray,rfl,?_,?_⟩
 ·have e1:(#[]:Array Value) ++ (asl.map (SA.den ρ)).toArray = (asl.map (SA.den ρ)).toArray:=by simp
  simp only [defOf,defV,invoke,e1,hent]
 ·refine hc.mono ?_
  rintro e u w' ⟨v,h',nx',ρ',rfl,hu,hk,S',hag,hle⟩
  have D':=D.heap S' hag hle
  obtain ⟨v',sv,h1,h2,h3,h4⟩:=ze5 (fn:=fn) hΘ D' (by rw [hrs]; exact hk)
  show Leaves P fn a.tmps R [] (settle u) w'
  rw [hu]
  exact ⟨v',h1,hR v' sv h' nx' ρ' w' h4 h2 h3 S' hag hle⟩
theorem zxu (hΘ:Θ.Ok P) {f:FuncId} {fn:Func} {c:Code} {args:List SV} {h:Hp} {nx:Nat} {K:Out → Hp → Nat → Prop} (hf:P.funcs[f]? = some fn) (hb:fn.body = some c) (hn:(fn.name == "runtime.NumGoroutine") = false)
  (nt:Nat) (rs:List ResultVar) (hnt:fn.ntmps = nt) (hrs:fn.results.toList = rs) (hl:Nat.ble args.length nt = true)
  (hx:WP P c ⟨[zes 0 args],h,nx,nx,nt,[]⟩ (endQK P Θ rs K)):za6 P f args h nx K:=by
 unfold za6
 intro C ρ w vs S hrel hbl
 refine ⟨enters_of hf hb hn,?_⟩
 unfold WP at hx
 let C1:Ctx:={ C with ρ0:=ρ,n0:=nx }
 have S1:Sat C1 ρ h nx w:={ S with anch:=fun _ _ _=>rfl,n0:=qf _,n1:=S.pos }
 have hlen:=zhk hrel
 have hle:=nb hl
 have D:Den C1 ρ ⟨[zes 0 args],h,nx,nx,nt,[]⟩ { tmps:=vs.toArray ++ Array.replicate (fn.ntmps - vs.toArray.size) undef,defers:=[] } w:=by
  refine { sat:=S1,nt:=?_,tm:=?_,tw:=?_,n0:=rfl,df:=rfl,dw:=by simp }
  ·simp; omega
  ·intro n s hs
   simp only [lget] at hs
   split at hs
   ·rename_i v hv
    cases hs
    obtain ⟨u,_,h2,h3,_⟩:=zcr (nx:=nx) args vs 0 n s hrel hv
    simp only [qak] at h2
    refine ⟨u,?_,h3⟩
    rw [qal (by simpa using (qh.1 h2).1)]
    simpa using h2
   ·simp at hs
  ·intro n s hs
   simp only [lget] at hs
   split at hs
   ·rename_i v hv
    cases hs
    obtain ⟨u,_,_,_,h4⟩:=zcr (nx:=nx) args vs 0 n s hrel hv
    exact hbl s h4
   ·simp at hs
 refine calls_of_wp_defers hf hb (wp_mono (hx C1 ρ _ w D) ?_)
 rintro e a' w' ⟨se,st',ρ',hq,rfl,D'⟩
 have back:∀ {ρ2:Rho} {h2:Hp} {nx2:Nat} {w2:World},Sat C1 ρ2 h2 nx2 w2 → Sat C ρ2 h2 nx2 w2:=fun S2=>{ S2 with
  anch:=fun i hi k=>by rw [S2.anch i (yp hi S.n0) k]; exact S.anch i hi k
  n0:=jk S.n0 S2.n0
  n1:=S.n1 }
 have fin:∀ v sv h2 nx2 ρ2 w2,K (.ret sv) h2 nx2 → sv.rel ρ2 v → sv.below nx2 → Sat C1 ρ2 h2 nx2 w2 → (∀ i,i < st'.nx → ρ2 i = ρ' i) → st'.nx ≤ nx2 →
   ∃ out h' nx' ρ',K out h' nx' ∧ out.rel ρ' (Ending.returned v) ∧ Sat C ρ' h' nx' w2 ∧ (∀ i,i < nx → ρ' i = ρ i) ∧ nx ≤ nx' ∧ (match out with | .ret s=>s.below nx' | .panic _=>True):=by
  intro v sv h2 nx2 ρ2 w2 hk hr hb2 S2 hag hle2
  exact ⟨.ret sv,h2,nx2,ρ2,hk,⟨v,rfl,hr⟩,back S2,fun i hi=>funext fun k=>S2.anch i hi k,jk D'.sat.n0 hle2,hb2⟩
 cases se with
 |normal=>
  simp only [endQK] at hq
  split at hq
  ·rename_i f2 asl r hd
   exact zkw hΘ hrs none hd hq.1 D' hq.2 fin
  ·exact hq.elim
 |ret=>
  simp only [endQK] at hq
  split at hq
  ·rename_i f2 asl r hd
   exact zkw hΘ hrs none hd hq.1 D' hq.2 fin
  ·exact hq.elim
 |panic v=>exact hq.elim
 |exit id=>exact hq.elim
end
end Sx
namespace Sx
open Go
variable {P:Program} {C:Ctx} {ρ:Rho} {h:Hp} {nx:Nat} {w:World}
theorem Sat.swap (s:Sat C ρ h nx w) {i:Nat} {b b':SB} (he:lget h i = some (.one b)) (hok:∀ ρ o,b.ok ρ o → b'.ok ρ o) (hbel:b'.below nx):Sat C ρ (lput h i (.one b')) nx w:=by
 have hi0:=s.ne0 he rfl
 have hown:∀ j k,St.owns (lput h i (.one b')) j k → St.owns h j k:=by
  rintro j k ⟨x,hx,hk⟩
  by_cases hj:j = i
  ·subst hj; rw [zaf] at hx; cases hx; exact ⟨_,he,hk⟩
  ·rw [zad _ _ _ _ hj] at hx; exact ⟨_,hx,hk⟩
 exact { s with
  lt:=fun j x hx=>by
   by_cases hj:j = i
   ·subst hj; exact s.lt _ _ he
   ·rw [zad _ _ _ _ hj] at hx; exact s.lt _ _ hx
  blk:=fun j x hx k hk=>by
   by_cases hj:j = i
   ·subst hj; rw [zaf] at hx; cases hx
    obtain ⟨o,h1,h2⟩:=s.blk _ _ he k hk
    exact ⟨o,h1,hok _ _ h2⟩
   ·rw [zad _ _ _ _ hj] at hx; exact s.blk _ _ hx k hk
  wf:=fun j x hx k hk=>by
   by_cases hj:j = i
   ·subst hj; rw [zaf] at hx; cases hx
    exact hbel
   ·rw [zad _ _ _ _ hj] at hx; exact s.wf _ _ hx k hk
  inj:=fun a b c d h1 h2=>s.inj a b c d (hown _ _ h1) (hown _ _ h2)
  own:=fun a b h1=>s.own a b (hown _ _ h1)
  fz:=by rw [zad _ _ _ _ (Ne.symm hi0)]; exact s.fz
  only:=fun j F hF=>by
   by_cases hj:j = i
   ·subst hj; rw [zaf] at hF; cases hF
   ·rw [zad _ _ _ _ hj] at hF; exact s.only _ _ hF
  lnk:=fun j b hl=>by
   by_cases hj:j = i
   ·subst hj; rw [zaf] at hl; cases hl
   ·rw [zad _ _ _ _ hj] at hl; exact s.lnk _ _ hl }
theorem swapC {f:FuncId} {args:List SV} {K:Out → Hp → Nat → Prop} (i:Nat) {b:SB} (b':SB) (he:lget h i = some (.one b)) (hok:∀ ρ o,b.ok ρ o → b'.ok ρ o) (hbel:b'.below nx) (hk:za6 P f args (lput h i (.one b')) nx K):za6 P f args h nx K:=by
 unfold za6 at *
 intro C ρ w vs S hr hb
 exact hk C ρ w vs (S.swap he hok hbel) hr hb
theorem zug {t sz room:Nat} {L L':List (List SA)} (hl:L'.length = L.length) (h1:∀ x ∈ L',x.length = sz) (hd:∀ ρ,L'.flatten.map (SA.den ρ) = L.flatten.map (SA.den ρ)) (ρ:Rho) (o:Obj) (h:(SB.arr t sz L room).ok ρ o):(SB.arr t sz L' room).ok ρ o:=by
 obtain ⟨g1,g2,tail,g3,g4⟩:=h
 exact ⟨h1,by rw [hl]; exact g2,tail,by rw [hl]; exact g3,by rw [hd]; exact g4⟩
theorem zh3 {f:FuncId} {args args':List SV} {K:Out → Hp → Nat → Prop} (hr:∀ ρ vs,relL ρ args vs → relL ρ args' vs) (hb:∀ n,(∀ s ∈ args,s.below n) → ∀ s ∈ args',s.below n) (hk:za6 P f args' h nx K):za6 P f args h nx K:=by
 unfold za6 at *
 intro C ρ w vs S h1 h2
 exact hk C ρ w vs S (hr ρ vs h1) (hb nx h2)
theorem zlx {n:Nat} {K0:Out → Fz → List (Nat × Ent) → Nat → Prop} {out out':Out} (hr:∀ ρ e,out.rel ρ e → out'.rel ρ e) (hb:out'.below nx) (hk:Cln n K0 out' h nx):Cln n K0 out h nx:=by
 unfold Cln at *
 intro C ρ w e hn S h1 h2
 exact hk C ρ w e hn S (hr ρ e h1) hb
end Sx
namespace Go.Proofs.YtfnkamphhpldcaaGreatDoor
open Go Sx
set_option maxRecDepth 100000
def exD (t:List UInt8) (m:Int):Dc:=⟨[(t,m)],[],0,[]⟩
theorem zem (t:List UInt8) (m:Int):DcSmall (exD t m):=⟨by show 1 ≤ 1000; decide,by show 0 ≤ 1000; decide,by show 0 ≤ 70000; decide⟩
theorem exAt {F:Fz} {b:Nat} {t:List UInt8} {m:Int} (h:F b = some (.arr 148 2 ([(t,m)].map encN) 1)):DocAt F (.slice false 0 b 0 2 1 1) (.slice true 0 0 0 6 0 0) (exD t m):=
 ⟨false,b,0,1,true,0,0,0,rfl,rfl,Sl.new (l:=[(t,m)]) h,Sl.nil,qf _⟩
theorem zbj (F:Fz) (t:List UInt8) (m:Int) :
  Fo Tryz.prog F 45 [.va (.str t),.va (.int .i64 m)] (fun o F'=>∃ b,o = .ret (.agg (docS (.slice false 0 b 0 2 1 1) (.slice true 0 0 0 6 0 0) 0 [])) ∧ F' b = some (.arr 148 2 ([(t,m)].map encN) 1)):=by
 refine fo_of hΘ Tryz.func45 rfl (by decide) _ _ rfl rfl rfl ?_;conv=>whnf
 refine zbl 2 (fun _=>.arr 148 2 ([(t,m)].map encN) 1) rfl rfl rfl (fun _ _=>rfl) (fun _ _=>SB.bB_ok rfl) ?_
 intro b F' hle hb'
 refine zlx (out':=.ret (.agg (docS (.slice false 2 0 0 2 1 1) (.slice true 0 0 0 6 0 0) 0 []))) (fun _ _ h=>h) (Out.bB_ok rfl) ?_
 exact endFo (.ret (.agg (docS (.slice false 0 (b 0) 0 2 1 1) (.slice true 0 0 0 6 0 0) 0 []))) F' rfl hle (Fz.r F') ⟨_,rfl,hb' 0 rfl⟩ (zaj _) rfl
end Go.Proofs.YtfnkamphhpldcaaGreatDoor
