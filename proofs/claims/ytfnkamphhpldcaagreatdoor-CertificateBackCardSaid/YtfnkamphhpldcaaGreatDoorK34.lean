import Derived.Test.YtfnkamphhpldcaaGreatDoorK32
import Derived.Test.YtfnkamphhpldcaaGreatDoorK33
import Derived.Test.YtfnkamphhpldcaaGreatDoorK20
import Derived.Test.YtfnkamphhpldcaaGreatDoorK31
import Derived.Test.YtfnkamphhpldcaaGreatDoorK21
import Derived.Test.YtfnkamphhpldcaaGreatDoorK30
set_option maxHeartbeats 64000000
namespace Go.Proofs.YtfnkamphhpldcaaGreatDoor
open Go Sx
set_option maxRecDepth 100000
theorem zsa {h:Hp} {nx:Nat} {K:Out → Hp → Nat → Prop} {x y:SA} {vx vy:Value} {b:Bool} (hx:∀ ρ,x.den ρ = vx) (hy:∀ ρ,y.den ρ = vy)
  (hc:∀ w,Calls Tryz.prog 135 #[vx,vy] w fun e w'=>e = .returned (.bool b) ∧ w' = w) (hk:K (.ret (.va (.bool b))) h nx):za6 Tryz.prog 135 [.va x,.va y] h nx K:=by
 unfold za6
 intro C ρ w vs S hr hb
 refine ⟨Sx.enters_of Tryz.func135 rfl (by decide),?_⟩
 match vs,hr with
 |[v,u],hr=>
  have hv:v = vx:=by
   have h1:v = x.den ρ:=hr.1
   rw [h1,hx]
  have hu:u = vy:=by
   have h1:u = y.den ρ:=hr.2.1
   rw [h1,hy]
  subst hv hu
  refine (hc w).mono ?_
  rintro e w' ⟨rfl,rfl⟩
  exact ⟨.ret (.va (.bool b)),h,nx,ρ,hk,⟨_,rfl,rfl⟩,S,fun _ _=>rfl,qf _,tv⟩
theorem z06 (F:Fz):Fo Tryz.prog F 71 [.va .nilif] (fun o F'=>o = .ret (.va (.int .i64 0)) ∧ F' = F):=by
 refine fo_of hΘ Tryz.func71 rfl (by decide) _ _ rfl rfl rfl ?_;conv=>whnf
 refine zsa (fun _=>rfl) (fun _=>rfl) (z6f _) ?_;conv=>whnf
 refine brd (by decide) ?_;conv=>whnf
 exact endPu rfl (Fz.r F) (zaj _) rfl
theorem zx2 (F:Fz):Fo Tryz.prog F 71 [.va badE] (fun o F'=>o = .ret (.va (.int .i64 100)) ∧ F' = F):=by
 refine fo_of hΘ Tryz.func71 rfl (by decide) _ _ rfl rfl rfl ?_;conv=>whnf
 refine zsa (fun _=>rfl) (fun _=>rfl) (is_F 100 10) ?_;conv=>whnf
 refine brd (by decide) ?_;conv=>whnf
 exact endPu rfl (Fz.r F) (zaj _) rfl
theorem KpsAt.zrow {F:Fz} {t:Nat} {sa:SA} {ks:List Kp} (h:SlR F t 2 (KpR F) sa ks):∃ (nil:Bool) (b e cap:Nat) (L:List (List SA)) (room:Nat) (o:List ZC),sa = .slice nil 0 b e 2 ks.length cap ∧ (nil = true → ks = []) ∧ (nil = false → F b = some (.arr t 2 L room)) ∧ e + ks.length ≤ L.length ∧
  (L.drop e).take ks.length = o.map encZ ∧ o.length = ks.length ∧ ∀ (i:Nat) (z:ZC) (x:Kp),o[i]? = some z → ks[i]? = some x → KpR F z.1 x:=by
 obtain ⟨nil,b,e,cap,L,room,h1,h2,h3,h4,h5⟩:=h
 refine ⟨nil,b,e,cap,L,room,?_⟩
 have key:∀ (ks:List Kp) (M:List (List SA)),(∀ (k:Nat) x,ks[k]? = some x → ∃ y,M[k]? = some y ∧ KpR F y x) → ∃ o:List ZC,M.take ks.length = o.map encZ ∧ o.length = ks.length ∧ ∀ (i:Nat) (z:ZC) (x:Kp),o[i]? = some z → ks[i]? = some x → KpR F z.1 x:=by
  intro ks
  induction ks with
  |nil=>intro M _; exact ⟨[],by simp,rfl,fun i z x h=>by simp at h⟩
  |cons k r ih=>
   intro M hM
   obtain ⟨y,hy,hk⟩:=hM 0 k rfl
   cases M with
   |nil=>simp at hy
   |cons m M'=>
    have hym:m = y:=by simpa using hy
    subst hym
    obtain ⟨o,ho1,ho2,ho3⟩:=ih M' (fun i x hx=>by
     obtain ⟨y,h1,h2⟩:=hM (i + 1) x (by simpa using hx)
     exact ⟨y,by simpa using h1,h2⟩)
    have hz:∀ a ∈ m,a.z = true:=by
     obtain ⟨sa,rfl,hs⟩:=hk
     intro a ha
     simp only [qj,qq,or_false] at ha
     rcases ha with rfl | rfl
     ·rfl
     ·exact hs.z
    refine ⟨⟨m,hz⟩ :: o,?_,by simp [ho2],?_⟩
    ·rw [qe,List.take_succ_cons,ho1]; rfl
    ·intro i z x hz' hx
     cases i with
     |zero=>
      have h1:(⟨m,hz⟩:ZC) = z:=by simpa using hz'
      have h2:k = x:=by simpa using hx
      subst h1 h2
      exact hk
     |succ i=>exact ho3 i z x (by simpa using hz') (by simpa using hx)
 obtain ⟨o,ho1,ho2,ho3⟩:=key ks (L.drop e) (fun k x hx=>by
  obtain ⟨y,hy,hk⟩:=h5 k x hx
  exact ⟨y,by rw [qab]; exact hy,hk⟩)
 exact ⟨o,h1,h2,h3,h4,ho1,ho2,ho3⟩
theorem zwb (F:Fz) (b e c room:Nat) (L:List (List SA)) (o:List ZC) (hb:F b = some (.arr 52 2 L room)) (he:e + o.length ≤ L.length) (hX:(L.drop e).take o.length = o.map encZ) (hl:o.length = 8) :
  Ct Tryz.prog 72 [.va (.slice false 0 b e 2 8 c)] F [] 1
   (fun out F0 h0 n0=>F0 = F ∧ n0 = 2 ∧ ∃ c',out = .ret (.va (.slice false 1 0 0 2 8 c')) ∧ h0 = [(1,.one (.arr 52 2 (o.map encZ) c'))]):=by
 rw [hl] at he hX
 rcases o with _ | ⟨o0,or'⟩
 ·cases hl
 have hl8:or'.length + 1 = 8:=hl
 have hsz:(0 + ((o0 :: or').map encZ).length) * 32 ≤ 140737488355328:=by rw [qb,hl]; decide
 refine ct_of hΘ Tryz.func72 rfl (by decide) _ _ rfl rfl rfl ?_;conv=>whnf
 refine brd (by decide) ?_;conv=>whnf
 refine ⟨52,L,room,hb,he,(o0 :: or').map encZ,hX,?_⟩
 refine ⟨rfl,rfl,?_⟩
 refine ⟨rfl,hsz,fun c' hc=>?_⟩
 clear hc;conv=>whnf
 exact clean [(1,2)] (.ret (.va (.slice false 1 0 0 2 8 c'))) F [(1,.one (.arr 52 2 ((o0 :: or').map encZ) c'))] 2 ⟨Fz.r F,rfl,rfl,c',rfl,rfl⟩ ⟨rfl,(by rw [qb,hl]),rfl,.inr ⟨rfl,rfl,rfl,rfl⟩⟩ rfl rfl (Out.bB_ok (o:=.ret (.va (.slice false 1 0 0 2 8 c'))) rfl) ⟨zfr zcl (by omega) 52 2 c' (o0 :: or'),tv⟩ ⟨Fz.r F,(ziv (μ:=sig [(1,2)]) zcl (fun k=>rfl) rfl _ _ _).symm,tv⟩
def zcc:List Crt → Option Crt
 |[]=>none
 |c :: r=>if crtOk c = true then foldS c r else none
theorem znt:∀ {r:List Crt} {a c:Crt},Acc a → foldS a r = some c → Acc c
 |[],a,c,h,hf=>by cases hf; exact h
 |b :: r,a,c,h,hf=>by
  rw [foldS] at hf
  split at hf
  ·rename_i hj; exact znt (h.join hj) hf
  ·cases hf
theorem zgf (F:Fz) (nl:Bool) (sb se sc:Nat) (l:List Crt) (hl:zox F (.slice nl 0 sb se 4 l.length sc) l) (hcap:l.length ≤ sc) (hs:∀ c ∈ l,short c.cl) (hll:∀ c ∈ l,c.cl.length < 1000000) (hlen:l.length < 1000000) :
  Fo Tryz.prog F 30 [.va (.slice nl 0 sb se 4 l.length sc)] (fun o F'=>
   (zcc l = none ∧ o = .ret (.tup [.agg [.str [],.str [],.int .i64 0,.nilsl],.va (.int .i64 100)])) ∨
   (∃ c,zcc l = some c ∧ ∃ sk,o = .ret (.tup [.agg (crtS c sk),.va (.int .i64 0)]) ∧ ClsAt F' sk c.cl)):=by
 have fin:∀ (F1:Fz) (h:Hp) (nx:Nat),zcc l = none → lget h 0 = some (.frz F1) → Fz.le F F1 → Cln 1 (FoK F (fun o F'=>
   (zcc l = none ∧ o = .ret (.tup [.agg [.str [],.str [],.int .i64 0,.nilsl],.va (.int .i64 100)])) ∨
   (∃ c,zcc l = some c ∧ ∃ sk,o = .ret (.tup [.agg (crtS c sk),.va (.int .i64 0)]) ∧ ClsAt F' sk c.cl))) (.ret (.tup [.agg [.str [],.str [],.int .i64 0,.nilsl],.va (.int .i64 100)])) h nx:=by
  intro F1 h nx hj h0 hle
  exact endFo (.ret (.tup [.agg [.str [],.str [],.int .i64 0,.nilsl],.va (.int .i64 100)])) F1 h0 hle (Fz.r F1) (.inl ⟨hj,rfl⟩) (zaj _) rfl
 obtain ⟨nil',b',e',cap',L,room,heq,l1,l2,l3,l4⟩:=hl
 cases heq
 rcases l with _ | ⟨c0,r⟩
 ·refine fo_of hΘ Tryz.func30 rfl (by decide) _ _ rfl rfl rfl ?_;conv=>whnf
  refine gaf (by decide) ?_;conv=>whnf
  exact fin F _ _ rfl rfl (Fz.r F)
 ·have hnl:nl = false:=SlR.lt l1 (show 0 < (c0 :: r).length by simp)
  subst hnl
  have hbl:=l2 rfl
  have hz:=l4 0 c0 rfl
  obtain ⟨y0,hy0,sk0,rfl,hk0⟩:=hz
  have hc0:short c0.cl:=hs c0 (by simp)
  have hvalid:=zeh F sk0 c0 hk0 hc0 (hll c0 (by simp))
  have hfold:=fun (hv:crtOk c0 = true) (F1:Fz) (m1:Fz.le F F1)=>zzm F1 sb se sc room L c0 r (m1 _ _ hbl) (fun k x hx=>by obtain ⟨y,h1,h2⟩:=l4 k x hx; exact ⟨y,h1,h2.mono m1⟩) hcap (Acc.ok hv hc0) (fun c hc=>hs c (by simp [hc])) (fun c hc=>hll c (by simp [hc])) (by simp at hlen; omega)
  obtain ⟨kn,kb,ke,kc,kL,kr,rfl,-,-,-,-⟩:=hk0
  have hvc:crtOk c0 = true ∨ crtOk c0 = false:=by
   cases crtOk c0
   ·exact .inr rfl
   ·exact .inl rfl
  rcases hvc with hv | hv
  ·rw [hv] at hvalid
   have hfold:=hfold hv
   have hcs:zcc (c0 :: r) = foldS c0 r:=by rw [zcc,if_pos hv]
   refine fo_of hΘ Tryz.func30 rfl (by decide) _ _ rfl rfl rfl ?_;conv=>whnf
   refine ⟨fun _=>?_,fun g=>absurd g (by simp; omega)⟩;conv=>whnf
   refine ⟨rfl,⟨by simp,by simp⟩,?_⟩;conv=>whnf
   refine ⟨_,hbl,?_⟩;conv=>whnf
   refine ⟨_,hy0,?_⟩;conv=>whnf
   refine useFo hvalid rfl (zaa _) rfl ?_
   rintro _ F1 m1 rfl;conv=>whnf
   refine brd (by decide) ?_;conv=>whnf
   refine useFo (hfold F1 m1) rfl (zaa _) rfl ?_
   rintro _ F2 m2 (⟨hn,x,y,n,rfl⟩ | ⟨c,hc,sk,rfl,hk⟩)
   ·conv=>whnf
    refine usePu (zx2 F2) rfl (zaa _) rfl ?_;conv=>whnf
    exact fin F2 _ _ (hcs.trans hn) rfl (Fz.t m1 m2)
   ·have hac:=znt (Acc.ok hv hc0) hc
    have h8:=hac.n
    have hzr:=KpsAt.zrow hk
    obtain ⟨n',b1,e1,c1,L1,r1,o,rfl,z1,z2,z3,z4,z5,z6⟩:=hzr
    have hn':n' = false:=SlR.lt z1 (show 0 < c.cl.length by omega)
    subst hn'
    have ho8:o.length = 8:=z5.trans h8
    conv=>whnf
    refine use (zwb F2 b1 e1 c1 r1 L1 o (z2 rfl) (by rw [z5]; exact z3) (by rw [z5]; exact z4) ho8) [] rfl ⟨⟨rfl,h8.symm,rfl,.inr ⟨rfl,rfl,rfl,rfl⟩⟩,tv⟩ rfl trivial (by simp [SV.below,SA.below]) trivial ?_
    rintro out0 F3 h0 n0 hle ⟨rfl,rfl,c',rfl,rfl⟩;conv=>whnf
    have hrow0:∀ i (z:ZC) (x:Kp),o[i]? = some z → c.cl[i]? = some x → KpR F3 z.1 x:=fun i z x h1 h2=>z6 i z x h1 h2
    refine zan hΘ (X:={ x:Nat × List ZC × Fz // Fz.le F x.2.2 ∧ x.1 ≤ 8 ∧ x.2.1.length = 8 ∧ ∀ (i:Nat) (z:ZC) (y:Kp),x.2.1[i]? = some z → c.cl[i]? = some y → KpR x.2.2 z.1 y }) (fun x=>[(35,.va (.int .i64 x.1.1))]) [6,36,37,38,39,40,41,42,43,44,45,46,47,48,49,50]
     (fun x=>[(0,.frz x.1.2.2),(1,.one (.cells 48 [.str [],.str [],.int .i64 0,.nilsl])),(2,.one (.cells 48 (crtS c (.slice false 3 0 0 2 8 c')))),(3,.one (.arr 52 2 (x.1.2.1.map encZ) c'))]) 4 (fun x=>8 - x.1.1) ⟨(0,o,F3),Fz.t m1 m2,by omega,ho8,hrow0⟩
     (fun hH hT=>leI [] hH hT rfl ⟨tv,zar ⟨[],[],0,[]⟩ (sk:=.nilsl) trivial,zar _ (.inr (by omega)),zfr zcl (by omega) 52 2 c' o,tv⟩ ⟨rfl,tv⟩ ⟨Fz.r F3,rfl,rfl,(ziv (μ:=tau [] 1 3) zcl (fun k=>rfl) rfl _ _ _).trans (ziv (μ:=sig []) zcl (fun k=>rfl) rfl _ _ _).symm,tv⟩) ?_
    rintro ⟨⟨k,p,G⟩,hG,hk8,hp8,hrow⟩ hH hT
    replace hG:Fz.le F G:=hG
    replace hk8:k ≤ 8:=hk8
    replace hp8:p.length = 8:=hp8
    replace hrow:∀ (i:Nat) (z:ZC) (y:Kp),p[i]? = some z → c.cl[i]? = some y → KpR G z.1 y:=hrow
    by_cases g:k < 8
    ·have gi:(k:Int) < 8:=by omega
     have gk:k < p.length:=by omega
     have gc:k < c.cl.length:=by omega
     have hdec:8 - (k + 1) < 8 - k:=by omega
     have hk62:k < 4611686018427387904:=by omega
     have hkp:=hrow k (p[k]'gk) (c.cl[k]'gc) (qc gk) (qc gc)
     obtain ⟨sx,hsx,hst⟩:=hkp
     have hy:(p.map encZ)[0 + (k:Int).toNat]? = some [.int .i64 (c.cl[k]'gc).1,sx]:=by
      rw [ql,ji,qs,qc gk]
      exact congrArg some hsx
     have hset:∀ (G2:Fz) (z:ZC),Fz.le G G2 → KpR G2 z.1 (c.cl[k]'gc) → ∀ (i:Nat) (z':ZC) (y:Kp),(p.set k z)[i]? = some z' → c.cl[i]? = some y → KpR G2 z'.1 y:=by
      intro G2 z hle hz i z' y h1 h2
      by_cases hi:k = i
      ·subst hi
       rw [qcp gk] at h1
       rw [qc gc] at h2
       cases h1
       cases h2
       exact hz
      ·rw [qa8 hi] at h1
       exact (hrow i z' y h1 h2).mono hle
     have hseq:∀ (z:ZC) (w:List SA),z.1 = w → SB.arr 52 2 ((p.map encZ).set (0 + (k:Int).toNat) w) c' = (SB.arr 52 2 ((p.set k z).map encZ) c').ren (sig []):=fun z w hw=>by
      rw [ziv (μ:=sig []) zcl (fun k=>rfl) rfl,ql,ji,qbp,← hw]
      rfl
     have hcl:=zn8 G sx (c.cl[k]'gc).2 hst (hac.s _ (jj gc))
     obtain ⟨hstn,hstb,hste,hstc,hstL,hstr,rfl,hst1,hst2,hst3,hst4⟩:=hst
     conv=>whnf
     refine bri gi ?_;conv=>whnf
     refine drawP hΘ mixed (lk [0,1,2,3,4,5,6,7] (.alt 8 (.alt 9 (.look 10 (.look 11 (.alt 12 .done .nil))) .nil) .nil)) [2] (by kernel_rfl) ?_;conv=>whnf
     refine ⟨rfl,?_⟩;conv=>whnf
     refine ⟨rfl,?_⟩;conv=>whnf
     refine ⟨rfl,⟨by simp,gi⟩,?_⟩;conv=>whnf
     refine ⟨_,hy,?_⟩;conv=>whnf
     refine ⟨Fz.r G,rfl,?_⟩;conv=>whnf
     refine useFo hcl rfl (zaa _) rfl ?_
     rintro _ G2 u2 ⟨sn,rfl,hsn⟩
     have hsn':=hsn
     obtain ⟨hsnn,hsnb,hsne,hsnc,hsnL,hsnr,rfl,hsn1,hsn2,hsn3,hsn4⟩:=hsn
     conv=>whnf
     refine ⟨u2,rfl,?_⟩;conv=>whnf
     refine ⟨rfl,⟨by simp,gi⟩,?_⟩;conv=>whnf
     refine ⟨_,hy,?_⟩;conv=>whnf
     refine ⟨Fz.r G2,rfl,?_⟩;conv=>whnf
     exact ⟨⟨(k + 1,p.set k (mkZ (c.cl[k]'gc).1 (.slice hsnn 0 hsnb hsne 2 (c.cl[k]'gc).2.length hsnc) rfl),G2),Fz.t hG u2,g,by show (p.set k _).length = 8; rw [qa2]; exact hp8,hset G2 _ u2 ⟨_,rfl,hsn'⟩⟩,hdec,leR [] hH hT rfl ⟨tv,zar ⟨[],[],0,[]⟩ (sk:=.nilsl) trivial,zar _ (.inr (by omega)),zfr zcl (by omega) 52 2 c' _,tv⟩ ⟨cnt hk62,tv⟩ ⟨Fz.r G2,rfl,rfl,hseq _ _ rfl,tv⟩⟩
    ·have gi:¬ (k:Int) < 8:=by omega
     have hend:∀ (F':Fz) (b:Nat),Fz.le G F' → F' b = some (.arr 52 2 (p.map encZ) c') → ClsAt F' (.slice false 0 b 0 2 8 c') c.cl:=fun F' b hle hb=>by
      have h:=SlR.new (F:=F') (t:=52) (sz:=2) (R:=KpR F') (cap:=c') (l:=c.cl) hb (by rw [qb,hp8,h8]) fun i x hx=>by
       have hi:i < p.length:=by rw [hp8,← h8]; exact (qh.1 hx).1
       exact ⟨encZ p[i],by rw [qs,qc hi]; rfl,(hrow i p[i] x (qc hi) hx).mono hle⟩
      rw [h8] at h
      exact h
     conv=>whnf
     refine brj gi ?_;conv=>whnf
     refine zbl 3 (fun _=>.arr 52 2 (p.map encZ) c') rfl rfl rfl (fun _ _=>by exact ziv (μ:=resP _) zcl (fun k=>rfl) rfl _ _ _) (fun _ _=>zfr zcl (by omega) _ _ _ _) ?_
     intro b' F' hle hb'
     exact endFo (.ret (.tup [.agg (crtS c (.slice false 0 (b' 0) 0 2 8 c')),.va (.int .i64 0)])) F' rfl (Fz.t hG hle) (Fz.r F') (.inr ⟨c,hcs.trans hc,_,rfl,hend F' _ hle (hb' 0 rfl)⟩) (zaj _) rfl
  ·rw [hv] at hvalid
   have hcs:zcc (c0 :: r) = none:=by rw [zcc,if_neg (by rw [hv]; simp)]
   refine fo_of hΘ Tryz.func30 rfl (by decide) _ _ rfl rfl rfl ?_;conv=>whnf
   refine ⟨fun _=>?_,fun g=>absurd g (by simp; omega)⟩;conv=>whnf
   refine ⟨rfl,⟨by simp,by simp⟩,?_⟩;conv=>whnf
   refine ⟨_,hbl,?_⟩;conv=>whnf
   refine ⟨_,hy0,?_⟩;conv=>whnf
   refine useFo hvalid rfl (zaa _) rfl ?_
   rintro _ F1 m1 rfl;conv=>whnf
   refine bre (by decide) ?_;conv=>whnf
   exact fin F1 _ _ hcs rfl m1
abbrev strE (s:List UInt8):Ent:=.one (.cells 9 [.str s])
theorem zcg (n:Nat) (s:List UInt8):(strE s).below n:=fun a ha=>by
 simp only [qy] at ha
 subst ha; trivial
theorem zmm {l:List Int} {k:Nat} (g:k < l.length):zae (l.take (k + 1)) = zae (l.take k) ++ (putIR (l[k]'g)).1:=zbp g
theorem z3e (F:Fz) (sa:SA) (l:List Int) (out:List UInt8) (ha:zd6 F sa l) (hl:l.length < 1000000) (ho:out.length ≤ 1000000000) :
  Ct Tryz.prog 77 [.va sa,.va (.ptr ⟨1,0,0,0,0⟩)] F [(1,strE out)] 2 (fun o F0 h0 n0=>F0 = F ∧ n0 = 2 ∧ o = .ret (.tup []) ∧ h0 = [(1,strE (out ++ zae l))]):=by
 obtain ⟨han,hab,hae,hac,haL,har,rfl,ha1,ha2,ha3,ha4⟩:=ha
 refine ct_of hΘ Tryz.func77 rfl (by decide) _ _ rfl rfl rfl ?_;conv=>whnf
 refine zan hΘ (X:={ k:Nat // k ≤ l.length }) (fun x=>[(9,.va (.int .i64 x.1))]) [4,5,6,10,11,12,13,14,15,16,17,18,19,20,21]
  (fun x=>[(0,.frz F),(1,strE (out ++ zae (l.take x.1)))]) 2 (fun x=>l.length - x.1) ⟨0,by simp⟩
  (fun hH hT=>leI [] hH hT rfl ⟨tv,zcg _ _,tv⟩ ⟨rfl,tv⟩ ⟨Fz.r F,by show SB.cells _ [.str out] = SB.cells _ [.str (out ++ [])]; rw [jw],tv⟩) ?_
 rintro ⟨k,hk⟩ hH hT
 by_cases g:k < l.length
 ·have gi:(k:Int) < (l.length:Int):=by omega
  have hdec:l.length - (k + 1) < l.length - k:=by omega
  have hk62:k < 4611686018427387904:=by omega
  have hps:=pfun F (l[k]'g)
  have hlen:(out ++ zae (l.take k)).length ≤ 1000000000000:=by
   have h9:=zfj zd2 (l.take k)
   rw [qn] at h9
   show (out ++ ((l.take k).map fun n=>(putIR n).1).flatten).length ≤ _
   rw [qa]; omega
  have htl:=zd2 (l[k]'g)
  have hsum:(out ++ zae (l.take k)).length + (putIR (l[k]'g)).1.length ≤ 9223372036854775807:=by omega
  have hnx:out ++ zae (l.take k) ++ (putIR (l[k]'g)).1 = out ++ zae (l.take (k + 1)):=by rw [zmm g,qk]
  conv=>whnf
  refine bri gi ?_;conv=>whnf
  refine ⟨Sl.lt ha1 g,⟨by simp,by simpa using g⟩,?_⟩;conv=>whnf
  refine ⟨_,ha2 (Sl.lt ha1 g),?_⟩;conv=>whnf
  refine ⟨_,Sl.at ha4 g,?_⟩;conv=>whnf
  refine usePu (hps) rfl (zaa _) rfl ?_;conv=>whnf
  refine ⟨hsum,?_⟩;conv=>whnf
  exact ⟨⟨k + 1,g⟩,hdec,leR [] hH hT rfl ⟨tv,zcg _ _,tv⟩ ⟨cnt hk62,tv⟩ ⟨Fz.r F,by show SB.cells _ [.str _] = SB.cells _ [.str _]; rw [hnx],tv⟩⟩
 ·have gi:¬ (k:Int) < (l.length:Int):=by omega
  have hnx:out ++ zae (l.take k) = out ++ zae l:=by rw [qm (by omega)]
  conv=>whnf
  refine brj gi ?_;conv=>whnf
  exact clean [] (.ret (.tup [])) F [(1,strE (out ++ zae l))] 2 ⟨Fz.r F,rfl,rfl,rfl,rfl⟩ trivial rfl rfl (Out.bB_ok (o:=.ret (.tup [])) rfl) ⟨zcg _ _,tv⟩ ⟨Fz.r F,by show SB.cells _ [.str _] = SB.cells _ [.str _]; rw [hnx],tv⟩
def stpN (s:Stp):List UInt8:=zae [s.1,s.2]
def zf6 (x:Kp):List UInt8:=zae [(x.2.length:Int)] ++ (x.2.map stpN).flatten
def encC (c:Crt):List UInt8:=(putSR c.src).1 ++ (putSR c.dst).1 ++ zae [c.len] ++ (c.cl.map zf6).flatten
theorem zsd (s:Stp):(stpN s).length ≤ 18:=zay _
theorem zty (x:Kp) (h:x.2.length ≤ 64):(zf6 x).length ≤ 1161:=by
 have h1:=zay [(x.2.length:Int)]
 have h2:=zfj zsd x.2
 rw [zf6,qa]
 simp only [qe,qp] at h1
 omega
def encP (o:List UInt8) (st:List Stp) (j:Nat):List UInt8:=o ++ zae [(st.length:Int)] ++ ((st.take j).map stpN).flatten
theorem z7n (o:List UInt8) (st:List Stp):encP o st 0 = o ++ zae [(st.length:Int)]:=by simp [encP]
theorem zwq (o:List UInt8) (st:List Stp) (j:Nat) (g:j < st.length):encP o st (j + 1) = encP o st j ++ zae [(st[j]'g).1,(st[j]'g).2]:=by
 rw [encP,zbp g,← qk]; rfl
theorem zyq (o:List UInt8) (x:Kp):encP o x.2 x.2.length = o ++ zf6 x:=by
 rw [encP,yr,qk]; rfl
theorem z1c (o:List UInt8) (st:List Stp) (j:Nat) (h:st.length ≤ 64):(encP o st j).length ≤ o.length + 1161:=by
 have h1:=zay [(st.length:Int)]
 have h2:=zfj zsd (st.take j)
 rw [qn] at h2
 simp only [qe,qp] at h1
 simp only [encP,qa]
 omega
theorem zqg {c:Crt} (h:crtOk c = true):∀ x ∈ c.cl,x.2.length ≤ 64:=by
 simp only [crtOk,qd,decide_eq_true_eq] at h
 have key:∀ (l:List Kp) (i:Int),clOk l i = true → ∀ x ∈ l,x.2.length ≤ 64:=by
  intro l
  induction l with
  |nil=>intro i _ x hx; simp at hx
  |cons y r ih=>
   intro i h x hx
   rw [clOk,qd] at h
   rcases qj.1 hx with rfl | hx
   ·have:=h.1
    simp only [clAt,qd] at this
    exact zhm this.2.1
   ·exact ih (i + 1) h.2 x hx
 exact key c.cl 1 h.2.2.2.2.2
theorem zvc (F:Fz) (sk:SA) (c:Crt) (hk:ClsAt F sk c.cl) (hs:short c.cl) (hl:c.cl.length < 1000000) :
  Fo Tryz.prog F 34 [.agg (crtS c sk)] (fun o F'=>(crtOk c = false ∧ o = .ret (.tup [.va (.str []),.va (.int .i64 100)])) ∨ (crtOk c = true ∧ o = .ret (.tup [.va (.str (encC c)),.va (.int .i64 0)]))):=by
 have hvalid:=zeh F sk c hk hs hl
 have hvc:crtOk c = true ∨ crtOk c = false:=by
  cases crtOk c
  ·exact .inr rfl
  ·exact .inl rfl
 rcases hvc with hv | hv
 rotate_left
 ·rw [hv] at hvalid ⊢
  obtain ⟨kn,kb,ke,kc,kL,kr,rfl,k1,k2,k3,k4⟩:=hk
  refine fo_of hΘ Tryz.func34 rfl (by decide) _ _ rfl rfl rfl ?_;conv=>whnf
  refine useFo hvalid rfl (zaa _) rfl ?_
  rintro _ F1 l1 rfl;conv=>whnf
  refine bre (by decide) ?_;conv=>whnf
  exact endFo (.ret (.tup [.va (.str []),.va (.int .i64 100)])) F1 rfl l1 (Fz.r F1) (.inl ⟨rfl,rfl⟩) (zaj _) rfl
 have h8:=(zeg hv).1
 have h64:=zqg hv
 rw [hv] at hvalid ⊢
 obtain ⟨src,dst,len,ks⟩:=c
 replace hk:ClsAt F sk ks:=hk
 replace h8:ks.length = 8:=h8
 replace h64:∀ x ∈ ks,x.2.length ≤ 64:=h64
 have hs32:src.length = 32 ∧ dst.length = 32:=by
  have h:=hv
  simp only [crtOk,qd,decide_eq_true_eq] at h
  exact ⟨h.1,h.2.1⟩
 obtain ⟨kn,kb,ke,kc,kL,kr,rfl,k1,k2,k3,k4⟩:=hk
 have pA:=fun F1=>zeb pfun F1 src (by omega)
 have pB:=fun F1=>zeb pfun F1 dst (by omega)
 have lA:=zdm src
 have lB:=zdm dst
 have hput:=fun F1 sa n (h:zd6 F1 sa n) (hn:n.length < 1000000) out (ho:out.length ≤ 1000000000)=>z3e F1 sa n out h hn ho
 show Fo Tryz.prog F 34 [.agg (crtS ⟨src,dst,len,ks⟩ (.slice kn 0 kb ke 2 ks.length kc))] (fun o F'=>(true = false ∧ o = .ret (.tup [.va (.str []),.va (.int .i64 100)])) ∨ (true = true ∧ o = .ret (.tup [.va (.str ((putSR src).1 ++ (putSR dst).1 ++ zae [len] ++ (ks.map zf6).flatten)),.va (.int .i64 0)])))
 obtain ⟨A,hA⟩:∃ A,(putSR src).1 = A:=⟨_,rfl⟩
 obtain ⟨B,hB⟩:∃ B,(putSR dst).1 = B:=⟨_,rfl⟩
 rw [hA] at pA lA ⊢
 rw [hB] at pB lB ⊢
 clear hA hB
 obtain ⟨O,hO⟩:∃ O:Nat → List UInt8,O = fun k=>A ++ B ++ zae [len] ++ ((ks.take k).map zf6).flatten:=⟨_,rfl⟩
 have O0:A ++ B ++ zae [len] = O 0:=by rw [hO]; simp
 have O8:A ++ B ++ zae [len] ++ (ks.map zf6).flatten = O 8:=by rw [hO]; simp only; rw [qm (by omega)]
 have Os:∀ k (g:k < ks.length),O (k + 1) = O k ++ zf6 (ks[k]'g):=fun k g=>by
  rw [hO]; simp only; rw [zbp g,← qk]
 have Ol:∀ k,(O k).length ≤ 200000:=fun k=>by
  have h1:=zay [len]
  have h2:∀ l:List Kp,(∀ x ∈ l,x.2.length ≤ 64) → ((l.map zf6).flatten).length ≤ 1161 * l.length:=by
   intro l
   induction l with
   |nil=>intro _; simp
   |cons y r ih=>
    intro h
    have h3:=zty y (h y (by simp))
    have h4:=ih fun x hx=>h x (by simp [hx])
    rw [qx,jy,qa,qe]
    omega
  have h5:=h2 (ks.take k) fun x hx=>h64 x (jv hx)
  rw [qn] at h5
  rw [hO]; simp only [qa]
  simp only [qe,qp] at h1
  omega
 rw [O8]
 clear hO O8
 refine fo_of hΘ Tryz.func34 rfl (by decide) _ _ rfl rfl rfl ?_;conv=>whnf
 refine useFo hvalid rfl (zaa _) rfl ?_
 rintro _ F1 l1 rfl;conv=>whnf
 refine brd (by decide) ?_;conv=>whnf
 refine rounds hΘ 3 ?_;conv=>whnf
 refine bre (by decide) ?_;conv=>whnf
 refine ⟨⟨by decide,by decide⟩,_,rfl,?_⟩;conv=>whnf
 refine usePu (pA F1) rfl (zaa _) rfl ?_;conv=>whnf
 refine ⟨by show 0 + A.length ≤ 9223372036854775807; omega,?_⟩;conv=>whnf
 refine bre (by decide) ?_;conv=>whnf
 refine ⟨⟨by decide,by decide⟩,_,rfl,?_⟩;conv=>whnf
 refine usePu (pB F1) rfl (zaa _) rfl ?_;conv=>whnf
 refine ⟨by show ([] ++ A).length + B.length ≤ 9223372036854775807; rw [qu]; omega,?_⟩;conv=>whnf
 refine brd (by decide) ?_;conv=>whnf
 refine za0 3 (fun _=>.arr 3 1 ([len].map encI) 1) rfl rfl rfl (fun _ _=>rfl) (fun _ _=>SB.bB_ok rfl) ?_
 intro b2 F2 l2 hb2
 refine use (hput F2 _ [len] (Sl.new (l:=[len]) (cap:=1) (hb2 0 rfl)) (by simp) ([] ++ A ++ B) (by rw [qu,qa]; omega)) [(1,2)] rfl ⟨⟨rfl,rfl,rfl,.inr ⟨rfl,rfl,rfl,rfl⟩⟩,rfl,tv⟩ rfl ⟨zcg _ _,tv⟩ (by simp [SV.below,SA.below]) ⟨rfl,tv⟩ ?_
 rintro out0 F3 h0 n0 hle ⟨rfl,rfl,rfl,rfl⟩
 have m3:=Fz.t l1 l2
 conv=>whnf
 refine zan hΘ (X:={ x:Nat × Fz // Fz.le F x.2 ∧ x.1 ≤ 8 }) (fun x=>[(43,.va (.int .i64 x.1.1))]) [11,13,44,45,46,47,48,49,50,51,52,53,54,55,56,57,58,59,60,61,62,63,64,65,66,67,68]
  (fun x=>[(0,.frz x.1.2),(1,.one (.cells 48 (crtS ⟨src,dst,len,ks⟩ (.slice kn 0 kb ke 2 ks.length kc)))),(2,strE (O x.1.1)),(3,.gone)]) 4 (fun x=>8 - x.1.1) ⟨(0,F3),m3,by omega⟩
  (fun hH hT=>leI [] hH hT rfl ⟨tv,zar _ (.inr (by omega)),zcg _ _,tv,tv⟩ ⟨rfl,tv⟩ ⟨Fz.r F3,rfl,by show SB.cells _ [.str _] = SB.cells _ [.str _]; rw [← O0,qu],tv⟩) ?_
 rintro ⟨⟨k,G⟩,hG,hk8⟩ hH hT
 replace hG:Fz.le F G:=hG
 replace hk8:k ≤ 8:=hk8
 by_cases g:k < 8
 ·have gk:k < ks.length:=by omega
  have gi:(k:Int) < (ks.length:Int):=by omega
  have hdec:8 - (k + 1) < 8 - k:=by omega
  have hk62:k < 4611686018427387904:=by omega
  have hx64:=h64 (ks[k]'gk) (jj gk)
  have hOk:=Ol k
  have hOs:=Os k gk
  have hObt:=SlR.at k4 gk
  obtain ⟨y,hy,a,rfl,hst⟩:=hObt
  have hnil:=SlR.lt k1 gk
  obtain ⟨hstn,hstb,hste,hstc,hstL,hstr,rfl,hst1,hst2,hst3,hst4⟩:=hst
  conv=>whnf
  refine bri gi ?_;conv=>whnf
  refine ⟨hnil,⟨by simp,gi⟩,?_⟩;conv=>whnf
  refine ⟨_,hG _ _ (k2 hnil),?_⟩;conv=>whnf
  refine ⟨_,hy,?_⟩;conv=>whnf
  refine za0 5 (fun _=>.arr 3 1 ([(((ks[k]'gk).2.length:Nat):Int)].map encI) 1) rfl rfl rfl (fun _ _=>rfl) (fun _ _=>SB.bB_ok rfl) ?_
  intro b3 F4 l4 hb3
  refine use (hput F4 _ [(((ks[k]'gk).2.length:Nat):Int)] (Sl.new (l:=[(((ks[k]'gk).2.length:Nat):Int)]) (cap:=1) (hb3 0 rfl)) (by simp) (O k) (by omega)) [(1,2)] rfl ⟨⟨rfl,rfl,rfl,.inr ⟨rfl,rfl,rfl,rfl⟩⟩,rfl,tv⟩ rfl ⟨zcg _ _,tv⟩ (by simp [SV.below,SA.below]) ⟨rfl,tv⟩ ?_
  rintro out0 F5 h0 n0 hle ⟨rfl,rfl,rfl,rfl⟩
  have m4:=Fz.t hG l4
  conv=>whnf
  refine zan hΘ (X:={ x:Nat × Fz // Fz.le F x.2 ∧ x.1 ≤ (ks[k]'gk).2.length }) (fun x=>[(56,.va (.int .i64 x.1.1))]) [13,57,58,59,60,61,62,63,64,65,66,67]
   (fun x=>[(0,.frz x.1.2),(2,strE (encP (O k) (ks[k]'gk).2 x.1.1))]) 6 (fun x=>(ks[k]'gk).2.length - x.1.1) ⟨(0,F5),m4,by omega⟩
   (fun hH hT=>leI [] hH hT rfl ⟨tv,zcg _ _,tv⟩ ⟨rfl,tv⟩ ⟨Fz.r F5,by show SB.cells _ [.str _] = SB.cells _ [.str _]; rw [z7n],tv⟩) ?_
  rintro ⟨⟨j,G2⟩,hG2,hj⟩ hH2 hT2
  replace hG2:Fz.le F G2:=hG2
  replace hj:j ≤ (ks[k]'gk).2.length:=hj
  have hPl:=z1c (O k) (ks[k]'gk).2 j hx64
  by_cases gj:j < (ks[k]'gk).2.length
  ·have gji:(j:Int) < (((ks[k]'gk).2.length:Nat):Int):=by omega
   have hdec2:(ks[k]'gk).2.length - (j + 1) < (ks[k]'gk).2.length - j:=by omega
   have hj62:j < 4611686018427387904:=by omega
   have hPs:=zwq (O k) (ks[k]'gk).2 j gj
   have hsn:=Sl.lt hst1 gj
   have hse:=Sl.at hst4 gj
   conv=>whnf
   refine bri gji ?_;conv=>whnf
   refine ⟨hsn,⟨by simp,gji⟩,?_⟩;conv=>whnf
   refine ⟨_,hG2 _ _ (hst2 hsn),?_⟩;conv=>whnf
   refine ⟨_,hse,?_⟩;conv=>whnf
   refine za0 7 (fun _=>.arr 3 1 ([((ks[k]'gk).2[j]'gj).1,((ks[k]'gk).2[j]'gj).2].map encI) 2) rfl rfl rfl (fun _ _=>rfl) (fun _ _=>SB.bB_ok rfl) ?_
   intro b5 F6 l6 hb5
   refine use (hput F6 _ [((ks[k]'gk).2[j]'gj).1,((ks[k]'gk).2[j]'gj).2] (Sl.new (l:=[((ks[k]'gk).2[j]'gj).1,((ks[k]'gk).2[j]'gj).2]) (cap:=2) (hb5 0 rfl)) (by simp) (encP (O k) (ks[k]'gk).2 j) (by omega)) [(1,2)] rfl ⟨⟨rfl,rfl,rfl,.inr ⟨rfl,rfl,rfl,rfl⟩⟩,rfl,tv⟩ rfl ⟨zcg _ _,tv⟩ (by simp [SV.below,SA.below]) ⟨rfl,tv⟩ ?_
   rintro out0 F7 h0 n0 hle ⟨rfl,rfl,rfl,rfl⟩;conv=>whnf
   exact ⟨⟨(j + 1,F7),Fz.t hG2 l6,gj⟩,hdec2,leR [] hH2 hT2 rfl ⟨tv,zcg _ _,tv⟩ ⟨cnt hj62,tv⟩ ⟨Fz.r F7,congrArg (fun s=>SB.cells 9 [.str s]) hPs.symm,tv⟩⟩
  ·have gji:¬ (j:Int) < (((ks[k]'gk).2.length:Nat):Int):=by omega
   have hPe:=zyq (O k) (ks[k]'gk)
   have hje:j = (ks[k]'gk).2.length:=by omega
   have hPfin:encP (O k) (ks[k]'gk).2 j = O (k + 1):=by rw [hje,hPe,← hOs]
   conv=>whnf
   refine brj gji ?_;conv=>whnf
   exact ⟨⟨(k + 1,G2),hG2,g⟩,hdec,leRn [_,_,_] [_,_] [] hH hT rfl ⟨tv,zar _ (.inr (by omega)),zcg _ _,tv,tv⟩ ⟨cnt hk62,tv⟩ ⟨Fz.r G2,rfl,congrArg (fun s=>SB.cells 9 [.str s]) hPfin,tv⟩⟩
 ·have gi:¬ (k:Int) < (ks.length:Int):=by omega
  have hk:k = 8:=by omega
  subst hk
  conv=>whnf
  refine brj gi ?_;conv=>whnf
  exact endFo (.ret (.tup [.va (.str (O 8)),.va (.int .i64 0)])) G rfl hG (Fz.r G) (.inr ⟨rfl,rfl⟩) (zaj _) rfl
theorem zc3 (F:Fz) (b:Bool) (v:Value):Fo Tryz.prog F 144 [.va (.bool b),.va (.ifc 213 v)] (fun o F'=>F = F' ∧ ((b = true ∧ o = .ret (.tup [])) ∨ (b = false ∧ o = .panic (.iface 213 v)))):=by
 refine fo_of hΘ Tryz.func144 rfl (by decide) _ _ rfl rfl rfl ?_;conv=>whnf
 refine br (fun g=>?_) (fun g=>?_)
 ·conv=>whnf
  exact endFo (.panic (.iface 213 v)) F rfl (Fz.r F) (Fz.r F) ⟨rfl,.inr ⟨not_t g,rfl⟩⟩ rfl rfl
 ·conv=>whnf
  exact endFo (.ret (.tup [])) F rfl (Fz.r F) (Fz.r F) ⟨rfl,.inl ⟨by simpa using g,rfl⟩⟩ (zaj _) rfl
def crd (s:List UInt8) (p:Int):Ent:=.one (.cells 139 [.str s,.int .i64 p])
theorem zbf {n:Nat} (s:List UInt8) (p:Int):(crd s p).below n:=(SB.bB_ok rfl:SB.below n (.cells 139 [.str s,.int .i64 p]))
theorem zc7 (F:Fz) (s:List UInt8) (p n x:Int) (hs:s.length ≤ 1000000000000000000) (hp:i64 p) (hg:getI s p = (n,x,0)) :
  Ct Tryz.prog 143 [.va (.ptr ⟨1,0,0,0,0⟩)] F [(1,crd s p)] 2
   (fun o F0 h0 n0=>F = F0 ∧ n0 = 2 ∧ o = .ret (.va (.int .i64 n)) ∧ h0 = [(1,crd s x)]):=by
 have hi1:=zuf F s p hs hp
 rw [hg] at hi1
 refine ct_of hΘ Tryz.func143 rfl (by decide) _ _ rfl rfl rfl ?_;conv=>whnf
 refine drawP hΘ mixed (lk [0,1,2,3,4,5,6,7] (.alt 8 (lk [9,10,11,12,13,14,15] .done) .nil)) [1] (by kernel_rfl) ?_;conv=>whnf
 repeat' ((conv=>whnf); first
  |refine ⟨rfl,?_⟩
  |refine ⟨Fz.r _,rfl,?_⟩
  |refine ⟨Fz.r _,rfl,rfl,?_⟩
  |refine ⟨⟨by simp,by simp⟩,?_⟩
  |fail)
 conv=>whnf
 refine usePu (hi1) rfl (zaa _) rfl ?_;conv=>whnf
 refine ⟨Fz.r F,rfl,?_⟩;conv=>whnf
 refine useFo (zc3 F (decide ((0:Int) = 0)) _) rfl ⟨rfl,rfl,tv⟩ rfl ?_
 rintro _ _ l1 ⟨rfl,⟨hb,rfl⟩ | ⟨hb,rfl⟩⟩
 ·conv=>whnf
  exact clean [] (.ret (.va (.int .i64 n))) F [(1,crd s x)] 2 ⟨Fz.r F,rfl,rfl,rfl,rfl⟩ (zaj _) rfl rfl trivial ⟨zbf s _,tv⟩ ⟨Fz.r F,rfl,tv⟩
 ·exact absurd hb (by decide)
theorem zv7 (F:Fz) (s:List UInt8) (p x:Int) (t:List UInt8) (hs:s.length ≤ 1000000000000000000) (hp:i64 p) (hg:getS s p = (t,x,0)) :
  Ct Tryz.prog 142 [.va (.ptr ⟨1,0,0,0,0⟩)] F [(1,crd s p)] 2
   (fun o F0 h0 n0=>F = F0 ∧ n0 = 2 ∧ o = .ret (.va (.str t)) ∧ h0 = [(1,crd s x)]):=by
 have hi1:=zot F s p hs hp
 rw [hg] at hi1
 refine ct_of hΘ Tryz.func142 rfl (by decide) _ _ rfl rfl rfl ?_;conv=>whnf
 refine drawP hΘ mixed (lk [0,1,2,3,4,5,6,7] (.alt 8 (lk [9,10,11,12,13,14,15] .done) .nil)) [1] (by kernel_rfl) ?_;conv=>whnf
 repeat' ((conv=>whnf); first
  |refine ⟨rfl,?_⟩
  |refine ⟨Fz.r _,rfl,?_⟩
  |refine ⟨Fz.r _,rfl,rfl,?_⟩
  |refine ⟨⟨by simp,by simp⟩,?_⟩
  |fail)
 conv=>whnf
 refine usePu (hi1) rfl (zaa _) rfl ?_;conv=>whnf
 refine ⟨Fz.r F,rfl,?_⟩;conv=>whnf
 refine useFo (zc3 F (decide ((0:Int) = 0)) _) rfl ⟨rfl,rfl,tv⟩ rfl ?_
 rintro _ _ l1 ⟨rfl,⟨hb,rfl⟩ | ⟨hb,rfl⟩⟩
 ·conv=>whnf
  exact clean [] (.ret (.va (.str t))) F [(1,crd s x)] 2 ⟨Fz.r F,rfl,rfl,rfl,rfl⟩ (zaj _) rfl rfl trivial ⟨zbf s _,tv⟩ ⟨Fz.r F,rfl,tv⟩
 ·exact absurd hb (by decide)
def exCl:List Kp:=[(1,[(1,0),(2,0)]),(2,[(6,0)]),(3,[]),(4,[]),(5,[]),(6,[]),(7,[]),(8,[])]
theorem zlb:∀ x ∈ exCl,x.2.length ≤ 2:=by decide
def exV:List Int:=[2,1,0,2,0,1,6,0,0,0,0,0,0,0]
theorem z4n (F:Fz) (s src dst:List UInt8) (hsl:s.length = 81) (hok:crtOk ⟨src,dst,2,exCl⟩ = true)
  (r1:getS s 0 = (src,33,0)) (r2:getS s 33 = (dst,66,0)) (r3:getI s 66 = (2,67,0)) (rI:∀ k:Nat,k < 14 → getI s (67 + (k:Int)) = (exV[k]?.getD 0,68 + (k:Int),0)) :
  Ct Tryz.prog 82 [.va (.ptr ⟨1,0,0,0,0⟩)] F [(1,crd s 0)] 2
   (fun o F0 h0 n0=>n0 = 2 ∧ h0 = [(1,crd s s.length)] ∧ ∃ sk,o = .ret (.tup [.agg (crtS ⟨src,dst,2,exCl⟩ sk),.va .nilif]) ∧ ClsAt F0 sk exCl):=by
 have hs:s.length ≤ 1000000000000000000:=by omega
 unfold Ct
 refine zxu hΘ Tryz.func82 rfl (by decide) _ _ rfl rfl rfl ?_
 refine z2g ?_
 refine zci hΘ _ _ _ ?_;conv=>whnf
 refine z2g ?_
 refine zvu hΘ rfl rfl rfl rfl ?_;conv=>whnf
 refine ⟨_,_,rfl,?_⟩
 refine zci hΘ _ _ _ ?_;conv=>whnf
 refine use (zv7 F s 0 33 src hs ⟨by decide,by decide⟩ r1) [(1,1)] rfl ⟨rfl,tv⟩ rfl ⟨zbf s _,tv⟩ (by simp [SV.below,SA.below]) ⟨rfl,tv⟩ ?_
 rintro out0 F0 h0 n0 hle ⟨rfl,rfl,rfl,rfl⟩;conv=>whnf
 refine use (zv7 F s 33 66 dst hs ⟨by decide,by decide⟩ r2) [(1,1)] rfl ⟨rfl,tv⟩ rfl ⟨zbf s _,tv⟩ (by simp [SV.below,SA.below]) ⟨rfl,tv⟩ ?_
 rintro out0 F0 h0 n0 hle ⟨rfl,rfl,rfl,rfl⟩;conv=>whnf
 refine use (zc7 F s 66 2 67 hs ⟨by decide,by decide⟩ r3) [(1,1)] rfl ⟨rfl,tv⟩ rfl ⟨zbf s _,tv⟩ (by simp [SV.below,SA.below]) ⟨rfl,tv⟩ ?_
 rintro out0 F0 h0 n0 hle ⟨rfl,rfl,rfl,rfl⟩;conv=>whnf
 refine zef hΘ 8 ?_;conv=>whnf
 -- claim 1
 refine bre (by decide) ?_;conv=>whnf
 refine use (zc7 F s 67 2 68 hs ⟨by decide,by decide⟩ (rI 0 (by decide))) [(1,1)] rfl ⟨rfl,tv⟩ rfl ⟨zbf s _,tv⟩ (by simp [SV.below,SA.below]) ⟨rfl,tv⟩ ?_
 rintro out0 F0 h0 n0 hle ⟨rfl,rfl,rfl,rfl⟩
 clear hle;conv=>whnf
 refine gae (by decide) ?_;conv=>whnf
 refine useFo (zc3 F _ _) rfl ⟨rfl,rfl,tv⟩ rfl ?_
 rintro _ _ lm ⟨rfl,⟨hb,rfl⟩ | ⟨hb,rfl⟩⟩
 rotate_left
 ·exact absurd hb (by decide)
 clear hb lm;conv=>whnf
 refine zef hΘ 2 ?_;conv=>whnf
 refine bre (by decide) ?_;conv=>whnf
 refine drawP hΘ mixed (lk [0,1,2,4] (.alt 3 (.alt 5 (.alt 6 (.alt 7 (.alt 8 (.look 9 (.last 10 .done)) .nil) .nil) .nil) .nil) .nil)) [4] (by kernel_rfl) ?_;conv=>whnf
 refine ⟨rfl,?_⟩;conv=>whnf
 refine use (zc7 F s 68 1 69 hs ⟨by decide,by decide⟩ (rI 1 (by decide))) [(1,1)] rfl ⟨rfl,tv⟩ rfl ⟨zbf s _,tv⟩ (by simp [SV.below,SA.below]) ⟨rfl,tv⟩ ?_
 rintro out0 F0 h0 n0 hle ⟨rfl,rfl,rfl,rfl⟩
 clear hle;conv=>whnf
 refine ⟨Fz.r F,rfl,?_⟩;conv=>whnf
 refine use (zc7 F s 69 0 70 hs ⟨by decide,by decide⟩ (rI 2 (by decide))) [(1,1)] rfl ⟨rfl,tv⟩ rfl ⟨zbf s _,tv⟩ (by simp [SV.below,SA.below]) ⟨rfl,tv⟩ ?_
 rintro out0 F0 h0 n0 hle ⟨rfl,rfl,rfl,rfl⟩
 clear hle;conv=>whnf
 refine ⟨Fz.r F,rfl,?_⟩;conv=>whnf
 refine ⟨Fz.r F,rfl,?_⟩;conv=>whnf
 refine ⟨Fz.r F,rfl,?_⟩;conv=>whnf
 refine ⟨nb rfl,[enc (1,0)],rfl,?_⟩;conv=>whnf
 refine ⟨rfl,rfl,?_⟩;conv=>whnf
 refine ⟨by show 1 * 16 ≤ 140737488355328; omega,fun cs00 hcs=>?_⟩
 clear hcs;conv=>whnf
 refine ⟨Fz.r F,rfl,?_⟩;conv=>whnf
 refine sr_go hΘ ?_;conv=>whnf
 refine bre (by decide) ?_;conv=>whnf
 refine drawP hΘ mixed (lk [0,1,2,4] (.alt 3 (.alt 5 (.alt 6 (.alt 7 (.alt 8 (.look 9 (.last 10 .done)) .nil) .nil) .nil) .nil) .nil)) [4] (by kernel_rfl) ?_;conv=>whnf
 refine ⟨rfl,?_⟩;conv=>whnf
 refine use (zc7 F s 70 2 71 hs ⟨by decide,by decide⟩ (rI 3 (by decide))) [(1,1)] rfl ⟨rfl,tv⟩ rfl ⟨zbf s _,tv⟩ (by simp [SV.below,SA.below]) ⟨rfl,tv⟩ ?_
 rintro out0 F0 h0 n0 hle ⟨rfl,rfl,rfl,rfl⟩
 clear hle;conv=>whnf
 refine ⟨Fz.r F,rfl,?_⟩;conv=>whnf
 refine use (zc7 F s 71 0 72 hs ⟨by decide,by decide⟩ (rI 4 (by decide))) [(1,1)] rfl ⟨rfl,tv⟩ rfl ⟨zbf s _,tv⟩ (by simp [SV.below,SA.below]) ⟨rfl,tv⟩ ?_
 rintro out0 F0 h0 n0 hle ⟨rfl,rfl,rfl,rfl⟩
 clear hle;conv=>whnf
 refine ⟨Fz.r F,rfl,?_⟩;conv=>whnf
 refine ⟨Fz.r F,rfl,?_⟩;conv=>whnf
 refine ⟨Fz.r F,rfl,?_⟩;conv=>whnf
 refine ⟨nb rfl,[enc (2,0)],rfl,?_⟩;conv=>whnf
 refine ⟨rfl,rfl,rfl,nb rfl,fun cs01 hcs=>?_⟩
 clear hcs;conv=>whnf
 refine ⟨Fz.r F,rfl,?_⟩;conv=>whnf
 refine sr_go hΘ ?_;conv=>whnf
 refine brd (by decide) ?_;conv=>whnf
 refine ⟨nb rfl,_,rfl,?_⟩;conv=>whnf
 refine ⟨rfl,rfl,?_⟩;conv=>whnf
 refine ⟨by show 1 * 32 ≤ 140737488355328; omega,fun cc0 hcc=>?_⟩
 clear hcc;conv=>whnf
 refine sr_go hΘ ?_;conv=>whnf
 -- claim 2
 refine bre (by decide) ?_;conv=>whnf
 refine use (zc7 F s 72 1 73 hs ⟨by decide,by decide⟩ (rI 5 (by decide))) [(1,1)] rfl ⟨rfl,tv⟩ rfl ⟨zbf s _,tv⟩ (by simp [SV.below,SA.below]) ⟨rfl,tv⟩ ?_
 rintro out0 F0 h0 n0 hle ⟨rfl,rfl,rfl,rfl⟩
 clear hle;conv=>whnf
 refine gae (by decide) ?_;conv=>whnf
 refine useFo (zc3 F _ _) rfl ⟨rfl,rfl,tv⟩ rfl ?_
 rintro _ _ lm ⟨rfl,⟨hb,rfl⟩ | ⟨hb,rfl⟩⟩
 rotate_left
 ·exact absurd hb (by decide)
 clear hb lm;conv=>whnf
 refine zef hΘ 1 ?_;conv=>whnf
 refine bre (by decide) ?_;conv=>whnf
 refine drawP hΘ mixed (lk [0,1,2,4] (.alt 3 (.alt 5 (.alt 6 (.alt 7 (.alt 8 (.look 9 (.last 10 .done)) .nil) .nil) .nil) .nil) .nil)) [11] (by kernel_rfl) ?_;conv=>whnf
 refine ⟨rfl,?_⟩;conv=>whnf
 refine use (zc7 F s 73 6 74 hs ⟨by decide,by decide⟩ (rI 6 (by decide))) [(1,1)] rfl ⟨rfl,tv⟩ rfl ⟨zbf s _,tv⟩ (by simp [SV.below,SA.below]) ⟨rfl,tv⟩ ?_
 rintro out0 F0 h0 n0 hle ⟨rfl,rfl,rfl,rfl⟩
 clear hle;conv=>whnf
 refine ⟨Fz.r F,rfl,?_⟩;conv=>whnf
 refine use (zc7 F s 74 0 75 hs ⟨by decide,by decide⟩ (rI 7 (by decide))) [(1,1)] rfl ⟨rfl,tv⟩ rfl ⟨zbf s _,tv⟩ (by simp [SV.below,SA.below]) ⟨rfl,tv⟩ ?_
 rintro out0 F0 h0 n0 hle ⟨rfl,rfl,rfl,rfl⟩
 clear hle;conv=>whnf
 refine ⟨Fz.r F,rfl,?_⟩;conv=>whnf
 refine ⟨Fz.r F,rfl,?_⟩;conv=>whnf
 refine ⟨Fz.r F,rfl,?_⟩;conv=>whnf
 refine ⟨nb rfl,[enc (6,0)],rfl,?_⟩;conv=>whnf
 refine ⟨rfl,rfl,?_⟩;conv=>whnf
 refine ⟨by show 1 * 16 ≤ 140737488355328; omega,fun cs10 hcs=>?_⟩
 clear hcs;conv=>whnf
 refine ⟨Fz.r F,rfl,?_⟩;conv=>whnf
 refine sr_go hΘ ?_;conv=>whnf
 refine brd (by decide) ?_;conv=>whnf
 refine ⟨nb rfl,_,rfl,?_⟩;conv=>whnf
 refine ⟨rfl,rfl,rfl,nb rfl,fun cc1 hcc=>?_⟩
 clear hcc;conv=>whnf
 refine sr_go hΘ ?_;conv=>whnf
 -- claim 3
 refine bre (by decide) ?_;conv=>whnf
 refine use (zc7 F s 75 0 76 hs ⟨by decide,by decide⟩ (rI 8 (by decide))) [(1,1)] rfl ⟨rfl,tv⟩ rfl ⟨zbf s _,tv⟩ (by simp [SV.below,SA.below]) ⟨rfl,tv⟩ ?_
 rintro out0 F0 h0 n0 hle ⟨rfl,rfl,rfl,rfl⟩
 clear hle;conv=>whnf
 refine gae (by decide) ?_;conv=>whnf
 refine useFo (zc3 F _ _) rfl ⟨rfl,rfl,tv⟩ rfl ?_
 rintro _ _ lm ⟨rfl,⟨hb,rfl⟩ | ⟨hb,rfl⟩⟩
 rotate_left
 ·exact absurd hb (by decide)
 clear hb lm;conv=>whnf
 refine zef hΘ 0 ?_;conv=>whnf
 refine brd (by decide) ?_;conv=>whnf
 refine ⟨nb rfl,_,rfl,?_⟩;conv=>whnf
 refine ⟨rfl,rfl,rfl,nb rfl,fun cc2 hcc=>?_⟩
 clear hcc;conv=>whnf
 refine sr_go hΘ ?_;conv=>whnf
 -- claim 4
 refine bre (by decide) ?_;conv=>whnf
 refine use (zc7 F s 76 0 77 hs ⟨by decide,by decide⟩ (rI 9 (by decide))) [(1,1)] rfl ⟨rfl,tv⟩ rfl ⟨zbf s _,tv⟩ (by simp [SV.below,SA.below]) ⟨rfl,tv⟩ ?_
 rintro out0 F0 h0 n0 hle ⟨rfl,rfl,rfl,rfl⟩
 clear hle;conv=>whnf
 refine gae (by decide) ?_;conv=>whnf
 refine useFo (zc3 F _ _) rfl ⟨rfl,rfl,tv⟩ rfl ?_
 rintro _ _ lm ⟨rfl,⟨hb,rfl⟩ | ⟨hb,rfl⟩⟩
 rotate_left
 ·exact absurd hb (by decide)
 clear hb lm;conv=>whnf
 refine zef hΘ 0 ?_;conv=>whnf
 refine brd (by decide) ?_;conv=>whnf
 refine ⟨nb rfl,_,rfl,?_⟩;conv=>whnf
 refine ⟨rfl,rfl,rfl,nb rfl,fun cc3 hcc=>?_⟩
 clear hcc;conv=>whnf
 refine sr_go hΘ ?_;conv=>whnf
 -- claim 5
 refine bre (by decide) ?_;conv=>whnf
 refine use (zc7 F s 77 0 78 hs ⟨by decide,by decide⟩ (rI 10 (by decide))) [(1,1)] rfl ⟨rfl,tv⟩ rfl ⟨zbf s _,tv⟩ (by simp [SV.below,SA.below]) ⟨rfl,tv⟩ ?_
 rintro out0 F0 h0 n0 hle ⟨rfl,rfl,rfl,rfl⟩
 clear hle;conv=>whnf
 refine gae (by decide) ?_;conv=>whnf
 refine useFo (zc3 F _ _) rfl ⟨rfl,rfl,tv⟩ rfl ?_
 rintro _ _ lm ⟨rfl,⟨hb,rfl⟩ | ⟨hb,rfl⟩⟩
 rotate_left
 ·exact absurd hb (by decide)
 clear hb lm;conv=>whnf
 refine zef hΘ 0 ?_;conv=>whnf
 refine brd (by decide) ?_;conv=>whnf
 refine ⟨nb rfl,_,rfl,?_⟩;conv=>whnf
 refine ⟨rfl,rfl,rfl,nb rfl,fun cc4 hcc=>?_⟩
 clear hcc;conv=>whnf
 refine sr_go hΘ ?_;conv=>whnf
 -- claim 6
 refine bre (by decide) ?_;conv=>whnf
 refine use (zc7 F s 78 0 79 hs ⟨by decide,by decide⟩ (rI 11 (by decide))) [(1,1)] rfl ⟨rfl,tv⟩ rfl ⟨zbf s _,tv⟩ (by simp [SV.below,SA.below]) ⟨rfl,tv⟩ ?_
 rintro out0 F0 h0 n0 hle ⟨rfl,rfl,rfl,rfl⟩
 clear hle;conv=>whnf
 refine gae (by decide) ?_;conv=>whnf
 refine useFo (zc3 F _ _) rfl ⟨rfl,rfl,tv⟩ rfl ?_
 rintro _ _ lm ⟨rfl,⟨hb,rfl⟩ | ⟨hb,rfl⟩⟩
 rotate_left
 ·exact absurd hb (by decide)
 clear hb lm;conv=>whnf
 refine zef hΘ 0 ?_;conv=>whnf
 refine brd (by decide) ?_;conv=>whnf
 refine ⟨nb rfl,_,rfl,?_⟩;conv=>whnf
 refine ⟨rfl,rfl,rfl,nb rfl,fun cc5 hcc=>?_⟩
 clear hcc;conv=>whnf
 refine sr_go hΘ ?_;conv=>whnf
 -- claim 7
 refine bre (by decide) ?_;conv=>whnf
 refine use (zc7 F s 79 0 80 hs ⟨by decide,by decide⟩ (rI 12 (by decide))) [(1,1)] rfl ⟨rfl,tv⟩ rfl ⟨zbf s _,tv⟩ (by simp [SV.below,SA.below]) ⟨rfl,tv⟩ ?_
 rintro out0 F0 h0 n0 hle ⟨rfl,rfl,rfl,rfl⟩
 clear hle;conv=>whnf
 refine gae (by decide) ?_;conv=>whnf
 refine useFo (zc3 F _ _) rfl ⟨rfl,rfl,tv⟩ rfl ?_
 rintro _ _ lm ⟨rfl,⟨hb,rfl⟩ | ⟨hb,rfl⟩⟩
 rotate_left
 ·exact absurd hb (by decide)
 clear hb lm;conv=>whnf
 refine zef hΘ 0 ?_;conv=>whnf
 refine brd (by decide) ?_;conv=>whnf
 refine ⟨nb rfl,_,rfl,?_⟩;conv=>whnf
 refine ⟨rfl,rfl,rfl,nb rfl,fun cc6 hcc=>?_⟩
 clear hcc;conv=>whnf
 refine sr_go hΘ ?_;conv=>whnf
 -- claim 8
 refine bre (by decide) ?_;conv=>whnf
 refine use (zc7 F s 80 0 81 hs ⟨by decide,by decide⟩ (rI 13 (by decide))) [(1,1)] rfl ⟨rfl,tv⟩ rfl ⟨zbf s _,tv⟩ (by simp [SV.below,SA.below]) ⟨rfl,tv⟩ ?_
 rintro out0 F0 h0 n0 hle ⟨rfl,rfl,rfl,rfl⟩
 clear hle;conv=>whnf
 refine gae (by decide) ?_;conv=>whnf
 refine useFo (zc3 F _ _) rfl ⟨rfl,rfl,tv⟩ rfl ?_
 rintro _ _ lm ⟨rfl,⟨hb,rfl⟩ | ⟨hb,rfl⟩⟩
 rotate_left
 ·exact absurd hb (by decide)
 clear hb lm;conv=>whnf
 refine zef hΘ 0 ?_;conv=>whnf
 refine brd (by decide) ?_;conv=>whnf
 refine ⟨nb rfl,_,rfl,?_⟩;conv=>whnf
 refine ⟨rfl,rfl,rfl,nb rfl,fun cc7 hcc=>?_⟩
 clear hcc;conv=>whnf
 refine sr_go hΘ ?_;conv=>whnf
 refine brd (by decide) ?_;conv=>whnf
 refine drawP hΘ mixed (lk [0,1,2,3,4,5,6,7,8,9] (.alt 10 (.alt 11 .done .nil) .nil)) [1] (by kernel_rfl) ?_;conv=>whnf
 refine ⟨rfl,?_⟩;conv=>whnf
 refine ⟨rfl,?_⟩;conv=>whnf
 refine ⟨Fz.r F,rfl,?_⟩;conv=>whnf
 refine useFo (zc3 F _ _) rfl ⟨rfl,rfl,tv⟩ rfl ?_
 rintro _ _ lm ⟨rfl,⟨hb,rfl⟩ | ⟨hb,rfl⟩⟩
 rotate_left
 ·exact absurd hb (by rw [hsl]; decide)
 clear hb lm;conv=>whnf
 refine ⟨Fz.r F,rfl,?_⟩;conv=>whnf
 refine za0 8 (fun _=>.arr 56 2 ([(1,0),(2,0)].map enc) cs01) rfl rfl rfl (fun _ _=>rfl) (fun _ _=>SB.bB_ok rfl) ?_
 intro bA F1 l1 hbA
 refine za0 13 (fun _=>.arr 56 2 ([(6,0)].map enc) cs10) rfl rfl rfl (fun _ _=>rfl) (fun _ _=>SB.bB_ok rfl) ?_
 intro bB F2 l2 hbB
 refine swapC 33 (.arr 52 2 [[.int .i64 1,.slice false 8 0 0 2 2 cs01],[.int .i64 2,.slice false 13 0 0 2 1 cs10],[.int .i64 3,.slice true 0 0 0 2 0 0],[.int .i64 4,.slice true 0 0 0 2 0 0],[.int .i64 5,.slice true 0 0 0 2 0 0],[.int .i64 6,.slice true 0 0 0 2 0 0],[.int .i64 7,.slice true 0 0 0 2 0 0],[.int .i64 8,.slice true 0 0 0 2 0 0]] cc7) rfl (zug rfl (by show ∀ x ∈ (_:List (List SA)),x.length = 2; simp) (fun _=>rfl)) (SB.bB_ok rfl) ?_
 refine za0 33 (fun _=>.arr 52 2 [[.int .i64 1,.slice false 0 (bA 0) 0 2 2 cs01],[.int .i64 2,.slice false 0 (bB 0) 0 2 1 cs10],[.int .i64 3,.slice true 0 0 0 2 0 0],[.int .i64 4,.slice true 0 0 0 2 0 0],[.int .i64 5,.slice true 0 0 0 2 0 0],[.int .i64 6,.slice true 0 0 0 2 0 0],[.int .i64 7,.slice true 0 0 0 2 0 0],[.int .i64 8,.slice true 0 0 0 2 0 0]] cc7) rfl rfl rfl (fun _ _=>rfl) (fun _ _=>SB.bB_ok rfl) ?_
 intro bC F3 l3 hbC
 have hcl:ClsAt F3 (.slice false 0 (bC 0) 0 2 8 cc7) exCl:=by
  have hA:=l3 _ _ (l2 _ _ (hbA 0 rfl))
  have hB:=l3 _ _ (hbB 0 rfl)
  refine SlR.new (l:=exCl) (hbC 0 rfl) rfl fun k x hx=>?_
  match k,hx with
  |0,hx=>cases hx; exact ⟨_,rfl,_,rfl,Sl.new (l:=[(1,0),(2,0)]) hA⟩
  |1,hx=>cases hx; exact ⟨_,rfl,_,rfl,Sl.new (l:=[(6,0)]) hB⟩
  |2,hx=>cases hx; exact ⟨_,rfl,_,rfl,Sl.nil⟩
  |3,hx=>cases hx; exact ⟨_,rfl,_,rfl,Sl.nil⟩
  |4,hx=>cases hx; exact ⟨_,rfl,_,rfl,Sl.nil⟩
  |5,hx=>cases hx; exact ⟨_,rfl,_,rfl,Sl.nil⟩
  |6,hx=>cases hx; exact ⟨_,rfl,_,rfl,Sl.nil⟩
  |7,hx=>cases hx; exact ⟨_,rfl,_,rfl,Sl.nil⟩
  |k + 8,hx=>cases hx
 have hval:=zeh F3 _ ⟨src,dst,2,exCl⟩ hcl (by intro x hx; have:=zlb x hx; omega) (by show exCl.length < 1000000; decide)
 rw [hok] at hval
 refine useFo hval rfl (zaa _) rfl ?_
 rintro _ F4 l4 rfl;conv=>whnf
 refine useFo (zc3 F4 true _) rfl ⟨rfl,rfl,tv⟩ rfl ?_
 rintro _ _ lm ⟨rfl,⟨hb,rfl⟩ | ⟨hb,rfl⟩⟩
 rotate_left
 ·cases hb
 clear hb lm;conv=>whnf
 refine ⟨rfl,zyh 2 3 ?_⟩;conv=>whnf
 have l14:=Fz.t l1 (Fz.t l2 (Fz.t l3 l4))
 have hat:SB.cells 139 [.str s,.int .i64 81] = SB.cells 139 [.str s,.int .i64 (s.length:Int)]:=by rw [hsl]; rfl
 exact clean [] (.ret (.tup [.agg (crtS ⟨src,dst,2,exCl⟩ (.slice false 0 (bC 0) 0 2 8 cc7)),.va .nilif])) F4 [(1,crd s s.length)] 2 ⟨l14,rfl,rfl,_,rfl,KpsAt.up hcl l4⟩ ⟨rfl,rfl,tv⟩ rfl rfl (Out.bB_ok (o:=.ret (.tup [.agg (crtS ⟨src,dst,2,exCl⟩ (.slice false 0 (bC 0) 0 2 8 cc7)),.va .nilif])) rfl) ⟨zbf s _,tv⟩ ⟨Fz.r F4,hat,tv⟩
theorem zwy (F:Fz) (s src dst:List UInt8) (hsl:s.length = 81) (hok:crtOk ⟨src,dst,2,exCl⟩ = true)
  (r1:getS s 0 = (src,33,0)) (r2:getS s 33 = (dst,66,0)) (r3:getI s 66 = (2,67,0)) (rI:∀ k:Nat,k < 14 → getI s (67 + (k:Int)) = (exV[k]?.getD 0,68 + (k:Int),0)) :
  Fo Tryz.prog F 36 [.va (.str s)] (fun o F'=>∃ sk,o = .ret (.tup [.agg (crtS ⟨src,dst,2,exCl⟩ sk),.va (.int .i64 0)]) ∧ ClsAt F' sk exCl):=by
 have hcert:=z4n F s src dst hsl hok r1 r2 r3 rI
 refine fo_of hΘ Tryz.func36 rfl (by decide) _ _ rfl rfl rfl ?_;conv=>whnf
 refine use hcert [(1,2)] rfl ⟨rfl,tv⟩ rfl ⟨zbf s _,tv⟩ (by simp [SV.below,SA.below]) ⟨rfl,tv⟩ ?_
 rintro out0 F1 h0 n0 l1 ⟨rfl,rfl,sk,rfl,hk⟩
 have hk':=hk
 obtain ⟨kn,kb,ke,kc,kL,kr,rfl,k1,k2,k3,k4⟩:=hk
 conv=>whnf
 refine drawP hΘ mixed (.look 0 (.look 1 (.alt 2 (.alt 3 (.look 4 .done) .nil) .nil))) [3] (by kernel_rfl) ?_;conv=>whnf
 refine ⟨rfl,?_⟩;conv=>whnf
 refine usePu (z06 F1) rfl (zaa _) rfl ?_;conv=>whnf
 refine ⟨Fz.r F1,rfl,?_⟩;conv=>whnf
 refine ⟨Fz.r F1,rfl,?_⟩;conv=>whnf
 exact endFo (.ret (.tup [.agg (crtS ⟨src,dst,2,exCl⟩ (.slice kn 0 kb ke 2 exCl.length kc)),.va (.int .i64 0)])) F1 rfl l1 (Fz.r F1) ⟨_,rfl,hk'⟩ (zaj _) rfl
end Go.Proofs.YtfnkamphhpldcaaGreatDoor
