import Derived.Test.YtfnkamphhpldcaaGreatDoorK39
import Derived.Test.YtfnkamphhpldcaaGreatDoorK12
set_option maxHeartbeats 64000000
namespace Go.Proofs.YtfnkamphhpldcaaGreatDoor
open Go Sx
set_option maxRecDepth 100000
def mgK (id:Int) (a b:Int):Mig:=⟨id,a,b,true,[]⟩
theorem zwm {id:Int} (h:1 ≤ id ∧ id ≤ 1000000) {a b:Int} (ha:idOk a = true) (hb:idOk b = true):migOk (mgK id a b) = true:=by
 have h1:idOk id = true:=by simp only [idOk,decide_eq_true h.1,decide_eq_true h.2,Bool.and_self]
 show (asc [] && (idOk id && (idOk a && (idOk b && (!(true && decide (0 < 0)) && ([]:List Kp).all zby))))) = true
 rw [h1,ha,hb]; rfl
def noCl:List Kp:=zbm []
theorem zqb:noCl = [(1,[]),(2,[]),(3,[]),(4,[]),(5,[]),(6,[]),(7,[]),(8,[])]:=by decide
theorem ztk {d:Dc} (hd:docOk d = true) {p:Int} (hp:1 ≤ p ∧ p ≤ 8):zde p [] (propB p d) = (propB p d,0):=by
 rw [zrz hp]
 have h:=zqq (l:=[]) (show zbn p [] = true by simp [zbn,hp.1,hp.2]) (zoc hp hd)
 rw [h]; rfl
theorem z3k (d:Dc) {k:Nat} (hk:k < 8):atV (allB d) ((k:Int) + 1) = propB ((k:Int) + 1) d:=by
 unfold atV
 rw [show ((k:Int) + 1 - 1).toNat = k by omega,zrx d k hk]; rfl
theorem zyj {d:Dc} (hd:docOk d = true):noCl.all (chkAt (allB d) (allB d)) = true:=by
 rw [qo]
 intro x hx
 obtain ⟨k,hk,rfl⟩:=q9.1 hx
 have hk8:k < 8:=qcf.1 hk
 have hcl:zb2 [] ((k:Int) + 1) = []:=by
  unfold zb2
  simp [zb0]
 have ha:=ztk hd (p:=(k:Int) + 1) (by omega)
 show (decide (zb2 [] ((k:Int) + 1) = [(6,0)]) || (decide ((zde ((k:Int) + 1) (zb2 [] ((k:Int) + 1)) (atV (allB d) ((k:Int) + 1))).2 = 0) && decide ((zde ((k:Int) + 1) (zb2 [] ((k:Int) + 1)) (atV (allB d) ((k:Int) + 1))).1 = atV (allB d) ((k:Int) + 1)))) = true
 rw [hcl,z3k d hk8,ha]
 simp
def crK (d:Dc):Crt:=⟨root8 (allB d),root8 (allB d),1,noCl⟩
theorem makeK {d:Dc} (hd:docOk d = true) {m:Mig} (hm:migOk m = true) (hk:m.keep = []):zdh m d d = true:=by
 have h:clOk noCl 1 = true:=by rw [zqb]; decide +kernel
 rw [zhn,hm,hd,hk]
 show (true && (true && (true && (clOk noCl 1 && noCl.all (chkAt (allB d) (allB d)))))) = true
 rw [h,zyj hd]; rfl
theorem z7i {d:Dc} (hd:docOk d = true):crtOk (crK d) = true:=
 zsh (m:=mgK 1 1 2) (d:=d) (e:=d) (makeK hd (zwm (by omega) (by decide) (by decide)) rfl)
def crKK (d:Dc):Crt:=⟨root8 (allB d),root8 (allB d),2,noCl⟩
theorem compK {d:Dc} (hd:docOk d = true):zcc [crK d,crK d] = some (crKK d):=by
 have hok:=z7i hd
 have hj:zcw (crK d) (crK d) = true:=by
  have h1:decide ((crK d).dst = (crK d).src) = true:=decide_eq_true rfl
  rw [zcw,h1,hok]; rfl
 have hz:List.zipWith zfu noCl noCl = noCl:=by rw [zqb]; decide +kernel
 have hjc:joinC (crK d) (crK d) = crKK d:=by
  show Crt.mk (root8 (allB d)) (root8 (allB d)) 2 (List.zipWith zfu noCl noCl) = _
  rw [hz]; rfl
 rw [zcc,if_pos hok,foldS,if_pos hj,foldS,hjc]
theorem swapM (m:Mig) (rest:List SV) (ρ:Rho) (vs:List Value) (h:relL ρ (.agg (migS m .nilsl) :: rest) vs):relL ρ (.agg (migS m (.slice true 0 0 0 2 0 0)) :: rest) vs:=by
 match vs,h with
 |[],h=>exact h.elim
 |_ :: _,h=>exact ⟨h.1,h.2⟩
theorem zo1 (m:Mig) (rest:List SV) (n:Nat) (h:∀ s ∈ SV.agg (migS m .nilsl) :: rest,s.below n):∀ s ∈ SV.agg (migS m (.slice true 0 0 0 2 0 0)) :: rest,s.below n:=fun s hs=>by
 rcases qj.1 hs with rfl | hs
 ·intro a ha
  simp only [qj,qq,or_false] at ha
  rcases ha with rfl | rfl | rfl | rfl | rfl
  ·trivial
  ·trivial
  ·trivial
  ·trivial
  ·exact .inl rfl
 ·exact h s (by simp [hs])
theorem z08:∀ (k:Nat) (h:k < noCl.length),(noCl[k]'h).2.length = 0:=by
 intro k h
 have h1:∀ x ∈ noCl,x.2.length = 0:=by rw [zqb]; decide
 exact h1 _ (jj h)
theorem zk3:short noCl:=zd9 zcz
theorem zqs (F:Fz) (hM:MLF F) (hR:RNDF F) (a1 b1 a2 b2:SA) (d:Dc) (id s t:Int) (h1:DocAt F a1 b1 d) (h2:DocAt F a2 b2 d) (hs:DcSmall d) (hd:docOk d = true) (hm:migOk (mgK id s t) = true) :
  Fo Tryz.prog F 21 [.agg (migS (mgK id s t) (.slice true 0 0 0 2 0 0)),.agg (docS a1 b1 d.w d.bits),.agg (docS a2 b2 d.w d.bits)] (fun o F'=>∃ sc,o = .ret (.tup [.agg (crtS ⟨root8 (allB d),root8 (allB d),1,noCl⟩ sc),.va (.int .i64 0)]) ∧ ClsAt F' sc noCl):=
 zb5 (zmt F hM hR (.slice true 0 0 0 2 0 0) _ _ _ _ (mgK id s t) d d SlR.nil zcz (by show 0 < 1000000; decide) h1 h2 hs hs) fun o F' h=>by
  rcases h with ⟨h,_⟩ | ⟨_,h⟩
  ·exact absurd (h.symm.trans (makeK hd hm rfl)) (by simp)
  ·exact h
theorem zzt (F:Fz) (b:Nat) (sa sb:SA) (d:Dc) (hd:docOk d = true) (hA:ClsAt F sa noCl) (hB:ClsAt F sb noCl) (hb:F b = some (.arr 48 4 [crtS ⟨root8 (allB d),root8 (allB d),1,noCl⟩ sa,crtS ⟨root8 (allB d),root8 (allB d),1,noCl⟩ sb] 2)) :
  Fo Tryz.prog F 30 [.va (.slice false 0 b 0 4 2 2)] (fun o F'=>∃ sk,o = .ret (.tup [.agg (crtS ⟨root8 (allB d),root8 (allB d),2,noCl⟩ sk),.va (.int .i64 0)]) ∧ ClsAt F' sk noCl):=
 zb5 (zge F false b 0 2 [crK d,crK d] (crts2 (c1:=crK d) (c2:=crK d) hA hB hb) (qf 2) (zhz zk3 zk3) (zhz (p:=fun c=>c.cl.length < 1000000) (show noCl.length < 1000000 by decide) (show noCl.length < 1000000 by decide)) (by show 2 < 1000000; decide)) fun o F' h=>by
  rcases h with ⟨h,_⟩ | ⟨c,h,h2⟩
  ·exact absurd (h.symm.trans (compK hd)) (by simp)
  ·have h3:c = crKK d:=Option.some.inj (h.symm.trans (compK hd))
   subst h3; exact h2
theorem zxe (F0:Fz) (m0:MLF F0) (r0:RNDF F0) (n1 n2 n3:Bool) (b1 e1 s1 l1 c1 b2 e2 s2 l2 c2 b3 e3 s3 l3 c3:Nat) (q1 q2 id:Int) (hid:i64 id) (d:Dc) (hd:docOk d = true) (hs:DcSmall d)
  (hfirst:∀ F1,Fz.le F0 F1 → Fo Tryz.prog F1 15 [.agg [.slice n1 0 b1 e1 s1 l1 c1,.slice n2 0 b2 e2 s2 l2 c2,.int .i64 q1,.int .i64 q2,.slice n3 0 b3 e3 s3 l3 c3]] (fun o F'=>∃ a b,o = .ret (.agg (docS a b d.w d.bits)) ∧ DocAt F' a b d)) :
  Fo Tryz.prog F0 11 [.agg [.slice n1 0 b1 e1 s1 l1 c1,.slice n2 0 b2 e2 s2 l2 c2,.int .i64 q1,.int .i64 q2,.slice n3 0 b3 e3 s3 l3 c3],.va (.int .i64 id)] (fun o F'=>o = .ret (.va (.bool true)) ∧ True):=by
 have hsane:=z6n F0 m0 r0
 have hpk:=fun F=>zyf id 1000000 hid (by decide) F
 have hv:=zch id 1000000 (by decide) hid
 obtain ⟨v,hvd⟩:∃ v,pickI id 1000000 = v:=⟨_,rfl⟩
 rw [hvd] at hpk hv
 have hw:IntKind.i64.wrap (1 + v) = 1 + v:=zal (by omega) (by omega)
 have hm1:migOk (mgK (IntKind.i64.wrap (1 + v)) 1 2) = true:=zwm (by rw [hw]; omega) (by decide) (by decide)
 have hm2:migOk (mgK (IntKind.i64.wrap (1 + v)) 2 1) = true:=zwm (by rw [hw]; omega) (by decide) (by decide)
 have hback:=fun F=>zym F (IntKind.i64.wrap (1 + v)) 1 2 hm1
 have hrun1:=fun F a b (h:DocAt F a b d)=>zwz F a b d (IntKind.i64.wrap (1 + v)) 1 2 true h hs hd hm1
 have hrun2:=fun F a b (h:DocAt F a b d)=>zwz F a b d (IntKind.i64.wrap (1 + v)) 2 1 true h hs hd hm2
 have hmk1:=fun F hM hR a b a' b' h h'=>zqs F hM hR a b a' b' d (IntKind.i64.wrap (1 + v)) 1 2 h h' hs hd hm1
 have hmk2:=fun F hM hR a b a' b' h h'=>zqs F hM hR a b a' b' d (IntKind.i64.wrap (1 + v)) 2 1 h h' hs hd hm2
 have hcp:=fun F b sa sb=>zzt F b sa sb d hd
 have hsm:=fun F a b a' b' (h:DocAt F a b d) (h':DocAt F a' b' d)=>zs4 F a b a' b' d h h' hs
 obtain ⟨R,hR⟩:∃ R,root8 (allB d) = R:=⟨_,rfl⟩
 simp only [hR] at hmk1 hmk2 hcp
 obtain ⟨L,K,w,s⟩:=d
 refine fo_of hΘ Tryz.func11 rfl (by decide) _ _ rfl rfl rfl ?_;conv=>whnf
 refine useFo hsane rfl (zaa _) rfl ?_
 rintro _ F1 u1 ⟨rfl,-⟩;conv=>whnf
 refine useFo (hfirst F1 u1) rfl (zaa _) rfl ?_
 rintro _ F2 u2 ⟨a,b,rfl,hD⟩
 have hD':=hD
 obtain ⟨an,ab,ae,ac,bn,bb,be,bc,rfl,rfl,-,-,-⟩:=hD
 conv=>whnf
 refine usePu (hpk F2) rfl (zaa _) rfl ?_;conv=>whnf
 refine zh0 (args':=SV.agg (migS (mgK (IntKind.i64.wrap (1 + v)) 1 2) (.slice true 0 0 0 2 0 0)) :: []) (swapM (mgK (IntKind.i64.wrap (1 + v)) 1 2) []) (zo1 (mgK (IntKind.i64.wrap (1 + v)) 1 2) []) ?_
 refine useFo (hback F2) rfl (zaa _) rfl ?_
 rintro _ F3 u3 rfl;conv=>whnf
 refine zh0 (args':=SV.agg (migS (mgK (IntKind.i64.wrap (1 + v)) 1 2) (.slice true 0 0 0 2 0 0)) :: [(.agg (docS (.slice an 0 ab ae 2 L.length ac) (.slice bn 0 bb be 6 K.length bc) w s))]) (swapM (mgK (IntKind.i64.wrap (1 + v)) 1 2) [(.agg (docS (.slice an 0 ab ae 2 L.length ac) (.slice bn 0 bb be 6 K.length bc) w s))]) (zo1 (mgK (IntKind.i64.wrap (1 + v)) 1 2) [(.agg (docS (.slice an 0 ab ae 2 L.length ac) (.slice bn 0 bb be 6 K.length bc) w s))]) ?_
 refine useFo (hrun1 F3 _ _ (hD'.mono u3)) rfl (zaa _) rfl ?_
 rintro _ F4 u4 ⟨a,b,rfl,hT⟩
 have hT':=hT
 obtain ⟨tn,tb,te,tc,yn,yb,ye,yc,rfl,rfl,-,-,-⟩:=hT
 conv=>whnf
 refine zh0 (args':=SV.agg (migS (mgK (IntKind.i64.wrap (1 + v)) 2 1) (.slice true 0 0 0 2 0 0)) :: [(.agg (docS (.slice tn 0 tb te 2 L.length tc) (.slice yn 0 yb ye 6 K.length yc) w s))]) (swapM (mgK (IntKind.i64.wrap (1 + v)) 2 1) [(.agg (docS (.slice tn 0 tb te 2 L.length tc) (.slice yn 0 yb ye 6 K.length yc) w s))]) (zo1 (mgK (IntKind.i64.wrap (1 + v)) 2 1) [(.agg (docS (.slice tn 0 tb te 2 L.length tc) (.slice yn 0 yb ye 6 K.length yc) w s))]) ?_
 refine useFo (hrun2 F4 _ _ hT') rfl (zaa _) rfl ?_
 rintro _ F5 u5 ⟨a,b,rfl,hH⟩
 have hH':=hH
 obtain ⟨hn,hb,he,hc,kn,kb,ke,kc,rfl,rfl,-,-,-⟩:=hH
 have x25:=Fz.t u3 (Fz.t u4 u5)
 have m5:=m0.mono (Fz.t u1 (Fz.t u2 x25))
 have r5:=r0.mono (Fz.t u1 (Fz.t u2 x25))
 conv=>whnf
 refine zh0 (args':=SV.agg (migS (mgK (IntKind.i64.wrap (1 + v)) 1 2) (.slice true 0 0 0 2 0 0)) :: [(.agg (docS (.slice an 0 ab ae 2 L.length ac) (.slice bn 0 bb be 6 K.length bc) w s)),(.agg (docS (.slice tn 0 tb te 2 L.length tc) (.slice yn 0 yb ye 6 K.length yc) w s))]) (swapM (mgK (IntKind.i64.wrap (1 + v)) 1 2) [(.agg (docS (.slice an 0 ab ae 2 L.length ac) (.slice bn 0 bb be 6 K.length bc) w s)),(.agg (docS (.slice tn 0 tb te 2 L.length tc) (.slice yn 0 yb ye 6 K.length yc) w s))]) (zo1 (mgK (IntKind.i64.wrap (1 + v)) 1 2) [(.agg (docS (.slice an 0 ab ae 2 L.length ac) (.slice bn 0 bb be 6 K.length bc) w s)),(.agg (docS (.slice tn 0 tb te 2 L.length tc) (.slice yn 0 yb ye 6 K.length yc) w s))]) ?_
 refine useFo (hmk1 F5 m5 r5 _ _ _ _ (hD'.mono x25) (hT'.mono u5)) rfl (zaa _) rfl ?_
 rintro _ F6 u6 ⟨sc1,rfl,hC1⟩
 have hC1':=hC1
 obtain ⟨fn,fb,fe,fc,fL,fr,rfl,-,-,-,-⟩:=hC1
 conv=>whnf
 refine zh0 (args':=SV.agg (migS (mgK (IntKind.i64.wrap (1 + v)) 2 1) (.slice true 0 0 0 2 0 0)) :: [(.agg (docS (.slice tn 0 tb te 2 L.length tc) (.slice yn 0 yb ye 6 K.length yc) w s)),(.agg (docS (.slice hn 0 hb he 2 L.length hc) (.slice kn 0 kb ke 6 K.length kc) w s))]) (swapM (mgK (IntKind.i64.wrap (1 + v)) 2 1) [(.agg (docS (.slice tn 0 tb te 2 L.length tc) (.slice yn 0 yb ye 6 K.length yc) w s)),(.agg (docS (.slice hn 0 hb he 2 L.length hc) (.slice kn 0 kb ke 6 K.length kc) w s))]) (zo1 (mgK (IntKind.i64.wrap (1 + v)) 2 1) [(.agg (docS (.slice tn 0 tb te 2 L.length tc) (.slice yn 0 yb ye 6 K.length yc) w s)),(.agg (docS (.slice hn 0 hb he 2 L.length hc) (.slice kn 0 kb ke 6 K.length kc) w s))]) ?_
 refine useFo (hmk2 F6 (m5.mono u6) (r5.mono u6) _ _ _ _ ((hT'.mono u5).mono u6) (hH'.mono u6)) rfl (zaa _) rfl ?_
 rintro _ F7 u7 ⟨sc2,rfl,hC2⟩
 have hC2':=hC2
 obtain ⟨gn,gb,ge,gc,gL,gr,rfl,-,-,-,-⟩:=hC2
 conv=>whnf
 refine za0 9 (fun _=>.arr 48 4 [crtS ⟨R,R,1,noCl⟩ (.slice fn 0 fb fe 2 noCl.length fc),crtS ⟨R,R,1,noCl⟩ (.slice gn 0 gb ge 2 noCl.length gc)] 2) rfl rfl rfl (fun _ _=>rfl) (fun _ _=>SB.bB_ok rfl) ?_
 intro z1 F8 u8 hz1
 refine useFo (hcp F8 (z1 0) _ _ (KpsAt.up hC1' (Fz.t u7 u8)) (KpsAt.up hC2' u8) (hz1 0 rfl)) rfl (zaa _) rfl ?_
 rintro _ F9 u9 ⟨xk,rfl,hX⟩
 have x39:=Fz.t u6 (Fz.t u7 (Fz.t u8 u9))
 obtain ⟨xn,xb,xe,xc,xL,xr,rfl,x1,x2,x3,x4⟩:=hX
 conv=>whnf
 repeat
  refine gae (by decide) ?_;conv=>whnf
 refine gae (by simp) ?_;conv=>whnf
 refine ⟨fun _=>?_,fun g=>absurd g (by show ¬ ((!decide ((2:Int) = 2)) = true); decide)⟩;conv=>whnf
 refine brd (by decide) ?_;conv=>whnf
 refine zan hΘ (X:={ k:Nat // k ≤ 8 }) (fun x=>[(20,.va (.int .i64 x.1))]) [4,106,107,108,109,110,111,112,113,114,115,116,117] (fz fun _=>F9) 11 (fun x=>8 - x.1) ⟨0,by omega⟩
  (fun hH hT=>leI [] hH hT rfl ⟨tv,tv⟩ ⟨rfl,tv⟩ ⟨Fz.r F9,tv⟩) ?_
 rintro ⟨k,hk⟩ hH hT
 by_cases g:k < 8
 ·have gi:(k:Int) < 8:=by omega
  have gn:k < noCl.length:=g
  have gni:(k:Int) < (noCl.length:Int):=gi
  have hdec:8 - (k + 1) < 8 - k:=by omega
  have hk62:k < 4611686018427387904:=by omega
  have hnil:=z08 k gn
  have hxn:xn = false:=SlR.lt x1 gn
  have hObt:=SlR.at x4 gn
  obtain ⟨y,hy,sa,rfl,hst⟩:=hObt
  obtain ⟨hstn,hstb,hste,hstc,hstL,hstr,rfl,hst1,hst2,hst3,hst4⟩:=hst
  conv=>whnf
  refine bri gi ?_;conv=>whnf
  refine ⟨hxn,⟨by simp,gni⟩,?_⟩;conv=>whnf
  refine ⟨_,x2 hxn,?_⟩;conv=>whnf
  refine ⟨_,hy,?_⟩;conv=>whnf
  refine br (fun h=>absurd h (by rw [hnil]; decide)) (fun _=>?_);conv=>whnf
  exact ⟨⟨k + 1,g⟩,hdec,leR [] hH hT rfl ⟨tv,tv⟩ ⟨cnt hk62,tv⟩ ⟨Fz.r F9,tv⟩⟩
 ·have gi:¬ (k:Int) < 8:=by omega
  have hS:=hsm F9 _ _ _ _ (hD'.mono (Fz.t x25 x39)) (hH'.mono x39)
  conv=>whnf
  refine brj gi ?_;conv=>whnf
  refine usePu hS rfl (zaa _) rfl ?_;conv=>whnf
  exact endFo (.ret (.va (.bool true))) F9 rfl (Fz.t u1 (Fz.t u2 (Fz.t x25 x39))) (Fz.r F9) ⟨rfl,tv⟩ (zaj _) rfl
def chB:List UInt8:=[97,66,32,99,32,68]
def mkT:Nat → Int → List UInt8 → List UInt8
 |0,_,s=>s
 |f + 1,n,s=>if 0 < n then mkT f (n.tdiv 6) (s ++ [chB[(n.tmod 6).toNat]?.getD 97]) else s
theorem z16:∀ (f:Nat) (n:Int) (s:List UInt8),s.any badC = false → (mkT f n s).any badC = false ∧ (mkT f n s).length ≤ s.length + f
 |0,_,s,h=>⟨h,qf _⟩
 |f + 1,n,s,h=>by
  rw [mkT]
  split
  ·have hc:badC (chB[(n.tmod 6).toNat]?.getD 97) = false:=by
    have h1:∀ x ∈ chB,badC x = false:=by decide
    cases hx:chB[(n.tmod 6).toNat]? with
    |none=>decide
    |some x=>exact h1 x (yi hx)
   have ih:=z16 f (n.tdiv 6) (s ++ [chB[(n.tmod 6).toNat]?.getD 97]) (by rw [List.any_append,h]; simp [hc])
   refine ⟨ih.1,jk ih.2 ?_⟩
   rw [qa]; simp; omega
  ·exact ⟨h,by omega⟩
def mkLn (x:Stp):DLn:=(mkT 8 (pickI x.1 1000000) [],pickI x.2 8)
theorem z3i {x:Stp} (h2:i64 x.2):dlnOk (mkLn x) = true:=by
 have h:=z16 8 (pickI x.1 1000000) [] rfl
 have hm:=zch x.2 8 (by decide) h2
 have hl:(mkT 8 (pickI x.1 1000000) []).length ≤ 80:=jk h.2 (by decide)
 show ((decide ((mkT 8 (pickI x.1 1000000) []).length ≤ 80) && !(mkT 8 (pickI x.1 1000000) []).any badC) && inR (pickI x.2 8) 0 7) = true
 rw [h.1,decide_eq_true hl,inR,decide_eq_true (show 0 ≤ pickI x.2 8 by omega),decide_eq_true (show pickI x.2 8 ≤ 7 by omega)]; rfl
abbrev Q3:=Int × Int × Int
def cellOf (k:Int) (x:Q3):Cel:=
 if pickI x.1 3 = 0 then ⟨k.tdiv 5,k.tmod 5,true,0,pickI x.2.1 (k.tdiv 5 + 1),pickI x.2.2 (k.tmod 5 + 1)⟩
 else ⟨k.tdiv 5,k.tmod 5,false,pickI x.2.1 201 - 100,0,0⟩
def mkC:List Q3 → Int → List Cel → List Cel
 |[],_,o=>o
 |x :: r,k,o=>if k < 25 then mkC r (k + 1 + pickI (x.1.tdiv 3) 3) (o ++ [cellOf k x]) else o
theorem zwq {k:Int} (h0:0 ≤ k) (h25:k < 25) {x:Q3} (hx:i64 x.2.1 ∧ i64 x.2.2):celOk (cellOf k x) = true ∧ (cellOf k x).row * 5 + (cellOf k x).col = k ∧ 0 ≤ (cellOf k x).col ∧ (cellOf k x).col ≤ 4:=by
 have e1:k.tdiv 5 = k / 5:=q8 h0
 have e2:k.tmod 5 = k % 5:=yu h0
 unfold cellOf
 rw [e1,e2]
 split
 ·have p1:=zch x.2.1 (k / 5 + 1) (by omega) hx.1
  have p2:=zch x.2.2 (k % 5 + 1) (by omega) hx.2
  refine ⟨?_,by show k / 5 * 5 + k % 5 = k; omega,by show 0 ≤ k % 5; omega,by show k % 5 ≤ 4; omega⟩
  simp only [celOk,inR,if_true,decide_true,y5,qd,decide_eq_true_eq]
  omega
 ·have p1:=zch x.2.1 201 (by decide) hx.1
  refine ⟨?_,by show k / 5 * 5 + k % 5 = k; omega,by show 0 ≤ k % 5; omega,by show k % 5 ≤ 4; omega⟩
  simp only [celOk,inR,jm,if_false,decide_true,qc5,qd,decide_eq_true_eq]
  omega
theorem zr8 {x:Int} (h:i64 x):i64 (x.tdiv 3):=by
 unfold i64 at *
 rcases Int.le_total 0 x with h0 | h0
 ·rw [q8 h0]; omega
 ·have e:x.tdiv 3 = -((-x).tdiv 3):=by rw [Int.neg_tdiv,Int.neg_neg]
  rw [e,q8 (by omega)]; omega
theorem zr0 {x:Int} (h:i64 x):i64 (x.tdiv 6):=by
 unfold i64 at *
 rcases Int.le_total 0 x with h0 | h0
 ·rw [q8 h0]; omega
 ·have e:x.tdiv 6 = -((-x).tdiv 6):=by rw [Int.neg_tdiv,Int.neg_neg]
  rw [e,q8 (by omega)]; omega
structure CInv (k:Int) (o:List Cel):Prop where
 k0:0 ≤ k
 asc:ascF o = true
 last:∀ l a,o = l ++ [a] → a.row * 5 + a.col < k ∧ 0 ≤ a.col ∧ a.col ≤ 4
 ok:∀ c ∈ o,celOk c = true
 len:(o.length:Int) ≤ k ∧ o.length ≤ 25
theorem z7d {a b:Cel} (h:a.row * 5 + a.col < b.row * 5 + b.col) (ha:0 ≤ a.col ∧ a.col ≤ 4) (hb:0 ≤ b.col ∧ b.col ≤ 4):ltC a b = true:=by
 unfold ltC
 by_cases h1:a.row < b.row
 ·simp [h1]
 ·have h2:a.row = b.row:=by omega
  have h3:a.col < b.col:=by omega
  simp [h2,h3]
theorem CInv.push {k j:Int} {o:List Cel} (h:CInv k o) (h25:k < 25) {x:Q3} (hx:i64 x.2.1 ∧ i64 x.2.2) (hj:0 ≤ j):CInv (k + 1 + j) (o ++ [cellOf k x]):=by
 have hc:=zwq h.k0 h25 hx
 refine ⟨by have:=h.k0; omega,?_,?_,?_,?_⟩
 ·rcases List.eq_nil_or_concat o with rfl | ⟨l,a,e⟩
  ·rfl
  ·rw [List.concat_eq_append] at e
   subst e
   have hl:=h.last l a rfl
   rw [qk]
   show ascF (l ++ [a,cellOf k x]) = true
   rw [zjr,h.asc,z7d (by omega) hl.2 hc.2.2]; rfl
 ·intro l a e
  have h1:=List.append_inj_right' e rfl
  have h2:cellOf k x = a:=by simpa using h1
  rw [← h2]; omega
 ·intro c hcm
  rcases yl.1 hcm with hcm | hcm
  ·exact h.ok c hcm
  ·have:c = cellOf k x:=by simpa using hcm
   rw [this]; exact hc.1
 ·have:=h.len
  rw [qa]; simp only [qe,qp]; omega
theorem zvl:∀ (l:List Q3) (k:Int) (o:List Cel),(∀ x ∈ l,i64 x.2.1 ∧ i64 x.2.2) → (∀ x ∈ l,i64 x.1) → CInv k o → ∃ k',CInv k' (mkC l k o)
 |[],k,o,_,_,h=>⟨k,h⟩
 |x :: r,k,o,hx,hx1,h=>by
  rw [mkC]
  split
  ·rename_i h25
   have h1:=hx1 x (by simp)
   have hp:=zch (x.1.tdiv 3) 3 (by decide) (zr8 h1)
   exact zvl r _ _ (fun y hy=>hx y (by simp [hy])) (fun y hy=>hx1 y (by simp [hy])) (h.push h25 (hx x (by simp)) hp.1)
  ·exact ⟨k,h⟩
def mkB (t n:Nat):List UInt8:=(List.range t).map fun i=>UInt8.ofNat (48 + n / 2 ^ i % 2)
def madeD (l:List Stp) (x:List Q3) (r0 r1:Int):Dc:=
 ⟨(l.take 6).map mkLn,mkC x 0 [],pickI r0 6,mkB (pickI r0 6 * (1 + pickI (r0.tdiv 6) 4)).toNat (pickI r1 1048576).toNat⟩
theorem zxu (t n:Nat):(mkB t n).all bitK = true:=by
 rw [qo]
 intro b hb
 obtain ⟨i,_,rfl⟩:=q9.1 hb
 rcases Nat.mod_two_eq_zero_or_one (n / 2 ^ i) with h | h
 ·rw [h]; rfl
 ·rw [h]; rfl
theorem zpl (t n:Nat):(mkB t n).length = t:=by simp [mkB]
theorem zyi {l:List Stp} {x:List Q3} {r0 r1:Int} (hl:∀ y ∈ l,i64 y.2) (hx:∀ y ∈ x,i64 y.2.1 ∧ i64 y.2.2) (hx1:∀ y ∈ x,i64 y.1) (h0:i64 r0):docOk (madeD l x r0 r1) = true ∧ DcSmall (madeD l x r0 r1):=by
 obtain ⟨k,hc⟩:=zvl x 0 [] hx hx1 ⟨by omega,rfl,fun l a e=>by simp at e,fun c hc=>by simp at hc,by simp⟩
 have hw:=zch r0 6 (by decide) h0
 have hh:=zch (r0.tdiv 6) 4 (by decide) (zr0 h0)
 have hll:((l.take 6).map mkLn).length ≤ 6:=by rw [qb,qn]; omega
 have hln:((l.take 6).map mkLn).all dlnOk = true:=by
  rw [qo]
  intro y hy
  obtain ⟨z,hz,rfl⟩:=q9.1 hy
  exact z3i (hl z (jv hz))
 have hcl:(mkC x 0 []).all celOk = true:=by rw [qo]; exact hc.ok
 obtain ⟨w,hwd⟩:∃ w,pickI r0 6 = w:=⟨_,rfl⟩
 obtain ⟨h,hhd⟩:∃ h,pickI (r0.tdiv 6) 4 = h:=⟨_,rfl⟩
 have hras:rasOk w (mkB (w * (1 + h)).toNat (pickI r1 1048576).toNat) = true:=by
  rw [hwd] at hw
  rw [hhd] at hh
  have hbits:=zxu (w * (1 + h)).toNat (pickI r1 1048576).toNat
  have hblen:=zpl (w * (1 + h)).toNat (pickI r1 1048576).toNat
  have hw32:inR w 0 32 = true:=by rw [inR,decide_eq_true (show 0 ≤ w by omega),decide_eq_true (show w ≤ 32 by omega)]; rfl
  by_cases e:w = 0
  ·subst e
   rw [rasOk,hw32,hbits]
   simp [mkB]
  ·have hp:0 ≤ w * (1 + h):=qb5 (by omega) (by omega)
   have hlen:((mkB (w * (1 + h)).toNat (pickI r1 1048576).toNat).length:Int) = w * (1 + h):=by rw [hblen]; exact qc2 hp
   have hg:hgt w (mkB (w * (1 + h)).toNat (pickI r1 1048576).toNat) = 1 + h:=by
    rw [hgt,if_neg (by omega),hlen,Int.mul_tdiv_cancel_left _ e]
   rw [rasOk,hw32,hbits,hg,hlen,decide_eq_true (show 0 < w by omega),decide_eq_true rfl,inR,decide_eq_true (show 1 ≤ 1 + h by omega),decide_eq_true (show 1 + h ≤ 32 by omega)]
   simp
 have hD:madeD l x r0 r1 = ⟨(l.take 6).map mkLn,mkC x 0 [],w,mkB (w * (1 + h)).toNat (pickI r1 1048576).toNat⟩:=by rw [madeD,hwd,hhd]
 rw [hD]
 refine ⟨?_,⟨by show ((l.take 6).map mkLn).length ≤ 1000; omega,by show (mkC x 0 []).length ≤ 1000; have:=hc.len; omega,?_⟩⟩
 ·show (((((decide (((l.take 6).map mkLn).length ≤ 64) && decide ((mkC x 0 []).length ≤ 64)) && ascF (mkC x 0 [])) && ((l.take 6).map mkLn).all dlnOk) && (mkC x 0 []).all celOk) && rasOk w _) = true
  rw [hln,hcl,hc.asc,hras,decide_eq_true (show ((l.take 6).map mkLn).length ≤ 64 by omega),decide_eq_true (show (mkC x 0 []).length ≤ 64 by have:=hc.len; omega)]; rfl
 ·show (mkB (w * (1 + h)).toNat (pickI r1 1048576).toNat).length ≤ 70000
  rw [zpl]
  rw [hwd] at hw
  rw [hhd] at hh
  have:w * (1 + h) ≤ 5 * 4:=qb6 (by omega) (by omega) (by omega) (by omega)
  omega
theorem z3j {cs:Array Value} {t:TypeId} {fr:Nat × Nat} {i:Nat} {z:Int} (h:cs[i]? = some (.int .i64 z)):RdO (.cells cs t fr) i 1 [.int .i64 z]:=by
 refine ⟨rfl,fun a ha=>?_,fun ρ=>⟨t,fr,cs.toList.take i,cs.toList.drop (i + 1),?_,?_⟩⟩
 ·simp at ha; subst ha; trivial
 ·have hi:=(qz.1 h).1
  have he:cs[i] = .int .i64 z:=(qz.1 h).2
  congr 1
  apply Array.toList_inj.1
  have hl:i < cs.toList.length:=by simpa using hi
  have e1:cs.toList = cs.toList.take i ++ cs.toList[i] :: cs.toList.drop (i + 1):=by
   rw [← qv hl,yw]
  have e2:cs.toList[i] = .int .i64 z:=by simpa using he
  rw [e2] at e1
  simpa [SA.den] using e1
 ·have hi:=(qz.1 h).1
  rw [qn,Array.length_toList]; omega
theorem RawB.rd1 {B:SB} {i:Nat} {z:Int} {p:Pl} {K:List SA → Prop} (h:RawB B i z) (hp:p.e * p.sz + p.o = i) (hk:K [.int .i64 z]):rdB B p 1 K:=by
 cases B with
 |obj o=>
  cases o with
  |cells cs t fr=>exact ⟨_,by rw [hp]; exact z3j h,hk⟩
  |_=>exact h.elim
 |cells t l=>
  simp only [rdB]
  rw [hp,zkh l i _ h]
  exact hk
 |arr t sz L room=>exact h.elim
theorem RawAt.rdO1 {F:Fz} {b off:Nat} {zs:List Int} (h:RawAt F b off zs):∃ B,∀ (k:Nat) (g:k < zs.length),F b = some B ∧ RawB B (off + k) zs[k]:=by
 rcases h with h | ⟨B,h1,h2⟩
 ·exact ⟨.cells 0 [],fun k g=>by subst h; simp at g⟩
 ·exact ⟨B,fun k g=>⟨h1,h2 k g⟩⟩
theorem zsm:∀ (l:List Stp) (k:Nat),(ints2 l)[k * 2]? = (l[k]?).map (·.1) ∧ (ints2 l)[k * 2 + 1]? = (l[k]?).map (·.2)
 |[],k=>by simp [ints2]
 |q :: r,0=>⟨rfl,rfl⟩
 |q :: r,k + 1=>by
  have h:=zsm r k
  have e:(k + 1) * 2 = k * 2 + 2:=by omega
  rw [e]
  exact h
def ints3 (x:List Q3):List Int:=(x.map fun q=>[q.1,q.2.1,q.2.2]).flatten
theorem zo6:∀ l:List Q3,(ints3 l).length = l.length * 3
 |[]=>rfl
 |q :: r=>by
  have:=zo6 r
  show (q.1 :: q.2.1 :: q.2.2 :: ints3 r).length = _
  simp only [qe]; omega
theorem zse:∀ (l:List Q3) (k:Nat),(ints3 l)[k * 3]? = (l[k]?).map (·.1) ∧ (ints3 l)[k * 3 + 1]? = (l[k]?).map (·.2.1) ∧ (ints3 l)[k * 3 + 2]? = (l[k]?).map (·.2.2)
 |[],k=>by simp [ints3]
 |q :: r,0=>⟨rfl,rfl,rfl⟩
 |q :: r,k + 1=>by
  have h:=zse r k
  have e:(k + 1) * 3 = k * 3 + 3:=by omega
  rw [e]
  exact h
theorem RawAt.pair {F:Fz} {b off:Nat} {x:List Stp} (h:RawAt F b off (ints2 x)):∃ B,∀ (k:Nat) (g:k < x.length),F b = some B ∧ RawB B (off + k * 2) (x[k]'g).1 ∧ RawB B (off + k * 2 + 1) (x[k]'g).2:=by
 obtain ⟨B,hB⟩:=h.rdO1
 refine ⟨B,fun k g=>?_⟩
 have hl:=zo8 x
 obtain ⟨a0,a1⟩:=zsm x k
 rw [qc g] at a0 a1
 have h0:=hB (k * 2) (by omega)
 have h1:=hB (k * 2 + 1) (by omega)
 rw [(qh.1 a0).2] at h0
 rw [(qh.1 a1).2] at h1
 exact ⟨h0.1,h0.2,by rw [qa3]; exact h1.2⟩
theorem RawAt.triple {F:Fz} {b off:Nat} {x:List Q3} (h:RawAt F b off (ints3 x)):∃ B,∀ (k:Nat) (g:k < x.length),F b = some B ∧ RawB B (off + k * 3) (x[k]'g).1 ∧ RawB B (off + k * 3 + 1) (x[k]'g).2.1 ∧ RawB B (off + k * 3 + 2) (x[k]'g).2.2:=by
 obtain ⟨B,hB⟩:=h.rdO1
 refine ⟨B,fun k g=>?_⟩
 have hl:=zo6 x
 obtain ⟨a0,a1,a2⟩:=zse x k
 rw [qc g] at a0 a1 a2
 have h0:=hB (k * 3) (by omega)
 have h1:=hB (k * 3 + 1) (by omega)
 have h2:=hB (k * 3 + 2) (by omega)
 rw [(qh.1 a0).2] at h0
 rw [(qh.1 a1).2] at h1
 rw [(qh.1 a2).2] at h2
 exact ⟨h0.1,h0.2,by rw [qa3]; exact h1.2,by rw [qa3]; exact h2.2⟩
end Go.Proofs.YtfnkamphhpldcaaGreatDoor
