import Derived.Test.YtfnkamphhpldcaaGreatDoorK17
import Derived.Test.YtfnkamphhpldcaaGreatDoorK11
set_option maxHeartbeats 64000000
namespace Go.Proofs.YtfnkamphhpldcaaGreatDoor
open Go Sx
set_option maxRecDepth 100000
theorem zgu {p:Int} {l:List Stp} (h:zbn p l = true):∀ s ∈ l,1 ≤ s.1 ∧ s.1 ≤ 6:=by
 intro s hs
 simp only [zbn,qd] at h
 have:=qo.1 h.2.2 s hs
 simp only [zbw,qd,decide_eq_true_eq] at this
 exact this.1
theorem zhf {p:Int} {l:List Stp} (h:zbn p l = true):l.length ≤ 64:=by
 simp only [zbn,qd,decide_eq_true_eq] at h; exact h.2.1
theorem z5r {F:Fz} {b c c':Nat} {a:SA} {l:List Stp} (ha:za3 F a l) (h:F b = some (.arr 50 1 [[a]] c)):zq0 F (.slice false 0 b 0 1 1 c') [l]:=
 SlR.new (l:=[l]) h rfl fun k x hx=>by
  match k,hx with
  |0,hx=>simp at hx; subst hx; exact ⟨[a],rfl,a,rfl,ha⟩
theorem z2u {F:Fz} {b c c':Nat} {a a2:SA} {l l2:List Stp} (ha:za3 F a l) (ha2:za3 F a2 l2) (h:F b = some (.arr 50 1 [[a],[a2]] c)):zq0 F (.slice false 0 b 0 1 2 c') [l,l2]:=
 SlR.new (l:=[l,l2]) h rfl fun k x hx=>by
  match k,hx with
  |0,hx=>simp at hx; subst hx; exact ⟨[a],rfl,a,rfl,ha⟩
  |1,hx=>simp at hx; subst hx; exact ⟨[a2],rfl,a2,rfl,ha2⟩
def normR (p:Int) (l:List Stp):List Stp × Int:=if zbn p l = true then (normS l,0) else ([],70)
def compR (p:Int) (a b:List Stp):List Stp × Int:=if zbn p a = true ∧ zbn p b = true then (normS (a ++ b),0) else ([],70)
theorem zm9 (l:List Stp):(normS l).length ≤ 100:=by
 unfold normS; split
 ·have:=zeb (sel 1 l) (sel 2 l) (sel 3 l) (sel 4 l) (sel 5 l) 7
  exact this
 ·simp
theorem z4p (F:Fz) (b:Nat) (a:SA) (l:List Stp) (c c':Nat) (ha:za3 F a l) (h:F b = some (.arr 50 1 [[a]] c)) {p:Int} (hv:zbn p l = true) :
  Fo Tryz.prog F 132 [.va (.slice false 0 b 0 1 1 c')] (fun o F'=>∃ sc,o = .ret (.va sc) ∧ za3 F' sc (normS l)):=by
 have hl:=zhf hv
 have:=zoj F _ [l] (z5r (c':=c') ha h) (by simp) (by simp; omega) (by simpa using zgu hv)
 rw [jy,qbb,jw] at this
 exact this
theorem z2p (F:Fz) (b:Nat) (a a2:SA) (l l2:List Stp) (c c':Nat) (ha:za3 F a l) (ha2:za3 F a2 l2) (h:F b = some (.arr 50 1 [[a],[a2]] c)) {p:Int} (hv:zbn p l = true) (hv2:zbn p l2 = true) :
  Fo Tryz.prog F 132 [.va (.slice false 0 b 0 1 2 c')] (fun o F'=>∃ sc,o = .ret (.va sc) ∧ za3 F' sc (normS (l ++ l2))):=by
 have hl:=zhf hv
 have hl2:=zhf hv2
 have:=zoj F _ [l,l2] (z2u (c':=c') ha ha2 h) (by simp) (by simp; omega) (by
  intro s hs
  simp only [jy,qbb,jw,yl] at hs
  rcases hs with hs | hs
  ·exact zgu hv s hs
  ·exact zgu hv2 s hs)
 rw [jy,jy,qbb,jw] at this
 exact this
theorem zk1 (F:Fz) (sa:SA) (l:List Stp) (p:Int) (ha:za3 F sa l) (hl:l.length < 1000000) :
  Fo Tryz.prog F 62 [.va (.int .i64 p),.va sa] (fun o F'=>∃ sc,o = .ret (.tup [.va sc,.va (.int .i64 (normR p l).2)]) ∧ za3 F' sc (normR p l).1):=by
 have hv:=ziv F sa l p ha hl
 have ha':=ha
 obtain ⟨han,hab,hae,hac,haL,har,rfl,ha1,ha2,ha3,ha4⟩:=ha
 refine fo_of hΘ Tryz.func62 rfl (by decide) _ _ rfl rfl rfl ?_;conv=>whnf
 refine usePu (hv) rfl (zaa _) rfl ?_;conv=>whnf
 refine br (fun g=>?_) (fun g=>?_)
 ·have g1:zbn p l = false:=not_t g
  have e:normR p l = ([],70):=by simp [normR,g1]
  conv=>whnf
  exact endFo (.ret (.tup [.va (.slice true 0 0 0 2 0 0),.va (.int .i64 70)])) F rfl (Fz.r F) (Fz.r F) ⟨_,by rw [e],by rw [e]; exact Sl.nil⟩ ⟨⟨rfl,rfl,rfl⟩,rfl,tv⟩ rfl
 ·have g1:zbn p l = true:=by simpa using g
  have e:normR p l = (normS l,0):=by simp [normR,g1]
  conv=>whnf
  refine za0 1 (fun _=>.arr 50 1 [[.slice han 0 hab hae 2 l.length hac]] 1) rfl rfl rfl (fun _ _=>rfl) (fun _ _=>SB.bB_ok rfl) ?_
  intro b F1 l1 hb
  refine useFo (z4p F1 (b 0) _ l 1 1 (ha'.mono l1) (hb 0 rfl) g1) rfl (zaa _) rfl ?_
  rintro _ F2 l2 ⟨sc,rfl,hsc⟩;conv=>whnf
  have hs:=hsc
  obtain ⟨n2,b2,e2,c2,L2,r2,rfl,_⟩:=hs
  conv=>whnf
  exact endFo (.ret (.tup [.va (.slice n2 0 b2 e2 2 (normS l).length c2),.va (.int .i64 0)])) F2 rfl (Fz.t l1 l2) (Fz.r F2) ⟨_,by rw [e],by rw [e]; exact hsc⟩ ⟨⟨rfl,rfl,rfl,.inr ⟨rfl,rfl,rfl,rfl⟩⟩,rfl,tv⟩ rfl
theorem zpx (F:Fz) (sa sb:SA) (a b:List Stp) (p:Int) (ha:za3 F sa a) (hb:za3 F sb b) (la:a.length < 1000000) (lb:b.length < 1000000) :
  Fo Tryz.prog F 134 [.va (.int .i64 p),.va sa,.va sb] (fun o F'=>∃ sc,o = .ret (.tup [.va sc,.va (.int .i64 (compR p a b).2)]) ∧ za3 F' sc (compR p a b).1):=by
 have hva:=ziv F sa a p ha la
 have hvb:=ziv F sb b p hb lb
 have ha':=ha
 have hb':=hb
 obtain ⟨han,hab,hae,hac,haL,har,rfl,ha1,ha2,ha3,ha4⟩:=ha
 obtain ⟨hbn,hbb,hbe,hbc,hbL,hbr,rfl,hb1,hb2,hb3,hb4⟩:=hb
 refine fo_of hΘ Tryz.func134 rfl (by decide) _ _ rfl rfl rfl ?_;conv=>whnf
 refine usePu (hva) rfl (zaa _) rfl ?_;conv=>whnf
 refine ⟨fun g=>?_,fun g=>?_⟩
 ·have g1:zbn p a = true:=by simpa using g
  refine usePu (hvb) rfl (zaa _) rfl ?_;conv=>whnf
  refine br (fun g=>?_) (fun g=>?_)
  ·have g2:zbn p b = false:=not_t g
   have e:compR p a b = ([],70):=by simp [compR,g2]
   conv=>whnf
   exact endFo (.ret (.tup [.va (.slice true 0 0 0 2 0 0),.va (.int .i64 70)])) F rfl (Fz.r F) (Fz.r F) ⟨_,by rw [e],by rw [e]; exact Sl.nil⟩ ⟨⟨rfl,rfl,rfl⟩,rfl,tv⟩ rfl
  ·have g2:zbn p b = true:=by simpa using g
   have e:compR p a b = (normS (a ++ b),0):=by simp [compR,g1,g2]
   conv=>whnf
   refine za0 1 (fun _=>.arr 50 1 [[.slice han 0 hab hae 2 a.length hac],[.slice hbn 0 hbb hbe 2 b.length hbc]] 2) rfl rfl rfl (fun _ _=>rfl) (fun _ _=>SB.bB_ok rfl) ?_
   intro b1 F1 l1 hb1
   refine useFo (z2p F1 (b1 0) _ _ a b 2 2 (ha'.mono l1) (hb'.mono l1) (hb1 0 rfl) g1 g2) rfl (zaa _) rfl ?_
   rintro _ F2 l2 ⟨sc,rfl,hsc⟩;conv=>whnf
   have hs:=hsc
   obtain ⟨n2,b2,e2,c2,L2,r2,rfl,_⟩:=hs
   conv=>whnf
   exact endFo (.ret (.tup [.va (.slice n2 0 b2 e2 2 (normS (a ++ b)).length c2),.va (.int .i64 0)])) F2 rfl (Fz.t l1 l2) (Fz.r F2) ⟨_,by rw [e],by rw [e]; exact hsc⟩ ⟨⟨rfl,rfl,rfl,.inr ⟨rfl,rfl,rfl,rfl⟩⟩,rfl,tv⟩ rfl
 ·have g1:zbn p a = false:=not_t g
  have e:compR p a b = ([],70):=by simp [compR,g1]
  conv=>whnf
  exact endFo (.ret (.tup [.va (.slice true 0 0 0 2 0 0),.va (.int .i64 70)])) F rfl (Fz.r F) (Fz.r F) ⟨_,by rw [e],by rw [e]; exact Sl.nil⟩ ⟨⟨rfl,rfl,rfl⟩,rfl,tv⟩ rfl
abbrev Kp:=Int × List Stp
def KpR (F:Fz) (y:List SA) (x:Kp):Prop:=∃ sa,y = [.int .i64 x.1,sa] ∧ za3 F sa x.2
theorem KpR.mono {F F':Fz} {y:List SA} {x:Kp} (h:KpR F y x) (hle:Fz.le F F'):KpR F' y x:=by
 obtain ⟨sa,h1,h2⟩:=h; exact ⟨sa,h1,h2.mono hle⟩
abbrev KpsAt (F:Fz) (a:SA) (l:List Kp):Prop:=SlR F 96 2 (KpR F) a l
abbrev ClsAt (F:Fz) (a:SA) (l:List Kp):Prop:=SlR F 52 2 (KpR F) a l
theorem KpsAt.mono {F F':Fz} {t:Nat} {a:SA} {l:List Kp} (h:SlR F t 2 (KpR F) a l) (hle:Fz.le F F'):SlR F' t 2 (KpR F') a l:=SlR.mono h hle fun _ _ h=>h.mono hle
theorem KpsAt.open {F:Fz} {t:Nat} {sa:SA} {ks:List Kp} (h:SlR F t 2 (KpR F) sa ks):∃ (nil:Bool) (b e cap:Nat) (L:List (List SA)) (room:Nat) (sf:Nat → SA),sa = .slice nil 0 b e 2 ks.length cap ∧ (nil = true → ks = []) ∧ (nil = false → F b = some (.arr t 2 L room)) ∧ e + ks.length ≤ L.length ∧
  ∀ (k:Nat) (h:k < ks.length),L[e + k]? = some [.int .i64 (ks[k]'h).1,sf k] ∧ za3 F (sf k) (ks[k]'h).2:=by
 obtain ⟨nil,b,e,cap,L,room,h1,h2,h3,h4,h5⟩:=h
 have h6:∀ k:Nat,∃ a:SA,∀ h:k < ks.length,L[e + k]? = some [.int .i64 (ks[k]'h).1,a] ∧ za3 F a (ks[k]'h).2:=by
  intro k
  by_cases hk:k < ks.length
  ·obtain ⟨y,hy,a,rfl,ha⟩:=h5 k ks[k] (by simp [hk])
   exact ⟨a,fun _=>⟨hy,ha⟩⟩
  ·exact ⟨.nilsl,fun h=>absurd h hk⟩
 exact ⟨nil,b,e,cap,L,room,fun k=>Classical.choose (h6 k),h1,h2,h3,h4,fun k hk=>Classical.choose_spec (h6 k) hk⟩
def nameK (p:Int):Bool:=decide (p = 1) || decide (p = 2) || decide (p = 3) || decide (p = 4) || decide (p = 7)
def zby (k:Kp):Bool:=nameK k.1 && (decide (0 < k.2.length) && (zbn k.1 k.2 && (decide (normS k.2 = k.2) && (!decide (k.1 = 4) || decide (k.2 = [(6,0)])))))
def nameM:List MapEntry:=[⟨.int .i64 1,.string ⟨[116,101,120,116].toArray⟩,0⟩,⟨.int .i64 2,.string ⟨[109,97,114,107,115].toArray⟩,1⟩,⟨.int .i64 3,.string ⟨[99,111,110,115,116,97,110,116,115].toArray⟩,2⟩,⟨.int .i64 4,.string ⟨[102,111,114,109,117,108,97,115].toArray⟩,3⟩,⟨.int .i64 7,.string ⟨[98,105,116,115].toArray⟩,4⟩]
theorem zyu (F:Fz):Ct Tryz.prog 171 [] F [] 1 (fun o F0 h0 n0=>F = F0 ∧ n0 = 2 ∧ o = .ret (.va (.map 1 0)) ∧ h0 = [(1,.one (.obj (.map ⟨nameM⟩ 5)))]):=by
 refine ct_of hΘ Tryz.func171 rfl (by decide) _ _ rfl rfl rfl ?_;conv=>whnf
 exact clean [(1,1)] (.ret (.va (.map 1 0))) F [(1,.one (.obj (.map ⟨nameM⟩ 5)))] 2 ⟨Fz.r F,rfl,rfl,rfl,rfl⟩ rfl rfl rfl (Out.bB_ok (o:=.ret (.va (.map 1 0))) rfl) ⟨tv,tv⟩ ⟨Fz.r F,rfl,tv⟩
theorem zm5 (F:Fz):Fo Tryz.prog F 111 [] (fun o F'=>∃ sa,o = .ret (.va sa) ∧ za3 F' sa [(6,0)]):=by
 refine fo_of hΘ Tryz.func111 rfl (by decide) _ _ rfl rfl rfl ?_;conv=>whnf
 refine zbl 1 (fun _=>.arr 56 2 ([(6,0)].map enc) 1) rfl rfl rfl (fun _ _=>rfl) (fun _ _=>SB.bB_ok rfl) ?_
 intro b F' hle hb'
 exact endFo (.ret (.va (.slice false 0 (b 0) 0 2 1 1))) F' rfl hle (Fz.r F') ⟨_,rfl,Sl.new (l:=[(6,0)]) (hb' 0 rfl)⟩ ⟨rfl,rfl,rfl,.inr ⟨rfl,rfl,rfl,rfl⟩⟩ rfl
theorem zw4 (F:Fz) (sa:SA) (l:List Stp) (ha:za3 F sa l) (hl:l.length < 1000000) :
  Fo Tryz.prog F 150 [.va sa] (fun o F'=>o = .ret (.va (.bool (decide (l = [(6,0)]))))):=by
 have heq:=fun F1 (l1:Fz.le F F1) sb hb=>zhi F1 sa sb l [(6,0)] (ha.mono l1) hb hl
 obtain ⟨han,hab,hae,hac,haL,har,rfl,ha1,ha2,ha3,ha4⟩:=ha
 refine fo_of hΘ Tryz.func150 rfl (by decide) _ _ rfl rfl rfl ?_;conv=>whnf
 refine useFo (zm5 F) rfl (zaa _) rfl ?_
 rintro _ F1 l1 ⟨sb,rfl,hb⟩
 have hc:=heq F1 l1 sb hb
 obtain ⟨hbn,hbb,hbe,hbc,hbL,hbr,rfl,hb1,hb2,hb3,hb4⟩:=hb
 conv=>whnf
 refine usePu (hc) rfl (zaa _) rfl ?_;conv=>whnf
 exact endFo (.ret (.va (.bool (decide (l = [(6,0)]))))) F1 rfl l1 (Fz.r F1) rfl (zaj _) rfl
theorem zof (F:Fz) (sa:SA) (l:List Stp) (ha:za3 F sa l) (hl:l.length < 1000000) :
  Fo Tryz.prog F 73 [.va sa] (fun o F'=>∃ sb,o = .ret (.va sb) ∧ za3 F' sb l):=by
 obtain ⟨bn,bb,be,bc,L,room,rfl,hb1,hb2,hb3,hb4⟩:=ha
 rcases bn with _ | _
 ·have hblk:=hb2 rfl
  rcases l with _ | ⟨x,r⟩
  ·refine fo_of hΘ Tryz.func73 rfl (by decide) _ _ rfl rfl rfl ?_;conv=>whnf
   refine brd (by decide) ?_;conv=>whnf
   refine ⟨56,L,room,hblk,hb3,[],hb4,?_⟩;conv=>whnf
   refine ⟨rfl,rfl,rfl,by decide,fun c hc=>?_⟩
   clear hc;conv=>whnf
   refine zbl 2 (fun _=>.arr 56 2 [] c) rfl rfl rfl (fun _ _=>rfl) (fun _ _=>SB.bB_ok rfl) ?_
   intro b F' hle hb'
   exact endFo (.ret (.va (.slice false 0 (b 0) 0 2 0 c))) F' rfl hle (Fz.r F') ⟨_,rfl,Sl.new (l:=[]) (hb' 0 rfl)⟩ ⟨rfl,rfl,rfl,.inr ⟨rfl,rfl,rfl,rfl⟩⟩ rfl
  ·replace hl:r.length + 1 < 1000000:=hl
   have hsz:(0 + ((x :: r).map enc).length) * 16 ≤ 140737488355328:=by rw [qb,qe]; omega
   have hz:∀ c,(∀ μ:Mu,(SB.arr 56 2 ((x :: r).map enc) c).ren μ = SB.arr 56 2 ((x :: r).map enc) c):=fun c μ=>zgg μ _ c
   refine fo_of hΘ Tryz.func73 rfl (by decide) _ _ rfl rfl rfl ?_;conv=>whnf
   refine brd (by decide) ?_;conv=>whnf
   refine ⟨56,L,room,hblk,hb3,(x :: r).map enc,hb4,?_⟩
   refine ⟨rfl,rfl,?_⟩
   refine ⟨rfl,hsz,fun c' hc=>?_⟩
   clear hc;conv=>whnf
   refine zbl 2 (fun _=>.arr 56 2 ((x :: r).map enc) c') rfl rfl rfl (fun _ _=>zgg _ _ _) (fun _ _=>zdw _ _ _) ?_
   intro b F' hle hb'
   exact endFo (.ret (.va (.slice false 0 (b 0) 0 2 (x :: r).length c'))) F' rfl hle (Fz.r F') ⟨_,rfl,Sl.new (l:=x :: r) (hb' 0 rfl)⟩ ⟨rfl,(by first | rfl | (rw [qb]; omega)),(by first | rfl | (rw [qb]; omega)),.inr ⟨rfl,rfl,rfl,rfl⟩⟩ rfl
 ·have hl0:=hb1 rfl
  subst hl0
  refine fo_of hΘ Tryz.func73 rfl (by decide) _ _ rfl rfl rfl ?_;conv=>whnf
  refine bre (by decide) ?_;conv=>whnf
  exact endFo (.ret (.va (.slice true 0 0 0 2 0 0))) F rfl (Fz.r F) (Fz.r F) ⟨_,rfl,Sl.nil⟩ ⟨rfl,rfl,rfl⟩ rfl
theorem ztw (p:Int):(p = 1 ∧ nameK p = true) ∨ (p = 2 ∧ nameK p = true) ∨ (p = 3 ∧ nameK p = true) ∨ (p = 4 ∧ nameK p = true) ∨ (p = 7 ∧ nameK p = true) ∨ ((p ≠ 1 ∧ p ≠ 2 ∧ p ≠ 3 ∧ p ≠ 4 ∧ p ≠ 7) ∧ nameK p = false):=by
 unfold nameK
 by_cases h1:p = 1
 ·left; simp [h1]
 by_cases h2:p = 2
 ·right; left; simp [h2]
 by_cases h3:p = 3
 ·right; right; left; simp [h3]
 by_cases h4:p = 4
 ·right; right; right; left; simp [h4]
 by_cases h7:p = 7
 ·right; right; right; right; left; simp [h7]
 ·right; right; right; right; right; simp [h1,h2,h3,h4,h7]
theorem kF0 {p:Int} {l:List Stp} (h:nameK p = false):zby (p,l) = false:=by simp only [zby,h,qt]
theorem kF1 {p:Int} {l:List Stp} (h:decide ((0:Int) < (l.length:Int)) = false):zby (p,l) = false:=by
 have h2:decide (0 < l.length) = false:=by simp at h ⊢; omega
 simp only [zby,h2,qt,jp]
theorem kF2 {p:Int} {l:List Stp} (h:decide ((normR p l).2 = 0) = false):zby (p,l) = false:=by
 have h2:zbn p l = false:=by
  cases hv:zbn p l with
  |false=>rfl
  |true=>rw [normR,if_pos hv] at h; cases h
 simp only [zby,h2,qt,jp]
theorem ziw {p:Int} {l:List Stp} (h:decide ((normR p l).2 = 0) = true):zbn p l = true ∧ (normR p l).1 = normS l:=by
 cases hv:zbn p l with
 |false=>rw [normR,if_neg (by rw [hv]; simp)] at h; cases h
 |true=>exact ⟨rfl,by rw [normR,if_pos hv]⟩
theorem kF3 {p:Int} {l:List Stp} (h0:decide ((normR p l).2 = 0) = true) (h:decide ((normR p l).1 = l) = false):zby (p,l) = false:=by
 have h2:=ziw h0
 rw [h2.2] at h
 simp only [zby,h2.1,h,qt,jp]
theorem kT {p:Int} {l:List Stp} (hn:nameK p = true) (hl:decide ((0:Int) < (l.length:Int)) = true) (h0:decide ((normR p l).2 = 0) = true) (h:decide ((normR p l).1 = l) = true):zby (p,l) = (!decide (p = 4) || decide (l = [(6,0)])):=by
 have h2:=ziw h0
 have h3:decide (0 < l.length) = true:=by simp at hl ⊢; omega
 rw [h2.2] at h
 simp only [zby,hn,h3,h2.1,h,y5]
theorem zlc (p:Int) (l:List Stp):(normR p l).1.length < 1000000:=by
 unfold normR
 split
 ·have:=zm9 l; show (normS l).length < _; omega
 ·simp
theorem zu4 (F:Fz) (sa:SA) (p:Int) (l:List Stp) (ha:za3 F sa l) (hl:l.length < 1000000) :
  Fo Tryz.prog F 107 [.agg [.int .i64 p,sa]] (fun o F'=>o = .ret (.va (.bool (zby (p,l))))):=by
 have hnorm:=zk1 F sa l p ha hl
 have heq:=fun F1 (l1:Fz.le F F1) sb hb=>zhi F1 sb sa (normR p l).1 l hb (ha.mono l1) (zlc p l)
 have hlost:=fun F1 (l1:Fz.le F F1)=>zw4 F1 sa l (ha.mono l1) hl
 have fin:∀ (b:Bool) (F1:Fz) (h:Hp) (nx:Nat),zby (p,l) = b → lget h 0 = some (.frz F1) → Fz.le F F1 → Cln 1 (FoK F fun o F'=>o = .ret (.va (.bool (zby (p,l))))) (.ret (.va (.bool b))) h nx:=by
  intro b F1 h nx hb h0 hle
  exact endFo (.ret (.va (.bool b))) F1 h0 hle (Fz.r F1) (by rw [hb]) rfl rfl
 have finL:∀ (b:Bool) (F1:Fz) (h:Hp) (nx:Nat),zby (p,l) = b → lget h 0 = some (.frz F1) → Fz.le F F1 → Cln 1 (FoK F fun o F'=>o = .ret (.va (.bool (zby (p,l))))) (.ret (.va (.lit b))) h nx:=by
  intro b F1 h nx hb h0 hle
  exact endFo (.ret (.va (.bool b))) F1 h0 hle (Fz.r F1) (by rw [hb]) rfl rfl
 have hc:=ztw p
 obtain ⟨han,hab,hae,hac,haL,har,rfl,ha1,ha2,ha3,ha4⟩:=ha
 rcases hc with ⟨rfl,hn⟩ | ⟨rfl,hn⟩ | ⟨rfl,hn⟩ | ⟨rfl,hn⟩ | ⟨rfl,hn⟩ | ⟨hp,hn⟩
 all_goals
  refine fo_of hΘ Tryz.func107 rfl (by decide) _ _ rfl rfl rfl ?_;conv=>whnf
  refine drawP hΘ mixed (.look 1 (.look 2 (.alt 0 (.alt 3 (lk [4,5,6,7,8] .done) .nil) .nil))) [1] (by kernel_rfl) ?_;conv=>whnf
  refine ⟨rfl,?_⟩;conv=>whnf
  refine use (zyu F) [] rfl trivial rfl trivial (by simp) trivial ?_
  rintro out0 F0 h0 n0 hle ⟨rfl,rfl,rfl,rfl⟩;conv=>whnf
  refine ⟨Fz.r F,rfl,?_⟩;conv=>whnf
  repeat
   refine br (fun g=>absurd (od g) (by omega)) (fun _=>?_);conv=>whnf
  try (refine bri rfl ?_; (conv=>whnf))
  refine ⟨Fz.r F,rfl,?_⟩;conv=>whnf
  refine useFo hnorm rfl (zaa _) rfl ?_
  rintro _ F1 l1 ⟨sc,rfl,hsc⟩
  have hc1:=heq F1 l1 sc hsc
  have hlo:=hlost F1 l1
  obtain ⟨hscn,hscb,hsce,hscc,hscL,hscr,rfl,hsc1,hsc2,hsc3,hsc4⟩:=hsc
  conv=>whnf
  first
   |exact fin false F1 _ _ (kF0 hn) rfl l1
   |exact finL false F1 _ _ (kF0 hn) rfl l1
   |refine ⟨fun g1=>?_,fun g1=>?_⟩
    ·conv=>whnf
     refine ⟨fun g2=>?_,fun g2=>?_⟩
     ·conv=>whnf
      refine usePu (hc1) rfl (zaa _) rfl ?_;conv=>whnf
      refine ⟨fun g3=>?_,fun g3=>?_⟩
      ·conv=>whnf
       first
        |refine gaf (by decide) ?_
         conv=>whnf
         repeat
          refine gaf (by decide) ?_;conv=>whnf
         first
          |exact fin true F1 _ _ (kT hn g1 g2 g3) rfl l1
          |exact finL true F1 _ _ (kT hn g1 g2 g3) rfl l1
        |refine gae (by decide) ?_
         conv=>whnf
         repeat
          refine gae (by decide) ?_;conv=>whnf
         refine useFo hlo rfl (zaa _) rfl ?_
         rintro _ F2 l2 rfl;conv=>whnf
         repeat
          refine gae (by decide) ?_;conv=>whnf
         exact fin _ F2 _ _ (kT hn g1 g2 g3) rfl (Fz.t l1 l2)
      ·conv=>whnf
       first
        |exact fin false F1 _ _ (kF3 g2 g3) rfl l1
        |exact finL false F1 _ _ (kF3 g2 g3) rfl l1
     ·conv=>whnf
      first
       |exact fin false F1 _ _ (kF2 g2) rfl l1
       |exact finL false F1 _ _ (kF2 g2) rfl l1
    ·conv=>whnf
     first
      |exact fin false F1 _ _ (kF1 g1) rfl l1
      |exact finL false F1 _ _ (kF1 g1) rfl l1
def idxN {α:Type} (q:α → Bool):List α → Nat → Int
 |[],_=>-1
 |x :: r,n=>if q x = false then n else idxN q r (n + 1)
theorem znk {α:Type} (q:α → Bool) (l:List α) (k:Nat) (h:k < l.length):idxN q (l.drop k) k = if q l[k] = false then (k:Int) else idxN q (l.drop (k + 1)) (k + 1):=by
 rw [qv h]; rfl
theorem zrg {α:Type} (q:α → Bool):∀ (l:List α) (n:Nat),(0 ≤ idxN q l n) ↔ l.all q = false
 |[],n=>by simp [idxN]
 |x :: r,n=>by
  simp only [idxN,qbw]
  split
  ·rename_i h; simp [h]
  ·rename_i h
   have:q x = true:=by simpa using h
   rw [zrg q r (n + 1),this]; simp
theorem zrw {α:Type} (q:α → Bool) (l:List α):decide (0 ≤ idxN q l 0) = !l.all q:=by
 have:=zrg q l 0
 cases h:l.all q with
 |true=>rw [h] at this; simp only [Bool.not_true,decide_eq_false_iff_not]; intro h3; exact absurd (this.1 h3) (by simp)
 |false=>rw [h] at this; simp only [Bool.not_false,decide_eq_true_eq]; exact this.2 rfl
theorem ztd (F:Fz) (sa:SA) (p:Int) (l:List Stp) (ha:za3 F sa l) (hl:l.length < 1000000) :
  Fo Tryz.prog F 106 [.agg [.int .i64 p,sa]] (fun o F'=>o = .ret (.va (.bool (!zby (p,l))))):=by
 have h:=zu4 F sa p l ha hl
 obtain ⟨han,hab,hae,hac,haL,har,rfl,ha1,ha2,ha3,ha4⟩:=ha
 refine fo_of hΘ Tryz.func106 rfl (by decide) _ _ rfl rfl rfl ?_;conv=>whnf
 refine useFo h rfl (zaa _) rfl ?_
 rintro _ F1 l1 rfl;conv=>whnf
 exact endFo (.ret (.va (.bool (!zby (p,l))))) F1 rfl l1 (Fz.r F1) rfl (zaj _) rfl
def short (ks:List Kp):Prop:=∀ x ∈ ks,x.2.length < 1000000
theorem z4y (F:Fz) (sk:SA) (ks:List Kp) (hk:KpsAt F sk ks) (hs:short ks) (hl:ks.length < 1000000) :
  Fo Tryz.prog F 172 [.va sk,.va (.fn (.func 106) [])] (fun o F'=>o = .ret (.va (.int .i64 (idxN zby ks 0)))):=by
 obtain ⟨kn,kb,ke,kc,kL,kr,rfl,k1,k2,k3,k4⟩:=hk
 have fin:∀ (x:Int) (F1:Fz) (h:Hp) (nx:Nat),idxN zby ks 0 = x → lget h 0 = some (.frz F1) → Fz.le F F1 →
   Cln 1 (FoK F fun o F'=>o = .ret (.va (.int .i64 (idxN zby ks 0)))) (.ret (.va (.int .i64 x))) h nx:=by
  intro x F1 h nx hv h0 hle
  exact endFo (.ret (.va (.int .i64 x))) F1 h0 hle (Fz.r F1) (by rw [hv]) rfl rfl
 refine fo_of hΘ Tryz.func172 rfl (by decide) _ _ rfl rfl rfl ?_;conv=>whnf
 refine zan hΘ (X:={ x:Nat × Fz // Fz.le F x.2 ∧ x.1 ≤ ks.length ∧ idxN zby ks 0 = idxN zby (ks.drop x.1) x.1 }) (fun x=>[(8,.va (.int .i64 x.1.1))]) [4,5,9,10,11,12,13,14,15,16,17,18] (fz fun x=>x.1.2) 1 (fun x=>ks.length - x.1.1) ⟨(0,F),Fz.r F,by simp,by simp⟩
  (fun hH hT=>leI [] hH hT rfl ⟨tv,tv⟩ ⟨rfl,tv⟩ ⟨Fz.r F,tv⟩) ?_
 rintro ⟨⟨k,G⟩,hG,hkl,hp⟩ hH hT
 replace hG:Fz.le F G:=hG
 replace hkl:k ≤ ks.length:=hkl
 replace hp:idxN zby ks 0 = idxN zby (ks.drop k) k:=hp
 by_cases g:k < ks.length
 ·have gi:(k:Int) < (ks.length:Int):=by omega
  have hdec:ks.length - (k + 1) < ks.length - k:=by omega
  have hk62:k < 4611686018427387904:=by omega
  have hx:=hs ks[k] (jj g)
  rw [znk zby ks k g] at hp
  have hObt:=SlR.at k4 g
  obtain ⟨y,hy,a,rfl,ha⟩:=hObt
  have hcall:=ztd G a ks[k].1 ks[k].2 (ha.mono hG) hx
  obtain ⟨han,hab,hae,hac,haL,har,rfl,ha1,ha2,ha3,ha4⟩:=ha
  conv=>whnf
  refine bri gi ?_;conv=>whnf
  refine ⟨SlR.lt k1 g,⟨by simp,gi⟩,?_⟩;conv=>whnf
  refine ⟨_,hG _ _ (k2 (SlR.lt k1 g)),?_⟩;conv=>whnf
  refine ⟨_,hy,?_⟩;conv=>whnf
  refine useFo hcall rfl (zaa _) rfl ?_
  rintro _ G2 l2 rfl;conv=>whnf
  refine br (fun g2=>?_) (fun g2=>?_)
  ·conv=>whnf
   exact fin _ G2 _ _ (hp.trans (if_pos (by have g3:(!zby ks[k]) = true:=g2; simpa using g3))) rfl (Fz.t hG l2)
  ·conv=>whnf
   have g3:(!zby ks[k]) = false:=g2
   exact ⟨⟨(k + 1,G2),Fz.t hG l2,g,hp.trans (if_neg (by rw [show zby ks[k] = true by simpa using g3]; simp))⟩,hdec,leR [] hH hT rfl ⟨tv,tv⟩ ⟨cnt hk62,tv⟩ ⟨Fz.r G2,tv⟩⟩
 ·have gi:¬ (k:Int) < (ks.length:Int):=by omega
  rw [jq (by omega)] at hp
  conv=>whnf
  refine brj gi ?_;conv=>whnf
  exact fin _ G _ _ hp rfl hG
theorem z1j (F:Fz) (sk:SA) (ks:List Kp) (hk:KpsAt F sk ks) (hs:short ks) (hl:ks.length < 1000000) :
  Fo Tryz.prog F 109 [.va sk,.va (.fn (.func 106) [])] (fun o F'=>o = .ret (.va (.bool (!ks.all zby)))):=by
 have h:=z4y F sk ks hk hs hl
 obtain ⟨kn,kb,ke,kc,kL,kr,rfl,k1,k2,k3,k4⟩:=hk
 refine fo_of hΘ Tryz.func109 rfl (by decide) _ _ rfl rfl rfl ?_;conv=>whnf
 refine useFo h rfl (zaa _) rfl ?_
 rintro _ F1 l1 rfl;conv=>whnf
 exact endFo (.ret (.va (.bool (!ks.all zby)))) F1 rfl l1 (Fz.r F1) rfl (ob (zrw zby ks).symm) rfl
structure Mig where
 id:Int
 src:Int
 dst:Int
 back:Bool
 keep:List Kp
def asc:List Kp → Bool
 |a :: b :: r=>decide (a.1 < b.1) && asc (b :: r)
 |_=>true
theorem zpw:∀ (l:List Kp),asc l = true ↔ ∀ i (h:i + 1 < l.length),l[i].1 < l[i + 1].1
 |[]=>by simp [asc]
 |[a]=>by simp [asc]
 |a :: b :: r=>by
  rw [asc,qd,zpw (b :: r),decide_eq_true_eq]
  constructor
  ·rintro ⟨h1,h2⟩ i h
   cases i with
   |zero=>exact h1
   |succ i=>exact h2 i (by simpa using h)
  ·intro h
   exact ⟨h 0 (by simp),fun i hi=>h (i + 1) (by simpa using hi)⟩
def idOk (n:Int):Bool:=decide (1 ≤ n) && decide (n ≤ 1000000)
def migOk (m:Mig):Bool:=asc m.keep && (idOk m.id && (idOk m.src && (idOk m.dst && (!(m.back && decide (0 < m.keep.length)) && m.keep.all zby))))
abbrev migS (m:Mig) (sk:SA):List SA:=[.int .i64 m.id,.int .i64 m.src,.int .i64 m.dst,.lit m.back,sk]
theorem zff {n:Nat} (m:Mig) {sk:SA} (h:sk.below n):(Ent.one (.cells 32 (migS m sk))).below n:=by
 intro a ha
 simp only [qj,qq,or_false] at ha
 rcases ha with rfl | rfl | rfl | rfl | rfl
 ·trivial
 ·trivial
 ·trivial
 ·trivial
 ·exact h
theorem zp3 (n:Int) (F:Fz):Fo Tryz.prog F 108 [.va (.int .i64 n)] (fun o F'=>o = .ret (.va (.bool (idOk n))) ∧ F' = F):=by
 refine fo_of hΘ Tryz.func108 rfl (by decide) _ _ rfl rfl rfl ?_;conv=>whnf
 refine ⟨fun g=>?_,fun g=>?_⟩
 ·conv=>whnf
  exact endPu rfl (Fz.r F) (ob (by show (decide (1 ≤ n) && decide (n ≤ 1000000)) = _; rw [show decide (1 ≤ n) = true from g]; rfl)) rfl
 ·conv=>whnf
  exact endPu rfl (Fz.r F) (ob (by show (decide (1 ≤ n) && decide (n ≤ 1000000)) = _; rw [show decide (1 ≤ n) = false from g]; rfl)) rfl
theorem mOk0 {m:Mig} (h:asc m.keep = false):migOk m = false:=by simp only [migOk,h,qt]
theorem mOk1 {m:Mig} (h:idOk m.id = false):migOk m = false:=by simp only [migOk,h,qt,jp]
theorem mOk2 {m:Mig} (h:idOk m.src = false):migOk m = false:=by simp only [migOk,h,qt,jp]
theorem mOk3 {m:Mig} (h:idOk m.dst = false):migOk m = false:=by simp only [migOk,h,qt,jp]
theorem mOk4 {m:Mig} (hb:m.back = true) (h:(!decide ((0:Int) < (m.keep.length:Int))) = false):migOk m = false:=by
 have h2:decide (0 < m.keep.length) = true:=by simp at h ⊢; omega
 simp only [migOk,hb,h2,qc5,Bool.not_true,qt,jp]
theorem mOkT {m:Mig} (h0:asc m.keep = true) (h1:idOk m.id = true) (h2:idOk m.src = true) (h3:idOk m.dst = true) (h4:m.back = false ∨ (!decide ((0:Int) < (m.keep.length:Int))) = true):migOk m = !(!m.keep.all zby):=by
 have h5:(!(m.back && decide (0 < m.keep.length))) = true:=by
  rcases h4 with h4 | h4
  ·rw [h4]; rfl
  ·have:decide (0 < m.keep.length) = false:=by simp at h4 ⊢; exact h4
   rw [this]; simp
 simp only [migOk,h0,h1,h2,h3,h5,y5,Bool.not_not]
theorem zjq (F:Fz) (sk:SA) (m:Mig) (hk:KpsAt F sk m.keep) (hs:short m.keep) (hl:m.keep.length < 1000000) :
  Fo Tryz.prog F 50 [.agg (migS m sk)] (fun o F'=>o = .ret (.va (.bool (migOk m)))):=by
 have hcont:=z1j F sk m.keep hk hs hl
 have e0:=mOk0 (m:=m)
 have e1:=mOk1 (m:=m)
 have e2:=mOk2 (m:=m)
 have e3:=mOk3 (m:=m)
 have e4:=mOk4 (m:=m)
 have eT:=mOkT (m:=m)
 obtain ⟨v,hv⟩:∃ v,migOk m = v:=⟨_,rfl⟩
 rw [hv] at e0 e1 e2 e3 e4 eT ⊢
 clear hv
 obtain ⟨id,src,dst,back,ks⟩:=m
 replace hk:KpsAt F sk ks:=hk
 replace hl:ks.length < 1000000:=hl
 replace hcont:Fo Tryz.prog F 109 [.va sk,.va (.fn (.func 106) [])] (fun o F'=>o = .ret (.va (.bool (!ks.all zby)))):=hcont
 obtain ⟨kn,kb,ke,kc,kL,kr,sf,rfl,k1,k2,k3,k4⟩:=KpsAt.open hk
 have fin:∀ (b:Bool) (F1:Fz) (h:Hp) (nx:Nat),v = b → lget h 0 = some (.frz F1) → Fz.le F F1 → Cln 1 (FoK F fun o F'=>o = .ret (.va (.bool v))) (.ret (.va (.bool b))) h nx:=by
  intro b F1 h nx hb h0 hle
  exact endFo (.ret (.va (.bool b))) F1 h0 hle (Fz.r F1) (by rw [hb]) rfl rfl
 have finL:∀ (b:Bool) (F1:Fz) (h:Hp) (nx:Nat),v = b → lget h 0 = some (.frz F1) → Fz.le F F1 → Cln 1 (FoK F fun o F'=>o = .ret (.va (.bool v))) (.ret (.va (.lit b))) h nx:=by
  intro b F1 h nx hb h0 hle
  exact endFo (.ret (.va (.bool b))) F1 h0 hle (Fz.r F1) (by rw [hb]) rfl rfl
 refine fo_of hΘ Tryz.func50 rfl (by decide) _ _ rfl rfl rfl ?_;conv=>whnf
 refine zan hΘ (X:={ k:Nat // (k = 0 ∨ k < ks.length) ∧ ∀ i (h:i + 1 < ks.length),i < k → ks[i].1 < ks[i + 1].1 }) (fun x=>[(4,.va (.int .i64 ((x.1 + 1:Nat):Int)))]) [2,5,6,7,8,9,10,11,12,13,14,15,16,17,18,19,20,21,22,23,24,25]
  (fun x=>[(0,.frz F),(1,.one (.cells 32 (migS ⟨id,src,dst,back,ks⟩ (.slice kn 0 kb ke 2 ks.length kc))))]) 2 (fun x=>ks.length - x.1) ⟨0,.inl rfl,fun i h hi=>absurd hi (by omega)⟩
  (fun hH hT=>leI [] hH hT rfl ⟨tv,zff _ (.inr (by omega)),tv⟩ ⟨rfl,tv⟩ ⟨Fz.r F,rfl,tv⟩) ?_
 rintro ⟨k,hk0,hp⟩ hH hT
 by_cases g:k + 1 < ks.length
 ·have gi:((k + 1:Nat):Int) < (ks.length:Int):=by omega
  have hdec:ks.length - (k + 1) < ks.length - k:=by omega
  have hk62:k + 1 < 4611686018427387904:=by omega
  have w1:IntKind.i64.wrap (((k + 1:Nat):Int) - 1) = (k:Int):=by rw [zal (by omega) (by omega)]; omega
  have q0:0 ≤ IntKind.i64.wrap (((k + 1:Nat):Int) - 1) ∧ IntKind.i64.wrap (((k + 1:Nat):Int) - 1) < (ks.length:Int):=by rw [w1]; omega
  have q1:0 ≤ ((k + 1:Nat):Int) ∧ ((k + 1:Nat):Int) < (ks.length:Int):=by omega
  have hkk:k < ks.length:=Nat.lt_of_succ_lt g
  have hy0:kL[ke + (IntKind.i64.wrap (((k + 1:Nat):Int) - 1)).toNat]? = some [.int .i64 (ks[k]'hkk).1,sf k]:=by rw [w1]; exact (k4 k hkk).1
  have hy1:kL[ke + ((k + 1:Nat):Int).toNat]? = some [.int .i64 (ks[k + 1]'g).1,sf (k + 1)]:=(k4 (k + 1) g).1
  have hnil:=SlR.lt k1 g
  by_cases hlt:(ks[k]'hkk).1 < (ks[k + 1]'g).1
  ·conv=>whnf
   refine bri gi ?_;conv=>whnf
   refine drawP hΘ mixed (lk [0,1,2,3,4,5,6,7,8,9,10,11,12,13] .done) [1] (by kernel_rfl) ?_;conv=>whnf
   refine ⟨rfl,?_⟩;conv=>whnf
   refine ⟨hnil,q0,?_⟩;conv=>whnf
   refine ⟨rfl,?_⟩;conv=>whnf
   refine ⟨_,k2 hnil,?_⟩;conv=>whnf
   refine ⟨_,hy0,?_⟩;conv=>whnf
   refine ⟨rfl,?_⟩;conv=>whnf
   refine ⟨hnil,q1,?_⟩;conv=>whnf
   refine ⟨rfl,?_⟩;conv=>whnf
   refine ⟨_,k2 hnil,?_⟩;conv=>whnf
   refine ⟨_,hy1,?_⟩;conv=>whnf
   refine br (fun h=>absurd (od h) (by omega)) (fun _=>?_);conv=>whnf
   exact ⟨⟨k + 1,.inr g,fun i h hi=>(Nat.lt_succ_iff_lt_or_eq.1 hi).elim (hp i h) (fun e=>by subst e; exact hlt)⟩,hdec,leR [] hH hT rfl ⟨tv,zff _ (.inr (by omega)),tv⟩ ⟨cnt hk62,tv⟩ ⟨Fz.r F,rfl,tv⟩⟩
  ·have hge:(ks[k + 1]'g).1 ≤ (ks[k]'hkk).1:=Int.not_lt.1 hlt
   have hna:asc ks = false:=by
    cases ha:asc ks with
    |false=>rfl
    |true=>exact absurd ((zpw ks).1 ha k g) hlt
   conv=>whnf
   refine bri gi ?_;conv=>whnf
   refine drawP hΘ mixed (lk [0,1,2,3,4,5,6,7,8,9,10,11,12,13] .done) [1] (by kernel_rfl) ?_;conv=>whnf
   refine ⟨rfl,?_⟩;conv=>whnf
   refine ⟨hnil,q0,?_⟩;conv=>whnf
   refine ⟨rfl,?_⟩;conv=>whnf
   refine ⟨_,k2 hnil,?_⟩;conv=>whnf
   refine ⟨_,hy0,?_⟩;conv=>whnf
   refine ⟨rfl,?_⟩;conv=>whnf
   refine ⟨hnil,q1,?_⟩;conv=>whnf
   refine ⟨rfl,?_⟩;conv=>whnf
   refine ⟨_,k2 hnil,?_⟩;conv=>whnf
   refine ⟨_,hy1,?_⟩;conv=>whnf
   refine bri hge ?_;conv=>whnf
   first | exact fin false F _ _ (e0 hna) rfl (Fz.r F) | exact finL false F _ _ (e0 hna) rfl (Fz.r F)
 ·have gi:¬ ((k + 1:Nat):Int) < (ks.length:Int):=by omega
  have hasc:asc ks = true:=(zpw ks).2 fun i h=>hp i h (by omega)
  conv=>whnf
  refine brj gi ?_;conv=>whnf
  refine usePu (zp3 id F) rfl (zaa _) rfl ?_;conv=>whnf
  refine ⟨fun g1=>?_,fun g1=>?_⟩
  ·conv=>whnf
   refine usePu (zp3 src F) rfl (zaa _) rfl ?_;conv=>whnf
   refine ⟨fun g2=>?_,fun g2=>?_⟩
   ·conv=>whnf
    refine usePu (zp3 dst F) rfl (zaa _) rfl ?_;conv=>whnf
    refine ⟨fun g3=>?_,fun g3=>?_⟩
    ·rcases back with _ | _
     ·conv=>whnf
      refine useFo hcont rfl (zaa _) rfl ?_
      rintro _ F1 l1 rfl;conv=>whnf
      exact fin _ F1 _ _ (eT hasc g1 g2 g3 (.inl rfl)) rfl l1
     ·conv=>whnf
      refine ⟨fun g4=>?_,fun g4=>?_⟩
      ·conv=>whnf
       refine useFo hcont rfl (zaa _) rfl ?_
       rintro _ F1 l1 rfl;conv=>whnf
       exact fin _ F1 _ _ (eT hasc g1 g2 g3 (.inr g4)) rfl l1
      ·conv=>whnf
       first | exact fin false F _ _ (e4 rfl g4) rfl (Fz.r F) | exact finL false F _ _ (e4 rfl g4) rfl (Fz.r F)
    ·conv=>whnf
     first | exact fin false F _ _ (e3 g3) rfl (Fz.r F) | exact finL false F _ _ (e3 g3) rfl (Fz.r F)
   ·conv=>whnf
    first | exact fin false F _ _ (e2 g2) rfl (Fz.r F) | exact finL false F _ _ (e2 g2) rfl (Fz.r F)
  ·conv=>whnf
   first | exact fin false F _ _ (e1 g1) rfl (Fz.r F) | exact finL false F _ _ (e1 g1) rfl (Fz.r F)
def zb0 (p:Int):List Kp → List Stp
 |[]=>[]
 |k :: r=>if k.1 = p then k.2 else zb0 p r
theorem znd (p:Int) (l:List Kp) (k:Nat) (h:k < l.length):zb0 p (l.drop k) = if (l[k]'h).1 = p then (l[k]'h).2 else zb0 p (l.drop (k + 1)):=by
 rw [qv h]; rfl
theorem zj9 {ks:List Kp} (hs:short ks) (p:Int):(zb0 p ks).length < 1000000:=by
 induction ks with
 |nil=>simp [zb0]
 |cons x r ih=>
  rw [zb0]
  split
  ·exact hs x (by simp)
  ·exact ih fun y hy=>hs y (by simp [hy])
theorem zkb (F:Fz) (sk:SA) (m:Mig) (p:Int) (hk:KpsAt F sk m.keep) (hs:short m.keep) (hl:m.keep.length < 1000000) :
  Fo Tryz.prog F 110 [.agg (migS m sk),.va (.int .i64 p)] (fun o F'=>∃ sa,o = .ret (.va sa) ∧ za3 F' sa (zb0 p m.keep)):=by
 obtain ⟨id,src,dst,back,ks⟩:=m
 replace hk:KpsAt F sk ks:=hk
 replace hl:ks.length < 1000000:=hl
 replace hs:short ks:=hs
 show Fo Tryz.prog F 110 [.agg (migS ⟨id,src,dst,back,ks⟩ sk),.va (.int .i64 p)] (fun o F'=>∃ sa,o = .ret (.va sa) ∧ za3 F' sa (zb0 p ks))
 obtain ⟨kn,kb,ke,kc,kL,kr,rfl,k1,k2,k3,k4⟩:=hk
 refine fo_of hΘ Tryz.func110 rfl (by decide) _ _ rfl rfl rfl ?_;conv=>whnf
 refine zan hΘ (X:={ k:Nat // k ≤ ks.length ∧ zb0 p ks = zb0 p (ks.drop k) }) (fun x=>[(11,.va (.int .i64 x.1))]) [4,6,12,13,14,15,16,17,18,19,20,21,22]
  (fun x=>[(0,.frz F),(1,.one (.cells 105 (migS ⟨id,src,dst,back,ks⟩ (.slice kn 0 kb ke 2 ks.length kc))))]) 2 (fun x=>ks.length - x.1) ⟨0,by simp,by simp⟩
  (fun hH hT=>leI [] hH hT rfl ⟨tv,zff _ (.inr (by omega)),tv⟩ ⟨rfl,tv⟩ ⟨Fz.r F,rfl,tv⟩) ?_
 rintro ⟨k,hkl,hp⟩ hH hT
 by_cases g:k < ks.length
 ·have gi:(k:Int) < (ks.length:Int):=by omega
  have hdec:ks.length - (k + 1) < ks.length - k:=by omega
  have hk62:k < 4611686018427387904:=by omega
  have hx:=hs (ks[k]'g) (jj g)
  rw [znd p ks k g] at hp
  have hObt:=SlR.at k4 g
  obtain ⟨y,hy,a,rfl,ha⟩:=hObt
  have hcall:=zof F a (ks[k]'g).2 ha hx
  have hnil:=SlR.lt k1 g
  obtain ⟨han,hab,hae,hac,haL,har,rfl,ha1,ha2,ha3,ha4⟩:=ha
  by_cases gp:(ks[k]'g).1 = p
  ·rw [if_pos gp] at hp
   conv=>whnf
   refine bri gi ?_;conv=>whnf
   refine ⟨hnil,⟨by simp,gi⟩,?_⟩;conv=>whnf
   refine ⟨_,k2 hnil,?_⟩;conv=>whnf
   refine ⟨_,hy,?_⟩;conv=>whnf
   refine bri gp ?_;conv=>whnf
   refine useFo hcall rfl (zaa _) rfl ?_
   rintro _ F1 l1 ⟨sb,rfl,hb⟩
   have hb':=hb
   obtain ⟨hbn,hbb,hbe,hbc,hbL,hbr,rfl,hb1,hb2,hb3,hb4⟩:=hb
   conv=>whnf
   exact endFo (.ret (.va (.slice hbn 0 hbb hbe 2 (ks[k]'g).2.length hbc))) F1 rfl l1 (Fz.r F1) ⟨_,rfl,by rw [hp]; exact hb'⟩ (zaj _) rfl
  ·rw [if_neg gp] at hp
   conv=>whnf
   refine bri gi ?_;conv=>whnf
   refine ⟨hnil,⟨by simp,gi⟩,?_⟩;conv=>whnf
   refine ⟨_,k2 hnil,?_⟩;conv=>whnf
   refine ⟨_,hy,?_⟩;conv=>whnf
   refine brj gp ?_;conv=>whnf
   exact ⟨⟨k + 1,g,hp⟩,hdec,leR [] hH hT rfl ⟨tv,zff _ (.inr (by omega)),tv⟩ ⟨cnt hk62,tv⟩ ⟨Fz.r F,rfl,tv⟩⟩
 ·have gi:¬ (k:Int) < (ks.length:Int):=by omega
  rw [jq (by omega)] at hp
  conv=>whnf
  refine brj gi ?_;conv=>whnf
  exact endFo (.ret (.va (.slice true 0 0 0 2 0 0))) F rfl (Fz.r F) (Fz.r F) ⟨_,rfl,by rw [hp]; exact Sl.nil⟩ ⟨rfl,rfl,rfl⟩ rfl
theorem zry (F:Fz) (sk:SA) (m:Mig) (p:Int) (hk:KpsAt F sk m.keep) (hs:short m.keep) (hl:m.keep.length < 1000000) :
  Fo Tryz.prog F 94 [.agg (migS m sk),.va (.int .i64 p)] (fun o F'=>o = .ret (.va (.bool (decide (0 < (zb0 p m.keep).length))))):=by
 have h:=zkb F sk m p hk hs hl
 obtain ⟨id,src,dst,back,ks⟩:=m
 obtain ⟨kn,kb,ke,kc,kL,kr,rfl,k1,k2,k3,k4⟩:=hk
 refine fo_of hΘ Tryz.func94 rfl (by decide) _ _ rfl rfl rfl ?_;conv=>whnf
 refine useFo h rfl (zaa _) rfl ?_
 rintro _ F1 l1 ⟨sb,rfl,hb⟩
 obtain ⟨hbn,hbb,hbe,hbc,hbL,hbr,rfl,hb1,hb2,hb3,hb4⟩:=hb
 conv=>whnf
 exact endFo (.ret (.va (.bool (decide (0 < (zb0 p ks).length))))) F1 rfl l1 (Fz.r F1) rfl (ob (by simp)) rfl
def zb2 (ks:List Kp) (p:Int):List Stp:=
 if (p = 3 ∧ 0 < (zb0 4 ks).length) ∨ (p = 5 ∧ 0 < (zb0 3 ks).length) then [(6,0)] else if p = 6 then zb0 7 ks else zb0 p ks
theorem zw7 {ks:List Kp} {p q:Int} (h:(p = 3 ∧ q = 4) ∨ (p = 5 ∧ q = 3)) (g:decide (0 < (zb0 q ks).length) = true):zb2 ks p = [(6,0)]:=by
 have g:=od g
 rcases h with ⟨rfl,rfl⟩ | ⟨rfl,rfl⟩
 ·rw [zb2,if_pos (.inl ⟨rfl,g⟩)]
 ·rw [zb2,if_pos (.inr ⟨rfl,g⟩)]
theorem zv0 {ks:List Kp} {p q:Int} (h:(p = 3 ∧ q = 4) ∨ (p = 5 ∧ q = 3)) (g:decide (0 < (zb0 q ks).length) = false):zb2 ks p = zb0 p ks:=by
 have g:=oe g
 rcases h with ⟨rfl,rfl⟩ | ⟨rfl,rfl⟩
 ·rw [zb2,if_neg (by rintro (⟨_,h⟩ | ⟨h,_⟩); exact g h; cases h),if_neg (by decide)]
 ·rw [zb2,if_neg (by rintro (⟨h,_⟩ | ⟨_,h⟩); cases h; exact g h),if_neg (by decide)]
theorem z6k {ks:List Kp}:zb2 ks 6 = zb0 7 ks:=by
 rw [zb2,if_neg (by rintro (⟨h,_⟩ | ⟨h,_⟩)<;>cases h),if_pos rfl]
theorem z3r {ks:List Kp} {p:Int} (h3:p ≠ 3) (h5:p ≠ 5) (h6:p ≠ 6):zb2 ks p = zb0 p ks:=by
 rw [zb2,if_neg (by rintro (⟨h,_⟩ | ⟨h,_⟩); exact h3 h; exact h5 h),if_neg h6]
theorem KpsAt.up {F F':Fz} {t:Nat} {a:SA} {l:List Kp} (h:SlR F t 2 (KpR F) a l) (hle:Fz.le F F'):SlR F' t 2 (KpR F') a l:=SlR.mono h hle fun _ _ h=>h.mono hle
theorem z1x (F:Fz) (sk:SA) (m:Mig) (p:Int) (hk:KpsAt F sk m.keep) (hs:short m.keep) (hl:m.keep.length < 1000000) :
  Fo Tryz.prog F 51 [.agg (migS m sk),.va (.int .i64 p)] (fun o F'=>∃ sa,o = .ret (.agg [.int .i64 p,sa]) ∧ za3 F' sa (zb2 m.keep p)):=by
 have hst:=fun F1 (l1:Fz.le F F1) q=>zkb F1 sk m q (KpsAt.up hk l1) hs hl
 have htc:=fun F1 (l1:Fz.le F F1) q=>zry F1 sk m q (KpsAt.up hk l1) hs hl
 obtain ⟨id,src,dst,back,ks⟩:=m
 have fin:∀ (sa:SA) (F1:Fz) (h:Hp) (nx:Nat),za3 F1 sa (zb2 ks p) → lget h 0 = some (.frz F1) → Fz.le F F1 → outE (.ret (.agg [.int .i64 p,sa])) ((Out.ret (.agg [.int .i64 p,sa])).ren (resP h)) →
   Cln 1 (FoK F fun o F'=>∃ sa,o = .ret (.agg [.int .i64 p,sa]) ∧ za3 F' sa (zb2 ks p)) (.ret (.agg [.int .i64 p,sa])) h nx:=by
  intro sa F1 h nx hb h0 hle ho
  have hz:=hb.z
  exact endFo (.ret (.agg [.int .i64 p,sa])) F1 h0 hle (Fz.r F1) ⟨_,rfl,hb⟩ ho (by simp [Out.z,SV.z,hz]; rfl)
 obtain ⟨kn,kb,ke,kc,kL,kr,rfl,k1,k2,k3,k4⟩:=hk
 by_cases p3:p = 3
 ·skip
  subst p3
  refine fo_of hΘ Tryz.func51 rfl (by decide) _ _ rfl rfl rfl ?_;conv=>whnf
  refine useFo (hst F (Fz.r F) 3) rfl (zaa _) rfl ?_
  rintro _ F1 l1 ⟨sb,rfl,hb⟩
  have hb':=hb
  obtain ⟨hbn,hbb,hbe,hbc,hbL,hbr,rfl,hb1,hb2,hb3,hb4⟩:=hb
  conv=>whnf
  refine gae (by decide) ?_;conv=>whnf
  refine useFo (htc F1 l1 4) rfl (zaa _) rfl ?_
  rintro _ F2 l2 rfl;conv=>whnf
  refine br (fun g=>?_) (fun g=>?_)
  ·conv=>whnf
   refine br (fun _=>?_) (fun h=>absurd (h.symm.trans g) (by simp));conv=>whnf
   refine useFo (zm5 F2) rfl (zaa _) rfl ?_
   rintro _ F3 l3 ⟨sc,rfl,hc⟩
   have hc':=hc
   obtain ⟨hcn,hcb,hce,hcc,hcL,hcr,rfl,hc1,hc2,hc3,hc4⟩:=hc
   conv=>whnf
   exact fin _ F3 _ _ (by rw [zw7 (by simp) g]; exact hc') rfl (Fz.t l1 (Fz.t l2 l3)) (zaj _)
  ·conv=>whnf
   refine gaf (by decide) ?_;conv=>whnf
   refine brd (by decide) ?_;conv=>whnf
   exact fin _ F2 _ _ (by rw [zv0 (by simp) g]; exact hb'.mono l2) rfl (Fz.t l1 l2) (zaj _)
 by_cases p5:p = 5
 ·skip
  subst p5
  refine fo_of hΘ Tryz.func51 rfl (by decide) _ _ rfl rfl rfl ?_;conv=>whnf
  refine useFo (hst F (Fz.r F) 5) rfl (zaa _) rfl ?_
  rintro _ F1 l1 ⟨sb,rfl,hb⟩
  have hb':=hb
  obtain ⟨hbn,hbb,hbe,hbc,hbL,hbr,rfl,hb1,hb2,hb3,hb4⟩:=hb
  conv=>whnf
  refine gaf (by decide) ?_;conv=>whnf
  refine gae (by decide) ?_;conv=>whnf
  refine useFo (htc F1 l1 3) rfl (zaa _) rfl ?_
  rintro _ F2 l2 rfl;conv=>whnf
  refine br (fun g=>?_) (fun g=>?_)
  ·conv=>whnf
   refine useFo (zm5 F2) rfl (zaa _) rfl ?_
   rintro _ F3 l3 ⟨sc,rfl,hc⟩
   have hc':=hc
   obtain ⟨hcn,hcb,hce,hcc,hcL,hcr,rfl,hc1,hc2,hc3,hc4⟩:=hc
   conv=>whnf
   exact fin _ F3 _ _ (by rw [zw7 (by simp) g]; exact hc') rfl (Fz.t l1 (Fz.t l2 l3)) (zaj _)
  ·conv=>whnf
   refine brd (by decide) ?_;conv=>whnf
   exact fin _ F2 _ _ (by rw [zv0 (by simp) g]; exact hb'.mono l2) rfl (Fz.t l1 l2) (zaj _)
 by_cases p6:p = 6
 ·subst p6
  refine fo_of hΘ Tryz.func51 rfl (by decide) _ _ rfl rfl rfl ?_;conv=>whnf
  refine useFo (hst F (Fz.r F) 6) rfl (zaa _) rfl ?_
  rintro _ F1 l1 ⟨sb,rfl,hb⟩
  have hb':=hb
  obtain ⟨hbn,hbb,hbe,hbc,hbL,hbr,rfl,hb1,hb2,hb3,hb4⟩:=hb
  conv=>whnf
  refine gaf (by decide) ?_;conv=>whnf
  refine gaf (by decide) ?_;conv=>whnf
  refine bre (by decide) ?_;conv=>whnf
  refine useFo (hst F1 l1 7) rfl (zaa _) rfl ?_
  rintro _ F2 l2 ⟨sc,rfl,hc⟩
  have hc':=hc
  obtain ⟨hcn,hcb,hce,hcc,hcL,hcr,rfl,hc1,hc2,hc3,hc4⟩:=hc
  conv=>whnf
  exact fin _ F2 _ _ (by rw [z6k]; exact hc') rfl (Fz.t l1 l2) (zaj _)
 ·refine fo_of hΘ Tryz.func51 rfl (by decide) _ _ rfl rfl rfl ?_;conv=>whnf
  refine useFo (hst F (Fz.r F) p) rfl (zaa _) rfl ?_
  rintro _ F1 l1 ⟨sb,rfl,hb⟩
  have hb':=hb
  obtain ⟨hbn,hbb,hbe,hbc,hbL,hbr,rfl,hb1,hb2,hb3,hb4⟩:=hb
  conv=>whnf
  refine ⟨fun g=>absurd (od g) p3,fun _=>?_⟩;conv=>whnf
  refine ⟨fun g=>absurd (od g) p5,fun _=>?_⟩;conv=>whnf
  refine brj p6 ?_;conv=>whnf
  exact fin _ F1 _ _ (by rw [z3r p3 p5 p6]; exact hb') rfl l1 (zaj _)
end Go.Proofs.YtfnkamphhpldcaaGreatDoor
