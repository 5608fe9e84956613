import Derived.Test.YtfnkamphhpldcaaGreatDoorK18
import Derived.Shelf.Strings.OnBuilder
import Derived.Shelf.Strings.Trim
import Derived.Shelf.Strings.Search3
import Derived.Ground.GgwProg
import Derived.Shelf.GgClosure.StringsIndexFuncTop
import Derived.Shelf.Strings.Replace
import Derived.Shelf.Strings.Repeat
import Derived.Test.YtfnkamphhpldcaaGreatDoorProg
import Derived.Test.YtfnkamphhpldcaaGreatDoorK16
set_option maxHeartbeats 64000000
namespace Go.Proofs.YtfnkamphhpldcaaGreatDoor
open Go Sx
set_option maxRecDepth 100000
def zbm (ks:List Kp):List Kp:=(List.range 8).map fun k:Nat=>((k:Int) + 1,zb2 ks ((k:Int) + 1))
theorem zc8 (ks:List Kp):(zbm ks).length = 8:=by simp [zbm]
theorem zp9 (ks:List Kp) (k:Nat) (h:k < 8):(zbm ks)[k]? = some ((k:Int) + 1,zb2 ks ((k:Int) + 1)):=by simp [zbm,h]
def RowOf (F:Fz) (f:Nat → Kp) (o:List ZC):Prop:=∀ i (z:ZC),o[i]? = some z → KpR F z.1 (f i)
theorem RowOf.mono {F F':Fz} {f:Nat → Kp} {o:List ZC} (h:RowOf F f o) (hle:Fz.le F F'):RowOf F' f o:=fun i z hz=>(h i z hz).mono hle
theorem RowOf.nil {F:Fz} {f:Nat → Kp}:RowOf F f []:=fun i z hz=>by simp at hz
theorem RowOf.snoc {F:Fz} {f:Nat → Kp} {o:List ZC} (h:RowOf F f o) {z:ZC} (hz:KpR F z.1 (f o.length)):RowOf F f (o ++ [z]):=fun i y hy=>by
 by_cases hi:i < o.length
 ·rw [js hi] at hy; exact h i y hy
 ·rw [jz (by omega)] at hy
  have h0:i - o.length = 0:=by
   by_cases h1:i - o.length = 0
   ·exact h1
   ·rw [qbr (by simp; omega)] at hy; cases hy
  rw [h0] at hy
  have hy2:z = y:=by simpa using hy
  have hi2:i = o.length:=by omega
  rw [← hy2,hi2]; exact hz
theorem RowOf.sl {F:Fz} {t b room cap:Nat} {f:Nat → Kp} {o:List ZC} {l:List Kp} (h:RowOf F f o) (hF:F b = some (.arr t 2 (o.map encZ) room)) (hl:o.length = l.length) (hf:∀ k x,l[k]? = some x → x = f k):SlR F t 2 (KpR F) (.slice false 0 b 0 2 l.length cap) l:=
 SlR.new hF (by rw [qb,hl]) fun k x hx=>by
  have hk:k < o.length:=by rw [hl]; exact (qh.1 hx).1
  exact ⟨encZ o[k],by rw [qs,qc hk]; rfl,by rw [hf k x hx]; exact h k o[k] (qc hk)⟩
def mkZ (p:Int) (a:SA) (h:a.z = true):ZC:=⟨[.int .i64 p,a],fun x hx=>by
 simp only [qj,qq,or_false] at hx
 rcases hx with rfl | rfl
 ·rfl
 ·exact h⟩
theorem zwt (F:Fz) (sk:SA) (m:Mig) (hk:KpsAt F sk m.keep) (hs:short m.keep) (hl:m.keep.length < 1000000) :
  Fo Tryz.prog F 16 [.agg (migS m sk)] (fun o F'=>(migOk m = false ∧ o = .ret (.tup [.va .nilsl,.va (.int .i64 90)])) ∨
   (migOk m = true ∧ ∃ b c,o = .ret (.tup [.va (.slice false 0 b 0 2 8 c),.va (.int .i64 0)]) ∧ ClsAt F' (.slice false 0 b 0 2 8 c) (zbm m.keep))):=by
 have hcl:=fun F1 (l1:Fz.le F F1) q=>z1x F1 sk m q (KpsAt.up hk l1) hs hl
 have hval:=zjq F sk m hk hs hl
 have hmb:=fun n (h:sk.below n)=>zff (n:=n) m h
 obtain ⟨id,src,dst,back,ks⟩:=m
 replace hk:KpsAt F sk ks:=hk
 obtain ⟨v,hv⟩:∃ v,migOk ⟨id,src,dst,back,ks⟩ = v:=⟨_,rfl⟩
 rw [hv] at hval ⊢
 clear hv
 obtain ⟨kn,kb,ke,kc,kL,kr,rfl,k1,k2,k3,k4⟩:=hk
 replace hmb:∀ n,0 < n → (Ent.one (.cells 32 (migS ⟨id,src,dst,back,ks⟩ (.slice kn 0 kb ke 2 ks.length kc)))).below n:=fun n hn=>hmb n (.inr hn)
 rcases v with _ | _
 ·refine fo_of hΘ Tryz.func16 rfl (by decide) _ _ rfl rfl rfl ?_;conv=>whnf
  refine useFo hval rfl (zaa _) rfl ?_
  rintro _ F1 l1 rfl;conv=>whnf
  refine bre (by decide) ?_;conv=>whnf
  exact endFo (.ret (.tup [.va .nilsl,.va (.int .i64 90)])) F1 rfl l1 (Fz.r F1) (.inl ⟨rfl,rfl⟩) (zaj _) rfl
 ·refine fo_of hΘ Tryz.func16 rfl (by decide) _ _ rfl rfl rfl ?_;conv=>whnf
  refine useFo hval rfl (zaa _) rfl ?_
  rintro _ F1 l1 rfl;conv=>whnf
  refine brd (by decide) ?_;conv=>whnf
  refine zan hΘ (X:={ y:Nat × List ZC × Nat × Fz // Fz.le F y.2.2.2 ∧ y.1 ≤ 8 ∧ y.2.1.length = y.1 ∧ RowOf y.2.2.2 (fun k=>((k:Int) + 1,zb2 ks ((k:Int) + 1))) y.2.1 }) (fun y=>[(4,.va (gA 2 2 y.1.2.2.1 y.1.2.1)),(9,.va (.int .i64 y.1.1))]) [5,10,11,12,13,14,15,16,17,18,19,20]
   (fun y=>[(0,.frz y.1.2.2.2),(1,.one (.cells 32 (migS ⟨id,src,dst,back,ks⟩ (.slice kn 0 kb ke 2 ks.length kc)))),(2,gE 52 2 encZ y.1.2.2.1 y.1.2.1)]) 3 (fun y=>8 - y.1.1) ⟨(0,[],0,F1),l1,by omega,rfl,RowOf.nil⟩
   (fun hH hT=>leI [(2,2)] hH hT rfl ⟨tv,hmb 3 (by omega),zgh zcl (by omega) _ _ _ _,tv⟩ ⟨rfl,rfl,tv⟩ ⟨Fz.r F1,rfl,rfl,tv⟩) ?_
  rintro ⟨⟨k,o,co,G⟩,hG,hk,ho,hrow⟩ hH hT
  replace hG:Fz.le F G:=hG
  replace hk:k ≤ 8:=hk
  replace ho:o.length = k:=ho
  replace hrow:RowOf G (fun k=>((k:Int) + 1,zb2 ks ((k:Int) + 1))) o:=hrow
  by_cases g:k < 8
  ·have hlt:(k:Int) < 8:=by omega
   have hk1:k + 1 ≤ 8:=g
   have hdec:8 - (k + 1) < 8 - k:=by omega
   have hk62:k < 4611686018427387904:=by omega
   have hw:SA.int .i64 ((k:Int) + 1) = SA.int .i64 (IntKind.i64.wrap ((k:Int) + 1)):=cnt hk62
   have hcall:=hcl G hG ((k:Int) + 1)
   have hsn:∀ (G2:Fz) (z:ZC),Fz.le G G2 → KpR G2 z.1 ((k:Int) + 1,zb2 ks ((k:Int) + 1)) → RowOf G2 (fun k=>((k:Int) + 1,zb2 ks ((k:Int) + 1))) (o ++ [z]):=fun G2 z hle hz=>(hrow.mono hle).snoc (by rw [ho]; exact hz)
   have hlen:∀ z:ZC,(o ++ [z]).length = k + 1:=fun z=>by rw [qa,ho]; rfl
   rcases o with _ | ⟨o0,or'⟩
   ·conv=>whnf
    refine bri hlt ?_;conv=>whnf
    refine useFo hcall rfl ⟨rfl,hw,tv⟩ rfl ?_
    rintro _ G2 l2 ⟨sa,rfl,hst⟩
    have hst':=hst
    obtain ⟨hstn,hstb,hste,hstc,hstL,hstr,rfl,hst1,hst2,hst3,hst4⟩:=hst
    conv=>whnf
    refine ⟨nb rfl,[[.int .i64 ((k:Int) + 1),.slice hstn 0 hstb hste 2 (zb2 ks ((k:Int) + 1)).length hstc]],rfl,?_⟩;conv=>whnf
    refine ⟨rfl,rfl,?_⟩;conv=>whnf
    refine ⟨by show 1 * 32 ≤ 140737488355328; omega,fun c' hc'=>?_⟩;conv=>whnf
    exact ⟨⟨(k + 1,[] ++ [mkZ ((k:Int) + 1) (.slice hstn 0 hstb hste 2 (zb2 ks ((k:Int) + 1)).length hstc) rfl],c',G2),Fz.t hG l2,hk1,hlen _,hsn G2 _ l2 ⟨_,rfl,hst'⟩⟩,hdec,leR [(2,4)] hH hT rfl ⟨tv,hmb 3 (by omega),zgh zcl (by omega) _ _ _ _,tv⟩ ⟨by (conv=>whnf); exact ⟨rfl,rfl,rfl,.inr ⟨rfl,rfl,rfl,rfl⟩⟩,cnt hk62,tv⟩ ⟨Fz.r G2,rfl,zq2 (μ:=sig [(2,4)]) zcl (fun k=>rfl) (zcg _ (by rw [q5]; rfl)),tv⟩⟩
   ·have hsz:(or'.length + 1 + 1) * 32 ≤ 140737488355328:=by
     have h9:or'.length + 1 = k:=ho
     omega
    conv=>whnf
    refine bri hlt ?_;conv=>whnf
    refine useFo hcall rfl ⟨rfl,hw,tv⟩ rfl ?_
    rintro _ G2 l2 ⟨sa,rfl,hst⟩
    have hst':=hst
    obtain ⟨hstn,hstb,hste,hstc,hstL,hstr,rfl,hst1,hst2,hst3,hst4⟩:=hst
    conv=>whnf
    refine ⟨nb rfl,[[.int .i64 ((k:Int) + 1),.slice hstn 0 hstb hste 2 (zb2 ks ((k:Int) + 1)).length hstc]],rfl,?_⟩;conv=>whnf
    refine ⟨rfl,rfl,by simp,rfl,hsz,fun c' hc'=>?_⟩;conv=>whnf
    exact ⟨⟨(k + 1,(o0 :: or') ++ [mkZ ((k:Int) + 1) (.slice hstn 0 hstb hste 2 (zb2 ks ((k:Int) + 1)).length hstc) rfl],c',G2),Fz.t hG l2,hk1,hlen _,hsn G2 _ l2 ⟨_,rfl,hst'⟩⟩,hdec,leR [(2,4)] hH hT rfl ⟨tv,hmb 3 (by omega),zgh zcl (by omega) _ _ _ _,tv⟩ ⟨zqu (μ:=sig [(2,4)]) (i:=2) (j:=4) rfl 2 c' _ (o0 :: or') (mkZ ((k:Int) + 1) (.slice hstn 0 hstb hste 2 (zb2 ks ((k:Int) + 1)).length hstc) rfl) rfl,cnt hk62,tv⟩ ⟨Fz.r G2,rfl,zq2 (μ:=sig [(2,4)]) zcl (fun k=>rfl) (zcg _ (by rw [q5]; rfl)),tv⟩⟩
  ·have hlt:¬ (k:Int) < 8:=by omega
   have hk8:k = 8:=by omega
   have ho8:o.length = 8:=ho.trans hk8
   have hend:∀ (F':Fz) (b c:Nat),Fz.le G F' → F' b = some (.arr 52 2 (o.map encZ) c) → ClsAt F' (.slice false 0 b 0 2 8 c) (zbm ks):=fun F' b c hle hb=>by
    have h:=(hrow.mono hle).sl (cap:=c) (l:=zbm ks) hb (by rw [ho8,zc8]) fun i x hx=>by
     have hi:i < 8:=by have:=(qh.1 hx).1; rw [zc8] at this; exact this
     rw [zp9 ks i hi] at hx
     exact (Option.some.inj hx).symm
    rw [zc8] at h
    exact h
   rcases o with _ | ⟨o0,or'⟩
   ·cases ho8
   ·have hol:or'.length + 1 = 8:=ho8
    conv=>whnf
    refine brj hlt ?_;conv=>whnf
    refine zbl 2 (fun _=>.arr 52 2 ((o0 :: or').map encZ) co) rfl rfl rfl (fun _ _=>by exact zim (μ:=resP _) zcl (fun k=>rfl) rfl _ _ _) (fun _ _=>zfq zcl (by omega) _ _ _ _) ?_
    intro b' F' hle hb'
    refine endFo (.ret (.tup [.va (.slice false 0 (b' 0) 0 2 8 co),.va (.int .i64 0)])) F' rfl (Fz.t hG hle) (Fz.r F') (.inr ⟨rfl,_,_,rfl,hend F' _ _ hle (hb' 0 ⟨rfl,rfl⟩)⟩) ?_ rfl
    exact ⟨⟨rfl,hol.symm,rfl,.inr ⟨rfl,rfl,rfl,rfl⟩⟩,rfl,tv⟩
structure Crt where
 src:List UInt8
 dst:List UInt8
 len:Int
 cl:List Kp
abbrev crtS (c:Crt) (sk:SA):List SA:=[.str c.src,.str c.dst,.int .i64 c.len,sk]
theorem zar {n:Nat} (c:Crt) {t:Nat} {sk:SA} (h:sk.below n):(Ent.one (.cells t (crtS c sk))).below n:=by
 intro a ha
 simp only [qj,qq,or_false] at ha
 rcases ha with rfl | rfl | rfl | rfl
 ·trivial
 ·trivial
 ·trivial
 ·exact h
def clAt (x:Kp) (i:Int):Bool:=decide (x.1 = i) && (zbn x.1 x.2 && decide (normS x.2 = x.2))
def clOk:List Kp → Int → Bool
 |[],_=>true
 |x :: r,i=>clAt x i && clOk r (i + 1)
theorem zwe (l:List Kp) (k:Nat) (i:Int) (h:k < l.length):clOk (l.drop k) i = (clAt (l[k]'h) i && clOk (l.drop (k + 1)) (i + 1)):=by
 rw [qv h]; rfl
def crtOk (c:Crt):Bool:=decide (c.src.length = 32) && (decide (c.dst.length = 32) && (decide (1 ≤ c.len) && (decide (c.len ≤ 64) && (decide (c.cl.length = 8) && clOk c.cl 1))))
theorem clA1 {x:Kp} {i j:Int} (hj:j = i) (h:(!decide (x.1 = j)) = true):clAt x i = false:=by
 subst hj
 have:decide (x.1 = j) = false:=by simpa using h
 simp only [clAt,this,qt]
theorem clA2 {x:Kp} {i:Int} (h:(!decide ((normR x.1 x.2).2 = 0)) = true):clAt x i = false:=by
 have h2:zbn x.1 x.2 = false:=by
  cases hv:zbn x.1 x.2 with
  |false=>rfl
  |true=>rw [normR,if_pos hv] at h; cases h
 simp only [clAt,h2,qt,jp]
theorem clA3 {x:Kp} {i:Int} (h0:(!decide ((normR x.1 x.2).2 = 0)) = false) (h:(!decide ((normR x.1 x.2).1 = x.2)) = true):clAt x i = false:=by
 have h2:=ziw (p:=x.1) (l:=x.2) (by simpa using h0)
 have h3:decide ((normR x.1 x.2).1 = x.2) = false:=by simpa using h
 rw [h2.2] at h3
 simp only [clAt,h3,jp]
theorem clAT {x:Kp} {i j:Int} (hj:j = i) (h1:(!decide (x.1 = j)) = false) (h0:(!decide ((normR x.1 x.2).2 = 0)) = false) (h:(!decide ((normR x.1 x.2).1 = x.2)) = false):clAt x i = true:=by
 subst hj
 have h2:=ziw (p:=x.1) (l:=x.2) (by simpa using h0)
 have h3:decide ((normR x.1 x.2).1 = x.2) = true:=by simpa using h
 have h4:decide (x.1 = j) = true:=by simpa using h1
 rw [h2.2] at h3
 simp only [clAt,h4,h2.1,h3,Bool.and_self]
theorem cOk1 {c:Crt} (h:(!decide ((c.src.length:Int) = 32)) = true):crtOk c = false:=by
 have:decide (c.src.length = 32) = false:=by simp at h ⊢; omega
 simp only [crtOk,this,qt]
theorem cOk2 {c:Crt} (h:(!decide ((c.dst.length:Int) = 32)) = true):crtOk c = false:=by
 have:decide (c.dst.length = 32) = false:=by simp at h ⊢; omega
 simp only [crtOk,this,qt,jp]
theorem cOk3 {c:Crt} (h:decide (c.len < 1) = true):crtOk c = false:=by
 have:decide (1 ≤ c.len) = false:=by simp at h ⊢; omega
 simp only [crtOk,this,qt,jp]
theorem cOk4 {c:Crt} (h:decide (64 < c.len) = true):crtOk c = false:=by
 have:decide (c.len ≤ 64) = false:=by simp at h ⊢; omega
 simp only [crtOk,this,qt,jp]
theorem cOk5 {c:Crt} (h:(!decide ((c.cl.length:Int) = 8)) = true):crtOk c = false:=by
 have:decide (c.cl.length = 8) = false:=by simp at h ⊢; omega
 simp only [crtOk,this,qt,jp]
theorem cOkT {c:Crt} (h1:(!decide ((c.src.length:Int) = 32)) = false) (h2:(!decide ((c.dst.length:Int) = 32)) = false) (h3:decide (c.len < 1) = false) (h4:decide (64 < c.len) = false) (h5:(!decide ((c.cl.length:Int) = 8)) = false):crtOk c = clOk c.cl 1:=by
 have a1:decide (c.src.length = 32) = true:=by simp at h1 ⊢; omega
 have a2:decide (c.dst.length = 32) = true:=by simp at h2 ⊢; omega
 have a3:decide (1 ≤ c.len) = true:=by simp at h3 ⊢; omega
 have a4:decide (c.len ≤ 64) = true:=by simp at h4 ⊢; omega
 have a5:decide (c.cl.length = 8) = true:=by simp at h5 ⊢; omega
 simp only [crtOk,a1,a2,a3,a4,a5,y5]
theorem zei (F:Fz) (sk:SA) (c:Crt) (hk:ClsAt F sk c.cl) (hs:short c.cl) (hl:c.cl.length < 1000000) :
  Fo Tryz.prog F 25 [.agg (crtS c sk)] (fun o F'=>o = .ret (.va (.bool (crtOk c)))):=by
 have e1:=cOk1 (c:=c)
 have e2:=cOk2 (c:=c)
 have e3:=cOk3 (c:=c)
 have e4:=cOk4 (c:=c)
 have e5:=cOk5 (c:=c)
 have eT:=cOkT (c:=c)
 obtain ⟨v,hv⟩:∃ v,crtOk c = v:=⟨_,rfl⟩
 rw [hv] at e1 e2 e3 e4 e5 eT ⊢
 clear hv
 obtain ⟨src,dst,len,ks⟩:=c
 replace hk:ClsAt F sk ks:=hk
 replace hs:short ks:=hs
 replace hl:ks.length < 1000000:=hl
 have fin:∀ (b:Bool) (F1:Fz) (h:Hp) (nx:Nat),v = b → lget h 0 = some (.frz F1) → Fz.le F F1 → Cln 1 (FoK F fun o F'=>o = .ret (.va (.bool v))) (.ret (.va (.bool b))) h nx:=by
  intro b F1 h nx hb h0 hle
  exact endFo (.ret (.va (.bool b))) F1 h0 hle (Fz.r F1) (by rw [hb]) rfl rfl
 have finL:∀ (b:Bool) (F1:Fz) (h:Hp) (nx:Nat),v = b → lget h 0 = some (.frz F1) → Fz.le F F1 → Cln 1 (FoK F fun o F'=>o = .ret (.va (.bool v))) (.ret (.va (.lit b))) h nx:=by
  intro b F1 h nx hb h0 hle
  exact endFo (.ret (.va (.bool b))) F1 h0 hle (Fz.r F1) (by rw [hb]) rfl rfl
 obtain ⟨kn,kb,ke,kc,kL,kr,rfl,k1,k2,k3,k4⟩:=hk
 refine fo_of hΘ Tryz.func25 rfl (by decide) _ _ rfl rfl rfl ?_;conv=>whnf
 refine ⟨fun g1=>?_,fun g1=>?_⟩
 rotate_left
 ·conv=>whnf
  exact fin false F _ _ (e1 g1) rfl (Fz.r F)
 conv=>whnf
 refine ⟨fun g2=>?_,fun g2=>?_⟩
 rotate_left
 ·conv=>whnf
  exact fin false F _ _ (e2 g2) rfl (Fz.r F)
 conv=>whnf
 refine ⟨fun g3=>?_,fun g3=>?_⟩
 rotate_left
 ·conv=>whnf
  exact fin false F _ _ (e3 g3) rfl (Fz.r F)
 conv=>whnf
 refine ⟨fun g4=>?_,fun g4=>?_⟩
 rotate_left
 ·conv=>whnf
  exact fin false F _ _ (e4 g4) rfl (Fz.r F)
 conv=>whnf
 refine br (fun g5=>?_) (fun g5=>?_)
 ·conv=>whnf
  exact fin false F _ _ (e5 g5) rfl (Fz.r F)
 conv=>whnf
 have hT:=eT g1 g2 g3 g4 g5
 refine zan hΘ (X:={ x:Nat × Fz // Fz.le F x.2 ∧ x.1 ≤ ks.length ∧ v = clOk (ks.drop x.1) ((x.1:Int) + 1) }) (fun x=>[(36,.va (.int .i64 x.1.1))]) [2,3,4,5,6,37,38,39,40,41,42,43,44,45,46,47,48,49,50,51,52,53,54,55,56,57,58,59,60,61,62,63,64,65]
  (fun x=>[(0,.frz x.1.2),(1,.one (.cells 48 (crtS ⟨src,dst,len,ks⟩ (.slice kn 0 kb ke 2 ks.length kc))))]) 2 (fun x=>ks.length - x.1.1) ⟨(0,F),Fz.r F,by simp,hT⟩
  (fun hH hT=>leI [] hH hT rfl ⟨tv,zar _ (.inr (by omega)),tv⟩ ⟨rfl,tv⟩ ⟨Fz.r F,rfl,tv⟩) ?_
 rintro ⟨⟨k,G⟩,hG,hkl,hp⟩ hH hT
 replace hG:Fz.le F G:=hG
 replace hkl:k ≤ ks.length:=hkl
 replace hp:v = clOk (ks.drop k) ((k:Int) + 1):=hp
 by_cases g:k < ks.length
 ·have gi:(k:Int) < (ks.length:Int):=by omega
  have hdec:ks.length - (k + 1) < ks.length - k:=by omega
  have hk62:k < 4611686018427387904:=by omega
  have hw:IntKind.i64.wrap ((k:Int) + 1) = (k:Int) + 1:=zal (by omega) (by omega)
  have hx:=hs (ks[k]'g) (jj g)
  rw [zwe ks k _ g] at hp
  have hpF:clAt (ks[k]'g) ((k:Int) + 1) = false → v = false:=fun h=>by rw [hp,h,qt]
  have hpT:clAt (ks[k]'g) ((k:Int) + 1) = true → v = clOk (ks.drop (k + 1)) (((k + 1:Nat):Int) + 1):=fun h=>by rw [hp,h,y5]; rfl
  have hObt:=SlR.at k4 g
  obtain ⟨y,hy,a,rfl,ha⟩:=hObt
  have hcall:=zk1 G a (ks[k]'g).2 (ks[k]'g).1 (ha.mono hG) hx
  have heq:=fun F1 (l1:Fz.le G F1) sb hb=>zhi F1 sb a (normR (ks[k]'g).1 (ks[k]'g).2).1 (ks[k]'g).2 hb ((ha.mono hG).mono l1) (zlc _ _)
  have hnil:=SlR.lt k1 g
  have q1:=clA1 (x:=ks[k]'g) hw
  have q2:=clA2 (x:=ks[k]'g) (i:=(k:Int) + 1)
  have q3:=clA3 (x:=ks[k]'g) (i:=(k:Int) + 1)
  have qT:=clAT (x:=ks[k]'g) hw
  obtain ⟨han,hab,hae,hac,haL,har,rfl,ha1,ha2,ha3,ha4⟩:=ha
  conv=>whnf
  refine bri gi ?_;conv=>whnf
  refine ⟨hnil,⟨by simp,gi⟩,?_⟩;conv=>whnf
  refine ⟨_,hG _ _ (k2 hnil),?_⟩;conv=>whnf
  refine ⟨_,hy,?_⟩;conv=>whnf
  refine useFo hcall rfl (zaa _) rfl ?_
  rintro _ G1 l1 ⟨sc,rfl,hsc⟩
  have hc1:=heq G1 l1 sc hsc
  have lG:=Fz.t hG l1
  obtain ⟨hscn,hscb,hsce,hscc,hscL,hscr,rfl,hsc1,hsc2,hsc3,hsc4⟩:=hsc
  conv=>whnf
  refine ⟨fun g1=>?_,fun g1=>?_⟩
  rotate_left
  ·conv=>whnf
   exact fin false G1 _ _ (hpF (q1 g1)) rfl lG
  conv=>whnf
  refine ⟨fun g2=>?_,fun g2=>?_⟩
  rotate_left
  ·conv=>whnf
   exact fin false G1 _ _ (hpF (q2 g2)) rfl lG
  conv=>whnf
  refine usePu (hc1) rfl (zaa _) rfl ?_;conv=>whnf
  refine br (fun g3=>?_) (fun g3=>?_)
  ·conv=>whnf
   exact fin false G1 _ _ (hpF (q3 g2 g3)) rfl lG
  ·conv=>whnf
   exact ⟨⟨(k + 1,G1),lG,g,hpT (qT g1 g2 g3)⟩,hdec,leR [] hH hT rfl ⟨tv,zar _ (.inr (by omega)),tv⟩ ⟨cnt hk62,tv⟩ ⟨Fz.r G1,rfl,tv⟩⟩
 ·have gi:¬ (k:Int) < (ks.length:Int):=by omega
  rw [jq (by omega)] at hp
  conv=>whnf
  refine brj gi ?_;conv=>whnf
  first | exact fin true G _ _ hp rfl hG | exact finL true G _ _ hp rfl hG
theorem z1y (F:Fz) (sa sb:SA) (p q:Int) (a b:List Stp) (ha:za3 F sa a) (hb:za3 F sb b) (la:a.length < 1000000) :
  Fo Tryz.prog F 66 [.agg [.int .i64 p,sa],.agg [.int .i64 q,sb]] (fun o F'=>o = .ret (.va (.bool (decide (((p,a):Kp) = (q,b))))) ∧ F' = F):=by
 have heq:=zhi F sa sb a b ha hb la
 have fin:∀ (v:Bool) (h:Hp) (nx:Nat),decide (((p,a):Kp) = (q,b)) = v → lget h 0 = some (.frz F) → Cln 1 (FoK F fun o F'=>o = .ret (.va (.bool (decide (((p,a):Kp) = (q,b))))) ∧ F' = F) (.ret (.va (.bool v))) h nx:=by
  intro v h nx hv h0
  exact endPu h0 (Fz.r F) (ob hv) rfl
 obtain ⟨han,hab,hae,hac,haL,har,rfl,ha1,ha2,ha3,ha4⟩:=ha
 obtain ⟨hbn,hbb,hbe,hbc,hbL,hbr,rfl,hb1,hb2,hb3,hb4⟩:=hb
 refine fo_of hΘ Tryz.func66 rfl (by decide) _ _ rfl rfl rfl ?_;conv=>whnf
 refine ⟨fun g1=>?_,fun g1=>?_⟩
 ·conv=>whnf
  refine usePu (heq) rfl (zaa _) rfl ?_;conv=>whnf
  exact fin _ _ _ (by have h:=od g1; subst h; simp) rfl
 ·conv=>whnf
  exact fin _ _ _ (by have h:=oe g1; simp [h]) rfl
theorem z4s (F:Fz) (sa sb:SA) (a b:List Kp) (ha:ClsAt F sa a) (hb:ClsAt F sb b) (hs:short a) (la:a.length < 1000000) :
  Fo Tryz.prog F 65 [.va sa,.va sb,.va (.fn (.func 66) [])] (fun o F'=>o = .ret (.va (.bool (decide (a = b)))) ∧ F' = F):=by
 have fin:∀ (v:Bool) (h:Hp) (nx:Nat),decide (a = b) = v → lget h 0 = some (.frz F) → Cln 1 (FoK F fun o F'=>o = .ret (.va (.bool (decide (a = b)))) ∧ F' = F) (.ret (.va (.bool v))) h nx:=by
  intro v h nx hv h0
  exact endPu h0 (Fz.r F) (ob hv) rfl
 have finL:∀ (v:Bool) (h:Hp) (nx:Nat),decide (a = b) = v → lget h 0 = some (.frz F) → Cln 1 (FoK F fun o F'=>o = .ret (.va (.bool (decide (a = b)))) ∧ F' = F) (.ret (.va (.lit v))) h nx:=by
  intro v h nx hv h0
  exact endPu h0 (Fz.r F) (by rw [hv]; exact rfl) rfl
 obtain ⟨an,ab,ae,ac,aL,ar,rfl,a1,a2,a3,a4⟩:=ha
 obtain ⟨bn,bb,be,bc,bL,br_,rfl,b1,b2,b3,b4⟩:=hb
 refine fo_of hΘ Tryz.func65 rfl (by decide) _ _ rfl rfl rfl ?_;conv=>whnf
 refine br (fun g=>?_) (fun g=>?_)
 ·conv=>whnf
  refine fin _ _ _ ?_ rfl
  have:¬ a = b:=by rintro rfl; simp at g
  simp [this]
 ·have gl:a.length = b.length:=neq_f g
  conv=>whnf
  refine zan hΘ (X:={ k:Nat // k ≤ a.length ∧ a.take k = b.take k }) (fun x=>[(17,.va (.int .i64 x.1))]) [6,7,8,9,18,19,20,21,22,23,24,25,26,27,28,29,30,31] (fz fun _=>F) 1 (fun x=>a.length - x.1) ⟨0,by simp,rfl⟩
   (fun hH hT=>leI [] hH hT rfl ⟨tv,tv⟩ ⟨rfl,tv⟩ ⟨Fz.r F,tv⟩) ?_
  rintro ⟨k,hkl,hp⟩ hH hT
  by_cases g:k < a.length
  ·have g':k < b.length:=gl ▸ g
   have gi:(k:Int) < (a.length:Int):=by omega
   have gi':(k:Int) < (b.length:Int):=by omega
   have hdec:a.length - (k + 1) < a.length - k:=by omega
   have hk62:k < 4611686018427387904:=by omega
   have hx:=hs (a[k]'g) (jj g)
   have hObt:=SlR.at a4 g
   obtain ⟨y,hy,sa,rfl,ha⟩:=hObt
   have hObt:=SlR.at b4 g'
   obtain ⟨z,hz,sb,rfl,hb⟩:=hObt
   have hcall:=z1y F sa sb (a[k]'g).1 (b[k]'g').1 (a[k]'g).2 (b[k]'g').2 ha hb hx
   have hnA:=SlR.lt a1 g
   have hnB:=SlR.lt b1 g'
   have hT1:a[k]'g = b[k]'g' → a.take (k + 1) = b.take (k + 1):=fun h=>by rw [qi g,qi g',hp,h]
   have hF1:¬ a[k]'g = b[k]'g' → decide (a = b) = false:=fun h=>decide_eq_false fun e=>h (by subst e; rfl)
   obtain ⟨han,hab,hae,hac,haL,har,rfl,ha1,ha2,ha3,ha4⟩:=ha
   obtain ⟨hbn,hbb,hbe,hbc,hbL,hbr,rfl,hb1,hb2,hb3,hb4⟩:=hb
   conv=>whnf
   refine bri gi ?_;conv=>whnf
   refine ⟨hnA,⟨by simp,gi⟩,?_⟩;conv=>whnf
   refine ⟨_,a2 hnA,?_⟩;conv=>whnf
   refine ⟨_,hy,?_⟩;conv=>whnf
   refine ⟨hnB,⟨by simp,gi'⟩,?_⟩;conv=>whnf
   refine ⟨_,b2 hnB,?_⟩;conv=>whnf
   refine ⟨_,hz,?_⟩;conv=>whnf
   refine usePu (hcall) rfl (zaa _) rfl ?_;conv=>whnf
   refine br (fun g3=>?_) (fun g3=>?_)
   ·conv=>whnf
    have g4:(!decide (a[k]'g = b[k]'g')) = true:=g3
    first | exact fin false _ _ (hF1 (by simpa using g4)) rfl | exact finL false _ _ (hF1 (by simpa using g4)) rfl
   ·conv=>whnf
    have g4:(!decide (a[k]'g = b[k]'g')) = false:=g3
    exact ⟨⟨k + 1,g,hT1 (by simpa using g4)⟩,hdec,leR [] hH hT rfl ⟨tv,tv⟩ ⟨cnt hk62,tv⟩ ⟨Fz.r F,tv⟩⟩
  ·have gi:¬ (k:Int) < (a.length:Int):=by omega
   have he:decide (a = b) = true:=decide_eq_true (by rw [← qm (show a.length ≤ k by omega),hp,qm (by omega)])
   conv=>whnf
   refine brj gi ?_;conv=>whnf
   first | exact fin true _ _ he rfl | exact finL true _ _ he rfl
theorem beqD {s t:List UInt8} {x:Bool} (h:(s == t) = x):decide (s = t) = x:=by rw [← h,Bool.eq_iff_iff]; simp
def zm0 (a b:Crt):Bool:=decide (a.src = b.src) && (decide (a.dst = b.dst) && (decide (a.len = b.len) && decide (a.cl = b.cl)))
theorem zq7 (F:Fz) (sa sb:SA) (a b:Crt) (ha:ClsAt F sa a.cl) (hb:ClsAt F sb b.cl) (hs:short a.cl) (la:a.cl.length < 1000000) :
  Fo Tryz.prog F 27 [.agg (crtS a sa),.agg (crtS b sb)] (fun o F'=>o = .ret (.va (.bool (zm0 a b))) ∧ F' = F):=by
 have hcall:=z4s F sa sb a.cl b.cl ha hb hs la
 obtain ⟨s1,d1,n1,k1⟩:=a
 obtain ⟨s2,d2,n2,k2⟩:=b
 replace hcall:Fo Tryz.prog F 65 [.va sa,.va sb,.va (.fn (.func 66) [])] (fun o F'=>o = .ret (.va (.bool (decide (k1 = k2)))) ∧ F' = F):=hcall
 show Fo Tryz.prog F 27 [.agg (crtS ⟨s1,d1,n1,k1⟩ sa),.agg (crtS ⟨s2,d2,n2,k2⟩ sb)] (fun o F'=>o = .ret (.va (.bool (decide (s1 = s2) && (decide (d1 = d2) && (decide (n1 = n2) && decide (k1 = k2)))))) ∧ F' = F)
 have fin:∀ (v:Bool) (h:Hp) (nx:Nat),(decide (s1 = s2) && (decide (d1 = d2) && (decide (n1 = n2) && decide (k1 = k2)))) = v → lget h 0 = some (.frz F) → Cln 1 (FoK F fun o F'=>o = .ret (.va (.bool (decide (s1 = s2) && (decide (d1 = d2) && (decide (n1 = n2) && decide (k1 = k2)))))) ∧ F' = F) (.ret (.va (.bool v))) h nx:=by
  intro v h nx hv h0
  exact endPu h0 (Fz.r F) (ob hv) rfl
 obtain ⟨an,ab,ae,ac,aL,ar,rfl,-,-,-,-⟩:=ha
 obtain ⟨bn,bb,be,bc,bL,br_,rfl,-,-,-,-⟩:=hb
 refine fo_of hΘ Tryz.func27 rfl (by decide) _ _ rfl rfl rfl ?_;conv=>whnf
 refine ⟨fun g1=>?_,fun g1=>?_⟩
 rotate_left
 ·conv=>whnf
  exact fin false _ _ (by rw [show decide (s1 = s2) = false from beqD g1]; rfl) rfl
 conv=>whnf
 refine ⟨fun g2=>?_,fun g2=>?_⟩
 rotate_left
 ·conv=>whnf
  exact fin false _ _ (by rw [show decide (d1 = d2) = false from beqD g2]; simp) rfl
 conv=>whnf
 refine ⟨fun g3=>?_,fun g3=>?_⟩
 rotate_left
 ·conv=>whnf
  exact fin false _ _ (by rw [show decide (n1 = n2) = false from g3]; simp) rfl
 conv=>whnf
 refine usePu (hcall) rfl (zaa _) rfl ?_;conv=>whnf
 exact fin _ _ _ (by rw [show decide (s1 = s2) = true from beqD g1,show decide (d1 = d2) = true from beqD g2,show decide (n1 = n2) = true from g3]; rfl) rfl
end Go.Proofs.YtfnkamphhpldcaaGreatDoor
namespace Go.Proofs
open Go.Shelf
def Tryz.lays159_ren:Go.Shelf.Ren:=⟨fun | 159=>247 | 165=>257 | 166=>224 | 167=>264 | 169=>104 | 230=>265 | 204=>266 | 240=>256 | 241=>273 | 197=>260 | 118=>278 | 168=>279 | 270=>280 | 262=>281 | 276=>272 | 277=>287 | 260=>274 | 242=>292 | 313=>293 | 278=>298 | 274=>299 | 275=>300 | n=>n,fun | 9=>9 | 4=>4 | 3=>3 | 5=>5 | 72=>172 | 0=>0 | 76=>281 | 75=>125 | 107=>329 | 70=>170 | 20=>20 | 37=>81 | 127=>238 | 21=>21 | 105=>323 | 164=>334 | 162=>353 | 203=>351 | 119=>345 | 46=>220 | 139=>348 | 138=>347 | 51=>231 | 160=>355 | 208=>362 | 206=>360 | 80=>155 | n=>n,fun | 13=>3 | 3=>1 | 4=>2 | n=>n⟩
theorem Tryz.lays159:Go.Proofs.Lays.n159 Tryz.prog Tryz.lays159_ren:={
 mixed:=by kernel_rfl
 f118:=Tryz.func278.trans (congrArg some (by kernel_rfl))
 f159:=Tryz.func247.trans (congrArg some (by kernel_rfl))
 f165:=Tryz.func257.trans (congrArg some (by kernel_rfl))
 f166:=Tryz.func224.trans (congrArg some (by kernel_rfl))
 f167:=Tryz.func264.trans (congrArg some (by kernel_rfl))
 f168:=Tryz.func279.trans (congrArg some (by kernel_rfl))
 f169:=Tryz.func104.trans (congrArg some (by kernel_rfl))
 f197:=Tryz.func260.trans (congrArg some (by kernel_rfl))
 f204:=Tryz.func266.trans (congrArg some (by kernel_rfl))
 f230:=Tryz.func265.trans (congrArg some (by kernel_rfl))
 f240:=Tryz.func256.trans (congrArg some (by kernel_rfl))
 f241:=Tryz.func273.trans (congrArg some (by kernel_rfl))
 f242:=Tryz.func292.trans (congrArg some (by kernel_rfl))
 f260:=Tryz.func274.trans (congrArg some (by kernel_rfl))
 f262:=Tryz.func281.trans (congrArg some (by kernel_rfl))
 f270:=Tryz.func280.trans (congrArg some (by kernel_rfl))
 f274:=Tryz.func299.trans (congrArg some (by kernel_rfl))
 f275:=Tryz.func300.trans (congrArg some (by kernel_rfl))
 f276:=Tryz.func272.trans (congrArg some (by kernel_rfl))
 f277:=Tryz.func287.trans (congrArg some (by kernel_rfl))
 f278:=Tryz.func298.trans (congrArg some (by kernel_rfl))
 f313:=Tryz.func293.trans (congrArg some (by kernel_rfl))
 t0:=Tryz.underlying0
 a0:=Tryz.isAgg0
 z0:=Tryz.sizeOf0
 v0:=Tryz.zeroValue0
 t3:=Tryz.underlying3
 a3:=Tryz.isAgg3
 z3:=Tryz.sizeOf3
 v3:=Tryz.zeroValue3
 t4:=Tryz.underlying4
 a4:=Tryz.isAgg4
 z4:=Tryz.sizeOf4
 v4:=Tryz.zeroValue4
 t5:=Tryz.underlying5
 a5:=Tryz.isAgg5
 z5:=Tryz.sizeOf5
 v5:=Tryz.zeroValue5
 t9:=Tryz.underlying9
 a9:=Tryz.isAgg9
 z9:=Tryz.sizeOf9
 v9:=Tryz.zeroValue9
 t20:=Tryz.underlying20
 a20:=Tryz.isAgg20
 z20:=Tryz.sizeOf20
 v20:=Tryz.zeroValue20
 t21:=Tryz.underlying21
 a21:=Tryz.isAgg21
 z21:=Tryz.sizeOf21
 v21:=Tryz.zeroValue21
 t37:=Tryz.underlying81
 a37:=Tryz.isAgg81
 z37:=Tryz.sizeOf81
 v37:=Tryz.zeroValue81
 t46:=Tryz.underlying220
 a46:=Tryz.isAgg220
 z46:=Tryz.sizeOf220
 v46:=Tryz.zeroValue220
 t51:=Tryz.underlying231
 a51:=Tryz.isAgg231
 z51:=Tryz.sizeOf231
 v51:=Tryz.zeroValue231
 t70:=Tryz.underlying170
 a70:=Tryz.isAgg170
 z70:=Tryz.sizeOf170
 v70:=Tryz.zeroValue170
 t72:=Tryz.underlying172
 a72:=Tryz.isAgg172
 z72:=Tryz.sizeOf172
 v72:=Tryz.zeroValue172
 t75:=Tryz.underlying125
 a75:=Tryz.isAgg125
 z75:=Tryz.sizeOf125
 v75:=Tryz.zeroValue125
 t76:=Tryz.underlying281
 a76:=Tryz.isAgg281
 z76:=Tryz.sizeOf281
 v76:=Tryz.zeroValue281
 t105:=Tryz.underlying323
 a105:=Tryz.isAgg323
 z105:=Tryz.sizeOf323
 v105:=Tryz.zeroValue323
 t107:=Tryz.underlying329
 a107:=Tryz.isAgg329
 z107:=Tryz.sizeOf329
 v107:=Tryz.zeroValue329
 t119:=Tryz.underlying345
 a119:=Tryz.isAgg345
 z119:=Tryz.sizeOf345
 t127:=Tryz.underlying238
 a127:=Tryz.isAgg238
 z127:=Tryz.sizeOf238
 v127:=Tryz.zeroValue238
 t138:=Tryz.underlying347
 a138:=Tryz.isAgg347
 z138:=Tryz.sizeOf347
 v138:=Tryz.zeroValue347
 t139:=Tryz.underlying348
 a139:=Tryz.isAgg348
 z139:=Tryz.sizeOf348
 v139:=Tryz.zeroValue348
 t160:=Tryz.underlying355
 a160:=Tryz.isAgg355
 z160:=Tryz.sizeOf355
 v160:=Tryz.zeroValue355
 t162:=Tryz.underlying353
 a162:=Tryz.isAgg353
 z162:=Tryz.sizeOf353
 v162:=Tryz.zeroValue353
 t164:=Tryz.underlying334
 a164:=Tryz.isAgg334
 z164:=Tryz.sizeOf334
 v164:=Tryz.zeroValue334
 t203:=Tryz.underlying351
 a203:=Tryz.isAgg351
 z203:=Tryz.sizeOf351
 v203:=Tryz.zeroValue351
 t206:=Tryz.underlying360
 a206:=Tryz.isAgg360
 z206:=Tryz.sizeOf360
 v206:=Tryz.zeroValue360
 t208:=Tryz.underlying362
 a208:=Tryz.isAgg362
 z208:=Tryz.sizeOf362
 v208:=Tryz.zeroValue362
 g3:=by kernel_rfl
 g4:=by kernel_rfl
 g13:=by kernel_rfl }
theorem Tryz.Builder_Extra_159:Builder.Extra Tryz.prog Tryz.lays159_ren:={
 sizeBuilder:=by kernel_rfl
 liesBuilder:=by kernel_rfl
 t5:=Tryz.underlying5
 a5:=Tryz.isAgg5
 z5:=Tryz.sizeOf5
 v5:=Tryz.zeroValue5
 infoByte:=by kernel_rfl
 cellsByte:=by kernel_rfl
 sizeByte:=by kernel_rfl
 neB5:=by decide }
open Go.RowKit in
theorem Tryz.strings_ToLower_ascii (s:ByteArray) (w:World) (hs:s.size ≤ 140737488355328) (hascii:∀ (j:Nat) (b:UInt8),s.data.toList[j]? = some b → b.toNat < 128) :
  Calls Tryz.prog 247 #[.string s] w fun e w'=>e = .returned (.string ⟨(Lib.toLowerA s.data.toList).toArray⟩) ∧ Below w.heap.size w w':=Any.strings_ToLower_ascii Tryz.lays159 Tryz.Builder_Extra_159 s w hs hascii
def Tryz.lays160_ren:Go.Shelf.Ren:=⟨fun | 160=>184 | 232=>235 | 231=>234 | 227=>236 | 234=>238 | 233=>237 | 236=>240 | 235=>239 | 228=>259 | 271=>262 | 151=>261 | 197=>260 | 120=>276 | 152=>275 | 260=>274 | 137=>288 | 119=>289 | 224=>290 | 225=>291 | 217=>294 | 266=>301 | n=>n,fun | 9=>9 | 4=>4 | 3=>3 | 5=>5 | 117=>296 | 116=>295 | 0=>0 | 124=>299 | 21=>21 | 105=>323 | 46=>220 | 119=>345 | 139=>348 | 138=>347 | n=>n,fun | 3=>1 | 4=>2 | n=>n⟩
theorem Tryz.lays160:Go.Proofs.Lays.n160 Tryz.prog Tryz.lays160_ren:={
 mixed:=by kernel_rfl
 f119:=Tryz.func289.trans (congrArg some (by kernel_rfl))
 f120:=Tryz.func276.trans (congrArg some (by kernel_rfl))
 f137:=Tryz.func288.trans (congrArg some (by kernel_rfl))
 f151:=Tryz.func261.trans (congrArg some (by kernel_rfl))
 f152:=Tryz.func275.trans (congrArg some (by kernel_rfl))
 f160:=Tryz.func184.trans (congrArg some (by kernel_rfl))
 f197:=Tryz.func260.trans (congrArg some (by kernel_rfl))
 f217:=Tryz.func294.trans (congrArg some (by kernel_rfl))
 f224:=Tryz.func290.trans (congrArg some (by kernel_rfl))
 f225:=Tryz.func291.trans (congrArg some (by kernel_rfl))
 f227:=Tryz.func236.trans (congrArg some (by kernel_rfl))
 f228:=Tryz.func259.trans (congrArg some (by kernel_rfl))
 f231:=Tryz.func234.trans (congrArg some (by kernel_rfl))
 f232:=Tryz.func235.trans (congrArg some (by kernel_rfl))
 f233:=Tryz.func237.trans (congrArg some (by kernel_rfl))
 f234:=Tryz.func238.trans (congrArg some (by kernel_rfl))
 f235:=Tryz.func239.trans (congrArg some (by kernel_rfl))
 f236:=Tryz.func240.trans (congrArg some (by kernel_rfl))
 f260:=Tryz.func274.trans (congrArg some (by kernel_rfl))
 f266:=Tryz.func301.trans (congrArg some (by kernel_rfl))
 f271:=Tryz.func262.trans (congrArg some (by kernel_rfl))
 t0:=Tryz.underlying0
 a0:=Tryz.isAgg0
 z0:=Tryz.sizeOf0
 v0:=Tryz.zeroValue0
 t3:=Tryz.underlying3
 a3:=Tryz.isAgg3
 z3:=Tryz.sizeOf3
 v3:=Tryz.zeroValue3
 t4:=Tryz.underlying4
 a4:=Tryz.isAgg4
 z4:=Tryz.sizeOf4
 v4:=Tryz.zeroValue4
 t5:=Tryz.underlying5
 a5:=Tryz.isAgg5
 z5:=Tryz.sizeOf5
 v5:=Tryz.zeroValue5
 t9:=Tryz.underlying9
 a9:=Tryz.isAgg9
 z9:=Tryz.sizeOf9
 v9:=Tryz.zeroValue9
 t21:=Tryz.underlying21
 a21:=Tryz.isAgg21
 z21:=Tryz.sizeOf21
 v21:=Tryz.zeroValue21
 t46:=Tryz.underlying220
 a46:=Tryz.isAgg220
 z46:=Tryz.sizeOf220
 v46:=Tryz.zeroValue220
 t105:=Tryz.underlying323
 a105:=Tryz.isAgg323
 z105:=Tryz.sizeOf323
 v105:=Tryz.zeroValue323
 t116:=Tryz.underlying295
 a116:=Tryz.isAgg295
 z116:=Tryz.sizeOf295
 t117:=Tryz.underlying296
 a117:=Tryz.isAgg296
 z117:=Tryz.sizeOf296
 v117:=Tryz.zeroValue296
 t119:=Tryz.underlying345
 a119:=Tryz.isAgg345
 z119:=Tryz.sizeOf345
 t124:=Tryz.underlying299
 a124:=Tryz.isAgg299
 z124:=Tryz.sizeOf299
 v124:=Tryz.zeroValue299
 t138:=Tryz.underlying347
 a138:=Tryz.isAgg347
 z138:=Tryz.sizeOf347
 v138:=Tryz.zeroValue347
 t139:=Tryz.underlying348
 a139:=Tryz.isAgg348
 z139:=Tryz.sizeOf348
 v139:=Tryz.zeroValue348
 g3:=by kernel_rfl
 g4:=by kernel_rfl }
def Tryz.lays144_ren:Go.Shelf.Ren:=⟨fun | 144=>248 | 143=>267 | 219=>282 | 217=>294 | 225=>291 | 224=>290 | 267=>295 | 266=>301 | 314=>302 | n=>n,fun | 9=>9 | 4=>4 | 3=>3 | 5=>5 | 46=>220 | 146=>340 | 51=>231 | n=>n,fun | 1=>4 | n=>n⟩
theorem Tryz.lays144:Go.Proofs.Lays.n144 Tryz.prog Tryz.lays144_ren:={
 mixed:=by kernel_rfl
 f143:=Tryz.func267.trans (congrArg some (by kernel_rfl))
 f144:=Tryz.func248.trans (congrArg some (by kernel_rfl))
 f217:=Tryz.func294.trans (congrArg some (by kernel_rfl))
 f219:=Tryz.func282.trans (congrArg some (by kernel_rfl))
 f224:=Tryz.func290.trans (congrArg some (by kernel_rfl))
 f225:=Tryz.func291.trans (congrArg some (by kernel_rfl))
 f266:=Tryz.func301.trans (congrArg some (by kernel_rfl))
 f267:=Tryz.func295.trans (congrArg some (by kernel_rfl))
 f314:=Tryz.func302.trans (congrArg some (by kernel_rfl))
 t3:=Tryz.underlying3
 a3:=Tryz.isAgg3
 z3:=Tryz.sizeOf3
 v3:=Tryz.zeroValue3
 t4:=Tryz.underlying4
 a4:=Tryz.isAgg4
 z4:=Tryz.sizeOf4
 v4:=Tryz.zeroValue4
 t5:=Tryz.underlying5
 a5:=Tryz.isAgg5
 z5:=Tryz.sizeOf5
 v5:=Tryz.zeroValue5
 t9:=Tryz.underlying9
 a9:=Tryz.isAgg9
 z9:=Tryz.sizeOf9
 v9:=Tryz.zeroValue9
 t46:=Tryz.underlying220
 a46:=Tryz.isAgg220
 z46:=Tryz.sizeOf220
 v46:=Tryz.zeroValue220
 t51:=Tryz.underlying231
 a51:=Tryz.isAgg231
 z51:=Tryz.sizeOf231
 v51:=Tryz.zeroValue231
 t146:=Tryz.underlying340
 a146:=Tryz.isAgg340
 z146:=Tryz.sizeOf340
 v146:=Tryz.zeroValue340
 g1:=by kernel_rfl }
open Go.RowKit Go.Lib in
theorem Tryz.strings_Contains (s sub:ByteArray) (m:Int) (w:World) (hs:s.size < 4294967281) (hm:w.cell? ⟨4,0,none⟩ = some (.int .i64 m)) :
  Calls Tryz.prog 248 #[.string s,.string sub] w fun e w'=>e = .returned (.bool (Lib.contains s.data.toList sub.data.toList)) ∧ w' = w:=Any.strings_Contains Tryz.lays144 s sub m w hs hm
def Tryz.laysGw17_ren:Go.Shelf.Ren:=⟨fun | 17=>241 | 15=>216 | 20=>255 | n=>n,fun | 9=>9 | 23=>276 | 4=>4 | 3=>3 | 0=>0 | 21=>21 | n=>n,fun | n=>n⟩
theorem Tryz.laysGw17:Go.Proofs.LaysGw.n17 Tryz.prog Tryz.laysGw17_ren:={
 mixed:=by kernel_rfl
 f15:=Tryz.func216.trans (congrArg some (by kernel_rfl))
 f17:=Tryz.func241.trans (congrArg some (by kernel_rfl))
 f20:=Tryz.func255.trans (congrArg some (by kernel_rfl))
 t0:=Tryz.underlying0
 a0:=Tryz.isAgg0
 z0:=Tryz.sizeOf0
 v0:=Tryz.zeroValue0
 i0:=by kernel_rfl
 t3:=Tryz.underlying3
 a3:=Tryz.isAgg3
 z3:=Tryz.sizeOf3
 v3:=Tryz.zeroValue3
 i3:=by kernel_rfl
 t4:=Tryz.underlying4
 a4:=Tryz.isAgg4
 z4:=Tryz.sizeOf4
 v4:=Tryz.zeroValue4
 i4:=by kernel_rfl
 t9:=Tryz.underlying9
 a9:=Tryz.isAgg9
 z9:=Tryz.sizeOf9
 v9:=Tryz.zeroValue9
 i9:=by kernel_rfl
 t21:=Tryz.underlying21
 a21:=Tryz.isAgg21
 z21:=Tryz.sizeOf21
 v21:=Tryz.zeroValue21
 i21:=by kernel_rfl
 t23:=Tryz.underlying276
 a23:=Tryz.isAgg276
 z23:=Tryz.sizeOf276
 v23:=Tryz.zeroValue276
 i23:=by kernel_rfl }
open Go.RowKit Go.Lib in
def Tryz.lays155_ren:Go.Shelf.Ren:=⟨fun | 155=>249 | 154=>268 | 138=>283 | 165=>257 | 143=>267 | 166=>224 | 197=>260 | 169=>104 | 195=>296 | 218=>297 | 240=>256 | 241=>273 | 219=>282 | 260=>274 | 276=>272 | 277=>287 | 217=>294 | 225=>291 | 224=>290 | 267=>295 | 266=>301 | 314=>302 | n=>n,fun | 9=>9 | 3=>3 | 4=>4 | 72=>172 | 0=>0 | 76=>281 | 105=>323 | 21=>21 | 5=>5 | 70=>170 | 20=>20 | 37=>81 | 75=>125 | 127=>238 | 164=>334 | 46=>220 | 119=>345 | 139=>348 | 138=>347 | 146=>340 | 51=>231 | 80=>155 | n=>n,fun | 1=>4 | 3=>1 | 4=>2 | n=>n⟩
theorem Tryz.lays155:Go.Proofs.Lays.n155 Tryz.prog Tryz.lays155_ren:={
 mixed:=by kernel_rfl
 f138:=Tryz.func283.trans (congrArg some (by kernel_rfl))
 f143:=Tryz.func267.trans (congrArg some (by kernel_rfl))
 f154:=Tryz.func268.trans (congrArg some (by kernel_rfl))
 f155:=Tryz.func249.trans (congrArg some (by kernel_rfl))
 f165:=Tryz.func257.trans (congrArg some (by kernel_rfl))
 f166:=Tryz.func224.trans (congrArg some (by kernel_rfl))
 f169:=Tryz.func104.trans (congrArg some (by kernel_rfl))
 f195:=Tryz.func296.trans (congrArg some (by kernel_rfl))
 f197:=Tryz.func260.trans (congrArg some (by kernel_rfl))
 f217:=Tryz.func294.trans (congrArg some (by kernel_rfl))
 f218:=Tryz.func297.trans (congrArg some (by kernel_rfl))
 f219:=Tryz.func282.trans (congrArg some (by kernel_rfl))
 f224:=Tryz.func290.trans (congrArg some (by kernel_rfl))
 f225:=Tryz.func291.trans (congrArg some (by kernel_rfl))
 f240:=Tryz.func256.trans (congrArg some (by kernel_rfl))
 f241:=Tryz.func273.trans (congrArg some (by kernel_rfl))
 f260:=Tryz.func274.trans (congrArg some (by kernel_rfl))
 f266:=Tryz.func301.trans (congrArg some (by kernel_rfl))
 f267:=Tryz.func295.trans (congrArg some (by kernel_rfl))
 f276:=Tryz.func272.trans (congrArg some (by kernel_rfl))
 f277:=Tryz.func287.trans (congrArg some (by kernel_rfl))
 f314:=Tryz.func302.trans (congrArg some (by kernel_rfl))
 t0:=Tryz.underlying0
 a0:=Tryz.isAgg0
 z0:=Tryz.sizeOf0
 v0:=Tryz.zeroValue0
 t3:=Tryz.underlying3
 a3:=Tryz.isAgg3
 z3:=Tryz.sizeOf3
 v3:=Tryz.zeroValue3
 t4:=Tryz.underlying4
 a4:=Tryz.isAgg4
 z4:=Tryz.sizeOf4
 v4:=Tryz.zeroValue4
 t5:=Tryz.underlying5
 a5:=Tryz.isAgg5
 z5:=Tryz.sizeOf5
 v5:=Tryz.zeroValue5
 t9:=Tryz.underlying9
 a9:=Tryz.isAgg9
 z9:=Tryz.sizeOf9
 v9:=Tryz.zeroValue9
 t20:=Tryz.underlying20
 a20:=Tryz.isAgg20
 z20:=Tryz.sizeOf20
 v20:=Tryz.zeroValue20
 t21:=Tryz.underlying21
 a21:=Tryz.isAgg21
 z21:=Tryz.sizeOf21
 v21:=Tryz.zeroValue21
 t37:=Tryz.underlying81
 a37:=Tryz.isAgg81
 z37:=Tryz.sizeOf81
 v37:=Tryz.zeroValue81
 t46:=Tryz.underlying220
 a46:=Tryz.isAgg220
 z46:=Tryz.sizeOf220
 v46:=Tryz.zeroValue220
 t51:=Tryz.underlying231
 a51:=Tryz.isAgg231
 z51:=Tryz.sizeOf231
 v51:=Tryz.zeroValue231
 t70:=Tryz.underlying170
 a70:=Tryz.isAgg170
 z70:=Tryz.sizeOf170
 v70:=Tryz.zeroValue170
 t72:=Tryz.underlying172
 a72:=Tryz.isAgg172
 z72:=Tryz.sizeOf172
 v72:=Tryz.zeroValue172
 t75:=Tryz.underlying125
 a75:=Tryz.isAgg125
 z75:=Tryz.sizeOf125
 v75:=Tryz.zeroValue125
 t76:=Tryz.underlying281
 a76:=Tryz.isAgg281
 z76:=Tryz.sizeOf281
 v76:=Tryz.zeroValue281
 t105:=Tryz.underlying323
 a105:=Tryz.isAgg323
 z105:=Tryz.sizeOf323
 v105:=Tryz.zeroValue323
 t119:=Tryz.underlying345
 a119:=Tryz.isAgg345
 z119:=Tryz.sizeOf345
 t127:=Tryz.underlying238
 a127:=Tryz.isAgg238
 z127:=Tryz.sizeOf238
 v127:=Tryz.zeroValue238
 t138:=Tryz.underlying347
 a138:=Tryz.isAgg347
 z138:=Tryz.sizeOf347
 v138:=Tryz.zeroValue347
 t139:=Tryz.underlying348
 a139:=Tryz.isAgg348
 z139:=Tryz.sizeOf348
 v139:=Tryz.zeroValue348
 t146:=Tryz.underlying340
 a146:=Tryz.isAgg340
 z146:=Tryz.sizeOf340
 v146:=Tryz.zeroValue340
 t164:=Tryz.underlying334
 a164:=Tryz.isAgg334
 z164:=Tryz.sizeOf334
 v164:=Tryz.zeroValue334
 g1:=by kernel_rfl
 g3:=by kernel_rfl
 g4:=by kernel_rfl }
theorem Tryz.Builder_Extra_155:Builder.Extra Tryz.prog Tryz.lays155_ren:={
 sizeBuilder:=by kernel_rfl
 liesBuilder:=by kernel_rfl
 t5:=Tryz.underlying5
 a5:=Tryz.isAgg5
 z5:=Tryz.sizeOf5
 v5:=Tryz.zeroValue5
 infoByte:=by kernel_rfl
 cellsByte:=by kernel_rfl
 sizeByte:=by kernel_rfl
 neB5:=by decide }
open Go.RowKit Go.Lib in
theorem Tryz.strings_ReplaceAll (s old new:ByteArray) (m:Int) (w:World) (hs:s.size < 4294967281) (hm:w.cell? ⟨4,0,none⟩ = some (.int .i64 m)) (h1:1 ≤ old.size) (hlen:s.size + Lib.countB s old * new.size ≤ 140737488355328) :
  Calls Tryz.prog 249 #[.string s,.string old,.string new] w fun e w'=>
   e = .returned (.string ⟨(Lib.replaceAll s.data.toList old.data.toList new.data.toList).toArray⟩) ∧ Below w.heap.size w w':=Any.strings_ReplaceAll Tryz.lays155 Tryz.Builder_Extra_155 s old new m w hs hm h1 hlen
def Tryz.lays105_ren:Go.Shelf.Ren:=⟨fun | 105=>250 | 212=>269 | 99=>270 | 165=>257 | 166=>224 | 170=>271 | 169=>104 | 263=>284 | 264=>285 | 206=>286 | 240=>256 | 241=>273 | 276=>272 | 277=>287 | n=>n,fun | 9=>9 | 3=>3 | 4=>4 | 20=>20 | 0=>0 | 46=>220 | 109=>332 | 5=>5 | 72=>172 | 76=>281 | 51=>231 | 146=>340 | 53=>219 | 148=>342 | 70=>170 | 37=>81 | 75=>125 | 127=>238 | 164=>334 | 80=>155 | n=>n,fun | n=>n⟩
theorem Tryz.lays105:Go.Proofs.Lays.n105 Tryz.prog Tryz.lays105_ren:={
 mixed:=by kernel_rfl
 f99:=Tryz.func270.trans (congrArg some (by kernel_rfl))
 f105:=Tryz.func250.trans (congrArg some (by kernel_rfl))
 f165:=Tryz.func257.trans (congrArg some (by kernel_rfl))
 f166:=Tryz.func224.trans (congrArg some (by kernel_rfl))
 f169:=Tryz.func104.trans (congrArg some (by kernel_rfl))
 f170:=Tryz.func271.trans (congrArg some (by kernel_rfl))
 f206:=Tryz.func286.trans (congrArg some (by kernel_rfl))
 f212:=Tryz.func269.trans (congrArg some (by kernel_rfl))
 f240:=Tryz.func256.trans (congrArg some (by kernel_rfl))
 f241:=Tryz.func273.trans (congrArg some (by kernel_rfl))
 f263:=Tryz.func284.trans (congrArg some (by kernel_rfl))
 f264:=Tryz.func285.trans (congrArg some (by kernel_rfl))
 f276:=Tryz.func272.trans (congrArg some (by kernel_rfl))
 f277:=Tryz.func287.trans (congrArg some (by kernel_rfl))
 t0:=Tryz.underlying0
 a0:=Tryz.isAgg0
 z0:=Tryz.sizeOf0
 v0:=Tryz.zeroValue0
 t3:=Tryz.underlying3
 a3:=Tryz.isAgg3
 z3:=Tryz.sizeOf3
 v3:=Tryz.zeroValue3
 t4:=Tryz.underlying4
 a4:=Tryz.isAgg4
 z4:=Tryz.sizeOf4
 v4:=Tryz.zeroValue4
 t5:=Tryz.underlying5
 a5:=Tryz.isAgg5
 z5:=Tryz.sizeOf5
 v5:=Tryz.zeroValue5
 t9:=Tryz.underlying9
 a9:=Tryz.isAgg9
 z9:=Tryz.sizeOf9
 v9:=Tryz.zeroValue9
 t20:=Tryz.underlying20
 a20:=Tryz.isAgg20
 z20:=Tryz.sizeOf20
 v20:=Tryz.zeroValue20
 t37:=Tryz.underlying81
 a37:=Tryz.isAgg81
 z37:=Tryz.sizeOf81
 v37:=Tryz.zeroValue81
 t46:=Tryz.underlying220
 a46:=Tryz.isAgg220
 z46:=Tryz.sizeOf220
 v46:=Tryz.zeroValue220
 t51:=Tryz.underlying231
 a51:=Tryz.isAgg231
 z51:=Tryz.sizeOf231
 v51:=Tryz.zeroValue231
 t53:=Tryz.underlying219
 a53:=Tryz.isAgg219
 z53:=Tryz.sizeOf219
 v53:=Tryz.zeroValue219
 t70:=Tryz.underlying170
 a70:=Tryz.isAgg170
 z70:=Tryz.sizeOf170
 v70:=Tryz.zeroValue170
 t72:=Tryz.underlying172
 a72:=Tryz.isAgg172
 z72:=Tryz.sizeOf172
 v72:=Tryz.zeroValue172
 t75:=Tryz.underlying125
 a75:=Tryz.isAgg125
 z75:=Tryz.sizeOf125
 v75:=Tryz.zeroValue125
 t76:=Tryz.underlying281
 a76:=Tryz.isAgg281
 z76:=Tryz.sizeOf281
 v76:=Tryz.zeroValue281
 t109:=Tryz.underlying332
 a109:=Tryz.isAgg332
 z109:=Tryz.sizeOf332
 v109:=Tryz.zeroValue332
 t127:=Tryz.underlying238
 a127:=Tryz.isAgg238
 z127:=Tryz.sizeOf238
 v127:=Tryz.zeroValue238
 t146:=Tryz.underlying340
 a146:=Tryz.isAgg340
 z146:=Tryz.sizeOf340
 v146:=Tryz.zeroValue340
 t148:=Tryz.underlying342
 a148:=Tryz.isAgg342
 z148:=Tryz.sizeOf342
 v148:=Tryz.zeroValue342
 t164:=Tryz.underlying334
 a164:=Tryz.isAgg334
 z164:=Tryz.sizeOf334
 v164:=Tryz.zeroValue334 }
theorem Tryz.Builder_Extra_105:Builder.Extra Tryz.prog Tryz.lays105_ren:={
 sizeBuilder:=by kernel_rfl
 liesBuilder:=by kernel_rfl
 t5:=Tryz.underlying5
 a5:=Tryz.isAgg5
 z5:=Tryz.sizeOf5
 v5:=Tryz.zeroValue5
 infoByte:=by kernel_rfl
 cellsByte:=by kernel_rfl
 sizeByte:=by kernel_rfl
 neB5:=by decide }
open Go.RowKit Go.Lib in
theorem Tryz.strings_Repeat (s:ByteArray) (c:Nat) (w:World) (hc:c ≤ 9223372036854775807) (hlen:s.size * c ≤ 140737488355328) :
  Calls Tryz.prog 250 #[.string s,.int .i64 c] w fun e w'=>e = .returned (.string ⟨(Lib.repeatL s.data.toList c).toArray⟩) ∧ Below w.heap.size w w':=Any.strings_Repeat Tryz.lays105 Tryz.Builder_Extra_105 s c w hc hlen
end Go.Proofs
namespace Go.Proofs.YtfnkamphhpldcaaGreatDoor
open Go Sx
set_option maxRecDepth 100000
def encB (b:UInt8):List SA:=[.int .u8 b.toNat]
theorem zab:Plain encB:=fun x=>⟨fun _=>rfl,fun a ha=>by simp only [encB,qy] at ha; subst ha; trivial⟩
def putZ (z:Nat):List UInt8:=if z < 128 then [UInt8.ofNat z] else UInt8.ofNat (z % 128 + 128) :: putZ (z / 128)
termination_by z
decreasing_by omega
theorem zj6 {z:Nat} (h:z < 128):putZ z = [UInt8.ofNat z]:=by rw [putZ,if_pos h]
theorem zqa {z:Nat} (h:¬ z < 128):putZ z = UInt8.ofNat (z % 128 + 128) :: putZ (z / 128):=by rw [putZ,if_neg h]
def zig (n:Int):Nat:=if n < 0 then ((-n) * 2 - 1).toNat else (n * 2).toNat
def putI (n:Int):List UInt8:=putZ (zig n)
def putIR (n:Int):List UInt8 × Int:=if n < -4611686018427387903 ∨ 4611686018427387903 < n then ([],10) else (putI n,0)
def putSR (s:List UInt8):List UInt8 × Int:=if 65536 < s.length then ([],10) else (putI s.length ++ s,0)
theorem zm3 {n:Int} (h1:0 ≤ n) (h2:n ≤ 18446744073709551615):IntKind.u64.wrap n = n:=IntWalk.u64_in _ ⟨h1,h2⟩
theorem z6x {n:Int} (h1:0 ≤ n) (h2:n ≤ 255):IntKind.u8.wrap n = n:=IntWalk.u8_in _ ⟨h1,h2⟩
theorem z2n (n:Int) (h:-4611686018427387903 ≤ n ∧ n ≤ 4611686018427387903):zig n < 9223372036854775808:=by
 unfold zig; split<;>omega
theorem zss:∀ (k z:Nat),z < 128 ^ (k + 1) → (putZ z).length ≤ k + 1
 |0,z,h=>by rw [zj6 (by simpa using h)]; simp
 |k + 1,z,h=>by
  by_cases hz:z < 128
  ·rw [zj6 hz]; simp
  ·rw [zqa hz,qe]
   have:=zss k (z / 128) (by rw [Nat.div_lt_iff_lt_mul (by omega),← qcq]; exact h)
   omega
theorem zmk (n:Int) (h:-4611686018427387903 ≤ n ∧ n ≤ 4611686018427387903):(putI n).length ≤ 9:=
 zss 8 _ (yp (z2n n h) (by decide))
theorem zd3 (n:Int):(putIR n).1.length ≤ 9:=by
 unfold putIR; split
 ·simp
 ·exact zmk n (by omega)
def zae (l:List Int):List UInt8:=(l.map fun n=>(putIR n).1).flatten
def encS (s:List UInt8):List SA:=[.str s]
theorem zbo {α β:Type} {f:α → List β} {l:List α} {k:Nat} (g:k < l.length):((l.take (k + 1)).map f).flatten = ((l.take k).map f).flatten ++ f l[k]:=by
 rw [qi g,q5,yh]; simp
theorem zfn {α β:Type} {f:α → List β} {m:Nat} (h:∀ x,(f x).length ≤ m):∀ l:List α,(l.map f).flatten.length ≤ m * l.length
 |[]=>by simp
 |x :: r=>by
  have:=zfn h r
  have:=h x
  simp only [qx,jy,qa,qe,Nat.mul_add]; omega
theorem zdg (s:List UInt8):(putSR s).1.length ≤ 65545:=by
 unfold putSR; split
 ·simp
 ·have:=zmk s.length (by omega)
  rw [qa]; omega
end Go.Proofs.YtfnkamphhpldcaaGreatDoor
