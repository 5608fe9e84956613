import Derived.Test.YtfnkamphhpldcaaGreatDoorK22
import Derived.Test.YtfnkamphhpldcaaGreatDoorK13
import Derived.Laws.BitsAllLaws
import Derived.Test.YtfnkamphhpldcaaGreatDoorProg
set_option maxHeartbeats 64000000
namespace Go.Proofs.YtfnkamphhpldcaaGreatDoor
open Go Sx
set_option maxRecDepth 100000
def rndN (a:Int):List Int → List Int
 |x :: y :: z :: r=>x :: y :: (z - z.tmod a) :: r
 |l=>l
theorem z0x (F:Fz) (L:List Ln) (i c:Nat) (caps:Nat → Nat) (t:List UInt8) (x y z a:Int) (r:List Int) (h:L[i]? = some (t,x :: y :: z :: r)) (ha:0 < a) (hz:-1000000000000000000 ≤ z) (hz':z ≤ 1000000000000000000) (ha':a ≤ 1000000000000000000) :
  Ct Tryz.prog 191 [.va (.ptr ⟨1,0,i,2,0⟩),.va (.int .i64 a)] F [(1,zba 2 caps c L),(2,famE caps L)] 3
   (stepK F c caps (L.set i (t,rndN a (x :: y :: z :: r)))):=by
 have hcell:=zdv 2 caps 0 L i _ h
 rw [ji] at hcell
 have hi:i < L.length:=(qh.1 h).1
 have hrow:=zie caps h
 rcases L with _ | ⟨a0,ar⟩
 ·exact absurd hi (by simp)
 have hn:((x :: y :: z :: r).length = (rndN a (x :: y :: z :: r)).length):=rfl
 have hE1:=zlr (B:=2) (caps:=caps) (c:=c) hn h
 have hs1:∀ μ:Mu,(∀ k,μ 2 k = (2,k)) → subE (some (zba 2 caps c (a0 :: ar))) ((zba 2 caps c ((a0 :: ar).set i (t,rndN a (x :: y :: z :: r)))).ren μ):=fun μ hμ=>by rw [hE1]; exact za4 hμ
 have hm2:z.tmod a < a:=qbk _ ha
 have hm1:-a < z.tmod a:=by
  have h1:(-z).tmod a < a:=qbk _ ha
  rw [Int.neg_tmod] at h1
  omega
 have hw1:IntKind.i64.wrap (z - z.tmod a) = z - z.tmod a:=zal (by omega) (by omega)
 have hw2:IntKind.i64.wrap (z - IntKind.i64.wrap (z.tmod a)) = z - z.tmod a:=by rw [zal (n:=z.tmod a) (by omega) (by omega),hw1]
 have hr:∀ v,v = z - z.tmod a → (List.map encI ((List.map (fun x:Ln=>x.snd) (a0 :: ar)).getD i [])).set 2 [.int .i64 v] = (rndN a (x :: y :: z :: r)).map encI:=by
  intro v hv; subst hv
  rw [hrow,rndN]; rfl
 have hhas:(!((List.map (fun x:Ln=>x.snd) (a0 :: ar)).getD i []).isEmpty) = true:=by rw [hrow]; rfl
 have hel:(List.map encI ((List.map (fun x:Ln=>x.snd) (a0 :: ar)).getD i []))[2]? = some [.int .i64 z]:=by rw [hrow]; rfl
 refine ct_of hΘ Tryz.func191 rfl (by decide) _ _ rfl rfl rfl ?_;conv=>whnf
 refine drawP hΘ mixed (lk [0,1,2,3,4,5,6,7,8,9,10,11,12,13,14,15] (.last 16 .done)) [1,2] (by kernel_rfl) ?_;conv=>whnf
 refine ⟨rfl,?_⟩;conv=>whnf
 refine ⟨rfl,?_⟩;conv=>whnf
 refine ⟨_,hcell,?_⟩;conv=>whnf
 refine ⟨rfl,⟨by simp,by show (2:Int) < ((r.length + 1 + 1 + 1:Nat):Int); omega⟩,?_⟩;conv=>whnf
 refine ⟨rfl,?_⟩;conv=>whnf
 refine ⟨⟨hi,hhas⟩,?_⟩;conv=>whnf
 refine ⟨_,hel,?_⟩;conv=>whnf
 refine ⟨rfl,?_⟩;conv=>whnf
 refine ⟨rfl,?_⟩;conv=>whnf
 refine ⟨_,hcell,?_⟩;conv=>whnf
 refine ⟨rfl,⟨by simp,by show (2:Int) < ((r.length + 1 + 1 + 1:Nat):Int); omega⟩,?_⟩;conv=>whnf
 refine ⟨rfl,?_⟩;conv=>whnf
 refine ⟨⟨hi,hhas⟩,?_⟩;conv=>whnf
 refine ⟨_,hel,?_⟩;conv=>whnf
 refine ⟨(by omega),?_⟩;conv=>whnf
 refine ⟨rfl,⟨by simp,by show (2:Int) < ((r.length + 1 + 1 + 1:Nat):Int); omega⟩,?_⟩;conv=>whnf
 refine ⟨⟨hi,hhas⟩,?_⟩;conv=>whnf
 refine ⟨_,hel,?_⟩;conv=>whnf
 refine clean [] (.ret (.tup [])) F [(1,zba 2 caps c ((a0 :: ar).set i (t,rndN a (x :: y :: z :: r)))),(2,famE caps ((a0 :: ar).set i (t,rndN a (x :: y :: z :: r))))] 3 ⟨Fz.r F,rfl,rfl,rfl,rfl⟩ (zaj _) rfl rfl (by simp [Out.below,SV.below]) ⟨zam (by omega) _ _ _,zau _ _ _,tv⟩ ⟨Fz.r F,?_,?_,tv⟩
 ·exact hs1 _ (fun k=>rfl)
 ·refine z2j hn h (by simp) ?_
  first
  |exact hr _ hw1
  |exact hr _ hw2
def valE (v:Val) (i c:Nat):Ent:=.one (.cells 201 [.lit v.lost,gA 2 i c v.lines,.int .i64 v.w,.int .i64 v.h,.str v.bits])
def lnE (B:Nat) (caps:Nat → Nat) (c:Nat):List Ln → Ent
 |[]=>.gone
 |x :: r=>zba B caps c (x :: r)
def fmE (caps:Nat → Nat):List Ln → Ent
 |[]=>.gone
 |x :: r=>famE caps (x :: r)
theorem zu7 {n B:Nat} (h:B < n) (caps:Nat → Nat) (c:Nat) (l:List Ln):(lnE B caps c l).below n:=by
 cases l with
 |nil=>trivial
 |cons x r=>exact zam h _ _ _
theorem zum (n:Nat) (caps:Nat → Nat) (l:List Ln):(fmE caps l).below n:=by
 cases l with
 |nil=>trivial
 |cons x r=>exact zau _ _ _
def valM (v:Val) (c:Nat) (caps:Nat → Nat):List (Nat × Ent):=[(1,valE v 2 c),(2,lnE 3 caps c v.lines),(3,fmE caps v.lines)]
def stepV (F:Fz) (v:Val):Out → Fz → List (Nat × Ent) → Nat → Prop:=fun o F0 h0 n0=>F0 = F ∧ n0 = 4 ∧ o = .ret (.tup []) ∧ ∃ c caps,h0 = valM v c caps
theorem zeg {α:Type} {n i:Nat} (h:i < n) (sz c:Nat) (l:List α):(gA sz i c l).below n:=by
 cases l with
 |nil=>trivial
 |cons x r=>exact .inr h
theorem zb7 {v:Val} {n i:Nat} (h:i < n) (c:Nat):(valE v i c).below n:=by
 show ∀ a ∈ _,SA.below n a
 intro a ha
 simp only [qj,qq,or_false] at ha
 rcases ha with rfl | rfl | rfl | rfl | rfl
 ·trivial
 ·exact zeg h _ _ _
 ·trivial
 ·trivial
 ·trivial
theorem zh9 (v:Val) (c:Nat) (caps:Nat → Nat):bH 4 (valM v c caps):=⟨zb7 (by omega) _,zu7 (by omega) _ _ _,zum _ _ _,tv⟩
def loseV:Val:=⟨true,[],0,0,[]⟩
theorem z3o (F:Fz) (v:Val) (a:Int) (c:Nat) (caps:Nat → Nat) :
  Ct Tryz.prog 195 [.va (.ptr ⟨1,0,0,0,0⟩),.va (.int .i64 a)] F (valM v c caps) 4 (stepV F loseV):=by
 refine ct_of hΘ Tryz.func195 rfl (by decide) _ _ rfl rfl rfl ?_;conv=>whnf
 refine clean [] (.ret (.tup [])) F (valM loseV 0 (fun _=>0)) 4 ⟨Fz.r F,rfl,rfl,rfl,0,fun _=>0,rfl⟩ (zaj _) rfl rfl (by simp [Out.below,SV.below]) (zh9 _ _ _) ⟨Fz.r F,rfl,tv⟩
def upTo (f:Ln → Ln) (L:List Ln) (k:Nat):List Ln:=(L.take k).map f ++ L.drop k
theorem z1q (f:Ln → Ln) (L:List Ln) (k:Nat):(upTo f L k).length = L.length:=by
 unfold upTo; simp only [qa,qb,qn,yj]; omega
theorem zy5 (f:Ln → Ln) {L:List Ln} {k:Nat} {x:Ln} (h:L[k]? = some x):(upTo f L k)[k]? = some x:=by
 have hk:=(qh.1 h).1
 unfold upTo
 rw [jz (by simp only [qb,qn]; omega),qab]
 have:k + (k - ((L.take k).map f).length) = k:=by simp only [qb,qn]; omega
 rw [this,h]
theorem zxp (f:Ln → Ln) {L:List Ln} {k:Nat} {x:Ln} (h:L[k]? = some x):(upTo f L k).set k (f x) = upTo f L (k + 1):=by
 obtain ⟨hk,hx⟩:=qh.1 h
 unfold upTo
 rw [qbs _ _ (by simp only [qb,qn]; omega)]
 have e:k - ((L.take k).map f).length = 0:=by simp only [qb,qn]; omega
 rw [e,qv hk,qao,qi hk,q5,hx]
 simp
theorem zx0 (f:Ln → Ln) (L:List Ln):upTo f L L.length = L.map f:=by
 unfold upTo; simp
theorem zcj {τ μ:Mu} {B B1 B' c:Nat} {caps:Nat → Nat} {l l':List Ln} (hτ:∀ k,τ B k = (B',k)) (hμ:∀ k,μ B1 k = (B',k)) (e:l = l'):subE (some ((zba B caps c l).ren τ)) ((zba B1 caps c l').ren μ):=by
 subst e
 exact ⟨rfl,congrArg (fun L=>SB.arr 259 2 L c) ((zed (m:=l.length) (fun k _=>⟨hτ k,rfl⟩) 0 l (by omega)).trans (zed (m:=l.length) (fun k _=>⟨hμ k,rfl⟩) 0 l (by omega)).symm)⟩
theorem zfc {τ μ:Mu} {caps:Nat → Nat} {l l':List Ln} (e:l = l'):subE (some ((famE caps l).ren τ)) ((famE caps l').ren μ):=by
 subst e; rw [zi2]; exact zbr
theorem zjd {μ:Mu} {B1 B' c:Nat} {caps:Nat → Nat} {l l':List Ln} (hμ:∀ k,μ B1 k = (B',k)) (e:l = l'):subE (some (zba B' caps c l)) ((zba B1 caps c l').ren μ):=by
 subst e; exact za4 hμ
theorem zn0 {μ:Mu} {caps:Nat → Nat} {l l':List Ln} (e:l = l'):subE (some (famE caps l)) ((famE caps l').ren μ):=by
 subst e; exact zbr
def z2c (g:Nat) (F:Fz) (c:Nat) (caps:Nat → Nat) (a:Int) (f:Ln → Ln) (x:Ln):Prop:=
 ∀ (L:List Ln) (i:Nat),L[i]? = some x → Ct Tryz.prog g [.va (.ptr ⟨1,0,i,2,0⟩),.va (.int .i64 a)] F [(1,zba 2 caps c L),(2,famE caps L)] 3 (stepK F c caps (L.set i (f x)))
theorem z1k (F:Fz) (g b:Nat) (f:Ln → Ln) (w h:Int) (bits:List UInt8) (lost:Bool) (L:List Ln) (a:Int) (c:Nat) (caps:Nat → Nat) (hb:F b = some (eF g)) (hne:L ≠ []) (hl:L.length ≤ 1000000) (hG:∀ x ∈ L,z2c g F c caps a f x) :
  Ct Tryz.prog 246 [.va (.ptr ⟨1,0,0,0,0⟩),.va (.int .i64 a),.va (.ptr (fp b))] F (valM ⟨lost,L,w,h,bits⟩ c caps) 4 (stepV F ⟨lost,L.map f,w,h,bits⟩):=by
 rcases L with _ | ⟨a0,ar⟩
 ·exact absurd rfl hne
 have hl':ar.length + 1 ≤ 1000000:=hl
 refine ct_of hΘ Tryz.func246 rfl (by decide) _ _ rfl rfl rfl ?_;conv=>whnf
 refine zan hΘ (X:={ x:Nat × Ln × List Ln // x.1 ≤ ar.length + 1 ∧ x.2.1 :: x.2.2 = upTo f (a0 :: ar) x.1 }) (fun x=>[(11,.va (.int .i64 x.1.1))]) [5,12,13,14,15,16,17,18,19,20,21,22,23]
  (fun x=>[(0,.frz F),(1,valE ⟨lost,a0 :: ar,w,h,bits⟩ 2 c),(2,zba 3 caps c (x.1.2.1 :: x.1.2.2)),(3,famE caps (x.1.2.1 :: x.1.2.2))]) 4 (fun x=>ar.length + 1 - x.1.1) ⟨(0,a0,ar),by simp,by simp [upTo]⟩
  (fun hH hT=>leI [] hH hT rfl ⟨tv,zb7 (by omega) _,zam (by omega) _ _ _,zau _ _ _,tv⟩ ⟨rfl,tv⟩ ⟨Fz.r F,rfl,za4 (fun k=>rfl),zbr (μ:=sig []) (caps:=caps) (l:=a0 :: ar),tv⟩) ?_
 rintro ⟨⟨k,a1,r1⟩,hk,hob⟩ hH hT
 replace hk:k ≤ ar.length + 1:=hk
 replace hob:a1 :: r1 = upTo f (a0 :: ar) k:=hob
 conv=>whnf
 refine br (fun gb=>?_) (fun gb=>?_)
 ·have gk:k < ar.length + 1:=by
   have h0:(k:Int) < ((ar.length + 1:Nat):Int):=od gb
   omega
  clear gb
  have hx0:∃ x,(a0 :: ar)[k]? = some x:=⟨_,qc gk⟩
  obtain ⟨x,hx0⟩:=hx0
  have hxm:=yi hx0
  have hx1:(a1 :: r1)[k]? = some x:=by rw [hob]; exact zy5 f hx0
  have hset:(a1 :: r1).set k (f x) = upTo f (a0 :: ar) (k + 1):=by rw [hob]; exact zxp f hx0
  have hx2:(a1 :: r1)[0 + k]? = some x:=by rw [ji]; exact hx1
  have hcall:=hG x hxm (a1 :: r1) (0 + k) hx2
  have hnx:∃ a2 r2,a2 :: r2 = upTo f (a0 :: ar) (k + 1):=by
   have hlen:=z1q f (a0 :: ar) (k + 1)
   cases hu:upTo f (a0 :: ar) (k + 1) with
   |nil=>rw [hu] at hlen; simp at hlen
   |cons a2 r2=>exact ⟨a2,r2,rfl⟩
  obtain ⟨a2,r2,hnx⟩:=hnx
  have heq:(a1 :: r1).set (0 + k) (f x) = a2 :: r2:=by rw [ji,hset,hnx]
  conv=>whnf
  refine drawP hΘ mixed (lk [0,1,2,3,4,5,6,7] (.alt 8 .done .nil)) [0,1] (by kernel_rfl) ?_;conv=>whnf
  repeat' ((conv=>whnf); first
   |refine ⟨rfl,?_⟩
   |refine ⟨Fz.r _,rfl,?_⟩
   |refine ⟨Fz.r _,rfl,rfl,?_⟩
   |refine ⟨⟨by simp,by simp⟩,?_⟩
   |fail)
  refine ⟨_,hb,?_⟩;conv=>whnf
  refine ⟨rfl,?_⟩;conv=>whnf
  refine ⟨rfl,⟨by simp,by show (k:Int) < ((ar.length + 1:Nat):Int); omega⟩,?_⟩;conv=>whnf
  refine use hcall [(1,2),(2,3)] rfl ⟨rfl,rfl,tv⟩ rfl ⟨zam (by omega) _ _ _,zau _ _ _,tv⟩ (by simp [SV.below,SA.below]) ⟨za4 (fun k=>rfl),zbr (caps:=caps) (l:=a1 :: r1),tv⟩ ?_
  rintro out0 F0 h0 n1 hle ⟨rfl,rfl,rfl,rfl⟩;conv=>whnf
  refine ⟨Fz.r _,rfl,rfl,?_⟩;conv=>whnf
  exact ⟨⟨(k + 1,a2,r2),by show k + 1 ≤ ar.length + 1; omega,hnx⟩,by show ar.length + 1 - (k + 1) < ar.length + 1 - k; omega,
   leR [] hH hT rfl ⟨tv,zb7 (by omega) _,zam (by omega) _ _ _,zau _ _ _,tv⟩ ⟨cnt (by omega),tv⟩
   ⟨Fz.r _,rfl,zcj (fun k=>rfl) (fun k=>rfl) heq,zfc heq,tv⟩⟩
 ·have gk:k = ar.length + 1:=by
   have h0:¬ (k:Int) < ((ar.length + 1:Nat):Int):=oe gb
   omega
  clear gb
  have hall:a1 :: r1 = (a0 :: ar).map f:=by rw [hob,gk]; exact zx0 f (a0 :: ar)
  have e1:valE ⟨lost,a0 :: ar,w,h,bits⟩ 2 c = valE ⟨lost,f a0 :: ar.map f,w,h,bits⟩ 2 c:=by
   simp [valE,gA]
  have hv1:∀ μ:Mu,μ 2 0 = (2,0) → subE (some (valE ⟨lost,a0 :: ar,w,h,bits⟩ 2 c)) ((valE ⟨lost,f a0 :: ar.map f,w,h,bits⟩ 2 c).ren μ):=by
   intro μ hμ
   rw [← e1]
   show _ = _
   simp [SB.ren,gA,SA.ren,hμ]
  conv=>whnf
  refine clean [] (.ret (.tup [])) F (valM ⟨lost,f a0 :: ar.map f,w,h,bits⟩ c caps) 4 ⟨Fz.r F,rfl,rfl,rfl,c,caps,rfl⟩ (zaj _) rfl rfl (by simp [Out.below,SV.below]) (zh9 _ _ _) ⟨Fz.r F,?_,?_,?_,tv⟩
  ·exact hv1 _ rfl
  ·exact zjd (fun k=>rfl) hall
  ·exact zn0 hall
theorem zjg {B:Nat} {caps:Nat → Nat} {t':List UInt8} {n:List Int}:∀ (j:Nat) (L:List Ln) (i:Nat),zbg B caps j (L.set i (t',n)) = (zbg B caps j L).set i [.str t',nA B (j + i) (caps (j + i)) n]
 |j,[],i=>by simp [zbg]
 |j,y :: r,0=>by
  rw [qao,zbg,zbg,qao]; rfl
 |j,y :: r,i + 1=>by
  rw [qcd,zbg,zbg,zjg (j + 1) r i,qcd]
  have:j + 1 + i = j + (i + 1):=by omega
  rw [this]
theorem zjv {caps:Nat → Nat} {t t':List UInt8} {n:List Int} {L:List Ln} {i:Nat} (h:L[i]? = some (t,n)):famE caps (L.set i (t',n)) = famE caps L:=by
 have hm:(L.set i (t',n)).map (·.2) = L.map (·.2):=by
  rw [qbo]
  exact zl7 (by rw [qs,h]; rfl)
 unfold famE
 rw [qa2,hm]
theorem zne {caps:Nat → Nat} {c:Nat} {t':List UInt8} {n:List Int} {L:List Ln} {i:Nat} {row:List (List SA)} (hne:L ≠ []) (hr:row = (zbg 2 caps 0 L).set i [.str t',nA 2 i (caps i) n]) {μ:Mu} (hμ:∀ k,μ 2 k = (2,k)) :
  subE (some (.opt true (.arr 259 2 row c))) ((zba 2 caps c (L.set i (t',n))).ren μ):=by
 have e:=zjg (B:=2) (caps:=caps) (t':=t') (n:=n) 0 L i
 rw [ji] at e
 rw [hr,← e]
 have h2:=za4 (B:=2) (B':=2) (caps:=caps) (c:=c) (l:=L.set i (t',n)) hμ
 have h3:(!(L.set i (t',n)).isEmpty) = true:=by
  cases L with
  |nil=>exact absurd rfl hne
  |cons x r=>cases i<;>rfl
 rw [zba,h3] at h2
 rw [zba,h3]
 exact h2
def LFun (low:List UInt8 → List UInt8):Prop:=∀ (F:Fz) (s:List UInt8),s.length ≤ 70000 → (∀ b ∈ s,b.toNat < 128) → Fo Tryz.prog F 247 [.va (.str s)] (fun o F'=>F = F' ∧ o = .ret (.va (.str (low s))))
theorem z6l {low:List UInt8 → List UInt8} (hL:LFun low) (F:Fz) (L:List Ln) (i c:Nat) (caps:Nat → Nat) (t:List UInt8) (n:List Int) (a:Int) (h:L[i]? = some (t,n)) (ht:t.length ≤ 70000) (h128:∀ b ∈ t,b.toNat < 128) :
  Ct Tryz.prog 188 [.va (.ptr ⟨1,0,i,2,0⟩),.va (.int .i64 a)] F [(1,zba 2 caps c L),(2,famE caps L)] 3
   (stepK F c caps (L.set i (low t,n))):=by
 have hcell:=zdv 2 caps 0 L i _ h
 rw [ji] at hcell
 have hi:i < L.length:=(qh.1 h).1
 rcases L with _ | ⟨a0,ar⟩
 ·exact absurd hi (by simp)
 have hs2:∀ μ:Mu,subE (some (famE caps (a0 :: ar))) ((famE caps ((a0 :: ar).set i (low t,n))).ren μ):=fun μ=>by
  rw [zjv h]; exact zbr
 refine ct_of hΘ Tryz.func188 rfl (by decide) _ _ rfl rfl rfl ?_;conv=>whnf
 refine ⟨rfl,?_⟩;conv=>whnf
 refine ⟨_,hcell,?_⟩;conv=>whnf
 refine useFo (hL F t ht h128) rfl ⟨rfl,tv⟩ rfl ?_
 rintro _ _ l1 ⟨rfl,rfl⟩;conv=>whnf
 refine ⟨rfl,?_⟩;conv=>whnf
 refine ⟨_,hcell,?_⟩;conv=>whnf
 refine clean [] (.ret (.tup [])) F [(1,zba 2 caps c ((a0 :: ar).set i (low t,n))),(2,famE caps ((a0 :: ar).set i (low t,n)))] 3 ⟨Fz.r F,rfl,rfl,rfl,rfl⟩ (zaj _) rfl rfl (by simp [Out.below,SV.below]) ⟨zam (by omega) _ _ _,zau _ _ _,tv⟩ ⟨Fz.r F,?_,?_,tv⟩
 ·exact zne (t':=low t) (n:=n) (by simp) rfl (fun k=>rfl)
 ·exact hs2 _
def hasD:List UInt8 → Bool
 |a :: b :: r=>(a == 32 && b == 32) || hasD (b :: r)
 |_=>false
def repD:List UInt8 → List UInt8
 |a :: b :: r=>if a == 32 && b == 32 then 32 :: repD r else a :: repD (b :: r)
 |l=>l
theorem zl2:∀ l:List UInt8,(repD l).length ≤ l.length
 |[]=>by simp [repD]
 |[a]=>by simp [repD]
 |a :: b :: r=>by
  rw [repD]
  have h1:=zl2 r
  have h2:=zl2 (b :: r)
  simp only [qe] at h2
  split<;>simp only [qe]<;>omega
theorem zmd:∀ l:List UInt8,hasD l = true → (repD l).length < l.length
 |[],h=>by simp [hasD] at h
 |[a],h=>by simp [hasD] at h
 |a :: b :: r,h=>by
  rw [repD]
  by_cases hc:(a == 32 && b == 32) = true
  ·rw [if_pos hc]
   have h1:=zl2 r
   simp only [qe]; omega
  ·rw [if_neg hc]
   rw [hasD,y6] at h
   have h2:=zmd (b :: r) (h.resolve_left hc)
   simp only [qe] at h2 ⊢; omega
def spS:Nat → List UInt8 → List UInt8
 |0,s=>s
 |f + 1,s=>if hasD s then spS f (repD s) else s
theorem zm1:∀ (f:Nat) (s:List UInt8),s.length ≤ f → spS f s = spS s.length s
 |0,s,h=>by
  have:s.length = 0:=by omega
  rw [this]
 |f + 1,s,h=>by
  rw [spS]
  by_cases hd:hasD s = true
  ·rw [if_pos hd]
   have hl:=zmd s hd
   rw [zm1 f (repD s) (by omega)]
   obtain ⟨m,hm⟩:∃ m,s.length = m + 1:=⟨s.length - 1,by omega⟩
   rw [hm,spS,if_pos hd]
   by_cases hmf:m < f + 1
   ·exact (zm1 m (repD s) (by omega)).symm
   ·omega
  ·rw [if_neg hd]
   cases hs:s.length with
   |zero=>rfl
   |succ m=>rw [spS,if_neg hd]
theorem zy8 {s:List UInt8} (hd:hasD s = true):spS s.length s = spS (repD s).length (repD s):=by
 have hl:=zmd s hd
 obtain ⟨m,hm⟩:∃ m,s.length = m + 1:=⟨s.length - 1,by omega⟩
 rw [hm,spS,if_pos hd,zm1 m (repD s) (by omega)]
theorem z2t {s:List UInt8} (hd:hasD s = false):spS s.length s = s:=by
 cases hs:s.length with
 |zero=>rfl
 |succ m=>rw [spS,if_neg (by rw [hd]; simp)]
def MLF (F:Fz):Prop:=∃ m,F 4 = some (.cells 3 [.int .i64 m])
theorem MLF.mono {F F':Fz} (h:MLF F) (hle:Fz.le F F'):MLF F':=let ⟨m,hm⟩:=h; ⟨m,hle _ _ hm⟩
def DFun:Prop:=∀ (F:Fz) (s:List UInt8),MLF F → s.length ≤ 70000 → Fo Tryz.prog F 248 [.va (.str s),.va (.str [32,32])] (fun o F'=>F = F' ∧ o = .ret (.va (.bool (hasD s))))
def AFun:Prop:=∀ (F:Fz) (s:List UInt8),MLF F → s.length ≤ 70000 → Fo Tryz.prog F 249 [.va (.str s),.va (.str [32,32]),.va (.str [32])] (fun o F'=>F = F' ∧ o = .ret (.va (.str (repD s))))
theorem zpy {α:Type} {L:List α} (h:L ≠ []):∃ a r,L = a :: r:=by cases L with
 |nil=>exact absurd rfl h
 |cons a r=>exact ⟨a,r,rfl⟩
theorem z8v {α:Type} {L:List α} (h:L ≠ []) (i:Nat) (x:α):L.set i x ≠ []:=by
 cases L with
 |nil=>exact absurd rfl h
 |cons a r=>cases i<;>simp
theorem zul {μ:Mu} {caps:Nat → Nat} {l l':List Ln} (e:famE caps l = famE caps l'):subE (some (famE caps l)) ((famE caps l').ren μ):=by
 rw [e]; exact zbr
theorem zve (hD:DFun) (hA:AFun) (F:Fz) (hM:MLF F) (L:List Ln) (i c:Nat) (caps:Nat → Nat) (t:List UInt8) (n:List Int) (a:Int) (h:L[i]? = some (t,n)) (ht:t.length ≤ 70000) :
  Ct Tryz.prog 189 [.va (.ptr ⟨1,0,i,2,0⟩),.va (.int .i64 a)] F [(1,zba 2 caps c L),(2,famE caps L)] 3
   (stepK F c caps (L.set i (spS t.length t,n))):=by
 have hi:i < L.length:=(qh.1 h).1
 rcases L with _ | ⟨a0,ar⟩
 ·exact absurd hi (by simp)
 have hne:a0 :: ar ≠ []:=by simp
 have hfa:∀ s,famE caps ((a0 :: ar).set i (s,n)) = famE caps (a0 :: ar):=fun s=>zjv h
 have hst:(a0 :: ar).set i (t,n) = a0 :: ar:=zl7 h
 have hset2:∀ s s',((a0 :: ar).set i (s,n)).set i (s',n) = (a0 :: ar).set i (s',n):=fun s s'=>List.set_set ..
 have hget:∀ s,((a0 :: ar).set i (s,n))[i]? = some (s,n):=fun s=>by rw [qci,if_pos rfl,if_pos hi]
 refine ct_of hΘ Tryz.func189 rfl (by decide) _ _ rfl rfl rfl ?_;conv=>whnf
 refine zan hΘ (X:={ x:List UInt8 × Ln × List Ln // x.2.1 :: x.2.2 = (a0 :: ar).set i (x.1,n) ∧ x.1.length ≤ t.length ∧ spS x.1.length x.1 = spS t.length t }) (fun _=>[]) [4,5,6,7,8,9,10,11,12,13,14,15,16]
  (fun x=>[(0,.frz F),(1,zba 2 caps c (x.1.2.1 :: x.1.2.2)),(2,famE caps (x.1.2.1 :: x.1.2.2))]) 3 (fun x=>x.1.1.length) ⟨(t,a0,ar),hst.symm,qf _,rfl⟩
  (fun hH hT=>leI [] hH hT rfl ⟨tv,zam (by omega) _ _ _,zau _ _ _,tv⟩ trivial ⟨Fz.r F,za4 (fun k=>rfl),zbr (μ:=sig []) (caps:=caps) (l:=a0 :: ar),tv⟩) ?_
 rintro ⟨⟨s,a1,r1⟩,hob,hsl,hsp⟩ hH hT
 replace hob:a1 :: r1 = (a0 :: ar).set i (s,n):=hob
 replace hsl:s.length ≤ t.length:=hsl
 replace hsp:spS s.length s = spS t.length t:=hsp
 have h1:(a1 :: r1)[i]? = some (s,n):=by rw [hob]; exact hget s
 have hcell:=zdv 2 caps 0 (a1 :: r1) i _ h1
 rw [ji] at hcell
 have hbool:hasD s = true ∨ hasD s = false:=by cases hasD s<;>simp
 have hnx:∃ a2 r2,(a0 :: ar).set i (repD s,n) = a2 :: r2:=zpy (z8v hne _ _)
 obtain ⟨a2,r2,hnx⟩:=hnx
 have hnx':(a1 :: r1).set i (repD s,n) = a2 :: r2:=by rw [hob,hset2,hnx]
 have hfa2:famE caps (a1 :: r1) = famE caps (a2 :: r2):=by rw [← hnx',zjv h1]
 conv=>whnf
 refine ⟨rfl,?_⟩;conv=>whnf
 refine ⟨_,hcell,?_⟩;conv=>whnf
 refine useFo (hD F s hM (by omega)) rfl ⟨rfl,rfl,tv⟩ rfl ?_
 rintro _ _ l1 ⟨rfl,rfl⟩;conv=>whnf
 refine br (fun g=>?_) (fun g=>?_)
 ·have g:hasD s = true:=g
  have hlt:=zmd s g
  have hst':=zy8 g
  conv=>whnf
  refine ⟨rfl,?_⟩;conv=>whnf
  refine ⟨_,hcell,?_⟩;conv=>whnf
  refine useFo (hA F s hM (by omega)) rfl ⟨rfl,rfl,rfl,tv⟩ rfl ?_
  rintro _ _ l2 ⟨rfl,rfl⟩;conv=>whnf
  refine ⟨rfl,?_⟩;conv=>whnf
  refine ⟨_,hcell,?_⟩;conv=>whnf
  refine ⟨⟨(repD s,a2,r2),hnx.symm,by show (repD s).length ≤ t.length; omega,by show spS (repD s).length (repD s) = _; rw [← hst']; exact hsp⟩,hlt,
   leR [] hH hT rfl ⟨tv,zam (by omega) _ _ _,zau _ _ _,tv⟩ trivial ⟨Fz.r _,?_,zul hfa2,tv⟩⟩
  have hx:=zne (caps:=caps) (c:=c) (t':=repD s) (n:=n) (L:=a1 :: r1) (i:=i) (by simp) rfl (μ:=sig []) (fun k=>rfl)
  rw [hnx'] at hx
  exact hx
 ·have g:hasD s = false:=g
  have he:s = spS t.length t:=by rw [← hsp]; exact (z2t g).symm
  have hee:a1 :: r1 = (a0 :: ar).set i (spS t.length t,n):=by rw [hob,← he]
  conv=>whnf
  refine clean [] (.ret (.tup [])) F [(1,zba 2 caps c ((a0 :: ar).set i (spS t.length t,n))),(2,famE caps ((a0 :: ar).set i (spS t.length t,n)))] 3 ⟨Fz.r F,rfl,rfl,rfl,rfl⟩ (zaj _) rfl rfl (by simp [Out.below,SV.below]) ⟨zam (by omega) _ _ _,zau _ _ _,tv⟩ ⟨Fz.r F,?_,?_,tv⟩
  ·exact zjd (fun k=>rfl) hee
  ·exact zn0 hee
theorem zh8 {w:Int} (hw:0 ≤ w ∧ w ≤ 1000000):IntKind.i64.wrap ((IntKind.i64.wrap (w + 1)).tdiv 2) = (w + 1) / 2 ∧ (IntKind.i64.wrap (w + 1)).tdiv 2 = (w + 1) / 2:=by
 have h1:IntKind.i64.wrap (w + 1) = w + 1:=zal (by omega) (by omega)
 have h2:(w + 1).tdiv 2 = (w + 1) / 2:=q8 (by omega)
 rw [h1,h2]
 exact ⟨zal (by omega) (by omega),rfl⟩
theorem znf (F:Fz) (w h:Int) (a:Int) (c:Nat) (caps:Nat → Nat) (hw:0 ≤ w ∧ w ≤ 1000000) (hh:0 ≤ h ∧ h ≤ 1000000) :
  Ct Tryz.prog 194 [.va (.ptr ⟨1,0,0,0,0⟩),.va (.int .i64 a)] F (valM ⟨false,[],w,h,[]⟩ c caps) 4 (stepV F ⟨false,[],(w + 1) / 2,(h + 1) / 2,[]⟩):=by
 have hv:∀ w' h',w' = (w + 1) / 2 → h' = (h + 1) / 2 → subE (some (valE ⟨false,[],w',h',[]⟩ 2 c)) ((valE ⟨false,[],(w + 1) / 2,(h + 1) / 2,[]⟩ 2 c).ren (sig [])):=by
  intro w' h' e1 e2; subst e1; subst e2; rfl
 refine ct_of hΘ Tryz.func194 rfl (by decide) _ _ rfl rfl rfl ?_;conv=>whnf
 refine drawP hΘ mixed (lk [0,1,2,3,4,5,6,7,8,9,10,11,12,13] .done) [1] (by kernel_rfl) ?_;conv=>whnf
 repeat' ((conv=>whnf); first
  |refine ⟨rfl,?_⟩
  |refine ⟨Fz.r _,rfl,?_⟩
  |refine ⟨Fz.r _,rfl,rfl,?_⟩
  |refine ⟨⟨by simp,by simp⟩,?_⟩
  |fail)
 conv=>whnf
 refine ⟨(by omega),?_⟩;conv=>whnf
 repeat' ((conv=>whnf); first
  |refine ⟨rfl,?_⟩
  |refine ⟨Fz.r _,rfl,?_⟩
  |refine ⟨Fz.r _,rfl,rfl,?_⟩
  |refine ⟨⟨by simp,by simp⟩,?_⟩
  |fail)
 conv=>whnf
 refine ⟨(by omega),?_⟩;conv=>whnf
 conv=>whnf
 refine brd (by simp) ?_;conv=>whnf
 refine clean [] (.ret (.tup [])) F (valM ⟨false,[],(w + 1) / 2,(h + 1) / 2,[]⟩ c caps) 4 ⟨Fz.r F,rfl,rfl,rfl,c,caps,rfl⟩ (zaj _) rfl rfl (by simp [Out.below,SV.below]) (zh9 _ _ _) ⟨Fz.r F,?_,tv⟩
 first
 |exact hv _ _ (zh8 hw).1 (zh8 hh).1
 |exact hv _ _ (zh8 hw).2 (zh8 hh).2
end Go.Proofs.YtfnkamphhpldcaaGreatDoor
namespace Go.Proofs.YtfnkamphhpldcaaGreatDoor
open Go Sx
def halB (w:Nat):Nat → List UInt8 → List UInt8 → List UInt8
 |_,[],o=>o
 |k,b :: r,o=>halB w (k + 1) r (if b = 49 then o.set (k / w / 2 * ((w + 1) / 2) + k % w / 2) 49 else o)
theorem zqt (w:Nat):∀ (l:List UInt8) (k:Nat) (o:List UInt8),(halB w k l o).length = o.length
 |[],_,_=>rfl
 |b :: r,k,o=>by
  rw [halB,zqt w r]
  split
  ·exact qa2
  ·rfl
theorem zx1 {k w h:Nat} (hk:k < w * h):k / w / 2 * ((w + 1) / 2) + k % w / 2 < (w + 1) / 2 * ((h + 1) / 2):=by
 have hw:0 < w:=by
  rcases qca w with h0 | h0
  ·rw [h0,Nat.zero_mul] at hk; omega
  ·exact h0
 have h1:k / w < h:=qcz hk
 have h2:k % w < w:=qat _ hw
 have h3:k / w / 2 + 1 ≤ (h + 1) / 2:=by omega
 have h4:k % w / 2 < (w + 1) / 2:=by omega
 have h5:(w + 1) / 2 * (k / w / 2 + 1) ≤ (w + 1) / 2 * ((h + 1) / 2):=qbg _ h3
 rw [Nat.mul_add,qcj] at h5
 rw [qa0 (k / w / 2)]
 omega
end Go.Proofs.YtfnkamphhpldcaaGreatDoor
namespace Go.Proofs.YtfnkamphhpldcaaGreatDoor
open Go Sx
set_option maxRecDepth 100000
def NFun:Prop:=∀ (F:Fz) (n:Nat),n ≤ 70000 → Fo Tryz.prog F 250 [.va (.str [48]),.va (.int .i64 n)] (fun o F'=>F = F' ∧ o = .ret (.va (.str (List.replicate n 48))))
theorem z6r {k w:Nat} (hw:0 < w ∧ w ≤ 64) (hk:k < 4096) :
  IntKind.i64.wrap (IntKind.i64.wrap (IntKind.i64.wrap ((IntKind.i64.wrap ((k:Int).tdiv w)).tdiv 2) * IntKind.i64.wrap ((IntKind.i64.wrap ((w:Int) + 1)).tdiv 2)) + IntKind.i64.wrap (((k:Int).tmod w).tdiv 2)) = ((k / w / 2 * ((w + 1) / 2) + k % w / 2:Nat):Int):=by
 have h1:(k:Int).tdiv w = ((k / w:Nat):Int):=by rw [q8 (by omega)]; rfl
 have h2:(k:Int).tmod w = ((k % w:Nat):Int):=by rw [yu (by omega)]; rfl
 have a1:k / w ≤ k:=qbj _ _
 have a2:k % w < w:=qat _ hw.1
 rw [h1,h2]
 generalize k / w = q at *
 generalize k % w = r at *
 have h3:(q:Int).tdiv 2 = ((q / 2:Nat):Int):=by rw [q8 (by omega)]; rfl
 have h4:(r:Int).tdiv 2 = ((r / 2:Nat):Int):=by rw [q8 (by omega)]; rfl
 have h5:((w:Int) + 1).tdiv 2 = (((w + 1) / 2:Nat):Int):=by rw [q8 (by omega)]; rfl
 have a3:q / 2 * ((w + 1) / 2) ≤ 2048 * 32:=qaw (by omega) (by omega)
 rw [zal (n:=(q:Int)) (by omega) (by omega),h3,h4,zal (n:=(w:Int) + 1) (by omega) (by omega),h5,zal (n:=((q / 2:Nat):Int)) (by omega) (by omega),zal (n:=(((w + 1) / 2:Nat):Int)) (by omega) (by omega),
  ← qbi]
 generalize q / 2 * ((w + 1) / 2) = m at *
 rw [zal (n:=(m:Int)) (by omega) (by omega),zal (n:=((r / 2:Nat):Int)) (by omega) (by omega),← qby,zal (by omega) (by omega)]
theorem zpa (hN:NFun) (F:Fz) (w h:Nat) (b0:UInt8) (br0:List UInt8) (a:Int) (c:Nat) (caps:Nat → Nat) (hw:0 < w ∧ w ≤ 64) (hh:0 < h ∧ h ≤ 64) (hl:(b0 :: br0).length = w * h) :
  Ct Tryz.prog 194 [.va (.ptr ⟨1,0,0,0,0⟩),.va (.int .i64 a)] F (valM ⟨false,[],w,h,b0 :: br0⟩ c caps) 4
   (stepV F ⟨false,[],((w:Int) + 1) / 2,((h:Int) + 1) / 2,halB w 0 (b0 :: br0) (List.replicate ((w + 1) / 2 * ((h + 1) / 2)) 48)⟩):=by
 have e1:=zh8 (w:=(w:Int)) ⟨by omega,by omega⟩
 have e2:=zh8 (w:=(h:Int)) ⟨by omega,by omega⟩
 have hm1:((w:Int) + 1) / 2 = (((w + 1) / 2:Nat):Int):=by omega
 have hm2:((h:Int) + 1) / 2 = (((h + 1) / 2:Nat):Int):=by omega
 have harg:(((w + 1) / 2 * ((h + 1) / 2):Nat):Int) = IntKind.i64.wrap (IntKind.i64.wrap ((IntKind.i64.wrap ((w:Int) + 1)).tdiv 2) * IntKind.i64.wrap ((IntKind.i64.wrap ((h:Int) + 1)).tdiv 2)):=by
  have hlen:(w + 1) / 2 * ((h + 1) / 2) ≤ 32 * 32:=qaw (by omega) (by omega)
  rw [e1.1,e2.1,hm1,hm2,← qbi,zal (by omega) (by omega)]
 have hv:∀ w' h' b',w' = ((w:Int) + 1) / 2 → h' = ((h:Int) + 1) / 2 → b' = halB w 0 (b0 :: br0) (List.replicate ((w + 1) / 2 * ((h + 1) / 2)) 48) → subE (some (valE ⟨false,[],w',h',b'⟩ 2 c)) ((valE ⟨false,[],((w:Int) + 1) / 2,((h:Int) + 1) / 2,halB w 0 (b0 :: br0) (List.replicate ((w + 1) / 2 * ((h + 1) / 2)) 48)⟩ 2 c).ren (sig [])):=by
  intro w' h' b' e1 e2 e3; subst e1; subst e2; subst e3; rfl
 have hrow0:∀ (o:List UInt8) (μ:Mu) (k:Nat),subE (some (.one (.arr 5 1 (o.map fun b=>[SA.int .u8 b.toNat]) k))) ((Ent.one (.arr 5 1 (o.map encB) k)).ren μ):=fun o μ k=>(zcu (l:=o) zab rfl 5 1 μ k).symm
 refine ct_of hΘ Tryz.func194 rfl (by decide) _ _ rfl rfl rfl ?_;conv=>whnf
 refine drawP hΘ mixed (lk [0,1,2,3,4,5,6,7,8,9,10,11,12,13] .done) [1] (by kernel_rfl) ?_;conv=>whnf
 repeat' ((conv=>whnf); first
  |refine ⟨rfl,?_⟩
  |refine ⟨Fz.r _,rfl,?_⟩
  |refine ⟨Fz.r _,rfl,rfl,?_⟩
  |refine ⟨⟨by simp,by simp⟩,?_⟩
  |fail)
 conv=>whnf
 refine ⟨(by omega),?_⟩;conv=>whnf
 repeat' ((conv=>whnf); first
  |refine ⟨rfl,?_⟩
  |refine ⟨Fz.r _,rfl,?_⟩
  |refine ⟨Fz.r _,rfl,rfl,?_⟩
  |refine ⟨⟨by simp,by simp⟩,?_⟩
  |fail)
 conv=>whnf
 refine ⟨(by omega),?_⟩;conv=>whnf
 conv=>whnf
 refine bre (by simp) ?_;conv=>whnf
 have hlen:(w + 1) / 2 * ((h + 1) / 2) ≤ 32 * 32:=qaw (by omega) (by omega)
 refine useFo (hN F ((w + 1) / 2 * ((h + 1) / 2)) (by omega)) rfl ⟨rfl,congrArg (SA.int .i64) harg,tv⟩ rfl ?_
 rintro _ _ l1 ⟨rfl,rfl⟩;conv=>whnf
 intro c1 hc1;conv=>whnf
 intro c2 hc2;conv=>whnf
 have hm:(List.replicate ((w + 1) / 2 * ((h + 1) / 2)) (48:UInt8)).length = (w + 1) / 2 * ((h + 1) / 2):=qa5
 refine zan hΘ (X:={ x:Nat × List UInt8 // x.1 ≤ br0.length + 1 ∧ x.2.length = (w + 1) / 2 * ((h + 1) / 2) ∧ halB w x.1 ((b0 :: br0).drop x.1) x.2 = halB w 0 (b0 :: br0) (List.replicate ((w + 1) / 2 * ((h + 1) / 2)) 48) }) (fun x=>[(37,.va (.int .i64 x.1.1))]) [7,8,38,39,40,41,42,43,44,45,46,47,48,49,50,51,52,53,54,55,56,57,58,59,60,61,62,63]
  (fun x=>[(0,.frz F),(4,.one (.arr 5 1 (x.1.2.map encB) c1))]) 6 (fun x=>br0.length + 1 - x.1.1) ⟨(0,_),by simp,hm,rfl⟩
  (fun hH hT=>leI [] hH hT rfl ⟨tv,zbk zab 5 1 6 c1 _,tv⟩ ⟨rfl,tv⟩ ⟨Fz.r F,hrow0 _ _ _,tv⟩) ?_
 rintro ⟨⟨k,o⟩,hk,hol,hoh⟩ hH hT
 replace hk:k ≤ br0.length + 1:=hk
 replace hol:o.length = (w + 1) / 2 * ((h + 1) / 2):=hol
 replace hoh:halB w k ((b0 :: br0).drop k) o = halB w 0 (b0 :: br0) (List.replicate ((w + 1) / 2 * ((h + 1) / 2)) 48):=hoh
 conv=>whnf
 refine br (fun gb=>?_) (fun gb=>?_)
 ·have gk:k < br0.length + 1:=by
   have h0:(k:Int) < ((br0.length + 1:Nat):Int):=od gb
   omega
  clear gb
  have gl:k < (b0 :: br0).length:=gk
  have hcell:((b0 :: br0).map fun b=>[SA.int .u8 b.toNat])[0 + (k:Int).toNat]? = some [SA.int .u8 ((b0 :: br0)[k]).toNat]:=by
   rw [ji,ql,qs,qc gl]; rfl
  conv=>whnf
  refine ⟨rfl,⟨by simp,by show (k:Int) < ((br0.length + 1:Nat):Int); omega⟩,?_⟩;conv=>whnf
  refine ⟨_,hcell,?_⟩
  have hwh:w * h ≤ 64 * 64:=qaw hw.2 hh.2
  have hkl:k < w * h:=by rw [← hl]; exact gl
  have hst0:=hoh
  rw [qv gl,halB] at hst0
  conv=>whnf
  refine br (fun gc=>?_) (fun gc=>?_)
  ·have g49:(b0 :: br0)[k] = 49:=by
    have h0:(((b0 :: br0)[k]).toNat:Int) = 49:=od gc
    exact UInt8.toNat_inj.1 (by show ((b0 :: br0)[k]).toNat = 49; omega)
   have hst:=hst0
   rw [if_pos g49] at hst
   conv=>whnf
   refine drawP hΘ mixed (lk [0,1,2,3,4,5,6,7,8,9,10,11,12,13,14,15,16,17,18] (.last 19 .done)) [1] (by kernel_rfl) ?_;conv=>whnf
   have hwi:(w:Int) ≠ 0:=by omega
   have h2i:(2:Int) ≠ 0:=by decide
   have hix:=z6r (k:=k) hw (by omega)
   have hib:=zx1 hkl
   have hi0:0 ≤ IntKind.i64.wrap (IntKind.i64.wrap (IntKind.i64.wrap ((IntKind.i64.wrap ((k:Int).tdiv w)).tdiv 2) * IntKind.i64.wrap ((IntKind.i64.wrap ((w:Int) + 1)).tdiv 2)) + IntKind.i64.wrap (((k:Int).tmod w).tdiv 2)):=by rw [hix]; omega
   have hi1:IntKind.i64.wrap (IntKind.i64.wrap (IntKind.i64.wrap ((IntKind.i64.wrap ((k:Int).tdiv w)).tdiv 2) * IntKind.i64.wrap ((IntKind.i64.wrap ((w:Int) + 1)).tdiv 2)) + IntKind.i64.wrap (((k:Int).tmod w).tdiv 2)) < ((List.replicate ((w + 1) / 2 * ((h + 1) / 2)) (48:UInt8)).length:Int):=by rw [hix,hm]; omega
   have hget:(o.map encB)[0 + (IntKind.i64.wrap (IntKind.i64.wrap (IntKind.i64.wrap ((IntKind.i64.wrap ((k:Int).tdiv w)).tdiv 2) * IntKind.i64.wrap ((IntKind.i64.wrap ((w:Int) + 1)).tdiv 2)) + IntKind.i64.wrap (((k:Int).tmod w).tdiv 2))).toNat]? = some (encB (o[k / w / 2 * ((w + 1) / 2) + k % w / 2]'(by rw [hol]; exact hib))):=by
    rw [hix,ql,ji,qs,qc (by rw [hol]; exact hib)]; rfl
   have hrow2:subE (some (.one (.arr 5 1 ((o.map encB).set (0 + (IntKind.i64.wrap (IntKind.i64.wrap (IntKind.i64.wrap ((IntKind.i64.wrap ((k:Int).tdiv w)).tdiv 2) * IntKind.i64.wrap ((IntKind.i64.wrap ((w:Int) + 1)).tdiv 2)) + IntKind.i64.wrap (((k:Int).tmod w).tdiv 2))).toNat) [.int .u8 49]) c1))) ((Ent.one (.arr 5 1 ((o.set (k / w / 2 * ((w + 1) / 2) + k % w / 2) 49).map encB) c1)).ren (sig [])):=by
    have hs2:(o.map encB).set (k / w / 2 * ((w + 1) / 2) + k % w / 2) [SA.int .u8 49] = (o.set (k / w / 2 * ((w + 1) / 2) + k % w / 2) 49).map encB:=by rw [qbo]; rfl
    rw [hix,ql,ji,hs2]; exact hrow0 _ _ _
   repeat' ((conv=>whnf); first
    |refine ⟨hwi,?_⟩
    |refine ⟨h2i,?_⟩
    |refine ⟨⟨hi0,hi1⟩,?_⟩
    |refine ⟨_,hget,?_⟩
    |refine ⟨rfl,?_⟩
    |refine ⟨Fz.r _,rfl,?_⟩
    |refine ⟨Fz.r _,rfl,rfl,?_⟩
    |refine ⟨⟨by simp,by simp⟩,?_⟩
    |fail)
   conv=>whnf
   exact ⟨⟨(k + 1,o.set (k / w / 2 * ((w + 1) / 2) + k % w / 2) 49),by show k + 1 ≤ br0.length + 1; omega,by rw [qa2]; exact hol,hst⟩,by show br0.length + 1 - (k + 1) < br0.length + 1 - k; omega,
    leR [] hH hT rfl ⟨tv,zbk zab 5 1 6 c1 _,tv⟩ ⟨cnt (by omega),tv⟩ ⟨Fz.r _,hrow2,tv⟩⟩
  ·have g49:¬ (b0 :: br0)[k] = 49:=fun h=>by
    have h0:¬ (((b0 :: br0)[k]).toNat:Int) = 49:=oe gc
    rw [h] at h0; exact h0 rfl
   rw [if_neg g49] at hst0
   conv=>whnf
   exact ⟨⟨(k + 1,o),by show k + 1 ≤ br0.length + 1; omega,hol,hst0⟩,by show br0.length + 1 - (k + 1) < br0.length + 1 - k; omega,
    leR [] hH hT rfl ⟨tv,zbk zab 5 1 6 c1 _,tv⟩ ⟨cnt (by omega),tv⟩ ⟨Fz.r _,hrow0 _ _ _,tv⟩⟩
 ·have gk:k = br0.length + 1:=by
   have h0:¬ (k:Int) < ((br0.length + 1:Nat):Int):=oe gb
   omega
  clear gb
  have hfin:o = halB w 0 (b0 :: br0) (List.replicate ((w + 1) / 2 * ((h + 1) / 2)) 48):=by
   rw [← hoh,qaz (by rw [gk]; simp),halB]
  have hle0:0 + (List.replicate ((w + 1) / 2 * ((h + 1) / 2)) (48:UInt8)).length ≤ (o.map encB).length:=by rw [hm,qb,hol]; omega
  have htake:List.take (List.replicate ((w + 1) / 2 * ((h + 1) / 2)) (48:UInt8)).length (List.drop 0 (o.map encB)) = o.map encB:=by rw [hm,qai]; exact qm (by rw [qb,hol]; omega)
  conv=>whnf
  refine ⟨hle0,_,htake,o,rfl,?_⟩;conv=>whnf
  refine clean [] (.ret (.tup [])) F (valM ⟨false,[],((w:Int) + 1) / 2,((h:Int) + 1) / 2,halB w 0 (b0 :: br0) (List.replicate ((w + 1) / 2 * ((h + 1) / 2)) 48)⟩ c caps) 4 ⟨Fz.r F,rfl,rfl,rfl,c,caps,rfl⟩ (zaj _) rfl rfl (by simp [Out.below,SV.below]) (zh9 _ _ _) ⟨Fz.r F,?_,tv⟩
  first
  |exact hv _ _ _ e1.1 e2.1 hfin
  |exact hv _ _ _ e1.2 e2.2 hfin
end Go.Proofs.YtfnkamphhpldcaaGreatDoor
namespace Go.Proofs.YtfnkamphhpldcaaGreatDoor
open Go Go.RowKit Go.Shelf Sx
attribute [local go_sem] Oper.semAt_some
abbrev G7:={ x:Nat × Bool // x.1 < 128 }
def grpL (z:Nat):List (Nat × Bool):=if z < 128 then [(z,true)] else (z % 128,false) :: grpL (z / 128)
termination_by z
decreasing_by omega
noncomputable def zAt (zb:Nat) (w:World):Nat:=match w.cell? ⟨zb,0,none⟩ with
 |some (.int _ z)=>z.toNat
 |_=>0
theorem z19 {zb:Nat} {w:World} {z:Nat} (h:Boxed w zb 219 (.int .u64 z)):zAt zb w = z:=by
 unfold zAt; rw [h.cell]; rfl
set_option maxRecDepth 100000 in
theorem it147 (F:Fence) (n:Nat) (h147:F.fn 212) (hro:F.round = none) (hn:1 ≤ n) (l zb:Nat) (z:Nat) (hz:z < 18446744073709551616) (J:List G7 → World → Prop)
  (hJz:∀ pre A v,J pre A → J pre (A.setCell ⟨zb,0,none⟩ v))
  (hY:∀ pre (x:G7) W1,J pre W1 → pre.length < 10 → YieldAt F (n - 1) Tryz.prog l #[.int .u8 x.1.1,.bool x.1.2] W1 fun e W'=>e = .returned (.bool true) ∧ J (pre ++ [x]) W' ∧ W'.heap[zb]? = W1.heap[zb]?)
  (W:World) (hc:Boxed W zb 219 (.int .u64 z)) (h0:J [] W) :
  CallsIn F n Tryz.prog 212 #[.func (.yield l) #[] #[],.pointer (some ⟨zb,0,none⟩)] W fun e W'=>(∃ v,e = .returned v) ∧ ∃ xs,(xs.map (·.1) = grpL z) ∧ J xs W':=by
 refine callsIn_of_wp Tryz.func212 rfl h147 ?_ hro
 simp only [Tryz.ntmps212,List.size_toArray,List.length_cons,List.length_nil,Nat.reduceAdd,Nat.reduceSub,Array.replicate_succ,Array.replicate_zero,List.push_toArray,List.append_toArray,List.nil_append,List.cons_append]
 gi_wp2
 gi_loopw [] (fun wr=>∃ (pre:List G7) (z':Nat),J pre wr ∧ Boxed wr zb 219 (.int .u64 z') ∧ z' < 18446744073709551616 ∧ grpL z = pre.map (·.1) ++ grpL z' ∧ z' * 128 ^ pre.length ≤ z ∧ (pre = [] ∨ 1 ≤ z')) (fun wr=>zAt zb wr)
 case atStart=>
  exact ⟨[],z,h0,hc,hz,by simp,by simp,.inl rfl⟩
 case round=>
  obtain ⟨pre,z',hJ,hb,hz',hg,hpow,hpos⟩:=hrel
  have hcell:=hb.cell
  have hlen:pre.length < 10:=by
   rcases hpos with rfl | hpos
   ·simp
   ·refine Nat.lt_of_not_le fun hge=>?_
    have h1:128 ^ 10 ≤ 128 ^ pre.length:=Nat.pow_le_pow_right (by omega) hge
    have h2:1 * 128 ^ pre.length ≤ z' * 128 ^ pre.length:=Nat.mul_le_mul_right _ hpos
    omega
  obtain ⟨fn,tmps,assign,body,hy,hR⟩:=hY pre ⟨(z' % 128,decide (z' < 128)),Nat.mod_lt _ (by omega)⟩ wr hJ hlen
  have hbits:bits BinOp.and IntKind.u64 (↑z') 127 % 256 = ((z' % 128:Nat):Int):=by
   rw [show (127:Int) = ((127:Nat):Int) from rfl,u64_and_nat z' 127 hz' (by omega),show (127:Nat) = 2 ^ 7 - 1 from rfl,Nat.and_two_pow_sub_one_eq_mod]; omega
  have hdec:decide ((z':Int) < 128) = decide (z' < 128):=decide_eq_decide.2 (by omega)
  have hnn:((z' % 128:Nat):Int) = (z':Int) % 128:=by omega
  dsimp only at hy
  rw [hnn] at hy
  gi_wp2
  refine hR.mono ?_
  rintro e W3 ⟨rfl,hJ3,hz3⟩
  have hb3:Boxed W3 zb 219 (.int .u64 z'):=hz3.trans hb
  have hcell3:=hb3.cell
  have hfr3:=hb3.frozen
  by_cases hlt:z' < 128
  ·have hg1:grpL z' = [(z',true)]:=by rw [grpL,if_pos hlt]
   have e1:z' % 128 = z':=Nat.mod_eq_of_lt hlt
   gi_wp2
   refine bodyPost_ret (results_none rfl _ _ _) rfl ?_
   refine ⟨⟨_,rfl⟩,_,?_,hJ3⟩
   rw [hg,hg1,List.map_append]
   simp [e1,hlt]
  ·have hg1:grpL z' = (z' % 128,false) :: grpL (z' / 128):=by rw [grpL,if_neg hlt]
   have hdiv:((z' / 128:Nat):Int) = (z':Int) / 128:=by omega
   have hb4:=hb3.set (.int .u64 ((z' / 128:Nat):Int))
   rw [hdiv] at hb4
   have hpw:z' / 128 * 128 ^ (pre.length + 1) ≤ z:=by
    rw [Nat.pow_succ,Nat.mul_comm (128 ^ pre.length),← Nat.mul_assoc]
    exact Nat.le_trans (Nat.mul_le_mul_right _ (Nat.div_mul_le_self z' 128)) hpow
   gi_wp2
   refine ⟨⟨_,z' / 128,hJz _ _ _ hJ3,by rw [hdiv]; exact hb4,by omega,?_,by simpa using hpw,.inr (by omega)⟩,?_⟩
   ·rw [hg,hg1,List.map_append]
    simp [hlt]
   ·rw [z19 (z:=z' / 128) (by rw [hdiv]; exact hb4),z19 hb]
    omega
theorem zwp (F:Fence) (n:Nat) (h:F.fn 139) (hro:F.round = none) (z:Int) (w:World) :
  CallsIn F n Tryz.prog 139 #[.int .u64 z] w fun e w'=>e = .returned (.func (.func 212) #[] #[.pointer (some ⟨w.heap.size,0,none⟩)]) ∧ w' = w.alloc (.cells #[.int .u64 z] 219):=by
 refine callsIn_of_wp Tryz.func139 rfl h ?_ hro
 simp only [Tryz.ntmps139,List.size_toArray,List.length_cons,List.length_nil,Nat.reduceAdd,Nat.reduceSub,Array.replicate_succ,Array.replicate_zero,List.push_toArray,List.append_toArray,List.nil_append,List.cons_append]
 gi_wp2
 go_ret
 exact ⟨rfl,rfl⟩
theorem z8k (F:Fence) (n:Nat) (h147:F.fn 212) (hro:F.round = none) (hn:1 ≤ n) (zb z:Nat) (hz:z < 18446744073709551616) (w:World) (hc:Boxed w zb 219 (.int .u64 z)) :
  SeqZ F n Tryz.prog 212 #[.pointer (some ⟨zb,0,none⟩)] (fun x:G7=>#[.int .u8 x.1.1,.bool x.1.2]) zb (fun xs=>xs.map (·.1) = grpL z) 10 w:=
 fun l J W hW hJz hY h0=>it147 F n h147 hro hn l zb z hz J hJz hY W (hW.trans hc) h0
end Go.Proofs.YtfnkamphhpldcaaGreatDoor
