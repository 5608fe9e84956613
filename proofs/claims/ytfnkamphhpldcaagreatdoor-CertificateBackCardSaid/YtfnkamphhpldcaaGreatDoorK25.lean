import Derived.Test.YtfnkamphhpldcaaGreatDoorK24
import Derived.Test.YtfnkamphhpldcaaGreatDoorK10
import Derived.Test.YtfnkamphhpldcaaGreatDoorK16
set_option maxHeartbeats 64000000
namespace Go.Proofs.YtfnkamphhpldcaaGreatDoor
open Go Sx
theorem getLast?_map' {α β:Type} (f:α → β) (l:List α):(l.map f).getLast? = l.getLast?.map f:=by
 simp
theorem zoo {p:Int} {f:Ln → Ln} (hf:∀ acc x,lnOk p acc x → lnOk p (acc.map f) (f x)):∀ (l acc:List Ln),lnsOk p acc l → lnsOk p (acc.map f) (l.map f)
 |[],_,_=>trivial
 |x :: r,acc,h=>by
  refine ⟨hf _ _ h.1,?_⟩
  have:=zoo hf r (acc ++ [x]) h.2
  rw [q5] at this
  exact this
theorem z7n:∀ b:UInt8,badC b = false → badC (Lib.lowerB b) = false:=by
 intro b
 have:∀ n:Fin 256,badC (UInt8.ofNat n.1) = false → badC (Lib.lowerB (UInt8.ofNat n.1)) = false:=by decide +kernel
 have h:=this ⟨b.toNat,b.toNat_lt⟩
 simpa using h
theorem zpu {s:List UInt8} (h:s.any badC = false):(Lib.toLowerA s).any badC = false:=by
 refine qa6.2 fun b hb=>?_
 obtain ⟨a,ha,rfl⟩:=q9.1 hb
 rw [z7n a (by simpa using qa6.1 h a ha)]
 simp
theorem zmw:∀ {s:List UInt8} {b:UInt8},b ∈ repD s → b ∈ s
 |[],_,h=>h
 |[a],_,h=>h
 |a :: c :: r,b,h=>by
  rw [repD] at h
  split at h
  ·rename_i hc
   simp only [qd,beq_iff_eq] at hc
   rcases qj.1 h with rfl | h
   ·rw [hc.1]; simp
   ·exact qaj _ (qaj _ (zmw h))
  ·rcases qj.1 h with rfl | h
   ·simp
   ·exact qaj _ (zmw h)
theorem zwn:∀ {f:Nat} {s:List UInt8} {b:UInt8},b ∈ spS f s → b ∈ s
 |0,_,_,h=>h
 |f + 1,s,b,h=>by
  rw [spS] at h
  split at h
  ·exact zmw (zwn h)
  ·exact h
theorem z2f:∀ (f:Nat) (s:List UInt8),(spS f s).length ≤ s.length
 |0,_=>qf _
 |f + 1,s=>by
  rw [spS]; split
  ·exact jk (z2f f _) (zl2 s)
  ·exact qf _
theorem z6f {p:Int} (hp:p = 1) (acc:List Ln) (x:Ln) (h:lnOk p acc x):lnOk p (acc.map foldL) (foldL x):=by
 unfold lnOk at *
 rw [if_pos hp] at *
 exact ⟨h.1,by show (Lib.toLowerA x.1).length ≤ 80; unfold Lib.toLowerA; rw [qb]; exact h.2.1,zpu h.2.2⟩
theorem zxz {p:Int} (hp:p = 1) (acc:List Ln) (x:Ln) (h:lnOk p acc x):lnOk p (acc.map zrc) (zrc x):=by
 unfold lnOk at *
 rw [if_pos hp] at *
 refine ⟨h.1,jk (z2f _ _) h.2.1,qa6.2 fun b hb=>?_⟩
 exact qa6.1 h.2.2 b (zwn hb)
theorem zr9 (n:Int):∀ l:List Int,(rndN n l).take 2 = l.take 2
 |[]=>rfl
 |[_]=>rfl
 |[_,_]=>rfl
 |_ :: _ :: _ :: _=>rfl
theorem zqw {z n:Int} (hn:0 < n) (hz:0 ≤ z):z % n ≤ z:=by
 have h1:=Int.emod_add_mul_ediv z n
 have h2:0 ≤ n * (z / n):=qb5 (by omega) (Int.ediv_nonneg hz (by omega))
 omega
theorem zxd {z n:Int} (hn:0 < n) {b:Int} (h:-b ≤ z ∧ z ≤ b):-b ≤ z - z.tmod n ∧ z - z.tmod n ≤ b:=by
 by_cases hz:0 ≤ z
 ·have h1:0 ≤ z.tmod n:=qb1 _ hz
  have h2:z.tmod n ≤ z:=by rw [yu hz]; exact zqw hn hz
  omega
 ·have e:z.tmod n = -((-z).tmod n):=by rw [Int.neg_tmod]; omega
  have h1:0 ≤ (-z).tmod n:=qb1 _ (by omega)
  have h2:(-z).tmod n ≤ -z:=by rw [yu (by omega)]; exact zqw hn (by omega)
  omega
theorem three {α:Type} {l:List α} (h:l.length = 3):∃ a b c,l = [a,b,c]:=by
 match l,h with
 |[a,b,c],_=>exact ⟨a,b,c,rfl⟩
theorem z01 {p n:Int} (hp:p = 3 ∨ p = 5) (hn:0 < n) (acc:List Ln) (x:Ln) (h:lnOk p acc x):lnOk p (acc.map (zsv n)) (zsv n x):=by
 unfold lnOk at *
 rw [if_neg (by omega)] at *
 obtain ⟨h1,h2,h3,h4⟩:=h
 have h2':x.2.length = 3:=by rw [h2]; rcases hp with rfl | rfl<;>rfl
 obtain ⟨t,m⟩:=x
 obtain ⟨a,b,z,rfl⟩:=three h2'
 refine ⟨h1,h2,⟨h3.1,h3.2.1,?_,tv⟩,fun h y hy=>?_⟩
 ·have h5:=h3.2.2.1
  rcases hp with rfl | rfl
  ·exact zxd hn h5
  ·exact zxd hn h5
 ·rw [getLast?_map'] at hy
  cases hl:acc.getLast? with
  |none=>rw [hl] at hy; cases hy
  |some y0=>
   rw [hl] at hy
   cases hy
   have:=h4 h y0 hl
   show cmpL ((rndN n y0.2).take 2) ((rndN n [a,b,z]).take 2) < 0
   rw [zr9,zr9]; exact this
theorem zzu {p n:Int} (hp:p = 2) (acc:List Ln) (x:Ln) (h:lnOk p acc x):lnOk p (acc.map (limL n)) (limL n x):=by
 subst hp
 unfold lnOk at *
 rw [if_neg (by omega)] at *
 obtain ⟨h1,h2,h3,h4⟩:=h
 obtain ⟨t,m⟩:=x
 match m,(h2:m.length = 1),h3 with
 |[a],_,h3=>
  refine ⟨h1,rfl,⟨?_,tv⟩,fun h=>absurd rfl h⟩
  have h5:=h3.1
  have e:bnd 2 [] = (0,7):=rfl
  rw [e] at h5 ⊢
  dsimp only at h5 ⊢
  split<;>omega
theorem zqz (w:Nat):∀ (l:List UInt8) (k:Nat) (o:List UInt8),o.all (fun b=>b == 48 || b == 49) = true → (halB w k l o).all (fun b=>b == 48 || b == 49) = true
 |[],_,_,h=>h
 |b :: r,k,o,h=>by
  rw [halB]
  refine zqz w r (k + 1) _ ?_
  split
  ·refine qo.2 fun x hx=>?_
   rcases qbd hx with hx | rfl
   ·exact qo.1 h x hx
   ·rfl
  ·exact h
theorem z5v {p:Int} {v:Val} (hp:p = 6 ∨ p = 7) (hv:VOK p v) (hl:v.lost = false):VOK p (halV v):=by
 obtain ⟨hL,hw,hh,hb⟩:=zkp hv hl hp
 right
 refine ⟨rfl,?_⟩
 rw [if_neg (by omega),if_pos (by omega)]
 refine ⟨rfl,⟨by show 0 ≤ (v.w + 1) / 2; omega,by show (v.w + 1) / 2 ≤ 32; omega⟩,⟨by show min ((v.w + 1) / 2) 1 ≤ (v.h + 1) / 2; omega,by show (v.h + 1) / 2 ≤ min ((v.w + 1) / 2) 1 * 32; omega⟩,?_⟩
 rcases hp with h6 | h7
 ·rw [if_neg (by omega)] at hb ⊢
  show (if v.bits = [] then [] else _) = []
  rw [if_pos hb]
 ·rw [if_pos h7] at hb ⊢
  show (((if v.bits = [] then ([]:List UInt8) else halB v.w.toNat 0 v.bits (List.replicate ((v.w.toNat + 1) / 2 * ((v.h.toNat + 1) / 2)) 48)).length:Nat):Int) = (v.w + 1) / 2 * ((v.h + 1) / 2) ∧ (if v.bits = [] then ([]:List UInt8) else halB v.w.toNat 0 v.bits (List.replicate ((v.w.toNat + 1) / 2 * ((v.h.toNat + 1) / 2)) 48)).all (fun b=>b == 48 || b == 49) = true
  split
  ·rename_i hn
   have hz:=hb.1
   rw [hn] at hz
   have hz':v.w * v.h = 0:=hz.symm
   have hw0:v.w = 0:=by
    rcases Int.mul_eq_zero.1 hz' with h | h
    ·exact h
    ·omega
   have e1:(v.w + 1) / 2 = 0:=by omega
   rw [e1]; simp
  ·refine ⟨?_,zqz _ _ _ _ (by simp)⟩
   rw [zqt,qa5]
   have e1:(((v.w.toNat + 1) / 2:Nat):Int) = (v.w + 1) / 2:=by omega
   have e2:(((v.h.toNat + 1) / 2:Nat):Int) = (v.h + 1) / 2:=by omega
   rw [qbi,e1,e2]
theorem zzl {p:Int} {s:Stp} {v:Val} (hp:1 ≤ p ∧ p ≤ 8) (hok:zbw p s = true) (hv:VOK p v) (hl:v.lost = false):VOK p (stepS s v):=by
 obtain ⟨k,n⟩:=s
 have lines:∀ f:Ln → Ln,p ≤ 5 → (∀ acc x,lnOk p acc x → lnOk p (acc.map f) (f x)) → VOK p { v with lines:=v.lines.map f }:=fun f h5 hf=>by
  obtain ⟨h1,h2,h3,h4,h6⟩:=zf1 hv hl h5
  right
  refine ⟨hl,?_⟩
  rw [if_neg (by omega),if_neg (by omega)]
  exact ⟨h1,h2,h3,by show (v.lines.map f).length ≤ 64; rw [qb]; exact h4,zoo hf v.lines [] h6⟩
 rcases zf6 hp hok with ⟨rfl,h,rfl⟩ | ⟨rfl,h,rfl⟩ | ⟨rfl,h,hn⟩ | ⟨rfl,h,hn⟩ | ⟨rfl,h,rfl⟩ | ⟨rfl,rfl⟩
 ·exact lines _ (by omega) (z6f h)
 ·exact lines _ (by omega) (zxz h)
 ·exact lines _ (by omega) (z01 h (by omega))
 ·exact lines _ (by omega) (zzu h)
 ·exact z5v h hv hl
 ·exact .inl rfl
def runS (l:List Stp) (v:Val):Val:=l.foldl (fun v s=>if v.lost = true then v else stepS s v) v
theorem zph {p:Int} (hp:1 ≤ p ∧ p ≤ 8):∀ (l:List Stp) (v:Val),(∀ s ∈ l,zbw p s = true) → VOK p v → VOK p (runS l v)
 |[],_,_,h=>h
 |s :: r,v,hok,h=>by
  refine zph hp r _ (fun x hx=>hok x (by simp [hx])) ?_
  show VOK p (if v.lost = true then v else stepS s v)
  split
  ·exact h
  ·rename_i hl; exact zzl hp (hok s (by simp)) h (by simpa using hl)
theorem zwr {p:Int} {v:Val} (hp:1 ≤ p ∧ p ≤ 8) (hv:VOK p v):Fits v:=by
 rcases hv with rfl | ⟨hl,hv⟩
 ·exact ⟨by show 0 ≤ 1000; omega,fun x hx=>absurd hx (by simp [loseV]),by show 0 ≤ 70000; omega⟩
 ·split at hv
  ·exact ⟨by rw [hv.1]; simp,fun x hx=>by rw [hv.1] at hx; simp at hx,by rw [hv.2.1]; simp⟩
  ·split at hv
   ·refine ⟨by rw [hv.1]; simp,fun x hx=>by rw [hv.1] at hx; simp at hx,?_⟩
    have h4:=hv.2.2.2
    split at h4
    ·have h5:v.w * v.h ≤ 32 * 32:=by
      have:v.w * v.h ≤ 32 * v.h:=qbu hv.2.1.2 (by omega)
      omega
     omega
    ·rw [h4]; simp
   ·refine ⟨by omega,fun x hx=>?_,by rw [hv.2.2.1]; simp⟩
    obtain ⟨b,hb⟩:=ze7 hv.2.2.2.2 x hx
    unfold lnOk at hb
    split at hb
    ·exact ⟨by omega,by rw [hb.1]; simp⟩
    ·refine ⟨by rw [hb.1]; simp,?_⟩
     rw [hb.2.1]; unfold cols; split<;>(try split)<;>(try split)<;>(try split)<;>omega
def zde (p:Int) (l:List Stp) (s:List UInt8):List UInt8 × Int:=
 if zbn p l = true then match readS p s with
  |none=>([],70)
  |some v=>(zbh p (runS l v),0)
 else ([],70)
end Go.Proofs.YtfnkamphhpldcaaGreatDoor
namespace Sx
open Go
def dB (n:Nat) (d:List (Dk × List SA)):Bool:=d.all fun x=>x.2.all fun a=>a.bB n
theorem dB_ok {n:Nat} {d:List (Dk × List SA)} (h:dB n d = true):∀ x ∈ d,∀ a ∈ x.2,a.below n:=fun x hx a ha=>
 SA.bB_ok (qo.1 (qo.1 h x hx) a ha)
theorem leId {T:List (List (Nat × SV))} {upd jl:List (Nat × SV)} {H:Hp} {hup:List (Nat × Ent)} {n0 nt N0 N:Nat} {d:List (Dk × List SA)} (s:List (Nat × Mv)) (hH:WfH H N0) (hT:WfT T N0)
  (hc:(ckI s upd jl hup n0 nt N0 N && dB N0 d) = true) (wh:bH N hup) (ht:leT s T upd) (hh:leH s H hup):Le ⟨T,H,N0,n0,nt,d⟩ ⟨upd :: jl :: T,hup :: H,N,n0,nt,d⟩:=by
 simp only [ckI,qd] at hc
 obtain ⟨⟨⟨⟨⟨⟨c1,c2⟩,c3⟩,c4⟩,c5⟩,c6⟩,c7⟩:=hc
 exact zpi N s hH hT c4 c3 (dB_ok c7) c1 c2 c6 (bT_of c5) wh ht hh
theorem leRd {T:List (List (Nat × SV))} {top upd jl:List (Nat × SV)} {H:Hp} {htop hup:List (Nat × Ent)} {nx1 n0 nt N0 N:Nat} {d:List (Dk × List SA)} (s:List (Nat × Mv)) (hH:WfH H N0) (hT:WfT T N0)
  (hc:(ckI s upd jl hup n0 nt N0 N && (top.all fun p=>(aget upd p.1).isSome || (aget jl p.1).isSome) && (htop.all fun p=>(aget hup p.1).isSome || Nat.ble N0 p.1) && dB N0 d) = true)
  (wh:bH N hup) (ht:leT s (top :: jl :: T) upd) (hh:leH s (htop :: H) hup):Le ⟨top :: jl :: T,htop :: H,nx1,n0,nt,d⟩ ⟨upd :: jl :: T,hup :: H,N,n0,nt,d⟩:=by
 simp only [ckI,qd] at hc
 obtain ⟨⟨⟨⟨⟨⟨⟨⟨c1,c2⟩,c3⟩,c4⟩,c5⟩,c6⟩,c7⟩,c8⟩,c9⟩:=hc
 exact zmh N0 N s hH hT c4 c3 (dB_ok c9) c1 c2 c7 c8 c6 (bT_of c5) wh ht hh
end Sx
namespace Go.Proofs.YtfnkamphhpldcaaGreatDoor
open Go Sx
set_option maxRecDepth 100000
def valN (v:Val) (c:Nat) (caps:Nat → Nat):List (Nat × Ent):=[(1,valE v 2 c),(2,zba 3 caps c v.lines),(3,famE caps v.lines)]
theorem zg4 (v:Val) (c:Nat) (caps:Nat → Nat):bH 4 (valN v c caps):=⟨zb7 (by omega) _,zam (by omega) _ _ _,zau _ _ _,tv⟩
theorem zpt (e:Ent):e.ren (sig []) = e:=by
 have h:∀ a:SA,a.ren (sig []) = a:=fun a=>SA.ren_id (.inr fun _ _=>rfl) (fun _=>rfl)
 have hb:∀ b:SB,b.ren (sig []) = b:=fun b=>by
  cases b with
  |cells t l=>simp [SB.ren,zdl fun a _=>h a]
  |arr t sz L room=>
   simp only [SB.ren]; congr 1
   exact zdl fun x _=>zdl fun a _=>h a
  |obj o=>rfl
 cases e<;>simp [Ent.ren,hb]
theorem zol (v:Val) (c:Nat):subE (some (valE v 2 c)) ((valE v 2 c).ren (sig [])):=by
 rw [zpt]; exact rfl
theorem z7t {C:Ctx} {ρ:Rho} {F:Fz} {v:Val} {c:Nat} {caps:Nat → Nat} {w:World} (S:Sat C ρ [(0,.frz F) :: valM v c caps] 4 w):Sat C ρ [(0,.frz F) :: valN v c caps] 4 w:=by
 obtain ⟨lost,L,w1,h,bits⟩:=v
 cases L with
 |cons x r=>exact S
 |nil=>exact zqh (s:=[]) S (N0:=4) (N:=4) rfl S.n0 (qf _) ⟨tv,zg4 _ _ _⟩ ⟨Fz.r F,zol _ _,rfl,tv,tv⟩ (fun i hi=>match i,hi with | 0,_=>rfl | 1,_=>rfl | 2,_=>rfl | 3,_=>rfl)
theorem z7h {C:Ctx} {ρ:Rho} {F:Fz} {v:Val} {c:Nat} {caps:Nat → Nat} {w:World} (S:Sat C ρ [(0,.frz F) :: valN v c caps] 4 w):Sat C ρ [(0,.frz F) :: valM v c caps] 4 w:=by
 obtain ⟨lost,L,w1,h,bits⟩:=v
 cases L with
 |cons x r=>exact S
 |nil=>exact zqh (s:=[]) S (N0:=4) (N:=4) rfl S.n0 (qf _) ⟨tv,zh9 _ _ _⟩ ⟨Fz.r F,zol _ _,tv⟩ (fun i hi=>match i,hi with | 0,_=>rfl | 1,_=>rfl | 2,_=>rfl | 3,_=>rfl)
def stepN (F:Fz) (v:Val):Out → Fz → List (Nat × Ent) → Nat → Prop:=fun o F0 h0 n0=>F0 = F ∧ n0 = 4 ∧ o = .ret (.tup []) ∧ ∃ c caps,h0 = valN v c caps
theorem z6o {f:FuncId} {args:List SV} {F:Fz} {v v':Val} {c:Nat} {caps:Nat → Nat} (h:Ct Tryz.prog f args F (valM v c caps) 4 (stepV F v')):Ct Tryz.prog f args F (valN v c caps) 4 (stepN F v'):=by
 unfold Ct za6 at *
 intro C ρ w vs S hr hb
 obtain ⟨he,hc⟩:=h C ρ w vs (z7h S) hr hb
 refine ⟨he,hc.mono ?_⟩
 rintro e w' ⟨out,h',nx',ρ',hk,rest⟩
 refine ⟨out,h',nx',ρ',?_,rest⟩
 unfold Cln at *
 intro C' ρ'' w'' e' hn S' hr' hb'
 obtain ⟨out0,F0,h0,n0,ρ0,⟨k1,k2,rfl,k4,c',caps',rfl⟩,q1,q2,q3,q4⟩:=hk C' ρ'' w'' e' hn S' hr' hb'
 exact ⟨out0,F0,_,4,ρ0,⟨k1,k2,rfl,k4,c',caps',rfl⟩,q1,q2,z7t q3,rfl⟩
end Go.Proofs.YtfnkamphhpldcaaGreatDoor
namespace Go.Proofs.YtfnkamphhpldcaaGreatDoor
open Go Sx
set_option maxRecDepth 100000
theorem zu9 {α:Type} {τ μ:Mu} {i j m:Nat} (h1:τ i 0 = (m,0)) (h2:μ j 0 = (m,0)) (sz c:Nat) (l:List α):(gA sz i c l).ren τ = (gA sz j c l).ren μ:=by
 cases l with
 |nil=>rfl
 |cons x r=>simp only [gA,SA.ren,h1,h2]
theorem zew {τ μ:Mu} {i j m:Nat} (h1:τ i 0 = (m,0)) (h2:μ j 0 = (m,0)) (v:Val) (c:Nat):subE (some ((valE v i c).ren τ)) ((valE v j c).ren μ):=by
 show SB.ren τ _ = SB.ren μ _
 simp only [SB.ren,qx,ym,zu9 h1 h2]
 rfl
theorem zep {μ:Mu} {j m:Nat} (h2:μ j 0 = (m,0)) (v:Val) (c:Nat):subE (some (valE v m c)) ((valE v j c).ren μ):=by
 have:=zew (τ:=sig []) (μ:=μ) (i:=m) (j:=j) (m:=m) rfl h2 v c
 rw [zpt] at this; exact this
theorem z07 {τ μ:Mu} {i j m:Nat} (h1:τ i 0 = (m,0)) (h2:μ j 0 = (m,0)) (v:Val) (c:Nat) :
  [SA.lit v.lost,gA 2 i c v.lines,.int .i64 v.w,.int .i64 v.h,.str v.bits].map (SA.ren τ) = [SA.lit v.lost,gA 2 j c v.lines,.int .i64 v.w,.int .i64 v.h,.str v.bits].map (SA.ren μ):=by
 simp only [qx,ym,zu9 h1 h2]; rfl
theorem zl0 (v:Val) (c:Nat) (p:Int):∀ s ∈ [valV v 1 c,.va (.int .i64 p)],SV.below 3 s:=by
 intro s hs
 simp only [qj,qq,or_false] at hs
 rcases hs with rfl | rfl
 ·intro a ha
  simp only [qj,qq,or_false] at ha
  rcases ha with rfl | rfl | rfl | rfl | rfl
  ·trivial
  ·exact zeg (by omega) _ _ _
  ·trivial
  ·trivial
  ·trivial
 ·trivial
theorem zv6 {l:List Stp} {k:Nat} (v:Val) (hk:k < l.length):runS (l.take (k + 1)) v = if (runS (l.take k) v).lost = true then runS (l.take k) v else stepS l[k] (runS (l.take k) v):=by
 rw [qi hk]
 unfold runS
 rw [qaq]
 rfl
theorem zpc {p:Int} {s:List UInt8} {o:Out} {h0:List (Nat × Ent)} {n0:Nat} (h:readS p s = none) (hc:match readS p s with
 |some v=>∃ c caps,n0 = 3 ∧ o = .ret (valV v 1 c) ∧ h0 = [(1,zba 2 caps c v.lines),(2,famE caps v.lines)]
 |none=>n0 = 1 ∧ o = .panic perr ∧ h0 = []):n0 = 1 ∧ o = .panic perr ∧ h0 = []:=by rw [h] at hc; exact hc
theorem zqe {p:Int} {s:List UInt8} {o:Out} {h0:List (Nat × Ent)} {n0:Nat} {v:Val} (h:readS p s = some v) (hc:match readS p s with
 |some v=>∃ c caps,n0 = 3 ∧ o = .ret (valV v 1 c) ∧ h0 = [(1,zba 2 caps c v.lines),(2,famE caps v.lines)]
 |none=>n0 = 1 ∧ o = .panic perr ∧ h0 = []):∃ c caps,n0 = 3 ∧ o = .ret (valV v 1 c) ∧ h0 = [(1,zba 2 caps c v.lines),(2,famE caps v.lines)]:=by rw [h] at hc; exact hc
theorem zpb {p:Int} {l:List Stp} (h:zbn p l = true):(1 ≤ p ∧ p ≤ 8) ∧ l.length ≤ 64 ∧ ∀ s ∈ l,zbw p s = true:=by
 unfold zbn at h
 simp only [qd,decide_eq_true_eq,qo] at h
 exact ⟨h.1,h.2.1,h.2.2⟩
theorem zz6 (F:Fz) (hM:MLF F) (sa:SA) (l:List Stp) (p:Int) (s:List UInt8) (ha:za3 F sa l) (hl:l.length < 1000000) (hs:s.length ≤ 1000000000000000000) :
  Fo Tryz.prog F 59 [.va (.int .i64 p),.va sa,.va (.str s)] (fun o F'=>o = .ret (.tup [.va (.str (zde p l s).1),.va (.int .i64 (zde p l s).2)])):=by
 have hvalid:=ziv F sa l p ha hl
 have ha':=ha
 have fin:∀ (x:List UInt8) (e:Int) (F1:Fz) (h:Hp) (nx:Nat),zde p l s = (x,e) → lget h 0 = some (.frz F1) → Fz.le F F1 →
   Cln 1 (FoK F fun o F'=>o = .ret (.tup [.va (.str (zde p l s).1),.va (.int .i64 (zde p l s).2)])) (.ret (.tup [.va (.str x),.va (.int .i64 e)])) h nx:=by
  intro x e F1 h nx hx h0 hle
  exact endFo (.ret (.tup [.va (.str x),.va (.int .i64 e)])) F1 h0 hle (Fz.r F1) (by rw [hx]) (zaj _) rfl
 have hrdc:readS p s = none ∨ ∃ v,readS p s = some v:=by
  cases readS p s with
  |none=>exact .inl rfl
  |some v=>exact .inr ⟨v,rfl⟩
 obtain ⟨han,hab,hae,hac,haL,har,rfl,ha1,ha2,ha3,ha4⟩:=ha
 unfold Fo
 refine z1p hΘ Tryz.func59 rfl (by decide) 41 _ rfl rfl rfl (zci hΘ _ _ _ ?_);conv=>whnf
 refine zy7 rfl rfl rfl rfl ?_;conv=>whnf
 refine usePu (hvalid) rfl (zaa _) rfl ?_;conv=>whnf
 refine useFo (zcb F (zbn p l)) rfl ⟨rfl,tv⟩ rfl ?_
 rintro _ _ l1 ⟨rfl,⟨hv,rfl⟩ | ⟨hv,rfl⟩⟩
 ·have hpl:=zpb hv
  conv=>whnf
  refine use (z5n cfun tfun F s p hs) [] rfl ⟨rfl,rfl,tv⟩ rfl trivial (by simp [SV.below,SA.below]) trivial ?_
  rintro out0 F0 h0 n0 hle ⟨rfl,hcase⟩
  rcases hrdc with hrd | ⟨v,hrd⟩
  ·replace hcase:=zpc hrd hcase
   obtain ⟨rfl,rfl,rfl⟩:=hcase
   conv=>whnf
   refine ⟨rfl,zjy 1 2 [] 0 rfl rfl (by decide) ?_⟩;conv=>whnf
   exact fin [] 70 F _ _ (by rw [zde,if_pos hv,hrd]) rfl (Fz.r F)
  ·replace hcase:=zqe hrd hcase
   obtain ⟨c,caps,rfl,rfl,rfl⟩:=hcase
   conv=>whnf
   refine useFo (zr4 F) rfl (zaa _) rfl ?_
   rintro _ F1 l2 ⟨bk,rfl,hK⟩;conv=>whnf
   refine zan hΘ (X:={ x:Nat × Val × Nat × (Nat → Nat) // x.1 ≤ l.length ∧ x.2.1 = runS (l.take x.1) v }) (fun x=>[(22,.va (.int .i64 x.1.1))]) [11,23,24,25,26,27,28,29,30,31,32,33,34,35,36,37]
    (fun x=>[(0,.frz F1),(3,zba 4 x.1.2.2.2 x.1.2.2.1 x.1.2.1.lines),(4,famE x.1.2.2.2 x.1.2.1.lines),(5,valE x.1.2.1 3 x.1.2.2.1)]) 7 (fun x=>l.length - x.1.1) ⟨(0,v,c,caps),by simp,rfl⟩
    (fun hH hT=>leId [] hH hT rfl ⟨tv,zam (by omega) _ _ _,zau _ _ _,zb7 (by omega) _,tv⟩ ⟨rfl,tv⟩ ⟨Fz.r F1,zcj (fun k=>rfl) (fun k=>rfl) rfl,zfc rfl,zew (τ:=tau [] 1 3) (μ:=sig []) (i:=1) (j:=3) (m:=3) rfl rfl v c,tv⟩) ?_
   rintro ⟨⟨k,u,c1,cp1⟩,hk,hu⟩ hH hT
   replace hk:k ≤ l.length:=hk
   replace hu:u = runS (l.take k) v:=hu
   conv=>whnf
   refine br (fun gb=>?_) (fun gb=>?_)
   ·have gk:k < l.length:=by
     have h0:(k:Int) < (l.length:Int):=od gb
     omega
    clear gb
    have hst:=zv6 v gk
    rw [← hu] at hst
    have hex:∃ κ ν,l[k] = (κ,ν):=⟨_,_,rfl⟩
    obtain ⟨κ,ν,hkx⟩:=hex
    have hel:haL[hae + (k:Int).toNat]? = some (enc (κ,ν)):=by rw [← hkx]; exact Sl.at ha4 gk
    have hok:zbw p (κ,ν) = true:=by rw [← hkx]; exact hpl.2.2 _ (jj gk)
    have hvk:VOK p u:=by
     rw [hu]; exact zph hpl.1 _ _ (fun s hs=>hpl.2.2 s (jv hs)) (zsb hrd).2
    rw [hkx] at hst
    obtain ⟨lost,L,w,h,bits⟩:=u
    rcases lost with _ | _
    ·replace hst:runS (l.take (k + 1)) v = stepS (κ,ν) ⟨false,L,w,h,bits⟩:=hst
     have hdo:=fun c caps=>z6o (do_fn F1 bk hK (hM.mono l2) p κ ν ⟨false,L,w,h,bits⟩ hpl.1 hok hvk rfl c caps)
     have hκ:κ = 1 ∨ κ = 2 ∨ κ = 3 ∨ κ = 4 ∨ κ = 5 ∨ κ = 6:=by
      have:=zf6 hpl.1 hok; omega
     clear hok hkx hvk
     rcases hκ with rfl | rfl | rfl | rfl | rfl | rfl
     ·conv=>whnf
      refine ⟨Sl.lt ha1 gk,⟨by simp,by simpa using gk⟩,?_⟩;conv=>whnf
      refine ⟨_,l2 _ _ (ha2 (Sl.lt ha1 gk)),?_⟩;conv=>whnf
      refine ⟨_,hel,?_⟩;conv=>whnf
      refine drawP hΘ mixed (lk [0,1,2,3,4,5,6] (.alt 7 .done .nil)) [6,7] (by kernel_rfl) ?_;conv=>whnf
      repeat' ((conv=>whnf); first
       |refine ⟨rfl,?_⟩
       |refine ⟨Fz.r _,rfl,?_⟩
       |refine ⟨Fz.r _,rfl,rfl,?_⟩
       |refine ⟨⟨by simp,by simp⟩,?_⟩
       |fail)
      conv=>whnf
      refine use (hdo c1 cp1) [(1,5),(2,3),(3,4)] rfl ⟨rfl,rfl,rfl,tv⟩ rfl (zg4 _ _ _) (by simp [SV.below,SA.below,fp,doC]) ⟨zep (μ:=sig [(1,5),(2,3),(3,4)]) (j:=2) (m:=3) rfl _ _,za4 (fun k=>rfl),zbr,tv⟩ ?_
      rintro out0 F0 h0 n1 hle ⟨rfl,rfl,rfl,c2,cp2,rfl⟩;conv=>whnf
      refine ⟨Fz.r _,rfl,rfl,?_⟩;conv=>whnf
      exact ⟨⟨(k + 1,stepS (1,ν) ⟨false,L,w,h,bits⟩,c2,cp2),by show k + 1 ≤ l.length; omega,hst.symm⟩,by show l.length - (k + 1) < l.length - k; omega,
       leRd [] hH hT rfl ⟨tv,zam (by omega) _ _ _,zau _ _ _,zb7 (by omega) _,tv⟩ ⟨cnt (by omega),tv⟩
       ⟨Fz.r _,zcj (fun k=>rfl) (fun k=>rfl) rfl,zfc rfl,zew (τ:=tau [(1,5),(2,3),(3,4)] 4 8) (μ:=sig []) (i:=2) (j:=3) (m:=3) rfl rfl _ _,tv⟩⟩
     ·conv=>whnf
      refine ⟨Sl.lt ha1 gk,⟨by simp,by simpa using gk⟩,?_⟩;conv=>whnf
      refine ⟨_,l2 _ _ (ha2 (Sl.lt ha1 gk)),?_⟩;conv=>whnf
      refine ⟨_,hel,?_⟩;conv=>whnf
      refine drawP hΘ mixed (lk [0,1,2,3,4,5,6] (.alt 7 .done .nil)) [6,7] (by kernel_rfl) ?_;conv=>whnf
      repeat' ((conv=>whnf); first
       |refine ⟨rfl,?_⟩
       |refine ⟨Fz.r _,rfl,?_⟩
       |refine ⟨Fz.r _,rfl,rfl,?_⟩
       |refine ⟨⟨by simp,by simp⟩,?_⟩
       |fail)
      conv=>whnf
      refine use (hdo c1 cp1) [(1,5),(2,3),(3,4)] rfl ⟨rfl,rfl,rfl,tv⟩ rfl (zg4 _ _ _) (by simp [SV.below,SA.below,fp,doC]) ⟨zep (μ:=sig [(1,5),(2,3),(3,4)]) (j:=2) (m:=3) rfl _ _,za4 (fun k=>rfl),zbr,tv⟩ ?_
      rintro out0 F0 h0 n1 hle ⟨rfl,rfl,rfl,c2,cp2,rfl⟩;conv=>whnf
      refine ⟨Fz.r _,rfl,rfl,?_⟩;conv=>whnf
      exact ⟨⟨(k + 1,stepS (2,ν) ⟨false,L,w,h,bits⟩,c2,cp2),by show k + 1 ≤ l.length; omega,hst.symm⟩,by show l.length - (k + 1) < l.length - k; omega,
       leRd [] hH hT rfl ⟨tv,zam (by omega) _ _ _,zau _ _ _,zb7 (by omega) _,tv⟩ ⟨cnt (by omega),tv⟩
       ⟨Fz.r _,zcj (fun k=>rfl) (fun k=>rfl) rfl,zfc rfl,zew (τ:=tau [(1,5),(2,3),(3,4)] 4 8) (μ:=sig []) (i:=2) (j:=3) (m:=3) rfl rfl _ _,tv⟩⟩
     ·conv=>whnf
      refine ⟨Sl.lt ha1 gk,⟨by simp,by simpa using gk⟩,?_⟩;conv=>whnf
      refine ⟨_,l2 _ _ (ha2 (Sl.lt ha1 gk)),?_⟩;conv=>whnf
      refine ⟨_,hel,?_⟩;conv=>whnf
      refine drawP hΘ mixed (lk [0,1,2,3,4,5,6] (.alt 7 .done .nil)) [6,7] (by kernel_rfl) ?_;conv=>whnf
      repeat' ((conv=>whnf); first
       |refine ⟨rfl,?_⟩
       |refine ⟨Fz.r _,rfl,?_⟩
       |refine ⟨Fz.r _,rfl,rfl,?_⟩
       |refine ⟨⟨by simp,by simp⟩,?_⟩
       |fail)
      conv=>whnf
      refine use (hdo c1 cp1) [(1,5),(2,3),(3,4)] rfl ⟨rfl,rfl,rfl,tv⟩ rfl (zg4 _ _ _) (by simp [SV.below,SA.below,fp,doC]) ⟨zep (μ:=sig [(1,5),(2,3),(3,4)]) (j:=2) (m:=3) rfl _ _,za4 (fun k=>rfl),zbr,tv⟩ ?_
      rintro out0 F0 h0 n1 hle ⟨rfl,rfl,rfl,c2,cp2,rfl⟩;conv=>whnf
      refine ⟨Fz.r _,rfl,rfl,?_⟩;conv=>whnf
      exact ⟨⟨(k + 1,stepS (3,ν) ⟨false,L,w,h,bits⟩,c2,cp2),by show k + 1 ≤ l.length; omega,hst.symm⟩,by show l.length - (k + 1) < l.length - k; omega,
       leRd [] hH hT rfl ⟨tv,zam (by omega) _ _ _,zau _ _ _,zb7 (by omega) _,tv⟩ ⟨cnt (by omega),tv⟩
       ⟨Fz.r _,zcj (fun k=>rfl) (fun k=>rfl) rfl,zfc rfl,zew (τ:=tau [(1,5),(2,3),(3,4)] 4 8) (μ:=sig []) (i:=2) (j:=3) (m:=3) rfl rfl _ _,tv⟩⟩
     ·conv=>whnf
      refine ⟨Sl.lt ha1 gk,⟨by simp,by simpa using gk⟩,?_⟩;conv=>whnf
      refine ⟨_,l2 _ _ (ha2 (Sl.lt ha1 gk)),?_⟩;conv=>whnf
      refine ⟨_,hel,?_⟩;conv=>whnf
      refine drawP hΘ mixed (lk [0,1,2,3,4,5,6] (.alt 7 .done .nil)) [6,7] (by kernel_rfl) ?_;conv=>whnf
      repeat' ((conv=>whnf); first
       |refine ⟨rfl,?_⟩
       |refine ⟨Fz.r _,rfl,?_⟩
       |refine ⟨Fz.r _,rfl,rfl,?_⟩
       |refine ⟨⟨by simp,by simp⟩,?_⟩
       |fail)
      conv=>whnf
      refine use (hdo c1 cp1) [(1,5),(2,3),(3,4)] rfl ⟨rfl,rfl,rfl,tv⟩ rfl (zg4 _ _ _) (by simp [SV.below,SA.below,fp,doC]) ⟨zep (μ:=sig [(1,5),(2,3),(3,4)]) (j:=2) (m:=3) rfl _ _,za4 (fun k=>rfl),zbr,tv⟩ ?_
      rintro out0 F0 h0 n1 hle ⟨rfl,rfl,rfl,c2,cp2,rfl⟩;conv=>whnf
      refine ⟨Fz.r _,rfl,rfl,?_⟩;conv=>whnf
      exact ⟨⟨(k + 1,stepS (4,ν) ⟨false,L,w,h,bits⟩,c2,cp2),by show k + 1 ≤ l.length; omega,hst.symm⟩,by show l.length - (k + 1) < l.length - k; omega,
       leRd [] hH hT rfl ⟨tv,zam (by omega) _ _ _,zau _ _ _,zb7 (by omega) _,tv⟩ ⟨cnt (by omega),tv⟩
       ⟨Fz.r _,zcj (fun k=>rfl) (fun k=>rfl) rfl,zfc rfl,zew (τ:=tau [(1,5),(2,3),(3,4)] 4 8) (μ:=sig []) (i:=2) (j:=3) (m:=3) rfl rfl _ _,tv⟩⟩
     ·conv=>whnf
      refine ⟨Sl.lt ha1 gk,⟨by simp,by simpa using gk⟩,?_⟩;conv=>whnf
      refine ⟨_,l2 _ _ (ha2 (Sl.lt ha1 gk)),?_⟩;conv=>whnf
      refine ⟨_,hel,?_⟩;conv=>whnf
      refine drawP hΘ mixed (lk [0,1,2,3,4,5,6] (.alt 7 .done .nil)) [6,7] (by kernel_rfl) ?_;conv=>whnf
      repeat' ((conv=>whnf); first
       |refine ⟨rfl,?_⟩
       |refine ⟨Fz.r _,rfl,?_⟩
       |refine ⟨Fz.r _,rfl,rfl,?_⟩
       |refine ⟨⟨by simp,by simp⟩,?_⟩
       |fail)
      conv=>whnf
      refine use (hdo c1 cp1) [(1,5),(2,3),(3,4)] rfl ⟨rfl,rfl,tv⟩ rfl (zg4 _ _ _) (by simp [SV.below,SA.below,fp,doC]) ⟨zep (μ:=sig [(1,5),(2,3),(3,4)]) (j:=2) (m:=3) rfl _ _,za4 (fun k=>rfl),zbr,tv⟩ ?_
      rintro out0 F0 h0 n1 hle ⟨rfl,rfl,rfl,c2,cp2,rfl⟩;conv=>whnf
      refine ⟨Fz.r _,rfl,rfl,?_⟩;conv=>whnf
      exact ⟨⟨(k + 1,stepS (5,ν) ⟨false,L,w,h,bits⟩,c2,cp2),by show k + 1 ≤ l.length; omega,hst.symm⟩,by show l.length - (k + 1) < l.length - k; omega,
       leRd [] hH hT rfl ⟨tv,zam (by omega) _ _ _,zau _ _ _,zb7 (by omega) _,tv⟩ ⟨cnt (by omega),tv⟩
       ⟨Fz.r _,zcj (fun k=>rfl) (fun k=>rfl) rfl,tv,zew (τ:=tau [(1,5),(2,3),(3,4)] 4 8) (μ:=sig []) (i:=2) (j:=3) (m:=3) rfl rfl _ _,tv⟩⟩
     ·conv=>whnf
      refine ⟨Sl.lt ha1 gk,⟨by simp,by simpa using gk⟩,?_⟩;conv=>whnf
      refine ⟨_,l2 _ _ (ha2 (Sl.lt ha1 gk)),?_⟩;conv=>whnf
      refine ⟨_,hel,?_⟩;conv=>whnf
      refine drawP hΘ mixed (lk [0,1,2,3,4,5,6] (.alt 7 .done .nil)) [6,7] (by kernel_rfl) ?_;conv=>whnf
      repeat' ((conv=>whnf); first
       |refine ⟨rfl,?_⟩
       |refine ⟨Fz.r _,rfl,?_⟩
       |refine ⟨Fz.r _,rfl,rfl,?_⟩
       |refine ⟨⟨by simp,by simp⟩,?_⟩
       |fail)
      conv=>whnf
      refine use (hdo c1 cp1) [(1,5),(2,3),(3,4)] rfl ⟨rfl,rfl,tv⟩ rfl (zg4 _ _ _) (by simp [SV.below,SA.below,fp,doC]) ⟨zep (μ:=sig [(1,5),(2,3),(3,4)]) (j:=2) (m:=3) rfl _ _,za4 (fun k=>rfl),zbr,tv⟩ ?_
      rintro out0 F0 h0 n1 hle ⟨rfl,rfl,rfl,c2,cp2,rfl⟩;conv=>whnf
      refine ⟨Fz.r _,rfl,rfl,?_⟩;conv=>whnf
      exact ⟨⟨(k + 1,stepS (6,ν) ⟨false,L,w,h,bits⟩,c2,cp2),by show k + 1 ≤ l.length; omega,hst.symm⟩,by show l.length - (k + 1) < l.length - k; omega,
       leRd [] hH hT rfl ⟨tv,zam (by omega) _ _ _,zau _ _ _,zb7 (by omega) _,tv⟩ ⟨cnt (by omega),tv⟩
       ⟨Fz.r _,zcj (fun k=>rfl) (fun k=>rfl) rfl,tv,zew (τ:=tau [(1,5),(2,3),(3,4)] 4 8) (μ:=sig []) (i:=2) (j:=3) (m:=3) rfl rfl _ _,tv⟩⟩
    ·replace hst:runS (l.take (k + 1)) v = ⟨true,L,w,h,bits⟩:=hst
     conv=>whnf
     refine ⟨Sl.lt ha1 gk,⟨by simp,by simpa using gk⟩,?_⟩;conv=>whnf
     refine ⟨_,l2 _ _ (ha2 (Sl.lt ha1 gk)),?_⟩;conv=>whnf
     refine ⟨_,hel,?_⟩;conv=>whnf
     exact ⟨⟨(k + 1,⟨true,L,w,h,bits⟩,c1,cp1),by show k + 1 ≤ l.length; omega,hst.symm⟩,by show l.length - (k + 1) < l.length - k; omega,
      leRd [] hH hT rfl ⟨tv,zam (by omega) _ _ _,zau _ _ _,zb7 (by omega) _,tv⟩ ⟨cnt (by omega),tv⟩
      ⟨Fz.r _,za4 (fun k=>rfl),zbr,zep (μ:=sig []) (j:=3) (m:=3) rfl _ _,tv⟩⟩
   ·have gk:k = l.length:=by
     have h0:¬ (k:Int) < (l.length:Int):=oe gb
     omega
    clear gb
    have hvk:VOK p u:=by
     rw [hu]; exact zph hpl.1 _ _ (fun s hs=>hpl.2.2 s (jv hs)) (zsb hrd).2
    have hap:zde p l s = (zbh p u,0):=by
     rw [zde,if_pos hv,hrd,hu,gk,yr]
    have hwr:=zx6 pfun F1 u c1 cp1 p (zwr hpl.1 hvk) hpl.1.2
    conv=>whnf
    refine use hwr [(1,3),(2,4)] rfl ⟨congrArg SV.agg (z07 (i:=1) (j:=3) (m:=3) ?_ ?_ u c1),rfl,tv⟩ rfl (zv7 _ _ _) (zl0 _ _ _) ⟨za4 (fun k=>rfl),zbr,tv⟩ ?_
    ·rfl
    ·rfl
    rintro out0 F0 h0 n1 hle ⟨rfl,rfl,rfl⟩;conv=>whnf
    refine ⟨rfl,zqp 1 2 ?_⟩;conv=>whnf
    exact fin _ 0 F0 _ _ hap rfl (Fz.t l2 hle)
 ·conv=>whnf
  refine ⟨rfl,zjy 1 2 [] 0 rfl rfl (by decide) ?_⟩;conv=>whnf
  exact fin [] 70 F _ _ (by rw [zde,if_neg (by rw [hv]; simp)]) rfl (Fz.r F)
end Go.Proofs.YtfnkamphhpldcaaGreatDoor
namespace Sx
open Go Go.RowKit
section
variable {P:Program} {Θ:Tys} {st:St} {Q:SE → St → Prop} {body:Code}
@[irreducible] def SR (P:Program) (body:Code) (Q:SE → St → Prop) (n:Nat) (st:St):Prop:=
 ∀ (C:Ctx) (ρ:Rho) (a:Act) (w:World),Den C ρ st a w → Code.rounds P body (Up C Q) n a w
theorem sr_go (hΘ:Θ.Ok P) {n:Nat} (h:sx P Θ body st fun e st'=>(match e with
  |.normal=>SR P body Q n st'
  |.ret=>Q .ret st'
  |.exit id=>Q (.exit id) st'
  |.panic v=>Q (.panic v) st')):SR P body Q (n + 1) st:=by
 unfold SR
 intro C ρ a w D
 have h1:=zci hΘ body st _ h
 unfold WP at h1
 refine wp_mono (h1 C ρ a w D) ?_
 rintro e a' w' ⟨se,st',ρ',hq,rfl,D'⟩
 cases se with
 |normal=>
  dsimp only at hq
  unfold SR at hq
  exact hq C ρ' a' w' D'
 |ret=>exact ⟨.ret,st',ρ',hq,rfl,D'⟩
 |exit id=>exact ⟨.exit id,st',ρ',hq,rfl,D'⟩
 |panic v=>exact ⟨.panic v,st',ρ',hq,rfl,D'⟩
theorem zeo (hΘ:Θ.Ok P) (n:Nat) (h:sx P Θ body st fun e st'=>(match e with
  |.normal=>SR P body Q n st'
  |.ret=>Q .ret st'
  |.exit id=>Q (.exit id) st'
  |.panic v=>Q (.panic v) st')):WP P (.loop body) st Q:=by
 have h2:=sr_go hΘ h
 unfold SR at h2
 unfold WP
 intro C ρ a w D
 exact wp_loop_rounds (n + 1) (h2 C ρ a w D)
end
end Sx
namespace Sx
open Go
theorem Sat.reshape {C:Ctx} {ρ:Rho} {h:Hp} {nx:Nat} {w:World} (s:Sat C ρ h nx w) {i:Nat} {b b':SB} (he:lget h i = some (.one b)) (hok:∀ ρ o,b.ok ρ o → b'.ok ρ o) (hbl:b.below nx → b'.below nx):Sat C ρ (lput h i (.one b')) nx w:=by
 obtain ⟨o,ho,hk⟩:=s.blk i _ he 0 rfl
 exact s.upd 0 he rfl rfl rfl (fun k'=>Iff.rfl) o (fun k' hk' h=>absurd h hk') (hok _ _ hk) (hbl (s.wf i _ he 0 rfl)) rfl rfl rfl rfl ho (fun _ _=>rfl)
section
variable {P:Program} {h:Hp} {nx:Nat}
theorem zvh {c:Code} {st:St} {Q:SE → St → Prop} (i:Nat) (b':SB) {b:SB} (he:lget st.h i = some (.one b)) (hok:∀ ρ o,b.ok ρ o → b'.ok ρ o) (hbl:∀ n,b.below n → b'.below n)
  (hk:WP P c { st with h:=lput st.h i (.one b') } Q):WP P c st Q:=by
 unfold WP at *
 intro C ρ a w D
 exact hk C ρ a w { sat:=D.sat.reshape he hok (hbl st.nx),nt:=D.nt,tm:=D.tm,tw:=D.tw,n0:=D.n0,df:=D.df,dw:=D.dw }
end
abbrev sing (l:List SA):List (List SA):=l.map fun a=>[a]
theorem zuh (l:List SA):(sing l).flatten = l:=by
 induction l with
 |nil=>rfl
 |cons a r ih=>simpa [sing] using ih
theorem zmm {t:TypeId} {l:List SA} {L:List (List SA)} {n:Nat} (hL:L = sing l) (hn:n = l.length):∀ ρ o,(SB.cells t l).ok ρ o → (SB.arr t 1 L n).ok ρ o:=by
 subst hL hn
 intro ρ o h
 refine ⟨fun x hx=>?_,by simp,[],by simp,?_⟩
 ·obtain ⟨a,_,rfl⟩:=q9.1 hx
  rfl
 ·rw [zuh,jw]; exact h
theorem zg3 {t:TypeId} {l:List SA} {L:List (List SA)} {m:Nat} (hL:L = sing l):∀ n,(SB.cells t l).below n → (SB.arr t 1 L m).below n:=by
 subst hL
 intro n h x hx a ha
 obtain ⟨y,hy,rfl⟩:=q9.1 hx
 rcases qy.1 ha with rfl
 exact h _ hy
end Sx
namespace Go.Proofs.YtfnkamphhpldcaaGreatDoor
open Go Sx
set_option maxRecDepth 100000
def rot (x n:Nat):Nat:=x * 2 ^ (32 - n) % 4294967296 ||| x / 2 ^ n
def mix (x:Nat):List Nat → Nat → Nat
 |[],o=>o
 |n :: r,o=>mix x r (o ^^^ rot x n)
def konst:List Nat:=[
 0x428a2f98,0x71374491,0xb5c0fbcf,0xe9b5dba5,0x3956c25b,0x59f111f1,0x923f82a4,0xab1c5ed5,
 0xd807aa98,0x12835b01,0x243185be,0x550c7dc3,0x72be5d74,0x80deb1fe,0x9bdc06a7,0xc19bf174,
 0xe49b69c1,0xefbe4786,0x0fc19dc6,0x240ca1cc,0x2de92c6f,0x4a7484aa,0x5cb0a9dc,0x76f988da,
 0x983e5152,0xa831c66d,0xb00327c8,0xbf597fc7,0xc6e00bf3,0xd5a79147,0x06ca6351,0x14292967,
 0x27b70a85,0x2e1b2138,0x4d2c6dfc,0x53380d13,0x650a7354,0x766a0abb,0x81c2c92e,0x92722c85,
 0xa2bfe8a1,0xa81a664b,0xc24b8b70,0xc76c51a3,0xd192e819,0xd6990624,0xf40e3585,0x106aa070,
 0x19a4c116,0x1e376c08,0x2748774c,0x34b0bcb5,0x391c0cb3,0x4ed8aa4a,0x5b9cca4f,0x682e6ff3,
 0x748f82ee,0x78a5636f,0x84c87814,0x8cc70208,0x90befffa,0xa4506ceb,0xbef9a3f7,0xc67178f2]
def at0 (w:List Nat) (i:Nat):Nat:=w[i]?.getD 0
def nxt (w:List Nat):Nat:=
 (at0 w (w.length - 16) + (mix (at0 w (w.length - 15)) [7,18] 0 ^^^ at0 w (w.length - 15) / 8) + at0 w (w.length - 7) + (mix (at0 w (w.length - 2)) [17,19] 0 ^^^ at0 w (w.length - 2) / 1024)) % 4294967296
def grow:Nat → List Nat → List Nat
 |0,w=>w
 |n + 1,w=>grow n (w ++ [nxt w])
def word (b:List UInt8) (i:Nat):Nat:=(b[4 * i]?.getD 0).toNat * 16777216 + (b[4 * i + 1]?.getD 0).toNat * 65536 + (b[4 * i + 2]?.getD 0).toNat * 256 + (b[4 * i + 3]?.getD 0).toNat
def sched (b:List UInt8):List Nat:=grow 48 ((List.range 16).map (word b))
structure W8 where
 a:Nat
 b:Nat
 c:Nat
 d:Nat
 e:Nat
 f:Nat
 g:Nat
 h:Nat
def step8 (k w:Nat) (v:W8):W8:=
 let t:=(v.h + mix v.e [6,11,25] 0 + ((v.e &&& v.f) ^^^ ((4294967295 - v.e) &&& v.g)) + k + w) % 4294967296
 let u:=(mix v.a [2,13,22] 0 + ((v.a &&& v.b) ^^^ (v.a &&& v.c) ^^^ (v.b &&& v.c))) % 4294967296
 ⟨(t + u) % 4294967296,v.a,v.b,v.c,(v.d + t) % 4294967296,v.e,v.f,v.g⟩
def zf2 (l:List (Nat × Nat)) (v:W8):W8:=l.foldl (fun v x=>step8 x.1 x.2 v) v
def add8 (v u:W8):W8:=⟨(v.a + u.a) % 4294967296,(v.b + u.b) % 4294967296,(v.c + u.c) % 4294967296,(v.d + u.d) % 4294967296,(v.e + u.e) % 4294967296,(v.f + u.f) % 4294967296,(v.g + u.g) % 4294967296,(v.h + u.h) % 4294967296⟩
def zg5 (b:List UInt8) (v:W8):W8:=add8 v (zf2 (konst.zip (sched b)) v)
def init8:W8:=⟨0x6a09e667,0xbb67ae85,0x3c6ef372,0xa54ff53a,0x510e527f,0x9b05688c,0x1f83d9ab,0x5be0cd19⟩
def be4 (n:Nat):List UInt8:=[UInt8.ofNat (n / 16777216),UInt8.ofNat (n / 65536),UInt8.ofNat (n / 256),UInt8.ofNat n]
def zf9 (v:W8):List UInt8:=be4 v.a ++ be4 v.b ++ be4 v.c ++ be4 v.d ++ be4 v.e ++ be4 v.f ++ be4 v.g ++ be4 v.h
def padZ (n:Nat):Nat:=(119 - n % 64) % 64
def len8 (n:Nat):List UInt8:=[UInt8.ofNat (8 * n / 72057594037927936),UInt8.ofNat (8 * n / 281474976710656),UInt8.ofNat (8 * n / 1099511627776),UInt8.ofNat (8 * n / 4294967296),UInt8.ofNat (8 * n / 16777216),UInt8.ofNat (8 * n / 65536),UInt8.ofNat (8 * n / 256),UInt8.ofNat (8 * n)]
def padded (s:List UInt8):List UInt8:=s ++ [128] ++ List.replicate (padZ s.length) 0 ++ len8 s.length
def zbf (n:Nat) (b:List UInt8) (v:W8):W8:=(List.range n).foldl (fun v k=>zg5 ((b.drop (64 * k)).take 64) v) v
def sumS (s:List UInt8):List UInt8:=zf9 (zbf ((padded s).length / 64) (padded s) init8)
def leafS (s:List UInt8):List UInt8:=sumS (0 :: s)
def nodeS (a b:List UInt8):List UInt8:=sumS (1 :: (a ++ b))
theorem zs9 (v:W8):(zf9 v).length = 32:=rfl
def root8 (l:List (List UInt8)):List UInt8:=
 let x (i:Nat):=leafS (l[i]?.getD [])
 nodeS (nodeS (nodeS (x 0) (x 1)) (nodeS (x 2) (x 3))) (nodeS (nodeS (x 4) (x 5)) (nodeS (x 6) (x 7)))
theorem ze5 (l:List (List UInt8)):(root8 l).length = 32:=rfl
theorem w32 (n:Int):IntKind.u32.wrap n = n % 4294967296:=by simp [IntKind.wrap,IntKind.bits,IntKind.signed]
theorem w32n (n:Nat):IntKind.u32.wrap (n:Int) = ((n % 4294967296:Nat):Int):=by rw [w32]; omega
theorem ofI32 {a:Nat} (h:a < 4294967296):(BitVec.ofInt 32 (a:Int)).toNat = a:=by
 rw [BitVec.ofInt_natCast,BitVec.toNat_ofNat]; omega
theorem xor32 {a b:Nat} (ha:a < 4294967296) (hb:b < 4294967296):bXor .u32 (a:Int) (b:Int) = ((a ^^^ b:Nat):Int):=by
 have h:a ^^^ b < 2 ^ 32:=qcc ha hb
 show IntKind.u32.wrap (((BitVec.ofInt 32 (a:Int) ^^^ BitVec.ofInt 32 (b:Int)).toNat:Nat):Int) = _
 rw [BitVec.toNat_xor,ofI32 ha,ofI32 hb,w32n,jo h]
theorem and32 {a b:Nat} (ha:a < 4294967296) (hb:b < 4294967296):bAnd .u32 (a:Int) (b:Int) = ((a &&& b:Nat):Int):=by
 have h:a &&& b < 2 ^ 32:=Nat.and_lt_two_pow _ hb
 show IntKind.u32.wrap (((BitVec.ofInt 32 (a:Int) &&& BitVec.ofInt 32 (b:Int)).toNat:Nat):Int) = _
 rw [BitVec.toNat_and,ofI32 ha,ofI32 hb,w32n,jo h]
theorem or32 {a b:Nat} (ha:a < 4294967296) (hb:b < 4294967296):bOr .u32 (a:Int) (b:Int) = ((a ||| b:Nat):Int):=by
 have h:a ||| b < 2 ^ 32:=Nat.or_lt_two_pow ha hb
 show IntKind.u32.wrap (((BitVec.ofInt 32 (a:Int) ||| BitVec.ofInt 32 (b:Int)).toNat:Nat):Int) = _
 rw [BitVec.toNat_or,ofI32 ha,ofI32 hb,w32n,jo h]
theorem not32 {a:Nat} (ha:a < 4294967296):bXor .u32 4294967295 (a:Int) = ((4294967295 - a:Nat):Int):=by
 rw [show (4294967295:Int) = ((4294967295:Nat):Int) from rfl,xor32 (by omega) ha]
 congr 1
 have h:=BitVec.toNat_not (x:=BitVec.ofNat 32 a)
 rw [BitVec.not_def,BitVec.toNat_xor,BitVec.toNat_allOnes,BitVec.toNat_ofNat,jo ha] at h
 exact h
theorem shl32 (a n:Nat) (h:n ≤ 32):shlI .u32 (a:Int) (n:Int) = ((a * 2 ^ n % 4294967296:Nat):Int):=by
 unfold shlI
 rw [ql,show IntKind.u32.bits = 32 from rfl,qag h,← w32n]
 congr 1
theorem shr32 (a n:Nat) (h:n ≤ 32):shrI .u32 (a:Int) (n:Int) = ((a / 2 ^ n:Nat):Int):=by
 unfold shrI
 rw [ql,show IntKind.u32.bits = 32 from rfl,qag h,qam _ (by have:=qc8 (n:=2) (m:=n) (by omega); omega)]
 push_cast; rfl
theorem z2h (x n:Nat) (h:x < 4294967296):rot x n < 4294967296:=Nat.or_lt_two_pow (n:=32) (qat _ (by omega)) (yg (qbj _ _) h)
theorem zsa (x:Nat) (h:x < 4294967296):∀ (l:List Nat) (o:Nat),o < 4294967296 → mix x l o < 4294967296
 |[],_,ho=>ho
 |n :: r,o,ho=>zsa x h r _ (qcc (n:=32) ho (z2h x n h))
theorem sAmt:∀ n:Fin 32,n.val = 0 ∨ (bAnd .u64 (IntKind.u64.wrap (IntKind.i64.wrap (0 - (n.val:Int)))) 31 = ((32 - n.val:Nat):Int) ∧ IntKind.u64.wrap (32 - ((32 - n.val:Nat):Int)) = (n.val:Int)):=by decide +kernel
theorem rotI {x n:Nat} (hx:x < 4294967296) (h0:1 ≤ n) (h1:n < 32):bOr .u32 (shlI .u32 (x:Int) (bAnd .u64 (IntKind.u64.wrap (IntKind.i64.wrap (0 - (n:Int)))) 31)) (shrI .u32 (x:Int) (IntKind.u64.wrap (32 - bAnd .u64 (IntKind.u64.wrap (IntKind.i64.wrap (0 - (n:Int)))) 31))) = ((rot x n:Nat):Int):=by
 obtain ⟨e1,e2⟩:=(sAmt ⟨n,h1⟩).resolve_left (by simp; omega)
 simp only at e1 e2
 rw [e1,e2,shl32 x _ (by omega),shr32 x n (by omega),or32 (qat _ (by omega)) (yg (qbj _ _) hx)]
 rfl
def mixH (l:List Nat):List (Nat × Ent):=[(1,.one (.arr 3 1 ((l.map fun n:Nat=>(n:Int)).map encI) l.length))]
abbrev wd (n:Nat):SA:=.int .u32 (n:Int)
theorem zq4 (x:Nat):∀ (l:List Nat) (n o:Nat),mix x (l ++ [n]) o = mix x l o ^^^ rot x n
 |[],_,_=>rfl
 |_ :: r,n,o=>zq4 x r n _
theorem rotS {n:Nat} (h0:1 ≤ n) (h1:n < 32):0 ≤ bAnd .u64 (IntKind.u64.wrap (IntKind.i64.wrap (0 - (n:Int)))) 31 ∧ 0 ≤ IntKind.u64.wrap (32 - bAnd .u64 (IntKind.u64.wrap (IntKind.i64.wrap (0 - (n:Int)))) 31):=by
 obtain ⟨e1,e2⟩:=(sAmt ⟨n,h1⟩).resolve_left (by simp; omega)
 simp only at e1 e2
 rw [e1,e2]; omega
theorem eu {k:IntKind} {a b:Int} (h:a = b):SA.int k a = SA.int k b:=by rw [h]
theorem z6a (F:Fz) (x n:Nat) (hx:x < 4294967296) (h0:1 ≤ n) (h1:n < 32):Fo Tryz.prog F 258 [.va (wd x),.va (.int .i64 (IntKind.i64.wrap (0 - (n:Int))))] (fun o F'=>o = .ret (.va (wd (rot x n))) ∧ F' = F):=by
 have e:=rotI hx h0 h1
 have s:=rotS h0 h1
 refine fo_of hΘ Tryz.func258 rfl (by decide) _ _ rfl rfl rfl ?_;conv=>whnf
 refine ⟨s.1,?_⟩;conv=>whnf
 refine ⟨s.2,?_⟩;conv=>whnf
 exact endPu rfl (Fz.r F) (eu e.symm) rfl
theorem zyp (F:Fz) (x:Nat) (l:List Nat) (hx:x < 4294967296) (hl:∀ n ∈ l,1 ≤ n ∧ n < 32) (hn:l.length < 1000) :
  Ct Tryz.prog 231 [.va (wd x),.va (.slice false 1 0 0 1 l.length l.length)] F (mixH l) 2 (fun o F' h n=>o = .ret (.va (wd (mix x l 0))) ∧ F' = F ∧ h = [(1,.gone)] ∧ n = 2):=by
 refine ct_of hΘ Tryz.func231 rfl (by decide) _ _ rfl rfl rfl ?_;conv=>whnf
 refine zan hΘ (X:={ k:Nat // k ≤ l.length }) (fun k=>[(5,.va (wd (mix x (l.take k.1) 0))),(10,.va (.int .i64 k.1))]) [7,11,12,13,14,15,16,17,18,19,20] (fun _=>[(0,.frz F),(1,.one (.arr 3 1 ((l.map fun n:Nat=>(n:Int)).map encI) l.length))]) 2 (fun k=>l.length - k.1) ⟨0,by simp⟩
  (fun hH hT=>leI [] hH hT rfl ⟨tv,za8 2 (l.map fun n:Nat=>(n:Int)) l.length,tv⟩ ⟨rfl,rfl,tv⟩ ⟨Fz.r F,(zbu _ _ _).symm,tv⟩) ?_
 rintro ⟨k,hk⟩ hH hT
 by_cases g:k < l.length
 ·have hk1:=hl l[k] (jj g)
  have hxm:=zsa x hx (l.take k) 0 (by decide)
  have hnew:bXor .u32 (mix x (l.take k) 0:Nat) (rot x l[k]:Nat) = ((mix x (l.take (k + 1)) 0:Nat):Int):=by
   rw [xor32 hxm (z2h x _ hx),qi g,zq4]
  conv=>whnf
  refine br (fun _=>?_) (fun h=>absurd h (by simp; omega));conv=>whnf
  refine ⟨rfl,⟨by simp,by simpa using g⟩,?_⟩;conv=>whnf
  refine ⟨[.int .i64 ((l[k]:Nat):Int)],by simp [encI,qc g],?_⟩;conv=>whnf
  refine usePu (z6a F x l[k] hx hk1.1 hk1.2) rfl (zaa _) rfl ?_;conv=>whnf
  conv=>whnf
  exact ⟨⟨k + 1,by omega⟩,by show l.length - (k + 1) < l.length - k; omega,leR [] hH hT rfl ⟨tv,za8 2 (l.map fun n:Nat=>(n:Int)) l.length,tv⟩ ⟨eu hnew.symm,cnt (by omega),tv⟩ ⟨Fz.r F,(zbu _ _ _).symm,tv⟩⟩
 ·have hd:mix x l 0 = mix x (l.take k) 0:=by rw [qm (by omega)]
  conv=>whnf
  refine br (fun h=>absurd h (by simp; omega)) (fun _=>?_);conv=>whnf
  refine clean [] (.ret (.va (wd (mix x l 0)))) F [(1,.gone)] 2 ⟨Fz.r F,rfl,rfl,rfl,rfl⟩ (eu (by rw [hd])) rfl rfl trivial ⟨tv,tv⟩ ⟨Fz.r F,tv⟩
theorem mixU {F:Fz} {x:Nat} (l:List Nat) (hx:x < 4294967296) (hl:∀ n ∈ l,1 ≤ n ∧ n < 32) (hn:l.length < 1000) {H:Hp} {NX:Nat} {K:Out → Hp → Nat → Prop} (i:Nat) (hF:lget H 0 = some (.frz F))
  (hi:lget H i = some (.one (.arr 3 1 ((l.map fun n:Nat=>(n:Int)).map encI) l.length))) (hchk:chkU [(1,.to i)] (mixH l) 2 NX = true)
  (hk:K (.ret (.va (wd (mix x l 0)))) (lput (lput H i .gone) 0 (.frz F)) NX):za6 Tryz.prog 231 [.va (wd x),.va (.slice false i 0 0 1 l.length l.length)] H NX K:=by
 refine use (zyp F x l hx hl hn) [(1,.to i)] hF ⟨rfl,⟨rfl,rfl,rfl,.inr ⟨?_,?_,rfl,rfl⟩⟩,tv⟩ hchk ⟨za8 2 (l.map fun n:Nat=>(n:Int)) l.length,tv⟩ (by simp [SV.below,SA.below]) ⟨?_,tv⟩ ?_
 ·show i = (resP H i 0).1
  simp [resP,hi]
 ·show 0 = (resP H i 0).2
  simp [resP,hi]
 ·show subE (lget H i) (.one ((SB.arr 3 1 ((l.map fun n:Nat=>(n:Int)).map encI) l.length).ren _))
  rw [hi]; exact (zbu _ _ _).symm
 ·rintro _ _ _ _ _ ⟨rfl,rfl,rfl,rfl⟩
  exact hk
end Go.Proofs.YtfnkamphhpldcaaGreatDoor
