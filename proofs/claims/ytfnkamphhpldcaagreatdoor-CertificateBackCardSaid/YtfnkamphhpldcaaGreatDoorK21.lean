import Derived.Test.YtfnkamphhpldcaaGreatDoorK20
set_option maxHeartbeats 64000000
namespace Go.Proofs.YtfnkamphhpldcaaGreatDoor
open Go Sx
set_option maxRecDepth 100000
theorem zaw:Plain encI:=fun x=>⟨fun _=>rfl,fun a ha=>by simp only [encI,qy] at ha; subst ha; trivial⟩
def badC (b:UInt8):Bool:=!(decide (32 ≤ b.toNat) && decide (b.toNat ≤ 126))
def CFun:Prop:=∀ (F:Fz) (s:List UInt8),s.length ≤ 70000 → Fo Tryz.prog F 241 [.va (.str s),.va (.fn (.func 242) [])] (fun o F'=>o = .ret (.va (.bool (s.any badC))) ∧ F' = F)
def numsS (s:List UInt8) (p:Int):Nat → List Int → Int → Option (List Int × Int)
 |0,acc,q=>some (acc,q)
 |f + 1,acc,q=>if zb1 s q (bnd p acc).1 (bnd p acc).2 = true then numsS s p f (acc ++ [(getI s q).1]) (getI s q).2.1 else none
abbrev Ln:=List UInt8 × List Int
def lineS (s:List UInt8) (p:Int) (before:List Ln) (q:Int):Option (Ln × Int):=
 if p = 1 then
  if (getS s q).2.2 = 0 ∧ (getS s q).1.length ≤ 80 ∧ (getS s q).1.any badC = false then some (((getS s q).1,[]),(getS s q).2.1) else none
 else match numsS s p (cols p) [] q with
  |none=>none
  |some (n,q')=>if p = 2 then some (([],n),q') else match before.getLast? with
   |none=>some (([],n),q')
   |some x=>if cmpL (x.2.take 2) (n.take 2) < 0 then some (([],n),q') else none
def capN:SA → Nat
 |.slice _ _ _ _ _ _ cap=>cap
 |_=>0
abbrev zva (F:Fz) (sl:SA) (ls:List Ln):Prop:=SlR F 259 2 (fun y x=>∃ a,y = [.str x.1,a] ∧ (x.2 = [] ∨ zd7 F a x.2 ∧ x.2.length ≤ capN a)) sl ls
theorem take2 {F:Fz} {b e e' cap r:Nat} {L:List (List SA)} {l:List Int} (hF:F b = some (.arr 3 1 L r)) (h1:e + l.length ≤ L.length) (h2:(L.drop e).take l.length = l.map encI) (hl:2 ≤ l.length) (he:e' = e) :
  zd7 F (.slice false 0 b e' 1 2 cap) (l.take 2):=by
 subst he
 have h3:(l.take 2).length = 2:=by rw [qn]; omega
 refine ⟨false,b,e',cap,L,r,by rw [h3],fun h=>(nomatch h),fun _=>hF,by rw [h3]; omega,?_⟩
 rw [h3,qck,← h2,qc1,qag hl]
def lineE (c:Nat) (t:List UInt8) (n:List Int):Ent:=.one (.cells 259 [.str t,gA 1 4 c n])
theorem zgt {m:Nat} (h:4 < m) (c:Nat) (t:List UInt8) (n:List Int):(lineE c t n).below m:=by
 intro a ha
 simp only [qj,qq,or_false] at ha
 rcases ha with rfl | rfl
 ·trivial
 ·cases n with
  |nil=>trivial
  |cons x r=>exact .inr h
theorem zox {μ:Mu} {j:Nat} (h:μ 4 0 = (j,0)) (c n:Nat) (t:List UInt8) (l:List Int) (x:Int) (hn:n = l.length + 1):SB.cells 259 [.str t,.slice false j 0 0 1 n c] = SB.ren μ (.cells 259 [.str t,gA 1 4 c (l ++ [x])]):=by
 subst hn
 cases l with
 |nil=>simp only [gA,qu,SB.ren,qx,ym,SA.ren,h,qp]
 |cons y r=>simp only [gA,jt,SB.ren,qx,ym,SA.ren,h]; simp
theorem zeq {s:List UInt8} {q lo hi:Int} (h:zb1 s q lo hi = true):(getI s q).2.2 = 0:=by
 simp only [zb1,qd,decide_eq_true_eq] at h; exact h.1
theorem zqj (hCF:CFun) (F:Fz) (s:List UInt8) (p q:Int) (sl:SA) (before:List Ln) (hl:zva F sl before) (hs:s.length ≤ 1000000000000000000) (hp:1 ≤ p ∧ p ≤ 5) (hq:i64 q) (hbl:before.length < 1000000)
  (hbn:p ≠ 1 ∧ p ≠ 2 → ∀ x ∈ before,2 ≤ x.2.length) :
  Ct Tryz.prog 185 [.va (.ptr ⟨1,0,0,0,0⟩),.va (.int .i64 p),.va sl] F [(1,rdr s q)] 2
   (fun o F0 h0 n0=>F = F0 ∧ match lineS s p before q with
    |some (x,q')=>∃ c,x.2.length ≤ c ∧ n0 = 3 ∧ o = .ret (.agg [.str x.1,gA 1 2 c x.2]) ∧ h0 = [(1,rdr s q'),(2,gE 3 1 encI c x.2)]
    |none=>∃ q',n0 = 2 ∧ o = .panic perr ∧ h0 = [(1,rdr s q')]):=by
 obtain ⟨bn,bb,be,bc,bL,brr,rfl,b1,b2,b3,b4⟩:=hl
 have htx:=zsp F s q hs hq
 obtain ⟨t,x,e,hg⟩:∃ t x e,getS s q = (t,x,e):=⟨_,_,_,rfl⟩
 rw [hg] at htx
 refine ct_of hΘ Tryz.func185 rfl (by decide) _ _ rfl rfl rfl ?_;conv=>whnf
 refine br (fun g=>?_) (fun g=>?_)
 ·have g1:p = 1:=od g
  have hL:lineS s p before q = if (getS s q).2.2 = 0 ∧ (getS s q).1.length ≤ 80 ∧ (getS s q).1.any badC = false then some (((getS s q).1,[]),(getS s q).2.1) else none:=by rw [lineS,if_pos g1]
  rw [hg] at hL
  replace hL:lineS s p before q = if e = 0 ∧ t.length ≤ 80 ∧ t.any badC = false then some ((t,[]),x) else none:=hL
  conv=>whnf
  refine use htx [(1,1)] rfl ⟨rfl,tv⟩ rfl ⟨za2 _ _,tv⟩ (by simp [SV.below,SA.below]) ⟨rfl,tv⟩ ?_
  rintro out0 F0 h0 n0 hle ⟨rfl,rfl,hcase⟩
  by_cases he:e = 0
  ·rw [if_pos he] at hcase
   obtain ⟨ho,hh⟩:=hcase
   subst ho; subst hh
   conv=>whnf
   refine ⟨fun g80=>?_,fun g80=>?_⟩
   ·have l80:t.length ≤ 80:=by have h0:(t.length:Int) ≤ 80:=od g80; omega
    conv=>whnf
    refine usePu (hCF F t (by omega)) rfl (zaa _) rfl ?_;conv=>whnf
    refine useFo (zcb F (!t.any badC)) rfl ⟨rfl,tv⟩ rfl ?_
    rintro _ _ l1 ⟨rfl,⟨hb,rfl⟩ | ⟨hb,rfl⟩⟩
    ·conv=>whnf
     refine clean [(2,99)] (.ret (.agg [.str t,.nilsl])) F [(1,rdr s x),(2,gE 3 1 encI 0 [])] 3 ⟨Fz.r F,rfl,?_⟩ rfl rfl rfl (Out.bB_ok (o:=.ret (.agg [.str t,.nilsl])) rfl) ⟨za2 s _,zai zaw _ _ _ _ _,tv⟩ ⟨Fz.r F,rfl,rfl,tv⟩
     rw [hL,if_pos ⟨he,l80,by simpa using hb⟩]; exact ⟨0,qf 0,rfl,rfl,rfl⟩
    ·conv=>whnf
     refine clean [] (.panic perr) F [(1,rdr s x)] 2 ⟨Fz.r F,rfl,?_⟩ rfl rfl rfl trivial ⟨za2 s _,tv⟩ ⟨Fz.r F,rfl,tv⟩
     rw [hL,if_neg (by simp at hb; simp [hb])]; exact ⟨x,rfl,rfl,rfl⟩
   ·have l80:¬ t.length ≤ 80:=by have h0:¬ (t.length:Int) ≤ 80:=oe g80; omega
    conv=>whnf
    refine useFo (zcb F false) rfl ⟨rfl,tv⟩ rfl ?_
    rintro _ _ l1 ⟨rfl,⟨hb,rfl⟩ | ⟨hb,rfl⟩⟩
    ·cases hb
    ·conv=>whnf
     refine clean [] (.panic perr) F [(1,rdr s x)] 2 ⟨Fz.r F,rfl,?_⟩ rfl rfl rfl trivial ⟨za2 s _,tv⟩ ⟨Fz.r F,rfl,tv⟩
     rw [hL,if_neg (by simp [l80])]; exact ⟨x,rfl,rfl,rfl⟩
  ·rw [if_neg he] at hcase
   obtain ⟨ho,hh⟩:=hcase
   subst ho; subst hh
   conv=>whnf
   refine clean [] (.panic perr) F [(1,rdr s q)] 2 ⟨Fz.r F,rfl,?_⟩ rfl rfl rfl trivial ⟨za2 s _,tv⟩ ⟨Fz.r F,rfl,tv⟩
   rw [hL,if_neg (by simp [he])]; exact ⟨q,rfl,rfl,rfl⟩
 ·have g1:¬ p = 1:=oe g
  have hlin:lineS s p before q = match numsS s p (cols p) [] q with
   |none=>none
   |some (n,q')=>if p = 2 then some (([],n),q') else match before.getLast? with
    |none=>some (([],n),q')
    |some x=>if cmpL (x.2.take 2) (n.take 2) < 0 then some (([],n),q') else none:=by rw [lineS,if_neg g1]
  have hc4:cols p ≤ 4:=by
   have hcs:p = 1 ∨ p = 2 ∨ p = 3 ∨ p = 4 ∨ p = 5:=by omega
   rcases hcs with rfl | rfl | rfl | rfl | rfl<;>decide
  conv=>whnf
  refine zan hΘ (X:={ x:List Int × Nat × Int // x.1.length ≤ cols p ∧ x.1.length ≤ x.2.1 ∧ i64 x.2.2 ∧ numsS s p (cols p) [] q = numsS s p (cols p - x.1.length) x.1 x.2.2 }) (fun _=>[]) [25,26,27,28,29,30,31,32,33,34,35,36,37,38,39,40,41,42,43]
   (fun x=>[(0,.frz F),(1,rdr s x.1.2.2),(3,lineE x.1.2.1 [] x.1.1),(4,gE 3 1 encI x.1.2.1 x.1.1)]) 5 (fun x=>cols p - x.1.1.length) ⟨([],0,q),by simp,by simp,hq,rfl⟩
   (fun hH hT=>leI [(4,4)] hH hT rfl ⟨tv,za2 s _,zgt (by omega) _ _ _,zai zaw _ _ _ _ _,tv⟩ trivial ⟨Fz.r F,rfl,rfl,rfl,tv⟩) ?_
  rintro ⟨⟨acc,c,q'⟩,ha1,hac,ha2,ha3⟩ hH hT
  replace hac:acc.length ≤ c:=hac
  replace ha1:acc.length ≤ cols p:=ha1
  replace ha2:i64 q':=ha2
  replace ha3:numsS s p (cols p) [] q = numsS s p (cols p - acc.length) acc q':=ha3
  rcases acc with _ | ⟨a0,ar⟩
  ·conv=>whnf
   refine drawP hΘ mixed (lk [0,1,2,3] (.alt 4 (.look 5 .done) .nil)) [3] (by kernel_rfl) ?_;conv=>whnf
   repeat' ((conv=>whnf); first
    |refine ⟨rfl,?_⟩
    |refine ⟨Fz.r _,rfl,?_⟩
    |refine ⟨Fz.r _,rfl,rfl,?_⟩
    |refine ⟨⟨by simp,by simp⟩,?_⟩
    |fail)
   conv=>whnf
   refine usePu (zld p hp F) rfl (zaa _) rfl ?_;conv=>whnf
   refine ⟨Fz.r F,rfl,?_⟩;conv=>whnf
   refine br (fun gb=>?_) (fun gb=>?_)
   ·have gl:0 < cols p:=by have h0:((0:Nat):Int) < cols p:=od gb; omega
    clear gb
    have hf:cols p - 0 = (cols p - (0 + 1)) + 1:=by omega
    have ha4:numsS s p (cols p) [] q = if zb1 s q' (bnd p []).1 (bnd p []).2 = true then numsS s p (cols p - (0 + 1)) ([] ++ [(getI s q').1]) (getI s q').2.1 else none:=by
     rw [ha3]; show numsS s p (cols p - 0) [] q' = _; rw [hf,numsS]
    conv=>whnf
    refine drawP hΘ mixed (lk [0,1,2,3,4,5] (.alt 6 (.look 7 (.look 8 (.alt 9 (.alt 10 (.alt 11 (.look 12 (.last 13 .done)) .nil) .nil) .nil))) .nil)) [3] (by kernel_rfl) ?_;conv=>whnf
    repeat' ((conv=>whnf); first
     |refine ⟨rfl,?_⟩
     |refine ⟨Fz.r _,rfl,?_⟩
     |refine ⟨Fz.r _,rfl,rfl,?_⟩
     |refine ⟨⟨by simp,by simp⟩,?_⟩
     |fail)
    conv=>whnf
    refine usePu (zn8 F _ [] p Sl.nil (by simp)) rfl ⟨rfl,⟨rfl,rfl,rfl⟩,tv⟩ rfl ?_;conv=>whnf
    refine ⟨Fz.r F,rfl,?_⟩;conv=>whnf
    refine use (zes F s q' (bnd p []).1 (bnd p []).2 hs ha2) [(1,1)] rfl ⟨rfl,rfl,rfl,tv⟩ rfl ⟨za2 _ _,tv⟩ (by simp [SV.below,SA.below]) ⟨rfl,tv⟩ ?_
    rintro out0 F0 h0 n0 hle ⟨rfl,rfl,hcase⟩
    by_cases hn:zb1 s q' (bnd p []).1 (bnd p []).2 = true
    ·rw [if_pos hn] at hcase ha4
     obtain ⟨ho,hh⟩:=hcase
     subst ho; subst hh
     have hok:=zfj (zeq hn)
     have hi6:i64 (getI s q').2.1:=⟨by omega,by omega⟩
     conv=>whnf
     refine ⟨Fz.r F,rfl,?_⟩;conv=>whnf
     refine ⟨Fz.r F,rfl,?_⟩;conv=>whnf
     refine ⟨nb rfl,[encI (getI s q').1],rfl,?_⟩;conv=>whnf
     refine ⟨rfl,rfl,?_⟩;conv=>whnf
     refine ⟨nb rfl,fun c' hc=>?_⟩
     have hc':([] ++ [(getI s q').1]).length ≤ c':=hc
     clear hc;conv=>whnf
     refine ⟨Fz.r F,rfl,?_⟩;conv=>whnf
     exact ⟨⟨([] ++ [(getI s q').1],c',(getI s q').2.1),by simp; omega,hc',hi6,by rw [ha4]; rfl⟩,by show cols p - 1 < cols p - 0; omega,
      leR [(4,6)] hH hT rfl ⟨tv,za2 s _,zgt (by omega) _ _ _,zai zaw _ _ _ _ _,tv⟩ trivial ⟨Fz.r F,rfl,zox (μ:=sig [(4,6)]) (j:=6) rfl c' _ [] [] (getI s q').1 rfl,zav zaw (zcg [encI (getI s q').1] rfl),tv⟩⟩
    ·rw [if_neg hn] at hcase ha4
     obtain ⟨ho,hh⟩:=hcase
     subst ho; subst hh
     conv=>whnf
     refine clean [] (.panic perr) F [(1,rdr s q')] 2 ⟨Fz.r F,rfl,?_⟩ rfl rfl rfl trivial ⟨za2 s _,tv⟩ ⟨Fz.r F,rfl,tv⟩
     rw [hlin,ha4]; exact ⟨q',rfl,rfl,rfl⟩
   ·have gl:¬ 0 < cols p:=by have h0:¬ ((0:Nat):Int) < cols p:=oe gb; omega
    clear gb
    have hcs:p = 2 ∨ p = 3 ∨ p = 4 ∨ p = 5:=by omega
    exfalso; rcases hcs with rfl | rfl | rfl | rfl<;>exact gl (by decide)
  ·replace ha1:ar.length + 1 ≤ cols p:=ha1
   conv=>whnf
   refine drawP hΘ mixed (lk [0,1,2,3] (.alt 4 (.look 5 .done) .nil)) [3] (by kernel_rfl) ?_;conv=>whnf
   repeat' ((conv=>whnf); first
    |refine ⟨rfl,?_⟩
    |refine ⟨Fz.r _,rfl,?_⟩
    |refine ⟨Fz.r _,rfl,rfl,?_⟩
    |refine ⟨⟨by simp,by simp⟩,?_⟩
    |fail)
   conv=>whnf
   refine usePu (zld p hp F) rfl (zaa _) rfl ?_;conv=>whnf
   refine ⟨Fz.r F,rfl,?_⟩;conv=>whnf
   refine br (fun gb=>?_) (fun gb=>?_)
   ·have gl:(ar.length + 1) < cols p:=by have h0:(((ar.length + 1):Nat):Int) < cols p:=od gb; omega
    clear gb
    have hf:cols p - (ar.length + 1) = (cols p - ((ar.length + 1) + 1)) + 1:=by omega
    have ha4:numsS s p (cols p) [] q = if zb1 s q' (bnd p (a0 :: ar)).1 (bnd p (a0 :: ar)).2 = true then numsS s p (cols p - ((ar.length + 1) + 1)) ((a0 :: ar) ++ [(getI s q').1]) (getI s q').2.1 else none:=by
     rw [ha3]; show numsS s p (cols p - (ar.length + 1)) (a0 :: ar) q' = _; rw [hf,numsS]
    conv=>whnf
    refine drawP hΘ mixed (lk [0,1,2,3,4,5] (.alt 6 (.look 7 (.look 8 (.alt 9 (.alt 10 (.alt 11 (.look 12 (.last 13 .done)) .nil) .nil) .nil))) .nil)) [3] (by kernel_rfl) ?_;conv=>whnf
    repeat' ((conv=>whnf); first
     |refine ⟨rfl,?_⟩
     |refine ⟨Fz.r _,rfl,?_⟩
     |refine ⟨Fz.r _,rfl,rfl,?_⟩
     |refine ⟨⟨by simp,by simp⟩,?_⟩
     |fail)
    conv=>whnf
    refine borrow 4 (fun _=>.arr 3 1 ((a0 :: ar).map encI) c) rfl rfl rfl (fun _ _=>zbu _ (a0 :: ar) _) (fun _ _=>za8 _ _ _) ?_
    intro b F' hle' hb
    refine usePu (zn8 F' _ (a0 :: ar) p (Sl.new (hb 0 ⟨rfl,rfl⟩)) (by simp; omega)) rfl ⟨rfl,⟨rfl,rfl,rfl,.inr ⟨rfl,rfl,rfl,rfl⟩⟩,tv⟩ rfl ?_
    refine ⟨F',rfl,Fz.r _,rfl,fun _ _ _ _ _ _ h=>h,?_⟩;conv=>whnf
    refine ⟨Fz.r F,rfl,?_⟩;conv=>whnf
    refine use (zes F s q' (bnd p (a0 :: ar)).1 (bnd p (a0 :: ar)).2 hs ha2) [(1,1)] rfl ⟨rfl,rfl,rfl,tv⟩ rfl ⟨za2 _ _,tv⟩ (by simp [SV.below,SA.below]) ⟨rfl,tv⟩ ?_
    rintro out0 F0 h0 n0 hle ⟨rfl,rfl,hcase⟩
    by_cases hn:zb1 s q' (bnd p (a0 :: ar)).1 (bnd p (a0 :: ar)).2 = true
    ·rw [if_pos hn] at hcase ha4
     obtain ⟨ho,hh⟩:=hcase
     subst ho; subst hh
     have hok:=zfj (zeq hn)
     have hi6:i64 (getI s q').2.1:=⟨by omega,by omega⟩
     conv=>whnf
     refine ⟨Fz.r F,rfl,?_⟩;conv=>whnf
     refine ⟨Fz.r F,rfl,?_⟩;conv=>whnf
     refine ⟨nb rfl,[encI (getI s q').1],rfl,?_⟩;conv=>whnf
     refine ⟨rfl,rfl,by simp,rfl,by show (ar.length + 1 + 1) * 8 ≤ 140737488355328; omega,fun c' hc=>?_⟩
     have hc':((a0 :: ar) ++ [(getI s q').1]).length ≤ c':=by rw [qa]; exact hc
     clear hc;conv=>whnf
     refine ⟨Fz.r F,rfl,?_⟩;conv=>whnf
     exact ⟨⟨((a0 :: ar) ++ [(getI s q').1],c',(getI s q').2.1),by simp; omega,hc',hi6,by rw [ha4]; simp⟩,by show cols p - (a0 :: ar ++ [(getI s q').1]).length < cols p - (ar.length + 1); simp; omega,
      leR [(4,6)] hH hT rfl ⟨tv,za2 s _,zgt (by omega) _ _ _,zai zaw _ _ _ _ _,tv⟩ trivial ⟨Fz.r F,rfl,zox (μ:=sig [(4,6)]) (j:=6) rfl c' _ [] (a0 :: ar) (getI s q').1 rfl,zav zaw (zcg _ (by simp)),tv⟩⟩
    ·rw [if_neg hn] at hcase ha4
     obtain ⟨ho,hh⟩:=hcase
     subst ho; subst hh
     conv=>whnf
     refine clean [] (.panic perr) F [(1,rdr s q')] 2 ⟨Fz.r F,rfl,?_⟩ rfl rfl rfl trivial ⟨za2 s _,tv⟩ ⟨Fz.r F,rfl,tv⟩
     rw [hlin,ha4]; exact ⟨q',rfl,rfl,rfl⟩
   ·have gl:¬ (ar.length + 1) < cols p:=by have h0:¬ (((ar.length + 1):Nat):Int) < cols p:=oe gb; omega
    clear gb
    have hnum:numsS s p (cols p) [] q = some (a0 :: ar,q'):=by
     rw [ha3]; show numsS s p (cols p - (ar.length + 1)) (a0 :: ar) q' = _
     rw [show cols p - (ar.length + 1) = 0 by omega,numsS]
    rw [hnum] at hlin
    replace hlin:lineS s p before q = if p = 2 then some (([],a0 :: ar),q') else match before.getLast? with
     |none=>some (([],a0 :: ar),q')
     |some x=>if cmpL (x.2.take 2) ((a0 :: ar).take 2) < 0 then some (([],a0 :: ar),q') else none:=hlin
    have fin:∀ (h:Hp) (nx:Nat),lineS s p before q = some (([],a0 :: ar),q') → lget h 0 = some (.frz F) → lget h 1 = some (rdr s q') → lget h 4 = some (gE 3 1 encI c (a0 :: ar)) →
      (∀ k,resP h 4 k = (4,k)) → Cln 2 (fun o F0 h0 n0=>Fz.le F F0 ∧ F = F0 ∧ match lineS s p before q with
       |some (x,q')=>∃ c,x.2.length ≤ c ∧ n0 = 3 ∧ o = .ret (.agg [.str x.1,gA 1 2 c x.2]) ∧ h0 = [(1,rdr s q'),(2,gE 3 1 encI c x.2)]
       |none=>∃ q',n0 = 2 ∧ o = .panic perr ∧ h0 = [(1,rdr s q')]) (.ret (.agg [.str [],.slice false 4 0 0 1 (ar.length + 1) c])) h nx:=by
     intro h nx hL h0 h1 h4 hr
     refine clean [(2,4)] (.ret (.agg [.str [],.slice false 2 0 0 1 (ar.length + 1) c])) F [(1,rdr s q'),(2,gE 3 1 encI c (a0 :: ar))] 3 ⟨Fz.r F,rfl,?_⟩ ?_ rfl rfl (Out.bB_ok (o:=.ret (.agg [.str [],.slice false 2 0 0 1 (ar.length + 1) c])) rfl) ⟨za2 s _,zai zaw _ _ _ _ _,tv⟩ ?_
     ·rw [hL]; exact ⟨c,hac,rfl,rfl,rfl⟩
     ·show SV.agg [.str [],.slice false 4 0 0 1 (ar.length + 1) c] = SV.agg [.str [],.slice false (resP h 4 0).1 (resP h 4 0).2 0 1 (ar.length + 1) c]
      rw [hr 0]
     ·refine ⟨?_,?_,?_,tv⟩
      ·show subE (lget h 0) (.frz F); rw [h0]; exact Fz.r F
      ·show subE (lget h 1) ((rdr s q').ren (sig [(2,4)])); rw [h1]; rfl
      ·show subE (lget h 4) ((gE 3 1 encI c (a0 :: ar)).ren (sig [(2,4)])); rw [h4]; exact zav zaw (zax _ _ _ _)
    conv=>whnf
    refine ⟨fun g2=>?_,fun g2=>?_⟩
    ·have g2':¬ p = 2:=by simpa using g2
     rw [if_neg g2'] at hlin
     conv=>whnf
     refine br (fun gb=>?_) (fun gb=>?_)
     ·have gbl:0 < before.length:=by have h0:(0:Int) < before.length:=od gb; omega
      clear gb
      have gk:before.length - 1 < before.length:=by omega
      have hlast:before.getLast? = some before[before.length - 1]:=by rw [List.getLast?_eq_getElem?,qc gk]
      rw [hlast] at hlin
      replace hlin:lineS s p before q = if cmpL (before[before.length - 1].2.take 2) ((a0 :: ar).take 2) < 0 then some (([],a0 :: ar),q') else none:=hlin
      have h22:=hbn ⟨g1,g2'⟩ _ (jj gk)
      have hc3:2 ≤ ar.length + 1:=by
       have hcs:p = 3 ∨ p = 4 ∨ p = 5:=by omega
       have:3 ≤ cols p:=by rcases hcs with rfl | rfl | rfl<;>decide
       omega
      replace hac:ar.length + 1 ≤ c:=hac
      have ew:IntKind.i64.wrap ((before.length:Int) - 1) = ((before.length - 1:Nat):Int):=by rw [zal (by omega) (by omega)]; omega
      conv=>whnf
      refine drawP hΘ mixed (lk [0,1,2,3,4,5,6,7,8,9,10] (.alt 11 (.look 12 (.alt 13 .done .nil)) .nil)) [3] (by kernel_rfl) ?_;conv=>whnf
      have hObt:=SlR.at b4 gk
      obtain ⟨y,hy,ya,rfl,hy2⟩:=hObt
      have hy3:=hy2.resolve_left (by intro h; rw [h] at h22; simp at h22)
      obtain ⟨hya,hycap⟩:=hy3
      obtain ⟨zn,zb,ze,zc,zL,zr,rfl,z1,z2,z3,z4⟩:=hya
      replace hycap:before[before.length - 1].2.length ≤ zc:=hycap
      rcases zn with _ | _
      ·refine ⟨SlR.lt b1 gk,⟨by rw [ew]; omega,by rw [ew]; omega⟩,?_⟩;conv=>whnf
       refine ⟨rfl,?_⟩;conv=>whnf
       refine ⟨_,b2 (SlR.lt b1 gk),?_⟩;conv=>whnf
       refine ⟨_,by dsimp only; rw [ew]; exact hy,?_⟩;conv=>whnf
       refine ⟨⟨by decide,by show (2:Int) ≤ (zc:Int); omega⟩,?_⟩;conv=>whnf
       refine ⟨rfl,?_⟩;conv=>whnf
       refine ⟨⟨by decide,by show (2:Int) ≤ (c:Int); omega⟩,?_⟩;conv=>whnf
       refine borrow 4 (fun _=>.arr 3 1 ((a0 :: ar).map encI) c) rfl rfl rfl (fun _ _=>zbu _ (a0 :: ar) _) (fun _ _=>za8 _ _ _) ?_
       intro b F' hle' hb
       have hL1:(((a0 :: ar).map encI).drop 0).take (a0 :: ar).length = (a0 :: ar).map encI:=by rw [qai,qm (by simp)]
       refine usePu (zsz F' _ _ (before[before.length - 1].2.take 2) ((a0 :: ar).take 2) (take2 (cap:=zc - 0) (e':=if zc = 0 then ze else ze + 0) (hle' _ _ (z2 rfl)) z3 z4 h22 (by split<;>rfl)) (take2 (cap:=c - 0) (e':=if c = 0 then 0 else 0 + 0) (hb 0 ⟨rfl,rfl⟩) (by simp) hL1 (by simpa using hc3) (by split<;>rfl)) (by rw [qn]; omega)) rfl ⟨⟨rfl,rfl,rfl,.inr ⟨rfl,rfl,rfl,rfl⟩⟩,⟨rfl,rfl,rfl,.inr ⟨rfl,rfl,rfl,rfl⟩⟩,tv⟩ rfl ?_
       refine ⟨F',rfl,Fz.r _,rfl,fun _ _ _ _ _ _ h=>h,?_⟩;conv=>whnf
       refine ⟨Fz.r F,rfl,?_⟩;conv=>whnf
       refine useFo (zcb F (decide (cmpL (before[before.length - 1].2.take 2) ((a0 :: ar).take 2) < 0))) rfl ⟨rfl,tv⟩ rfl ?_
       rintro _ _ l1 ⟨rfl,⟨hb,rfl⟩ | ⟨hb,rfl⟩⟩
       ·conv=>whnf
        refine ⟨Fz.r F,rfl,?_⟩;conv=>whnf
        exact fin _ _ (by rw [hlin,if_pos (od hb)]) rfl rfl rfl (fun _=>rfl)
       ·conv=>whnf
        refine clean [] (.panic perr) F [(1,rdr s q')] 2 ⟨Fz.r F,rfl,?_⟩ rfl rfl rfl trivial ⟨za2 s _,tv⟩ ⟨Fz.r F,rfl,tv⟩
        rw [hlin,if_neg (oe hb)]; exact ⟨q',rfl,rfl,rfl⟩
      ·have:=z1 rfl
       rw [this] at h22; simp at h22
     ·have gbl:before = []:=by
       have h0:¬ (0:Int) < before.length:=oe gb
       exact qad.1 (by omega)
      conv=>whnf
      exact fin _ _ (by rw [hlin,gbl]; rfl) rfl rfl rfl (fun _=>rfl)
    ·have g2':p = 2:=by simpa using g2
     rw [if_pos g2'] at hlin
     conv=>whnf
     exact fin _ _ hlin rfl rfl rfl (fun _=>rfl)
def nA (B k c:Nat):List Int → SA
 |[]=>.nilsl
 |_ :: r=>.slice false B k 0 1 (r.length + 1) c
def zbg (B:Nat) (caps:Nat → Nat):Nat → List Ln → List (List SA)
 |_,[]=>[]
 |j,x :: r=>[.str x.1,nA B j (caps j) x.2] :: zbg B caps (j + 1) r
theorem zih (B:Nat) (caps:Nat → Nat):∀ (j:Nat) (l:List Ln),(zbg B caps j l).length = l.length
 |_,[]=>rfl
 |j,x :: r=>by rw [zbg,qe,qe,zih]
theorem zlh (B:Nat) (caps:Nat → Nat):∀ (j:Nat) (l:List Ln) (x:Ln),zbg B caps j (l ++ [x]) = zbg B caps j l ++ [[.str x.1,nA B (j + l.length) (caps (j + l.length)) x.2]]
 |j,[],x=>by simp [zbg]
 |j,y :: r,x=>by
  rw [jt,zbg,zbg,zlh B caps (j + 1) r x,jt,qe]
  have:j + 1 + r.length = j + (r.length + 1):=by omega
  rw [this]
theorem zdv (B:Nat) (caps:Nat → Nat):∀ (j:Nat) (l:List Ln) (k:Nat) (x:Ln),l[k]? = some x → (zbg B caps j l)[k]? = some [.str x.1,nA B (j + k) (caps (j + k)) x.2]
 |j,y :: r,0,x,h=>by simp at h; subst h; simp [zbg]
 |j,y :: r,k + 1,x,h=>by
  rw [zbg,qbm,zdv B caps (j + 1) r k x (by simpa using h)]
  have:j + 1 + k = j + (k + 1):=by omega
  rw [this]
theorem zo3 (μ:Mu) (B k c:Nat) (n:List Int):(nA B k c n).ren μ = match n with
  |[]=>.nilsl
  |_ :: r=>.slice false (μ B k).1 (μ B k).2 0 1 (r.length + 1) c:=by cases n<;>rfl
theorem zed {μ:Mu} {B B':Nat} {caps caps':Nat → Nat} {m:Nat} (h:∀ k,k < m → μ B k = (B',k) ∧ caps k = caps' k):∀ (j:Nat) (l:List Ln),j + l.length ≤ m → (zbg B caps j l).map (List.map (SA.ren μ)) = zbg B' caps' j l
 |_,[],_=>rfl
 |j,x :: r,hl=>by
  rw [qe] at hl
  obtain ⟨h1,h2⟩:=h j (by omega)
  rw [zbg,zbg,qx,zed h (j + 1) r (by omega)]
  congr 1
  simp only [qx,ym,zo3,h1,h2]
  cases x.2<;>rfl
def famE (caps:Nat → Nat) (l:List Ln):Ent:=.fam l.length (fun k=>!((l.map (·.2)).getD k []).isEmpty) (fun k=>.arr 3 1 (((l.map (·.2)).getD k []).map encI) (caps k))
def zba (B:Nat) (caps:Nat → Nat) (c:Nat) (l:List Ln):Ent:=.opt (!l.isEmpty) (.arr 259 2 (zbg B caps 0 l) c)
theorem zie (caps:Nat → Nat) {l:List Ln} {k:Nat} {x:Ln} (h:l[k]? = some x):(l.map (·.2)).getD k [] = x.2:=by
 rw [yt,qs,h]; rfl
theorem zi2 (μ:Mu) (caps:Nat → Nat) (l:List Ln):(famE caps l).ren μ = famE caps l:=by
 show Ent.fam _ _ _ = Ent.fam _ _ _
 congr 1
 funext k; exact zbu μ _ _
theorem zau (n:Nat) (caps:Nat → Nat) (l:List Ln):(famE caps l).below n:=fun k _ _=>za8 n _ _
theorem zxl {n B:Nat} (h:B < n) (k c:Nat) (l:List Int):(nA B k c l).below n:=by
 cases l with
 |nil=>trivial
 |cons x r=>exact .inr h
theorem ziq {n B:Nat} (h:B < n) (caps:Nat → Nat):∀ (j:Nat) (l:List Ln),∀ y ∈ zbg B caps j l,∀ a ∈ y,a.below n
 |_,[],y,hy,_,_=>by simp [zbg] at hy
 |j,x :: r,y,hy,a,ha=>by
  rcases qj.1 hy with rfl | hy
  ·simp only [qj,qq,or_false] at ha
   rcases ha with rfl | rfl
   ·trivial
   ·exact zxl h _ _ _
  ·exact ziq h caps (j + 1) r y hy a ha
theorem zam {n B:Nat} (h:B < n) (caps:Nat → Nat) (c:Nat) (l:List Ln):(zba B caps c l).below n:=ziq h caps 0 l
theorem z4k {F:Fz} {b c:Nat} {bf caps:Nat → Nat} {l:List Ln} (hne:l ≠ []) (hb:F b = some (.arr 259 2 ((zbg 5 caps 0 l).map (List.map (SA.ren (fun i k=>if i = 5 then (0,bf k) else (i,k))))) c))
  (hf:∀ k,(famE caps l).has k → F (bf k) = some ((famE caps l).at k)) (hcap:∀ k x,l[k]? = some x → x.2.length ≤ caps k):zva F (.slice false 0 b 0 2 l.length c) l:=by
 refine ⟨false,b,0,c,_,c,rfl,fun h=>(nomatch h),fun _=>hb,by rw [qb,zih]; omega,fun k x hx=>?_⟩
 have h1:=zdv 5 caps 0 l k x hx
 rw [ji] at h1
 refine ⟨_,by rw [ji,qs,h1]; rfl,?_⟩
 refine ⟨_,rfl,?_⟩
 rw [zo3]
 have hk:=(qh.1 hx).1
 have hat:=zie caps hx
 have hc:=hcap k x hx
 cases hn:x.2 with
 |nil=>exact .inl rfl
 |cons y r=>
  rw [hn] at hat hc
  have hhas:(famE caps l).has k:=⟨hk,by show (!((l.map (·.2)).getD k []).isEmpty) = true; rw [hat]; rfl⟩
  have:=hf k hhas
  have e:(famE caps l).at k = .arr 3 1 ((y :: r).map encI) (caps k):=by show SB.arr 3 1 (((l.map (·.2)).getD k []).map encI) (caps k) = _; rw [hat]
  rw [e] at this
  exact .inr ⟨Sl.new (l:=y :: r) this,hc⟩
structure Val where
 lost:Bool
 lines:List Ln
 w:Int
 h:Int
 bits:List UInt8
def zca (s:List UInt8) (p:Int):Nat → List Ln → Int → Option (List Ln × Int)
 |0,acc,q=>some (acc,q)
 |f + 1,acc,q=>match lineS s p acc q with
  |none=>none
  |some (x,q')=>zca s p f (acc ++ [x]) q'
def readS (p:Int) (s:List UInt8):Option Val:=
 if ¬ (1 ≤ p ∧ p ≤ 8) then none else
 if s = [] then some ⟨true,[],0,0,[]⟩ else
 if p = 8 then
  if zb1 s 0 0 64 = true ∧ zb1 s (getI s 0).2.1 0 64 = true ∧ (getI s (getI s 0).2.1).2.1 = s.length then some ⟨false,[],(getI s 0).1,(getI s (getI s 0).2.1).1,[]⟩ else none
 else if 6 ≤ p then
  let w:=(getI s 0).1
  let q:=(getI s 0).2.1
  let h:=(getI s q).1
  let q2:=(getI s q).2.1
  if zb1 s 0 0 32 = true ∧ zb1 s q (min w 1) (min w 1 * 32) = true then
   if p = 7 then
    if (getS s q2).2.2 = 0 ∧ ((getS s q2).1.length:Int) = w * h ∧ (getS s q2).1.all (fun b=>b == 48 || b == 49) = true ∧ (getS s q2).2.1 = s.length then some ⟨false,[],w,h,(getS s q2).1⟩ else none
   else if q2 = s.length then some ⟨false,[],w,h,[]⟩ else none
  else none
 else
  if zb1 s 0 0 64 = true then match zca s p (getI s 0).1.toNat [] (getI s 0).2.1 with
   |none=>none
   |some (l,q)=>if q = s.length then some ⟨false,l,0,0,[]⟩ else none
  else none
def valV (v:Val) (i c:Nat):SV:=.agg [.lit v.lost,gA 2 i c v.lines,.int .i64 v.w,.int .i64 v.h,.str v.bits]
theorem zij {μ μ':Mu} {B:Nat} (h:∀ k,μ B k = μ' B k) (caps:Nat → Nat):∀ (j:Nat) (l:List Ln),(zbg B caps j l).map (List.map (SA.ren μ)) = (zbg B caps j l).map (List.map (SA.ren μ'))
 |_,[]=>rfl
 |j,x :: r=>by
  rw [zbg,qx,qx,zij h caps (j + 1) r]
  congr 1
  simp only [qx,ym,zo3,h]
  rfl
theorem zrt {s:List UInt8} {p:Int}:∀ (f:Nat) (acc:List Int) (q:Int) {n:List Int} {q':Int},numsS s p f acc q = some (n,q') → s.length ≤ 1000000000000000000 → i64 q → n.length = acc.length + f ∧ i64 q'
 |0,acc,q,n,q',h,_,hq=>by simp [numsS] at h; obtain ⟨rfl,rfl⟩:=h; exact ⟨rfl,hq⟩
 |f + 1,acc,q,n,q',h,hs,hq=>by
  rw [numsS] at h
  split at h
  ·rename_i hn
   have hok:=zfj (zeq hn)
   obtain ⟨h1,h2⟩:=zrt f _ _ h hs ⟨by omega,by omega⟩
   refine ⟨by rw [h1,qa]; simp; omega,h2⟩
  ·cases h
theorem z3m {s:List UInt8} {q:Int} (h:(getS s q).2.2 = 0):0 ≤ (getS s q).2.1 ∧ (getS s q).2.1 ≤ s.length:=by
 rw [getS] at h ⊢
 split at h
 ·rename_i h1; exact absurd h h1
 ·rename_i h1
  have hok:=zfj (s:=s) (p:=q) (by simpa using h1)
  rw [if_neg h1]
  split at h
  ·simp at h
  ·rename_i h2
   rw [if_neg h2]
   show 0 ≤ (getI s q).2.1 + (getI s q).1 ∧ (getI s q).2.1 + (getI s q).1 ≤ s.length
   omega
theorem zq5 {s:List UInt8} {p q:Int} {before:List Ln} {x:Ln} {q':Int} (h:lineS s p before q = some (x,q')) (hs:s.length ≤ 1000000000000000000) (hq:i64 q) (hp:1 ≤ p ∧ p ≤ 5) :
  i64 q' ∧ (p ≠ 1 ∧ p ≠ 2 → 2 ≤ x.2.length):=by
 rw [lineS] at h
 split at h
 ·rename_i h1
  split at h
  ·rename_i h2
   have:=z3m h2.1
   simp only [Option.some.injEq,Prod.mk.injEq] at h
   obtain ⟨rfl,rfl⟩:=h
   exact ⟨⟨by omega,by omega⟩,fun h3=>absurd h1 h3.1⟩
  ·cases h
 ·rename_i h1
  split at h
  ·cases h
  ·rename_i n q2 hn
   obtain ⟨h3,h4⟩:=zrt _ _ _ hn hs hq
   have hx:x = ([],n) ∧ q' = q2:=by
    split at h
    ·simp only [Option.some.injEq,Prod.mk.injEq] at h; exact ⟨h.1.symm,h.2.symm⟩
    ·split at h
     ·simp only [Option.some.injEq,Prod.mk.injEq] at h; exact ⟨h.1.symm,h.2.symm⟩
     ·split at h
      ·simp only [Option.some.injEq,Prod.mk.injEq] at h; exact ⟨h.1.symm,h.2.symm⟩
      ·cases h
   obtain ⟨rfl,rfl⟩:=hx
   refine ⟨h4,fun h5=>?_⟩
   have hcs:p = 3 ∨ p = 4 ∨ p = 5:=by omega
   have:3 ≤ cols p:=by rcases hcs with rfl | rfl | rfl<;>decide
   show 2 ≤ n.length
   rw [h3]; simp; omega
def mfz (bf:Nat → Nat):Mu:=fun i k=>if i = 5 then (0,bf k) else (i,k)
theorem znr (bf caps:Nat → Nat):∀ (j:Nat) (l:List Ln),∀ y ∈ (zbg 5 caps j l).map (List.map (SA.ren (mfz bf))),∀ a ∈ y,a.below 1
 |_,[],y,hy,_,_=>by simp [zbg] at hy
 |j,x :: r,y,hy,a,ha=>by
  rw [zbg,qx] at hy
  rcases qj.1 hy with rfl | hy
  ·simp only [qx,ym,qj,qq,or_false,zo3] at ha
   rcases ha with rfl | rfl
   ·trivial
   ·cases x.2 with
    |nil=>trivial
    |cons _ _=>exact .inr (yk)
  ·exact znr bf caps (j + 1) r y hy a ha
structure R1 (s:List UInt8) (p:Int) (m:Nat) (q1:Int) (acc:List Ln) (c:Nat) (caps:Nat → Nat) (q:Int):Prop where
 h1:acc.length ≤ m
 h2:i64 q
 h3:zca s p m [] q1 = zca s p (m - acc.length) acc q
 h4:∀ k x,acc[k]? = some x → x.2.length ≤ caps k
 h5:p ≠ 1 ∧ p ≠ 2 → ∀ x ∈ acc,2 ≤ x.2.length
def accE (B i c:Nat) (l:List Ln):Ent:=.one (.cells 201 [.lit false,gA 2 i c l,.int .i64 0,.int .i64 0,.str []])
theorem zh6 {n i:Nat} (h:i < n) (B c:Nat) (l:List Ln):(accE B i c l).below n:=by
 intro a ha
 simp only [qj,qq,or_false] at ha
 rcases ha with rfl | rfl | rfl | rfl | rfl
 ·trivial
 ·cases l with
  |nil=>trivial
  |cons x r=>exact .inr h
 all_goals trivial
theorem zt4 {μ:Mu} {j:Nat} (h:μ 4 0 = (j,0)) (c n:Nat) (l:List Ln) (x:Ln) (hn:n = l.length + 1) :
  SB.cells 201 [.lit false,.slice false j 0 0 2 n c,.int .i64 0,.int .i64 0,.str []] = SB.ren μ (.cells 201 [.lit false,gA 2 4 c (l ++ [x]),.int .i64 0,.int .i64 0,.str []]):=by
 subst hn
 cases l with
 |nil=>simp only [gA,qu,SB.ren,qx,ym,SA.ren,h,qp]
 |cons y r=>simp only [gA,jt,SB.ren,qx,ym,SA.ren,h]; simp
def gx (m:Nat):Nat → Nat × Nat:=fun k=>if k < m then (5,k) else (6,0)
def capx (m cn:Nat) (caps:Nat → Nat):Nat → Nat:=fun k=>if k = m then cn else caps k
theorem zor {μ τ:Mu} {caps:Nat → Nat} {cn:Nat} {acc:List Ln} (x:Ln) (h:∀ k,μ 5 k = gx acc.length k) (hτ:τ 2 0 = (6,0)) :
  zbg 5 caps 0 acc ++ [[.str x.1,(gA 1 2 cn x.2).ren τ]] = (zbg 5 (capx acc.length cn caps) 0 (acc ++ [x])).map (List.map (SA.ren μ)):=by
 rw [zlh,q5,zed (B':=5) (caps':=caps) (m:=acc.length) (fun k hk=>⟨by rw [h,gx,if_pos hk],by rw [capx,if_neg (by omega)]⟩) 0 acc (by omega)]
 congr 1
 simp only [qx,ym,zo3,h,gx,capx,ji,Nat.lt_irrefl,if_false,if_true]
 cases x.2 with
 |nil=>rfl
 |cons y r=>simp only [gA,SA.ren,hτ]
theorem zuk {μ τ:Mu} {h1:Hp} {caps:Nat → Nat} {cn:Nat} {acc:List Ln} (x:Ln) (h5:lget h1 5 = some (famE caps acc)) (h6:lget h1 6 = some ((gE 3 1 encI cn x.2).ren τ)) :
  genE (gx acc.length) [5,6] h1 ((famE (capx acc.length cn caps) (acc ++ [x])).ren μ):=by
 rw [zi2]
 rw [zfv zaw] at h6
 have e1:∀ k,k < acc.length → ((acc ++ [x]).map (·.2)).getD k [] = (acc.map (·.2)).getD k []:=fun k hk=>by
  rw [yt,yt,q5,js (by simpa using hk)]
 have e2:((acc ++ [x]).map (·.2)).getD acc.length [] = x.2:=by
  rw [yt,q5,jz (by simp)]; simp
 refine ⟨fun k hk hc=>?_,fun k k' hk hk' _ _ he=>?_⟩
 ·by_cases hl:k < acc.length
  ·have hg:gx acc.length k = (5,k):=if_pos hl
   rw [hg]
   refine ⟨by simp,famE caps acc,h5,rfl,⟨hl,?_⟩,?_⟩
   ·have hc2:(!(((acc ++ [x]).map (·.2)).getD k []).isEmpty) = true:=hc
    rw [e1 k hl] at hc2; exact hc2
   ·show SB.arr 3 1 (((acc.map (·.2)).getD k []).map encI) (caps k) = SB.arr 3 1 ((((acc ++ [x]).map (·.2)).getD k []).map encI) (capx acc.length cn caps k)
    rw [e1 k hl,capx,if_neg (by omega)]
  ·have hk2:k = acc.length:=by rw [qa] at hk; simp at hk; omega
   subst hk2
   have hg:gx acc.length acc.length = (6,0):=if_neg (by omega)
   rw [hg]
   refine ⟨by simp,gE 3 1 encI cn x.2,h6,rfl,⟨?_,rfl⟩,?_⟩
   ·have hc2:(!(((acc ++ [x]).map (·.2)).getD acc.length []).isEmpty) = true:=hc
    rw [e2] at hc2; exact hc2
   ·show SB.arr 3 1 (x.2.map encI) cn = SB.arr 3 1 ((((acc ++ [x]).map (·.2)).getD acc.length []).map encI) (capx acc.length cn caps acc.length)
    rw [e2,capx,if_pos rfl]
 ·rw [qa] at hk hk'
  simp at hk hk'
  unfold gx at he
  split at he<;>split at he<;>simp at he<;>omega
theorem zsi {caps:Nat → Nat} {cn:Nat} {acc:List Ln} {x:Ln} (h:∀ k y,acc[k]? = some y → y.2.length ≤ caps k) (hc:x.2.length ≤ cn):∀ k y,(acc ++ [x])[k]? = some y → y.2.length ≤ capx acc.length cn caps k:=by
 intro k y hy
 unfold capx
 by_cases hk:k = acc.length
 ·subst hk
  rw [jz (by omega)] at hy
  simp at hy; subst hy
  rw [if_pos rfl]; exact hc
 ·have hl:k < (acc ++ [x]).length:=(qh.1 hy).1
  rw [qa] at hl
  simp at hl
  rw [js (by omega)] at hy
  rw [if_neg hk]; exact h k y hy
theorem zvr {p:Int} {acc:List Ln} {x:Ln} (h:p ≠ 1 ∧ p ≠ 2 → ∀ y ∈ acc,2 ≤ y.2.length) (hx:p ≠ 1 ∧ p ≠ 2 → 2 ≤ x.2.length):p ≠ 1 ∧ p ≠ 2 → ∀ y ∈ acc ++ [x],2 ≤ y.2.length:=by
 intro hp y hy
 rcases yl.1 hy with hy | hy
 ·exact h hp y hy
 ·rw [qy.1 hy]; exact hx hp
theorem zsn {α:Type} {μ:Mu} {i j:Nat} (h:μ i 0 = (j,0)) (sz c:Nat) (l:List α):(gA sz i c l).ren μ = gA sz j c l:=by
 cases l with
 |nil=>rfl
 |cons x r=>simp only [gA,SA.ren,h]
theorem zsd {μ:Mu} {i j:Nat} (h:μ i 0 = (j,0)) (v:Val) (c:Nat):(valV v i c).ren μ = valV v j c:=by
 simp only [valV,SV.ren,qx,ym,zsn h]; rfl
theorem zk4 {n i:Nat} (h:i < n) (v:Val) (c:Nat):(valV v i c).below n:=by
 intro a ha
 simp only [qj,qq,or_false] at ha
 rcases ha with rfl | rfl | rfl | rfl | rfl
 ·trivial
 ·cases v.lines with
  |nil=>trivial
  |cons x r=>exact .inr h
 all_goals trivial
theorem ztv {μ:Mu} {caps:Nat → Nat} {c:Nat} {l:List Ln} (h:∀ k,μ 2 k = (5,k)):subE (some (zba 5 caps c l)) ((zba 2 caps c l).ren μ):=
 ⟨rfl,congrArg (fun L=>SB.arr 259 2 L c) (zed (m:=l.length) (fun k _=>⟨h k,rfl⟩) 0 l (by omega)).symm⟩
theorem zbr {μ:Mu} {caps:Nat → Nat} {l:List Ln}:subE (some (famE caps l)) ((famE caps l).ren μ):=by
 rw [zi2]
 cases l with
 |nil=>trivial
 |cons x r=>exact ⟨rfl,rfl,rfl⟩
def readK (F:Fz) (p:Int) (s:List UInt8):Out → Fz → List (Nat × Ent) → Nat → Prop:=fun o F0 h0 n0=>F = F0 ∧ match readS p s with
 |some v=>∃ c caps,n0 = 3 ∧ o = .ret (valV v 1 c) ∧ h0 = [(1,zba 2 caps c v.lines),(2,famE caps v.lines)]
 |none=>n0 = 1 ∧ o = .panic perr ∧ h0 = []
theorem zla {F:Fz} {p:Int} {s:List UInt8} {v:Val} {c:Nat} {caps:Nat → Nat} (h:readS p s = some v):readK F p s (.ret (valV v 1 c)) F [(1,zba 2 caps c v.lines),(2,famE caps v.lines)] 3:=
 ⟨rfl,by rw [h]; exact ⟨c,caps,rfl,rfl,rfl⟩⟩
theorem zfd {F:Fz} {p:Int} {s:List UInt8} (h:readS p s = none):readK F p s (.panic perr) F [] 1:=⟨rfl,by rw [h]; exact ⟨rfl,rfl,rfl⟩⟩
theorem zcp {F:Fz} {p:Int} {s:List UInt8} {h:Hp} {nx:Nat} (hr:readS p s = none) (h0:lget h 0 = some (.frz F)):Cln 1 (fun o F0 h0 n0=>Fz.le F F0 ∧ readK F p s o F0 h0 n0) (.panic perr) h nx:=
 clean [] (.panic perr) F [] 1 ⟨Fz.r F,zfd hr⟩ rfl rfl rfl trivial trivial ⟨by show subE (lget h 0) (.frz F); rw [h0]; exact Fz.r F,tv⟩
theorem zma {F:Fz} {p:Int} {s:List UInt8} {h:Hp} {nx:Nat} {l:Bool} {w hh:Int} {bits:List UInt8} (hr:readS p s = some ⟨l,[],w,hh,bits⟩) (h0:lget h 0 = some (.frz F)) (h9:lget h 99 = none) :
  Cln 1 (fun o F0 h0 n0=>Fz.le F F0 ∧ readK F p s o F0 h0 n0) (.ret (.agg [.lit l,.nilsl,.int .i64 w,.int .i64 hh,.str bits])) h nx:=
 clean [(1,99),(2,100)] (.ret (valV ⟨l,[],w,hh,bits⟩ 1 0)) F [(1,zba 2 (fun _=>0) 0 []),(2,famE (fun _=>0) [])] 3 ⟨Fz.r F,zla (c:=0) (caps:=fun _=>0) hr⟩ rfl rfl rfl (zk4 (by omega) _ _) ⟨zam (by omega) _ _ _,zau _ _ _,tv⟩
  ⟨by show subE (lget h 0) (.frz F); rw [h0]; exact Fz.r F,by show subE (lget h 99) (.opt false _); rw [h9]; rfl,tv,tv⟩
theorem zuz {p:Int} {s:List UInt8} (h:¬ (1 ≤ p ∧ p ≤ 8)):readS p s = none:=by rw [readS,if_pos h]
theorem zpg {p:Int} (h:1 ≤ p ∧ p ≤ 8):readS p [] = some ⟨true,[],0,0,[]⟩:=by rw [readS,if_neg (by omega),if_pos rfl]
theorem ztp (F:Fz) (s:List UInt8) (p:Int) (hp:¬ (1 ≤ p ∧ p ≤ 8)):Ct Tryz.prog 129 [.va (.int .i64 p),.va (.str s)] F [] 1 (readK F p s):=by
 refine ct_of hΘ Tryz.func129 rfl (by decide) _ _ rfl rfl rfl ?_;conv=>whnf
 refine usePu (zdi p 1 8 F) rfl (zaa _) rfl ?_;conv=>whnf
 refine useFo (zcb F (decide (1 ≤ p) && decide (p ≤ 8))) rfl ⟨rfl,tv⟩ rfl ?_
 rintro _ _ l1 ⟨rfl,⟨hb,rfl⟩ | ⟨hb,rfl⟩⟩
 ·exact absurd (by simpa using hb) hp
 ·conv=>whnf
  exact zcp (zuz hp) rfl
theorem zo4 (F:Fz) (p:Int) (hp:1 ≤ p ∧ p ≤ 8):Ct Tryz.prog 129 [.va (.int .i64 p),.va (.str [])] F [] 1 (readK F p []):=by
 refine ct_of hΘ Tryz.func129 rfl (by decide) _ _ rfl rfl rfl ?_;conv=>whnf
 refine usePu (zdi p 1 8 F) rfl (zaa _) rfl ?_;conv=>whnf
 refine useFo (zcb F (decide (1 ≤ p) && decide (p ≤ 8))) rfl ⟨rfl,tv⟩ rfl ?_
 rintro _ _ l1 ⟨rfl,⟨hb,rfl⟩ | ⟨hb,rfl⟩⟩
 ·conv=>whnf
  refine bre (by decide) ?_;conv=>whnf
  refine useFo (zcb F true) rfl ⟨rfl,tv⟩ rfl ?_
  rintro _ _ l2 ⟨rfl,⟨hb2,rfl⟩ | ⟨hb2,rfl⟩⟩
  ·conv=>whnf
   exact zma (zpg hp) rfl rfl
  ·cases hb2
 ·exfalso; have:¬ (1 ≤ p ∧ p ≤ 8):=fun h=>by simp [h] at hb
  exact this hp
theorem zo0 (hCF:CFun) (F:Fz) (s:List UInt8) (p:Int) (hs:s.length ≤ 1000000000000000000) (hp1:1 ≤ p ∧ p ≤ 5) (hne:¬ s = []) :
  Ct Tryz.prog 129 [.va (.int .i64 p),.va (.str s)] F [] 1 (readK F p s):=by
 have hnum:=fun lo hi=>zes F s 0 lo hi hs (by unfold i64; omega)
 refine ct_of hΘ Tryz.func129 rfl (by decide) _ _ rfl rfl rfl ?_;conv=>whnf
 refine usePu (zdi p 1 8 F) rfl (zaa _) rfl ?_;conv=>whnf
 refine useFo (zcb F (decide (1 ≤ p) && decide (p ≤ 8))) rfl ⟨rfl,tv⟩ rfl ?_
 rintro _ _ l1 ⟨rfl,⟨hb,rfl⟩ | ⟨hb,rfl⟩⟩
 ·have hp8:1 ≤ p ∧ p ≤ 8:=by simpa using hb
  conv=>whnf
  refine br (fun g=>?_) (fun g=>?_)
  ·exact absurd (by simpa using g) hne
  ·clear g;conv=>whnf
   refine br (fun g=>absurd (od g) (by omega)) (fun _=>?_);conv=>whnf
   refine br (fun g=>absurd (od g) (by omega)) (fun _=>?_);conv=>whnf
   refine use (hnum 0 64) [(1,3)] rfl ⟨rfl,rfl,rfl,tv⟩ rfl ⟨za2 _ _,tv⟩ (by simp [SV.below,SA.below]) ⟨rfl,tv⟩ ?_
   rintro out0 F0 h0 n0 hle ⟨rfl,rfl,hcase⟩
   by_cases hn:zb1 s 0 0 64 = true
   ·rw [if_pos hn] at hcase
    obtain ⟨ho,hh⟩:=hcase
    subst ho; subst hh
    have hok:=zfj (zeq hn)
    have hn2:0 ≤ (getI s 0).1 ∧ (getI s 0).1 ≤ 64:=by
     simp only [zb1,qd,decide_eq_true_eq] at hn; exact hn.2
    have hm:∃ m:Nat,(getI s 0).1 = m ∧ m ≤ 64:=⟨(getI s 0).1.toNat,by omega,by omega⟩
    obtain ⟨m,em,hm64⟩:=hm
    have hR:readS p s = match zca s p m [] (getI s 0).2.1 with
      |none=>none
      |some (l,q)=>if q = s.length then some ⟨false,l,0,0,[]⟩ else none:=by
     rw [readS,if_neg (by omega),if_neg hne,if_neg (by omega),if_neg (by omega),if_pos hn,em]; rfl
    have hq1:i64 (getI s 0).2.1:=⟨by omega,by omega⟩
    conv=>whnf
    refine zan hΘ (X:={ x:List Ln × Nat × (Nat → Nat) × Int // R1 s p m (getI s 0).2.1 x.1 x.2.1 x.2.2.1 x.2.2.2 }) (fun x=>[(15,.va (.int .i64 x.1.1.length))]) [16,17,18,19,20,21,22,23,24,25,26,27]
     (fun x=>[(0,.frz F),(2,accE 5 4 x.1.2.1 x.1.1),(3,rdr s x.1.2.2.2),(4,zba 5 x.1.2.2.1 x.1.2.1 x.1.1),(5,famE x.1.2.2.1 x.1.1)]) 6 (fun x=>m - x.1.1.length) ⟨([],0,fun _=>0,(getI s 0).2.1),⟨by simp,hq1,rfl,by simp,by simp⟩⟩
     (fun hH hT=>leI [(4,4),(5,5)] hH hT rfl ⟨tv,zh6 (by omega) _ _ _,za2 s _,zam (by omega) _ _ _,zau _ _ _,tv⟩ ⟨rfl,tv⟩ ⟨Fz.r F,rfl,rfl,rfl,tv,tv⟩) ?_
    rintro ⟨⟨acc,c,caps,q⟩,h1,h2,h3,h4,h5⟩ hH hT
    replace h1:acc.length ≤ m:=h1
    replace h2:i64 q:=h2
    replace h3:zca s p m [] (getI s 0).2.1 = zca s p (m - acc.length) acc q:=h3
    replace h4:∀ k x,acc[k]? = some x → x.2.length ≤ caps k:=h4
    replace h5:p ≠ 1 ∧ p ≠ 2 → ∀ x ∈ acc,2 ≤ x.2.length:=h5
    have hline:=zqj hCF
    conv=>whnf
    refine br (fun gb=>?_) (fun gb=>?_)
    ·have gl:acc.length < m:=by
      have h0:(acc.length:Int) < (getI s 0).1:=od gb
      rw [em] at h0; omega
     clear gb
     rcases acc with _ | ⟨a0,ar⟩
     ·conv=>whnf
      refine drawP hΘ mixed (lk [0,1,2,3,4,5] (.alt 6 (.alt 7 (.alt 8 (.look 9 (.last 10 .done)) .nil) .nil) .nil)) [2] (by kernel_rfl) ?_;conv=>whnf
      repeat' ((conv=>whnf); first
       |refine ⟨rfl,?_⟩
       |refine ⟨Fz.r _,rfl,?_⟩
       |refine ⟨Fz.r _,rfl,rfl,?_⟩
       |refine ⟨⟨by simp,by simp⟩,?_⟩
       |fail)
      conv=>whnf
      refine use (zqj hCF F s p q (.slice true 0 0 0 2 0 0) [] ⟨true,0,0,0,[],0,rfl,fun _=>rfl,fun h=>(nomatch h),by simp,by simp⟩ hs hp1 h2 (by simp) (by simp)) [(1,3)] rfl ⟨rfl,rfl,⟨rfl,rfl,rfl⟩,tv⟩ rfl ⟨za2 _ _,tv⟩ (by simp [SV.below,SA.below]) ⟨rfl,tv⟩ ?_
      rintro out0 F0 h0 n0 hle ⟨rfl,hcase⟩
      have hx:lineS s p [] q = none ∨ ∃ x q2,lineS s p [] q = some (x,q2):=by
       cases lineS s p [] q with
       |none=>exact .inl rfl
       |some z=>exact .inr ⟨z.1,z.2,rfl⟩
      have hf:m - 0 = (m - 1) + 1:=by omega
      rcases hx with hx | ⟨x,q2,hx⟩
      ·rw [hx] at hcase
       obtain ⟨q3,rfl,rfl,rfl⟩:=hcase
       conv=>whnf
       refine clean [] (.panic perr) F [] 1 ⟨Fz.r F,zfd ?_⟩ rfl rfl rfl trivial trivial ⟨Fz.r F,tv⟩
       have h33:zca s p m [] (getI s 0).2.1 = none:=by rw [h3]; show zca s p (m - 0) [] q = none; rw [hf,zca,hx]
       rw [hR,h33]
      ·rw [hx] at hcase
       obtain ⟨cn,hcn,rfl,rfl,rfl⟩:=hcase
       have hlo:=zq5 hx hs h2 hp1
       conv=>whnf
       refine ⟨Fz.r F,rfl,?_⟩;conv=>whnf
       refine ⟨Fz.r F,rfl,?_⟩;conv=>whnf
       refine ⟨nb rfl,_,rfl,?_⟩;conv=>whnf
       refine ⟨rfl,rfl,?_⟩;conv=>whnf
       refine ⟨nb rfl,fun c' hc=>?_⟩
       clear hc;conv=>whnf
       refine ⟨Fz.r F,rfl,?_⟩;conv=>whnf
       have h33:zca s p m [] (getI s 0).2.1 = zca s p (m - ([] ++ [x]).length) ([] ++ [x]) q2:=by rw [h3]; show zca s p (m - 0) [] q = _; rw [hf,zca,hx]; rfl
       exact ⟨⟨([] ++ [x],c',capx 0 cn caps,q2),⟨by show 1 ≤ m; exact gl,hlo.1,h33,zsi h4 hcn,zvr h5 hlo.2⟩⟩,by show m - 1 < m - 0; omega,
        leR [(4,.to 8),(5,.fn (gx 0) [5,6])] hH hT rfl ⟨tv,zh6 (by omega) _ _ _,za2 s _,zam (by omega) _ _ _,zau _ _ _,tv⟩ ⟨cnt (by omega),tv⟩
        ⟨Fz.r F,zt4 (μ:=sig [(4,.to 8),(5,.fn (gx 0) [5,6])]) (j:=8) rfl c' _ [] x rfl,rfl,congrArg (fun L=>SB.arr 259 2 L c') (zor (μ:=sig [(4,.to 8),(5,.fn (gx 0) [5,6])]) (acc:=[]) x (fun k=>rfl) rfl),zuk (acc:=[]) x rfl rfl,tv⟩⟩
     ·replace h1:ar.length + 1 ≤ m:=h1
      replace gl:ar.length + 1 < m:=gl
      conv=>whnf
      refine drawP hΘ mixed (lk [0,1,2,3,4,5] (.alt 6 (.alt 7 (.alt 8 (.look 9 (.last 10 .done)) .nil) .nil) .nil)) [2] (by kernel_rfl) ?_;conv=>whnf
      repeat' ((conv=>whnf); first
       |refine ⟨rfl,?_⟩
       |refine ⟨Fz.r _,rfl,?_⟩
       |refine ⟨Fz.r _,rfl,rfl,?_⟩
       |refine ⟨⟨by simp,by simp⟩,?_⟩
       |fail)
      conv=>whnf
      refine lend 5 (fun k=>(famE caps (a0 :: ar)).at k) rfl rfl rfl (fun k _=>zbu _ _ _) (fun k _=>za8 _ _ _) ?_
      intro bf G1 lg1 hbf
      refine lend 4 (fun _=>.arr 259 2 ((zbg 5 caps 0 (a0 :: ar)).map (List.map (SA.ren (mfz bf)))) c) rfl rfl rfl (fun _ _=>congrArg (fun L=>SB.arr 259 2 L c) (zij (μ':=mfz bf) (B:=5) (by intro k; rfl) caps 0 (a0 :: ar))) (fun _ _=>znr bf caps 0 (a0 :: ar)) ?_
      intro b4 G2 lg2 hb4
      refine use (zqj hCF G2 s p q _ (a0 :: ar) (z4k (bf:=bf) (caps:=caps) (by simp) (hb4 0 ⟨rfl,rfl⟩) (fun k hk=>lg2 _ _ (hbf k hk)) h4) hs hp1 h2 (by simp; omega) h5) [(1,3)] rfl ⟨rfl,rfl,⟨rfl,rfl,rfl,.inr ⟨rfl,rfl,rfl,rfl⟩⟩,tv⟩ rfl ⟨za2 _ _,tv⟩ (by simp [SV.below,SA.below]) ⟨rfl,tv⟩ ?_
      rintro out0 F0 h0 n0 hle ⟨rfl,hcase⟩
      have hx:lineS s p (a0 :: ar) q = none ∨ ∃ x q2,lineS s p (a0 :: ar) q = some (x,q2):=by
       cases lineS s p (a0 :: ar) q with
       |none=>exact .inl rfl
       |some z=>exact .inr ⟨z.1,z.2,rfl⟩
      have hf:m - (ar.length + 1) = (m - (ar.length + 1 + 1)) + 1:=by omega
      rcases hx with hx | ⟨x,q2,hx⟩
      ·rw [hx] at hcase
       obtain ⟨q3,rfl,rfl,rfl⟩:=hcase
       refine ⟨G2,rfl,Fz.r _,rfl,?_⟩
       refine ⟨G1,rfl,Fz.r _,rfl,?_⟩;conv=>whnf
       refine clean [] (.panic perr) F [] 1 ⟨Fz.r F,zfd ?_⟩ rfl rfl rfl trivial trivial ⟨Fz.r F,tv⟩
       have h33:zca s p m [] (getI s 0).2.1 = none:=by rw [h3]; show zca s p (m - (ar.length + 1)) (a0 :: ar) q = none; rw [hf,zca,hx]
       rw [hR,h33]
      ·rw [hx] at hcase
       obtain ⟨cn,hcn,rfl,rfl,rfl⟩:=hcase
       refine ⟨G2,rfl,Fz.r _,rfl,?_⟩
       refine ⟨G1,rfl,Fz.r _,rfl,?_⟩
       have hlo:=zq5 hx hs h2 hp1
       conv=>whnf
       refine ⟨Fz.r F,rfl,?_⟩;conv=>whnf
       refine ⟨Fz.r F,rfl,?_⟩;conv=>whnf
       refine ⟨nb rfl,_,rfl,?_⟩;conv=>whnf
       refine ⟨rfl,rfl,(zih 5 caps 0 (a0 :: ar)).symm,rfl,by show (ar.length + 1 + 1) * 40 ≤ 140737488355328; omega,fun c' hc=>?_⟩
       clear hc;conv=>whnf
       refine ⟨Fz.r F,rfl,?_⟩;conv=>whnf
       have h33:zca s p m [] (getI s 0).2.1 = zca s p (m - ((a0 :: ar) ++ [x]).length) ((a0 :: ar) ++ [x]) q2:=by
        rw [h3]; show zca s p (m - (ar.length + 1)) (a0 :: ar) q = _
        rw [hf,zca,hx,qa]; rfl
       exact ⟨⟨((a0 :: ar) ++ [x],c',capx (ar.length + 1) cn caps,q2),⟨by rw [qa]; exact gl,hlo.1,h33,zsi h4 hcn,zvr h5 hlo.2⟩⟩,by show m - ((a0 :: ar) ++ [x]).length < m - (ar.length + 1); rw [qa]; simp; omega,
        leR [(4,.to 8),(5,.fn (gx (ar.length + 1)) [5,6])] hH hT rfl ⟨tv,zh6 (by omega) _ _ _,za2 s _,zam (by omega) _ _ _,zau _ _ _,tv⟩ ⟨by show SA.int .i64 _ = SA.int .i64 _; rw [qa]; exact cnt (by simp; omega),tv⟩
        ⟨Fz.r F,zt4 (μ:=sig [(4,.to 8),(5,.fn (gx (ar.length + 1)) [5,6])]) (j:=8) rfl c' _ (a0 :: ar) x rfl,rfl,congrArg (fun L=>SB.arr 259 2 L c') (zor (μ:=sig [(4,.to 8),(5,.fn (gx (ar.length + 1)) [5,6])]) (acc:=a0 :: ar) x (fun k=>rfl) rfl),zuk (acc:=a0 :: ar) x rfl rfl,tv⟩⟩
    ·have gl:acc.length = m:=by
      have h0:¬ (acc.length:Int) < (getI s 0).1:=oe gb
      rw [em] at h0; omega
     clear gb
     have h33:zca s p m [] (getI s 0).2.1 = some (acc,q):=by rw [h3,show m - acc.length = 0 by omega,zca]
     rw [h33] at hR
     replace hR:readS p s = if q = s.length then some ⟨false,acc,0,0,[]⟩ else none:=hR
     conv=>whnf
     refine useFo (zcb F (decide (q = (s.length:Int)))) rfl ⟨rfl,tv⟩ rfl ?_
     rintro _ _ l2 ⟨rfl,⟨hb,rfl⟩ | ⟨hb,rfl⟩⟩
     ·conv=>whnf
      refine clean [(1,4),(2,5)] (.ret (valV ⟨false,acc,0,0,[]⟩ 1 c)) F [(1,zba 2 caps c acc),(2,famE caps acc)] 3 ⟨Fz.r F,zla (v:=⟨false,acc,0,0,[]⟩) ?_⟩ ?_ rfl rfl (zk4 (by omega) _ _) ⟨zam (by omega) _ _ _,zau _ _ _,tv⟩ ⟨Fz.r F,ztv (fun k=>rfl),zbr,tv⟩
      ·rw [hR,if_pos (od hb)]
      ·exact (zsd (i:=1) (j:=4) rfl ⟨false,acc,0,0,[]⟩ c).trans (zsd (i:=4) (j:=4) (by rfl) ⟨false,acc,0,0,[]⟩ c).symm
     ·conv=>whnf
      refine clean [] (.panic perr) F [] 1 ⟨Fz.r F,zfd ?_⟩ rfl rfl rfl trivial trivial ⟨Fz.r F,tv⟩
      rw [hR,if_neg (oe hb)]
   ·rw [if_neg hn] at hcase
    obtain ⟨ho,hh⟩:=hcase
    subst ho; subst hh
    have hR:readS p s = none:=by rw [readS,if_neg (by omega),if_neg hne,if_neg (by omega),if_neg (by omega),if_neg hn]
    conv=>whnf
    refine clean [] (.panic perr) F [] 1 ⟨Fz.r F,zfd ?_⟩ rfl rfl rfl trivial trivial ⟨Fz.r F,tv⟩
    exact hR
 ·exfalso; have:=oe (p:=1 ≤ p ∧ p ≤ 8) (by simpa using hb); omega
end Go.Proofs.YtfnkamphhpldcaaGreatDoor
