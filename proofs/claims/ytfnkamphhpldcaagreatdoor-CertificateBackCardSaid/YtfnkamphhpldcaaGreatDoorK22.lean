import Derived.Test.YtfnkamphhpldcaaGreatDoorK21
import Derived.Test.YtfnkamphhpldcaaGreatDoorK18
set_option maxHeartbeats 64000000
namespace Go.Proofs.YtfnkamphhpldcaaGreatDoor
open Go Sx
set_option maxRecDepth 100000
def TFun:Prop:=∀ (F:Fz) (s:List UInt8),s.length ≤ 70000 → Fo Tryz.prog F 184 [.va (.str s),.va (.str [48,49])] (fun o F'=>F = F' ∧ ∃ r:List UInt8,o = .ret (.va (.str r)) ∧ (r = [] ↔ s.all (fun b=>b == 48 || b == 49) = true))
theorem znl (F:Fz) (s:List UInt8) (hs:s.length ≤ 1000000000000000000) (hne:¬ s = []):Ct Tryz.prog 129 [.va (.int .i64 8),.va (.str s)] F [] 1 (readK F 8 s):=by
 have hnum:=zes F s 0 0 64 hs (by unfold i64; omega)
 have hR:readS 8 s = if zb1 s 0 0 64 = true ∧ zb1 s (getI s 0).2.1 0 64 = true ∧ (getI s (getI s 0).2.1).2.1 = s.length then some ⟨false,[],(getI s 0).1,(getI s (getI s 0).2.1).1,[]⟩ else none:=by
  rw [readS,if_neg (by omega),if_neg hne,if_pos rfl]
 refine ct_of hΘ Tryz.func129 rfl (by decide) _ _ rfl rfl rfl ?_;conv=>whnf
 refine usePu (zdi 8 1 8 F) rfl (zaa _) rfl ?_;conv=>whnf
 refine useFo (zcb F true) rfl ⟨rfl,tv⟩ rfl ?_
 rintro _ _ l1 ⟨rfl,⟨hb,rfl⟩ | ⟨hb,rfl⟩⟩
 ·conv=>whnf
  refine br (fun g=>absurd (by simpa using g) hne) (fun _=>?_);conv=>whnf
  refine bre (by decide) ?_;conv=>whnf
  refine use hnum [(1,3)] rfl ⟨rfl,rfl,rfl,tv⟩ rfl ⟨za2 _ _,tv⟩ (by simp [SV.below,SA.below]) ⟨rfl,tv⟩ ?_
  rintro out0 F0 h0 n0 hle ⟨rfl,rfl,hcase⟩
  by_cases hn:zb1 s 0 0 64 = true
  ·rw [if_pos hn] at hcase
   obtain ⟨rfl,rfl⟩:=hcase
   have hok:=zfj (zeq hn)
   conv=>whnf
   refine use (zes F s (getI s 0).2.1 0 64 hs ⟨by omega,by omega⟩) [(1,3)] rfl ⟨rfl,rfl,rfl,tv⟩ rfl ⟨za2 _ _,tv⟩ (by simp [SV.below,SA.below]) ⟨rfl,tv⟩ ?_
   rintro out0 F0 h0 n0 hle ⟨rfl,rfl,hcase⟩
   by_cases hn2:zb1 s (getI s 0).2.1 0 64 = true
   ·rw [if_pos hn2] at hcase
    obtain ⟨rfl,rfl⟩:=hcase
    conv=>whnf
    refine useFo (zcb F (decide ((getI s (getI s 0).2.1).2.1 = (s.length:Int)))) rfl ⟨rfl,tv⟩ rfl ?_
    rintro _ _ l2 ⟨rfl,⟨hb2,rfl⟩ | ⟨hb2,rfl⟩⟩
    ·conv=>whnf
     exact zma (by rw [hR,if_pos ⟨hn,hn2,od hb2⟩]) rfl rfl
    ·conv=>whnf
     exact zcp (by rw [hR,if_neg (fun h=>oe hb2 h.2.2)]) rfl
   ·rw [if_neg hn2] at hcase
    obtain ⟨rfl,rfl⟩:=hcase
    conv=>whnf
    exact zcp (by rw [hR,if_neg (fun h=>hn2 h.2.1)]) rfl
  ·rw [if_neg hn] at hcase
   obtain ⟨rfl,rfl⟩:=hcase
   conv=>whnf
   exact zcp (by rw [hR,if_neg (fun h=>hn h.1)]) rfl
 ·cases hb
theorem zl6 (hT:TFun) (F:Fz) (s:List UInt8) (p:Int) (hp:p = 6 ∨ p = 7) (hs:s.length ≤ 1000000000000000000) (hne:¬ s = []):Ct Tryz.prog 129 [.va (.int .i64 p),.va (.str s)] F [] 1 (readK F p s):=by
 have hnum:=zes F s 0 0 32 hs (by unfold i64; omega)
 obtain ⟨w,hw⟩:∃ w,(getI s 0).1 = w:=⟨_,rfl⟩
 obtain ⟨q,hq⟩:∃ q,(getI s 0).2.1 = q:=⟨_,rfl⟩
 obtain ⟨h,hh⟩:∃ h,(getI s q).1 = h:=⟨_,rfl⟩
 obtain ⟨q2,hq2⟩:∃ q2,(getI s q).2.1 = q2:=⟨_,rfl⟩
 have hR:readS p s = if zb1 s 0 0 32 = true ∧ zb1 s q (min w 1) (min w 1 * 32) = true then
   if p = 7 then
    if (getS s q2).2.2 = 0 ∧ ((getS s q2).1.length:Int) = w * h ∧ (getS s q2).1.all (fun b=>b == 48 || b == 49) = true ∧ (getS s q2).2.1 = s.length then some ⟨false,[],w,h,(getS s q2).1⟩ else none
   else if q2 = s.length then some ⟨false,[],w,h,[]⟩ else none
  else none:=by
  rw [readS,if_neg (by omega),if_neg hne,if_neg (by omega),if_pos (by omega)]
  simp only [hw,hq,hh,hq2]
 rw [hw,hq] at hnum
 have hok1:=fun (hn:zb1 s 0 0 32 = true)=>zfj (zeq hn)
 rw [hq] at hok1
 have hw32:zb1 s 0 0 32 = true → 0 ≤ w ∧ w ≤ 32:=fun hn=>by
  simp only [zb1,qd,decide_eq_true_eq,hw] at hn; exact hn.2
 refine ct_of hΘ Tryz.func129 rfl (by decide) _ _ rfl rfl rfl ?_;conv=>whnf
 refine usePu (zdi p 1 8 F) rfl (zaa _) rfl ?_;conv=>whnf
 refine useFo (zcb F (decide (1 ≤ p) && decide (p ≤ 8))) rfl ⟨rfl,tv⟩ rfl ?_
 rintro _ _ l1 ⟨rfl,⟨hb,rfl⟩ | ⟨hb,rfl⟩⟩
 ·conv=>whnf
  refine br (fun g=>absurd (by simpa using g) hne) (fun _=>?_);conv=>whnf
  refine br (fun g=>absurd (od g) (by omega)) (fun _=>?_);conv=>whnf
  refine br (fun _=>?_) (fun g=>absurd (oe g) (by omega));conv=>whnf
  refine use hnum [(1,3)] rfl ⟨rfl,rfl,rfl,tv⟩ rfl ⟨za2 _ _,tv⟩ (by simp [SV.below,SA.below]) ⟨rfl,tv⟩ ?_
  rintro out0 F0 h0 n0 hle ⟨rfl,rfl,hcase⟩
  by_cases hn:zb1 s 0 0 32 = true
  ·rw [if_pos hn] at hcase
   obtain ⟨rfl,rfl⟩:=hcase
   have hok:=hok1 hn
   have hwb:=hw32 hn
   have e1:(if 1 < w then 1 else w) = min w 1:=by split<;>omega
   have e2:IntKind.i64.wrap ((if 1 < w then 1 else w) * 32) = min w 1 * 32:=by rw [e1,zal (by omega) (by omega)]
   have hnum2:=zes F s q (if 1 < w then 1 else w) (IntKind.i64.wrap ((if 1 < w then 1 else w) * 32)) hs ⟨by omega,by omega⟩
   conv=>whnf
   refine use hnum2 [(1,3)] rfl ⟨rfl,rfl,rfl,tv⟩ rfl ⟨za2 _ _,tv⟩ (by simp [SV.below,SA.below]) ⟨rfl,tv⟩ ?_
   rintro out0 F0 h0 n0 hle ⟨rfl,rfl,hcase⟩
   rw [e1,zal (n:=min w 1 * 32) (by omega) (by omega),hh,hq2] at hcase
   by_cases hn2:zb1 s q (min w 1) (min w 1 * 32) = true
   ·rw [if_pos hn2] at hcase
    obtain ⟨rfl,rfl⟩:=hcase
    have hok2:=zfj (zeq hn2)
    rw [hq2] at hok2
    have hhb:min w 1 ≤ h ∧ h ≤ min w 1 * 32:=by
     simp only [zb1,qd,decide_eq_true_eq,hh] at hn2; exact hn2.2
    rw [if_pos ⟨hn,hn2⟩] at hR
    have hwh:0 ≤ w * h ∧ w * h ≤ 1024:=by
     refine ⟨qb5 (by omega) (by omega),?_⟩
     have:w * h ≤ 32 * 32:=qb6 (by omega) (by omega) (by omega) (by omega)
     omega
    conv=>whnf
    refine br (fun g7=>?_) (fun g7=>?_)
    ·have g7':p = 7:=od g7
     rw [if_pos g7'] at hR
     conv=>whnf
     refine use (zsp F s q2 hs ⟨by omega,by omega⟩) [(1,3)] rfl ⟨rfl,tv⟩ rfl ⟨za2 _ _,tv⟩ (by simp [SV.below,SA.below]) ⟨rfl,tv⟩ ?_
     rintro out0 F0 h0 n0 hle ⟨rfl,rfl,hcase⟩
     by_cases he:(getS s q2).2.2 = 0
     ·rw [if_pos he] at hcase
      obtain ⟨rfl,rfl⟩:=hcase
      have ew:IntKind.i64.wrap (w * h) = w * h:=zal (by omega) (by omega)
      conv=>whnf
      refine ⟨fun gl=>?_,fun gl=>?_⟩
      ·have gl':((getS s q2).1.length:Int) = w * h:=by
        have h0:=od gl
        rw [← ew]; exact h0
       clear gl;conv=>whnf
       refine useFo (hT F (getS s q2).1 (by omega)) rfl (zaa _) rfl ?_
       rintro _ _ l2 ⟨rfl,r,rfl,hr⟩;conv=>whnf
       refine useFo (zcb F (r == [])) rfl ⟨rfl,tv⟩ rfl ?_
       rintro _ _ l2 ⟨rfl,⟨hb2,rfl⟩ | ⟨hb2,rfl⟩⟩
       ·have hall:=hr.1 (by simpa using hb2)
        conv=>whnf
        refine useFo (zcb F (decide ((getS s q2).2.1 = (s.length:Int)))) rfl ⟨rfl,tv⟩ rfl ?_
        rintro _ _ l2 ⟨rfl,⟨hb3,rfl⟩ | ⟨hb3,rfl⟩⟩
        ·conv=>whnf
         exact zma (by rw [hR,if_pos ⟨he,gl',hall,od hb3⟩]) rfl rfl
        ·conv=>whnf
         exact zcp (by rw [hR,if_neg (fun h=>oe hb3 h.2.2.2)]) rfl
       ·have hall:¬ (getS s q2).1.all (fun b=>b == 48 || b == 49) = true:=fun h=>by
         rw [hr.2 h] at hb2; cases hb2
        conv=>whnf
        exact zcp (by rw [hR,if_neg (fun h=>hall h.2.2.1)]) rfl
      ·have gl':¬ ((getS s q2).1.length:Int) = w * h:=by
        have h0:=oe gl
        rw [← ew]; exact h0
       clear gl;conv=>whnf
       refine useFo (zcb F false) rfl ⟨rfl,tv⟩ rfl ?_
       rintro _ _ l2 ⟨rfl,⟨hb2,rfl⟩ | ⟨hb2,rfl⟩⟩
       ·cases hb2
       ·conv=>whnf
        exact zcp (by rw [hR,if_neg (fun h=>gl' h.2.1)]) rfl
     ·rw [if_neg he] at hcase
      obtain ⟨rfl,rfl⟩:=hcase
      conv=>whnf
      exact zcp (by rw [hR,if_neg (fun h=>he h.1)]) rfl
    ·have g7':¬ p = 7:=oe g7
     rw [if_neg g7'] at hR
     conv=>whnf
     refine useFo (zcb F (decide (q2 = (s.length:Int)))) rfl ⟨rfl,tv⟩ rfl ?_
     rintro _ _ l2 ⟨rfl,⟨hb3,rfl⟩ | ⟨hb3,rfl⟩⟩
     ·conv=>whnf
      exact zma (by rw [hR,if_pos (od hb3)]) rfl rfl
     ·conv=>whnf
      exact zcp (by rw [hR,if_neg (oe hb3)]) rfl
   ·rw [if_neg hn2] at hcase
    obtain ⟨rfl,rfl⟩:=hcase
    conv=>whnf
    exact zcp (by rw [hR,if_neg (fun h=>hn2 h.2)]) rfl
  ·rw [if_neg hn] at hcase
   obtain ⟨rfl,rfl⟩:=hcase
   conv=>whnf
   exact zcp (by rw [hR,if_neg (fun h=>hn h.1)]) rfl
 ·exfalso; have:¬ (1 ≤ p ∧ p ≤ 8):=fun h=>by simp [h] at hb
  omega
theorem z5n (hCF:CFun) (hT:TFun) (F:Fz) (s:List UInt8) (p:Int) (hs:s.length ≤ 1000000000000000000):Ct Tryz.prog 129 [.va (.int .i64 p),.va (.str s)] F [] 1 (readK F p s):=by
 by_cases hp:1 ≤ p ∧ p ≤ 8
 ·by_cases hne:s = []
  ·subst hne; exact zo4 F p hp
  ·by_cases h8:p = 8
   ·subst h8; exact znl F s hs hne
   ·by_cases h6:6 ≤ p
    ·exact zl6 hT F s p (by omega) hs hne
    ·exact zo0 hCF F s p hs (by omega) hne
 ·exact ztp F s p hp
def PFun:Prop:=∀ (F:Fz) (n:Int),Fo Tryz.prog F 78 [.va (.int .i64 n)] (fun o F'=>o = .ret (.tup [.va (.str (putIR n).1),.va (.int .i64 (putIR n).2)]) ∧ F' = F)
theorem zd8 (hP:PFun) (F:Fz) (s:List UInt8) (hs:s.length ≤ 9000000000000000000):Fo Tryz.prog F 79 [.va (.str s)] (fun o F'=>o = .ret (.tup [.va (.str (putSR s).1),.va (.int .i64 (putSR s).2)]) ∧ F' = F):=by
 refine fo_of hΘ Tryz.func79 rfl (by decide) _ _ rfl rfl rfl ?_;conv=>whnf
 refine br (fun g=>?_) (fun g=>?_)
 ·have g1:65536 < s.length:=by have h0:(65536:Int) < s.length:=(by simpa using g); omega
  conv=>whnf
  exact endFo (.ret (.tup [.va (.str []),.va (.int .i64 10)])) F rfl (Fz.r F) (Fz.r F) ⟨by rw [putSR,if_pos g1],rfl⟩ (zaj _) rfl
 ·have g1:¬ 65536 < s.length:=by have h0:¬ (65536:Int) < s.length:=(by simpa using g); omega
  have e1:putIR s.length = (putI s.length,0):=by rw [putIR,if_neg (by omega)]
  have e2:putSR s = (putI s.length ++ s,0):=by rw [putSR,if_neg g1]
  conv=>whnf
  refine usePu (hP F s.length) rfl (zaa _) rfl ?_;conv=>whnf
  have hl:=zd3 s.length
  refine ⟨by omega,?_⟩;conv=>whnf
  exact endFo (.ret (.tup [.va (.str ((putIR s.length).1 ++ s)),.va (.int .i64 0)])) F rfl (Fz.r F) (Fz.r F) ⟨by rw [e2,e1],rfl⟩ (zaj _) rfl
def outC (i j c:Nat) (l:List UInt8):Ent:=.one (.cells 81 [gA 1 j c l])
theorem za5 {n j:Nat} (h:j < n) (i c:Nat) (l:List UInt8):(outC i j c l).below n:=by
 intro a ha
 simp only [qj,qq,or_false] at ha
 subst ha
 cases l with
 |nil=>trivial
 |cons x r=>exact .inr h
abbrev outN (c:Nat) (l:List UInt8):List (Nat × Ent):=[(1,outC 1 3 c l),(2,.gone),(3,gE 5 1 encB c l)]
theorem zgf (c:Nat) (l:List UInt8):bH 4 (outN c l):=⟨za5 (by omega) _ _ _,tv,zai zab _ _ _ _ _,tv⟩
theorem zi3 {μ:Mu} {j j':Nat} (h:μ j 0 = (j',0)) (i c:Nat) (l:List UInt8):(outC i j c l).ren μ = outC i j' c l:=by
 show Ent.one (.cells _ [(gA 1 j c l).ren μ]) = _
 rw [zsn h]; rfl
theorem zhd {μ:Mu} {j j':Nat} (h:μ j 0 = (j',0)) {i i' c:Nat} {l:List UInt8}:subE (some (outC i' j' c l)) ((outC i j c l).ren μ):=by rw [zi3 h]; exact rfl
theorem ziz {μ:Mu} {j j':Nat} (h:μ j 0 = (j',0)) {i c n:Nat} {x:UInt8} {l:List UInt8} (hn:n = l.length + 1):subE (some (.one (.cells 81 [.slice false j' 0 0 1 n c]))) ((outC i j c (x :: l)).ren μ):=by
 subst hn; rw [zi3 h]; exact rfl
abbrev outH (c:Nat) (l:List UInt8):List (Nat × Ent):=[(1,outC 1 2 c l),(2,gE 5 1 encB c l)]
theorem zpz (hP:PFun) (F:Fz) (s out:List UInt8) (c:Nat) (hs:s.length ≤ 9000000000000000000) (ho:out.length ≤ 1000000000000) :
  Ct Tryz.prog 197 [.va (.str s),.va (.ptr ⟨1,0,0,0,0⟩)] F (outH c out) 3
   (fun o F0 h0 n0=>F = F0 ∧ n0 = 4 ∧ o = .ret (.tup []) ∧ ∃ c',h0 = outN c' (out ++ (putSR s).1)):=by
 have hps:=zd8 hP F s hs
 have hl:=zdg s
 obtain ⟨t,ht⟩:∃ t,(putSR s).1 = t:=⟨_,rfl⟩
 rw [ht] at hps hl ⊢
 rcases out with _ | ⟨x,r⟩
 ·rcases t with _ | ⟨b,t⟩
  ·refine ct_of hΘ Tryz.func197 rfl (by decide) _ _ rfl rfl rfl ?_;conv=>whnf
   refine usePu (hps) rfl (zaa _) rfl ?_;conv=>whnf
   refine ⟨rfl,rfl,?_⟩;conv=>whnf
   exact clean [(3,2)] (.ret (.tup [])) F (outN c []) 4 ⟨Fz.r F,rfl,rfl,rfl,c,rfl⟩ trivial rfl rfl (Out.bB_ok (o:=.ret (.tup [])) rfl) (zgf _ _) ⟨Fz.r F,rfl,zav zab (zax _ _ _ _),tv⟩
  ·refine ct_of hΘ Tryz.func197 rfl (by decide) _ _ rfl rfl rfl ?_;conv=>whnf
   refine usePu (hps) rfl (zaa _) rfl ?_;conv=>whnf
   refine ⟨rfl,rfl,?_⟩;conv=>whnf
   refine ⟨by show ((t.map fun b:UInt8=>[SA.int .u8 b.toNat]).length + 1) * 1 ≤ 140737488355328; rw [qb]; simp at hl; omega,fun c' hc=>?_⟩
   clear hc;conv=>whnf
   exact clean [(3,3)] (.ret (.tup [])) F (outN c' (b :: t)) 4 ⟨Fz.r F,rfl,rfl,rfl,c',rfl⟩ trivial rfl rfl (Out.bB_ok (o:=.ret (.tup [])) rfl) (zgf _ _) ⟨Fz.r F,ziz (i:=1) (j:=3) (j':=3) (by rfl) (by simp),zav zab (zcg _ (by rfl)),tv⟩
 ·replace ho:r.length + 1 ≤ 1000000000000:=ho
  refine ct_of hΘ Tryz.func197 rfl (by decide) _ _ rfl rfl rfl ?_;conv=>whnf
  refine usePu (hps) rfl (zaa _) rfl ?_;conv=>whnf
  refine ⟨rfl,rfl,by simp,rfl,by rw [qb]; show (r.length + 1 + t.length) * 1 ≤ 140737488355328; omega,fun c' hc=>?_⟩
  clear hc;conv=>whnf
  exact clean [(3,3)] (.ret (.tup [])) F (outN c' (x :: (r ++ t))) 4 ⟨Fz.r F,rfl,rfl,rfl,c',rfl⟩ trivial rfl rfl (Out.bB_ok (o:=.ret (.tup [])) rfl) (zgf _ _) ⟨Fz.r F,ziz (i:=1) (j:=3) (j':=3) (by rfl) (by rw [qb,qa]; omega),zav zab (zcg _ (by show ((x :: r).map encB) ++ (t.map encB) = (x :: (r ++ t)).map encB; simp)),tv⟩
theorem zjo (hP:PFun) (F:Fz) (sa:SA) (l:List Int) (out:List UInt8) (c:Nat) (ha:zd7 F sa l) (hl:l.length < 1000000) (ho:out.length ≤ 1000000000000) :
  Ct Tryz.prog 196 [.va sa,.va (.ptr ⟨1,0,0,0,0⟩)] F (outH c out) 3
   (fun o F0 h0 n0=>F = F0 ∧ n0 = 4 ∧ o = .ret (.tup []) ∧ ∃ c',h0 = outN c' (out ++ zae l)):=by
 obtain ⟨han,hab,hae,hac,haL,har,rfl,ha1,ha2,ha3,ha4⟩:=ha
 refine ct_of hΘ Tryz.func196 rfl (by decide) _ _ rfl rfl rfl ?_;conv=>whnf
 refine zan hΘ (X:={ x:Nat × List UInt8 × Nat // x.1 ≤ l.length ∧ x.2.1 = out ++ ((l.take x.1).map fun n=>(putIR n).1).flatten }) (fun x=>[(9,.va (.int .i64 x.1.1))]) [4,5,6,10,11,12,13,14,15,16,17,18,19,20,21]
  (fun x=>[(0,.frz F),(1,outC 1 3 x.1.2.2 x.1.2.1),(2,.gone),(3,gE 5 1 encB x.1.2.2 x.1.2.1)]) 4 (fun x=>l.length - x.1.1) ⟨(0,out,c),by simp⟩
  (fun hH hT=>leI [(3,2)] hH hT rfl ⟨tv,za5 (by omega) _ _ _,tv,zai zab _ _ _ _ _,tv⟩ ⟨rfl,tv⟩ ⟨Fz.r F,zhd (i:=1) (i':=1) (j:=3) (j':=2) (by rfl),zav zab (zax _ _ _ _),tv⟩) ?_
 rintro ⟨⟨k,ob,cb⟩,hk,hob⟩ hH hT
 replace hk:k ≤ l.length:=hk
 replace hob:ob = out ++ ((l.take k).map fun n=>(putIR n).1).flatten:=hob
 have hlen:ob.length ≤ 1000009000000:=by
  have h9:=zfn zd3 (l.take k)
  rw [qn] at h9
  rw [hob,qa]; omega
 conv=>whnf
 refine br (fun gb=>?_) (fun gb=>?_)
 ·have gk:k < l.length:=by simpa using gb
  clear gb
  have hps:=hP F l[k]
  have ht:∃ t,(putIR l[k]).1 = t:=⟨_,rfl⟩
  obtain ⟨t,ht⟩:=ht
  have htl:=zd3 l[k]
  have hob2:ob ++ t = out ++ ((l.take (k + 1)).map fun n=>(putIR n).1).flatten:=by rw [zbo gk,ht,hob,qk]
  rw [ht] at hps htl
  rcases ob with _ | ⟨x,r⟩
  ·rcases t with _ | ⟨b,t⟩
   ·conv=>whnf
    refine ⟨Sl.lt ha1 gk,⟨by simp,by simpa using gk⟩,?_⟩;conv=>whnf
    refine ⟨_,ha2 (Sl.lt ha1 gk),?_⟩;conv=>whnf
    refine ⟨_,Sl.at ha4 gk,?_⟩;conv=>whnf
    refine usePu (hps) rfl (zaa _) rfl ?_;conv=>whnf
    refine ⟨rfl,rfl,?_⟩;conv=>whnf
    exact ⟨⟨(k + 1,[],cb),by show k + 1 ≤ l.length; omega,hob2⟩,by show l.length - (k + 1) < l.length - k; omega,leR [(3,3)] hH hT rfl ⟨tv,za5 (by omega) _ _ _,tv,zai zab _ _ _ _ _,tv⟩ ⟨cnt (by omega),tv⟩ ⟨Fz.r F,rfl,zav zab (zax _ _ _ _),tv⟩⟩
   ·conv=>whnf
    refine ⟨Sl.lt ha1 gk,⟨by simp,by simpa using gk⟩,?_⟩;conv=>whnf
    refine ⟨_,ha2 (Sl.lt ha1 gk),?_⟩;conv=>whnf
    refine ⟨_,Sl.at ha4 gk,?_⟩;conv=>whnf
    refine usePu (hps) rfl (zaa _) rfl ?_;conv=>whnf
    refine ⟨rfl,rfl,?_⟩;conv=>whnf
    refine ⟨by show ((t.map fun b:UInt8=>[SA.int .u8 b.toNat]).length + 1) * 1 ≤ 140737488355328; rw [qb]; simp at htl; omega,fun c' hc=>?_⟩
    clear hc;conv=>whnf
    exact ⟨⟨(k + 1,b :: t,c'),by show k + 1 ≤ l.length; omega,hob2⟩,by show l.length - (k + 1) < l.length - k; omega,leR [(3,4)] hH hT rfl ⟨tv,za5 (by omega) _ _ _,tv,zai zab _ _ _ _ _,tv⟩ ⟨cnt (by omega),tv⟩ ⟨Fz.r F,ziz (i:=1) (j:=3) (j':=4) (by rfl) (by simp),zav zab (zcg _ (by rfl)),tv⟩⟩
  ·replace hlen:r.length + 1 ≤ 1000009000000:=hlen
   conv=>whnf
   refine ⟨Sl.lt ha1 gk,⟨by simp,by simpa using gk⟩,?_⟩;conv=>whnf
   refine ⟨_,ha2 (Sl.lt ha1 gk),?_⟩;conv=>whnf
   refine ⟨_,Sl.at ha4 gk,?_⟩;conv=>whnf
   refine usePu (hps) rfl (zaa _) rfl ?_;conv=>whnf
   refine ⟨rfl,rfl,by simp,rfl,by rw [qb]; show (r.length + 1 + t.length) * 1 ≤ 140737488355328; omega,fun c' hc=>?_⟩
   clear hc;conv=>whnf
   exact ⟨⟨(k + 1,x :: (r ++ t),c'),by show k + 1 ≤ l.length; omega,hob2⟩,by show l.length - (k + 1) < l.length - k; omega,leR [(3,4)] hH hT rfl ⟨tv,za5 (by omega) _ _ _,tv,zai zab _ _ _ _ _,tv⟩ ⟨cnt (by omega),tv⟩ ⟨Fz.r F,ziz (i:=1) (j:=3) (j':=4) (by rfl) (by rw [qb,qa]; omega),zav zab (zcg _ (by show ((x :: r).map encB) ++ (t.map encB) = (x :: (r ++ t)).map encB; simp)),tv⟩⟩
 ·have gk:¬ k < l.length:=by simpa using gb
  have hfin:ob = out ++ zae l:=by rw [hob,zae,qm (by omega)]
  conv=>whnf
  exact clean [(3,3)] (.ret (.tup [])) F (outN cb ob) 4 ⟨Fz.r F,rfl,rfl,rfl,cb,by rw [hfin]⟩ trivial rfl rfl (Out.bB_ok (o:=.ret (.tup [])) rfl) (zgf _ _) ⟨Fz.r F,zhd (i:=1) (i':=1) (j:=3) (j':=3) (by rfl),zav zab (zax _ _ _ _),tv⟩
def lineW (p:Int) (x:Ln):List UInt8:=(if p = 1 then (putSR x.1).1 else []) ++ zae x.2
def zbh (p:Int) (v:Val):List UInt8:=
 if v.lost = true then [] else
 if 6 ≤ p then zae [v.w,v.h] ++ (if p = 7 then (putSR v.bits).1 else []) else
 zae [(v.lines.length:Int)] ++ (v.lines.map (lineW p)).flatten
theorem zaz (l:List Int):(zae l).length ≤ 9 * l.length:=zfn zd3 l
abbrev valH (v:Val) (c:Nat) (caps:Nat → Nat):List (Nat × Ent):=[(1,zba 2 caps c v.lines),(2,famE caps v.lines)]
theorem za4 {μ:Mu} {B B':Nat} {caps:Nat → Nat} {c:Nat} {l:List Ln} (h:∀ k,μ B k = (B',k)):subE (some (zba B' caps c l)) ((zba B caps c l).ren μ):=
 ⟨rfl,congrArg (fun L=>SB.arr 259 2 L c) (zed (m:=l.length) (fun k _=>⟨h k,rfl⟩) 0 l (by omega)).symm⟩
theorem zv7 (v:Val) (c:Nat) (caps:Nat → Nat):bH 3 (valH v c caps):=⟨zam (by omega) _ _ _,zau _ _ _,tv⟩
theorem convR (μ:Mu) (l:List UInt8) (n:Nat) (hn:n = l.length):(((l.map encB).map (List.map (SA.ren μ))).drop 0).take n = l.map encB:=by
 subst hn
 have h:(l.map encB).map (List.map (SA.ren μ)) = l.map encB:=by rw [yd]; exact jx fun x _=>rfl
 rw [h,qai,qm (by simp)]
theorem zbb {α:Type} {e:α → List SA} (he:Plain e) {t sz c:Nat} {τ μ:Mu} {l:List α}:subE (some ((gE t sz e c l).ren τ)) ((gE t sz e c l).ren μ):=by rw [zfv he,zfv he]; exact zax _ _ _ _
theorem zdf {F F1:Fz} {v:Val} {c:Nat} {caps:Nat → Nat} {p:Int} {t:List UInt8} {h:Hp} {nx:Nat} (ht:t = zbh p v) (hle:Fz.le F F1) (h0:lget h 0 = some (.frz F1)) (h1:lget h 1 = some (zba 2 caps c v.lines)) (h2:lget h 2 = some (famE caps v.lines)) :
  Cln 3 (fun o F0 h0 n0=>Fz.le F F0 ∧ (n0 = 3 ∧ o = .ret (.va (.str (zbh p v))) ∧ h0 = valH v c caps)) (.ret (.va (.str t))) h nx:=
 clean [] (.ret (.va (.str t))) F1 (valH v c caps) 3 ⟨hle,rfl,by rw [ht],rfl⟩ rfl rfl rfl trivial (zv7 _ _ _)
  ⟨by show subE (lget h 0) (.frz F1); rw [h0]; exact Fz.r F1,by show subE (lget h 1) ((zba 2 caps c v.lines).ren (sig [])); rw [h1]; exact za4 (fun k=>rfl),by show subE (lget h 2) ((famE caps v.lines).ren (sig [])); rw [h2]; exact zbr,tv⟩
theorem zoz (F:Fz) (v:Val) (c:Nat) (caps:Nat → Nat) (p:Int) (hv:v.lost = true) :
  Ct Tryz.prog 131 [valV v 1 c,.va (.int .i64 p)] F (valH v c caps) 3 (fun o F0 h0 n0=>n0 = 3 ∧ o = .ret (.va (.str (zbh p v))) ∧ h0 = valH v c caps):=by
 obtain ⟨lost,lines,w,h,bits⟩:=v
 replace hv:lost = true:=hv
 subst hv
 refine ct_of hΘ Tryz.func131 rfl (by decide) _ _ rfl rfl rfl ?_;conv=>whnf
 exact zdf (by rw [zbh,if_pos rfl]) (Fz.r F) rfl rfl rfl
theorem zkn (hP:PFun) (F:Fz) (v:Val) (c:Nat) (caps:Nat → Nat) (p:Int) (hv:v.lost = false) (hp:p = 6 ∨ p = 7 ∨ p = 8) (hb:v.bits.length ≤ 70000) :
  Ct Tryz.prog 131 [valV v 1 c,.va (.int .i64 p)] F (valH v c caps) 3 (fun o F0 h0 n0=>n0 = 3 ∧ o = .ret (.va (.str (zbh p v))) ∧ h0 = valH v c caps):=by
 obtain ⟨lost,lines,w,h,bits⟩:=v
 replace hv:lost = false:=hv
 subst hv
 replace hb:bits.length ≤ 70000:=hb
 have hW:zbh p ⟨false,lines,w,h,bits⟩ = zae [w,h] ++ (if p = 7 then (putSR bits).1 else []):=by rw [zbh,if_neg (by simp),if_pos (by omega)]
 obtain ⟨o1,ho1⟩:∃ o1,[] ++ zae [w,h] = o1:=⟨_,rfl⟩
 have hol:o1.length ≤ 100:=by rw [← ho1]; have:=zaz [w,h]; simp at this ⊢; omega
 refine ct_of hΘ Tryz.func131 rfl (by decide) _ _ rfl rfl rfl ?_;conv=>whnf
 refine br (fun _=>?_) (fun g=>absurd (oe g) (by omega));conv=>whnf
 refine za0 5 (fun _=>.arr 3 1 ([w,h].map encI) 2) rfl rfl rfl (fun _ _=>rfl) (fun _ _=>SB.bB_ok rfl) ?_
 intro b1 F1 l1 hb1
 have hput:=zjo hP F1 _ [w,h] [] 0 (Sl.new (l:=[w,h]) (cap:=2) (hb1 0 rfl)) (by simp) (by simp)
 rw [ho1] at hput
 have hex2:∃ o2,o1 ++ (putSR bits).1 = o2:=⟨_,rfl⟩
 rcases o1 with _ | ⟨x,r⟩
 ·skip
  refine use hput [(1,4),(2,5)] rfl ⟨⟨rfl,rfl,rfl,.inr ⟨rfl,rfl,rfl,rfl⟩⟩,rfl,tv⟩ rfl ⟨za5 (by omega) _ _ _,zai zab _ _ _ _ _,tv⟩ (by simp [SV.below,SA.below]) ⟨rfl,rfl,tv⟩ ?_
  rintro out0 F0 h0 n0 hle ⟨rfl,rfl,rfl,c1,rfl⟩;conv=>whnf
  refine br (fun g7=>?_) (fun g7=>?_)
  ·have g7':p = 7:=od g7
   obtain ⟨o2,ho2⟩:=hex2
   have hW2:o2 = zbh p ⟨false,lines,w,h,bits⟩:=by rw [hW,if_pos g7',← qu (zae [w,h]),ho1]; exact ho2.symm
   have hputs:∀ c1,Ct Tryz.prog 197 [.va (.str bits),.va (.ptr ⟨1,0,0,0,0⟩)] F1 (outH c1 []) 3 (fun o F0 h0 n0=>F1 = F0 ∧ n0 = 4 ∧ o = .ret (.tup []) ∧ ∃ c',h0 = outN c' o2):=fun c1=>by
    have:=zpz hP F1 bits [] c1 (by omega) (jk hol (by omega))
    rw [ho2] at this; exact this
   conv=>whnf
   rcases o2 with _ | ⟨y,q⟩
   ·refine use (hputs c1) [(1,4),(2,6)] rfl ⟨rfl,rfl,tv⟩ rfl ⟨za5 (by omega) _ _ _,zai zab _ _ _ _ _,tv⟩ (by simp [SV.below,SA.below]) ⟨rfl,zbb zab,tv⟩ ?_
    rintro out0 F0 h0 n0 hle ⟨rfl,rfl,rfl,c2,rfl⟩;conv=>whnf
    exact zdf hW2 l1 rfl rfl rfl
   ·refine use (hputs c1) [(1,4),(2,6)] rfl ⟨rfl,rfl,tv⟩ rfl ⟨za5 (by omega) _ _ _,zai zab _ _ _ _ _,tv⟩ (by simp [SV.below,SA.below]) ⟨rfl,zbb zab,tv⟩ ?_
    rintro out0 F0 h0 n0 hle ⟨rfl,rfl,rfl,c2,rfl⟩;conv=>whnf
    refine ⟨rfl,?_⟩;conv=>whnf
    refine ⟨by simp,(y :: q).map encB,convR _ (y :: q) _ rfl,y :: q,rfl,?_⟩;conv=>whnf
    exact zdf hW2 l1 rfl rfl rfl
  ·have g7':¬ p = 7:=oe g7
   rw [if_neg g7',jw] at hW
   conv=>whnf
   exact zdf (by rw [hW]; exact ho1.symm) l1 rfl rfl rfl
 ·skip
  refine use hput [(1,4),(2,5)] rfl ⟨⟨rfl,rfl,rfl,.inr ⟨rfl,rfl,rfl,rfl⟩⟩,rfl,tv⟩ rfl ⟨za5 (by omega) _ _ _,zai zab _ _ _ _ _,tv⟩ (by simp [SV.below,SA.below]) ⟨rfl,rfl,tv⟩ ?_
  rintro out0 F0 h0 n0 hle ⟨rfl,rfl,rfl,c1,rfl⟩;conv=>whnf
  refine br (fun g7=>?_) (fun g7=>?_)
  ·have g7':p = 7:=od g7
   obtain ⟨o2,ho2⟩:=hex2
   have hW2:o2 = zbh p ⟨false,lines,w,h,bits⟩:=by rw [hW,if_pos g7',← qu (zae [w,h]),ho1]; exact ho2.symm
   have hputs:∀ c1,Ct Tryz.prog 197 [.va (.str bits),.va (.ptr ⟨1,0,0,0,0⟩)] F1 (outH c1 (x :: r)) 3 (fun o F0 h0 n0=>F1 = F0 ∧ n0 = 4 ∧ o = .ret (.tup []) ∧ ∃ c',h0 = outN c' o2):=fun c1=>by
    have:=zpz hP F1 bits (x :: r) c1 (by omega) (jk hol (by omega))
    rw [ho2] at this; exact this
   conv=>whnf
   rcases o2 with _ | ⟨y,q⟩
   ·refine use (hputs c1) [(1,4),(2,6)] rfl ⟨rfl,rfl,tv⟩ rfl ⟨za5 (by omega) _ _ _,zai zab _ _ _ _ _,tv⟩ (by simp [SV.below,SA.below]) ⟨rfl,zbb zab,tv⟩ ?_
    rintro out0 F0 h0 n0 hle ⟨rfl,rfl,rfl,c2,rfl⟩;conv=>whnf
    exact zdf hW2 l1 rfl rfl rfl
   ·refine use (hputs c1) [(1,4),(2,6)] rfl ⟨rfl,rfl,tv⟩ rfl ⟨za5 (by omega) _ _ _,zai zab _ _ _ _ _,tv⟩ (by simp [SV.below,SA.below]) ⟨rfl,zbb zab,tv⟩ ?_
    rintro out0 F0 h0 n0 hle ⟨rfl,rfl,rfl,c2,rfl⟩;conv=>whnf
    refine ⟨rfl,?_⟩;conv=>whnf
    refine ⟨by simp,(y :: q).map encB,convR _ (y :: q) _ rfl,y :: q,rfl,?_⟩;conv=>whnf
    exact zdf hW2 l1 rfl rfl rfl
  ·have g7':¬ p = 7:=oe g7
   rw [if_neg g7',jw] at hW
   conv=>whnf
   refine ⟨rfl,?_⟩;conv=>whnf
   refine ⟨by simp,(x :: r).map encB,convR _ (x :: r) _ rfl,x :: r,rfl,?_⟩;conv=>whnf
   exact zdf (by rw [hW]; exact ho1.symm) l1 rfl rfl rfl
theorem zej {τ μ:Mu} {a b j i i' c:Nat} {l:List UInt8} (h:τ a 0 = (j,0)) (h':μ b 0 = (j,0)):subE (some ((outC i' a c l).ren τ)) ((outC i b c l).ren μ):=by
 rw [zi3 h,zi3 h']; exact rfl
theorem zwb {p:Int} {x:Ln} (h:x.2.length ≤ 1000):(lineW p x).length ≤ 74545:=by
 unfold lineW
 have h1:=zdg x.1
 have h2:=zaz x.2
 rw [qa]
 split
 ·omega
 ·simp; omega
theorem zh2 {p:Int}:∀ (l:List Ln),(∀ x ∈ l,x.2.length ≤ 1000) → (l.map (lineW p)).flatten.length ≤ 74545 * l.length
 |[],_=>by simp
 |x :: r,h=>by
  have h1:=zwb (p:=p) (h x (by simp))
  have h2:=zh2 (p:=p) r (fun y hy=>h y (by simp [hy]))
  simp only [qx,jy,qa,qe]; omega
theorem zmv (hP:PFun) (F:Fz) (L:List Ln) (w h:Int) (bits:List UInt8) (c:Nat) (caps:Nat → Nat) (p:Int) (hp:¬ 6 ≤ p) (hne:L ≠ []) (hl:L.length ≤ 1000) (hx:∀ x ∈ L,x.1.length ≤ 70000 ∧ x.2.length ≤ 1000) :
  Ct Tryz.prog 131 [valV ⟨false,L,w,h,bits⟩ 1 c,.va (.int .i64 p)] F (valH ⟨false,L,w,h,bits⟩ c caps) 3 (fun o F0 h0 n0=>n0 = 3 ∧ o = .ret (.va (.str (zbh p ⟨false,L,w,h,bits⟩))) ∧ h0 = valH ⟨false,L,w,h,bits⟩ c caps):=by
 have hW:zbh p ⟨false,L,w,h,bits⟩ = zae [(L.length:Int)] ++ (L.map (lineW p)).flatten:=by rw [zbh,if_neg (by simp),if_neg hp]
 rcases L with _ | ⟨a0,ar⟩
 ·exact absurd rfl hne
 refine ct_of hΘ Tryz.func131 rfl (by decide) _ _ rfl rfl rfl ?_;conv=>whnf
 refine brj hp ?_;conv=>whnf
 refine za0 5 (fun _=>.arr 3 1 ([((ar.length + 1:Nat):Int)].map encI) 1) rfl rfl rfl (fun _ _=>rfl) (fun _ _=>SB.bB_ok rfl) ?_
 intro b1 F1 l1 hb1
 have hput:=zjo hP F1 _ [((ar.length + 1:Nat):Int)] [] 0 (Sl.new (l:=[((ar.length + 1:Nat):Int)]) (cap:=1) (hb1 0 rfl)) (by simp) (by simp)
 refine use hput [(1,4),(2,5)] rfl ⟨⟨rfl,rfl,rfl,.inr ⟨rfl,rfl,rfl,rfl⟩⟩,rfl,tv⟩ rfl ⟨za5 (by omega) _ _ _,zai zab _ _ _ _ _,tv⟩ (by simp [SV.below,SA.below]) ⟨rfl,rfl,tv⟩ ?_
 rintro out0 F0 h0 n0 hle ⟨rfl,rfl,rfl,c1,rfl⟩;conv=>whnf
 refine zan hΘ (X:={ x:Nat × List UInt8 × Nat // x.1 ≤ ar.length + 1 ∧ x.2.1 = zae [((ar.length + 1:Nat):Int)] ++ (((a0 :: ar).take x.1).map (lineW p)).flatten }) (fun x=>[(21,.va (.int .i64 x.1.1))]) [9,22,23,24,25,26,27,28,29,30,31,32,33,34,35]
  (fun x=>[(0,.frz F1),(1,zba 2 caps c (a0 :: ar)),(2,famE caps (a0 :: ar)),(4,outC 1 7 x.1.2.2 x.1.2.1),(6,.gone),(7,gE 5 1 encB x.1.2.2 x.1.2.1)]) 8 (fun x=>ar.length + 1 - x.1.1) ⟨(0,[] ++ zae [((ar.length + 1:Nat):Int)],c1),by simp⟩
  (fun hH hT=>leI [(7,6)] hH hT rfl ⟨tv,zam (by omega) _ _ _,zau _ _ _,za5 (by omega) _ _ _,tv,zai zab _ _ _ _ _,tv⟩ ⟨rfl,tv⟩ ⟨Fz.r F1,za4 (fun k=>rfl),zbr (μ:=sig [(7,6)]) (caps:=caps) (l:=a0 :: ar),zej (i:=1) (i':=1) (a:=3) (b:=7) (j:=6) (by rfl) (by rfl),zbb zab,tv⟩) ?_
 rintro ⟨⟨k,ob,cb⟩,hk,hob⟩ hH hT
 replace hk:k ≤ ar.length + 1:=hk
 replace hob:ob = zae [((ar.length + 1:Nat):Int)] ++ (((a0 :: ar).take k).map (lineW p)).flatten:=hob
 have hobl:ob.length ≤ 100000000000:=by
  have h1:=zaz [((ar.length + 1:Nat):Int)]
  have h2:=zh2 (p:=p) ((a0 :: ar).take k) (fun x hxm=>(hx x (jv hxm)).2)
  have h3:((a0 :: ar).take k).length ≤ 1000:=by rw [qn]; omega
  rw [hob,qa]
  simp only [qe,qp] at h1
  omega
 conv=>whnf
 refine br (fun gb=>?_) (fun gb=>?_)
 ·have gk:k < ar.length + 1:=by
   have h0:(k:Int) < ((ar.length + 1:Nat):Int):=od gb
   omega
  clear gb
  have gl:k < (a0 :: ar).length:=gk
  have hxk:=hx _ (jj gl)
  have hex:∃ t n,(a0 :: ar)[k] = (t,n):=⟨_,_,rfl⟩
  obtain ⟨t,n,hkx⟩:=hex
  rw [hkx] at hxk
  replace hxk:t.length ≤ 70000 ∧ n.length ≤ 1000:=hxk
  have hcell:=zdv 2 caps 0 (a0 :: ar) k (t,n) (by rw [qc gl,hkx])
  have hnext:(ob ++ (if p = 1 then (putSR t).1 else [])) ++ zae n = zae [((ar.length + 1:Nat):Int)] ++ (((a0 :: ar).take (k + 1)).map (lineW p)).flatten:=by
   rw [zbo gl,hkx,lineW,hob]; simp only [qk]
  conv=>whnf
  refine ⟨rfl,⟨by simp,by show (k:Int) < ((ar.length + 1:Nat):Int); omega⟩,?_⟩;conv=>whnf
  refine ⟨rfl,?_⟩;conv=>whnf
  refine ⟨_,by show (zbg 2 caps 0 (a0 :: ar))[0 + (k:Int).toNat]? = _; rw [ji,ql]; exact hcell,?_⟩;conv=>whnf
  refine br (fun g1=>?_) (fun g1=>?_)
  ·have g1':p = 1:=od g1
   rw [if_pos g1'] at hnext
   have htl:=zdg t
   have hlen2:(ob ++ (putSR t).1).length ≤ 1000000000000:=by rw [qa]; omega
   conv=>whnf
   refine use (zpz hP F1 t ob cb (by omega) (by omega)) [(1,4),(2,7)] rfl ⟨rfl,rfl,tv⟩ rfl ⟨za5 (by omega) _ _ _,zai zab _ _ _ _ _,tv⟩ (by simp [SV.below,SA.below]) ⟨zhd (i:=1) (i':=1) (j:=2) (j':=7) (by rfl),zav zab (zax _ _ _ _),tv⟩ ?_
   rintro out0 F0 h0 n1 hle ⟨rfl,rfl,rfl,c2,rfl⟩
   rcases n with _ | ⟨n0,nr⟩
   ·conv=>whnf
    refine use (zjo hP F1 _ [] (ob ++ (putSR t).1) c2 Sl.nil (by simp) hlen2) [(1,4),(2,9)] rfl ⟨⟨rfl,rfl,rfl⟩,rfl,tv⟩ rfl ⟨za5 (by omega) _ _ _,zai zab _ _ _ _ _,tv⟩ (by simp [SV.below,SA.below]) ⟨zej (i:=1) (i':=1) (a:=3) (b:=2) (j:=9) (by rfl) (by rfl),zbb zab,tv⟩ ?_
    rintro out0 F0 h0 n1 hle ⟨rfl,rfl,rfl,c3,rfl⟩;conv=>whnf
    exact ⟨⟨(k + 1,(ob ++ (putSR t).1) ++ zae [],c3),by show k + 1 ≤ ar.length + 1; omega,hnext⟩,by show ar.length + 1 - (k + 1) < ar.length + 1 - k; omega,
     leR [(7,10)] hH hT rfl ⟨tv,zam (by omega) _ _ _,zau _ _ _,za5 (by omega) _ _ _,tv,zai zab _ _ _ _ _,tv⟩ ⟨cnt (by omega),tv⟩
     ⟨Fz.r F1,za4 (fun k=>rfl),zbr (μ:=sig [(7,10)]) (caps:=caps) (l:=a0 :: ar),zej (i:=1) (i':=1) (a:=3) (b:=7) (j:=10) (by rfl) (by rfl),zbb zab,tv⟩⟩
   ·conv=>whnf
    refine lend 2 (fun k=>(famE caps (a0 :: ar)).at k) rfl rfl rfl (fun k _=>zbu _ _ _) (fun k _=>za8 _ _ _) ?_
    intro bf G1 lg1 hbf
    have hat:=zie caps (l:=a0 :: ar) (k:=k) (x:=(t,n0 :: nr)) (by rw [qc gl,hkx])
    have hhas:(famE caps (a0 :: ar)).has k:=⟨gl,by show (!((((a0 :: ar).map (·.2)).getD k []).isEmpty)) = true; rw [hat]; rfl⟩
    have hrow:G1 (bf k) = some ((famE caps (a0 :: ar)).at k):=hbf k hhas
    have erow:(famE caps (a0 :: ar)).at k = .arr 3 1 ((n0 :: nr).map encI) (caps k):=by show SB.arr 3 1 ((((a0 :: ar).map (·.2)).getD k []).map encI) (caps k) = _; rw [hat]
    rw [erow,← ji k] at hrow
    refine use (zjo hP G1 _ (n0 :: nr) (ob ++ (putSR t).1) c2 (Sl.new (l:=n0 :: nr) (cap:=caps (0 + k)) hrow) (by simp at hxk ⊢; omega) hlen2) [(1,4),(2,9)] rfl ⟨⟨rfl,rfl,rfl,.inr ⟨rfl,rfl,rfl,rfl⟩⟩,rfl,tv⟩ rfl ⟨za5 (by omega) _ _ _,zai zab _ _ _ _ _,tv⟩ (by simp [SV.below,SA.below]) ⟨zej (i:=1) (i':=1) (a:=3) (b:=2) (j:=9) (by rfl) (by rfl),zbb zab,tv⟩ ?_
    rintro out0 F0 h0 n1 hle ⟨rfl,rfl,rfl,c3,rfl⟩
    refine ⟨G1,rfl,Fz.r _,rfl,?_⟩;conv=>whnf
    exact ⟨⟨(k + 1,(ob ++ (putSR t).1) ++ zae (n0 :: nr),c3),by show k + 1 ≤ ar.length + 1; omega,hnext⟩,by show ar.length + 1 - (k + 1) < ar.length + 1 - k; omega,
     leR [(7,10)] hH hT rfl ⟨tv,zam (by omega) _ _ _,zau _ _ _,za5 (by omega) _ _ _,tv,zai zab _ _ _ _ _,tv⟩ ⟨cnt (by omega),tv⟩
     ⟨Fz.r F1,za4 (fun k=>rfl),zbr (μ:=sig [(7,10)]) (caps:=caps) (l:=a0 :: ar),zej (i:=1) (i':=1) (a:=3) (b:=7) (j:=10) (by rfl) (by rfl),zbb zab,tv⟩⟩
  ·have g1':¬ p = 1:=oe g1
   rw [if_neg g1',jw] at hnext
   have hlen2:ob.length ≤ 1000000000000:=by omega
   rcases n with _ | ⟨n0,nr⟩
   ·conv=>whnf
    refine use (zjo hP F1 _ [] (ob) cb Sl.nil (by simp) hlen2) [(1,4),(2,7)] rfl ⟨⟨rfl,rfl,rfl⟩,rfl,tv⟩ rfl ⟨za5 (by omega) _ _ _,zai zab _ _ _ _ _,tv⟩ (by simp [SV.below,SA.below]) ⟨zhd (i:=1) (i':=1) (j:=2) (j':=7) (by rfl),zav zab (zax _ _ _ _),tv⟩ ?_
    rintro out0 F0 h0 n1 hle ⟨rfl,rfl,rfl,c3,rfl⟩;conv=>whnf
    exact ⟨⟨(k + 1,(ob) ++ zae [],c3),by show k + 1 ≤ ar.length + 1; omega,hnext⟩,by show ar.length + 1 - (k + 1) < ar.length + 1 - k; omega,
     leR [(7,9)] hH hT rfl ⟨tv,zam (by omega) _ _ _,zau _ _ _,za5 (by omega) _ _ _,tv,zai zab _ _ _ _ _,tv⟩ ⟨cnt (by omega),tv⟩
     ⟨Fz.r F1,za4 (fun k=>rfl),zbr (μ:=sig [(7,9)]) (caps:=caps) (l:=a0 :: ar),zej (i:=1) (i':=1) (a:=3) (b:=7) (j:=9) (by rfl) (by rfl),zbb zab,tv⟩⟩
   ·conv=>whnf
    refine lend 2 (fun k=>(famE caps (a0 :: ar)).at k) rfl rfl rfl (fun k _=>zbu _ _ _) (fun k _=>za8 _ _ _) ?_
    intro bf G1 lg1 hbf
    have hat:=zie caps (l:=a0 :: ar) (k:=k) (x:=(t,n0 :: nr)) (by rw [qc gl,hkx])
    have hhas:(famE caps (a0 :: ar)).has k:=⟨gl,by show (!((((a0 :: ar).map (·.2)).getD k []).isEmpty)) = true; rw [hat]; rfl⟩
    have hrow:G1 (bf k) = some ((famE caps (a0 :: ar)).at k):=hbf k hhas
    have erow:(famE caps (a0 :: ar)).at k = .arr 3 1 ((n0 :: nr).map encI) (caps k):=by show SB.arr 3 1 ((((a0 :: ar).map (·.2)).getD k []).map encI) (caps k) = _; rw [hat]
    rw [erow,← ji k] at hrow
    refine use (zjo hP G1 _ (n0 :: nr) (ob) cb (Sl.new (l:=n0 :: nr) (cap:=caps (0 + k)) hrow) (by simp at hxk ⊢; omega) hlen2) [(1,4),(2,7)] rfl ⟨⟨rfl,rfl,rfl,.inr ⟨rfl,rfl,rfl,rfl⟩⟩,rfl,tv⟩ rfl ⟨za5 (by omega) _ _ _,zai zab _ _ _ _ _,tv⟩ (by simp [SV.below,SA.below]) ⟨zhd (i:=1) (i':=1) (j:=2) (j':=7) (by rfl),zav zab (zax _ _ _ _),tv⟩ ?_
    rintro out0 F0 h0 n1 hle ⟨rfl,rfl,rfl,c3,rfl⟩
    refine ⟨G1,rfl,Fz.r _,rfl,?_⟩;conv=>whnf
    exact ⟨⟨(k + 1,(ob) ++ zae (n0 :: nr),c3),by show k + 1 ≤ ar.length + 1; omega,hnext⟩,by show ar.length + 1 - (k + 1) < ar.length + 1 - k; omega,
     leR [(7,9)] hH hT rfl ⟨tv,zam (by omega) _ _ _,zau _ _ _,za5 (by omega) _ _ _,tv,zai zab _ _ _ _ _,tv⟩ ⟨cnt (by omega),tv⟩
     ⟨Fz.r F1,za4 (fun k=>rfl),zbr (μ:=sig [(7,9)]) (caps:=caps) (l:=a0 :: ar),zej (i:=1) (i':=1) (a:=3) (b:=7) (j:=9) (by rfl) (by rfl),zbb zab,tv⟩⟩
 ·have gk:k = ar.length + 1:=by
   have h0:¬ (k:Int) < ((ar.length + 1:Nat):Int):=oe gb
   omega
  clear gb
  have hfin:ob = zbh p ⟨false,a0 :: ar,w,h,bits⟩:=by
   rw [hW,hob,gk]
   have:(a0 :: ar).take (ar.length + 1) = a0 :: ar:=qm (by simp)
   rw [this]; rfl
  rcases ob with _ | ⟨y,q⟩
  ·conv=>whnf
   exact zdf hfin l1 rfl rfl rfl
  ·conv=>whnf
   refine ⟨rfl,?_⟩;conv=>whnf
   refine ⟨by simp,(y :: q).map encB,by show (((y :: q).map encB).drop 0).take (q.length + 1) = _; rw [qai,qm (by simp)],y :: q,rfl,?_⟩;conv=>whnf
   exact zdf hfin l1 rfl rfl rfl
theorem zn4 (hP:PFun) (F:Fz) (w h:Int) (bits:List UInt8) (c:Nat) (caps:Nat → Nat) (p:Int) (hp:¬ 6 ≤ p) :
  Ct Tryz.prog 131 [valV ⟨false,[],w,h,bits⟩ 1 c,.va (.int .i64 p)] F (valH ⟨false,[],w,h,bits⟩ c caps) 3 (fun o F0 h0 n0=>n0 = 3 ∧ o = .ret (.va (.str (zbh p ⟨false,[],w,h,bits⟩))) ∧ h0 = valH ⟨false,[],w,h,bits⟩ c caps):=by
 have hW:zbh p ⟨false,[],w,h,bits⟩ = [] ++ zae [0]:=by rw [zbh,if_neg (by simp),if_neg hp]; exact jw (zae [0])
 obtain ⟨o1,ho1⟩:∃ o1,[] ++ zae [0] = o1:=⟨_,rfl⟩
 refine ct_of hΘ Tryz.func131 rfl (by decide) _ _ rfl rfl rfl ?_;conv=>whnf
 refine brj hp ?_;conv=>whnf
 refine za0 5 (fun _=>.arr 3 1 ([(0:Int)].map encI) 1) rfl rfl rfl (fun _ _=>rfl) (fun _ _=>SB.bB_ok rfl) ?_
 intro b1 F1 l1 hb1
 have hput:=zjo hP F1 _ [0] [] 0 (Sl.new (l:=[(0:Int)]) (cap:=1) (hb1 0 rfl)) (by simp) (by simp)
 rw [ho1] at hput hW
 rcases o1 with _ | ⟨x,r⟩
 ·refine use hput [(1,4),(2,5)] rfl ⟨⟨rfl,rfl,rfl,.inr ⟨rfl,rfl,rfl,rfl⟩⟩,rfl,tv⟩ rfl ⟨za5 (by omega) _ _ _,zai zab _ _ _ _ _,tv⟩ (by simp [SV.below,SA.below]) ⟨rfl,rfl,tv⟩ ?_
  rintro out0 F0 h0 n0 hle ⟨rfl,rfl,rfl,c1,rfl⟩;conv=>whnf
  refine rounds hΘ 1 ?_;conv=>whnf
  refine brd (by decide) ?_;conv=>whnf
  exact zdf hW.symm l1 rfl rfl rfl
 ·refine use hput [(1,4),(2,5)] rfl ⟨⟨rfl,rfl,rfl,.inr ⟨rfl,rfl,rfl,rfl⟩⟩,rfl,tv⟩ rfl ⟨za5 (by omega) _ _ _,zai zab _ _ _ _ _,tv⟩ (by simp [SV.below,SA.below]) ⟨rfl,rfl,tv⟩ ?_
  rintro out0 F0 h0 n0 hle ⟨rfl,rfl,rfl,c1,rfl⟩;conv=>whnf
  refine rounds hΘ 1 ?_;conv=>whnf
  refine brd (by decide) ?_;conv=>whnf
  refine ⟨rfl,?_⟩;conv=>whnf
  refine ⟨by simp,(x :: r).map encB,convR _ (x :: r) _ rfl,x :: r,rfl,?_⟩;conv=>whnf
  exact zdf hW.symm l1 rfl rfl rfl
structure Fits (v:Val):Prop where
 h1:v.lines.length ≤ 1000
 h2:∀ x ∈ v.lines,x.1.length ≤ 70000 ∧ x.2.length ≤ 1000
 h3:v.bits.length ≤ 70000
theorem zx6 (hP:PFun) (F:Fz) (v:Val) (c:Nat) (caps:Nat → Nat) (p:Int) (hv:Fits v) (hp:p ≤ 8) :
  Ct Tryz.prog 131 [valV v 1 c,.va (.int .i64 p)] F (valH v c caps) 3 (fun o F0 h0 n0=>n0 = 3 ∧ o = .ret (.va (.str (zbh p v))) ∧ h0 = valH v c caps):=by
 by_cases hl:v.lost = true
 ·exact zoz F v c caps p hl
 ·have hl:v.lost = false:=by simpa using hl
  by_cases h6:6 ≤ p
  ·exact zkn hP F v c caps p hl (by omega) hv.h3
  ·obtain ⟨lost,L,w,h,bits⟩:=v
   replace hl:lost = false:=hl
   subst hl
   by_cases hne:L = []
   ·subst hne; exact zn4 hP F w h bits c caps p h6
   ·exact zmv hP F L w h bits c caps p h6 hne hv.h1 hv.h2
theorem z3c {p:Int} {l:List Stp} (h:zbn p l = true):1 ≤ p ∧ p ≤ 8:=by
 simp only [zbn,qd,decide_eq_true_eq] at h; exact h.1
def behind (a:List Stp):List (List Stp):=[a,[(6,0)],[],[(5,0)],[(5,0),(5,0)],[(5,0),(5,0),(5,0)],[(5,0),(5,0),(5,0),(5,0)],[(5,0),(5,0),(5,0),(5,0),(5,0)]]
theorem zkx {B:Nat} {caps:Nat → Nat} {t:List UInt8} {n n':List Int} (hn:n.length = n'.length):∀ (j:Nat) (L:List Ln) (i:Nat),L[i]? = some (t,n) → zbg B caps j (L.set i (t,n')) = zbg B caps j L
 |j,y :: r,0,h=>by
  simp at h; subst h
  rw [qao,zbg,zbg]
  congr 2
  show [nA B j (caps j) n'] = [nA B j (caps j) n]
  cases n<;>cases n'<;>simp_all [nA]
 |j,y :: r,i + 1,h=>by
  rw [qcd,zbg,zbg,zkx hn (j + 1) r i (by simpa using h)]
theorem zlr {B:Nat} {caps:Nat → Nat} {c:Nat} {t:List UInt8} {n n':List Int} (hn:n.length = n'.length) {L:List Ln} {i:Nat} (h:L[i]? = some (t,n)):zba B caps c (L.set i (t,n')) = zba B caps c L:=by
 unfold zba
 rw [zkx hn 0 L i h]
 cases L with
 |nil=>simp at h
 |cons x r=>cases i<;>rfl
theorem zrr {L:List Ln} {k:Nat}:(L.map (·.2)).getD k [] = ((L[k]?).map (·.2)).getD []:=by
 rw [yt,qs]
theorem zyl {caps:Nat → Nat} {t:List UInt8} {n n':List Int} (hn:n.length = n'.length) {L:List Ln} {i:Nat} (h:L[i]? = some (t,n)) (hne:n ≠ []) :
  famE caps (L.set i (t,n')) = .fam L.length (fun k=>!((L.map (·.2)).getD k []).isEmpty) (fun k=>if k = i then .arr 3 1 (n'.map encI) (caps i) else .arr 3 1 (((L.map (·.2)).getD k []).map encI) (caps k)):=by
 have hi:i < L.length:=(qh.1 h).1
 have hx:∀ k,((L.set i (t,n')).map (·.2)).getD k [] = if k = i then n' else (L.map (·.2)).getD k []:=by
  intro k
  rw [zrr,zrr,qci]
  by_cases hk:i = k
  ·subst hk; rw [if_pos rfl,if_pos hi,if_pos rfl]; rfl
  ·rw [if_neg hk,if_neg (fun e=>hk e.symm)]
 unfold famE
 have e1:(fun k=>!(((L.set i (t,n')).map (·.2)).getD k []).isEmpty) = (fun k=>!((L.map (·.2)).getD k []).isEmpty):=by
  funext k
  rw [hx]
  by_cases hk:k = i
  ·subst hk
   rw [if_pos rfl,zie caps h]
   cases n with
   |nil=>exact absurd rfl hne
   |cons a r=>cases n' with
    |nil=>simp at hn
    |cons b r'=>rfl
  ·rw [if_neg hk]
 have e2:(fun k=>SB.arr 3 1 ((((L.set i (t,n')).map (·.2)).getD k []).map encI) (caps k)) = (fun k=>if k = i then .arr 3 1 (n'.map encI) (caps i) else .arr 3 1 (((L.map (·.2)).getD k []).map encI) (caps k)):=by
  funext k
  rw [hx]
  by_cases hk:k = i
  ·subst hk; rw [if_pos rfl,if_pos rfl]
  ·rw [if_neg hk,if_neg hk]
 rw [qa2,e1,e2]
theorem z2j {caps:Nat → Nat} {t:List UInt8} {n n':List Int} (hn:n.length = n'.length) {L:List Ln} {i:Nat} (h:L[i]? = some (t,n)) (hne:n ≠ []) {row:List (List SA)} (hr:row = n'.map encI) {μ:Mu} :
  subE (some (.fam L.length (fun k=>!((L.map (·.2)).getD k []).isEmpty) (fun k=>if k = i then .arr 3 1 row (caps i) else .arr 3 1 (((L.map (·.2)).getD k []).map encI) (caps k)))) ((famE caps (L.set i (t,n'))).ren μ):=by
 subst hr
 rw [zi2,zyl hn h hne]
 cases L with
 |nil=>simp at h
 |cons x r=>exact ⟨rfl,rfl,rfl⟩
theorem zl7 {α:Type} {L:List α} {i:Nat} {x:α} (h:L[i]? = some x):L.set i x = L:=by
 apply qbp
 intro k
 rw [qci]
 by_cases hk:i = k
 ·subst hk; rw [if_pos rfl,if_pos (qh.1 h).1,h]
 ·rw [if_neg hk]
def stepK (F:Fz) (c:Nat) (caps:Nat → Nat) (L:List Ln):Out → Fz → List (Nat × Ent) → Nat → Prop:=fun o F0 h0 n0=>F0 = F ∧ n0 = 3 ∧ o = .ret (.tup []) ∧ h0 = [(1,zba 2 caps c L),(2,famE caps L)]
def limN (a:Int):List Int → List Int
 |[]=>[]
 |x :: r=>(if x > a then 0 else x) :: r
theorem z1o (F:Fz) (L:List Ln) (i c:Nat) (caps:Nat → Nat) (t:List UInt8) (x a:Int) (r:List Int) (h:L[i]? = some (t,x :: r)) :
  Ct Tryz.prog 193 [.va (.ptr ⟨1,0,i,2,0⟩),.va (.int .i64 a)] F [(1,zba 2 caps c L),(2,famE caps L)] 3
   (stepK F c caps (L.set i (t,limN a (x :: r)))):=by
 have hcell:=zdv 2 caps 0 L i _ h
 rw [ji] at hcell
 have hi:i < L.length:=(qh.1 h).1
 have hrow:=zie caps h
 rcases L with _ | ⟨a0,ar⟩
 ·exact absurd hi (by simp)
 have hn:((x :: r).length = (limN a (x :: r)).length):=rfl
 have hE1:=zlr (B:=2) (caps:=caps) (c:=c) hn h
 have hs1:∀ μ:Mu,(∀ k,μ 2 k = (2,k)) → subE (some (zba 2 caps c (a0 :: ar))) ((zba 2 caps c ((a0 :: ar).set i (t,limN a (x :: r)))).ren μ):=fun μ hμ=>by rw [hE1]; exact za4 hμ
 have hs2:decide (a < x) = false → ∀ μ:Mu,subE (some (famE caps (a0 :: ar))) ((famE caps ((a0 :: ar).set i (t,limN a (x :: r)))).ren μ):=fun g μ=>by
  have hs:(a0 :: ar).set i (t,limN a (x :: r)) = a0 :: ar:=by rw [limN,if_neg (oe g)]; exact zl7 h
  rw [hs]; exact zbr
 have hr:decide (a < x) = true → (List.map encI ((List.map (fun x:Ln=>x.snd) (a0 :: ar)).getD i [])).set 0 [.int .i64 0] = (limN a (x :: r)).map encI:=fun g=>by
  rw [hrow,limN,if_pos (od g)]; rfl
 refine ct_of hΘ Tryz.func193 rfl (by decide) _ _ rfl rfl rfl ?_;conv=>whnf
 refine ⟨rfl,?_⟩;conv=>whnf
 refine ⟨_,hcell,?_⟩;conv=>whnf
 refine ⟨rfl,⟨by simp,by show (0:Int) < ((r.length + 1:Nat):Int); omega⟩,?_⟩;conv=>whnf
 have hhas:(!((List.map (fun x:Ln=>x.snd) (a0 :: ar)).getD i []).isEmpty) = true:=by rw [hrow]; rfl
 have hel:(List.map encI ((List.map (fun x:Ln=>x.snd) (a0 :: ar)).getD i []))[0]? = some [.int .i64 x]:=by rw [hrow]; rfl
 have hel':(List.map encI ((List.map (fun x:Ln=>x.snd) (a0 :: ar)).getD i [])) = encI x :: r.map encI:=by rw [hrow]; rfl
 refine ⟨⟨hi,hhas⟩,?_⟩;conv=>whnf
 refine ⟨_,hel,?_⟩;conv=>whnf
 refine br (fun g=>?_) (fun g=>?_)
 ·conv=>whnf
  refine ⟨rfl,?_⟩;conv=>whnf
  refine ⟨_,hcell,?_⟩;conv=>whnf
  refine ⟨rfl,⟨by simp,by show (0:Int) < ((r.length + 1:Nat):Int); omega⟩,?_⟩;conv=>whnf
  refine ⟨⟨hi,hhas⟩,?_⟩;conv=>whnf
  refine ⟨_,hel,?_⟩;conv=>whnf
  refine clean [] (.ret (.tup [])) F [(1,zba 2 caps c ((a0 :: ar).set i (t,limN a (x :: r)))),(2,famE caps ((a0 :: ar).set i (t,limN a (x :: r))))] 3 ⟨Fz.r F,rfl,rfl,rfl,rfl⟩ (zaj _) rfl rfl (by simp [Out.below,SV.below]) ⟨zam (by omega) _ _ _,zau _ _ _,tv⟩ ⟨Fz.r F,?_,?_,tv⟩
  ·exact hs1 _ (fun k=>rfl)
  ·refine z2j hn h (by simp) ?_
   exact hr g
 ·conv=>whnf
  refine clean [] (.ret (.tup [])) F [(1,zba 2 caps c ((a0 :: ar).set i (t,limN a (x :: r)))),(2,famE caps ((a0 :: ar).set i (t,limN a (x :: r))))] 3 ⟨Fz.r F,rfl,rfl,rfl,rfl⟩ (zaj _) rfl rfl (by simp [Out.below,SV.below]) ⟨zam (by omega) _ _ _,zau _ _ _,tv⟩ ⟨Fz.r F,?_,?_,tv⟩
  ·exact hs1 _ (fun k=>rfl)
  ·exact hs2 g _
end Go.Proofs.YtfnkamphhpldcaaGreatDoor
