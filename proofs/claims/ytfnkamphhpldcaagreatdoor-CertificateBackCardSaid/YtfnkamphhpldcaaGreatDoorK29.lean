import Derived.Test.YtfnkamphhpldcaaGreatDoorK28
import Derived.Test.YtfnkamphhpldcaaGreatDoorK26
set_option maxHeartbeats 64000000
namespace Go.Proofs.YtfnkamphhpldcaaGreatDoor
open Go Sx
set_option maxRecDepth 100000
theorem zl9 (hP:PFun) (F:Fz) (bn:Bool) (bb be bc:Nat) (K:List Cel) (hb:Sl F 151 6 encK (.slice bn 0 bb be 6 K.length bc) K) (hl:K.length ≤ 1000) :
  Ct Tryz.prog 163 [.va (.ptr ⟨1,0,0,0,0⟩),.va (.slice bn 0 bb be 6 K.length bc),.va (.lit false)] F (wrH false 0 []) 3 (wrL (zcv false K)):=by
 have hfl:(K.filter (keepQ false)).length ≤ K.length:=qaa _ _
 have hpc:zcv false K = zae [((K.filter (keepQ false)).length:Int)] ++ ((K.filter (keepQ false)).map fun c=>zae [c.row,c.col,c.value]).flatten:=rfl
 have hpl:∀ l:List Cel,((l.map fun c=>zae [c.row,c.col,c.value]).flatten).length ≤ l.length * 1000:=fun l=>zfb false l
 by_cases hne:K = []
 ·subst hne
  have hpc:zcv false [] = [] ++ zae [((0:Nat):Int)]:=by simp [zcv]
  have hcl:=znj F bn bb be bc hb
  refine ct_of hΘ Tryz.func163 rfl (by decide) _ _ rfl rfl rfl ?_;conv=>whnf
  refine useFo hcl rfl ⟨⟨rfl,rfl,rfl,.inr ⟨rfl,rfl,rfl,rfl⟩⟩,tv⟩ rfl ?_
  rintro _ F1 l1 ⟨sa,rfl,hsa⟩;conv=>whnf
  refine za0 3 (fun _=>.cells 4 [.lit false]) rfl rfl rfl (fun _ _=>rfl) (fun _ _=>SB.bB_ok rfl) ?_
  intro bx F2 l2 hbx
  have hde:=zrf F2 sa false (bx 0) (hsa.mono l2) (hbx 0 rfl)
  have hsa2:=hsa.mono l2
  obtain ⟨hbn,hbb,hbe,hbc,hbL,hbr,rfl,hb1,hb2,hb3,hb4⟩:=hsa2
  refine useFo hde rfl ⟨⟨rfl,rfl,rfl,.inr ⟨rfl,rfl,rfl,rfl⟩⟩,rfl,tv⟩ rfl ?_
  rintro _ F' l3 ⟨rfl,rfl⟩;conv=>whnf
  refine za0 4 (fun _=>.arr 3 1 ([((0:Nat):Int)].map encI) 1) rfl rfl rfl (fun _ _=>rfl) (fun _ _=>SB.bB_ok rfl) ?_
  intro b1 F3 l4 hb1'
  refine use (zdk hP F3 _ [((0:Nat):Int)] false [] 0 (fun _=>rfl) (Sl.new (l:=[((0:Nat):Int)]) (cap:=1) (hb1' 0 rfl)) (by simp) (by simp)) [(1,1),(2,2)] rfl ⟨rfl,⟨rfl,rfl,rfl,.inr ⟨rfl,rfl,rfl,rfl⟩⟩,tv⟩ rfl ⟨zao _ (by omega) (by omega) _ _,zai zab _ _ _ _ _,tv⟩ (by simp [SV.below,SA.below]) ⟨zbr (by rfl) (by rfl),zav zab (zax _ _ _ _),tv⟩ ?_
  rintro out0 F' h0 n0 hle ⟨rfl,rfl,rfl,u1,c1,hu1,rfl⟩;conv=>whnf
  refine zan hΘ (X:={ x:Nat // x = 0 }) (fun x=>[(21,.va (.int .i64 x.1))]) [8,22,23,24,25,26,27,28,29,30,31,32,33,34,35,36,37,38,39,40,41,42,43,44,45,46]
   (fun x=>[(0,.frz F3),(1,wrC u1 1 6 c1 ([] ++ zae [((0:Nat):Int)])),(5,.gone),(6,gE 5 1 encB c1 ([] ++ zae [((0:Nat):Int)]))]) 7 (fun x=>0) ⟨0,rfl⟩
   (fun hH hT=>leI [(6,5)] hH hT rfl ⟨tv,zao _ (by omega) (by omega) _ _,tv,zai zab _ _ _ _ _,tv⟩ ⟨rfl,tv⟩ ⟨Fz.r F3,zbw (i':=1) (j':=5) (by rfl) (by rfl) (by rfl) (by rfl) rfl,zbb zab,tv⟩) ?_
  rintro ⟨k,rfl⟩ hH hT;conv=>whnf
  refine br (fun g2=>absurd g2 (by decide)) (fun _=>?_);conv=>whnf
  exact clean [(3,6)] (.ret (.tup [])) F3 (wrM u1 c1 ([] ++ zae [((0:Nat):Int)])) 4 ⟨Fz.t l1 (Fz.t l2 l4),rfl,rfl,u1,c1,by rw [hpc]; exact hu1,by rw [hpc]⟩ trivial rfl rfl (Out.bB_ok (o:=.ret (.tup [])) rfl) (zb3 _ _ _) ⟨Fz.r F3,zbr (by rfl) (by rfl),zav zab (zax _ _ _ _),tv⟩
 ·have hcl:=zrs F bn bb be bc K hne hb hl
  refine ct_of hΘ Tryz.func163 rfl (by decide) _ _ rfl rfl rfl ?_;conv=>whnf
  refine use hcl [] rfl ⟨⟨rfl,rfl,rfl,.inr ⟨rfl,rfl,rfl,rfl⟩⟩,tv⟩ rfl trivial (by simp [SV.below,SA.below]) trivial ?_
  rintro _ F1 h0 n0 l1 ⟨rfl,c,hcc,rfl,rfl⟩;conv=>whnf
  refine za0 3 (fun _=>.cells 4 [.lit false]) rfl rfl rfl (fun _ _=>rfl) (fun _ _=>SB.bB_ok rfl) ?_
  intro bx F2 l2 hbx
  refine use (zt0 F2 c K false (bx 0) hne (hbx 0 rfl) hl hcc) [(1,4)] rfl ⟨⟨rfl,rfl,rfl,.inr ⟨rfl,rfl,rfl,rfl⟩⟩,rfl,tv⟩ rfl ⟨zai zau _ _ _ _ _,tv⟩ (by simp [SV.below,SA.below]) ⟨zbb zau,tv⟩ ?_
  rintro _ F3 h0 n0 l3 ⟨rfl,rfl,rb,rfl,hR⟩
  have hbx3:=l3 _ _ (hbx 0 rfl)
  have hl3:=Fz.t l1 (Fz.t l2 l3)
  clear hcl l1 l2 l3 hbx hcc hne hb;conv=>whnf
  refine za0 5 (fun _=>.arr 3 1 ([(((K.filter (keepQ false)).length:Nat):Int)].map encI) 1) rfl rfl rfl (fun _ _=>rfl) (fun _ _=>SB.bB_ok rfl) ?_
  intro b1 F4 l4 hb1'
  refine use (zdk hP F4 _ [(((K.filter (keepQ false)).length:Nat):Int)] false [] 0 (fun _=>rfl) (Sl.new (l:=[(((K.filter (keepQ false)).length:Nat):Int)]) (cap:=1) (hb1' 0 rfl)) (by simp) (by simp)) [(1,1),(2,2)] rfl ⟨rfl,⟨rfl,rfl,rfl,.inr ⟨rfl,rfl,rfl,rfl⟩⟩,tv⟩ rfl ⟨zao _ (by omega) (by omega) _ _,zai zab _ _ _ _ _,tv⟩ (by simp [SV.below,SA.below]) ⟨zbr (by rfl) (by rfl),zav zab (zax _ _ _ _),tv⟩ ?_
  rintro out0 F' h0 n0 hle ⟨rfl,rfl,rfl,u1,c1,hu1,rfl⟩;conv=>whnf
  refine zan hΘ (X:={ x:Nat × List UInt8 × Nat × Bool × Fz // Fz.le F4 x.2.2.2.2 ∧ x.1 ≤ (K.filter (keepQ false)).length ∧ x.2.1 = zae [(((K.filter (keepQ false)).length:Nat):Int)] ++ (((K.filter (keepQ false)).take x.1).map fun c=>zae [c.row,c.col,c.value]).flatten ∧ (x.2.2.2.1 = false → x.2.1 = []) }) (fun x=>[(21,.va (.int .i64 x.1.1))]) [8,22,23,24,25,26,27,28,29,30,31,32,33,34,35,36,37,38,39,40,41,42,43,44,45,46]
   (fun x=>[(0,.frz x.1.2.2.2.2),(1,wrC x.1.2.2.2.1 1 7 x.1.2.2.1 x.1.2.1),(6,.gone),(7,gE 5 1 encB x.1.2.2.1 x.1.2.1)]) 8 (fun x=>(K.filter (keepQ false)).length - x.1.1) ⟨(0,[] ++ zae [(((K.filter (keepQ false)).length:Nat):Int)],c1,u1,F4),Fz.r F4,by simpa using hu1⟩
   (fun hH hT=>leI [(7,6)] hH hT rfl ⟨tv,zao _ (by omega) (by omega) _ _,tv,zai zab _ _ _ _ _,tv⟩ ⟨rfl,tv⟩ ⟨Fz.r F4,zbw (i':=1) (j':=6) (by rfl) (by rfl) (by rfl) (by rfl) rfl,zbb zab,tv⟩) ?_
  rintro ⟨⟨k,ob,cb,ub,G⟩,hG,hk,hob,hub⟩ hH hT
  replace hG:Fz.le F4 G:=hG
  replace hk:k ≤ (K.filter (keepQ false)).length:=hk
  replace hob:ob = zae [(((K.filter (keepQ false)).length:Nat):Int)] ++ (((K.filter (keepQ false)).take k).map fun c=>zae [c.row,c.col,c.value]).flatten:=hob
  replace hub:ub = false → ob = []:=hub
  have hlen:ob.length ≤ 100000000000:=by
   have h9:=hpl ((K.filter (keepQ false)).take k)
   have h8:=zay [(((K.filter (keepQ false)).length:Nat):Int)]
   rw [qn] at h9
   rw [yf] at h8
   rw [hob,qa]; omega
  by_cases g:k < (K.filter (keepQ false)).length
  ·have hlt:(k:Int) < ((K.filter (keepQ false)).length:Nat):=by omega
   have hidx:0 ≤ (k:Int) ∧ (k:Int) < ((K.filter (keepQ false)).length:Nat):=by omega
   have hex:∃ x,(K.filter (keepQ false))[k] = x:=⟨_,rfl⟩
   have hR':=hR.mono (Fz.t l4 hG)
   obtain ⟨nn,nb,ne,nc,nL,nr,heqR,hn1,hn2,hn3,hn4⟩:=hR'
   cases heqR
   obtain ⟨x,hx⟩:=hex
   have hat:nL[0 + (k:Int).toNat]? = some (encK x):=by rw [← hx]; exact Sl.at hn4 g
   have hob2:ob ++ zae [x.row,x.col,x.value] = zae [(((K.filter (keepQ false)).length:Nat):Int)] ++ (((K.filter (keepQ false)).take (k + 1)).map fun c=>zae [c.row,c.col,c.value]).flatten:=by
    rw [zbp g,hx,hob,qk]
   have hk1:k + 1 ≤ (K.filter (keepQ false)).length:=g
   have hdec:(K.filter (keepQ false)).length - (k + 1) < (K.filter (keepQ false)).length - k:=by omega
   have hk62:k < 4611686018427387904:=by omega
   have hbox:=(Fz.t l4 hG) _ _ hbx3
   have hnb:=hn2 rfl
   clear hx;conv=>whnf
   refine bri hlt ?_;conv=>whnf
   refine ⟨rfl,hidx,?_⟩;conv=>whnf
   refine ⟨_,hnb,?_⟩;conv=>whnf
   refine ⟨_,hat,?_⟩;conv=>whnf
   refine ⟨_,hbox,?_⟩;conv=>whnf
   refine za0 9 (fun _=>.arr 3 1 ([x.row,x.col,x.value].map encI) 3) rfl rfl rfl (fun _ _=>rfl) (fun _ _=>SB.bB_ok rfl) ?_
   intro b2 G2 l5 hb2'
   refine use (zdk hP G2 _ [x.row,x.col,x.value] ub ob cb hub (Sl.new (l:=[x.row,x.col,x.value]) (cap:=3) (hb2' 0 rfl)) (by simp) (by omega)) [(1,1),(2,7)] rfl ⟨rfl,⟨rfl,rfl,rfl,.inr ⟨rfl,rfl,rfl,rfl⟩⟩,tv⟩ rfl ⟨zao _ (by omega) (by omega) _ _,zai zab _ _ _ _ _,tv⟩ (by simp [SV.below,SA.below]) ⟨zbr (by rfl) (by rfl),zav zab (zax _ _ _ _),tv⟩ ?_
   rintro out0 F' h0 n0 hle ⟨rfl,rfl,rfl,u2,c2,hu2,rfl⟩;conv=>whnf
   exact ⟨⟨(k + 1,ob ++ zae [x.row,x.col,x.value],c2,u2,G2),Fz.t hG l5,hk1,hob2,hu2⟩,hdec,leR [(7,10)] hH hT rfl ⟨tv,zao _ (by omega) (by omega) _ _,tv,zai zab _ _ _ _ _,tv⟩ ⟨cnt hk62,tv⟩ ⟨Fz.r G2,zbw (i':=1) (j':=10) (by rfl) (by rfl) (by rfl) (by rfl) rfl,zbb zab,tv⟩⟩
  ·have hlt:¬ (k:Int) < ((K.filter (keepQ false)).length:Nat):=by omega
   have hfin:ob = zcv false K:=by rw [hob,hpc,qm (by omega)]
   conv=>whnf
   refine brj hlt ?_;conv=>whnf
   exact clean [(3,7)] (.ret (.tup [])) G (wrM ub cb ob) 4 ⟨Fz.t hl3 (Fz.t l4 hG),rfl,rfl,ub,cb,by rw [← hfin]; exact hub,by rw [hfin]⟩ trivial rfl rfl (Out.bB_ok (o:=.ret (.tup [])) rfl) (zb3 _ _ _) ⟨Fz.r G,zbr (by rfl) (by rfl),zav zab (zax _ _ _ _),tv⟩
theorem zo1 (hP:PFun) (F:Fz) (bn:Bool) (bb be bc:Nat) (K:List Cel) (hb:Sl F 151 6 encK (.slice bn 0 bb be 6 K.length bc) K) (hl:K.length ≤ 1000) :
  Ct Tryz.prog 163 [.va (.ptr ⟨1,0,0,0,0⟩),.va (.slice bn 0 bb be 6 K.length bc),.va (.lit true)] F (wrH false 0 []) 3 (wrL (zcv true K)):=by
 have hfl:(K.filter (keepQ true)).length ≤ K.length:=qaa _ _
 have hpc:zcv true K = zae [((K.filter (keepQ true)).length:Int)] ++ ((K.filter (keepQ true)).map fun c=>zae [c.row,c.col,c.top,c.left]).flatten:=rfl
 have hpl:∀ l:List Cel,((l.map fun c=>zae [c.row,c.col,c.top,c.left]).flatten).length ≤ l.length * 1000:=fun l=>zfb true l
 by_cases hne:K = []
 ·subst hne
  have hpc:zcv true [] = [] ++ zae [((0:Nat):Int)]:=by simp [zcv]
  have hcl:=znj F bn bb be bc hb
  refine ct_of hΘ Tryz.func163 rfl (by decide) _ _ rfl rfl rfl ?_;conv=>whnf
  refine useFo hcl rfl ⟨⟨rfl,rfl,rfl,.inr ⟨rfl,rfl,rfl,rfl⟩⟩,tv⟩ rfl ?_
  rintro _ F1 l1 ⟨sa,rfl,hsa⟩;conv=>whnf
  refine za0 3 (fun _=>.cells 4 [.lit true]) rfl rfl rfl (fun _ _=>rfl) (fun _ _=>SB.bB_ok rfl) ?_
  intro bx F2 l2 hbx
  have hde:=zrf F2 sa true (bx 0) (hsa.mono l2) (hbx 0 rfl)
  have hsa2:=hsa.mono l2
  obtain ⟨hbn,hbb,hbe,hbc,hbL,hbr,rfl,hb1,hb2,hb3,hb4⟩:=hsa2
  refine useFo hde rfl ⟨⟨rfl,rfl,rfl,.inr ⟨rfl,rfl,rfl,rfl⟩⟩,rfl,tv⟩ rfl ?_
  rintro _ F' l3 ⟨rfl,rfl⟩;conv=>whnf
  refine za0 4 (fun _=>.arr 3 1 ([((0:Nat):Int)].map encI) 1) rfl rfl rfl (fun _ _=>rfl) (fun _ _=>SB.bB_ok rfl) ?_
  intro b1 F3 l4 hb1'
  refine use (zdk hP F3 _ [((0:Nat):Int)] false [] 0 (fun _=>rfl) (Sl.new (l:=[((0:Nat):Int)]) (cap:=1) (hb1' 0 rfl)) (by simp) (by simp)) [(1,1),(2,2)] rfl ⟨rfl,⟨rfl,rfl,rfl,.inr ⟨rfl,rfl,rfl,rfl⟩⟩,tv⟩ rfl ⟨zao _ (by omega) (by omega) _ _,zai zab _ _ _ _ _,tv⟩ (by simp [SV.below,SA.below]) ⟨zbr (by rfl) (by rfl),zav zab (zax _ _ _ _),tv⟩ ?_
  rintro out0 F' h0 n0 hle ⟨rfl,rfl,rfl,u1,c1,hu1,rfl⟩;conv=>whnf
  refine zan hΘ (X:={ x:Nat // x = 0 }) (fun x=>[(21,.va (.int .i64 x.1))]) [8,22,23,24,25,26,27,28,29,30,31,32,33,34,35,36,37,38,39,40,41,42,43,44,45,46]
   (fun x=>[(0,.frz F3),(1,wrC u1 1 6 c1 ([] ++ zae [((0:Nat):Int)])),(5,.gone),(6,gE 5 1 encB c1 ([] ++ zae [((0:Nat):Int)]))]) 7 (fun x=>0) ⟨0,rfl⟩
   (fun hH hT=>leI [(6,5)] hH hT rfl ⟨tv,zao _ (by omega) (by omega) _ _,tv,zai zab _ _ _ _ _,tv⟩ ⟨rfl,tv⟩ ⟨Fz.r F3,zbw (i':=1) (j':=5) (by rfl) (by rfl) (by rfl) (by rfl) rfl,zbb zab,tv⟩) ?_
  rintro ⟨k,rfl⟩ hH hT;conv=>whnf
  refine br (fun g2=>absurd g2 (by decide)) (fun _=>?_);conv=>whnf
  exact clean [(3,6)] (.ret (.tup [])) F3 (wrM u1 c1 ([] ++ zae [((0:Nat):Int)])) 4 ⟨Fz.t l1 (Fz.t l2 l4),rfl,rfl,u1,c1,by rw [hpc]; exact hu1,by rw [hpc]⟩ trivial rfl rfl (Out.bB_ok (o:=.ret (.tup [])) rfl) (zb3 _ _ _) ⟨Fz.r F3,zbr (by rfl) (by rfl),zav zab (zax _ _ _ _),tv⟩
 ·have hcl:=zrs F bn bb be bc K hne hb hl
  refine ct_of hΘ Tryz.func163 rfl (by decide) _ _ rfl rfl rfl ?_;conv=>whnf
  refine use hcl [] rfl ⟨⟨rfl,rfl,rfl,.inr ⟨rfl,rfl,rfl,rfl⟩⟩,tv⟩ rfl trivial (by simp [SV.below,SA.below]) trivial ?_
  rintro _ F1 h0 n0 l1 ⟨rfl,c,hcc,rfl,rfl⟩;conv=>whnf
  refine za0 3 (fun _=>.cells 4 [.lit true]) rfl rfl rfl (fun _ _=>rfl) (fun _ _=>SB.bB_ok rfl) ?_
  intro bx F2 l2 hbx
  refine use (zt0 F2 c K true (bx 0) hne (hbx 0 rfl) hl hcc) [(1,4)] rfl ⟨⟨rfl,rfl,rfl,.inr ⟨rfl,rfl,rfl,rfl⟩⟩,rfl,tv⟩ rfl ⟨zai zau _ _ _ _ _,tv⟩ (by simp [SV.below,SA.below]) ⟨zbb zau,tv⟩ ?_
  rintro _ F3 h0 n0 l3 ⟨rfl,rfl,rb,rfl,hR⟩
  have hbx3:=l3 _ _ (hbx 0 rfl)
  have hl3:=Fz.t l1 (Fz.t l2 l3)
  clear hcl l1 l2 l3 hbx hcc hne hb;conv=>whnf
  refine za0 5 (fun _=>.arr 3 1 ([(((K.filter (keepQ true)).length:Nat):Int)].map encI) 1) rfl rfl rfl (fun _ _=>rfl) (fun _ _=>SB.bB_ok rfl) ?_
  intro b1 F4 l4 hb1'
  refine use (zdk hP F4 _ [(((K.filter (keepQ true)).length:Nat):Int)] false [] 0 (fun _=>rfl) (Sl.new (l:=[(((K.filter (keepQ true)).length:Nat):Int)]) (cap:=1) (hb1' 0 rfl)) (by simp) (by simp)) [(1,1),(2,2)] rfl ⟨rfl,⟨rfl,rfl,rfl,.inr ⟨rfl,rfl,rfl,rfl⟩⟩,tv⟩ rfl ⟨zao _ (by omega) (by omega) _ _,zai zab _ _ _ _ _,tv⟩ (by simp [SV.below,SA.below]) ⟨zbr (by rfl) (by rfl),zav zab (zax _ _ _ _),tv⟩ ?_
  rintro out0 F' h0 n0 hle ⟨rfl,rfl,rfl,u1,c1,hu1,rfl⟩;conv=>whnf
  refine zan hΘ (X:={ x:Nat × List UInt8 × Nat × Bool × Fz // Fz.le F4 x.2.2.2.2 ∧ x.1 ≤ (K.filter (keepQ true)).length ∧ x.2.1 = zae [(((K.filter (keepQ true)).length:Nat):Int)] ++ (((K.filter (keepQ true)).take x.1).map fun c=>zae [c.row,c.col,c.top,c.left]).flatten ∧ (x.2.2.2.1 = false → x.2.1 = []) }) (fun x=>[(21,.va (.int .i64 x.1.1))]) [8,22,23,24,25,26,27,28,29,30,31,32,33,34,35,36,37,38,39,40,41,42,43,44,45,46]
   (fun x=>[(0,.frz x.1.2.2.2.2),(1,wrC x.1.2.2.2.1 1 7 x.1.2.2.1 x.1.2.1),(6,.gone),(7,gE 5 1 encB x.1.2.2.1 x.1.2.1)]) 8 (fun x=>(K.filter (keepQ true)).length - x.1.1) ⟨(0,[] ++ zae [(((K.filter (keepQ true)).length:Nat):Int)],c1,u1,F4),Fz.r F4,by simpa using hu1⟩
   (fun hH hT=>leI [(7,6)] hH hT rfl ⟨tv,zao _ (by omega) (by omega) _ _,tv,zai zab _ _ _ _ _,tv⟩ ⟨rfl,tv⟩ ⟨Fz.r F4,zbw (i':=1) (j':=6) (by rfl) (by rfl) (by rfl) (by rfl) rfl,zbb zab,tv⟩) ?_
  rintro ⟨⟨k,ob,cb,ub,G⟩,hG,hk,hob,hub⟩ hH hT
  replace hG:Fz.le F4 G:=hG
  replace hk:k ≤ (K.filter (keepQ true)).length:=hk
  replace hob:ob = zae [(((K.filter (keepQ true)).length:Nat):Int)] ++ (((K.filter (keepQ true)).take k).map fun c=>zae [c.row,c.col,c.top,c.left]).flatten:=hob
  replace hub:ub = false → ob = []:=hub
  have hlen:ob.length ≤ 100000000000:=by
   have h9:=hpl ((K.filter (keepQ true)).take k)
   have h8:=zay [(((K.filter (keepQ true)).length:Nat):Int)]
   rw [qn] at h9
   rw [yf] at h8
   rw [hob,qa]; omega
  by_cases g:k < (K.filter (keepQ true)).length
  ·have hlt:(k:Int) < ((K.filter (keepQ true)).length:Nat):=by omega
   have hidx:0 ≤ (k:Int) ∧ (k:Int) < ((K.filter (keepQ true)).length:Nat):=by omega
   have hex:∃ x,(K.filter (keepQ true))[k] = x:=⟨_,rfl⟩
   have hR':=hR.mono (Fz.t l4 hG)
   obtain ⟨nn,nb,ne,nc,nL,nr,heqR,hn1,hn2,hn3,hn4⟩:=hR'
   cases heqR
   obtain ⟨x,hx⟩:=hex
   have hat:nL[0 + (k:Int).toNat]? = some (encK x):=by rw [← hx]; exact Sl.at hn4 g
   have hob2:ob ++ zae [x.row,x.col,x.top,x.left] = zae [(((K.filter (keepQ true)).length:Nat):Int)] ++ (((K.filter (keepQ true)).take (k + 1)).map fun c=>zae [c.row,c.col,c.top,c.left]).flatten:=by
    rw [zbp g,hx,hob,qk]
   have hk1:k + 1 ≤ (K.filter (keepQ true)).length:=g
   have hdec:(K.filter (keepQ true)).length - (k + 1) < (K.filter (keepQ true)).length - k:=by omega
   have hk62:k < 4611686018427387904:=by omega
   have hbox:=(Fz.t l4 hG) _ _ hbx3
   have hnb:=hn2 rfl
   clear hx;conv=>whnf
   refine bri hlt ?_;conv=>whnf
   refine ⟨rfl,hidx,?_⟩;conv=>whnf
   refine ⟨_,hnb,?_⟩;conv=>whnf
   refine ⟨_,hat,?_⟩;conv=>whnf
   refine ⟨_,hbox,?_⟩;conv=>whnf
   refine za0 9 (fun _=>.arr 3 1 ([x.row,x.col,x.top,x.left].map encI) 4) rfl rfl rfl (fun _ _=>rfl) (fun _ _=>SB.bB_ok rfl) ?_
   intro b2 G2 l5 hb2'
   refine use (zdk hP G2 _ [x.row,x.col,x.top,x.left] ub ob cb hub (Sl.new (l:=[x.row,x.col,x.top,x.left]) (cap:=4) (hb2' 0 rfl)) (by simp) (by omega)) [(1,1),(2,7)] rfl ⟨rfl,⟨rfl,rfl,rfl,.inr ⟨rfl,rfl,rfl,rfl⟩⟩,tv⟩ rfl ⟨zao _ (by omega) (by omega) _ _,zai zab _ _ _ _ _,tv⟩ (by simp [SV.below,SA.below]) ⟨zbr (by rfl) (by rfl),zav zab (zax _ _ _ _),tv⟩ ?_
   rintro out0 F' h0 n0 hle ⟨rfl,rfl,rfl,u2,c2,hu2,rfl⟩;conv=>whnf
   exact ⟨⟨(k + 1,ob ++ zae [x.row,x.col,x.top,x.left],c2,u2,G2),Fz.t hG l5,hk1,hob2,hu2⟩,hdec,leR [(7,10)] hH hT rfl ⟨tv,zao _ (by omega) (by omega) _ _,tv,zai zab _ _ _ _ _,tv⟩ ⟨cnt hk62,tv⟩ ⟨Fz.r G2,zbw (i':=1) (j':=10) (by rfl) (by rfl) (by rfl) (by rfl) rfl,zbb zab,tv⟩⟩
  ·have hlt:¬ (k:Int) < ((K.filter (keepQ true)).length:Nat):=by omega
   have hfin:ob = zcv true K:=by rw [hob,hpc,qm (by omega)]
   conv=>whnf
   refine brj hlt ?_;conv=>whnf
   exact clean [(3,7)] (.ret (.tup [])) G (wrM ub cb ob) 4 ⟨Fz.t hl3 (Fz.t l4 hG),rfl,rfl,ub,cb,by rw [← hfin]; exact hub,by rw [hfin]⟩ trivial rfl rfl (Out.bB_ok (o:=.ret (.tup [])) rfl) (zb3 _ _ _) ⟨Fz.r G,zbr (by rfl) (by rfl),zav zab (zax _ _ _ _),tv⟩
theorem z8i (hP:PFun) (F:Fz) (an:Bool) (ab ae al ac:Nat) (bn:Bool) (bb be bc:Nat) (K:List Cel) (w:Int) (s:List UInt8) (hb:Sl F 151 6 encK (.slice bn 0 bb be 6 K.length bc) K) (hl:K.length ≤ 1000) :
  Ct Tryz.prog 162 [.agg (docS (.slice an 0 ab ae 2 al ac) (.slice bn 0 bb be 6 K.length bc) w s),.va (.ptr ⟨1,0,0,0,0⟩)] F (wrH false 0 []) 3 (wrL (zcv false K)):=by
 have hc:=zl9 hP F bn bb be bc K hb hl
 obtain ⟨P,hPc⟩:∃ P,zcv false K = P:=⟨_,rfl⟩
 rw [hPc] at hc ⊢
 clear hPc
 refine ct_of hΘ Tryz.func162 rfl (by decide) _ _ rfl rfl rfl ?_;conv=>whnf
 refine use hc [(1,1),(2,2)] rfl ⟨rfl,⟨rfl,rfl,rfl,.inr ⟨rfl,rfl,rfl,rfl⟩⟩,rfl,tv⟩ rfl ⟨zao _ (by omega) (by omega) _ _,zai zab _ _ _ _ _,tv⟩ (by simp [SV.below,SA.below]) ⟨zbr (by rfl) (by rfl),zav zab (zax _ _ _ _),tv⟩ ?_
 rintro out0 F1 h0 n0 hle ⟨rfl,rfl,u1,c1,hu1,rfl⟩;conv=>whnf
 exact clean [(3,4)] (.ret (.tup [])) F1 (wrM u1 c1 P) 4 ⟨hle,rfl,rfl,u1,c1,hu1,rfl⟩ trivial rfl rfl (Out.bB_ok (o:=.ret (.tup [])) rfl) (zb3 _ _ _) ⟨Fz.r F1,zbw (i':=1) (j':=4) (by rfl) (by rfl) (by rfl) (by rfl) rfl,zbb zab,tv⟩
theorem z7a (hP:PFun) (F:Fz) (an:Bool) (ab ae al ac:Nat) (bn:Bool) (bb be bc:Nat) (K:List Cel) (w:Int) (s:List UInt8) (hb:Sl F 151 6 encK (.slice bn 0 bb be 6 K.length bc) K) (hl:K.length ≤ 1000) :
  Ct Tryz.prog 164 [.agg (docS (.slice an 0 ab ae 2 al ac) (.slice bn 0 bb be 6 K.length bc) w s),.va (.ptr ⟨1,0,0,0,0⟩)] F (wrH false 0 []) 3 (wrL (zcv true K)):=by
 have hc:=zo1 hP F bn bb be bc K hb hl
 obtain ⟨P,hPc⟩:∃ P,zcv true K = P:=⟨_,rfl⟩
 rw [hPc] at hc ⊢
 clear hPc
 refine ct_of hΘ Tryz.func164 rfl (by decide) _ _ rfl rfl rfl ?_;conv=>whnf
 refine use hc [(1,1),(2,2)] rfl ⟨rfl,⟨rfl,rfl,rfl,.inr ⟨rfl,rfl,rfl,rfl⟩⟩,rfl,tv⟩ rfl ⟨zao _ (by omega) (by omega) _ _,zai zab _ _ _ _ _,tv⟩ (by simp [SV.below,SA.below]) ⟨zbr (by rfl) (by rfl),zav zab (zax _ _ _ _),tv⟩ ?_
 rintro out0 F1 h0 n0 hle ⟨rfl,rfl,u1,c1,hu1,rfl⟩;conv=>whnf
 exact clean [(3,4)] (.ret (.tup [])) F1 (wrM u1 c1 P) 4 ⟨hle,rfl,rfl,u1,c1,hu1,rfl⟩ trivial rfl rfl (Out.bB_ok (o:=.ret (.tup [])) rfl) (zb3 _ _ _) ⟨Fz.r F1,zbw (i':=1) (j':=4) (by rfl) (by rfl) (by rfl) (by rfl) rfl,zbb zab,tv⟩
theorem zf5 {P:Program} {f:FuncId} {args:List SV} {h:Hp} {nx:Nat} {K:Out → Hp → Nat → Prop} (i:Nat) (h1:(Nat.ble (i + 1) nx && !Nat.beq i 0) = true) (hk:za6 P f args (lput h i .gone) nx K):za6 P f args h nx K:=by
 unfold za6 at *
 intro C ρ w vs S hr hb
 simp only [qd,qas] at h1
 have hi:i < nx:=nb h1.1
 have hi0:i ≠ 0:=fun h=>by rw [h] at h1; exact absurd h1.2 (by decide)
 exact hk C ρ w vs (S.forget hi hi0) hr hb
theorem zcq {n:Int} (h:-4611686018427387903 ≤ n ∧ n ≤ 4611686018427387903) (l:List Int):zae (n :: l) ≠ []:=by
 rw [zae,qx,jy,ziz h]
 intro h
 exact zh7 n (qcr.1 h).1
theorem zk0 {α:Type} {a b:List α} (h:a ≠ []):a ++ b ≠ []:=fun h2=>h (qcr.1 h2).1
theorem zev {p:Int} {d:Dc} (hd:docOk d = true):propB p d ≠ []:=by
 obtain ⟨hl,hc,ha,hln,hcel,hras⟩:=zck hd
 obtain ⟨r1,r2,r3,r4⟩:=zka hras
 have hf:∀ b,(d.cells.filter (keepQ b)).length ≤ 64:=fun b=>jk (qaa _ _) hc
 have h1:=hf true
 have h2:=hf false
 unfold propB
 split
 ·exact zk0 (zcq (by omega) _)
 split
 ·exact zk0 (zcq (by omega) _)
 split
 ·exact zk0 (zcq (by omega) _)
 split
 ·exact zk0 (zcq (by omega) _)
 split
 ·exact zk0 (zcq (by omega) _)
 split
 ·exact zcq (by omega) _
 split
 ·exact zk0 (zcq (by omega) _)
 ·exact zcq (by omega) _
def pAns (p:Int) (d:Dc):Out:=.ret (.tup [.va (.str (if docOk d = true then propB p d else [])),.va (.int .i64 (if docOk d = true then 0 else 60))])
theorem zhs {p:Int} {d:Dc} (h:docOk d = true):pAns p d = .ret (.tup [.va (.str (propB p d)),.va (.int .i64 0)]):=by rw [pAns,if_pos h,if_pos h]
theorem zhn {p:Int} {d:Dc} (h:docOk d = false):pAns p d = .ret (.tup [.va (.str []),.va (.int .i64 60)]):=by rw [pAns,h]; rfl
theorem z1n (hP:PFun) (F:Fz) (an:Bool) (ab ae ac:Nat) (bn:Bool) (bb be bc:Nat) (d:Dc) (ha:Sl F 148 2 encN (.slice an 0 ab ae 2 d.lines.length ac) d.lines) (hb:Sl F 151 6 encK (.slice bn 0 bb be 6 d.cells.length bc) d.cells)
  (hl:d.lines.length ≤ 1000) (hc:d.cells.length ≤ 1000) (hs:d.bits.length ≤ 70000) (hcap:d.cells.length ≤ bc) :
  Fo Tryz.prog F 48 [.agg (docS (.slice an 0 ab ae 2 d.lines.length ac) (.slice bn 0 bb be 6 d.cells.length bc) d.w d.bits),.va (.int .i64 1)] (fun o F'=>o = pAns 1 d):=by
 have hva:=zcu F _ _ d ha hb hl hc hs
 have hpt:=zhs (p:=1) (d:=d)
 have hpf:=zhn (p:=1) (d:=d)
 have hne:=zev (p:=1) (d:=d)
 have hB:propB 1 d = ptext d.lines:=rfl
 have hx:docOk d = true → ∀ x ∈ d.lines,x.1.length ≤ 1000000:=fun hd x hx=>by
  have:=(zck hd).ln x hx
  unfold dlnOk at this
  simp only [qd,decide_eq_true_eq] at this
  omega
 have hlen:=zd4 (p:=1) (d:=d)
 have hcl:=fun hd:docOk d = true=>z8p hP F an ab ae ac bn bb be d.cells.length bc d.lines d.w d.bits ha hl (hx hd)
 rw [← hB] at hcl
 clear hx hB hs hl hc hcap
 obtain ⟨T,hT⟩:∃ T,propB 1 d = T:=⟨_,rfl⟩
 rw [hT] at hcl hpt hne hlen
 clear hT
 obtain ⟨L,K,w,s⟩:=d
 replace ha:Sl F 148 2 encN (.slice an 0 ab ae 2 L.length ac) L:=ha
 replace hb:Sl F 151 6 encK (.slice bn 0 bb be 6 K.length bc) K:=hb
 obtain ⟨v,hv⟩:∃ v,docOk ⟨L,K,w,s⟩ = v:=⟨_,rfl⟩
 rw [hv] at hva hpt hpf hne hcl hlen
 have fin:∀ (z:Out) (F1:Fz) (h:Hp) (nx:Nat),pAns 1 ⟨L,K,w,s⟩ = z → (∀ μ,z.ren μ = z) → z.z = true → Fz.le F F1 → lget h 0 = some (.frz F1) → Cln 1 (FoK F fun o F'=>o = pAns 1 ⟨L,K,w,s⟩) z h nx:=by
  intro z F1 h nx hz hr hzz hle h0
  subst hz
  exact endFo (pAns 1 ⟨L,K,w,s⟩) F1 h0 hle (Fz.r F1) rfl (by rw [hr]; exact zaj _) hzz
 refine fo_of hΘ Tryz.func48 rfl (by decide) _ _ rfl rfl rfl ?_;conv=>whnf
 refine use (zez F) [] rfl trivial rfl trivial (by simp) trivial ?_
 rintro _ F0 h0 n0 hle ⟨rfl,rfl,rfl,rfl⟩;conv=>whnf
 refine bre (by decide) ?_;conv=>whnf
 refine usePu hva rfl (zaa _) rfl ?_
 rcases v with _ | _
 ·conv=>whnf
  refine bre (by decide) ?_;conv=>whnf
  exact fin _ F _ _ (hpf rfl) (fun _=>rfl) rfl (Fz.r F) rfl
 ·conv=>whnf
  refine brd (by decide) ?_;conv=>whnf
  refine zf5 2 rfl ?_
  refine use (hcl rfl) [(1,3),(2,2)] rfl ⟨rfl,rfl,tv⟩ rfl ⟨zao _ (by omega) (by omega) _ _,zai zab _ _ _ _ _,tv⟩ (by simp [SV.below,SC.below,SA.below]) ⟨rfl,rfl,tv⟩ ?_
  rintro out0 F1 h0 n0 hle1 ⟨rfl,rfl,u1,c1,hu1,rfl⟩;conv=>whnf
  refine ze2 (hne rfl) (hlen rfl) rfl (zd5 (by rfl) (by rfl) _ _) rfl (zfx zab _ _ _ _ _) ?_
  intro o';conv=>whnf
  exact fin _ F1 _ _ (hpt rfl) (fun _=>rfl) rfl hle1 rfl
theorem z0x (hP:PFun) (F:Fz) (an:Bool) (ab ae ac:Nat) (bn:Bool) (bb be bc:Nat) (d:Dc) (ha:Sl F 148 2 encN (.slice an 0 ab ae 2 d.lines.length ac) d.lines) (hb:Sl F 151 6 encK (.slice bn 0 bb be 6 d.cells.length bc) d.cells)
  (hl:d.lines.length ≤ 1000) (hc:d.cells.length ≤ 1000) (hs:d.bits.length ≤ 70000) (hcap:d.cells.length ≤ bc) :
  Fo Tryz.prog F 48 [.agg (docS (.slice an 0 ab ae 2 d.lines.length ac) (.slice bn 0 bb be 6 d.cells.length bc) d.w d.bits),.va (.int .i64 2)] (fun o F'=>o = pAns 2 d):=by
 have hva:=zcu F _ _ d ha hb hl hc hs
 have hpt:=zhs (p:=2) (d:=d)
 have hpf:=zhn (p:=2) (d:=d)
 have hne:=zev (p:=2) (d:=d)
 have hB:propB 2 d = pmot d.lines:=rfl
 have hx:docOk d = true → ∀ x ∈ d.lines,x.1.length ≤ 1000000:=fun hd x hx=>by
  have:=(zck hd).ln x hx
  unfold dlnOk at this
  simp only [qd,decide_eq_true_eq] at this
  omega
 have hlen:=zd4 (p:=2) (d:=d)
 have hcl:=fun hd:docOk d = true=>z8m hP F an ab ae ac bn bb be d.cells.length bc d.lines d.w d.bits ha hl
 rw [← hB] at hcl
 clear hx hB hs hl hc hcap
 obtain ⟨T,hT⟩:∃ T,propB 2 d = T:=⟨_,rfl⟩
 rw [hT] at hcl hpt hne hlen
 clear hT
 obtain ⟨L,K,w,s⟩:=d
 replace ha:Sl F 148 2 encN (.slice an 0 ab ae 2 L.length ac) L:=ha
 replace hb:Sl F 151 6 encK (.slice bn 0 bb be 6 K.length bc) K:=hb
 obtain ⟨v,hv⟩:∃ v,docOk ⟨L,K,w,s⟩ = v:=⟨_,rfl⟩
 rw [hv] at hva hpt hpf hne hcl hlen
 have fin:∀ (z:Out) (F1:Fz) (h:Hp) (nx:Nat),pAns 2 ⟨L,K,w,s⟩ = z → (∀ μ,z.ren μ = z) → z.z = true → Fz.le F F1 → lget h 0 = some (.frz F1) → Cln 1 (FoK F fun o F'=>o = pAns 2 ⟨L,K,w,s⟩) z h nx:=by
  intro z F1 h nx hz hr hzz hle h0
  subst hz
  exact endFo (pAns 2 ⟨L,K,w,s⟩) F1 h0 hle (Fz.r F1) rfl (by rw [hr]; exact zaj _) hzz
 refine fo_of hΘ Tryz.func48 rfl (by decide) _ _ rfl rfl rfl ?_;conv=>whnf
 refine use (zez F) [] rfl trivial rfl trivial (by simp) trivial ?_
 rintro _ F0 h0 n0 hle ⟨rfl,rfl,rfl,rfl⟩;conv=>whnf
 refine brd (by decide) ?_; (conv=>whnf); refine bre (by decide) ?_;conv=>whnf
 refine usePu hva rfl (zaa _) rfl ?_
 rcases v with _ | _
 ·conv=>whnf
  refine bre (by decide) ?_;conv=>whnf
  exact fin _ F _ _ (hpf rfl) (fun _=>rfl) rfl (Fz.r F) rfl
 ·conv=>whnf
  refine brd (by decide) ?_;conv=>whnf
  refine zf5 2 rfl ?_
  refine use (hcl rfl) [(1,3),(2,2)] rfl ⟨rfl,rfl,tv⟩ rfl ⟨zao _ (by omega) (by omega) _ _,zai zab _ _ _ _ _,tv⟩ (by simp [SV.below,SC.below,SA.below]) ⟨rfl,rfl,tv⟩ ?_
  rintro out0 F1 h0 n0 hle1 ⟨rfl,rfl,u1,c1,hu1,rfl⟩;conv=>whnf
  refine ze2 (hne rfl) (hlen rfl) rfl (zd5 (by rfl) (by rfl) _ _) rfl (zfx zab _ _ _ _ _) ?_
  intro o';conv=>whnf
  exact fin _ F1 _ _ (hpt rfl) (fun _=>rfl) rfl hle1 rfl
theorem zyw (hP:PFun) (F:Fz) (an:Bool) (ab ae ac:Nat) (bn:Bool) (bb be bc:Nat) (d:Dc) (ha:Sl F 148 2 encN (.slice an 0 ab ae 2 d.lines.length ac) d.lines) (hb:Sl F 151 6 encK (.slice bn 0 bb be 6 d.cells.length bc) d.cells)
  (hl:d.lines.length ≤ 1000) (hc:d.cells.length ≤ 1000) (hs:d.bits.length ≤ 70000) (hcap:d.cells.length ≤ bc) :
  Fo Tryz.prog F 48 [.agg (docS (.slice an 0 ab ae 2 d.lines.length ac) (.slice bn 0 bb be 6 d.cells.length bc) d.w d.bits),.va (.int .i64 3)] (fun o F'=>o = pAns 3 d):=by
 have hva:=zcu F _ _ d ha hb hl hc hs
 have hpt:=zhs (p:=3) (d:=d)
 have hpf:=zhn (p:=3) (d:=d)
 have hne:=zev (p:=3) (d:=d)
 have hB:propB 3 d = zcv false d.cells:=rfl
 have hx:docOk d = true → ∀ x ∈ d.lines,x.1.length ≤ 1000000:=fun hd x hx=>by
  have:=(zck hd).ln x hx
  unfold dlnOk at this
  simp only [qd,decide_eq_true_eq] at this
  omega
 have hlen:=zd4 (p:=3) (d:=d)
 have hcl:=fun hd:docOk d = true=>z8i hP F an ab ae d.lines.length ac bn bb be bc d.cells d.w d.bits hb hc
 rw [← hB] at hcl
 clear hx hB hs hl hc hcap
 obtain ⟨T,hT⟩:∃ T,propB 3 d = T:=⟨_,rfl⟩
 rw [hT] at hcl hpt hne hlen
 clear hT
 obtain ⟨L,K,w,s⟩:=d
 replace ha:Sl F 148 2 encN (.slice an 0 ab ae 2 L.length ac) L:=ha
 replace hb:Sl F 151 6 encK (.slice bn 0 bb be 6 K.length bc) K:=hb
 obtain ⟨v,hv⟩:∃ v,docOk ⟨L,K,w,s⟩ = v:=⟨_,rfl⟩
 rw [hv] at hva hpt hpf hne hcl hlen
 have fin:∀ (z:Out) (F1:Fz) (h:Hp) (nx:Nat),pAns 3 ⟨L,K,w,s⟩ = z → (∀ μ,z.ren μ = z) → z.z = true → Fz.le F F1 → lget h 0 = some (.frz F1) → Cln 1 (FoK F fun o F'=>o = pAns 3 ⟨L,K,w,s⟩) z h nx:=by
  intro z F1 h nx hz hr hzz hle h0
  subst hz
  exact endFo (pAns 3 ⟨L,K,w,s⟩) F1 h0 hle (Fz.r F1) rfl (by rw [hr]; exact zaj _) hzz
 refine fo_of hΘ Tryz.func48 rfl (by decide) _ _ rfl rfl rfl ?_;conv=>whnf
 refine use (zez F) [] rfl trivial rfl trivial (by simp) trivial ?_
 rintro _ F0 h0 n0 hle ⟨rfl,rfl,rfl,rfl⟩;conv=>whnf
 refine brd (by decide) ?_; (conv=>whnf); refine brd (by decide) ?_; (conv=>whnf); refine bre (by decide) ?_;conv=>whnf
 refine usePu hva rfl (zaa _) rfl ?_
 rcases v with _ | _
 ·conv=>whnf
  refine bre (by decide) ?_;conv=>whnf
  exact fin _ F _ _ (hpf rfl) (fun _=>rfl) rfl (Fz.r F) rfl
 ·conv=>whnf
  refine brd (by decide) ?_;conv=>whnf
  refine zf5 2 rfl ?_
  refine use (hcl rfl) [(1,3),(2,2)] rfl ⟨rfl,rfl,tv⟩ rfl ⟨zao _ (by omega) (by omega) _ _,zai zab _ _ _ _ _,tv⟩ (by simp [SV.below,SC.below,SA.below]) ⟨rfl,rfl,tv⟩ ?_
  rintro out0 F1 h0 n0 hle1 ⟨rfl,rfl,u1,c1,hu1,rfl⟩;conv=>whnf
  refine ze2 (hne rfl) (hlen rfl) rfl (zd5 (by rfl) (by rfl) _ _) rfl (zfx zab _ _ _ _ _) ?_
  intro o';conv=>whnf
  exact fin _ F1 _ _ (hpt rfl) (fun _=>rfl) rfl hle1 rfl
theorem z0l (hP:PFun) (F:Fz) (an:Bool) (ab ae ac:Nat) (bn:Bool) (bb be bc:Nat) (d:Dc) (ha:Sl F 148 2 encN (.slice an 0 ab ae 2 d.lines.length ac) d.lines) (hb:Sl F 151 6 encK (.slice bn 0 bb be 6 d.cells.length bc) d.cells)
  (hl:d.lines.length ≤ 1000) (hc:d.cells.length ≤ 1000) (hs:d.bits.length ≤ 70000) (hcap:d.cells.length ≤ bc) :
  Fo Tryz.prog F 48 [.agg (docS (.slice an 0 ab ae 2 d.lines.length ac) (.slice bn 0 bb be 6 d.cells.length bc) d.w d.bits),.va (.int .i64 4)] (fun o F'=>o = pAns 4 d):=by
 have hva:=zcu F _ _ d ha hb hl hc hs
 have hpt:=zhs (p:=4) (d:=d)
 have hpf:=zhn (p:=4) (d:=d)
 have hne:=zev (p:=4) (d:=d)
 have hB:propB 4 d = zcv true d.cells:=rfl
 have hx:docOk d = true → ∀ x ∈ d.lines,x.1.length ≤ 1000000:=fun hd x hx=>by
  have:=(zck hd).ln x hx
  unfold dlnOk at this
  simp only [qd,decide_eq_true_eq] at this
  omega
 have hlen:=zd4 (p:=4) (d:=d)
 have hcl:=fun hd:docOk d = true=>z7a hP F an ab ae d.lines.length ac bn bb be bc d.cells d.w d.bits hb hc
 rw [← hB] at hcl
 clear hx hB hs hl hc hcap
 obtain ⟨T,hT⟩:∃ T,propB 4 d = T:=⟨_,rfl⟩
 rw [hT] at hcl hpt hne hlen
 clear hT
 obtain ⟨L,K,w,s⟩:=d
 replace ha:Sl F 148 2 encN (.slice an 0 ab ae 2 L.length ac) L:=ha
 replace hb:Sl F 151 6 encK (.slice bn 0 bb be 6 K.length bc) K:=hb
 obtain ⟨v,hv⟩:∃ v,docOk ⟨L,K,w,s⟩ = v:=⟨_,rfl⟩
 rw [hv] at hva hpt hpf hne hcl hlen
 have fin:∀ (z:Out) (F1:Fz) (h:Hp) (nx:Nat),pAns 4 ⟨L,K,w,s⟩ = z → (∀ μ,z.ren μ = z) → z.z = true → Fz.le F F1 → lget h 0 = some (.frz F1) → Cln 1 (FoK F fun o F'=>o = pAns 4 ⟨L,K,w,s⟩) z h nx:=by
  intro z F1 h nx hz hr hzz hle h0
  subst hz
  exact endFo (pAns 4 ⟨L,K,w,s⟩) F1 h0 hle (Fz.r F1) rfl (by rw [hr]; exact zaj _) hzz
 refine fo_of hΘ Tryz.func48 rfl (by decide) _ _ rfl rfl rfl ?_;conv=>whnf
 refine use (zez F) [] rfl trivial rfl trivial (by simp) trivial ?_
 rintro _ F0 h0 n0 hle ⟨rfl,rfl,rfl,rfl⟩;conv=>whnf
 refine brd (by decide) ?_; (conv=>whnf); refine brd (by decide) ?_; (conv=>whnf); refine brd (by decide) ?_; (conv=>whnf); refine bre (by decide) ?_;conv=>whnf
 refine usePu hva rfl (zaa _) rfl ?_
 rcases v with _ | _
 ·conv=>whnf
  refine bre (by decide) ?_;conv=>whnf
  exact fin _ F _ _ (hpf rfl) (fun _=>rfl) rfl (Fz.r F) rfl
 ·conv=>whnf
  refine brd (by decide) ?_;conv=>whnf
  refine zf5 2 rfl ?_
  refine use (hcl rfl) [(1,3),(2,2)] rfl ⟨rfl,rfl,tv⟩ rfl ⟨zao _ (by omega) (by omega) _ _,zai zab _ _ _ _ _,tv⟩ (by simp [SV.below,SC.below,SA.below]) ⟨rfl,rfl,tv⟩ ?_
  rintro out0 F1 h0 n0 hle1 ⟨rfl,rfl,u1,c1,hu1,rfl⟩;conv=>whnf
  refine ze2 (hne rfl) (hlen rfl) rfl (zd5 (by rfl) (by rfl) _ _) rfl (zfx zab _ _ _ _ _) ?_
  intro o';conv=>whnf
  exact fin _ F1 _ _ (hpt rfl) (fun _=>rfl) rfl hle1 rfl
theorem z10 (hP:PFun) (F:Fz) (an:Bool) (ab ae ac:Nat) (bn:Bool) (bb be bc:Nat) (d:Dc) (ha:Sl F 148 2 encN (.slice an 0 ab ae 2 d.lines.length ac) d.lines) (hb:Sl F 151 6 encK (.slice bn 0 bb be 6 d.cells.length bc) d.cells)
  (hl:d.lines.length ≤ 1000) (hc:d.cells.length ≤ 1000) (hs:d.bits.length ≤ 70000) (hcap:d.cells.length ≤ bc) :
  Fo Tryz.prog F 48 [.agg (docS (.slice an 0 ab ae 2 d.lines.length ac) (.slice bn 0 bb be 6 d.cells.length bc) d.w d.bits),.va (.int .i64 5)] (fun o F'=>o = pAns 5 d):=by
 have hva:=zcu F _ _ d ha hb hl hc hs
 have hpt:=zhs (p:=5) (d:=d)
 have hpf:=zhn (p:=5) (d:=d)
 have hne:=zev (p:=5) (d:=d)
 have hB:propB 5 d = pvals d.cells:=rfl
 have hx:docOk d = true → ∀ x ∈ d.lines,x.1.length ≤ 1000000:=fun hd x hx=>by
  have:=(zck hd).ln x hx
  unfold dlnOk at this
  simp only [qd,decide_eq_true_eq] at this
  omega
 have hlen:=zd4 (p:=5) (d:=d)
 have hcl:=fun hd:docOk d = true=>z8d hP F an ab ae d.lines.length ac bn bb be bc d.cells d.w d.bits hb hc hcap
 rw [← hB] at hcl
 clear hx hB hs hl hc hcap
 obtain ⟨T,hT⟩:∃ T,propB 5 d = T:=⟨_,rfl⟩
 rw [hT] at hcl hpt hne hlen
 clear hT
 obtain ⟨L,K,w,s⟩:=d
 replace ha:Sl F 148 2 encN (.slice an 0 ab ae 2 L.length ac) L:=ha
 replace hb:Sl F 151 6 encK (.slice bn 0 bb be 6 K.length bc) K:=hb
 obtain ⟨v,hv⟩:∃ v,docOk ⟨L,K,w,s⟩ = v:=⟨_,rfl⟩
 rw [hv] at hva hpt hpf hne hcl hlen
 have fin:∀ (z:Out) (F1:Fz) (h:Hp) (nx:Nat),pAns 5 ⟨L,K,w,s⟩ = z → (∀ μ,z.ren μ = z) → z.z = true → Fz.le F F1 → lget h 0 = some (.frz F1) → Cln 1 (FoK F fun o F'=>o = pAns 5 ⟨L,K,w,s⟩) z h nx:=by
  intro z F1 h nx hz hr hzz hle h0
  subst hz
  exact endFo (pAns 5 ⟨L,K,w,s⟩) F1 h0 hle (Fz.r F1) rfl (by rw [hr]; exact zaj _) hzz
 refine fo_of hΘ Tryz.func48 rfl (by decide) _ _ rfl rfl rfl ?_;conv=>whnf
 refine use (zez F) [] rfl trivial rfl trivial (by simp) trivial ?_
 rintro _ F0 h0 n0 hle ⟨rfl,rfl,rfl,rfl⟩;conv=>whnf
 refine brd (by decide) ?_; (conv=>whnf); refine brd (by decide) ?_; (conv=>whnf); refine brd (by decide) ?_; (conv=>whnf); refine brd (by decide) ?_; (conv=>whnf); refine bre (by decide) ?_;conv=>whnf
 refine usePu hva rfl (zaa _) rfl ?_
 rcases v with _ | _
 ·conv=>whnf
  refine bre (by decide) ?_;conv=>whnf
  exact fin _ F _ _ (hpf rfl) (fun _=>rfl) rfl (Fz.r F) rfl
 ·conv=>whnf
  refine brd (by decide) ?_;conv=>whnf
  refine zf5 2 rfl ?_
  refine use (hcl rfl) [(1,3),(2,2)] rfl ⟨rfl,rfl,tv⟩ rfl ⟨zao _ (by omega) (by omega) _ _,zai zab _ _ _ _ _,tv⟩ (by simp [SV.below,SC.below,SA.below]) ⟨rfl,rfl,tv⟩ ?_
  rintro out0 F1 h0 n0 hle1 ⟨rfl,rfl,u1,c1,hu1,rfl⟩;conv=>whnf
  refine ze2 (hne rfl) (hlen rfl) rfl (zd5 (by rfl) (by rfl) _ _) rfl (zfx zab _ _ _ _ _) ?_
  intro o';conv=>whnf
  exact fin _ F1 _ _ (hpt rfl) (fun _=>rfl) rfl hle1 rfl
theorem z0s (hP:PFun) (F:Fz) (an:Bool) (ab ae ac:Nat) (bn:Bool) (bb be bc:Nat) (d:Dc) (ha:Sl F 148 2 encN (.slice an 0 ab ae 2 d.lines.length ac) d.lines) (hb:Sl F 151 6 encK (.slice bn 0 bb be 6 d.cells.length bc) d.cells)
  (hl:d.lines.length ≤ 1000) (hc:d.cells.length ≤ 1000) (hs:d.bits.length ≤ 70000) (hcap:d.cells.length ≤ bc) :
  Fo Tryz.prog F 48 [.agg (docS (.slice an 0 ab ae 2 d.lines.length ac) (.slice bn 0 bb be 6 d.cells.length bc) d.w d.bits),.va (.int .i64 6)] (fun o F'=>o = pAns 6 d):=by
 have hva:=zcu F _ _ d ha hb hl hc hs
 have hpt:=zhs (p:=6) (d:=d)
 have hpf:=zhn (p:=6) (d:=d)
 have hne:=zev (p:=6) (d:=d)
 have hB:propB 6 d = zae [d.w,hgt d.w d.bits]:=rfl
 have hx:docOk d = true → ∀ x ∈ d.lines,x.1.length ≤ 1000000:=fun hd x hx=>by
  have:=(zck hd).ln x hx
  unfold dlnOk at this
  simp only [qd,decide_eq_true_eq] at this
  omega
 have hlen:=zd4 (p:=6) (d:=d)
 have hcl:=fun hd:docOk d = true=>z9a hP F an ab ae d.lines.length ac bn bb be d.cells.length bc d.w d.bits (by omega)
 rw [← hB] at hcl
 clear hx hB hs hl hc hcap
 obtain ⟨T,hT⟩:∃ T,propB 6 d = T:=⟨_,rfl⟩
 rw [hT] at hcl hpt hne hlen
 clear hT
 obtain ⟨L,K,w,s⟩:=d
 replace ha:Sl F 148 2 encN (.slice an 0 ab ae 2 L.length ac) L:=ha
 replace hb:Sl F 151 6 encK (.slice bn 0 bb be 6 K.length bc) K:=hb
 obtain ⟨v,hv⟩:∃ v,docOk ⟨L,K,w,s⟩ = v:=⟨_,rfl⟩
 rw [hv] at hva hpt hpf hne hcl hlen
 have fin:∀ (z:Out) (F1:Fz) (h:Hp) (nx:Nat),pAns 6 ⟨L,K,w,s⟩ = z → (∀ μ,z.ren μ = z) → z.z = true → Fz.le F F1 → lget h 0 = some (.frz F1) → Cln 1 (FoK F fun o F'=>o = pAns 6 ⟨L,K,w,s⟩) z h nx:=by
  intro z F1 h nx hz hr hzz hle h0
  subst hz
  exact endFo (pAns 6 ⟨L,K,w,s⟩) F1 h0 hle (Fz.r F1) rfl (by rw [hr]; exact zaj _) hzz
 refine fo_of hΘ Tryz.func48 rfl (by decide) _ _ rfl rfl rfl ?_;conv=>whnf
 refine use (zez F) [] rfl trivial rfl trivial (by simp) trivial ?_
 rintro _ F0 h0 n0 hle ⟨rfl,rfl,rfl,rfl⟩;conv=>whnf
 refine brd (by decide) ?_; (conv=>whnf); refine brd (by decide) ?_; (conv=>whnf); refine brd (by decide) ?_; (conv=>whnf); refine brd (by decide) ?_; (conv=>whnf); refine brd (by decide) ?_; (conv=>whnf); refine bre (by decide) ?_;conv=>whnf
 refine usePu hva rfl (zaa _) rfl ?_
 rcases v with _ | _
 ·conv=>whnf
  refine bre (by decide) ?_;conv=>whnf
  exact fin _ F _ _ (hpf rfl) (fun _=>rfl) rfl (Fz.r F) rfl
 ·conv=>whnf
  refine brd (by decide) ?_;conv=>whnf
  refine zf5 2 rfl ?_
  refine use (hcl rfl) [(1,3),(2,2)] rfl ⟨rfl,rfl,tv⟩ rfl ⟨zao _ (by omega) (by omega) _ _,zai zab _ _ _ _ _,tv⟩ (by simp [SV.below,SC.below,SA.below]) ⟨rfl,rfl,tv⟩ ?_
  rintro out0 F1 h0 n0 hle1 ⟨rfl,rfl,u1,c1,hu1,rfl⟩;conv=>whnf
  refine ze2 (hne rfl) (hlen rfl) rfl (zd5 (by rfl) (by rfl) _ _) rfl (zfx zab _ _ _ _ _) ?_
  intro o';conv=>whnf
  exact fin _ F1 _ _ (hpt rfl) (fun _=>rfl) rfl hle1 rfl
theorem zyg (hP:PFun) (F:Fz) (an:Bool) (ab ae ac:Nat) (bn:Bool) (bb be bc:Nat) (d:Dc) (ha:Sl F 148 2 encN (.slice an 0 ab ae 2 d.lines.length ac) d.lines) (hb:Sl F 151 6 encK (.slice bn 0 bb be 6 d.cells.length bc) d.cells)
  (hl:d.lines.length ≤ 1000) (hc:d.cells.length ≤ 1000) (hs:d.bits.length ≤ 70000) (hcap:d.cells.length ≤ bc) :
  Fo Tryz.prog F 48 [.agg (docS (.slice an 0 ab ae 2 d.lines.length ac) (.slice bn 0 bb be 6 d.cells.length bc) d.w d.bits),.va (.int .i64 7)] (fun o F'=>o = pAns 7 d):=by
 have hva:=zcu F _ _ d ha hb hl hc hs
 have hpt:=zhs (p:=7) (d:=d)
 have hpf:=zhn (p:=7) (d:=d)
 have hne:=zev (p:=7) (d:=d)
 have hB:propB 7 d = zae [d.w,hgt d.w d.bits] ++ (putSR d.bits).1:=rfl
 have hx:docOk d = true → ∀ x ∈ d.lines,x.1.length ≤ 1000000:=fun hd x hx=>by
  have:=(zck hd).ln x hx
  unfold dlnOk at this
  simp only [qd,decide_eq_true_eq] at this
  omega
 have hlen:=zd4 (p:=7) (d:=d)
 have hcl:=fun hd:docOk d = true=>z8c hP F an ab ae d.lines.length ac bn bb be d.cells.length bc d.w d.bits (by omega)
 rw [← hB] at hcl
 clear hx hB hs hl hc hcap
 obtain ⟨T,hT⟩:∃ T,propB 7 d = T:=⟨_,rfl⟩
 rw [hT] at hcl hpt hne hlen
 clear hT
 obtain ⟨L,K,w,s⟩:=d
 replace ha:Sl F 148 2 encN (.slice an 0 ab ae 2 L.length ac) L:=ha
 replace hb:Sl F 151 6 encK (.slice bn 0 bb be 6 K.length bc) K:=hb
 obtain ⟨v,hv⟩:∃ v,docOk ⟨L,K,w,s⟩ = v:=⟨_,rfl⟩
 rw [hv] at hva hpt hpf hne hcl hlen
 have fin:∀ (z:Out) (F1:Fz) (h:Hp) (nx:Nat),pAns 7 ⟨L,K,w,s⟩ = z → (∀ μ,z.ren μ = z) → z.z = true → Fz.le F F1 → lget h 0 = some (.frz F1) → Cln 1 (FoK F fun o F'=>o = pAns 7 ⟨L,K,w,s⟩) z h nx:=by
  intro z F1 h nx hz hr hzz hle h0
  subst hz
  exact endFo (pAns 7 ⟨L,K,w,s⟩) F1 h0 hle (Fz.r F1) rfl (by rw [hr]; exact zaj _) hzz
 refine fo_of hΘ Tryz.func48 rfl (by decide) _ _ rfl rfl rfl ?_;conv=>whnf
 refine use (zez F) [] rfl trivial rfl trivial (by simp) trivial ?_
 rintro _ F0 h0 n0 hle ⟨rfl,rfl,rfl,rfl⟩;conv=>whnf
 refine brd (by decide) ?_; (conv=>whnf); refine brd (by decide) ?_; (conv=>whnf); refine brd (by decide) ?_; (conv=>whnf); refine brd (by decide) ?_; (conv=>whnf); refine brd (by decide) ?_; (conv=>whnf); refine brd (by decide) ?_; (conv=>whnf); refine bre (by decide) ?_;conv=>whnf
 refine usePu hva rfl (zaa _) rfl ?_
 rcases v with _ | _
 ·conv=>whnf
  refine bre (by decide) ?_;conv=>whnf
  exact fin _ F _ _ (hpf rfl) (fun _=>rfl) rfl (Fz.r F) rfl
 ·conv=>whnf
  refine brd (by decide) ?_;conv=>whnf
  refine zf5 2 rfl ?_
  refine use (hcl rfl) [(1,3),(2,2)] rfl ⟨rfl,rfl,tv⟩ rfl ⟨zao _ (by omega) (by omega) _ _,zai zab _ _ _ _ _,tv⟩ (by simp [SV.below,SC.below,SA.below]) ⟨rfl,rfl,tv⟩ ?_
  rintro out0 F1 h0 n0 hle1 ⟨rfl,rfl,u1,c1,hu1,rfl⟩;conv=>whnf
  refine ze2 (hne rfl) (hlen rfl) rfl (zd5 (by rfl) (by rfl) _ _) rfl (zfx zab _ _ _ _ _) ?_
  intro o';conv=>whnf
  exact fin _ F1 _ _ (hpt rfl) (fun _=>rfl) rfl hle1 rfl
theorem zxq (hP:PFun) (F:Fz) (an:Bool) (ab ae ac:Nat) (bn:Bool) (bb be bc:Nat) (d:Dc) (ha:Sl F 148 2 encN (.slice an 0 ab ae 2 d.lines.length ac) d.lines) (hb:Sl F 151 6 encK (.slice bn 0 bb be 6 d.cells.length bc) d.cells)
  (hl:d.lines.length ≤ 1000) (hc:d.cells.length ≤ 1000) (hs:d.bits.length ≤ 70000) (hcap:d.cells.length ≤ bc) :
  Fo Tryz.prog F 48 [.agg (docS (.slice an 0 ab ae 2 d.lines.length ac) (.slice bn 0 bb be 6 d.cells.length bc) d.w d.bits),.va (.int .i64 8)] (fun o F'=>o = pAns 8 d):=by
 have hva:=zcu F _ _ d ha hb hl hc hs
 have hpt:=zhs (p:=8) (d:=d)
 have hpf:=zhn (p:=8) (d:=d)
 have hne:=zev (p:=8) (d:=d)
 have hB:propB 8 d = zae [(d.lines.length:Int),(d.cells.length:Int)]:=rfl
 have hx:docOk d = true → ∀ x ∈ d.lines,x.1.length ≤ 1000000:=fun hd x hx=>by
  have:=(zck hd).ln x hx
  unfold dlnOk at this
  simp only [qd,decide_eq_true_eq] at this
  omega
 have hlen:=zd4 (p:=8) (d:=d)
 have hcl:=fun hd:docOk d = true=>z7u hP F an ab ae d.lines.length ac bn bb be d.cells.length bc d.w d.bits
 rw [← hB] at hcl
 clear hx hB hs hl hc hcap
 obtain ⟨T,hT⟩:∃ T,propB 8 d = T:=⟨_,rfl⟩
 rw [hT] at hcl hpt hne hlen
 clear hT
 obtain ⟨L,K,w,s⟩:=d
 replace ha:Sl F 148 2 encN (.slice an 0 ab ae 2 L.length ac) L:=ha
 replace hb:Sl F 151 6 encK (.slice bn 0 bb be 6 K.length bc) K:=hb
 obtain ⟨v,hv⟩:∃ v,docOk ⟨L,K,w,s⟩ = v:=⟨_,rfl⟩
 rw [hv] at hva hpt hpf hne hcl hlen
 have fin:∀ (z:Out) (F1:Fz) (h:Hp) (nx:Nat),pAns 8 ⟨L,K,w,s⟩ = z → (∀ μ,z.ren μ = z) → z.z = true → Fz.le F F1 → lget h 0 = some (.frz F1) → Cln 1 (FoK F fun o F'=>o = pAns 8 ⟨L,K,w,s⟩) z h nx:=by
  intro z F1 h nx hz hr hzz hle h0
  subst hz
  exact endFo (pAns 8 ⟨L,K,w,s⟩) F1 h0 hle (Fz.r F1) rfl (by rw [hr]; exact zaj _) hzz
 refine fo_of hΘ Tryz.func48 rfl (by decide) _ _ rfl rfl rfl ?_;conv=>whnf
 refine use (zez F) [] rfl trivial rfl trivial (by simp) trivial ?_
 rintro _ F0 h0 n0 hle ⟨rfl,rfl,rfl,rfl⟩;conv=>whnf
 refine brd (by decide) ?_; (conv=>whnf); refine brd (by decide) ?_; (conv=>whnf); refine brd (by decide) ?_; (conv=>whnf); refine brd (by decide) ?_; (conv=>whnf); refine brd (by decide) ?_; (conv=>whnf); refine brd (by decide) ?_; (conv=>whnf); refine brd (by decide) ?_; (conv=>whnf); refine bre (by decide) ?_;conv=>whnf
 refine usePu hva rfl (zaa _) rfl ?_
 rcases v with _ | _
 ·conv=>whnf
  refine bre (by decide) ?_;conv=>whnf
  exact fin _ F _ _ (hpf rfl) (fun _=>rfl) rfl (Fz.r F) rfl
 ·conv=>whnf
  refine brd (by decide) ?_;conv=>whnf
  refine zf5 2 rfl ?_
  refine use (hcl rfl) [(1,3),(2,2)] rfl ⟨rfl,rfl,tv⟩ rfl ⟨zao _ (by omega) (by omega) _ _,zai zab _ _ _ _ _,tv⟩ (by simp [SV.below,SC.below,SA.below]) ⟨rfl,rfl,tv⟩ ?_
  rintro out0 F1 h0 n0 hle1 ⟨rfl,rfl,u1,c1,hu1,rfl⟩;conv=>whnf
  refine ze2 (hne rfl) (hlen rfl) rfl (zd5 (by rfl) (by rfl) _ _) rfl (zfx zab _ _ _ _ _) ?_
  intro o';conv=>whnf
  exact fin _ F1 _ _ (hpt rfl) (fun _=>rfl) rfl hle1 rfl
end Go.Proofs.YtfnkamphhpldcaaGreatDoor
