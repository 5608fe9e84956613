import Derived.Test.YtfnkamphhpldcaaGreatDoorK29
set_option maxHeartbeats 64000000
namespace Go.Proofs.YtfnkamphhpldcaaGreatDoor
open Go Sx
set_option maxRecDepth 100000
def zd5 (n:Int):Int:=if 1000000000000 < (if -1000000000000 > n then -1000000000000 else n) then 1000000000000 else (if -1000000000000 > n then -1000000000000 else n)
def zo9 (c e:Cel):Bool:=inR e.row c.top c.row && inR e.col c.left c.col
def sumF (c:Cel):List (Cel × Int) → Int → Int
 |[],n=>n
 |(e,v) :: r,n=>sumF c r (if zo9 c e = true then IntKind.i64.wrap (n + v) else n)
theorem znu (c:Cel):∀ (l:List (Cel × Int)) (e:Cel) (v n:Int),sumF c (l ++ [(e,v)]) n = if zo9 c e = true then IntKind.i64.wrap (sumF c l n + v) else sumF c l n
 |[],e,v,n=>rfl
 |(e',v') :: r,e,v,n=>znu c r e v _
def valF (done:List Cel) (o:List Int) (c:Cel):Int:=zd5 (if c.sum = true then sumF c (done.zip o) c.value else c.value)
def valsA:List Cel → List Cel → List Int → List Int
 |[],_,o=>o
 |c :: r,done,o=>valsA r (done ++ [c]) (o ++ [valF done o c])
def valsF (l:List Cel):List Int:=valsA l [] []
theorem zs5 {l:List Cel} {k:Nat} {o:List Int} {c:Cel} (g:k < l.length) (hc:l[k] = c):valsA (l.drop k) (l.take k) o = valsA (l.drop (k + 1)) (l.take (k + 1)) (o ++ [valF (l.take k) o c]):=by
 rw [qv g,qi g,hc]; rfl
theorem z0l {l:List Cel} {o:List Int} {k j:Nat} {e:Cel} {v:Int} (hk:k ≤ l.length) (ho:o.length = k) (hj:j < k) (he:l[j]? = some e) (hv:o[j]? = some v) :
  ((l.take k).zip o).take (j + 1) = ((l.take k).zip o).take j ++ [(e,v)]:=by
 have hz:((l.take k).zip o).length = k:=by rw [qa1,qn,ho]; omega
 rw [qi (by rw [hz]; exact hj),qcm]
 have h1:(l.take k)[j]'(by rw [qn]; omega) = e:=by
  rw [List.getElem_take]
  exact (qh.1 he).2
 have h2:o[j]'(by omega) = v:=(qh.1 hv).2
 rw [h1,h2]
def docE4 (a b:SA) (w:Int) (s:List UInt8):Ent:=.one (.cells 176 (docS a b w s))
theorem zbi {n:Nat} {a b:SA} {w:Int} {s:List UInt8} (ha:a.below n) (hb:b.below n):(docE4 a b w s).below n:=zb8 (w:=w) (s:=s) ha hb
def celE (c:Cel):Ent:=.one (.cells 151 (encK c))
theorem zgl {n:Nat} (c:Cel):(celE c).below n:=(SB.bB_ok rfl:SB.below n (.cells 151 (encK c)))
theorem z8z {F F':Fz} {o:List Int} {co b:Nat} {h:Hp} {nx:Nat} (hle:Fz.le F F') (hb:F' b = some (.arr 3 1 (o.map encI) co)) (h0:lget h 0 = some (.frz F')) {K:List Cel} (hv:valsF K = o) {u:Out} (hu:u.ren (resP h) = .ret (.va (.slice false 0 b 0 1 o.length co))) :
  Cln 1 (FoK F fun o F'=>∃ r,o = .ret (.va r) ∧ ((K = [] ∧ r = .nilsl) ∨ (zd7 F' r (valsF K) ∧ ∃ b c,r = .slice false 0 b 0 1 (valsF K).length c))) u h nx:=by
 subst hv
 exact endFo (.ret (.va (.slice false 0 b 0 1 (valsF K).length co))) F' h0 hle (Fz.r F') ⟨_,rfl,.inr ⟨Sl.new (l:=valsF K) hb,_,_,rfl⟩⟩ (by rw [hu]; exact zaj _) rfl
theorem zus (F:Fz) (an:Bool) (ab ae al ac:Nat) (bn:Bool) (bb be bc:Nat) (K:List Cel) (w:Int) (s:List UInt8) (hb:Sl F 151 6 encK (.slice bn 0 bb be 6 K.length bc) K) (hl:K.length ≤ 1000) (hcap:K.length ≤ bc) :
  Fo Tryz.prog F 166 [.agg (docS (.slice an 0 ab ae 2 al ac) (.slice bn 0 bb be 6 K.length bc) w s)] (fun o F'=>∃ r,o = .ret (.va r) ∧ ((K = [] ∧ r = .nilsl) ∨ (zd7 F' r (valsF K) ∧ ∃ b c,r = .slice false 0 b 0 1 (valsF K).length c))):=by
 obtain ⟨hbn,hbb,hbe,hbc,hbL,hbr,heq,hb1,hb2,hb3,hb4⟩:=hb
 cases heq
 refine fo_of hΘ Tryz.func166 rfl (by decide) _ _ rfl rfl rfl ?_;conv=>whnf
 refine zan hΘ (X:={ y:Nat × List Int × Nat // y.1 ≤ K.length ∧ y.2.1.length = y.1 ∧ valsF K = valsA (K.drop y.1) (K.take y.1) y.2.1 }) (fun y=>[(3,.va (gA 1 2 y.1.2.2 y.1.2.1)),(13,.va (.int .i64 y.1.1))]) [4,5,6,7,8,14,15,16,17,18,19,20,21,22,23,24,25,26,27,28,29,30,31,32,33,34,35,36,37,38,39,40,41,42,43,44,45,46,47,48,49,50,51,52,53,54,55,56,57,58,59,60,61,62]
  (fun y=>[(0,.frz F),(1,docE4 (.slice an 0 ab ae 2 al ac) (.slice bn 0 bb be 6 K.length bc) w s),(2,gE 3 1 encI y.1.2.2 y.1.2.1)]) 3 (fun y=>K.length - y.1.1) ⟨(0,[],0),yq _,rfl,rfl⟩
  (fun hH hT=>leI [(2,2)] hH hT rfl ⟨tv,zbi (.inr (by omega)) (.inr (by omega)),zai zaw _ _ _ _ _,tv⟩ ⟨rfl,rfl,tv⟩ ⟨Fz.r F,rfl,rfl,tv⟩) ?_
 rintro ⟨⟨k,o,co⟩,hk,ho,hv⟩ hH hT
 replace hk:k ≤ K.length:=hk
 replace ho:o.length = k:=ho
 replace hv:valsF K = valsA (K.drop k) (K.take k) o:=hv
 by_cases g:k < K.length
 ·have hlt:(k:Int) < (K.length:Nat):=by omega
  have hidx:0 ≤ (k:Int) ∧ (k:Int) < (K.length:Nat):=by omega
  have hex:∃ c,K[k] = c:=⟨_,rfl⟩
  obtain ⟨c,hc⟩:=hex
  have hat:hbL[be + (k:Int).toNat]? = some (encK c):=by rw [← hc]; exact Sl.at hb4 g
  rw [zs5 g hc] at hv
  have hk1:k + 1 ≤ K.length:=g
  have hdec:K.length - (k + 1) < K.length - k:=by omega
  have hk62:k < 4611686018427387904:=by omega
  conv=>whnf
  refine bri hlt ?_;conv=>whnf
  refine ⟨Sl.lt hb1 g,hidx,?_⟩;conv=>whnf
  refine ⟨_,hb2 (Sl.lt hb1 g),?_⟩;conv=>whnf
  refine ⟨_,hat,?_⟩;conv=>whnf
  by_cases hs:c.sum = true
  ·refine br (fun _=>?_) (fun g2=>absurd hs (by rw [g2]; simp))
   have hz:valF (K.take k) o c = zd5 (sumF c ((K.take k).zip o) c.value):=by rw [valF,if_pos hs]
   have hcut:0 ≤ (k:Int) ∧ (k:Int) ≤ (bc:Nat):=by omega
   conv=>whnf
   refine ⟨hcut,?_⟩;conv=>whnf
   refine zan hΘ (X:={ y:Nat × Int // y.1 ≤ k ∧ y.2 = sumF c (((K.take k).zip o).take y.1) c.value }) (fun y=>[(6,.va (.int .i64 y.1.2)),(28,.va (.int .i64 y.1.1))]) [7,8,29,30,31,32,33,34,35,36,37,38,39,40,41,42,43,44,45,46,47,48,49,50,51,52,53,54,55]
    (fun _=>[(0,.frz F),(1,docE4 (.slice an 0 ab ae 2 al ac) (.slice bn 0 bb be 6 K.length bc) w s),(2,gE 3 1 encI co o),(3,celE c)]) 4 (fun y=>k - y.1.1) ⟨(0,c.value),yq _,rfl⟩
    (fun hH hT=>leI [] hH hT rfl ⟨tv,zbi (.inr (by omega)) (.inr (by omega)),zai zaw _ _ _ _ _,zgl _,tv⟩ ⟨rfl,rfl,tv⟩ ⟨Fz.r F,rfl,zav zaw (zax _ _ _ _),rfl,tv⟩) ?_
   rintro ⟨⟨j,n⟩,hj,hn⟩ hH1 hT1
   replace hj:j ≤ k:=hj
   replace hn:n = sumF c (((K.take k).zip o).take j) c.value:=hn
   by_cases gj:j < k
   ·have hlj:(j:Int) < (k:Nat):=by omega
    have hij:0 ≤ (j:Int) ∧ (j:Int) < (k:Nat):=by omega
    have gjK:j < K.length:=by omega
    have gjo:j < o.length:=by omega
    have hex2:∃ e v,K[j] = e ∧ o[j] = v:=⟨_,_,rfl,rfl⟩
    obtain ⟨e,v,hKe,hov⟩:=hex2
    have hat2:hbL[(if bc = 0 then be else be + 0) + (j:Int).toNat]? = some (encK e):=by
     rw [← hKe,show (if bc = 0 then be else be + 0) = be by split<;>rfl]; exact Sl.at hb4 gjK
    have hot:(o.map encI)[0 + (j:Int).toNat]? = some (encI v):=by rw [ji,ql,qs,qc gjo,hov]; rfl
    have hzt:=z0l (e:=e) (v:=v) hk ho gj (by rw [qc gjK,hKe]) (by rw [qc gjo,hov])
    have hnx:sumF c (((K.take k).zip o).take (j + 1)) c.value = if zo9 c e = true then IntKind.i64.wrap (n + v) else n:=by
     rw [hzt,znu,← hn]
    have hio:0 ≤ (j:Int) ∧ (j:Int) < (o.length:Nat):=by omega
    have hxx:∃ b1 b2,inR e.row c.top c.row = b1 ∧ inR e.col c.left c.col = b2:=⟨_,_,rfl,rfl⟩
    obtain ⟨b1,b2,hb1',hb2'⟩:=hxx
    have w1:=zdx hb1' F
    have w2:=zdx hb2' F
    have hia:zo9 c e = (b1 && b2):=by unfold zo9; rw [hb1',hb2']
    rw [hia] at hnx
    have hj1:j + 1 ≤ k:=gj
    have hdj:k - (j + 1) < k - j:=by omega
    have hj62:j < 4611686018427387904:=by omega
    clear hzt hKe hov hb1' hb2' hia
    rcases o with _ | ⟨o0,or'⟩
    ·exact absurd gjo (by simp)
    ·conv=>whnf
     refine bri hlj ?_;conv=>whnf
     refine ⟨Sl.lt hb1 gjK,hij,?_⟩;conv=>whnf
     refine ⟨_,hb2 (Sl.lt hb1 gjK),?_⟩;conv=>whnf
     refine ⟨_,hat2,?_⟩;conv=>whnf
     refine usePu w1 rfl ⟨rfl,rfl,rfl,tv⟩ rfl ?_
     rcases b1 with _ | _
     ·conv=>whnf
      exact ⟨⟨(j + 1,n),hj1,by rw [hnx]; rfl⟩,hdj,leR [] hH1 hT1 rfl ⟨tv,zbi (.inr (by omega)) (.inr (by omega)),zai zaw _ _ _ _ _,zgl _,tv⟩ ⟨rfl,cnt hj62,tv⟩ ⟨Fz.r F,rfl,zav zaw (zax _ _ _ _),rfl,tv⟩⟩
     ·conv=>whnf
      refine usePu w2 rfl ⟨rfl,rfl,rfl,tv⟩ rfl ?_
      rcases b2 with _ | _
      ·conv=>whnf
       exact ⟨⟨(j + 1,n),hj1,by rw [hnx]; rfl⟩,hdj,leR [] hH1 hT1 rfl ⟨tv,zbi (.inr (by omega)) (.inr (by omega)),zai zaw _ _ _ _ _,zgl _,tv⟩ ⟨rfl,cnt hj62,tv⟩ ⟨Fz.r F,rfl,zav zaw (zax _ _ _ _),rfl,tv⟩⟩
      ·conv=>whnf
       refine ⟨rfl,hio,?_⟩;conv=>whnf
       refine ⟨rfl,_,hot,?_⟩;conv=>whnf
       exact ⟨⟨(j + 1,IntKind.i64.wrap (n + v)),hj1,by rw [hnx]; rfl⟩,hdj,leR [] hH1 hT1 rfl ⟨tv,zbi (.inr (by omega)) (.inr (by omega)),zai zaw _ _ _ _ _,zgl _,tv⟩ ⟨rfl,cnt hj62,tv⟩ ⟨Fz.r F,rfl,zav zaw (zax _ _ _ _),rfl,tv⟩⟩
   ·have hgj:¬ (j:Int) < (k:Nat):=by omega
    have hjk:j = k:=by omega
    have hzl:((K.take k).zip o).length = k:=by rw [qa1,qn,ho]; omega
    rw [hjk,qm (qc7 hzl)] at hn
    rw [← hn] at hz
    rcases o with _ | ⟨o0,or'⟩
    ·conv=>whnf
     refine brj hgj ?_;conv=>whnf
     refine ⟨nb rfl,[encI (zd5 (n))],rfl,?_⟩;conv=>whnf
     refine ⟨rfl,rfl,?_⟩;conv=>whnf
     refine ⟨by show 1 * 8 ≤ 140737488355328; omega,fun c' hc'=>?_⟩;conv=>whnf
     exact ⟨⟨(k + 1,([]) ++ [zd5 (n)],c'),hk1,by rw [qa,yf,ho],by rw [hz] at hv; exact hv⟩,hdec,leRn [_,_,_] [_,_] [(2,5)] hH hT rfl ⟨tv,zbi (.inr (by omega)) (.inr (by omega)),zai zaw _ _ _ _ _,tv⟩ ⟨by (conv=>whnf); exact ⟨rfl,rfl,rfl,.inr ⟨rfl,rfl,rfl,rfl⟩⟩,cnt hk62,tv⟩ ⟨Fz.r F,rfl,zav zaw (zcg _ (by simp)),tv⟩⟩
    ·have hsz:(or'.length + 1 + 1) * 8 ≤ 140737488355328:=by
      have h9:or'.length + 1 = k:=ho
      omega
     conv=>whnf
     refine brj hgj ?_;conv=>whnf
     refine ⟨nb rfl,[encI (zd5 (n))],rfl,?_⟩;conv=>whnf
     refine ⟨rfl,rfl,by simp,rfl,hsz,fun c' hc'=>?_⟩;conv=>whnf
     exact ⟨⟨(k + 1,(o0 :: or') ++ [zd5 (n)],c'),hk1,by rw [qa,yf,ho],by rw [hz] at hv; exact hv⟩,hdec,leRn [_,_,_] [_,_] [(2,5)] hH hT rfl ⟨tv,zbi (.inr (by omega)) (.inr (by omega)),zai zaw _ _ _ _ _,tv⟩ ⟨zqu (μ:=sig [(2,5)]) (i:=2) (j:=5) rfl 1 c' _ (o0 :: or') (zd5 n) rfl,cnt hk62,tv⟩ ⟨Fz.r F,rfl,zav zaw (zcg _ (by simp)),tv⟩⟩
  ·refine br (fun g2=>absurd g2 hs) (fun _=>?_)
   have hz:valF (K.take k) o c = zd5 c.value:=by rw [valF,if_neg hs]
   rcases o with _ | ⟨o0,or'⟩
   ·conv=>whnf
    refine ⟨nb rfl,[encI (zd5 (c.value))],rfl,?_⟩;conv=>whnf
    refine ⟨rfl,rfl,?_⟩;conv=>whnf
    refine ⟨by show 1 * 8 ≤ 140737488355328; omega,fun c' hc'=>?_⟩;conv=>whnf
    exact ⟨⟨(k + 1,([]) ++ [zd5 (c.value)],c'),hk1,by rw [qa,yf,ho],by rw [hz] at hv; exact hv⟩,hdec,leR [(2,5)] hH hT rfl ⟨tv,zbi (.inr (by omega)) (.inr (by omega)),zai zaw _ _ _ _ _,tv⟩ ⟨by (conv=>whnf); exact ⟨rfl,rfl,rfl,.inr ⟨rfl,rfl,rfl,rfl⟩⟩,cnt hk62,tv⟩ ⟨Fz.r F,rfl,zav zaw (zcg _ (by simp)),tv⟩⟩
   ·have hsz:(or'.length + 1 + 1) * 8 ≤ 140737488355328:=by
     have h9:or'.length + 1 = k:=ho
     omega
    conv=>whnf
    refine ⟨nb rfl,[encI (zd5 (c.value))],rfl,?_⟩;conv=>whnf
    refine ⟨rfl,rfl,by simp,rfl,hsz,fun c' hc'=>?_⟩;conv=>whnf
    exact ⟨⟨(k + 1,(o0 :: or') ++ [zd5 (c.value)],c'),hk1,by rw [qa,yf,ho],by rw [hz] at hv; exact hv⟩,hdec,leR [(2,5)] hH hT rfl ⟨tv,zbi (.inr (by omega)) (.inr (by omega)),zai zaw _ _ _ _ _,tv⟩ ⟨zqu (μ:=sig [(2,5)]) (i:=2) (j:=5) rfl 1 c' _ (o0 :: or') (zd5 c.value) rfl,cnt hk62,tv⟩ ⟨Fz.r F,rfl,zav zaw (zcg _ (by simp)),tv⟩⟩
 ·have hge:¬ (k:Int) < (K.length:Nat):=by omega
  have hkl:k = K.length:=by omega
  rw [hkl,jq (qf _)] at hv
  replace hv:valsF K = o:=hv
  rcases o with _ | ⟨o0,or'⟩
  ·have hK:K = []:=qay (by rw [← hkl,← ho]; rfl)
   conv=>whnf
   refine brj hge ?_;conv=>whnf
   exact endFo (.ret (.va .nilsl)) F rfl (Fz.r F) (Fz.r F) ⟨_,rfl,.inl ⟨hK,rfl⟩⟩ (zaj _) rfl
  ·conv=>whnf
   refine brj hge ?_;conv=>whnf
   refine zbl 2 (fun _=>.arr 3 1 ((o0 :: or').map encI) co) rfl rfl rfl (fun _ _=>by exact zcu zaw rfl _ _ _ _) (fun _ _=>zbk zaw _ _ _ _ _) ?_
   intro b' F' hle hb'
   exact z8z hle (hb' 0 ⟨rfl,rfl⟩) rfl hv rfl
end Go.Proofs.YtfnkamphhpldcaaGreatDoor
