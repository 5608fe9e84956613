import Derived.Test.YtfnkamphhpldcaaGreatDoorK26
import Derived.Lib.Builder
import Derived.Laws.Externs
import Derived.Test.YtfnkamphhpldcaaGreatDoorK18
set_option maxHeartbeats 64000000
namespace Go.Proofs.YtfnkamphhpldcaaGreatDoor
open Go Sx
set_option maxRecDepth 100000
def zd7 (n:Int):Int:=if 1000000000000 < (if -1000000000000 > n then -1000000000000 else n) then 1000000000000 else (if -1000000000000 > n then -1000000000000 else n)
def zn5 (c e:Cel):Bool:=inR e.row c.top c.row && inR e.col c.left c.col
def sumF (c:Cel):List (Cel × Int) → Int → Int
 |[],n=>n
 |(e,v) :: r,n=>sumF c r (if zn5 c e = true then IntKind.i64.wrap (n + v) else n)
theorem zny (c:Cel):∀ (l:List (Cel × Int)) (e:Cel) (v n:Int),sumF c (l ++ [(e,v)]) n = if zn5 c e = true then IntKind.i64.wrap (sumF c l n + v) else sumF c l n
 |[],e,v,n=>rfl
 |(e',v') :: r,e,v,n=>zny c r e v _
def valF (done:List Cel) (o:List Int) (c:Cel):Int:=zd7 (if c.sum = true then sumF c (done.zip o) c.value else c.value)
def valsA:List Cel → List Cel → List Int → List Int
 |[],_,o=>o
 |c :: r,done,o=>valsA r (done ++ [c]) (o ++ [valF done o c])
def valsF (l:List Cel):List Int:=valsA l [] []
theorem ztv {l:List Cel} {k:Nat} {o:List Int} {c:Cel} (g:k < l.length) (hc:l[k] = c):valsA (l.drop k) (l.take k) o = valsA (l.drop (k + 1)) (l.take (k + 1)) (o ++ [valF (l.take k) o c]):=by
 rw [qv g,qi g,hc]; rfl
theorem z14 {l:List Cel} {o:List Int} {k j:Nat} {e:Cel} {v:Int} (hk:k ≤ l.length) (ho:o.length = k) (hj:j < k) (he:l[j]? = some e) (hv:o[j]? = some v) :
  ((l.take k).zip o).take (j + 1) = ((l.take k).zip o).take j ++ [(e,v)]:=by
 have hz:((l.take k).zip o).length = k:=by rw [qa1,qn,ho]; omega
 rw [qi (by rw [hz]; exact hj),qcm]
 have h1:(l.take k)[j]'(by rw [qn]; omega) = e:=by
  rw [List.getElem_take]
  exact (qh.1 he).2
 have h2:o[j]'(by omega) = v:=(qh.1 hv).2
 rw [h1,h2]
def docE4 (a b:SA) (w:Int) (s:List UInt8):Ent:=.one (.cells 176 (docS a b w s))
theorem zbi {n:Nat} {a b:SA} {w:Int} {s:List UInt8} (ha:a.below n) (hb:b.below n):(docE4 a b w s).below n:=zb7 (w:=w) (s:=s) ha hb
def celE (c:Cel):Ent:=.one (.cells 151 (encK c))
theorem zgh {n:Nat} (c:Cel):(celE c).below n:=(SB.bB_ok rfl:SB.below n (.cells 151 (encK c)))
theorem z7j {F F':Fz} {o:List Int} {co b:Nat} {h:Hp} {nx:Nat} (hle:Fz.le F F') (hb:F' b = some (.arr 3 1 (o.map encI) co)) (h0:lget h 0 = some (.frz F')) {K:List Cel} (hv:valsF K = o) {u:Out} (hu:u.ren (resP h) = .ret (.va (.slice false 0 b 0 1 o.length co))) :
  Cln 1 (FoK F fun o F'=>∃ r,o = .ret (.va r) ∧ ((K = [] ∧ r = .nilsl) ∨ (zd6 F' r (valsF K) ∧ ∃ b c,r = .slice false 0 b 0 1 (valsF K).length c))) u h nx:=by
 subst hv
 exact endFo (.ret (.va (.slice false 0 b 0 1 (valsF K).length co))) F' h0 hle (Fz.r F') ⟨_,rfl,.inr ⟨Sl.new (l:=valsF K) hb,_,_,rfl⟩⟩ (by rw [hu]; exact zaj _) rfl
theorem zt1 (F:Fz) (an:Bool) (ab ae al ac:Nat) (bn:Bool) (bb be bc:Nat) (K:List Cel) (w:Int) (s:List UInt8) (hb:Sl F 151 6 encK (.slice bn 0 bb be 6 K.length bc) K) (hl:K.length ≤ 1000) (hcap:K.length ≤ bc) :
  Fo Tryz.prog F 166 [.agg (docS (.slice an 0 ab ae 2 al ac) (.slice bn 0 bb be 6 K.length bc) w s)] (fun o F'=>∃ r,o = .ret (.va r) ∧ ((K = [] ∧ r = .nilsl) ∨ (zd6 F' r (valsF K) ∧ ∃ b c,r = .slice false 0 b 0 1 (valsF K).length c))):=by
 obtain ⟨hbn,hbb,hbe,hbc,hbL,hbr,heq,hb1,hb2,hb3,hb4⟩:=hb
 cases heq
 refine fo_of hΘ Tryz.func166 rfl (by decide) _ _ rfl rfl rfl ?_;conv=>whnf
 refine zan hΘ (X:={ y:Nat × List Int × Nat // y.1 ≤ K.length ∧ y.2.1.length = y.1 ∧ valsF K = valsA (K.drop y.1) (K.take y.1) y.2.1 }) (fun y=>[(3,.va (gA 1 2 y.1.2.2 y.1.2.1)),(13,.va (.int .i64 y.1.1))]) [4,5,6,7,8,14,15,16,17,18,19,20,21,22,23,24,25,26,27,28,29,30,31,32,33,34,35,36,37,38,39,40,41,42,43,44,45,46,47,48,49,50,51,52,53,54,55,56,57,58,59,60,61,62]
  (fun y=>[(0,.frz F),(1,docE4 (.slice an 0 ab ae 2 al ac) (.slice bn 0 bb be 6 K.length bc) w s),(2,gE 3 1 encI y.1.2.2 y.1.2.1)]) 3 (fun y=>K.length - y.1.1) ⟨(0,[],0),yq _,rfl,rfl⟩
  (fun hH hT=>leI [(2,2)] hH hT rfl ⟨tv,zbi (.inr (by omega)) (.inr (by omega)),zai zaw _ _ _ _ _,tv⟩ ⟨rfl,rfl,tv⟩ ⟨Fz.r F,rfl,rfl,tv⟩) ?_
 rintro ⟨⟨k,o,co⟩,hk,ho,hv⟩ hH hT
 replace hk:k ≤ K.length:=hk
 replace ho:o.length = k:=ho
 replace hv:valsF K = valsA (K.drop k) (K.take k) o:=hv
 by_cases g:k < K.length
 ·have hlt:(k:Int) < (K.length:Nat):=by omega
  have hidx:0 ≤ (k:Int) ∧ (k:Int) < (K.length:Nat):=by omega
  have hex:∃ c,K[k] = c:=⟨_,rfl⟩
  obtain ⟨c,hc⟩:=hex
  have hat:hbL[be + (k:Int).toNat]? = some (encK c):=by rw [← hc]; exact Sl.at hb4 g
  rw [ztv g hc] at hv
  have hk1:k + 1 ≤ K.length:=g
  have hdec:K.length - (k + 1) < K.length - k:=by omega
  have hk62:k < 4611686018427387904:=by omega
  conv=>whnf
  refine bri hlt ?_;conv=>whnf
  refine ⟨Sl.lt hb1 g,hidx,?_⟩;conv=>whnf
  refine ⟨_,hb2 (Sl.lt hb1 g),?_⟩;conv=>whnf
  refine ⟨_,hat,?_⟩;conv=>whnf
  by_cases hs:c.sum = true
  ·refine br (fun _=>?_) (fun g2=>absurd hs (by rw [g2]; simp))
   have hz:valF (K.take k) o c = zd7 (sumF c ((K.take k).zip o) c.value):=by rw [valF,if_pos hs]
   have hcut:0 ≤ (k:Int) ∧ (k:Int) ≤ (bc:Nat):=by omega
   conv=>whnf
   refine ⟨hcut,?_⟩;conv=>whnf
   refine zan hΘ (X:={ y:Nat × Int // y.1 ≤ k ∧ y.2 = sumF c (((K.take k).zip o).take y.1) c.value }) (fun y=>[(6,.va (.int .i64 y.1.2)),(28,.va (.int .i64 y.1.1))]) [7,8,29,30,31,32,33,34,35,36,37,38,39,40,41,42,43,44,45,46,47,48,49,50,51,52,53,54,55]
    (fun _=>[(0,.frz F),(1,docE4 (.slice an 0 ab ae 2 al ac) (.slice bn 0 bb be 6 K.length bc) w s),(2,gE 3 1 encI co o),(3,celE c)]) 4 (fun y=>k - y.1.1) ⟨(0,c.value),yq _,rfl⟩
    (fun hH hT=>leI [] hH hT rfl ⟨tv,zbi (.inr (by omega)) (.inr (by omega)),zai zaw _ _ _ _ _,zgh _,tv⟩ ⟨rfl,rfl,tv⟩ ⟨Fz.r F,rfl,zav zaw (zax _ _ _ _),rfl,tv⟩) ?_
   rintro ⟨⟨j,n⟩,hj,hn⟩ hH1 hT1
   replace hj:j ≤ k:=hj
   replace hn:n = sumF c (((K.take k).zip o).take j) c.value:=hn
   by_cases gj:j < k
   ·have hlj:(j:Int) < (k:Nat):=by omega
    have hij:0 ≤ (j:Int) ∧ (j:Int) < (k:Nat):=by omega
    have gjK:j < K.length:=by omega
    have gjo:j < o.length:=by omega
    have hex2:∃ e v,K[j] = e ∧ o[j] = v:=⟨_,_,rfl,rfl⟩
    obtain ⟨e,v,hKe,hov⟩:=hex2
    have hat2:hbL[(if bc = 0 then be else be + 0) + (j:Int).toNat]? = some (encK e):=by
     rw [← hKe,show (if bc = 0 then be else be + 0) = be by split<;>rfl]; exact Sl.at hb4 gjK
    have hot:(o.map encI)[0 + (j:Int).toNat]? = some (encI v):=by rw [ji,ql,qs,qc gjo,hov]; rfl
    have hzt:=z14 (e:=e) (v:=v) hk ho gj (by rw [qc gjK,hKe]) (by rw [qc gjo,hov])
    have hnx:sumF c (((K.take k).zip o).take (j + 1)) c.value = if zn5 c e = true then IntKind.i64.wrap (n + v) else n:=by
     rw [hzt,zny,← hn]
    have hio:0 ≤ (j:Int) ∧ (j:Int) < (o.length:Nat):=by omega
    have hxx:∃ b1 b2,inR e.row c.top c.row = b1 ∧ inR e.col c.left c.col = b2:=⟨_,_,rfl,rfl⟩
    obtain ⟨b1,b2,hb1',hb2'⟩:=hxx
    have w1:=zd1 hb1' F
    have w2:=zd1 hb2' F
    have hia:zn5 c e = (b1 && b2):=by unfold zn5; rw [hb1',hb2']
    rw [hia] at hnx
    have hj1:j + 1 ≤ k:=gj
    have hdj:k - (j + 1) < k - j:=by omega
    have hj62:j < 4611686018427387904:=by omega
    clear hzt hKe hov hb1' hb2' hia
    rcases o with _ | ⟨o0,or'⟩
    ·exact absurd gjo (by simp)
    ·conv=>whnf
     refine bri hlj ?_;conv=>whnf
     refine ⟨Sl.lt hb1 gjK,hij,?_⟩;conv=>whnf
     refine ⟨_,hb2 (Sl.lt hb1 gjK),?_⟩;conv=>whnf
     refine ⟨_,hat2,?_⟩;conv=>whnf
     refine usePu w1 rfl ⟨rfl,rfl,rfl,tv⟩ rfl ?_
     rcases b1 with _ | _
     ·conv=>whnf
      exact ⟨⟨(j + 1,n),hj1,by rw [hnx]; rfl⟩,hdj,leR [] hH1 hT1 rfl ⟨tv,zbi (.inr (by omega)) (.inr (by omega)),zai zaw _ _ _ _ _,zgh _,tv⟩ ⟨rfl,cnt hj62,tv⟩ ⟨Fz.r F,rfl,zav zaw (zax _ _ _ _),rfl,tv⟩⟩
     ·conv=>whnf
      refine usePu w2 rfl ⟨rfl,rfl,rfl,tv⟩ rfl ?_
      rcases b2 with _ | _
      ·conv=>whnf
       exact ⟨⟨(j + 1,n),hj1,by rw [hnx]; rfl⟩,hdj,leR [] hH1 hT1 rfl ⟨tv,zbi (.inr (by omega)) (.inr (by omega)),zai zaw _ _ _ _ _,zgh _,tv⟩ ⟨rfl,cnt hj62,tv⟩ ⟨Fz.r F,rfl,zav zaw (zax _ _ _ _),rfl,tv⟩⟩
      ·conv=>whnf
       refine ⟨rfl,hio,?_⟩;conv=>whnf
       refine ⟨rfl,_,hot,?_⟩;conv=>whnf
       exact ⟨⟨(j + 1,IntKind.i64.wrap (n + v)),hj1,by rw [hnx]; rfl⟩,hdj,leR [] hH1 hT1 rfl ⟨tv,zbi (.inr (by omega)) (.inr (by omega)),zai zaw _ _ _ _ _,zgh _,tv⟩ ⟨rfl,cnt hj62,tv⟩ ⟨Fz.r F,rfl,zav zaw (zax _ _ _ _),rfl,tv⟩⟩
   ·have hgj:¬ (j:Int) < (k:Nat):=by omega
    have hjk:j = k:=by omega
    have hzl:((K.take k).zip o).length = k:=by rw [qa1,qn,ho]; omega
    rw [hjk,qm (qc7 hzl)] at hn
    rw [← hn] at hz
    rcases o with _ | ⟨o0,or'⟩
    ·conv=>whnf
     refine brj hgj ?_;conv=>whnf
     refine ⟨nb rfl,[encI (zd7 (n))],rfl,?_⟩;conv=>whnf
     refine ⟨rfl,rfl,?_⟩;conv=>whnf
     refine ⟨by show 1 * 8 ≤ 140737488355328; omega,fun c' hc'=>?_⟩;conv=>whnf
     exact ⟨⟨(k + 1,([]) ++ [zd7 (n)],c'),hk1,by rw [qa,yf,ho],by rw [hz] at hv; exact hv⟩,hdec,leRn [_,_,_] [_,_] [(2,5)] hH hT rfl ⟨tv,zbi (.inr (by omega)) (.inr (by omega)),zai zaw _ _ _ _ _,tv⟩ ⟨by (conv=>whnf); exact ⟨rfl,rfl,rfl,.inr ⟨rfl,rfl,rfl,rfl⟩⟩,cnt hk62,tv⟩ ⟨Fz.r F,rfl,zav zaw (zcj _ (by simp)),tv⟩⟩
    ·have hsz:(or'.length + 1 + 1) * 8 ≤ 140737488355328:=by
      have h9:or'.length + 1 = k:=ho
      omega
     conv=>whnf
     refine brj hgj ?_;conv=>whnf
     refine ⟨nb rfl,[encI (zd7 (n))],rfl,?_⟩;conv=>whnf
     refine ⟨rfl,rfl,by simp,rfl,hsz,fun c' hc'=>?_⟩;conv=>whnf
     exact ⟨⟨(k + 1,(o0 :: or') ++ [zd7 (n)],c'),hk1,by rw [qa,yf,ho],by rw [hz] at hv; exact hv⟩,hdec,leRn [_,_,_] [_,_] [(2,5)] hH hT rfl ⟨tv,zbi (.inr (by omega)) (.inr (by omega)),zai zaw _ _ _ _ _,tv⟩ ⟨zq1 (μ:=sig [(2,5)]) (i:=2) (j:=5) rfl 1 c' _ (o0 :: or') (zd7 n) rfl,cnt hk62,tv⟩ ⟨Fz.r F,rfl,zav zaw (zcj _ (by simp)),tv⟩⟩
  ·refine br (fun g2=>absurd g2 hs) (fun _=>?_)
   have hz:valF (K.take k) o c = zd7 c.value:=by rw [valF,if_neg hs]
   rcases o with _ | ⟨o0,or'⟩
   ·conv=>whnf
    refine ⟨nb rfl,[encI (zd7 (c.value))],rfl,?_⟩;conv=>whnf
    refine ⟨rfl,rfl,?_⟩;conv=>whnf
    refine ⟨by show 1 * 8 ≤ 140737488355328; omega,fun c' hc'=>?_⟩;conv=>whnf
    exact ⟨⟨(k + 1,([]) ++ [zd7 (c.value)],c'),hk1,by rw [qa,yf,ho],by rw [hz] at hv; exact hv⟩,hdec,leR [(2,5)] hH hT rfl ⟨tv,zbi (.inr (by omega)) (.inr (by omega)),zai zaw _ _ _ _ _,tv⟩ ⟨by (conv=>whnf); exact ⟨rfl,rfl,rfl,.inr ⟨rfl,rfl,rfl,rfl⟩⟩,cnt hk62,tv⟩ ⟨Fz.r F,rfl,zav zaw (zcj _ (by simp)),tv⟩⟩
   ·have hsz:(or'.length + 1 + 1) * 8 ≤ 140737488355328:=by
     have h9:or'.length + 1 = k:=ho
     omega
    conv=>whnf
    refine ⟨nb rfl,[encI (zd7 (c.value))],rfl,?_⟩;conv=>whnf
    refine ⟨rfl,rfl,by simp,rfl,hsz,fun c' hc'=>?_⟩;conv=>whnf
    exact ⟨⟨(k + 1,(o0 :: or') ++ [zd7 (c.value)],c'),hk1,by rw [qa,yf,ho],by rw [hz] at hv; exact hv⟩,hdec,leR [(2,5)] hH hT rfl ⟨tv,zbi (.inr (by omega)) (.inr (by omega)),zai zaw _ _ _ _ _,tv⟩ ⟨zq1 (μ:=sig [(2,5)]) (i:=2) (j:=5) rfl 1 c' _ (o0 :: or') (zd7 c.value) rfl,cnt hk62,tv⟩ ⟨Fz.r F,rfl,zav zaw (zcj _ (by simp)),tv⟩⟩
 ·have hge:¬ (k:Int) < (K.length:Nat):=by omega
  have hkl:k = K.length:=by omega
  rw [hkl,jq (qf _)] at hv
  replace hv:valsF K = o:=hv
  rcases o with _ | ⟨o0,or'⟩
  ·have hK:K = []:=qay (by rw [← hkl,← ho]; rfl)
   conv=>whnf
   refine brj hge ?_;conv=>whnf
   exact endFo (.ret (.va .nilsl)) F rfl (Fz.r F) (Fz.r F) ⟨_,rfl,.inl ⟨hK,rfl⟩⟩ (zaj _) rfl
  ·conv=>whnf
   refine brj hge ?_;conv=>whnf
   refine zbl 2 (fun _=>.arr 3 1 ((o0 :: or').map encI) co) rfl rfl rfl (fun _ _=>by exact zcx zaw rfl _ _ _ _) (fun _ _=>zbk zaw _ _ _ _ _) ?_
   intro b' F' hle hb'
   exact z7j hle (hb' 0 ⟨rfl,rfl⟩) rfl hv rfl
end Go.Proofs.YtfnkamphhpldcaaGreatDoor
namespace Go.Proofs.YtfnkamphhpldcaaGreatDoor
open Go Go.RowKit
set_option maxRecDepth 100000 in
/-- copyCheck at a writer that has been used: nothing turns. -/
theorem z2w (b:Nat) (w:World) (h0:w.cell? ⟨b,0,none⟩ = some (.pointer (some ⟨b,0,none⟩))) :
  Calls Tryz.prog 256 #[.pointer (some ⟨b,0,none⟩)] w fun e w'=>e = .returned (.tuple #[]) ∧ w' = w:=by
 obtain ⟨j,hj,_⟩:=y8.1 (show (Tryz.prog.info? 172).map (·.size) = some 2 by kernel_rfl)
 go_enter Tryz.func256,Tryz.ntmps256
 go_wp2
 rw [Lib.run_neq_ptr_same w _ Tryz.underlying170 hj]
 go_wp2
 go_end0
 exact ⟨rfl,rfl⟩
set_option maxRecDepth 100000 in
/-- copyCheck at a fresh writer: it stores its own address. -/
theorem z0h (b:Nat) (w:World) (h0:w.cell? ⟨b,0,none⟩ = some (.pointer none)) (hsh:w.shape? b = some (174,2)) (hfz:w.frozen? ⟨b,0,none⟩ = false) :
  Calls Tryz.prog 256 #[.pointer (some ⟨b,0,none⟩)] w fun e w'=>e = .returned (.tuple #[]) ∧ w' = w.setCell ⟨b,0,none⟩ (.pointer (some ⟨b,0,none⟩)):=by
 obtain ⟨j,hj,hjs⟩:=y8.1 (show (Tryz.prog.info? 172).map (·.size) = some 2 by kernel_rfl)
 go_enter Tryz.func256,Tryz.ntmps256
 go_wp2
 rw [Lib.run_to_unsafe w ⟨b,0,none⟩ Tryz.underlying170 Tryz.underlying334 hj (by rw [hjs]; decide) hsh (Nat.zero_lt_succ 1)]
 simp only [Result.andThen]
 rw [Oper.upon_value]
 go_wp2
 rw [run_callFunc_extern Tryz.func272 (by kernel_rfl) (by kernel_rfl) (by kernel_rfl) (e:=Extern.AbiNoEscape.same) (by kernel_rfl)]
 rw [Lib.run_noEscape]
 simp only [Result.andThen]
 rw [Oper.upon_value]
 go_wp2
 rw [Lib.run_from_unsafe w ⟨b,0,none⟩ Tryz.underlying334 Tryz.underlying170 hj hsh (by kernel_rfl)]
 simp only [Result.andThen]
 rw [Oper.upon_value]
 go_wp2
 go_end0
 exact ⟨rfl,rfl⟩
end Go.Proofs.YtfnkamphhpldcaaGreatDoor
namespace Go.Proofs.YtfnkamphhpldcaaGreatDoor
open Go Go.RowKit Sx
theorem zrj {h:Hp} {nx:Nat} {K:Out → Hp → Nat → Prop} {i:Nat} {bf:SA} (he:lget h i = some (.one (.cells 174 [.nilptr,bf])))
  (hk:K (.ret (.tup [])) (lput h i (.one (.cells 174 [.ptr ⟨i,0,0,0,0⟩,bf]))) nx):za6 Tryz.prog 256 [.va (.ptr ⟨i,0,0,0,0⟩)] h nx K:=by
 unfold za6
 intro C ρ w vs S hr hb
 refine ⟨Sx.enters_of Tryz.func256 rfl (by decide),?_⟩
 match vs,hr with
 |[v],hr=>
  have hv:v = .pointer (some ⟨ρ i 0,0,none⟩):=by
   have h1:=hr.1
   simpa [SV.rel,SA.den,Pl.addr] using h1
  subst hv
  have has:(Ent.one (.cells 174 [.nilptr,bf])).has 0:=rfl
  obtain ⟨o,ho,hok⟩:=S.blk i _ he 0 has
  have hwf:=S.wf i _ he 0 has
  have hlt:=S.lt i _ he
  have hrow:RowAt w (ρ i 0) 174 ([SA.nilptr,bf].map (SA.den ρ)):=⟨o,ho,hok⟩
  have c0:w.cell? ⟨ρ i 0,0,none⟩ = some (.pointer none):=by rw [hrow.cell]; rfl
  have hfz:=hrow.free 0 (by simp)
  obtain ⟨fr,hfr,rfl⟩:=hok
  have hsh:w.shape? (ρ i 0) = some (174,2):=by simp [World.shape?,ho]
  refine (z0h (ρ i 0) w c0 hsh hfz).mono ?_
  rintro e w' ⟨rfl,rfl⟩
  rw [setCell_eq_setRow w (ρ i 0) 0 _ 174 fr _ ho]
  refine ⟨.ret (.tup []),_,nx,ρ,hk,⟨_,rfl,rfl⟩,?_,fun _ _=>rfl,qf _,?_⟩
  ·exact S.upd 0 he rfl rfl has (fun _=>Iff.rfl) _ (fun k' hk' h2=>absurd (show k' = 0 from h2) hk') ⟨fr,hfr,rfl⟩ (fun a ha=>by
    simp only [qj,qq,or_false] at ha
    rcases ha with rfl | rfl
    ·exact hlt
    ·exact hwf a (by simp)) rfl rfl rfl (by simp) (setRow_heap w _ _ _ 174 _ ho) (fun b hb'=>zd9 w _ b _ hb')
  ·intro c hc
   cases hc
theorem zl7 {h:Hp} {nx:Nat} {K:Out → Hp → Nat → Prop} {i:Nat} {bf:SA} (he:lget h i = some (.one (.cells 174 [.ptr ⟨i,0,0,0,0⟩,bf])))
  (hk:K (.ret (.tup [])) h nx):za6 Tryz.prog 256 [.va (.ptr ⟨i,0,0,0,0⟩)] h nx K:=by
 unfold za6
 intro C ρ w vs S hr hb
 refine ⟨Sx.enters_of Tryz.func256 rfl (by decide),?_⟩
 match vs,hr with
 |[v],hr=>
  have hv:v = .pointer (some ⟨ρ i 0,0,none⟩):=by
   have h1:=hr.1
   simpa [SV.rel,SA.den,Pl.addr] using h1
  subst hv
  have has:(Ent.one (.cells 174 [.ptr ⟨i,0,0,0,0⟩,bf])).has 0:=rfl
  obtain ⟨o,ho,hok⟩:=S.blk i _ he 0 has
  have hrow:RowAt w (ρ i 0) 174 ([SA.ptr ⟨i,0,0,0,0⟩,bf].map (SA.den ρ)):=⟨o,ho,hok⟩
  have c0:w.cell? ⟨ρ i 0,0,none⟩ = some (.pointer (some ⟨ρ i 0,0,none⟩)):=by rw [hrow.cell]; simp [SA.den,Pl.addr]
  refine (z2w (ρ i 0) w c0).mono ?_
  rintro e w' ⟨rfl,rfl⟩
  exact ⟨.ret (.tup []),h,nx,ρ,hk,⟨_,rfl,rfl⟩,S,fun _ _=>rfl,qf _,fun c hc=>by cases hc⟩
end Go.Proofs.YtfnkamphhpldcaaGreatDoor
namespace Go.Proofs.YtfnkamphhpldcaaGreatDoor
open Go Sx
set_option maxRecDepth 100000
def wrA (u:Bool) (i:Nat):SA:=match u with
 |false=>.nilptr
 |true=>.ptr ⟨i,0,0,0,0⟩
def wrC (u:Bool) (i j c:Nat) (l:List UInt8):Ent:=.one (.cells 174 [wrA u i,gA 1 j c l])
theorem zao {n i j:Nat} (u:Bool) (hi:i < n) (hj:j < n) (c:Nat) (l:List UInt8):(wrC u i j c l).below n:=by
 cases u<;>intro a ha<;>simp only [qj,qq,or_false] at ha<;>rcases ha with rfl | rfl
 ·trivial
 ·cases l with
  |nil=>trivial
  |cons x r=>exact .inr hj
 ·exact hi
 ·cases l with
  |nil=>trivial
  |cons x r=>exact .inr hj
theorem zd5 {μ:Mu} {u:Bool} {i i' j j':Nat} (hi:μ i 0 = (i',0)) (hj:μ j 0 = (j',0)) (c:Nat) (l:List UInt8):(wrC u i j c l).ren μ = wrC u i' j' c l:=by
 cases u
 ·show Ent.one (.cells _ [.nilptr,(gA 1 j c l).ren μ]) = _
  rw [zr9 hj]; rfl
 ·show Ent.one (.cells _ [.ptr ⟨(μ i 0).1,(μ i 0).2 + 0,0,0,0⟩,(gA 1 j c l).ren μ]) = _
  rw [zr9 hj,hi]; rfl
theorem zbr {μ:Mu} {u:Bool} {i i' j j' c:Nat} {l:List UInt8} (hi:μ i 0 = (i',0)) (hj:μ j 0 = (j',0)):subE (some (wrC u i' j' c l)) ((wrC u i j c l).ren μ):=by
 rw [zd5 hi hj]; cases u<;>exact rfl
theorem zp6 {μ:Mu} {i i' j j' c n:Nat} {x:UInt8} {l:List UInt8} (hi:μ i 0 = (i',0)) (hj:μ j 0 = (j',0)) (hn:n = l.length + 1):subE (some (.one (.cells 174 [.ptr ⟨i',0,0,0,0⟩,.slice false j' 0 0 1 n c]))) ((wrC true i j c (x :: l)).ren μ):=by
 subst hn; rw [zd5 hi hj]; exact rfl
abbrev wrN (c:Nat) (l:List UInt8):List (Nat × Ent):=[(1,wrC true 1 3 c l),(2,.gone),(3,gE 5 1 encB c l)]
theorem zf1 (c:Nat) (l:List UInt8):bH 4 (wrN c l):=⟨zao _ (by omega) (by omega) _ _,tv,zai zab _ _ _ _ _,tv⟩
abbrev wrH (u:Bool) (c:Nat) (l:List UInt8):List (Nat × Ent):=[(1,wrC u 1 2 c l),(2,gE 5 1 encB c l)]
theorem zwo (F:Fz) (u:Bool) (s out:List UInt8) (c:Nat) (hu:u = false → out = []) (hs:s.length ≤ 1000000000000) (ho:out.length ≤ 1000000000000) :
  Ct Tryz.prog 224 [.va (.ptr ⟨1,0,0,0,0⟩),.va (.str s)] F (wrH u c out) 3
   (fun o F0 h0 n0=>F = F0 ∧ n0 = 4 ∧ o = .ret (.tup [.va (.int .i64 s.length),.va .nilif]) ∧ ∃ c',h0 = wrN c' (out ++ s)):=by
 rcases u with _ | _
 ·obtain rfl:=hu rfl
  rcases s with _ | ⟨b,t⟩
  ·refine ct_of hΘ Tryz.func224 rfl (by decide) _ _ rfl rfl rfl ?_;conv=>whnf
   refine zrj rfl ?_;conv=>whnf
   refine ⟨rfl,rfl,?_⟩;conv=>whnf
   exact clean [(3,2)] (.ret (.tup [.va (.int .i64 0),.va .nilif])) F (wrN c []) 4 ⟨Fz.r F,rfl,rfl,rfl,c,rfl⟩ (zaj _) rfl rfl (Out.bB_ok (o:=.ret (.tup [.va (.int .i64 0),.va .nilif])) rfl) (zf1 _ _) ⟨Fz.r F,rfl,zav zab (zax _ _ _ _),tv⟩
  ·refine ct_of hΘ Tryz.func224 rfl (by decide) _ _ rfl rfl rfl ?_;conv=>whnf
   refine zrj rfl ?_;conv=>whnf
   refine ⟨rfl,rfl,?_⟩;conv=>whnf
   refine ⟨by show ((t.map fun b:UInt8=>[SA.int .u8 b.toNat]).length + 1) * 1 ≤ 140737488355328; rw [qb]; simp at hs; omega,fun c' hc=>?_⟩
   clear hc;conv=>whnf
   exact clean [(3,3)] (.ret (.tup [.va (.int .i64 (b :: t).length),.va .nilif])) F (wrN c' (b :: t)) 4 ⟨Fz.r F,rfl,rfl,rfl,c',rfl⟩ (zaj _) rfl rfl (Out.bB_ok (o:=.ret (.tup [.va (.int .i64 (b :: t).length),.va .nilif])) rfl) (zf1 _ _) ⟨Fz.r F,zp6 (i:=1) (i':=1) (j:=3) (j':=3) (by rfl) (by rfl) (by simp),zav zab (zcj _ (by rfl)),tv⟩
 ·rcases out with _ | ⟨x,r⟩
  ·rcases s with _ | ⟨b,t⟩
   ·refine ct_of hΘ Tryz.func224 rfl (by decide) _ _ rfl rfl rfl ?_;conv=>whnf
    refine zl7 rfl ?_;conv=>whnf
    refine ⟨rfl,rfl,?_⟩;conv=>whnf
    exact clean [(3,2)] (.ret (.tup [.va (.int .i64 0),.va .nilif])) F (wrN c []) 4 ⟨Fz.r F,rfl,rfl,rfl,c,rfl⟩ (zaj _) rfl rfl (Out.bB_ok (o:=.ret (.tup [.va (.int .i64 0),.va .nilif])) rfl) (zf1 _ _) ⟨Fz.r F,rfl,zav zab (zax _ _ _ _),tv⟩
   ·refine ct_of hΘ Tryz.func224 rfl (by decide) _ _ rfl rfl rfl ?_;conv=>whnf
    refine zl7 rfl ?_;conv=>whnf
    refine ⟨rfl,rfl,?_⟩;conv=>whnf
    refine ⟨by show ((t.map fun b:UInt8=>[SA.int .u8 b.toNat]).length + 1) * 1 ≤ 140737488355328; rw [qb]; simp at hs; omega,fun c' hc=>?_⟩
    clear hc;conv=>whnf
    exact clean [(3,3)] (.ret (.tup [.va (.int .i64 (b :: t).length),.va .nilif])) F (wrN c' (b :: t)) 4 ⟨Fz.r F,rfl,rfl,rfl,c',rfl⟩ (zaj _) rfl rfl (Out.bB_ok (o:=.ret (.tup [.va (.int .i64 (b :: t).length),.va .nilif])) rfl) (zf1 _ _) ⟨Fz.r F,zp6 (i:=1) (i':=1) (j:=3) (j':=3) (by rfl) (by rfl) (by simp),zav zab (zcj _ (by rfl)),tv⟩
  ·refine ct_of hΘ Tryz.func224 rfl (by decide) _ _ rfl rfl rfl ?_;conv=>whnf
   refine zl7 rfl ?_;conv=>whnf
   refine ⟨rfl,rfl,by simp,rfl,by rw [qb]; show (r.length + 1 + s.length) * 1 ≤ 140737488355328; simp at ho; omega,fun c' hc=>?_⟩
   clear hc;conv=>whnf
   exact clean [(3,3)] (.ret (.tup [.va (.int .i64 s.length),.va .nilif])) F (wrN c' (x :: (r ++ s))) 4 ⟨Fz.r F,rfl,rfl,rfl,c',rfl⟩ (zaj _) rfl rfl (Out.bB_ok (o:=.ret (.tup [.va (.int .i64 s.length),.va .nilif])) rfl) (zf1 _ _) ⟨Fz.r F,zp6 (i:=1) (i':=1) (j:=3) (j':=3) (by rfl) (by rfl) (by rw [qb,qa]; omega),zav zab (zcj _ (by show ((x :: r).map encB) ++ (s.map encB) = (x :: (r ++ s)).map encB; simp)),tv⟩
theorem zbw {τ μ:Mu} {u:Bool} {a i b j k i' j' c:Nat} {l:List UInt8} (h1:τ a 0 = (i',0)) (h2:μ i 0 = (i',0)) (h3:τ b 0 = (j',0)) (h4:μ j 0 = (j',0)) (hk:k = i):subE (some ((wrC u a b c l).ren τ)) ((wrC u k j c l).ren μ):=by
 subst hk
 rw [zd5 h1 h3,zd5 h2 h4]; cases u<;>exact rfl
abbrev wrM (u:Bool) (c:Nat) (l:List UInt8):List (Nat × Ent):=[(1,wrC u 1 3 c l),(2,.gone),(3,gE 5 1 encB c l)]
theorem zb3 (u:Bool) (c:Nat) (l:List UInt8):bH 4 (wrM u c l):=⟨zao _ (by omega) (by omega) _ _,tv,zai zab _ _ _ _ _,tv⟩
abbrev wrK (F:Fz) (out:List UInt8):Out → Fz → List (Nat × Ent) → Nat → Prop:=fun o F0 h0 n0=>F = F0 ∧ n0 = 4 ∧ o = .ret (.tup []) ∧ ∃ u' c',(u' = false → out = []) ∧ h0 = wrM u' c' out
theorem zrk (hP:PFun) (F:Fz) (u:Bool) (s out:List UInt8) (c:Nat) (hu:u = false → out = []) (hs:s.length ≤ 1000000000) (ho:out.length ≤ 1000000000000) :
  Ct Tryz.prog 160 [.va (.ptr ⟨1,0,0,0,0⟩),.va (.str s)] F (wrH u c out) 3 (wrK F (out ++ (putSR s).1)):=by
 have hps:=zeb hP F s (by omega)
 have hl:=zdm s
 have ht:∃ t,(putSR s).1 = t:=⟨_,rfl⟩
 obtain ⟨t,ht⟩:=ht
 rw [ht] at hps hl ⊢
 refine ct_of hΘ Tryz.func160 rfl (by decide) _ _ rfl rfl rfl ?_;conv=>whnf
 refine usePu (hps) rfl (zaa _) rfl ?_;conv=>whnf
 refine use (zwo F u t out c hu (by omega) ho) [(1,1),(2,2)] rfl ⟨rfl,rfl,tv⟩ rfl ⟨zao _ (by omega) (by omega) _ _,zai zab _ _ _ _ _,tv⟩ (by simp [SV.below,SA.below]) ⟨zbr (by rfl) (by rfl),zav zab (zax _ _ _ _),tv⟩ ?_
 rintro _ F' _ _ hle ⟨rfl,rfl,rfl,c1,rfl⟩;conv=>whnf
 exact clean [(3,3)] (.ret (.tup [])) F (wrM true c1 (out ++ t)) 4 ⟨Fz.r F,rfl,rfl,rfl,true,c1,fun h=>absurd h (by simp),rfl⟩ trivial rfl rfl (Out.bB_ok (o:=.ret (.tup [])) rfl) (zb3 _ _ _) ⟨Fz.r F,zbw (i':=1) (j':=3) (by rfl) (by rfl) (by rfl) (by rfl) rfl,zbb zab,tv⟩
theorem zdk (hP:PFun) (F:Fz) (sa:SA) (l:List Int) (u:Bool) (out:List UInt8) (c:Nat) (hu:u = false → out = []) (ha:zd6 F sa l) (hl:l.length < 1000000) (ho:out.length ≤ 900000000000) :
  Ct Tryz.prog 159 [.va (.ptr ⟨1,0,0,0,0⟩),.va sa] F (wrH u c out) 3 (wrK F (out ++ zae l)):=by
 obtain ⟨han,hab,hae,hac,haL,har,rfl,ha1,ha2,ha3,ha4⟩:=ha
 refine ct_of hΘ Tryz.func159 rfl (by decide) _ _ rfl rfl rfl ?_;conv=>whnf
 refine zan hΘ (X:={ x:Nat × List UInt8 × Nat × Bool // x.1 ≤ l.length ∧ x.2.1 = out ++ ((l.take x.1).map fun n=>(putIR n).1).flatten ∧ (x.2.2.2 = false → x.2.1 = []) }) (fun x=>[(10,.va (.int .i64 x.1.1))]) [5,6,7,11,12,13,14,15,16,17,18,19,20,21,22,23,24]
  (fun x=>[(0,.frz F),(1,wrC x.1.2.2.2 1 3 x.1.2.2.1 x.1.2.1),(2,.gone),(3,gE 5 1 encB x.1.2.2.1 x.1.2.1)]) 4 (fun x=>l.length - x.1.1) ⟨(0,out,c,u),by simpa using hu⟩
  (fun hH hT=>leI [(3,2)] hH hT rfl ⟨tv,zao _ (by omega) (by omega) _ _,tv,zai zab _ _ _ _ _,tv⟩ ⟨rfl,tv⟩ ⟨Fz.r F,zbr (by rfl) (by rfl),zav zab (zax _ _ _ _),tv⟩) ?_
 rintro ⟨⟨k,ob,cb,ub⟩,hk,hob,hub⟩ hH hT
 replace hk:k ≤ l.length:=hk
 replace hob:ob = out ++ ((l.take k).map fun n=>(putIR n).1).flatten:=hob
 replace hub:ub = false → ob = []:=hub
 have hlen:ob.length ≤ 1000000000000:=by
  have h9:=zfj zd2 (l.take k)
  rw [qn] at h9
  rw [hob,qa]; omega
 conv=>whnf
 refine br (fun gb=>?_) (fun gb=>?_)
 ·have gk:k < l.length:=by simpa using gb
  clear gb
  have hps:=hP F l[k]
  have ht:∃ t,(putIR l[k]).1 = t:=⟨_,rfl⟩
  obtain ⟨t,ht⟩:=ht
  have htl:=zd2 l[k]
  have hob2:ob ++ t = out ++ ((l.take (k + 1)).map fun n=>(putIR n).1).flatten:=by rw [zbp gk,ht,hob,qk]
  rw [ht] at hps htl
  conv=>whnf
  refine ⟨Sl.lt ha1 gk,⟨by simp,by simpa using gk⟩,?_⟩;conv=>whnf
  refine ⟨_,ha2 (Sl.lt ha1 gk),?_⟩;conv=>whnf
  refine ⟨_,Sl.at ha4 gk,?_⟩;conv=>whnf
  refine usePu (hps) rfl (zaa _) rfl ?_;conv=>whnf
  refine use (zwo F ub t ob cb hub (by omega) hlen) [(1,1),(2,3)] rfl ⟨rfl,rfl,tv⟩ rfl ⟨zao _ (by omega) (by omega) _ _,zai zab _ _ _ _ _,tv⟩ (by simp [SV.below,SA.below]) ⟨zbr (by rfl) (by rfl),zav zab (zax _ _ _ _),tv⟩ ?_
  rintro _ F' _ _ hle ⟨rfl,rfl,rfl,c1,rfl⟩;conv=>whnf
  exact ⟨⟨(k + 1,ob ++ t,c1,true),by show k + 1 ≤ l.length; omega,hob2,fun h=>absurd h (by simp)⟩,by show l.length - (k + 1) < l.length - k; omega,leR [(3,4)] hH hT rfl ⟨tv,zao _ (by omega) (by omega) _ _,tv,zai zab _ _ _ _ _,tv⟩ ⟨cnt (by omega),tv⟩ ⟨Fz.r F,zbw (i':=1) (j':=4) (by rfl) (by rfl) (by rfl) (by rfl) rfl,zbb zab,tv⟩⟩
 ·have gk:¬ k < l.length:=by simpa using gb
  have hfin:ob = out ++ zae l:=by rw [hob,zae,qm (by omega)]
  conv=>whnf
  exact clean [(3,3)] (.ret (.tup [])) F (wrM ub cb ob) 4 ⟨Fz.r F,rfl,rfl,rfl,ub,cb,by rw [← hfin]; exact hub,by rw [hfin]⟩ trivial rfl rfl (Out.bB_ok (o:=.ret (.tup [])) rfl) (zb3 _ _ _) ⟨Fz.r F,zbr (by rfl) (by rfl),zav zab (zax _ _ _ _),tv⟩
abbrev wrL (out:List UInt8):Out → Fz → List (Nat × Ent) → Nat → Prop:=fun o F0 h0 n0=>n0 = 4 ∧ o = .ret (.tup []) ∧ ∃ u' c',(u' = false → out = []) ∧ h0 = wrM u' c' out
def ptext (L:List DLn):List UInt8:=zae [(L.length:Int)] ++ (L.map fun x=>(putSR x.1).1).flatten
def pmot (L:List DLn):List UInt8:=zae [(L.length:Int)] ++ (L.map fun x=>zae [x.2]).flatten
theorem zi9:∀ (L:List DLn),(∀ x ∈ L,x.1.length ≤ 1000000) → ((L.map fun x=>(putSR x.1).1).flatten).length ≤ L.length * 2000000
 |[],_=>by simp
 |x :: r,h=>by
  have h1:=zdm x.1
  have h2:=h x (by simp)
  have h3:=zi9 r fun y hy=>h y (by simp [hy])
  rw [qx,jy,qa,qe]
  omega
theorem zmq:∀ (L:List DLn),((L.map fun x=>zae [x.2]).flatten).length ≤ L.length * 1000
 |[]=>by simp
 |x :: r=>by
  have h1:=zay [x.2]
  have h3:=zmq r
  rw [yf] at h1
  rw [qx,jy,qa,qe]
  omega
theorem z8p (hP:PFun) (F:Fz) (an:Bool) (ab ae ac:Nat) (bn:Bool) (bb be bl bc:Nat) (L:List DLn) (w:Int) (s:List UInt8) (ha:Sl F 148 2 encN (.slice an 0 ab ae 2 L.length ac) L) (hl:L.length ≤ 1000) (hx:∀ x ∈ L,x.1.length ≤ 1000000) :
  Ct Tryz.prog 158 [.agg (docS (.slice an 0 ab ae 2 L.length ac) (.slice bn 0 bb be 6 bl bc) w s),.va (.ptr ⟨1,0,0,0,0⟩)] F (wrH false 0 []) 3 (wrL (ptext L)):=by
 obtain ⟨han,hab,hae,hac,haL,har,heq,ha1,ha2,ha3,ha4⟩:=ha
 cases heq
 refine ct_of hΘ Tryz.func158 rfl (by decide) _ _ rfl rfl rfl ?_;conv=>whnf
 refine za0 4 (fun _=>.arr 3 1 ([((L.length:Nat):Int)].map encI) 1) rfl rfl rfl (fun _ _=>rfl) (fun _ _=>SB.bB_ok rfl) ?_
 intro b1 F1 l1 hb1
 refine use (zdk hP F1 _ [((L.length:Nat):Int)] false [] 0 (fun _=>rfl) (Sl.new (l:=[((L.length:Nat):Int)]) (cap:=1) (hb1 0 rfl)) (by simp) (by simp)) [(1,1),(2,2)] rfl ⟨rfl,⟨rfl,rfl,rfl,.inr ⟨rfl,rfl,rfl,rfl⟩⟩,tv⟩ rfl ⟨zao _ (by omega) (by omega) _ _,zai zab _ _ _ _ _,tv⟩ (by simp [SV.below,SA.below]) ⟨zbr (by rfl) (by rfl),zav zab (zax _ _ _ _),tv⟩ ?_
 rintro out0 F' h0 n0 hle ⟨rfl,rfl,rfl,u1,c1,hu1,rfl⟩;conv=>whnf
 refine zan hΘ (X:={ x:Nat × List UInt8 × Nat × Bool // x.1 ≤ L.length ∧ x.2.1 = zae [((L.length:Nat):Int)] ++ ((L.take x.1).map fun x=>(putSR x.1).1).flatten ∧ (x.2.2.2 = false → x.2.1 = []) }) (fun x=>[(17,.va (.int .i64 x.1.1))]) [5,18,19,20,21,22,23,24,25]
  (fun x=>[(0,.frz F1),(1,wrC x.1.2.2.2 1 6 x.1.2.2.1 x.1.2.1),(3,docE4 (.slice an 0 ab ae 2 L.length ac) (.slice bn 0 bb be 6 bl bc) w s),(5,.gone),(6,gE 5 1 encB x.1.2.2.1 x.1.2.1)]) 7 (fun x=>L.length - x.1.1) ⟨(0,[] ++ zae [((L.length:Nat):Int)],c1,u1),by simpa using hu1⟩
  (fun hH hT=>leI [(6,5)] hH hT rfl ⟨tv,zao _ (by omega) (by omega) _ _,zbi (.inr (by omega)) (.inr (by omega)),tv,zai zab _ _ _ _ _,tv⟩ ⟨rfl,tv⟩ ⟨Fz.r F1,zbw (i':=1) (j':=5) (by rfl) (by rfl) (by rfl) (by rfl) rfl,rfl,zbb zab,tv⟩) ?_
 rintro ⟨⟨k,ob,cb,ub⟩,hk,hob,hub⟩ hH hT
 replace hk:k ≤ L.length:=hk
 replace hob:ob = zae [((L.length:Nat):Int)] ++ ((L.take k).map fun x=>(putSR x.1).1).flatten:=hob
 replace hub:ub = false → ob = []:=hub
 have hlen:ob.length ≤ 100000000000:=by
  have h9:=zi9 (L.take k) (fun x hx0=>hx x (jv hx0))
  have h8:=zay [((L.length:Nat):Int)]
  rw [qn] at h9
  rw [yf] at h8
  rw [hob,qa]; omega
 by_cases g:k < L.length
 ·have hlt:(k:Int) < (L.length:Nat):=by omega
  have hidx:0 ≤ (k:Int) ∧ (k:Int) < (L.length:Nat):=by omega
  have hex:∃ t m,L[k] = (t,m):=⟨_,_,rfl⟩
  obtain ⟨t,m,hLk⟩:=hex
  have hat:haL[ae + (k:Int).toNat]? = some (encN (t,m)):=by rw [← hLk]; exact Sl.at ha4 g
  have htl:t.length ≤ 1000000:=by have:=hx _ (jj g); rw [hLk] at this; exact this
  have hob2:ob ++ (putSR t).1 = zae [((L.length:Nat):Int)] ++ ((L.take (k + 1)).map fun x=>(putSR x.1).1).flatten:=by rw [zbp g,hLk,hob,qk]
  have hk1:k + 1 ≤ L.length:=g
  have hdec:L.length - (k + 1) < L.length - k:=by omega
  have hk62:k < 4611686018427387904:=by omega
  have hblk:=l1 _ _ (ha2 (Sl.lt ha1 g))
  conv=>whnf
  refine bri hlt ?_;conv=>whnf
  refine ⟨Sl.lt ha1 g,hidx,?_⟩;conv=>whnf
  refine ⟨_,hblk,?_⟩;conv=>whnf
  refine ⟨_,hat,?_⟩;conv=>whnf
  refine use (zrk hP F1 ub t ob cb hub (by omega) (by omega)) [(1,1),(2,6)] rfl ⟨rfl,rfl,tv⟩ rfl ⟨zao _ (by omega) (by omega) _ _,zai zab _ _ _ _ _,tv⟩ (by simp [SV.below,SA.below]) ⟨zbr (by rfl) (by rfl),zav zab (zax _ _ _ _),tv⟩ ?_
  rintro out0 F' h0 n0 hle ⟨rfl,rfl,rfl,u2,c2,hu2,rfl⟩;conv=>whnf
  exact ⟨⟨(k + 1,ob ++ (putSR t).1,c2,u2),hk1,hob2,hu2⟩,hdec,leR [(6,8)] hH hT rfl ⟨tv,zao _ (by omega) (by omega) _ _,zbi (.inr (by omega)) (.inr (by omega)),tv,zai zab _ _ _ _ _,tv⟩ ⟨cnt hk62,tv⟩ ⟨Fz.r F1,zbw (i':=1) (j':=8) (by rfl) (by rfl) (by rfl) (by rfl) rfl,rfl,zbb zab,tv⟩⟩
 ·have hlt:¬ (k:Int) < (L.length:Nat):=by omega
  have hfin:ob = ptext L:=by rw [hob,ptext,qm (by omega)]
  conv=>whnf
  refine brj hlt ?_;conv=>whnf
  exact clean [(3,6)] (.ret (.tup [])) F1 (wrM ub cb ob) 4 ⟨l1,rfl,rfl,ub,cb,by rw [← hfin]; exact hub,by rw [hfin]⟩ trivial rfl rfl (Out.bB_ok (o:=.ret (.tup [])) rfl) (zb3 _ _ _) ⟨Fz.r F1,zbr (by rfl) (by rfl),zav zab (zax _ _ _ _),tv⟩
theorem z8m (hP:PFun) (F:Fz) (an:Bool) (ab ae ac:Nat) (bn:Bool) (bb be bl bc:Nat) (L:List DLn) (w:Int) (s:List UInt8) (ha:Sl F 148 2 encN (.slice an 0 ab ae 2 L.length ac) L) (hl:L.length ≤ 1000) :
  Ct Tryz.prog 161 [.agg (docS (.slice an 0 ab ae 2 L.length ac) (.slice bn 0 bb be 6 bl bc) w s),.va (.ptr ⟨1,0,0,0,0⟩)] F (wrH false 0 []) 3 (wrL (pmot L)):=by
 obtain ⟨han,hab,hae,hac,haL,har,heq,ha1,ha2,ha3,ha4⟩:=ha
 cases heq
 refine ct_of hΘ Tryz.func161 rfl (by decide) _ _ rfl rfl rfl ?_;conv=>whnf
 refine za0 4 (fun _=>.arr 3 1 ([((L.length:Nat):Int)].map encI) 1) rfl rfl rfl (fun _ _=>rfl) (fun _ _=>SB.bB_ok rfl) ?_
 intro b1 F1 l1 hb1
 refine use (zdk hP F1 _ [((L.length:Nat):Int)] false [] 0 (fun _=>rfl) (Sl.new (l:=[((L.length:Nat):Int)]) (cap:=1) (hb1 0 rfl)) (by simp) (by simp)) [(1,1),(2,2)] rfl ⟨rfl,⟨rfl,rfl,rfl,.inr ⟨rfl,rfl,rfl,rfl⟩⟩,tv⟩ rfl ⟨zao _ (by omega) (by omega) _ _,zai zab _ _ _ _ _,tv⟩ (by simp [SV.below,SA.below]) ⟨zbr (by rfl) (by rfl),zav zab (zax _ _ _ _),tv⟩ ?_
 rintro out0 F' h0 n0 hle ⟨rfl,rfl,rfl,u1,c1,hu1,rfl⟩;conv=>whnf
 refine zan hΘ (X:={ x:Nat × List UInt8 × Nat × Bool × Fz // Fz.le F x.2.2.2.2 ∧ x.1 ≤ L.length ∧ x.2.1 = zae [((L.length:Nat):Int)] ++ ((L.take x.1).map fun x=>zae [x.2]).flatten ∧ (x.2.2.2.1 = false → x.2.1 = []) }) (fun x=>[(17,.va (.int .i64 x.1.1))]) [5,18,19,20,21,22,23,24,25,26]
  (fun x=>[(0,.frz x.1.2.2.2.2),(1,wrC x.1.2.2.2.1 1 6 x.1.2.2.1 x.1.2.1),(3,docE4 (.slice an 0 ab ae 2 L.length ac) (.slice bn 0 bb be 6 bl bc) w s),(5,.gone),(6,gE 5 1 encB x.1.2.2.1 x.1.2.1)]) 7 (fun x=>L.length - x.1.1) ⟨(0,[] ++ zae [((L.length:Nat):Int)],c1,u1,F1),l1,by simpa using hu1⟩
  (fun hH hT=>leI [(6,5)] hH hT rfl ⟨tv,zao _ (by omega) (by omega) _ _,zbi (.inr (by omega)) (.inr (by omega)),tv,zai zab _ _ _ _ _,tv⟩ ⟨rfl,tv⟩ ⟨Fz.r F1,zbw (i':=1) (j':=5) (by rfl) (by rfl) (by rfl) (by rfl) rfl,rfl,zbb zab,tv⟩) ?_
 rintro ⟨⟨k,ob,cb,ub,G⟩,hG,hk,hob,hub⟩ hH hT
 replace hG:Fz.le F G:=hG
 replace hk:k ≤ L.length:=hk
 replace hob:ob = zae [((L.length:Nat):Int)] ++ ((L.take k).map fun x=>zae [x.2]).flatten:=hob
 replace hub:ub = false → ob = []:=hub
 have hlen:ob.length ≤ 100000000000:=by
  have h9:=zmq (L.take k)
  have h8:=zay [((L.length:Nat):Int)]
  rw [qn] at h9
  rw [yf] at h8
  rw [hob,qa]; omega
 by_cases g:k < L.length
 ·have hlt:(k:Int) < (L.length:Nat):=by omega
  have hidx:0 ≤ (k:Int) ∧ (k:Int) < (L.length:Nat):=by omega
  have hex:∃ t m,L[k] = (t,m):=⟨_,_,rfl⟩
  obtain ⟨t,m,hLk⟩:=hex
  have hat:haL[ae + (k:Int).toNat]? = some (encN (t,m)):=by rw [← hLk]; exact Sl.at ha4 g
  have hob2:ob ++ zae [m] = zae [((L.length:Nat):Int)] ++ ((L.take (k + 1)).map fun x=>zae [x.2]).flatten:=by rw [zbp g,hLk,hob,qk]
  have hk1:k + 1 ≤ L.length:=g
  have hdec:L.length - (k + 1) < L.length - k:=by omega
  have hk62:k < 4611686018427387904:=by omega
  have hblk:=hG _ _ (ha2 (Sl.lt ha1 g))
  conv=>whnf
  refine bri hlt ?_;conv=>whnf
  refine ⟨Sl.lt ha1 g,hidx,?_⟩;conv=>whnf
  refine ⟨_,hblk,?_⟩;conv=>whnf
  refine ⟨_,hat,?_⟩;conv=>whnf
  refine za0 8 (fun _=>.arr 3 1 ([m].map encI) 1) rfl rfl rfl (fun _ _=>rfl) (fun _ _=>SB.bB_ok rfl) ?_
  intro b2 F2 l2 hb2
  refine use (zdk hP F2 _ [m] ub ob cb hub (Sl.new (l:=[m]) (cap:=1) (hb2 0 rfl)) (by simp) (by omega)) [(1,1),(2,6)] rfl ⟨rfl,⟨rfl,rfl,rfl,.inr ⟨rfl,rfl,rfl,rfl⟩⟩,tv⟩ rfl ⟨zao _ (by omega) (by omega) _ _,zai zab _ _ _ _ _,tv⟩ (by simp [SV.below,SA.below]) ⟨zbr (by rfl) (by rfl),zav zab (zax _ _ _ _),tv⟩ ?_
  rintro out0 F' h0 n0 hle ⟨rfl,rfl,rfl,u2,c2,hu2,rfl⟩;conv=>whnf
  exact ⟨⟨(k + 1,ob ++ zae [m],c2,u2,F2),Fz.t hG l2,hk1,hob2,hu2⟩,hdec,leR [(6,9)] hH hT rfl ⟨tv,zao _ (by omega) (by omega) _ _,zbi (.inr (by omega)) (.inr (by omega)),tv,zai zab _ _ _ _ _,tv⟩ ⟨cnt hk62,tv⟩ ⟨Fz.r F2,zbw (i':=1) (j':=9) (by rfl) (by rfl) (by rfl) (by rfl) rfl,rfl,zbb zab,tv⟩⟩
 ·have hlt:¬ (k:Int) < (L.length:Nat):=by omega
  have hfin:ob = pmot L:=by rw [hob,pmot,qm (by omega)]
  conv=>whnf
  refine brj hlt ?_;conv=>whnf
  exact clean [(3,6)] (.ret (.tup [])) G (wrM ub cb ob) 4 ⟨hG,rfl,rfl,ub,cb,by rw [← hfin]; exact hub,by rw [hfin]⟩ trivial rfl rfl (Out.bB_ok (o:=.ret (.tup [])) rfl) (zb3 _ _ _) ⟨Fz.r G,zbr (by rfl) (by rfl),zav zab (zax _ _ _ _),tv⟩
theorem z7u (hP:PFun) (F:Fz) (an:Bool) (ab ae al ac:Nat) (bn:Bool) (bb be bl bc:Nat) (w:Int) (s:List UInt8) :
  Ct Tryz.prog 170 [.agg (docS (.slice an 0 ab ae 2 al ac) (.slice bn 0 bb be 6 bl bc) w s),.va (.ptr ⟨1,0,0,0,0⟩)] F (wrH false 0 []) 3 (wrL (zae [((al:Nat):Int),((bl:Nat):Int)])):=by
 refine ct_of hΘ Tryz.func170 rfl (by decide) _ _ rfl rfl rfl ?_;conv=>whnf
 refine za0 4 (fun _=>.arr 3 1 ([((al:Nat):Int),((bl:Nat):Int)].map encI) 2) rfl rfl rfl (fun _ _=>rfl) (fun _ _=>SB.bB_ok rfl) ?_
 intro b1 F1 l1 hb1
 refine use (zdk hP F1 _ [((al:Nat):Int),((bl:Nat):Int)] false [] 0 (fun _=>rfl) (Sl.new (l:=[((al:Nat):Int),((bl:Nat):Int)]) (cap:=2) (hb1 0 rfl)) (by simp) (by simp)) [(1,1),(2,2)] rfl ⟨rfl,⟨rfl,rfl,rfl,.inr ⟨rfl,rfl,rfl,rfl⟩⟩,tv⟩ rfl ⟨zao _ (by omega) (by omega) _ _,zai zab _ _ _ _ _,tv⟩ (by simp [SV.below,SA.below]) ⟨zbr (by rfl) (by rfl),zav zab (zax _ _ _ _),tv⟩ ?_
 rintro out0 F' h0 n0 hle ⟨rfl,rfl,rfl,u1,c1,hu1,rfl⟩;conv=>whnf
 exact clean [(3,5)] (.ret (.tup [])) F1 (wrM u1 c1 _) 4 ⟨l1,rfl,rfl,u1,c1,hu1,rfl⟩ trivial rfl rfl (Out.bB_ok (o:=.ret (.tup [])) rfl) (zb3 _ _ _) ⟨Fz.r F1,zbw (i':=1) (j':=5) (by rfl) (by rfl) (by rfl) (by rfl) rfl,zbb zab,tv⟩
theorem z9a (hP:PFun) (F:Fz) (an:Bool) (ab ae al ac:Nat) (bn:Bool) (bb be bl bc:Nat) (w:Int) (s:List UInt8) (hs:s.length ≤ 1000000) :
  Ct Tryz.prog 167 [.agg (docS (.slice an 0 ab ae 2 al ac) (.slice bn 0 bb be 6 bl bc) w s),.va (.ptr ⟨1,0,0,0,0⟩)] F (wrH false 0 []) 3 (wrL (zae [w,hgt w s])):=by
 have hh:=zjg F (.slice an 0 ab ae 2 al ac) (.slice bn 0 bb be 6 bl bc) w s (by omega)
 have hex:∃ z,hgt w s = z:=⟨_,rfl⟩
 obtain ⟨z,hz⟩:=hex
 rw [hz] at hh ⊢
 refine ct_of hΘ Tryz.func167 rfl (by decide) _ _ rfl rfl rfl ?_;conv=>whnf
 refine drawP hΘ mixed (lk [0,1,2,3,4] (.alt 5 (.alt 6 (.alt 7 .done .nil) .nil) .nil)) [3] (by kernel_rfl) ?_;conv=>whnf
 repeat' ((conv=>whnf); first
  |refine ⟨rfl,?_⟩
  |refine ⟨Fz.r _,rfl,?_⟩
  |refine ⟨Fz.r _,rfl,rfl,?_⟩
  |refine ⟨⟨by simp,by simp⟩,?_⟩
  |fail)
 conv=>whnf
 refine usePu hh rfl (zaa _) rfl ?_
 repeat' ((conv=>whnf); first
  |refine ⟨rfl,?_⟩
  |refine ⟨Fz.r _,rfl,?_⟩
  |refine ⟨Fz.r _,rfl,rfl,?_⟩
  |refine ⟨⟨by simp,by simp⟩,?_⟩
  |fail)
 conv=>whnf
 refine za0 4 (fun _=>.arr 3 1 ([w,z].map encI) 2) rfl rfl rfl (fun _ _=>rfl) (fun _ _=>SB.bB_ok rfl) ?_
 intro b1 F1 l1 hb1
 refine use (zdk hP F1 _ [w,z] false [] 0 (fun _=>rfl) (Sl.new (l:=[w,z]) (cap:=2) (hb1 0 rfl)) (by simp) (by simp)) [(1,1),(2,2)] rfl ⟨rfl,⟨rfl,rfl,rfl,.inr ⟨rfl,rfl,rfl,rfl⟩⟩,tv⟩ rfl ⟨zao _ (by omega) (by omega) _ _,zai zab _ _ _ _ _,tv⟩ (by simp [SV.below,SA.below]) ⟨zbr (by rfl) (by rfl),zav zab (zax _ _ _ _),tv⟩ ?_
 rintro out0 F' h0 n0 hle ⟨rfl,rfl,rfl,u1,c1,hu1,rfl⟩;conv=>whnf
 refine ⟨l1,rfl,?_⟩;conv=>whnf
 exact clean [(3,5)] (.ret (.tup [])) F1 (wrM u1 c1 _) 4 ⟨l1,rfl,rfl,u1,c1,hu1,rfl⟩ trivial rfl rfl (Out.bB_ok (o:=.ret (.tup [])) rfl) (zb3 _ _ _) ⟨Fz.r F1,zbw (i':=1) (j':=5) (by rfl) (by rfl) (by rfl) (by rfl) rfl,zbb zab,tv⟩
theorem z8c (hP:PFun) (F:Fz) (an:Bool) (ab ae al ac:Nat) (bn:Bool) (bb be bl bc:Nat) (w:Int) (s:List UInt8) (hs:s.length ≤ 1000000) :
  Ct Tryz.prog 169 [.agg (docS (.slice an 0 ab ae 2 al ac) (.slice bn 0 bb be 6 bl bc) w s),.va (.ptr ⟨1,0,0,0,0⟩)] F (wrH false 0 []) 3 (wrL (zae [w,hgt w s] ++ (putSR s).1)):=by
 have hh:=zjg F (.slice an 0 ab ae 2 al ac) (.slice bn 0 bb be 6 bl bc) w s (by omega)
 have hex:∃ z,hgt w s = z:=⟨_,rfl⟩
 obtain ⟨z,hz⟩:=hex
 rw [hz] at hh ⊢
 refine ct_of hΘ Tryz.func169 rfl (by decide) _ _ rfl rfl rfl ?_;conv=>whnf
 refine drawP hΘ mixed (lk [0,1,2,3,4] (.alt 5 (.alt 6 (.alt 7 .done .nil) .nil) .nil)) [3] (by kernel_rfl) ?_;conv=>whnf
 repeat' ((conv=>whnf); first
  |refine ⟨rfl,?_⟩
  |refine ⟨Fz.r _,rfl,?_⟩
  |refine ⟨Fz.r _,rfl,rfl,?_⟩
  |refine ⟨⟨by simp,by simp⟩,?_⟩
  |fail)
 conv=>whnf
 refine usePu hh rfl (zaa _) rfl ?_
 repeat' ((conv=>whnf); first
  |refine ⟨rfl,?_⟩
  |refine ⟨Fz.r _,rfl,?_⟩
  |refine ⟨Fz.r _,rfl,rfl,?_⟩
  |refine ⟨⟨by simp,by simp⟩,?_⟩
  |fail)
 conv=>whnf
 refine za0 4 (fun _=>.arr 3 1 ([w,z].map encI) 2) rfl rfl rfl (fun _ _=>rfl) (fun _ _=>SB.bB_ok rfl) ?_
 intro b1 F1 l1 hb1
 refine use (zdk hP F1 _ [w,z] false [] 0 (fun _=>rfl) (Sl.new (l:=[w,z]) (cap:=2) (hb1 0 rfl)) (by simp) (by simp)) [(1,1),(2,2)] rfl ⟨rfl,⟨rfl,rfl,rfl,.inr ⟨rfl,rfl,rfl,rfl⟩⟩,tv⟩ rfl ⟨zao _ (by omega) (by omega) _ _,zai zab _ _ _ _ _,tv⟩ (by simp [SV.below,SA.below]) ⟨zbr (by rfl) (by rfl),zav zab (zax _ _ _ _),tv⟩ ?_
 rintro out0 F' h0 n0 hle ⟨rfl,rfl,rfl,u1,c1,hu1,rfl⟩;conv=>whnf
 refine ⟨l1,rfl,?_⟩;conv=>whnf
 have hnl:=zay [w,z]
 rw [show [w,z].length = 2 from rfl] at hnl
 refine use (zrk hP F1 u1 s ([] ++ zae [w,z]) c1 hu1 (by omega) (by rw [qu]; omega)) [(1,1),(2,5)] rfl ⟨rfl,rfl,tv⟩ rfl ⟨zao _ (by omega) (by omega) _ _,zai zab _ _ _ _ _,tv⟩ (by simp [SV.below,SA.below]) ⟨zbw (i':=1) (j':=5) (by rfl) (by rfl) (by rfl) (by rfl) rfl,zbb zab,tv⟩ ?_
 rintro out0 F' h0 n0 hle ⟨rfl,rfl,rfl,u2,c2,hu2,rfl⟩;conv=>whnf
 exact clean [(3,6)] (.ret (.tup [])) F1 (wrM u2 c2 _) 4 ⟨l1,rfl,rfl,u2,c2,hu2,rfl⟩ trivial rfl rfl (Out.bB_ok (o:=.ret (.tup [])) rfl) (zb3 _ _ _) ⟨Fz.r F1,zbw (i':=1) (j':=6) (by rfl) (by rfl) (by rfl) (by rfl) rfl,zbb zab,tv⟩
end Go.Proofs.YtfnkamphhpldcaaGreatDoor
