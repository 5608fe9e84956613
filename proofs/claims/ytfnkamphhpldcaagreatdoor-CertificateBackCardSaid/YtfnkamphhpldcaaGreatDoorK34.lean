import Derived.Test.YtfnkamphhpldcaaGreatDoorK32
import Derived.Test.YtfnkamphhpldcaaGreatDoorK33
import Derived.Test.YtfnkamphhpldcaaGreatDoorK29
import Derived.Test.YtfnkamphhpldcaaGreatDoorK28
set_option maxHeartbeats 64000000
namespace Go.Proofs.YtfnkamphhpldcaaGreatDoor
open Go Sx
set_option maxRecDepth 100000
theorem zf3 {P:Program} {f:FuncId} {args:List SV} {h:Hp} {nx:Nat} {K:Out → Hp → Nat → Prop} (i:Nat) (h1:(Nat.ble (i + 1) nx && !Nat.beq i 0) = true) (hk:za6 P f args (lput h i .gone) nx K):za6 P f args h nx K:=by
 unfold za6 at *
 intro C ρ w vs S hr hb
 simp only [qd,qar] at h1
 have hi:i < nx:=nb h1.1
 have hi0:i ≠ 0:=fun h=>by rw [h] at h1; exact absurd h1.2 (by decide)
 exact hk C ρ w vs (S.forget hi hi0) hr hb
theorem zco {n:Int} (h:-4611686018427387903 ≤ n ∧ n ≤ 4611686018427387903) (l:List Int):zae (n :: l) ≠ []:=by
 rw [zae,qx,jy,ziy h]
 intro h
 exact zh4 n (qcs.1 h).1
theorem zk5 {α:Type} {a b:List α} (h:a ≠ []):a ++ b ≠ []:=fun h2=>h (qcs.1 h2).1
theorem zez {p:Int} {d:Dc} (hd:docOk d = true):propB p d ≠ []:=by
 obtain ⟨hl,hc,ha,hln,hcel,hras⟩:=zcn hd
 obtain ⟨r1,r2,r3,r4⟩:=zjk hras
 have hf:∀ b,(d.cells.filter (keepQ b)).length ≤ 64:=fun b=>jk (qaa _ _) hc
 have h1:=hf true
 have h2:=hf false
 unfold propB
 split
 ·exact zk5 (zco (by omega) _)
 split
 ·exact zk5 (zco (by omega) _)
 split
 ·exact zk5 (zco (by omega) _)
 split
 ·exact zk5 (zco (by omega) _)
 split
 ·exact zk5 (zco (by omega) _)
 split
 ·exact zco (by omega) _
 split
 ·exact zk5 (zco (by omega) _)
 ·exact zco (by omega) _
def pAns (p:Int) (d:Dc):Out:=.ret (.tup [.va (.str (if docOk d = true then propB p d else [])),.va (.int .i64 (if docOk d = true then 0 else 60))])
theorem zg8 {p:Int} {d:Dc} (h:docOk d = true):pAns p d = .ret (.tup [.va (.str (propB p d)),.va (.int .i64 0)]):=by rw [pAns,if_pos h,if_pos h]
theorem zhj {p:Int} {d:Dc} (h:docOk d = false):pAns p d = .ret (.tup [.va (.str []),.va (.int .i64 60)]):=by rw [pAns,h]; rfl
theorem zyq (hP:PFun) (F:Fz) (an:Bool) (ab ae ac:Nat) (bn:Bool) (bb be bc:Nat) (d:Dc) (ha:Sl F 148 2 encN (.slice an 0 ab ae 2 d.lines.length ac) d.lines) (hb:Sl F 151 6 encK (.slice bn 0 bb be 6 d.cells.length bc) d.cells)
  (hl:d.lines.length ≤ 1000) (hc:d.cells.length ≤ 1000) (hs:d.bits.length ≤ 70000) (hcap:d.cells.length ≤ bc) :
  Fo Tryz.prog F 48 [.agg (docS (.slice an 0 ab ae 2 d.lines.length ac) (.slice bn 0 bb be 6 d.cells.length bc) d.w d.bits),.va (.int .i64 1)] (fun o F'=>o = pAns 1 d):=by
 have hva:=zcr F _ _ d ha hb hl hc hs
 have hpt:=zg8 (p:=1) (d:=d)
 have hpf:=zhj (p:=1) (d:=d)
 have hne:=zez (p:=1) (d:=d)
 have hB:propB 1 d = ptext d.lines:=rfl
 have hx:docOk d = true → ∀ x ∈ d.lines,x.1.length ≤ 1000000:=fun hd x hx=>by
  have:=(zcn hd).ln x hx
  unfold dlnOk at this
  simp only [qd,decide_eq_true_eq] at this
  omega
 have hlen:=zd2 (p:=1) (d:=d)
 have hcl:=fun hd:docOk d = true=>z6s hP F an ab ae ac bn bb be d.cells.length bc d.lines d.w d.bits ha hl (hx hd)
 rw [← hB] at hcl
 clear hx hB hs hl hc hcap
 obtain ⟨T,hT⟩:∃ T,propB 1 d = T:=⟨_,rfl⟩
 rw [hT] at hcl hpt hne hlen
 clear hT
 obtain ⟨L,K,w,s⟩:=d
 replace ha:Sl F 148 2 encN (.slice an 0 ab ae 2 L.length ac) L:=ha
 replace hb:Sl F 151 6 encK (.slice bn 0 bb be 6 K.length bc) K:=hb
 obtain ⟨v,hv⟩:∃ v,docOk ⟨L,K,w,s⟩ = v:=⟨_,rfl⟩
 rw [hv] at hva hpt hpf hne hcl hlen
 have fin:∀ (z:Out) (F1:Fz) (h:Hp) (nx:Nat),pAns 1 ⟨L,K,w,s⟩ = z → (∀ μ,z.ren μ = z) → z.z = true → Fz.le F F1 → lget h 0 = some (.frz F1) → Cln 1 (FoK F fun o F'=>o = pAns 1 ⟨L,K,w,s⟩) z h nx:=by
  intro z F1 h nx hz hr hzz hle h0
  subst hz
  exact endFo (pAns 1 ⟨L,K,w,s⟩) F1 h0 hle (Fz.r F1) rfl (by rw [hr]; exact zaj _) hzz
 refine fo_of hΘ Tryz.func48 rfl (by decide) _ _ rfl rfl rfl ?_;conv=>whnf
 refine use (ze0 F) [] rfl trivial rfl trivial (by simp) trivial ?_
 rintro _ F0 h0 n0 hle ⟨rfl,rfl,rfl,rfl⟩;conv=>whnf
 refine bre (by decide) ?_;conv=>whnf
 refine usePu hva rfl (zaa _) rfl ?_
 rcases v with _ | _
 ·conv=>whnf
  refine bre (by decide) ?_;conv=>whnf
  exact fin _ F _ _ (hpf rfl) (fun _=>rfl) rfl (Fz.r F) rfl
 ·conv=>whnf
  refine brd (by decide) ?_;conv=>whnf
  refine zf3 2 rfl ?_
  refine use (hcl rfl) [(1,3),(2,2)] rfl ⟨rfl,rfl,tv⟩ rfl ⟨zao _ (by omega) (by omega) _ _,zai zab _ _ _ _ _,tv⟩ (by simp [SV.below,SC.below,SA.below]) ⟨rfl,rfl,tv⟩ ?_
  rintro out0 F1 h0 n0 hle1 ⟨rfl,rfl,u1,c1,hu1,rfl⟩;conv=>whnf
  refine zeu (hne rfl) (hlen rfl) rfl (zd4 (by rfl) (by rfl) _ _) rfl (zfv zab _ _ _ _ _) ?_
  intro o';conv=>whnf
  exact fin _ F1 _ _ (hpt rfl) (fun _=>rfl) rfl hle1 rfl
theorem zxv (hP:PFun) (F:Fz) (an:Bool) (ab ae ac:Nat) (bn:Bool) (bb be bc:Nat) (d:Dc) (ha:Sl F 148 2 encN (.slice an 0 ab ae 2 d.lines.length ac) d.lines) (hb:Sl F 151 6 encK (.slice bn 0 bb be 6 d.cells.length bc) d.cells)
  (hl:d.lines.length ≤ 1000) (hc:d.cells.length ≤ 1000) (hs:d.bits.length ≤ 70000) (hcap:d.cells.length ≤ bc) :
  Fo Tryz.prog F 48 [.agg (docS (.slice an 0 ab ae 2 d.lines.length ac) (.slice bn 0 bb be 6 d.cells.length bc) d.w d.bits),.va (.int .i64 2)] (fun o F'=>o = pAns 2 d):=by
 have hva:=zcr F _ _ d ha hb hl hc hs
 have hpt:=zg8 (p:=2) (d:=d)
 have hpf:=zhj (p:=2) (d:=d)
 have hne:=zez (p:=2) (d:=d)
 have hB:propB 2 d = pmot d.lines:=rfl
 have hx:docOk d = true → ∀ x ∈ d.lines,x.1.length ≤ 1000000:=fun hd x hx=>by
  have:=(zcn hd).ln x hx
  unfold dlnOk at this
  simp only [qd,decide_eq_true_eq] at this
  omega
 have hlen:=zd2 (p:=2) (d:=d)
 have hcl:=fun hd:docOk d = true=>z7s hP F an ab ae ac bn bb be d.cells.length bc d.lines d.w d.bits ha hl
 rw [← hB] at hcl
 clear hx hB hs hl hc hcap
 obtain ⟨T,hT⟩:∃ T,propB 2 d = T:=⟨_,rfl⟩
 rw [hT] at hcl hpt hne hlen
 clear hT
 obtain ⟨L,K,w,s⟩:=d
 replace ha:Sl F 148 2 encN (.slice an 0 ab ae 2 L.length ac) L:=ha
 replace hb:Sl F 151 6 encK (.slice bn 0 bb be 6 K.length bc) K:=hb
 obtain ⟨v,hv⟩:∃ v,docOk ⟨L,K,w,s⟩ = v:=⟨_,rfl⟩
 rw [hv] at hva hpt hpf hne hcl hlen
 have fin:∀ (z:Out) (F1:Fz) (h:Hp) (nx:Nat),pAns 2 ⟨L,K,w,s⟩ = z → (∀ μ,z.ren μ = z) → z.z = true → Fz.le F F1 → lget h 0 = some (.frz F1) → Cln 1 (FoK F fun o F'=>o = pAns 2 ⟨L,K,w,s⟩) z h nx:=by
  intro z F1 h nx hz hr hzz hle h0
  subst hz
  exact endFo (pAns 2 ⟨L,K,w,s⟩) F1 h0 hle (Fz.r F1) rfl (by rw [hr]; exact zaj _) hzz
 refine fo_of hΘ Tryz.func48 rfl (by decide) _ _ rfl rfl rfl ?_;conv=>whnf
 refine use (ze0 F) [] rfl trivial rfl trivial (by simp) trivial ?_
 rintro _ F0 h0 n0 hle ⟨rfl,rfl,rfl,rfl⟩;conv=>whnf
 refine brd (by decide) ?_; (conv=>whnf); refine bre (by decide) ?_;conv=>whnf
 refine usePu hva rfl (zaa _) rfl ?_
 rcases v with _ | _
 ·conv=>whnf
  refine bre (by decide) ?_;conv=>whnf
  exact fin _ F _ _ (hpf rfl) (fun _=>rfl) rfl (Fz.r F) rfl
 ·conv=>whnf
  refine brd (by decide) ?_;conv=>whnf
  refine zf3 2 rfl ?_
  refine use (hcl rfl) [(1,3),(2,2)] rfl ⟨rfl,rfl,tv⟩ rfl ⟨zao _ (by omega) (by omega) _ _,zai zab _ _ _ _ _,tv⟩ (by simp [SV.below,SC.below,SA.below]) ⟨rfl,rfl,tv⟩ ?_
  rintro out0 F1 h0 n0 hle1 ⟨rfl,rfl,u1,c1,hu1,rfl⟩;conv=>whnf
  refine zeu (hne rfl) (hlen rfl) rfl (zd4 (by rfl) (by rfl) _ _) rfl (zfv zab _ _ _ _ _) ?_
  intro o';conv=>whnf
  exact fin _ F1 _ _ (hpt rfl) (fun _=>rfl) rfl hle1 rfl
theorem zy1 (hP:PFun) (F:Fz) (an:Bool) (ab ae ac:Nat) (bn:Bool) (bb be bc:Nat) (d:Dc) (ha:Sl F 148 2 encN (.slice an 0 ab ae 2 d.lines.length ac) d.lines) (hb:Sl F 151 6 encK (.slice bn 0 bb be 6 d.cells.length bc) d.cells)
  (hl:d.lines.length ≤ 1000) (hc:d.cells.length ≤ 1000) (hs:d.bits.length ≤ 70000) (hcap:d.cells.length ≤ bc) :
  Fo Tryz.prog F 48 [.agg (docS (.slice an 0 ab ae 2 d.lines.length ac) (.slice bn 0 bb be 6 d.cells.length bc) d.w d.bits),.va (.int .i64 3)] (fun o F'=>o = pAns 3 d):=by
 have hva:=zcr F _ _ d ha hb hl hc hs
 have hpt:=zg8 (p:=3) (d:=d)
 have hpf:=zhj (p:=3) (d:=d)
 have hne:=zez (p:=3) (d:=d)
 have hB:propB 3 d = zcv false d.cells:=rfl
 have hx:docOk d = true → ∀ x ∈ d.lines,x.1.length ≤ 1000000:=fun hd x hx=>by
  have:=(zcn hd).ln x hx
  unfold dlnOk at this
  simp only [qd,decide_eq_true_eq] at this
  omega
 have hlen:=zd2 (p:=3) (d:=d)
 have hcl:=fun hd:docOk d = true=>z81 hP F an ab ae d.lines.length ac bn bb be bc d.cells d.w d.bits hb hc
 rw [← hB] at hcl
 clear hx hB hs hl hc hcap
 obtain ⟨T,hT⟩:∃ T,propB 3 d = T:=⟨_,rfl⟩
 rw [hT] at hcl hpt hne hlen
 clear hT
 obtain ⟨L,K,w,s⟩:=d
 replace ha:Sl F 148 2 encN (.slice an 0 ab ae 2 L.length ac) L:=ha
 replace hb:Sl F 151 6 encK (.slice bn 0 bb be 6 K.length bc) K:=hb
 obtain ⟨v,hv⟩:∃ v,docOk ⟨L,K,w,s⟩ = v:=⟨_,rfl⟩
 rw [hv] at hva hpt hpf hne hcl hlen
 have fin:∀ (z:Out) (F1:Fz) (h:Hp) (nx:Nat),pAns 3 ⟨L,K,w,s⟩ = z → (∀ μ,z.ren μ = z) → z.z = true → Fz.le F F1 → lget h 0 = some (.frz F1) → Cln 1 (FoK F fun o F'=>o = pAns 3 ⟨L,K,w,s⟩) z h nx:=by
  intro z F1 h nx hz hr hzz hle h0
  subst hz
  exact endFo (pAns 3 ⟨L,K,w,s⟩) F1 h0 hle (Fz.r F1) rfl (by rw [hr]; exact zaj _) hzz
 refine fo_of hΘ Tryz.func48 rfl (by decide) _ _ rfl rfl rfl ?_;conv=>whnf
 refine use (ze0 F) [] rfl trivial rfl trivial (by simp) trivial ?_
 rintro _ F0 h0 n0 hle ⟨rfl,rfl,rfl,rfl⟩;conv=>whnf
 refine brd (by decide) ?_; (conv=>whnf); refine brd (by decide) ?_; (conv=>whnf); refine bre (by decide) ?_;conv=>whnf
 refine usePu hva rfl (zaa _) rfl ?_
 rcases v with _ | _
 ·conv=>whnf
  refine bre (by decide) ?_;conv=>whnf
  exact fin _ F _ _ (hpf rfl) (fun _=>rfl) rfl (Fz.r F) rfl
 ·conv=>whnf
  refine brd (by decide) ?_;conv=>whnf
  refine zf3 2 rfl ?_
  refine use (hcl rfl) [(1,3),(2,2)] rfl ⟨rfl,rfl,tv⟩ rfl ⟨zao _ (by omega) (by omega) _ _,zai zab _ _ _ _ _,tv⟩ (by simp [SV.below,SC.below,SA.below]) ⟨rfl,rfl,tv⟩ ?_
  rintro out0 F1 h0 n0 hle1 ⟨rfl,rfl,u1,c1,hu1,rfl⟩;conv=>whnf
  refine zeu (hne rfl) (hlen rfl) rfl (zd4 (by rfl) (by rfl) _ _) rfl (zfv zab _ _ _ _ _) ?_
  intro o';conv=>whnf
  exact fin _ F1 _ _ (hpt rfl) (fun _=>rfl) rfl hle1 rfl
theorem zxm (hP:PFun) (F:Fz) (an:Bool) (ab ae ac:Nat) (bn:Bool) (bb be bc:Nat) (d:Dc) (ha:Sl F 148 2 encN (.slice an 0 ab ae 2 d.lines.length ac) d.lines) (hb:Sl F 151 6 encK (.slice bn 0 bb be 6 d.cells.length bc) d.cells)
  (hl:d.lines.length ≤ 1000) (hc:d.cells.length ≤ 1000) (hs:d.bits.length ≤ 70000) (hcap:d.cells.length ≤ bc) :
  Fo Tryz.prog F 48 [.agg (docS (.slice an 0 ab ae 2 d.lines.length ac) (.slice bn 0 bb be 6 d.cells.length bc) d.w d.bits),.va (.int .i64 4)] (fun o F'=>o = pAns 4 d):=by
 have hva:=zcr F _ _ d ha hb hl hc hs
 have hpt:=zg8 (p:=4) (d:=d)
 have hpf:=zhj (p:=4) (d:=d)
 have hne:=zez (p:=4) (d:=d)
 have hB:propB 4 d = zcv true d.cells:=rfl
 have hx:docOk d = true → ∀ x ∈ d.lines,x.1.length ≤ 1000000:=fun hd x hx=>by
  have:=(zcn hd).ln x hx
  unfold dlnOk at this
  simp only [qd,decide_eq_true_eq] at this
  omega
 have hlen:=zd2 (p:=4) (d:=d)
 have hcl:=fun hd:docOk d = true=>z7a hP F an ab ae d.lines.length ac bn bb be bc d.cells d.w d.bits hb hc
 rw [← hB] at hcl
 clear hx hB hs hl hc hcap
 obtain ⟨T,hT⟩:∃ T,propB 4 d = T:=⟨_,rfl⟩
 rw [hT] at hcl hpt hne hlen
 clear hT
 obtain ⟨L,K,w,s⟩:=d
 replace ha:Sl F 148 2 encN (.slice an 0 ab ae 2 L.length ac) L:=ha
 replace hb:Sl F 151 6 encK (.slice bn 0 bb be 6 K.length bc) K:=hb
 obtain ⟨v,hv⟩:∃ v,docOk ⟨L,K,w,s⟩ = v:=⟨_,rfl⟩
 rw [hv] at hva hpt hpf hne hcl hlen
 have fin:∀ (z:Out) (F1:Fz) (h:Hp) (nx:Nat),pAns 4 ⟨L,K,w,s⟩ = z → (∀ μ,z.ren μ = z) → z.z = true → Fz.le F F1 → lget h 0 = some (.frz F1) → Cln 1 (FoK F fun o F'=>o = pAns 4 ⟨L,K,w,s⟩) z h nx:=by
  intro z F1 h nx hz hr hzz hle h0
  subst hz
  exact endFo (pAns 4 ⟨L,K,w,s⟩) F1 h0 hle (Fz.r F1) rfl (by rw [hr]; exact zaj _) hzz
 refine fo_of hΘ Tryz.func48 rfl (by decide) _ _ rfl rfl rfl ?_;conv=>whnf
 refine use (ze0 F) [] rfl trivial rfl trivial (by simp) trivial ?_
 rintro _ F0 h0 n0 hle ⟨rfl,rfl,rfl,rfl⟩;conv=>whnf
 refine brd (by decide) ?_; (conv=>whnf); refine brd (by decide) ?_; (conv=>whnf); refine brd (by decide) ?_; (conv=>whnf); refine bre (by decide) ?_;conv=>whnf
 refine usePu hva rfl (zaa _) rfl ?_
 rcases v with _ | _
 ·conv=>whnf
  refine bre (by decide) ?_;conv=>whnf
  exact fin _ F _ _ (hpf rfl) (fun _=>rfl) rfl (Fz.r F) rfl
 ·conv=>whnf
  refine brd (by decide) ?_;conv=>whnf
  refine zf3 2 rfl ?_
  refine use (hcl rfl) [(1,3),(2,2)] rfl ⟨rfl,rfl,tv⟩ rfl ⟨zao _ (by omega) (by omega) _ _,zai zab _ _ _ _ _,tv⟩ (by simp [SV.below,SC.below,SA.below]) ⟨rfl,rfl,tv⟩ ?_
  rintro out0 F1 h0 n0 hle1 ⟨rfl,rfl,u1,c1,hu1,rfl⟩;conv=>whnf
  refine zeu (hne rfl) (hlen rfl) rfl (zd4 (by rfl) (by rfl) _ _) rfl (zfv zab _ _ _ _ _) ?_
  intro o';conv=>whnf
  exact fin _ F1 _ _ (hpt rfl) (fun _=>rfl) rfl hle1 rfl
theorem zya (hP:PFun) (F:Fz) (an:Bool) (ab ae ac:Nat) (bn:Bool) (bb be bc:Nat) (d:Dc) (ha:Sl F 148 2 encN (.slice an 0 ab ae 2 d.lines.length ac) d.lines) (hb:Sl F 151 6 encK (.slice bn 0 bb be 6 d.cells.length bc) d.cells)
  (hl:d.lines.length ≤ 1000) (hc:d.cells.length ≤ 1000) (hs:d.bits.length ≤ 70000) (hcap:d.cells.length ≤ bc) :
  Fo Tryz.prog F 48 [.agg (docS (.slice an 0 ab ae 2 d.lines.length ac) (.slice bn 0 bb be 6 d.cells.length bc) d.w d.bits),.va (.int .i64 5)] (fun o F'=>o = pAns 5 d):=by
 have hva:=zcr F _ _ d ha hb hl hc hs
 have hpt:=zg8 (p:=5) (d:=d)
 have hpf:=zhj (p:=5) (d:=d)
 have hne:=zez (p:=5) (d:=d)
 have hB:propB 5 d = pvals d.cells:=rfl
 have hx:docOk d = true → ∀ x ∈ d.lines,x.1.length ≤ 1000000:=fun hd x hx=>by
  have:=(zcn hd).ln x hx
  unfold dlnOk at this
  simp only [qd,decide_eq_true_eq] at this
  omega
 have hlen:=zd2 (p:=5) (d:=d)
 have hcl:=fun hd:docOk d = true=>z8e hP F an ab ae d.lines.length ac bn bb be bc d.cells d.w d.bits hb hc hcap
 rw [← hB] at hcl
 clear hx hB hs hl hc hcap
 obtain ⟨T,hT⟩:∃ T,propB 5 d = T:=⟨_,rfl⟩
 rw [hT] at hcl hpt hne hlen
 clear hT
 obtain ⟨L,K,w,s⟩:=d
 replace ha:Sl F 148 2 encN (.slice an 0 ab ae 2 L.length ac) L:=ha
 replace hb:Sl F 151 6 encK (.slice bn 0 bb be 6 K.length bc) K:=hb
 obtain ⟨v,hv⟩:∃ v,docOk ⟨L,K,w,s⟩ = v:=⟨_,rfl⟩
 rw [hv] at hva hpt hpf hne hcl hlen
 have fin:∀ (z:Out) (F1:Fz) (h:Hp) (nx:Nat),pAns 5 ⟨L,K,w,s⟩ = z → (∀ μ,z.ren μ = z) → z.z = true → Fz.le F F1 → lget h 0 = some (.frz F1) → Cln 1 (FoK F fun o F'=>o = pAns 5 ⟨L,K,w,s⟩) z h nx:=by
  intro z F1 h nx hz hr hzz hle h0
  subst hz
  exact endFo (pAns 5 ⟨L,K,w,s⟩) F1 h0 hle (Fz.r F1) rfl (by rw [hr]; exact zaj _) hzz
 refine fo_of hΘ Tryz.func48 rfl (by decide) _ _ rfl rfl rfl ?_;conv=>whnf
 refine use (ze0 F) [] rfl trivial rfl trivial (by simp) trivial ?_
 rintro _ F0 h0 n0 hle ⟨rfl,rfl,rfl,rfl⟩;conv=>whnf
 refine brd (by decide) ?_; (conv=>whnf); refine brd (by decide) ?_; (conv=>whnf); refine brd (by decide) ?_; (conv=>whnf); refine brd (by decide) ?_; (conv=>whnf); refine bre (by decide) ?_;conv=>whnf
 refine usePu hva rfl (zaa _) rfl ?_
 rcases v with _ | _
 ·conv=>whnf
  refine bre (by decide) ?_;conv=>whnf
  exact fin _ F _ _ (hpf rfl) (fun _=>rfl) rfl (Fz.r F) rfl
 ·conv=>whnf
  refine brd (by decide) ?_;conv=>whnf
  refine zf3 2 rfl ?_
  refine use (hcl rfl) [(1,3),(2,2)] rfl ⟨rfl,rfl,tv⟩ rfl ⟨zao _ (by omega) (by omega) _ _,zai zab _ _ _ _ _,tv⟩ (by simp [SV.below,SC.below,SA.below]) ⟨rfl,rfl,tv⟩ ?_
  rintro out0 F1 h0 n0 hle1 ⟨rfl,rfl,u1,c1,hu1,rfl⟩;conv=>whnf
  refine zeu (hne rfl) (hlen rfl) rfl (zd4 (by rfl) (by rfl) _ _) rfl (zfv zab _ _ _ _ _) ?_
  intro o';conv=>whnf
  exact fin _ F1 _ _ (hpt rfl) (fun _=>rfl) rfl hle1 rfl
theorem z0v (hP:PFun) (F:Fz) (an:Bool) (ab ae ac:Nat) (bn:Bool) (bb be bc:Nat) (d:Dc) (ha:Sl F 148 2 encN (.slice an 0 ab ae 2 d.lines.length ac) d.lines) (hb:Sl F 151 6 encK (.slice bn 0 bb be 6 d.cells.length bc) d.cells)
  (hl:d.lines.length ≤ 1000) (hc:d.cells.length ≤ 1000) (hs:d.bits.length ≤ 70000) (hcap:d.cells.length ≤ bc) :
  Fo Tryz.prog F 48 [.agg (docS (.slice an 0 ab ae 2 d.lines.length ac) (.slice bn 0 bb be 6 d.cells.length bc) d.w d.bits),.va (.int .i64 6)] (fun o F'=>o = pAns 6 d):=by
 have hva:=zcr F _ _ d ha hb hl hc hs
 have hpt:=zg8 (p:=6) (d:=d)
 have hpf:=zhj (p:=6) (d:=d)
 have hne:=zez (p:=6) (d:=d)
 have hB:propB 6 d = zae [d.w,hgt d.w d.bits]:=rfl
 have hx:docOk d = true → ∀ x ∈ d.lines,x.1.length ≤ 1000000:=fun hd x hx=>by
  have:=(zcn hd).ln x hx
  unfold dlnOk at this
  simp only [qd,decide_eq_true_eq] at this
  omega
 have hlen:=zd2 (p:=6) (d:=d)
 have hcl:=fun hd:docOk d = true=>z7f hP F an ab ae d.lines.length ac bn bb be d.cells.length bc d.w d.bits (by omega)
 rw [← hB] at hcl
 clear hx hB hs hl hc hcap
 obtain ⟨T,hT⟩:∃ T,propB 6 d = T:=⟨_,rfl⟩
 rw [hT] at hcl hpt hne hlen
 clear hT
 obtain ⟨L,K,w,s⟩:=d
 replace ha:Sl F 148 2 encN (.slice an 0 ab ae 2 L.length ac) L:=ha
 replace hb:Sl F 151 6 encK (.slice bn 0 bb be 6 K.length bc) K:=hb
 obtain ⟨v,hv⟩:∃ v,docOk ⟨L,K,w,s⟩ = v:=⟨_,rfl⟩
 rw [hv] at hva hpt hpf hne hcl hlen
 have fin:∀ (z:Out) (F1:Fz) (h:Hp) (nx:Nat),pAns 6 ⟨L,K,w,s⟩ = z → (∀ μ,z.ren μ = z) → z.z = true → Fz.le F F1 → lget h 0 = some (.frz F1) → Cln 1 (FoK F fun o F'=>o = pAns 6 ⟨L,K,w,s⟩) z h nx:=by
  intro z F1 h nx hz hr hzz hle h0
  subst hz
  exact endFo (pAns 6 ⟨L,K,w,s⟩) F1 h0 hle (Fz.r F1) rfl (by rw [hr]; exact zaj _) hzz
 refine fo_of hΘ Tryz.func48 rfl (by decide) _ _ rfl rfl rfl ?_;conv=>whnf
 refine use (ze0 F) [] rfl trivial rfl trivial (by simp) trivial ?_
 rintro _ F0 h0 n0 hle ⟨rfl,rfl,rfl,rfl⟩;conv=>whnf
 refine brd (by decide) ?_; (conv=>whnf); refine brd (by decide) ?_; (conv=>whnf); refine brd (by decide) ?_; (conv=>whnf); refine brd (by decide) ?_; (conv=>whnf); refine brd (by decide) ?_; (conv=>whnf); refine bre (by decide) ?_;conv=>whnf
 refine usePu hva rfl (zaa _) rfl ?_
 rcases v with _ | _
 ·conv=>whnf
  refine bre (by decide) ?_;conv=>whnf
  exact fin _ F _ _ (hpf rfl) (fun _=>rfl) rfl (Fz.r F) rfl
 ·conv=>whnf
  refine brd (by decide) ?_;conv=>whnf
  refine zf3 2 rfl ?_
  refine use (hcl rfl) [(1,3),(2,2)] rfl ⟨rfl,rfl,tv⟩ rfl ⟨zao _ (by omega) (by omega) _ _,zai zab _ _ _ _ _,tv⟩ (by simp [SV.below,SC.below,SA.below]) ⟨rfl,rfl,tv⟩ ?_
  rintro out0 F1 h0 n0 hle1 ⟨rfl,rfl,u1,c1,hu1,rfl⟩;conv=>whnf
  refine zeu (hne rfl) (hlen rfl) rfl (zd4 (by rfl) (by rfl) _ _) rfl (zfv zab _ _ _ _ _) ?_
  intro o';conv=>whnf
  exact fin _ F1 _ _ (hpt rfl) (fun _=>rfl) rfl hle1 rfl
theorem z0c (hP:PFun) (F:Fz) (an:Bool) (ab ae ac:Nat) (bn:Bool) (bb be bc:Nat) (d:Dc) (ha:Sl F 148 2 encN (.slice an 0 ab ae 2 d.lines.length ac) d.lines) (hb:Sl F 151 6 encK (.slice bn 0 bb be 6 d.cells.length bc) d.cells)
  (hl:d.lines.length ≤ 1000) (hc:d.cells.length ≤ 1000) (hs:d.bits.length ≤ 70000) (hcap:d.cells.length ≤ bc) :
  Fo Tryz.prog F 48 [.agg (docS (.slice an 0 ab ae 2 d.lines.length ac) (.slice bn 0 bb be 6 d.cells.length bc) d.w d.bits),.va (.int .i64 7)] (fun o F'=>o = pAns 7 d):=by
 have hva:=zcr F _ _ d ha hb hl hc hs
 have hpt:=zg8 (p:=7) (d:=d)
 have hpf:=zhj (p:=7) (d:=d)
 have hne:=zez (p:=7) (d:=d)
 have hB:propB 7 d = zae [d.w,hgt d.w d.bits] ++ (putSR d.bits).1:=rfl
 have hx:docOk d = true → ∀ x ∈ d.lines,x.1.length ≤ 1000000:=fun hd x hx=>by
  have:=(zcn hd).ln x hx
  unfold dlnOk at this
  simp only [qd,decide_eq_true_eq] at this
  omega
 have hlen:=zd2 (p:=7) (d:=d)
 have hcl:=fun hd:docOk d = true=>z7p hP F an ab ae d.lines.length ac bn bb be d.cells.length bc d.w d.bits (by omega)
 rw [← hB] at hcl
 clear hx hB hs hl hc hcap
 obtain ⟨T,hT⟩:∃ T,propB 7 d = T:=⟨_,rfl⟩
 rw [hT] at hcl hpt hne hlen
 clear hT
 obtain ⟨L,K,w,s⟩:=d
 replace ha:Sl F 148 2 encN (.slice an 0 ab ae 2 L.length ac) L:=ha
 replace hb:Sl F 151 6 encK (.slice bn 0 bb be 6 K.length bc) K:=hb
 obtain ⟨v,hv⟩:∃ v,docOk ⟨L,K,w,s⟩ = v:=⟨_,rfl⟩
 rw [hv] at hva hpt hpf hne hcl hlen
 have fin:∀ (z:Out) (F1:Fz) (h:Hp) (nx:Nat),pAns 7 ⟨L,K,w,s⟩ = z → (∀ μ,z.ren μ = z) → z.z = true → Fz.le F F1 → lget h 0 = some (.frz F1) → Cln 1 (FoK F fun o F'=>o = pAns 7 ⟨L,K,w,s⟩) z h nx:=by
  intro z F1 h nx hz hr hzz hle h0
  subst hz
  exact endFo (pAns 7 ⟨L,K,w,s⟩) F1 h0 hle (Fz.r F1) rfl (by rw [hr]; exact zaj _) hzz
 refine fo_of hΘ Tryz.func48 rfl (by decide) _ _ rfl rfl rfl ?_;conv=>whnf
 refine use (ze0 F) [] rfl trivial rfl trivial (by simp) trivial ?_
 rintro _ F0 h0 n0 hle ⟨rfl,rfl,rfl,rfl⟩;conv=>whnf
 refine brd (by decide) ?_; (conv=>whnf); refine brd (by decide) ?_; (conv=>whnf); refine brd (by decide) ?_; (conv=>whnf); refine brd (by decide) ?_; (conv=>whnf); refine brd (by decide) ?_; (conv=>whnf); refine brd (by decide) ?_; (conv=>whnf); refine bre (by decide) ?_;conv=>whnf
 refine usePu hva rfl (zaa _) rfl ?_
 rcases v with _ | _
 ·conv=>whnf
  refine bre (by decide) ?_;conv=>whnf
  exact fin _ F _ _ (hpf rfl) (fun _=>rfl) rfl (Fz.r F) rfl
 ·conv=>whnf
  refine brd (by decide) ?_;conv=>whnf
  refine zf3 2 rfl ?_
  refine use (hcl rfl) [(1,3),(2,2)] rfl ⟨rfl,rfl,tv⟩ rfl ⟨zao _ (by omega) (by omega) _ _,zai zab _ _ _ _ _,tv⟩ (by simp [SV.below,SC.below,SA.below]) ⟨rfl,rfl,tv⟩ ?_
  rintro out0 F1 h0 n0 hle1 ⟨rfl,rfl,u1,c1,hu1,rfl⟩;conv=>whnf
  refine zeu (hne rfl) (hlen rfl) rfl (zd4 (by rfl) (by rfl) _ _) rfl (zfv zab _ _ _ _ _) ?_
  intro o';conv=>whnf
  exact fin _ F1 _ _ (hpt rfl) (fun _=>rfl) rfl hle1 rfl
theorem zyg (hP:PFun) (F:Fz) (an:Bool) (ab ae ac:Nat) (bn:Bool) (bb be bc:Nat) (d:Dc) (ha:Sl F 148 2 encN (.slice an 0 ab ae 2 d.lines.length ac) d.lines) (hb:Sl F 151 6 encK (.slice bn 0 bb be 6 d.cells.length bc) d.cells)
  (hl:d.lines.length ≤ 1000) (hc:d.cells.length ≤ 1000) (hs:d.bits.length ≤ 70000) (hcap:d.cells.length ≤ bc) :
  Fo Tryz.prog F 48 [.agg (docS (.slice an 0 ab ae 2 d.lines.length ac) (.slice bn 0 bb be 6 d.cells.length bc) d.w d.bits),.va (.int .i64 8)] (fun o F'=>o = pAns 8 d):=by
 have hva:=zcr F _ _ d ha hb hl hc hs
 have hpt:=zg8 (p:=8) (d:=d)
 have hpf:=zhj (p:=8) (d:=d)
 have hne:=zez (p:=8) (d:=d)
 have hB:propB 8 d = zae [(d.lines.length:Int),(d.cells.length:Int)]:=rfl
 have hx:docOk d = true → ∀ x ∈ d.lines,x.1.length ≤ 1000000:=fun hd x hx=>by
  have:=(zcn hd).ln x hx
  unfold dlnOk at this
  simp only [qd,decide_eq_true_eq] at this
  omega
 have hlen:=zd2 (p:=8) (d:=d)
 have hcl:=fun hd:docOk d = true=>z8b hP F an ab ae d.lines.length ac bn bb be d.cells.length bc d.w d.bits
 rw [← hB] at hcl
 clear hx hB hs hl hc hcap
 obtain ⟨T,hT⟩:∃ T,propB 8 d = T:=⟨_,rfl⟩
 rw [hT] at hcl hpt hne hlen
 clear hT
 obtain ⟨L,K,w,s⟩:=d
 replace ha:Sl F 148 2 encN (.slice an 0 ab ae 2 L.length ac) L:=ha
 replace hb:Sl F 151 6 encK (.slice bn 0 bb be 6 K.length bc) K:=hb
 obtain ⟨v,hv⟩:∃ v,docOk ⟨L,K,w,s⟩ = v:=⟨_,rfl⟩
 rw [hv] at hva hpt hpf hne hcl hlen
 have fin:∀ (z:Out) (F1:Fz) (h:Hp) (nx:Nat),pAns 8 ⟨L,K,w,s⟩ = z → (∀ μ,z.ren μ = z) → z.z = true → Fz.le F F1 → lget h 0 = some (.frz F1) → Cln 1 (FoK F fun o F'=>o = pAns 8 ⟨L,K,w,s⟩) z h nx:=by
  intro z F1 h nx hz hr hzz hle h0
  subst hz
  exact endFo (pAns 8 ⟨L,K,w,s⟩) F1 h0 hle (Fz.r F1) rfl (by rw [hr]; exact zaj _) hzz
 refine fo_of hΘ Tryz.func48 rfl (by decide) _ _ rfl rfl rfl ?_;conv=>whnf
 refine use (ze0 F) [] rfl trivial rfl trivial (by simp) trivial ?_
 rintro _ F0 h0 n0 hle ⟨rfl,rfl,rfl,rfl⟩;conv=>whnf
 refine brd (by decide) ?_; (conv=>whnf); refine brd (by decide) ?_; (conv=>whnf); refine brd (by decide) ?_; (conv=>whnf); refine brd (by decide) ?_; (conv=>whnf); refine brd (by decide) ?_; (conv=>whnf); refine brd (by decide) ?_; (conv=>whnf); refine brd (by decide) ?_; (conv=>whnf); refine bre (by decide) ?_;conv=>whnf
 refine usePu hva rfl (zaa _) rfl ?_
 rcases v with _ | _
 ·conv=>whnf
  refine bre (by decide) ?_;conv=>whnf
  exact fin _ F _ _ (hpf rfl) (fun _=>rfl) rfl (Fz.r F) rfl
 ·conv=>whnf
  refine brd (by decide) ?_;conv=>whnf
  refine zf3 2 rfl ?_
  refine use (hcl rfl) [(1,3),(2,2)] rfl ⟨rfl,rfl,tv⟩ rfl ⟨zao _ (by omega) (by omega) _ _,zai zab _ _ _ _ _,tv⟩ (by simp [SV.below,SC.below,SA.below]) ⟨rfl,rfl,tv⟩ ?_
  rintro out0 F1 h0 n0 hle1 ⟨rfl,rfl,u1,c1,hu1,rfl⟩;conv=>whnf
  refine zeu (hne rfl) (hlen rfl) rfl (zd4 (by rfl) (by rfl) _ _) rfl (zfv zab _ _ _ _ _) ?_
  intro o';conv=>whnf
  exact fin _ F1 _ _ (hpt rfl) (fun _=>rfl) rfl hle1 rfl
theorem z4h (hP:PFun) (F:Fz) (an:Bool) (ab ae ac:Nat) (bn:Bool) (bb be bc:Nat) (d:Dc) (ha:Sl F 148 2 encN (.slice an 0 ab ae 2 d.lines.length ac) d.lines) (hb:Sl F 151 6 encK (.slice bn 0 bb be 6 d.cells.length bc) d.cells)
  (hl:d.lines.length ≤ 1000) (hc:d.cells.length ≤ 1000) (hs:d.bits.length ≤ 70000) (hcap:d.cells.length ≤ bc) (p:Int) (hp:1 ≤ p ∧ p ≤ 8) :
  Fo Tryz.prog F 48 [.agg (docS (.slice an 0 ab ae 2 d.lines.length ac) (.slice bn 0 bb be 6 d.cells.length bc) d.w d.bits),.va (.int .i64 p)] (fun o F'=>o = pAns p d):=by
 have h8:p = 1 ∨ p = 2 ∨ p = 3 ∨ p = 4 ∨ p = 5 ∨ p = 6 ∨ p = 7 ∨ p = 8:=by omega
 rcases h8 with rfl | rfl | rfl | rfl | rfl | rfl | rfl | rfl
 ·exact zyq hP F an ab ae ac bn bb be bc d ha hb hl hc hs hcap
 ·exact zxv hP F an ab ae ac bn bb be bc d ha hb hl hc hs hcap
 ·exact zy1 hP F an ab ae ac bn bb be bc d ha hb hl hc hs hcap
 ·exact zxm hP F an ab ae ac bn bb be bc d ha hb hl hc hs hcap
 ·exact zya hP F an ab ae ac bn bb be bc d ha hb hl hc hs hcap
 ·exact z0v hP F an ab ae ac bn bb be bc d ha hb hl hc hs hcap
 ·exact z0c hP F an ab ae ac bn bb be bc d ha hb hl hc hs hcap
 ·exact zyg hP F an ab ae ac bn bb be bc d ha hb hl hc hs hcap
def allB (d:Dc):List (List UInt8):=(List.range 8).map fun k:Nat=>propB ((k:Int) + 1) d
theorem zc3 (d:Dc):(allB d).length = 8:=by simp [allB]
theorem zrx (d:Dc) (k:Nat) (h:k < 8):(allB d)[k]? = some (propB ((k:Int) + 1) d):=by simp [allB,h]
theorem zev {n:Nat} {a b:SA} {w:Int} {s:List UInt8} (ha:a.below n) (hb:b.below n):(Ent.one (.cells 41 (docS a b w s))).below n:=zb8 (w:=w) (s:=s) ha hb
theorem zdr:Plain encS:=fun x=>⟨fun μ=>rfl,fun a ha=>by simp only [encS,qy] at ha; subst ha; trivial⟩
abbrev z2e (a b:SA) (w:Int) (s:List UInt8):Ent:=.one (.cells 41 (docS a b w s))
theorem z8o (hP:PFun) (F:Fz) (an:Bool) (ab ae ac:Nat) (bn:Bool) (bb be bc:Nat) (d:Dc) (ha:Sl F 148 2 encN (.slice an 0 ab ae 2 d.lines.length ac) d.lines) (hb:Sl F 151 6 encK (.slice bn 0 bb be 6 d.cells.length bc) d.cells)
  (hl:d.lines.length ≤ 1000) (hc:d.cells.length ≤ 1000) (hs:d.bits.length ≤ 70000) (hcap:d.cells.length ≤ bc) :
  Fo Tryz.prog F 14 [.agg (docS (.slice an 0 ab ae 2 d.lines.length ac) (.slice bn 0 bb be 6 d.cells.length bc) d.w d.bits)] (fun o F'=>(docOk d = false ∧ o = .ret (.tup [.va .nilsl,.va (.int .i64 60)])) ∨
   (docOk d = true ∧ ∃ b c,o = .ret (.tup [.va (.slice false 0 b 0 1 8 c),.va (.int .i64 0)]) ∧ F' b = some (.arr 9 1 ((allB d).map encS) c))):=by
 have hpr:=fun F1 (l1:Fz.le F F1)=>z4h hP F1 an ab ae ac bn bb be bc d (ha.mono l1) (hb.mono l1) hl hc hs hcap
 have hpt:=fun p=>zg8 (p:=p) (d:=d)
 have hpf:=fun p=>zhj (p:=p) (d:=d)
 have hgl:=zc3 d
 have hgt:=zrx d
 obtain ⟨A,hA⟩:∃ A,allB d = A:=⟨_,rfl⟩
 rw [hA] at hgl hgt ⊢
 clear hA ha hb hl hc hs hcap
 obtain ⟨L,K,w,s⟩:=d
 obtain ⟨v,hv⟩:∃ v,docOk ⟨L,K,w,s⟩ = v:=⟨_,rfl⟩
 rw [hv] at hpt hpf ⊢
 clear hv
 rcases v with _ | _
 ·have hcall:=hpr F (Fz.r F) 1 (by omega)
  rw [hpf 1 rfl] at hcall
  refine fo_of hΘ Tryz.func14 rfl (by decide) _ _ rfl rfl rfl ?_;conv=>whnf
  refine zan hΘ (X:={ k:Nat // k = 0 }) (fun k=>[(4,.va .nilsl),(8,.va (.int .i64 k.1))]) [2,3,5,6,7,9,10,11,12,13,14,15,16,17,18,19,20,21,22,23,24,25]
   (fun y=>[(0,.frz F),(1,z2e (.slice an 0 ab ae 2 L.length ac) (.slice bn 0 bb be 6 K.length bc) w s)]) 2 (fun k=>0) ⟨0,rfl⟩
   (fun hH hT=>leI [] hH hT rfl ⟨tv,zev (.inr (by omega)) (.inr (by omega)),tv⟩ ⟨rfl,rfl,tv⟩ ⟨Fz.r F,rfl,tv⟩) ?_
  rintro ⟨k,rfl⟩ hH hT;conv=>whnf
  refine br (fun _=>?_) (fun g2=>absurd g2 (by decide));conv=>whnf
  refine useFo hcall rfl (zaa _) rfl ?_
  rintro _ F1 l1 rfl;conv=>whnf
  refine br (fun _=>?_) (fun g2=>absurd g2 (by decide));conv=>whnf
  exact endFo (.ret (.tup [.va .nilsl,.va (.int .i64 60)])) F1 rfl l1 (Fz.r F1) (.inl ⟨rfl,rfl⟩) (zaj _) rfl
 ·refine fo_of hΘ Tryz.func14 rfl (by decide) _ _ rfl rfl rfl ?_;conv=>whnf
  refine zan hΘ (X:={ y:Nat × List (List UInt8) × Nat × Fz // Fz.le F y.2.2.2 ∧ y.1 ≤ 8 ∧ y.2.1 = A.take y.1 }) (fun y=>[(4,.va (gA 1 2 y.1.2.2.1 y.1.2.1)),(8,.va (.int .i64 y.1.1))]) [2,3,5,6,7,9,10,11,12,13,14,15,16,17,18,19,20,21,22,23,24,25]
   (fun y=>[(0,.frz y.1.2.2.2),(1,z2e (.slice an 0 ab ae 2 L.length ac) (.slice bn 0 bb be 6 K.length bc) w s),(2,gE 9 1 encS y.1.2.2.1 y.1.2.1)]) 3 (fun y=>8 - y.1.1) ⟨(0,[],0,F),Fz.r F,by omega,by simp⟩
   (fun hH hT=>leI [(2,2)] hH hT rfl ⟨tv,zev (.inr (by omega)) (.inr (by omega)),zai zdr _ _ _ _ _,tv⟩ ⟨rfl,rfl,tv⟩ ⟨Fz.r F,rfl,rfl,tv⟩) ?_
  rintro ⟨⟨k,o,co,G⟩,hG,hk,ho⟩ hH hT
  replace hG:Fz.le F G:=hG
  replace hk:k ≤ 8:=hk
  replace ho:o = A.take k:=ho
  by_cases g:k < 8
  ·have hlt:(k:Int) < 8:=by omega
   have hk1:k + 1 ≤ 8:=g
   have hdec:8 - (k + 1) < 8 - k:=by omega
   have hk62:k < 4611686018427387904:=by omega
   have hw:SA.int .i64 ((k:Int) + 1) = SA.int .i64 (IntKind.i64.wrap ((k:Int) + 1)):=cnt hk62
   have hxt:∃ t,propB ((k:Int) + 1) ⟨L,K,w,s⟩ = t:=⟨_,rfl⟩
   obtain ⟨t,ht⟩:=hxt
   have hcall:=hpr G hG ((k:Int) + 1) (by omega)
   rw [hpt ((k:Int) + 1) rfl,ht] at hcall
   have hnx:o ++ [t] = A.take (k + 1):=by
    have hkA:k < A.length:=by omega
    rw [qi hkA,ho]
    have:=hgt k g
    rw [qc hkA,ht] at this
    rw [Option.some.inj this]
   have hol:o.length = k:=by rw [ho,qn]; omega
   clear ht ho
   rcases o with _ | ⟨o0,or'⟩
   ·conv=>whnf
    refine bri hlt ?_;conv=>whnf
    refine useFo hcall rfl ⟨rfl,hw,tv⟩ rfl ?_
    rintro _ G2 l2 rfl;conv=>whnf
    refine br (fun g2=>absurd g2 (by decide)) (fun _=>?_);conv=>whnf
    refine ⟨nb rfl,[encS t],rfl,?_⟩;conv=>whnf
    refine ⟨rfl,rfl,?_⟩;conv=>whnf
    refine ⟨by show 1 * 16 ≤ 140737488355328; omega,fun c' hc'=>?_⟩;conv=>whnf
    exact ⟨⟨(k + 1,[] ++ [t],c',G2),Fz.t hG l2,hk1,hnx⟩,hdec,leR [(2,4)] hH hT rfl ⟨tv,zev (.inr (by omega)) (.inr (by omega)),zai zdr _ _ _ _ _,tv⟩ ⟨by (conv=>whnf); exact ⟨rfl,rfl,rfl,.inr ⟨rfl,rfl,rfl,rfl⟩⟩,cnt hk62,tv⟩ ⟨Fz.r G2,rfl,zav zdr (zcg _ (by simp)),tv⟩⟩
   ·have hsz:(or'.length + 1 + 1) * 16 ≤ 140737488355328:=by
     have h9:or'.length + 1 = k:=hol
     omega
    conv=>whnf
    refine bri hlt ?_;conv=>whnf
    refine useFo hcall rfl ⟨rfl,hw,tv⟩ rfl ?_
    rintro _ G2 l2 rfl;conv=>whnf
    refine br (fun g2=>absurd g2 (by decide)) (fun _=>?_);conv=>whnf
    refine ⟨nb rfl,[encS t],rfl,?_⟩;conv=>whnf
    refine ⟨rfl,rfl,by simp,rfl,hsz,fun c' hc'=>?_⟩;conv=>whnf
    exact ⟨⟨(k + 1,(o0 :: or') ++ [t],c',G2),Fz.t hG l2,hk1,hnx⟩,hdec,leR [(2,4)] hH hT rfl ⟨tv,zev (.inr (by omega)) (.inr (by omega)),zai zdr _ _ _ _ _,tv⟩ ⟨zqu (μ:=sig [(2,4)]) (i:=2) (j:=4) rfl 1 c' _ (o0 :: or') t rfl,cnt hk62,tv⟩ ⟨Fz.r G2,rfl,zav zdr (zcg _ (by simp)),tv⟩⟩
  ·have hlt:¬ (k:Int) < 8:=by omega
   have hk8:k = 8:=by omega
   have hoA:o = A:=by rw [ho,hk8,qm (by omega)]
   rcases o with _ | ⟨o0,or'⟩
   ·rw [← hoA] at hgl; cases hgl
   ·have hol:or'.length + 1 = 8:=by rw [← hoA] at hgl; exact hgl
    conv=>whnf
    refine brj hlt ?_;conv=>whnf
    refine zbl 2 (fun _=>.arr 9 1 ((o0 :: or').map encS) co) rfl rfl rfl (fun _ _=>by exact zcu zdr rfl _ _ _ _) (fun _ _=>zbk zdr _ _ _ _ _) ?_
    intro b' F' hle hb'
    refine endFo (.ret (.tup [.va (.slice false 0 (b' 0) 0 1 8 co),.va (.int .i64 0)])) F' rfl (Fz.t hG hle) (Fz.r F') (.inr ⟨rfl,_,_,rfl,by rw [← hoA]; exact hb' 0 ⟨rfl,rfl⟩⟩) ?_ rfl
    exact ⟨⟨rfl,hol.symm,rfl,.inr ⟨rfl,rfl,rfl,rfl⟩⟩,rfl,tv⟩
def DocAt (F:Fz) (a b:SA) (d:Dc):Prop:=
 ∃ (an:Bool) (ab ae ac:Nat) (bn:Bool) (bb be bc:Nat),a = .slice an 0 ab ae 2 d.lines.length ac ∧ b = .slice bn 0 bb be 6 d.cells.length bc ∧ Sl F 148 2 encN a d.lines ∧ Sl F 151 6 encK b d.cells ∧ d.cells.length ≤ bc
theorem DocAt.mono {F F':Fz} {a b:SA} {d:Dc} (h:DocAt F a b d) (hle:Fz.le F F'):DocAt F' a b d:=by
 obtain ⟨an,ab,ae,ac,bn,bb,be,bc,h1,h2,h3,h4,h5⟩:=h
 exact ⟨an,ab,ae,ac,bn,bb,be,bc,h1,h2,h3.mono hle,h4.mono hle,h5⟩
structure DcSmall (d:Dc):Prop where
 l:d.lines.length ≤ 1000
 c:d.cells.length ≤ 1000
 b:d.bits.length ≤ 70000
theorem zqi (F:Fz) (a b:SA) (d:Dc) (h:DocAt F a b d) (hs:DcSmall d) :
  Fo Tryz.prog F 14 [.agg (docS a b d.w d.bits)] (fun o F'=>(docOk d = false ∧ o = .ret (.tup [.va .nilsl,.va (.int .i64 60)])) ∨
   (docOk d = true ∧ ∃ b c,o = .ret (.tup [.va (.slice false 0 b 0 1 8 c),.va (.int .i64 0)]) ∧ F' b = some (.arr 9 1 ((allB d).map encS) c))):=by
 obtain ⟨an,ab,ae,ac,bn,bb,be,bc,rfl,rfl,h3,h4,h5⟩:=h
 exact z8o pfun F an ab ae ac bn bb be bc d h3 h4 hs.l hs.c hs.b h5
theorem zdd {d:Dc} (hd:docOk d = true):∀ s ∈ allB d,s.length ≤ 900000000000:=by
 intro s hs
 obtain ⟨k,hk,rfl⟩:=q9.1 hs
 have hk8:k < 8:=qcf.1 hk
 have hp:1 ≤ (k:Int) + 1 ∧ (k:Int) + 1 ≤ 8:=by omega
 show (propB ((k:Int) + 1) d).length ≤ _
 rw [zrz hp]
 have:=zsx (p:=(k:Int) + 1) (zwr hp (zoc hp hd))
 omega
theorem zmj {F:Fz} {b c:Nat} {d:Dc} (h:F b = some (.arr 9 1 ((allB d).map encS) c)):Sl F 9 1 encS (.slice false 0 b 0 1 8 c) (allB d):=by
 have:=Sl.new (enc:=encS) (cap:=c) h
 rw [zc3] at this
 exact this
theorem znm {ks:List Kp} (hs:short ks) (p:Int):(zb2 ks p).length < 1000000:=by
 unfold zb2
 split
 ·decide
 ·split
  ·exact zj9 hs _
  ·exact zj9 hs _
theorem zd9 {ks:List Kp} (hs:short ks):short (zbm ks):=by
 intro x hx
 obtain ⟨k,_,rfl⟩:=q9.1 hx
 exact znm hs _
def makeC (m:Mig) (d e:Dc):Crt:=⟨root8 (allB d),root8 (allB e),1,zbm m.keep⟩
def zdh (m:Mig) (d e:Dc):Bool:=migOk m && (docOk d && (docOk e && zce (makeC m d e) (allB d) (allB e)))
theorem zmt (F:Fz) (hM:MLF F) (hR:RNDF F) (sk a1 b1 a2 b2:SA) (m:Mig) (d e:Dc) (hk:KpsAt F sk m.keep) (hs:short m.keep) (hl:m.keep.length < 1000000) (hd:DocAt F a1 b1 d) (he:DocAt F a2 b2 e) (hd1:DcSmall d) (he1:DcSmall e) :
  Fo Tryz.prog F 21 [.agg (migS m sk),.agg (docS a1 b1 d.w d.bits),.agg (docS a2 b2 e.w e.bits)] (fun o F'=>
   (zdh m d e = false ∧ o = .ret (.tup [.agg [.str [],.str [],.int .i64 0,.nilsl],.va (.int .i64 100)])) ∨
   (zdh m d e = true ∧ ∃ sc,o = .ret (.tup [.agg (crtS (makeC m d e) sc),.va (.int .i64 0)]) ∧ ClsAt F' sc (zbm m.keep))):=by
 have hclaims:=zwt F sk m hk hs hl
 have hall1:=fun F1 (l1:Fz.le F F1)=>zqi F1 a1 b1 d (hd.mono l1) hd1
 have hall2:=fun F1 (l1:Fz.le F F1)=>zqi F1 a2 b2 e (he.mono l1) he1
 obtain ⟨id,src,dst,back,ks⟩:=m
 obtain ⟨kn,kb,ke,kc,kL,kr,rfl,k1,k2,k3,k4⟩:=hk
 obtain ⟨an1,ab1,ae1,ac1,bn1,bb1,be1,bc1,rfl,rfl,-,-,-⟩:=hd
 obtain ⟨an2,ab2,ae2,ac2,bn2,bb2,be2,bc2,rfl,rfl,-,-,-⟩:=he
 refine fo_of hΘ Tryz.func21 rfl (by decide) _ _ rfl rfl rfl ?_;conv=>whnf
 refine useFo hclaims rfl (zaa _) rfl ?_
 rintro _ F1 l1 (⟨hm,rfl⟩ | ⟨hm,b,c,rfl,hcl⟩)
 ·conv=>whnf
  refine useFo (hall1 F1 l1) rfl (zaa _) rfl ?_
  rintro _ F2 l2 (⟨hd,rfl⟩ | ⟨hd,b2,c2,rfl,hA⟩)
  ·conv=>whnf
   refine useFo (hall2 F2 (Fz.t l1 l2)) rfl (zaa _) rfl ?_
   rintro _ F3 l3 (⟨he,rfl⟩ | ⟨he,b3,c3,rfl,hB⟩)
   ·conv=>whnf
    repeat
     first
      |refine gaf (by decide) ?_
       conv=>whnf
      |refine gae (by decide) ?_
       conv=>whnf
      |refine brd (by decide) ?_
       conv=>whnf
      |refine bre (by decide) ?_
       conv=>whnf
    exact endFo (.ret (.tup [.agg [.str [],.str [],.int .i64 0,.nilsl],.va (.int .i64 100)])) F3 rfl (Fz.t l1 (Fz.t l2 l3)) (Fz.r F3) (.inl ⟨by simp only [zdh,hm,hd,he,qt,jp],rfl⟩) (zaj _) rfl
   ·conv=>whnf
    repeat
     first
      |refine gaf (by decide) ?_
       conv=>whnf
      |refine gae (by decide) ?_
       conv=>whnf
      |refine brd (by decide) ?_
       conv=>whnf
      |refine bre (by decide) ?_
       conv=>whnf
    exact endFo (.ret (.tup [.agg [.str [],.str [],.int .i64 0,.nilsl],.va (.int .i64 100)])) F3 rfl (Fz.t l1 (Fz.t l2 l3)) (Fz.r F3) (.inl ⟨by simp only [zdh,hm,hd,he,qt,jp],rfl⟩) (zaj _) rfl
  ·conv=>whnf
   refine useFo (hall2 F2 (Fz.t l1 l2)) rfl (zaa _) rfl ?_
   rintro _ F3 l3 (⟨he,rfl⟩ | ⟨he,b3,c3,rfl,hB⟩)
   ·conv=>whnf
    repeat
     first
      |refine gaf (by decide) ?_
       conv=>whnf
      |refine gae (by decide) ?_
       conv=>whnf
      |refine brd (by decide) ?_
       conv=>whnf
      |refine bre (by decide) ?_
       conv=>whnf
    exact endFo (.ret (.tup [.agg [.str [],.str [],.int .i64 0,.nilsl],.va (.int .i64 100)])) F3 rfl (Fz.t l1 (Fz.t l2 l3)) (Fz.r F3) (.inl ⟨by simp only [zdh,hm,hd,he,qt,jp],rfl⟩) (zaj _) rfl
   ·conv=>whnf
    repeat
     first
      |refine gaf (by decide) ?_
       conv=>whnf
      |refine gae (by decide) ?_
       conv=>whnf
      |refine brd (by decide) ?_
       conv=>whnf
      |refine bre (by decide) ?_
       conv=>whnf
    exact endFo (.ret (.tup [.agg [.str [],.str [],.int .i64 0,.nilsl],.va (.int .i64 100)])) F3 rfl (Fz.t l1 (Fz.t l2 l3)) (Fz.r F3) (.inl ⟨by simp only [zdh,hm,hd,he,qt,jp],rfl⟩) (zaj _) rfl
 ·conv=>whnf
  refine useFo (hall1 F1 l1) rfl (zaa _) rfl ?_
  rintro _ F2 l2 (⟨hd,rfl⟩ | ⟨hd,b2,c2,rfl,hA⟩)
  ·conv=>whnf
   refine useFo (hall2 F2 (Fz.t l1 l2)) rfl (zaa _) rfl ?_
   rintro _ F3 l3 (⟨he,rfl⟩ | ⟨he,b3,c3,rfl,hB⟩)
   ·conv=>whnf
    repeat
     first
      |refine gaf (by decide) ?_
       conv=>whnf
      |refine gae (by decide) ?_
       conv=>whnf
      |refine brd (by decide) ?_
       conv=>whnf
      |refine bre (by decide) ?_
       conv=>whnf
    exact endFo (.ret (.tup [.agg [.str [],.str [],.int .i64 0,.nilsl],.va (.int .i64 100)])) F3 rfl (Fz.t l1 (Fz.t l2 l3)) (Fz.r F3) (.inl ⟨by simp only [zdh,hm,hd,he,qt,jp],rfl⟩) (zaj _) rfl
   ·conv=>whnf
    repeat
     first
      |refine gaf (by decide) ?_
       conv=>whnf
      |refine gae (by decide) ?_
       conv=>whnf
      |refine brd (by decide) ?_
       conv=>whnf
      |refine bre (by decide) ?_
       conv=>whnf
    exact endFo (.ret (.tup [.agg [.str [],.str [],.int .i64 0,.nilsl],.va (.int .i64 100)])) F3 rfl (Fz.t l1 (Fz.t l2 l3)) (Fz.r F3) (.inl ⟨by simp only [zdh,hm,hd,he,qt,jp],rfl⟩) (zaj _) rfl
  ·conv=>whnf
   refine useFo (hall2 F2 (Fz.t l1 l2)) rfl (zaa _) rfl ?_
   rintro _ F3 l3 (⟨he,rfl⟩ | ⟨he,b3,c3,rfl,hB⟩)
   ·conv=>whnf
    repeat
     first
      |refine gaf (by decide) ?_
       conv=>whnf
      |refine gae (by decide) ?_
       conv=>whnf
      |refine brd (by decide) ?_
       conv=>whnf
      |refine bre (by decide) ?_
       conv=>whnf
    exact endFo (.ret (.tup [.agg [.str [],.str [],.int .i64 0,.nilsl],.va (.int .i64 100)])) F3 rfl (Fz.t l1 (Fz.t l2 l3)) (Fz.r F3) (.inl ⟨by simp only [zdh,hm,hd,he,qt,jp],rfl⟩) (zaj _) rfl
   ·conv=>whnf
    repeat
     first
      |refine gaf (by decide) ?_
       conv=>whnf
      |refine gae (by decide) ?_
       conv=>whnf
      |refine brd (by decide) ?_
       conv=>whnf
      |refine bre (by decide) ?_
       conv=>whnf
    refine useFo (zi6 F3 (hR.mono (Fz.t l1 (Fz.t l2 l3))) _ (allB d) (zmj (l3 _ _ hA)) (zc3 d) (zdd hd)) rfl (zaa _) rfl ?_
    rintro _ F4 l4 rfl
    have m4:=Fz.t l1 (Fz.t l2 (Fz.t l3 l4))
    conv=>whnf
    refine useFo (zi6 F4 (hR.mono m4) _ (allB e) (zmj (l4 _ _ hB)) (zc3 e) (zdd he)) rfl (zaa _) rfl ?_
    rintro _ F5 l5 rfl
    have m5:=Fz.t m4 l5
    have h5:=KpsAt.up hcl (Fz.t l2 (Fz.t l3 (Fz.t l4 l5)))
    have hck:=zl5 F5 (hM.mono m5) (hR.mono m5) _ _ _ (makeC ⟨id,src,dst,back,ks⟩ d e) (allB d) (allB e) h5 (zd9 hs) (by show (zbm ks).length < _; rw [zc8]; decide) (zmj (l5 _ _ (l4 _ _ (l3 _ _ hA)))) (zmj (l5 _ _ (l4 _ _ hB))) (zdd hd) (zdd he)
    have hvc:zce (makeC ⟨id,src,dst,back,ks⟩ d e) (allB d) (allB e) = true ∨ zce (makeC ⟨id,src,dst,back,ks⟩ d e) (allB d) (allB e) = false:=by
     cases zce (makeC ⟨id,src,dst,back,ks⟩ d e) (allB d) (allB e)
     ·exact .inr rfl
     ·exact .inl rfl
    refine Or.elim hvc (fun hv=>?_) (fun hv=>?_)
    ·rw [hv] at hck
     conv=>whnf
     refine useFo hck rfl (zaa _) rfl ?_
     rintro _ F6 l6 rfl;conv=>whnf
     refine brd (by decide) ?_;conv=>whnf
     exact endFo (.ret (.tup [.agg [.str (root8 (allB d)),.str (root8 (allB e)),.int .i64 1,.slice false 0 b 0 2 8 c],.va (.int .i64 0)])) F6 rfl (Fz.t m5 l6) (Fz.r F6) (.inr ⟨by simp only [zdh,hm,hd,he,hv,y5],_,rfl,KpsAt.up h5 l6⟩) (zaj _) rfl
    ·rw [hv] at hck
     conv=>whnf
     refine useFo hck rfl (zaa _) rfl ?_
     rintro _ F6 l6 rfl;conv=>whnf
     refine bre (by decide) ?_;conv=>whnf
     exact endFo (.ret (.tup [.agg [.str [],.str [],.int .i64 0,.nilsl],.va (.int .i64 100)])) F6 rfl (Fz.t m5 l6) (Fz.r F6) (.inl ⟨by simp only [zdh,hm,hd,he,hv,y5],rfl⟩) (zaj _) rfl
end Go.Proofs.YtfnkamphhpldcaaGreatDoor
