import Derived.Test.YtfnkamphhpldcaaGreatDoorK40
set_option maxHeartbeats 64000000
namespace Go.Proofs.YtfnkamphhpldcaaGreatDoor
open Go Sx
set_option maxRecDepth 100000
abbrev dcE (lc cc:Nat) (o:List DLn) (q:List Cel) (w:Int) (s:List UInt8):Ent:=.one (.cells 41 [gA 2 4 lc o,gA 6 5 cc q,.int .i64 w,.str s])
theorem zfz {n lc cc:Nat} {o:List DLn} {q:List Cel} {w:Int} {s:List UInt8} (h:5 < n):(dcE lc cc o q w s).below n:=by
 intro a ha
 simp only [qj,qq,or_false] at ha
 rcases ha with rfl | rfl | rfl | rfl
 ·exact zeg (by omega) _ _ _
 ·exact zeg (by omega) _ _ _
 ·trivial
 ·trivial
theorem zkz {n c:Nat} {o:List DLn} (h:4 < n):(Ent.one (.cells 41 [gA 2 4 c o,.nilsl,.int .i64 0,.str []])).below n:=by
 intro a ha
 simp only [qj,qq,or_false] at ha
 rcases ha with rfl | rfl | rfl | rfl
 ·exact zeg (by omega) _ _ _
 ·trivial
 ·trivial
 ·trivial
theorem zrm {μ:Mu} {j c n:Nat} {L:List DLn} {x:DLn} (hm:μ 4 0 = (j,0)) (hn:n = L.length + 1):SB.cells 41 [.slice false j 0 0 2 n c,.nilsl,.int .i64 0,.str []] = SB.ren μ (.cells 41 [gA 2 4 c (L ++ [x]),.nilsl,.int .i64 0,.str []]):=by
 subst hn
 cases L with
 |nil=>simp only [gA,qu,SB.ren,qx,ym,SA.ren,hm,qp]
 |cons y r=>simp only [gA,jt,SB.ren,qx,ym,SA.ren,hm,qa,qe,qp]
theorem zgv {α:Type} {μ:Mu} {sz i j c:Nat} (h:μ i 0 = (j,0)) (l:List α):gA sz j c l = (gA sz i c l).ren μ:=by
 cases l<;>simp only [gA,SA.ren,h]
theorem zv1 {α:Type} {μ:Mu} {sz i j c n:Nat} {L:List α} {x:α} (h:μ i 0 = (j,0)) (hn:n = L.length + 1):SA.slice false j 0 0 sz n c = (gA sz i c (L ++ [x])).ren μ:=by
 subst hn
 cases L<;>simp [gA,SA.ren,h]
theorem swK {t c:Nat} {L0:List (List SA)} {q:List Cel} {X:List SA} {y:Cel} (hL:L0 = q.map encK ++ [X]) (hX:X.length = 6) (hd:∀ ρ,(encK y).map (SA.den ρ) = X.map (SA.den ρ)) :
  ∀ ρ o,(SB.arr t 6 L0 c).ok ρ o → (SB.arr t 6 ((q ++ [y]).map encK) c).ok ρ o:=by
 subst hL
 refine zvq (by simp) ?_ ?_
 ·intro z hz
  obtain ⟨u,_,rfl⟩:=q9.1 hz
  rfl
 ·intro ρ
  simp only [q5,qx,ym,yh,jy,qbb,jw,hd]
theorem zsr {μ:Mu} {lc cc:Nat} {o:List DLn} {q:List Cel} {w:Int} {s:List UInt8} {A B:SA} (hA:A = (gA 2 4 lc o).ren μ) (hB:B = (gA 6 5 cc q).ren μ) :
  SB.cells 41 [A,B,.int .i64 w,.str s] = SB.ren μ (.cells 41 [gA 2 4 lc o,gA 6 5 cc q,.int .i64 w,.str s]):=by subst hA hB; rfl
theorem bitN (N j:Nat) (hj:j < 64):IntKind.u8.wrap (IntKind.i64.wrap (48 + (shrI IntKind.i64 (N:Int) (j:Int)).tmod 2)) = ((UInt8.ofNat (48 + N / 2 ^ j % 2)).toNat:Int):=by
 have e1:shrI .i64 (N:Int) (j:Int) = ((N / 2 ^ j:Nat):Int):=by
  unfold shrI
  have hm:min ((j:Int).toNat) (IntKind.i64.bits) = j:=by
   rw [ql]
   show min j 64 = j
   omega
  rw [hm,qam _ (by have:=qc8 (n:=2) (m:=j) (by omega); omega)]
  simp
 have e2:((N / 2 ^ j:Nat):Int).tmod 2 = ((N / 2 ^ j % 2:Nat):Int):=by
  rw [yu (qcb _)]; simp
 have e3:48 + N / 2 ^ j % 2 < 256:=by omega
 have e4:(48:Int) + ((N / 2 ^ j % 2:Nat):Int) = ((48 + N / 2 ^ j % 2:Nat):Int):=by simp
 have e5:-9223372036854775808 ≤ ((48 + N / 2 ^ j % 2:Nat):Int) ∧ ((48 + N / 2 ^ j % 2:Nat):Int) ≤ 9223372036854775807:=by omega
 rw [e1,e2,e4,zal e5.1 (Int.le_trans e5.2 (by decide)),qal,jo e3]
 show ((48 + N / 2 ^ j % 2:Nat):Int).emod 256 = _
 exact Int.emod_eq_of_lt (by omega) (by omega)
theorem z0f (j N:Nat):mkB (j + 1) N = mkB j N ++ [UInt8.ofNat (48 + N / 2 ^ j % 2)]:=by
 unfold mkB
 rw [qcu,q5]; rfl
theorem z7u {μ:Mu} {lc cc:Nat} {o:List DLn} {q:List Cel} {w:Int} {s s':List UInt8} {A B:SA} (hs:s' = s) (hA:A = (gA 2 4 lc o).ren μ) (hB:B = (gA 6 5 cc q).ren μ) :
  SB.cells 41 [A,B,.int .i64 w,.str s'] = SB.ren μ (.cells 41 [gA 2 4 lc o,gA 6 5 cc q,.int .i64 w,.str s]):=by subst hs hA hB; rfl
theorem zl4 {F':Fz} {D:Dc} {o:List DLn} {q:List Cel} {W:Int} {B:List UInt8} {an bn:Bool} {ab ac bb bc:Nat} (hD:D = ⟨o,q,W,B⟩) (hA:Sl F' 148 2 encN (.slice an 0 ab 0 2 o.length ac) o)
  (hB:Sl F' 151 6 encK (.slice bn 0 bb 0 6 q.length bc) q) (hc:q.length ≤ bc):∃ a b,Out.ret (SV.agg [.slice an 0 ab 0 2 o.length ac,.slice bn 0 bb 0 6 q.length bc,.int .i64 W,.str B]) = Out.ret (SV.agg (docS a b D.w D.bits)) ∧ DocAt F' a b D:=by
 subst hD; exact ⟨_,_,rfl,an,ab,0,ac,bn,bb,0,bc,rfl,rfl,hA,hB,hc⟩
theorem z4v (F:Fz) (n1 n2:Bool) (b1 o1 c1 b2 o2 c2:Nat) (l:List Stp) (x:List Q3) (r0 r1:Int) (hl1:n1 = true → l = []) (hx1:n2 = true → x = []) (hl:RawAt F b1 o1 (ints2 l)) (hx:RawAt F b2 o2 (ints3 x))
  (hli:∀ y ∈ l,i64 y.1 ∧ i64 y.2) (hxi:∀ y ∈ x,i64 y.1 ∧ i64 y.2.1 ∧ i64 y.2.2) (hr:i64 r0 ∧ i64 r1) (hll:l.length < 9223372036854775808) (hxl:x.length < 9223372036854775808) :
  Fo Tryz.prog F 49 [.va (.slice n1 0 b1 o1 1 l.length c1),.va (.slice n2 0 b2 o2 1 x.length c2),.agg [.int .i64 r0,.int .i64 r1]] (fun o F'=>∃ a b,o = .ret (.agg (docS a b (madeD l x r0 r1).w (madeD l x r0 r1).bits)) ∧ DocAt F' a b (madeD l x r0 r1)):=by
 have hro:=hl.pair
 obtain ⟨BL,hro⟩:=hro
 have hrx:=hx.triple
 obtain ⟨BX,hrx⟩:=hrx
 have hw6:=zch r0 6 (by decide) hr.1
 have hh4:=zch (r0.tdiv 6) 4 (by decide) (zr0 hr.1)
 have hn20:=zch r1 1048576 (by decide) hr.2
 have hpw:=fun F=>zc1 r0 6 hr.1 (by decide) F
 have hph:=fun F=>zc1 (r0.tdiv 6) 4 (zr0 hr.1) (by decide) F
 have hpn:=fun F=>zc1 r1 1048576 hr.2 (by decide) F
 have h6w:r0.tdiv 6 = IntKind.i64.wrap (r0.tdiv 6):=by
  have:=zr0 hr.1
  unfold i64 at this
  exact (zal (by omega) (by omega)).symm
 obtain ⟨W,hW⟩:∃ W:Nat,pickI r0 6 = (W:Int):=⟨(pickI r0 6).toNat,by omega⟩
 obtain ⟨H,hH9⟩:∃ H:Nat,pickI (r0.tdiv 6) 4 = (H:Int):=⟨(pickI (r0.tdiv 6) 4).toNat,by omega⟩
 obtain ⟨N,hN⟩:∃ N:Nat,pickI r1 1048576 = (N:Int):=⟨(pickI r1 1048576).toNat,by omega⟩
 rw [hW] at hw6
 rw [hH9] at hh4
 rw [hN] at hn20
 simp only [hW] at hpw
 simp only [hH9] at hph
 simp only [hN] at hpn
 have hWH:((W:Int) * (1 + (H:Int))).toNat = W * (1 + H):=by
  have:(W:Int) * (1 + (H:Int)) = ((W * (1 + H):Nat):Int):=by simp
  rw [this,ql]
 have hT20:W * (1 + H) ≤ 20:=qaw (show W ≤ 5 by omega) (show 1 + H ≤ 4 by omega)
 have hTw:IntKind.i64.wrap ((W:Int) * IntKind.i64.wrap (1 + (H:Int))) = ((W * (1 + H):Nat):Int):=by
  have:(W:Int) * (1 + (H:Int)) = ((W * (1 + H):Nat):Int):=by simp
  rw [zal (n:=1 + (H:Int)) (by omega) (by omega),this,zal (by omega) (by omega)]
 obtain ⟨D,hD⟩:∃ D,madeD l x r0 r1 = D:=⟨_,rfl⟩
 rw [hD]
 refine fo_of hΘ Tryz.func49 rfl (by decide) _ _ rfl rfl rfl ?_;conv=>whnf
 refine zan hΘ (X:={ y:Nat × List DLn × Nat // y.1 ≤ l.length ∧ y.1 ≤ 6 ∧ y.2.1 = (l.take y.1).map mkLn }) (fun y=>[(8,.va (.int .i64 y.1.1))]) [9,10,17,18,19,20,21,22,23,24,25,26,27,28,29,30,31,32,33,34,35,36,37,38,39,40,41,42,43,44,45,46,47,48,49,50,51,52,53,54,55,56]
  (fun y=>[(0,.frz F),(3,.one (.cells 41 [gA 2 4 y.1.2.2 y.1.2.1,.nilsl,.int .i64 0,.str []])),(4,gE 148 2 encN y.1.2.2 y.1.2.1)]) 5 (fun y=>6 - y.1.1) ⟨(0,[],0),by simp,by omega,rfl⟩
  (fun hH hT=>leI [(4,4)] hH hT rfl ⟨tv,(by
   intro a ha
   simp only [qj,qq,or_false] at ha
   rcases ha with rfl | rfl | rfl | rfl
   ·exact zeg (by omega) _ _ _
   ·trivial
   ·trivial
   ·trivial),zai zck _ _ _ _ _,tv⟩ ⟨rfl,tv⟩ ⟨Fz.r F,rfl,rfl,tv⟩) ?_
 rintro ⟨⟨k,o,c⟩,hk,hk6,ho⟩ hH hT
 replace hk:k ≤ l.length:=hk
 replace hk6:k ≤ 6:=hk6
 replace ho:o = (l.take k).map mkLn:=ho
 by_cases g:k < l.length ∧ k < 6
 ·have gl:=g.1
  have gi:(k:Int) < (l.length:Int):=by omega
  have g6:(k:Int) < 6:=by omega
  have hq:=hro k gl
  have hB:=hq.1
  have hv:=hli (l[k]'gl) (jj gl)
  have hpk:=fun F=>zc1 (l[k]'gl).1 1000000 hv.1 (by decide) F
  have hpm:=fun F=>zc1 (l[k]'gl).2 8 hv.2 (by decide) F
  have hpb:(0 ≤ pickI (l[k]'gl).1 1000000 ∧ pickI (l[k]'gl).1 1000000 ≤ 1000000) ∧ pickI (l[k]'gl).1 1000000 < 6 ^ 8:=by
   have h:=zch (l[k]'gl).1 1000000 (by decide) hv.1
   exact ⟨⟨h.1,Int.le_of_lt h.2⟩,Int.lt_trans h.2 (by decide)⟩
  have hnf:n1 = false:=Sl.lt hl1 gl
  have hk0:(o1 + (k:Int).toNat * 2) * 1 + (0 + (0:Int).toNat * 1) = o1 + k * 2:=by rw [ql]; omega
  have hk1:(o1 + (k:Int).toNat * 2) * 1 + (0 + (1:Int).toNat * 1) = o1 + k * 2 + 1:=by rw [ql]; omega
  have hdec:6 - (k + 1) < 6 - k:=by have:=g.2; omega
  have hk62:k < 4611686018427387904:=by omega
  have hol:o.length = k:=by rw [ho,qb,qn]; omega
  have hnx:o ++ [mkLn (l[k]'gl)] = (l.take (k + 1)).map mkLn:=by rw [qi gl,q5,← ho]; rfl
  clear ho
  rcases o with _ | ⟨d0,dr⟩
  all_goals
   conv=>whnf
   refine ⟨fun _=>?_,fun h=>absurd gi (oe h)⟩;conv=>whnf
   refine bri g6 ?_;conv=>whnf
   refine ⟨hnf,⟨by omega,gi⟩,?_⟩;conv=>whnf
   refine ⟨⟨by decide,by decide⟩,?_⟩;conv=>whnf
   refine ⟨_,hB,?_⟩
   refine hq.2.1.rd1 hk0 ?_;conv=>whnf
   refine usePu (hpk F) rfl ⟨rfl,rfl,tv⟩ rfl ?_;conv=>whnf
   refine zan hΘ (X:={ y:Int × List UInt8 × Nat // (0 ≤ y.1 ∧ y.1 ≤ 1000000) ∧ y.1 < 6 ^ y.2.2 ∧ y.2.1.length + y.2.2 ≤ 8 ∧ mkT y.2.2 y.1 y.2.1 = mkT 8 (pickI (l[k]'gl).1 1000000) [] }) (fun y=>[(9,.va (.int .i64 y.1.1)),(10,.va (.str y.1.2.1))]) [33,34,35,36,37,38,39,40,41,42,43]
    (fz fun _=>F) 5 (fun y=>y.1.2.2) ⟨(pickI (l[k]'gl).1 1000000,[],8),hpb.1,hpb.2,by simp,rfl⟩
    (fun hH hT=>leI [] hH hT rfl ⟨tv,tv⟩ ⟨rfl,rfl,tv⟩ ⟨Fz.r F,tv⟩) ?_
   rintro ⟨⟨n,s,f⟩,hn0,hnf6,hsl,hmk⟩ hH2 hT2
   have hnn:0 ≤ n:=hn0.1
   have hn1:n ≤ 1000000:=hn0.2
   replace hnf6:n < 6 ^ f:=hnf6
   replace hsl:s.length + f ≤ 8:=hsl
   replace hmk:mkT f n s = mkT 8 (pickI (l[k]'gl).1 1000000) []:=hmk
   by_cases hn:0 < n
   ·rcases f with _ | f
    ·exact absurd hnf6 (by show ¬ n < 1; omega)
    have hpw:(6:Int) ^ (f + 1) = 6 ^ f * 6:=Int.pow_succ 6 f
    have hnq:0 ≤ n.tdiv 6 ∧ n.tdiv 6 < 6 ^ f:=by
     rw [q8 hnn]
     rw [hpw] at hnf6
     omega
    have hmk':mkT f (n.tdiv 6) (s ++ [chB[(n.tmod 6).toNat]?.getD 97]) = mkT 8 (pickI (l[k]'gl).1 1000000) []:=by
     rw [← hmk,mkT,if_pos hn]
    have hsl':(s ++ [chB[(n.tmod 6).toNat]?.getD 97]).length + f ≤ 8:=by rw [qa]; simp only [qe,qp]; omega
    have htd:0 ≤ n.tdiv 6 ∧ n.tdiv 6 ≤ 1000000:=by rw [q8 hnn]; omega
    have hwn:IntKind.i64.wrap (n.tdiv 6) = n.tdiv 6:=zal (by omega) (by omega)
    have e1:n.tmod 6 = n % 6:=yu hnn
    have e2:n.tdiv 6 = n / 6:=q8 hnn
    have ht0:0 ≤ n.tmod 6:=by rw [e1]; omega
    have hch:chB[(n.tmod 6).toNat]? = some (chB[(n.tmod 6).toNat]?.getD 97):=by
     rw [qc (show (n.tmod 6).toNat < chB.length by show _ < 6; rw [e1]; omega)]; rfl
    conv=>whnf
    refine bri hn ?_;conv=>whnf
    refine ⟨by decide,?_⟩;conv=>whnf
    refine ⟨ht0,_,hch,?_⟩;conv=>whnf
    refine ⟨nb rfl,[[.int .u8 ((chB[(n.tmod 6).toNat]?.getD 97).toNat:Int)]],rfl,[chB[(n.tmod 6).toNat]?.getD 97],rfl,?_⟩;conv=>whnf
    refine ⟨by show s.length + 1 ≤ 9223372036854775807; omega,?_⟩;conv=>whnf
    refine ⟨by decide,?_⟩;conv=>whnf
    exact ⟨⟨(n.tdiv 6,s ++ [chB[(n.tmod 6).toNat]?.getD 97],f),htd,hnq.2,hsl',hmk'⟩,qbt f,leR [] hH2 hT2 rfl ⟨tv,tv⟩ ⟨eu hwn.symm,rfl,tv⟩ ⟨Fz.r F,tv⟩⟩
   ·have hfin:s = mkT 8 (pickI (l[k]'gl).1 1000000) []:=by
     rw [← hmk]
     cases f with
     |zero=>rfl
     |succ f=>rw [mkT,if_neg hn]
    have hXe:encN (s,pickI (l[k]'gl).2 8) = encN (mkLn (l[k]'gl)):=by rw [mkLn,← hfin]
    conv=>whnf
    refine brj hn ?_;conv=>whnf
    refine drawP hΘ mixed (lk [0,1,2,3,4,5,6,7] (.alt 8 (.alt 9 (.alt 10 (.alt 11 (.look 12 (.last 13 .done)) .nil) .nil) .nil) .nil)) [3] (by kernel_rfl) ?_;conv=>whnf
    refine ⟨rfl,?_⟩;conv=>whnf
    refine ⟨hnf,⟨by omega,gi⟩,?_⟩;conv=>whnf
    refine ⟨⟨by decide,by decide⟩,?_⟩;conv=>whnf
    refine ⟨rfl,?_⟩;conv=>whnf
    refine ⟨_,hB,?_⟩
    refine hq.2.2.rd1 hk1 ?_;conv=>whnf
    refine usePu (hpm F) rfl ⟨rfl,rfl,tv⟩ rfl ?_;conv=>whnf
    refine ⟨Fz.r F,rfl,?_⟩;conv=>whnf
    refine ⟨Fz.r F,rfl,?_⟩;conv=>whnf
    refine ⟨Fz.r F,rfl,?_⟩;conv=>whnf
    refine ⟨nb rfl,[encN (s,pickI (l[k]'gl).2 8)],rfl,?_⟩;conv=>whnf
    first
     |refine ⟨rfl,rfl,?_⟩
      conv=>whnf
      refine ⟨by show 1 * 24 ≤ 140737488355328; omega,fun c' hc'=>?_⟩
     |refine ⟨rfl,rfl,by simp,rfl,(by have h9:dr.length + 1 = k:=hol; show (dr.length + 1 + 1) * 24 ≤ 140737488355328; omega),fun c' hc'=>?_⟩
    clear hc';conv=>whnf
    refine ⟨Fz.r F,rfl,?_⟩;conv=>whnf
    first
     |exact ⟨⟨(k + 1,[] ++ [mkLn (l[k]'gl)],c'),gl,g.2,hnx⟩,hdec,leRn [_,_,_] [_,_] [(4,6)] hH hT rfl ⟨tv,zkz (by omega),zai zck _ _ _ _ _,tv⟩ ⟨cnt hk62,tv⟩ ⟨Fz.r F,zrm (μ:=sig [(4,6)]) rfl rfl,zav zck (zcg _ (by rw [hXe]; simp)),tv⟩⟩
     |exact ⟨⟨(k + 1,(d0 :: dr) ++ [mkLn (l[k]'gl)],c'),gl,g.2,hnx⟩,hdec,leRn [_,_,_] [_,_] [(4,6)] hH hT rfl ⟨tv,zkz (by omega),zai zck _ _ _ _ _,tv⟩ ⟨cnt hk62,tv⟩ ⟨Fz.r F,zrm (μ:=sig [(4,6)]) rfl rfl,zav zck (zcg _ (by rw [hXe]; simp)),tv⟩⟩
 ·have gt:l.take k = l.take 6:=by
   rcases qc6 k 6 with h | h
   ·have hkl:k = l.length:=by omega
    rw [hkl,yr,qm (by omega)]
   ·have h6:k = 6:=by omega
    rw [h6]
  rw [gt] at ho
  have g6:(k:Int) < (l.length:Int) → ¬ (k:Int) < 6:=by omega
  clear gt;conv=>whnf
  refine ⟨fun gi=>?_,fun gi=>?_⟩
  case' refine_1=>
   conv=>whnf
   refine br (fun h=>absurd (od h) (g6 (od gi))) (fun _=>?_)
  all_goals
   conv=>whnf
   refine zan hΘ (X:={ y:Int × Nat × List Cel × Nat // y.2.1 ≤ x.length ∧ (0 ≤ y.1 ∧ y.1 ≤ 27 ∧ (y.2.2.1.length:Int) ≤ y.1 ∧ y.2.2.1.length ≤ y.2.2.2) ∧ mkC (x.drop y.2.1) y.1 y.2.2.1 = mkC x 0 [] }) (fun y=>[(11,.va (.int .i64 y.1.1)),(12,.va (.int .i64 y.1.2.1))]) [13,57,58,59,60,61,62,63,64,65,66,67,68,69,70,71,72,73,74,75,76,77,78,79,80,81,82,83,84,85,86,87,88,89,90,91,92,93,94,95,96,97,98,99,100,101,102,103,104,105,106,107,108,109,110,111,112,113,114,115,116,117,118,119,120,121,122,123]
    (fun y=>[(0,.frz F),(3,dcE c y.1.2.2.2 o y.1.2.2.1 0 []),(4,gE 148 2 encN c o),(5,gE 151 6 encK y.1.2.2.2 y.1.2.2.1)]) 6 (fun y=>x.length - y.1.2.1) ⟨(0,0,[],0),by simp,⟨by omega,by omega,by simp,by simp⟩,rfl⟩
    (fun hH hT=>leI [(5,5)] hH hT rfl ⟨tv,zfz (by omega),zai zck _ _ _ _ _,zai zat _ _ _ _ _,tv⟩ ⟨rfl,rfl,tv⟩ ⟨Fz.r F,zsr (zgv (μ:=sig [(5,5)]) (i:=4) (j:=4) rfl o) rfl,zav zck (zax _ _ _ _),rfl,tv⟩) ?_
   rintro ⟨⟨kc,i,q,cc⟩,hi,hkc,hmk⟩ hH3 hT3
   have hk0:0 ≤ kc:=hkc.1
   have hk27:kc ≤ 27:=hkc.2.1
   have hqk:(q.length:Int) ≤ kc:=hkc.2.2.1
   have hqc:q.length ≤ cc:=hkc.2.2.2
   replace hi:i ≤ x.length:=hi
   replace hmk:mkC (x.drop i) kc q = mkC x 0 []:=hmk
   by_cases g2:i < x.length ∧ kc < 25
   ·have gl2:=g2.1
    have gi2:(i:Int) < (x.length:Int):=by omega
    have g25:=g2.2
    have hq:=hrx i gl2
    have hB:=hq.1
    have hv:=hxi (x[i]'gl2) (jj gl2)
    have hp0:=fun F=>zc1 (x[i]'gl2).1 3 hv.1 (by decide) F
    have hp3:=fun F=>zc1 ((x[i]'gl2).1.tdiv 3) 3 (zr8 hv.1) (by decide) F
    have hp1:=fun F=>zc1 (x[i]'gl2).2.1 201 hv.2.1 (by decide) F
    have e1:kc.tdiv 5 = kc / 5:=q8 hk0
    have e2:kc.tmod 5 = kc % 5:=yu hk0
    have hpt:=fun F=>zc1 (x[i]'gl2).2.1 (kc.tdiv 5 + 1) hv.2.1 (by rw [e1]; omega) F
    have hpl:=fun F=>zc1 (x[i]'gl2).2.2 (kc.tmod 5 + 1) hv.2.2 (by rw [e2]; omega) F
    have hnf:n2 = false:=Sl.lt hx1 gl2
    have hj0:(o2 + (i:Int).toNat * 3) * 1 + (0 + (0:Int).toNat * 1) = o2 + i * 3:=by rw [ql]; omega
    have hj1:(o2 + (i:Int).toNat * 3) * 1 + (0 + (1:Int).toNat * 1) = o2 + i * 3 + 1:=by rw [ql]; omega
    have hj2:(o2 + (i:Int).toNat * 3) * 1 + (0 + (2:Int).toNat * 1) = o2 + i * 3 + 2:=by rw [ql]; omega
    have hdec:x.length - (i + 1) < x.length - i:=by omega
    have h3r:=zch ((x[i]'gl2).1.tdiv 3) 3 (by decide) (zr8 hv.1)
    have hmk':mkC (x.drop (i + 1)) (kc + 1 + pickI ((x[i]'gl2).1.tdiv 3) 3) (q ++ [cellOf kc (x[i]'gl2)]) = mkC x 0 []:=by
     rw [← hmk,qv gl2,mkC,if_pos g25]
    have hwt:IntKind.i64.wrap (kc.tdiv 5) = kc.tdiv 5:=zal (by omega) (by omega)
    have hwt1:kc.tdiv 5 + 1 = IntKind.i64.wrap (IntKind.i64.wrap (kc.tdiv 5) + 1):=by rw [hwt]; exact (zal (by omega) (by omega)).symm
    have hwl1:kc.tmod 5 + 1 = IntKind.i64.wrap (kc.tmod 5 + 1):=(zal (by omega) (by omega)).symm
    have hXs:pickI (x[i]'gl2).1 3 = 0 → ∀ ρ,(encK (cellOf kc (x[i]'gl2))).map (SA.den ρ) = [SA.int .i64 (IntKind.i64.wrap (kc.tdiv 5)),.int .i64 (kc.tmod 5),.lit true,.int .i64 0,.int .i64 (pickI (x[i]'gl2).2.1 (kc.tdiv 5 + 1)),.int .i64 (pickI (x[i]'gl2).2.2 (kc.tmod 5 + 1))].map (SA.den ρ):=fun h ρ=>by
     rw [cellOf,if_pos h,hwt]; rfl
    have hp201:=zch (x[i]'gl2).2.1 201 (by decide) hv.2.1
    have hXv:¬ pickI (x[i]'gl2).1 3 = 0 → ∀ ρ,(encK (cellOf kc (x[i]'gl2))).map (SA.den ρ) = [SA.int .i64 (IntKind.i64.wrap (kc.tdiv 5)),.int .i64 (kc.tmod 5),.lit false,.int .i64 (IntKind.i64.wrap (pickI (x[i]'gl2).2.1 201 - 100)),.int .i64 0,.int .i64 0].map (SA.den ρ):=fun h ρ=>by
     rw [cellOf,if_neg h,hwt,zal (by omega) (by omega)]; rfl
    have h3w:(x[i]'gl2).1.tdiv 3 = IntKind.i64.wrap ((x[i]'gl2).1.tdiv 3):=by
     have:=zr8 hv.1
     unfold i64 at this
     exact (zal (by omega) (by omega)).symm
    have hkw:kc + 1 + pickI ((x[i]'gl2).1.tdiv 3) 3 = IntKind.i64.wrap (IntKind.i64.wrap (kc + 1) + pickI ((x[i]'gl2).1.tdiv 3) 3):=by rw [zal (n:=kc + 1) (by omega) (by omega),zal (by omega) (by omega)]
    have hiw:((i + 1:Nat):Int) = IntKind.i64.wrap ((i:Int) + 1):=by rw [zal (by omega) (by omega)]; rfl
    have hknext:∀ c',q.length + 1 ≤ c' → 0 ≤ kc + 1 + pickI ((x[i]'gl2).1.tdiv 3) 3 ∧ kc + 1 + pickI ((x[i]'gl2).1.tdiv 3) 3 ≤ 27 ∧ ((q ++ [cellOf kc (x[i]'gl2)]).length:Int) ≤ kc + 1 + pickI ((x[i]'gl2).1.tdiv 3) 3 ∧ (q ++ [cellOf kc (x[i]'gl2)]).length ≤ c':=fun c' h=>by
     rw [qa]
     refine ⟨by omega,by omega,?_,h⟩
     show ((q.length + 1:Nat):Int) ≤ _; omega
    clear hmk
    rcases q with _ | ⟨d0,dr⟩
    all_goals
     conv=>whnf
     refine ⟨fun _=>?_,fun h=>absurd gi2 (oe h)⟩;conv=>whnf
     refine bri g25 ?_;conv=>whnf
     refine ⟨by decide,?_⟩;conv=>whnf
     refine ⟨by decide,?_⟩;conv=>whnf
     refine ⟨hnf,⟨by omega,gi2⟩,?_⟩;conv=>whnf
     refine ⟨⟨by decide,by decide⟩,?_⟩;conv=>whnf
     refine ⟨_,hB,?_⟩
     refine hq.2.1.rd1 hj0 ?_;conv=>whnf
     refine usePu (hp0 F) rfl ⟨rfl,rfl,tv⟩ rfl ?_;conv=>whnf
     refine br (fun h3=>?_) (fun h3=>?_)
     case' refine_1=>
      conv=>whnf
      refine drawP hΘ mixed (lk [0,1,2,3,4,5,6,7] (.alt 8 (.look 9 (.last 10 .done)) .nil)) [6] (by kernel_rfl) ?_;conv=>whnf
      refine ⟨hnf,⟨by omega,gi2⟩,?_⟩;conv=>whnf
      refine ⟨⟨by decide,by decide⟩,?_⟩;conv=>whnf
      refine ⟨rfl,?_⟩;conv=>whnf
      refine ⟨_,hB,?_⟩
      refine hq.2.2.1.rd1 hj1 ?_;conv=>whnf
      refine ⟨rfl,?_⟩;conv=>whnf
      refine usePu (hpt F) rfl ⟨rfl,eu hwt1,tv⟩ rfl ?_;conv=>whnf
      repeat
       refine ⟨Fz.r F,rfl,?_⟩;conv=>whnf
      refine drawP hΘ mixed (lk [0,1,2,3,4,5,6,7] (.alt 8 (.look 9 (.last 10 .done)) .nil)) [6] (by kernel_rfl) ?_;conv=>whnf
      refine ⟨hnf,⟨by omega,gi2⟩,?_⟩;conv=>whnf
      refine ⟨⟨by decide,by decide⟩,?_⟩;conv=>whnf
      refine ⟨rfl,?_⟩;conv=>whnf
      refine ⟨_,hB,?_⟩
      refine hq.2.2.2.rd1 hj2 ?_;conv=>whnf
      refine ⟨rfl,?_⟩;conv=>whnf
      refine usePu (hpl F) rfl ⟨rfl,eu hwl1,tv⟩ rfl ?_;conv=>whnf
      repeat
       refine ⟨Fz.r F,rfl,?_⟩;conv=>whnf
     case' refine_2=>
      conv=>whnf
      refine ⟨hnf,⟨by omega,gi2⟩,?_⟩;conv=>whnf
      refine ⟨⟨by decide,by decide⟩,?_⟩;conv=>whnf
      refine ⟨_,hB,?_⟩
      refine hq.2.2.1.rd1 hj1 ?_;conv=>whnf
      refine usePu (hp1 F) rfl ⟨rfl,rfl,tv⟩ rfl ?_;conv=>whnf
     case' refine_1=>
      have hXx:=hXs (od h3)
      refine ⟨nb rfl,[[SA.int .i64 (IntKind.i64.wrap (kc.tdiv 5)),.int .i64 (kc.tmod 5),.lit true,.int .i64 0,.int .i64 (pickI (x[i]'gl2).2.1 (kc.tdiv 5 + 1)),.int .i64 (pickI (x[i]'gl2).2.2 (kc.tmod 5 + 1))]],rfl,?_⟩
     case' refine_2=>
      have hXx:=hXv (oe h3)
      refine ⟨nb rfl,[[SA.int .i64 (IntKind.i64.wrap (kc.tdiv 5)),.int .i64 (kc.tmod 5),.lit false,.int .i64 (IntKind.i64.wrap (pickI (x[i]'gl2).2.1 201 - 100)),.int .i64 0,.int .i64 0]],rfl,?_⟩
     all_goals
      conv=>whnf
      first
       |refine ⟨rfl,rfl,?_⟩
        conv=>whnf
        refine ⟨nb rfl,fun c' hc'=>?_⟩
       |refine ⟨rfl,rfl,by simp,rfl,(by have h9:((dr.length + 1:Nat):Int) ≤ kc:=hqk; show (dr.length + 1 + 1) * 48 ≤ 140737488355328; omega),fun c' hc'=>?_⟩
      conv=>whnf
      refine ⟨hnf,⟨by omega,gi2⟩,?_⟩;conv=>whnf
      refine ⟨⟨by decide,by decide⟩,?_⟩;conv=>whnf
      refine ⟨_,hB,?_⟩
      refine hq.2.1.rd1 hj0 ?_;conv=>whnf
      refine ⟨by decide,?_⟩;conv=>whnf
      first
       |refine swapC 8 (.arr 151 6 (((d0 :: dr) ++ [cellOf kc (x[i]'gl2)]).map encK) c') rfl (swK (q:=d0 :: dr) rfl rfl hXx) (zbk zat _ _ _ _ _) ?_
       |refine swapC 8 (.arr 151 6 (([] ++ [cellOf kc (x[i]'gl2)]).map encK) c') rfl (swK (q:=[]) rfl rfl hXx) (zbk zat _ _ _ _ _) ?_
      refine usePu (hp3 F) rfl ⟨eu h3w,rfl,tv⟩ rfl ?_;conv=>whnf
      first
       |exact ⟨⟨(kc + 1 + pickI ((x[i]'gl2).1.tdiv 3) 3,i + 1,(d0 :: dr) ++ [cellOf kc (x[i]'gl2)],c'),gl2,hknext c' hc',hmk'⟩,hdec,leR [(5,8)] hH3 hT3 rfl ⟨tv,zfz (by omega),zai zck _ _ _ _ _,zai zat _ _ _ _ _,tv⟩ ⟨eu hkw,eu hiw,tv⟩ ⟨Fz.r F,zsr (zgv (μ:=sig [(5,8)]) (i:=4) (j:=4) rfl o) (zv1 (μ:=sig [(5,8)]) rfl rfl),zav zck (zax _ _ _ _),zav zat (zcg (l:=(d0 :: dr) ++ [cellOf kc (x[i]'gl2)]) _ rfl),tv⟩⟩
       |exact ⟨⟨(kc + 1 + pickI ((x[i]'gl2).1.tdiv 3) 3,i + 1,[] ++ [cellOf kc (x[i]'gl2)],c'),gl2,hknext c' hc',hmk'⟩,hdec,leR [(5,8)] hH3 hT3 rfl ⟨tv,zfz (by omega),zai zck _ _ _ _ _,zai zat _ _ _ _ _,tv⟩ ⟨eu hkw,eu hiw,tv⟩ ⟨Fz.r F,zsr (zgv (μ:=sig [(5,8)]) (i:=4) (j:=4) rfl o) (zv1 (μ:=sig [(5,8)]) rfl rfl),zav zck (zax _ _ _ _),zav zat (zcg (l:=[] ++ [cellOf kc (x[i]'gl2)]) _ rfl),tv⟩⟩
   ·have hqe:q = mkC x 0 []:=by
     rw [← hmk]
     rcases qc6 i x.length with h | h
     ·rw [qv h,mkC,if_neg (by omega)]
     ·rw [qaz h]; rfl
    clear hmk
    have g25:(i:Int) < (x.length:Int) → ¬ kc < 25:=by omega
    have hDe:D = ⟨o,q,(W:Int),mkB (W * (1 + H)) N⟩:=by rw [← hD,madeD,← ho,← hqe,hW,hH9,hN,ql,hWH]
    conv=>whnf
    refine ⟨fun gi=>?_,fun gi=>?_⟩
    case' refine_1=>
     conv=>whnf
     refine br (fun h=>absurd (od h) (g25 (od gi))) (fun _=>?_)
    all_goals
     conv=>whnf
     refine ⟨⟨by decide,by decide⟩,?_⟩;conv=>whnf
     refine usePu (hpw F) rfl ⟨rfl,rfl,tv⟩ rfl ?_;conv=>whnf
     refine ⟨⟨by decide,by decide⟩,?_⟩;conv=>whnf
     refine usePu (hpn F) rfl ⟨rfl,rfl,tv⟩ rfl ?_;conv=>whnf
     refine zan hΘ (X:={ j:Nat // j ≤ W * (1 + H) }) (fun y=>[(15,.va (.int .i64 y.1))]) [131,132,133,134,135,136,137,138,139,140,141,142,143,144,145,146,147,148,149,150,151,152,153,154]
      (fun y=>[(0,.frz F),(3,dcE c cc o q W (mkB y.1 N))]) 6 (fun y=>W * (1 + H) - y.1) ⟨0,yq _⟩
      (fun hH hT=>leI [] hH hT rfl ⟨tv,zfz (by omega),tv⟩ ⟨rfl,tv⟩ ⟨Fz.r F,zsr (zgv (μ:=sig []) (i:=4) (j:=4) rfl o) (zgv (μ:=sig []) (i:=5) (j:=5) rfl q),tv⟩) ?_
     rintro ⟨j,hj⟩ hH4 hT4
     by_cases g4:j < W * (1 + H)
     ·have gi4:(j:Int) < IntKind.i64.wrap ((W:Int) * IntKind.i64.wrap (1 + (H:Int))):=by rw [hTw]; omega
      have hdec:W * (1 + H) - (j + 1) < W * (1 + H) - j:=by omega
      have hk62:j < 4611686018427387904:=by omega
      have hbv:[[SA.int .u8 (IntKind.u8.wrap (IntKind.i64.wrap (48 + (shrI IntKind.i64 (N:Int) (j:Int)).tmod 2)))]] = [UInt8.ofNat (48 + N / 2 ^ j % 2)].map encB:=by rw [bitN N j (by omega)]; rfl
      conv=>whnf
      refine drawP hΘ mixed (lk [0,1,2,3,4,5] (.alt 6 (.alt 7 (.look 8 (.look 9 .done)) .nil) .nil)) [1,3] (by kernel_rfl) ?_;conv=>whnf
      refine ⟨rfl,?_⟩;conv=>whnf
      refine ⟨⟨by decide,by decide⟩,?_⟩;conv=>whnf
      refine ⟨rfl,?_⟩;conv=>whnf
      refine ⟨by decide,?_⟩;conv=>whnf
      refine usePu (hph F) rfl ⟨eu h6w,rfl,tv⟩ rfl ?_;conv=>whnf
      repeat
       refine ⟨Fz.r F,rfl,rfl,?_⟩;conv=>whnf
      refine bri gi4 ?_;conv=>whnf
      refine drawP hΘ mixed (lk [0,1,2,3,4,5] (.alt 6 (.alt 7 (.alt 8 (.alt 9 (.look 10 (.look 11 (.last 12 .done))) .nil) .nil) .nil) .nil)) [3] (by kernel_rfl) ?_;conv=>whnf
      refine ⟨rfl,?_⟩;conv=>whnf
      refine ⟨qcb j,?_⟩;conv=>whnf
      refine ⟨by decide,?_⟩;conv=>whnf
      repeat
       refine ⟨Fz.r F,rfl,?_⟩;conv=>whnf
      refine ⟨nb rfl,[[.int .u8 (IntKind.u8.wrap (IntKind.i64.wrap (48 + (shrI IntKind.i64 (N:Int) (j:Int)).tmod 2)))]],rfl,[UInt8.ofNat (48 + N / 2 ^ j % 2)],hbv,?_⟩;conv=>whnf
      refine ⟨Fz.r F,rfl,?_⟩;conv=>whnf
      refine ⟨by rw [zpl]; show j + 1 ≤ 9223372036854775807; omega,?_⟩;conv=>whnf
      exact ⟨⟨j + 1,g4⟩,hdec,leR [] hH4 hT4 rfl ⟨tv,zfz (by omega),tv⟩ ⟨cnt hk62,tv⟩ ⟨Fz.r F,z7u (z0f j N).symm (zgv (μ:=sig []) (i:=4) (j:=4) rfl o) (zgv (μ:=sig []) (i:=5) (j:=5) rfl q),tv⟩⟩
     ·have gi4:¬ (j:Int) < IntKind.i64.wrap ((W:Int) * IntKind.i64.wrap (1 + (H:Int))):=by rw [hTw]; omega
      have hj9:j = W * (1 + H):=by omega
      rw [← hj9] at hDe
      rcases o with _ | ⟨o0,or'⟩
      all_goals rcases q with _ | ⟨q0,qr⟩
      all_goals
       conv=>whnf
       refine drawP hΘ mixed (lk [0,1,2,3,4,5] (.alt 6 (.alt 7 (.look 8 (.look 9 .done)) .nil) .nil)) [1,3] (by kernel_rfl) ?_;conv=>whnf
       refine ⟨rfl,?_⟩;conv=>whnf
       refine ⟨⟨by decide,by decide⟩,?_⟩;conv=>whnf
       refine ⟨rfl,?_⟩;conv=>whnf
       refine ⟨by decide,?_⟩;conv=>whnf
       refine usePu (hph F) rfl ⟨eu h6w,rfl,tv⟩ rfl ?_;conv=>whnf
       repeat
        refine ⟨Fz.r F,rfl,rfl,?_⟩;conv=>whnf
       refine brj gi4 ?_;conv=>whnf
      ·refine zmg (out':=.ret (.agg [.slice true 0 0 0 2 0 0,.slice true 0 0 0 6 0 0,.int .i64 (W:Int),.str (mkB j N)])) (fun _ _ h=>h) (Out.bB_ok rfl) ?_
       exact endFo (.ret (.agg [.slice true 0 0 0 2 0 0,.slice true 0 0 0 6 0 0,.int .i64 (W:Int),.str (mkB j N)])) F rfl (Fz.r F) (Fz.r F) (zl4 hDe Sl.nil Sl.nil (qf 0)) rfl rfl
      ·refine zmg (out':=.ret (.agg [.slice true 0 0 0 2 0 0,.slice false 5 0 0 6 (qr.length + 1) cc,.int .i64 (W:Int),.str (mkB j N)])) (fun _ _ h=>h) (Out.bB_ok rfl) ?_
       refine zbl 5 (fun _=>.arr 151 6 ((q0 :: qr).map encK) cc) rfl rfl rfl (fun _ _=>by exact zcu zat rfl _ _ _ _) (fun _ _=>zbk zat _ _ _ _ _) ?_
       intro z F1 u1 hz
       exact endFo (.ret (.agg [.slice true 0 0 0 2 0 0,.slice false 0 (z 0) 0 6 (qr.length + 1) cc,.int .i64 (W:Int),.str (mkB j N)])) F1 rfl u1 (Fz.r F1) (zl4 hDe Sl.nil (Sl.new (l:=q0 :: qr) (hz 0 ⟨rfl,rfl⟩)) hqc) rfl rfl
      ·refine zmg (out':=.ret (.agg [.slice false 4 0 0 2 (or'.length + 1) c,.slice true 0 0 0 6 0 0,.int .i64 (W:Int),.str (mkB j N)])) (fun _ _ h=>h) (Out.bB_ok rfl) ?_
       refine zbl 4 (fun _=>.arr 148 2 ((o0 :: or').map encN) c) rfl rfl rfl (fun _ _=>by exact zcu zck rfl _ _ _ _) (fun _ _=>zbk zck _ _ _ _ _) ?_
       intro z F1 u1 hz
       exact endFo (.ret (.agg [.slice false 0 (z 0) 0 2 (or'.length + 1) c,.slice true 0 0 0 6 0 0,.int .i64 (W:Int),.str (mkB j N)])) F1 rfl u1 (Fz.r F1) (zl4 hDe (Sl.new (l:=o0 :: or') (hz 0 ⟨rfl,rfl⟩)) Sl.nil (qf 0)) rfl rfl
      ·refine zbl 4 (fun _=>.arr 148 2 ((o0 :: or').map encN) c) rfl rfl rfl (fun _ _=>by exact zcu zck rfl _ _ _ _) (fun _ _=>zbk zck _ _ _ _ _) ?_
       intro z F1 u1 hz
       refine zbl 5 (fun _=>.arr 151 6 ((q0 :: qr).map encK) cc) rfl rfl rfl (fun _ _=>by exact zcu zat rfl _ _ _ _) (fun _ _=>zbk zat _ _ _ _ _) ?_
       intro y F2 u2 hy
       exact endFo (.ret (.agg [.slice false 0 (z 0) 0 2 (or'.length + 1) c,.slice false 0 (y 0) 0 6 (qr.length + 1) cc,.int .i64 (W:Int),.str (mkB j N)])) F2 rfl (Fz.t u1 u2) (Fz.r F2) (zl4 hDe (Sl.new (l:=o0 :: or') (u2 _ _ (hz 0 ⟨rfl,rfl⟩))) (Sl.new (l:=q0 :: qr) (hy 0 ⟨rfl,rfl⟩)) hqc) rfl rfl
structure CaseAt (F:Fz) (n1 n2 n3:Bool) (b1 o1 b2 o2 b3 o3 l3:Nat) (L:List Stp) (X:List Q3) (r0 r1:Int) (zs:List Int):Prop where
 nl1:n1 = true → L = []
 nl2:n2 = true → X = []
 nl3:n3 = true → l3 = 0
 raw1:RawAt F b1 o1 (ints2 L)
 raw2:RawAt F b2 o2 (ints3 X)
 raw3:RawAt F b3 o3 zs
 i1:∀ y ∈ L,i64 y.1 ∧ i64 y.2
 i2:∀ y ∈ X,i64 y.1 ∧ i64 y.2.1 ∧ i64 y.2.2
 i3:∀ z ∈ zs,i64 z
 r:i64 r0 ∧ i64 r1
 s1:L.length < 9223372036854775808
 s2:X.length < 9223372036854775808
 s3:l3 < 9223372036854775808
 len:zs.length = l3 * 5
abbrev caseS (n1 n2 n3:Bool) (b1 o1 c1 b2 o2 c2 b3 o3 l3 c3:Nat) (l x:Nat) (r0 r1:Int):List SA:=[.slice n1 0 b1 o1 1 l c1,.slice n2 0 b2 o2 1 x c2,.int .i64 r0,.int .i64 r1,.slice n3 0 b3 o3 1 l3 c3]
theorem CaseAt.mono {F F':Fz} {n1 n2 n3:Bool} {b1 o1 b2 o2 b3 o3 l3:Nat} {L:List Stp} {X:List Q3} {r0 r1:Int} {zs:List Int} (h:CaseAt F n1 n2 n3 b1 o1 b2 o2 b3 o3 l3 L X r0 r1 zs) (hle:Fz.le F F'):CaseAt F' n1 n2 n3 b1 o1 b2 o2 b3 o3 l3 L X r0 r1 zs:=
 { h with raw1:=h.raw1.mono hle,raw2:=h.raw2.mono hle,raw3:=h.raw3.mono hle }
theorem CaseAt.ok {F:Fz} {n1 n2 n3:Bool} {b1 o1 b2 o2 b3 o3 l3:Nat} {L:List Stp} {X:List Q3} {r0 r1:Int} {zs:List Int} (h:CaseAt F n1 n2 n3 b1 o1 b2 o2 b3 o3 l3 L X r0 r1 zs):docOk (madeD L X r0 r1) = true ∧ DcSmall (madeD L X r0 r1):=
 zyi (fun y hy=>(h.i1 y hy).2) (fun y hy=>(h.i2 y hy).2) (fun y hy=>(h.i2 y hy).1) h.r.1
theorem zxy (F:Fz) (n1 n2 n3:Bool) (b1 o1 c1 b2 o2 c2 b3 o3 l3 c3:Nat) (L:List Stp) (X:List Q3) (r0 r1:Int) (zs:List Int) (h:CaseAt F n1 n2 n3 b1 o1 b2 o2 b3 o3 l3 L X r0 r1 zs) :
  Fo Tryz.prog F 15 [.agg (caseS n1 n2 n3 b1 o1 c1 b2 o2 c2 b3 o3 l3 c3 L.length X.length r0 r1)] (fun o F'=>∃ a b,o = .ret (.agg (docS a b (madeD L X r0 r1).w (madeD L X r0 r1).bits)) ∧ DocAt F' a b (madeD L X r0 r1)):=by
 have hm:=z4v F n1 n2 b1 o1 c1 b2 o2 c2 L X r0 r1 h.nl1 h.nl2 h.raw1 h.raw2 h.i1 h.i2 h.r h.s1 h.s2
 obtain ⟨D,hD⟩:∃ D,madeD L X r0 r1 = D:=⟨_,rfl⟩
 rw [hD] at hm ⊢
 refine fo_of hΘ Tryz.func15 rfl (by decide) _ _ rfl rfl rfl ?_;conv=>whnf
 refine useFo hm rfl (zaa _) rfl ?_
 rintro _ F1 u1 ⟨a,b,rfl,hA⟩
 have hA':=hA
 obtain ⟨an,ab,ae,ac,bn,bb,be,bc,rfl,rfl,-,-,-⟩:=hA
 conv=>whnf
 exact endFo (.ret (.agg (docS (.slice an 0 ab ae 2 D.lines.length ac) (.slice bn 0 bb be 6 D.cells.length bc) D.w D.bits))) F1 rfl u1 (Fz.r F1) ⟨_,_,rfl,hA'⟩ rfl rfl
theorem z3d (F0:Fz) (m0:MLF F0) (r0:RNDF F0) (n1 n2 n3:Bool) (b1 o1 c1 b2 o2 c2 b3 o3 l3 c3:Nat) (L:List Stp) (X:List Q3) (q0 q1:Int) (zs:List Int) (h:CaseAt F0 n1 n2 n3 b1 o1 b2 o2 b3 o3 l3 L X q0 q1 zs) (id:Int) (hid:i64 id) :
  Fo Tryz.prog F0 11 [.agg (caseS n1 n2 n3 b1 o1 c1 b2 o2 c2 b3 o3 l3 c3 L.length X.length q0 q1),.va (.int .i64 id)] (fun o F'=>o = .ret (.va (.bool true)) ∧ True):=
 zxe F0 m0 r0 n1 n2 n3 b1 o1 1 L.length c1 b2 o2 1 X.length c2 b3 o3 1 l3 c3 q0 q1 id hid (madeD L X q0 q1) h.ok.1 h.ok.2
  fun F1 u1=>zxy F1 n1 n2 n3 b1 o1 c1 b2 o2 c2 b3 o3 l3 c3 L X q0 q1 zs (h.mono u1)
end Go.Proofs.YtfnkamphhpldcaaGreatDoor
