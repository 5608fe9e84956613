import Derived.Test.YtfnkamphhpldcaaGreatDoorK35
set_option maxHeartbeats 64000000
namespace Go.Proofs.YtfnkamphhpldcaaGreatDoor
open Go Sx
set_option maxRecDepth 100000
abbrev dcE (b a:Nat) (o:List DLn) (q:List Cel) (w:Int) (s:List UInt8):Ent:=.one (.cells 41 [gA 2 4 b o,gA 6 5 a q,.int .i64 w,.str s])
theorem zgr {n d c:Nat} {o:List DLn} {q:List Cel} {w:Int} {s:List UInt8} (h:5 < n):(dcE d c o q w s).below n:=by
 intro a b;simp only [qj,qs,or_false] at b;rcases b with rfl | rfl | rfl | rfl
 ·exact zeh (by omega) _ _ _
 ·exact zeh (by omega) _ _ _
 ·trivial
 ·trivial
theorem zmm {n c:Nat} {o:List DLn} (h:4 < n):(Ent.one (.cells 41 [gA 2 4 c o,.nilsl,.int .i64 0,.str []])).below n:=by
 intro a b;simp only [qj,qs,or_false] at b;rcases b with rfl | rfl | rfl | rfl
 ·exact zeh (by omega) _ _ _
 ·trivial
 ·trivial
 ·trivial
theorem zvc {μ:Mu} {j c n:Nat} {L:List DLn} {x:DLn} (a:μ 4 0 = (j,0)) (b:n = L.length + 1):SB.cells 41 [.slice false j 0 0 2 n c,.nilsl,.int .i64 0,.str []] = SB.ren μ (.cells 41 [gA 2 4 c (L ++ [x]),.nilsl,.int .i64 0,.str []]):=by
 subst b;cases L with
 |nil=>simp only [gA,qw,SB.ren,qv,yv,SA.ren,a,qt]
 |cons y r=>simp only [gA,yh,SB.ren,qv,yv,SA.ren,a,qd,qh,qt]
theorem zgj {α:Type} {μ:Mu} {sz i j c:Nat} (h:μ i 0 = (j,0)) (l:List α):gA sz j c l = (gA sz i c l).ren μ:=by
 cases l<;>simp only [gA,SA.ren,h]
theorem znp {α:Type} {μ:Mu} {sz i j c n:Nat} {L:List α} {x:α} (h:μ i 0 = (j,0)) (a:n = L.length + 1):SA.slice false j 0 0 sz n c = (gA sz i c (L ++ [x])).ren μ:=by
 subst a;cases L<;>simp [gA,SA.ren,h]
theorem swK {t c:Nat} {a:List (List SA)} {q:List Cel} {X:List SA} {y:Cel} (d:a = q.map encK ++ [X]) (f:X.length = 6) (b:∀ ρ,(encK y).map (SA.den ρ) = X.map (SA.den ρ)) :
  ∀ ρ o,(SB.arr t 6 a c).ok ρ o → (SB.arr t 6 ((q ++ [y]).map encK) c).ok ρ o:=by
 subst d;refine zsi (by simp) ?_ ?_
 ·intro z e;obtain ⟨u,_,rfl⟩:=qz.1 e;rfl
 ·intro ρ;simp only [jj,qv,yv,yl,jx,qar,jm,b]
theorem zt9 {μ:Mu} {b a:Nat} {o:List DLn} {q:List Cel} {w:Int} {s:List UInt8} {A B:SA} (d:A = (gA 2 4 b o).ren μ) (c:B = (gA 6 5 a q).ren μ) :
  SB.cells 41 [A,B,.int .i64 w,.str s] = SB.ren μ (.cells 41 [gA 2 4 b o,gA 6 5 a q,.int .i64 w,.str s]):=by subst d c; rfl
theorem bitN (N j:Nat) (g:j < 64):IntKind.u8.wrap (IntKind.i64.wrap (48 + (shrI IntKind.i64 (N:Int) (j:Int)).tmod 2)) = ((UInt8.ofNat (48 + N / 2 ^ j % 2)).toNat:Int):=by
 have e:shrI .i64 (N:Int) (j:Int) = ((N / 2 ^ j:Nat):Int):=by
  unfold shrI
  have b:min ((j:Int).toNat) (IntKind.i64.bits) = j:=by
   rw [qp];show min j 64 = j;omega
  rw [b,qaw _ (by have:=qdl (n:=2) (m:=j) (by omega); omega)];simp
 have d:((N / 2 ^ j:Nat):Int).tmod 2 = ((N / 2 ^ j % 2:Nat):Int):=by
  rw [y6 (jt _)]; simp
 have f:48 + N / 2 ^ j % 2 < 256:=by omega
 have c:(48:Int) + ((N / 2 ^ j % 2:Nat):Int) = ((48 + N / 2 ^ j % 2:Nat):Int):=by simp
 have a:-9223372036854775808 ≤ ((48 + N / 2 ^ j % 2:Nat):Int) ∧ ((48 + N / 2 ^ j % 2:Nat):Int) ≤ 9223372036854775807:=by omega
 rw [e,d,c,zaj a.1 (qau a.2 (by decide)),qav,jz f];show ((48 + N / 2 ^ j % 2:Nat):Int).emod 256 = _;exact Int.emod_eq_of_lt (by omega) (by omega)
theorem z2e (j N:Nat):mkB (j + 1) N = mkB j N ++ [UInt8.ofNat (48 + N / 2 ^ j % 2)]:=by
 unfold mkB;rw [qdc,jj]; rfl
theorem yd4 {μ:Mu} {a c:Nat} {o:List DLn} {q:List Cel} {w:Int} {s b:List UInt8} {A B:SA} (e:b = s) (f:A = (gA 2 4 a o).ren μ) (d:B = (gA 6 5 c q).ren μ) :
  SB.cells 41 [A,B,.int .i64 w,.str b] = SB.ren μ (.cells 41 [gA 2 4 a o,gA 6 5 c q,.int .i64 w,.str s]):=by subst e f d; rfl
theorem zm7 {f:Fz} {D:Dc} {o:List DLn} {q:List Cel} {W:Int} {B:List UInt8} {h d:Bool} {e g i c:Nat} (l:D = ⟨o,q,W,B⟩) (m:Sl f 148 2 encN (.slice h 0 e 0 2 o.length g) o)
  (j:Sl f 151 6 encK (.slice d 0 i 0 6 q.length c) q) (k:q.length ≤ c):∃ a b,Out.ret (SV.agg [.slice h 0 e 0 2 o.length g,.slice d 0 i 0 6 q.length c,.int .i64 W,.str B]) = Out.ret (SV.agg (docS a b D.w D.bits)) ∧ DocAt f a b D:=by
 subst l; exact ⟨_,_,rfl,h,e,0,g,d,i,0,c,rfl,rfl,m,j,k⟩
theorem z95 (F:Fz) (n1 n2:Bool) (b1 o1 c1 b2 o2 c2:Nat) (l:List Stp) (x:List Q3) (u O:Int) (bl:n1 = true → l = []) (a5:n2 = true → x = []) (hl:RawAt F b1 o1 (ints2 l)) (hx:RawAt F b2 o2 (ints3 x))
  (bz:∀ y ∈ l,i64 y.1 ∧ i64 y.2) (bp:∀ y ∈ x,i64 y.1 ∧ i64 y.2.1 ∧ i64 y.2.2) (hr:i64 u ∧ i64 O) (cb:l.length < 9223372036854775808) (ce:x.length < 9223372036854775808) :
  Fo Tryz.prog F 49 [.va (.slice n1 0 b1 o1 1 l.length c1),.va (.slice n2 0 b2 o2 1 x.length c2),.agg [.int .i64 u,.int .i64 O]] (fun o F'=>∃ a b,o = .ret (.agg (docS a b (madeD l x u O).w (madeD l x u O).bits)) ∧ DocAt F' a b (madeD l x u O)):=by
 have af:=hl.pair;obtain ⟨BL,af⟩:=af;have ac:=hx.triple;obtain ⟨BX,ac⟩:=ac;have bw:=zco u 6 (by decide) hr.1;have b7:=zco (u.tdiv 6) 4 (by decide) (zly hr.1);have au:=zco O 1048576 (by decide) hr.2;have aa:=fun F=>zdh u 6 hr.1 (by decide) F
 have ad:=fun F=>zdh (u.tdiv 6) 4 (zly hr.1) (by decide) F
 have aj:=fun F=>zdh O 1048576 hr.2 (by decide) F
 have an:u.tdiv 6 = IntKind.i64.wrap (u.tdiv 6):=by
  have:=zly hr.1;unfold i64 at this;exact (zaj (by omega) (by omega)).symm
 obtain ⟨W,hW⟩:∃ W:Nat,pickI u 6 = (W:Int):=⟨(pickI u 6).toNat,by omega⟩
 obtain ⟨H,ah⟩:∃ H:Nat,pickI (u.tdiv 6) 4 = (H:Int):=⟨(pickI (u.tdiv 6) 4).toNat,by omega⟩
 obtain ⟨N,hN⟩:∃ N:Nat,pickI O 1048576 = (N:Int):=⟨(pickI O 1048576).toNat,by omega⟩
 rw [hW] at bw;rw [ah] at b7;rw [hN] at au;simp only [hW] at aa;simp only [ah] at ad;simp only [hN] at aj
 have b5:((W:Int) * (1 + (H:Int))).toNat = W * (1 + H):=by
  have:(W:Int) * (1 + (H:Int)) = ((W * (1 + H):Nat):Int):=by simp
  rw [this,qp]
 have ca:W * (1 + H) ≤ 20:=qa9 (show W ≤ 5 by omega) (show 1 + H ≤ 4 by omega)
 have a3:IntKind.i64.wrap ((W:Int) * IntKind.i64.wrap (1 + (H:Int))) = ((W * (1 + H):Nat):Int):=by
  have:(W:Int) * (1 + (H:Int)) = ((W * (1 + H):Nat):Int):=by simp
  rw [zaj (n:=1 + (H:Int)) (by omega) (by omega),this,zaj (by omega) (by omega)]
 obtain ⟨D,hD⟩:∃ D,madeD l x u O = D:=⟨_,rfl⟩
 rw [hD];refine fo_of hΘ Tryz.func49 rfl (by decide) _ _ rfl rfl rfl ?_
 refine zam hΘ (X:={ y:Nat × List DLn × Nat // y.1 ≤ l.length ∧ y.1 ≤ 6 ∧ y.2.1 = (l.take y.1).map mkLn }) (fun y=>[(8,.va (.int .i64 y.1.1))]) [9,10,17,18,19,20,21,22,23,24,25,26,27,28,29,30,31,32,33,34,35,36,37,38,39,40,41,42,43,44,45,46,47,48,49,50,51,52,53,54,55,56]
  (fun y=>[(0,.frz F),(3,.one (.cells 41 [gA 2 4 y.1.2.2 y.1.2.1,.nilsl,.int .i64 0,.str []])),(4,gE 148 2 encN y.1.2.2 y.1.2.1)]) 5 (fun y=>6 - y.1.1) ⟨(0,[],0),by simp,by omega,rfl⟩
  (fun T S=>leI [(4,4)] T S rfl ⟨tv,(by
   intro a ha;simp only [qj,qs,or_false] at ha;rcases ha with rfl | rfl | rfl | rfl
   ·exact zeh (by omega) _ _ _
   ·trivial
   ·trivial
   ·trivial),zai zal _ _ _ _ _,tv⟩ ⟨rfl,tv⟩ ⟨Fz.r F,rfl,rfl,tv⟩) ?_
 rintro ⟨⟨k,o,c⟩,hk,am,ho⟩ T S;replace hk:k ≤ l.length:=hk;replace am:k ≤ 6:=am;replace ho:o = (l.take k).map mkLn:=ho;by_cases g:k < l.length ∧ k < 6
 ·have gl:=g.1;have gi:(k:Int) < (l.length:Int):=by omega
  have g6:(k:Int) < 6:=by omega
  have R:=af k gl;have hB:=R.1;have L:=bz (l[k]'gl) (jp gl);have bb:=fun F=>zdh (l[k]'gl).1 1000000 L.1 (by decide) F
  have b0:=fun F=>zdh (l[k]'gl).2 8 L.2 (by decide) F
  have az:(0 ≤ pickI (l[k]'gl).1 1000000 ∧ pickI (l[k]'gl).1 1000000 ≤ 1000000) ∧ pickI (l[k]'gl).1 1000000 < 6 ^ 8:=by
   have h:=zco (l[k]'gl).1 1000000 (by decide) L.1;exact ⟨⟨h.1,Int.le_of_lt h.2⟩,Int.lt_trans h.2 (by decide)⟩
  have p:n1 = false:=Sl.lt bl gl;have Y:(o1 + (k:Int).toNat * 2) * 1 + (0 + (0:Int).toNat * 1) = o1 + k * 2:=by rw [qp]; omega
  have bn:(o1 + (k:Int).toNat * 2) * 1 + (0 + (1:Int).toNat * 1) = o1 + k * 2 + 1:=by rw [qp]; omega
  have m:6 - (k + 1) < 6 - k:=by have:=g.2; omega
  have I:k < 4611686018427387904:=by omega
  have bh:o.length = k:=by rw [ho,qa,qq]; omega
  have ak:o ++ [mkLn (l[k]'gl)] = (l.take (k + 1)).map mkLn:=by rw [qg gl,jj,← ho]; rfl
  clear ho;rcases o with _ | ⟨d0,Q⟩
  all_goals
   refine ⟨fun _=>?_,fun h=>absurd gi (oe h)⟩;refine bri g6 ?_;refine ⟨p,⟨by omega,gi⟩,⟨by decide,by decide⟩,_,hB,?_⟩;refine R.2.1.rd1 Y ?_;refine usePu (bb F) rfl ⟨rfl,rfl,tv⟩ rfl ?_
   refine zam hΘ (X:={ y:Int × List UInt8 × Nat // (0 ≤ y.1 ∧ y.1 ≤ 1000000) ∧ y.1 < 6 ^ y.2.2 ∧ y.2.1.length + y.2.2 ≤ 8 ∧ mkT y.2.2 y.1 y.2.1 = mkT 8 (pickI (l[k]'gl).1 1000000) [] }) (fun y=>[(9,.va (.int .i64 y.1.1)),(10,.va (.str y.1.2.1))]) [33,34,35,36,37,38,39,40,41,42,43]
    (fz fun _=>F) 5 (fun y=>y.1.2.2) ⟨(pickI (l[k]'gl).1 1000000,[],8),az.1,az.2,by simp,rfl⟩
    (fun T S=>leI [] T S rfl ⟨tv,tv⟩ ⟨rfl,rfl,tv⟩ ⟨Fz.r F,tv⟩) ?_
   rintro ⟨⟨n,s,f⟩,al,E,ai,e⟩ bt b6;have U:0 ≤ n:=al.1;have cd:n ≤ 1000000:=al.2;replace E:n < 6 ^ f:=E;replace ai:s.length + f ≤ 8:=ai;replace e:mkT f n s = mkT 8 (pickI (l[k]'gl).1 1000000) []:=e;by_cases hn:0 < n
   ·rcases f with _ | f
    ·exact absurd E (by show ¬ n < 1; omega)
    have aa:(6:Int) ^ (f + 1) = 6 ^ f * 6:=Int.pow_succ 6 f
    have be:0 ≤ n.tdiv 6 ∧ n.tdiv 6 < 6 ^ f:=by
     rw [jq U];rw [aa] at E;omega
    have B:mkT f (n.tdiv 6) (s ++ [chB[(n.tmod 6).toNat]?.getD 97]) = mkT 8 (pickI (l[k]'gl).1 1000000) []:=by
     rw [← e,mkT,if_pos hn]
    have ap:(s ++ [chB[(n.tmod 6).toNat]?.getD 97]).length + f ≤ 8:=by rw [qd]; simp only [qh,qt]; omega
    have a6:0 ≤ n.tdiv 6 ∧ n.tdiv 6 ≤ 1000000:=by rw [jq U]; omega
    have bq:IntKind.i64.wrap (n.tdiv 6) = n.tdiv 6:=zaj (by omega) (by omega);have e1:n.tmod 6 = n % 6:=y6 U;have e2:n.tdiv 6 = n / 6:=jq U;have bf:0 ≤ n.tmod 6:=by rw [e1]; omega
    have a9:chB[(n.tmod 6).toNat]? = some (chB[(n.tmod 6).toNat]?.getD 97):=by
     rw [qe (show (n.tmod 6).toNat < chB.length by show _ < 6; rw [e1]; omega)]; rfl
    refine bri hn ?_;refine ⟨by decide,bf,_,a9,nb rfl,[[.int .u8 ((chB[(n.tmod 6).toNat]?.getD 97).toNat:Int)]],rfl,[chB[(n.tmod 6).toNat]?.getD 97],rfl,?_⟩;refine ⟨by show s.length + 1 ≤ 9223372036854775807; omega,by decide,?_⟩;exact ⟨⟨(n.tdiv 6,s ++ [chB[(n.tmod 6).toNat]?.getD 97],f),a6,be.2,ap,B⟩,qcc f,leR [] bt b6 rfl ⟨tv,tv⟩ ⟨eu bq.symm,rfl,tv⟩ ⟨Fz.r F,tv⟩⟩
   ·have a1:s = mkT 8 (pickI (l[k]'gl).1 1000000) []:=by
     rw [← e];cases f with
     |zero=>rfl
     |succ f=>rw [mkT,if_neg hn]
    have a4:encN (s,pickI (l[k]'gl).2 8) = encN (mkLn (l[k]'gl)):=by rw [mkLn,← a1]
    refine brj hn ?_;refine drawP hΘ mixed (lk [0,1,2,3,4,5,6,7] (.alt 8 (.alt 9 (.alt 10 (.alt 11 (.look 12 (.last 13 .done)) .nil) .nil) .nil) .nil)) [3] (by kernel_rfl) ?_;refine ⟨rfl,p,⟨by omega,gi⟩,⟨by decide,by decide⟩,rfl,_,hB,?_⟩;refine R.2.2.rd1 bn ?_;refine usePu (b0 F) rfl ⟨rfl,rfl,tv⟩ rfl ?_;refine ⟨Fz.r F,rfl,Fz.r F,rfl,Fz.r F,rfl,nb rfl,[encN (s,pickI (l[k]'gl).2 8)],rfl,?_⟩;conv=>whnf
    first
     |refine ⟨rfl,rfl,?_⟩
      refine ⟨by show 1 * 24 ≤ 140737488355328; omega,fun c' K=>?_⟩
     |refine ⟨rfl,rfl,by simp,rfl,(by have h9:Q.length + 1 = k:=bh; show (Q.length + 1 + 1) * 24 ≤ 140737488355328; omega),fun c' K=>?_⟩
    clear K;refine ⟨Fz.r F,rfl,?_⟩;conv=>whnf
    first
     |exact ⟨⟨(k + 1,[] ++ [mkLn (l[k]'gl)],c'),gl,g.2,ak⟩,m,leRn [_,_,_] [_,_] [(4,6)] T S rfl ⟨tv,zmm (by omega),zai zal _ _ _ _ _,tv⟩ ⟨cnt I,tv⟩ ⟨Fz.r F,zvc (μ:=sig [(4,6)]) rfl rfl,zax zal (zcs _ (by rw [a4]; simp)),tv⟩⟩
     |exact ⟨⟨(k + 1,(d0 :: Q) ++ [mkLn (l[k]'gl)],c'),gl,g.2,ak⟩,m,leRn [_,_,_] [_,_] [(4,6)] T S rfl ⟨tv,zmm (by omega),zai zal _ _ _ _ _,tv⟩ ⟨cnt I,tv⟩ ⟨Fz.r F,zvc (μ:=sig [(4,6)]) rfl rfl,zax zal (zcs _ (by rw [a4]; simp)),tv⟩⟩
 ·have gt:l.take k = l.take 6:=by
   rcases qb7 k 6 with h | h
   ·have bc:k = l.length:=by omega
    rw [bc,yt,qn (by omega)]
   ·have h6:k = 6:=by omega
    rw [h6]
  rw [gt] at ho;have g6:(k:Int) < (l.length:Int) → ¬ (k:Int) < 6:=by omega
  clear gt;refine ⟨fun gi=>?_,fun gi=>?_⟩
  case' refine_1=>
   refine br (fun h=>absurd (od h) (g6 (od gi))) (fun _=>?_)
  all_goals
   refine zam hΘ (X:={ y:Int × Nat × List Cel × Nat // y.2.1 ≤ x.length ∧ (0 ≤ y.1 ∧ y.1 ≤ 27 ∧ (y.2.2.1.length:Int) ≤ y.1 ∧ y.2.2.1.length ≤ y.2.2.2) ∧ mkC (x.drop y.2.1) y.1 y.2.2.1 = mkC x 0 [] }) (fun y=>[(11,.va (.int .i64 y.1.1)),(12,.va (.int .i64 y.1.2.1))]) [13,57,58,59,60,61,62,63,64,65,66,67,68,69,70,71,72,73,74,75,76,77,78,79,80,81,82,83,84,85,86,87,88,89,90,91,92,93,94,95,96,97,98,99,100,101,102,103,104,105,106,107,108,109,110,111,112,113,114,115,116,117,118,119,120,121,122,123]
    (fun y=>[(0,.frz F),(3,dcE c y.1.2.2.2 o y.1.2.2.1 0 []),(4,gE 148 2 encN c o),(5,gE 151 6 encK y.1.2.2.2 y.1.2.2.1)]) 6 (fun y=>x.length - y.1.2.1) ⟨(0,0,[],0),by simp,⟨by omega,by omega,by simp,by simp⟩,rfl⟩
    (fun T S=>leI [(5,5)] T S rfl ⟨tv,zgr (by omega),zai zal _ _ _ _ _,zai zad _ _ _ _ _,tv⟩ ⟨rfl,rfl,tv⟩ ⟨Fz.r F,zt9 (zgj (μ:=sig [(5,5)]) (i:=4) (j:=4) rfl o) rfl,zax zal (zay _ _ _ _),rfl,tv⟩) ?_
   rintro ⟨⟨d,i,q,cc⟩,hi,V,e⟩ av a0;have Y:0 ≤ d:=V.1;have b9:d ≤ 27:=V.2.1;have bx:(q.length:Int) ≤ d:=V.2.2.1;have aw:q.length ≤ cc:=V.2.2.2;replace hi:i ≤ x.length:=hi;replace e:mkC (x.drop i) d q = mkC x 0 []:=e;by_cases g2:i < x.length ∧ d < 25
   ·have gl2:=g2.1;have J:(i:Int) < (x.length:Int):=by omega
    have Z:=g2.2;have R:=ac i gl2;have hB:=R.1;have L:=bp (x[i]'gl2) (jp gl2);have bj:=fun F=>zdh (x[i]'gl2).1 3 L.1 (by decide) F
    have ba:=fun F=>zdh ((x[i]'gl2).1.tdiv 3) 3 (zs5 L.1) (by decide) F
    have bd:=fun F=>zdh (x[i]'gl2).2.1 201 L.2.1 (by decide) F
    have e1:d.tdiv 5 = d / 5:=jq Y;have e2:d.tmod 5 = d % 5:=y6 Y;have bo:=fun F=>zdh (x[i]'gl2).2.1 (d.tdiv 5 + 1) L.2.1 (by rw [e1]; omega) F
    have b3:=fun F=>zdh (x[i]'gl2).2.2 (d.tmod 5 + 1) L.2.2 (by rw [e2]; omega) F
    have p:n2 = false:=Sl.lt a5 gl2;have ar:(o2 + (i:Int).toNat * 3) * 1 + (0 + (0:Int).toNat * 1) = o2 + i * 3:=by rw [qp]; omega
    have a2:(o2 + (i:Int).toNat * 3) * 1 + (0 + (1:Int).toNat * 1) = o2 + i * 3 + 1:=by rw [qp]; omega
    have bk:(o2 + (i:Int).toNat * 3) * 1 + (0 + (2:Int).toNat * 1) = o2 + i * 3 + 2:=by rw [qp]; omega
    have m:x.length - (i + 1) < x.length - i:=by omega
    have cf:=zco ((x[i]'gl2).1.tdiv 3) 3 (by decide) (zs5 L.1)
    have B:mkC (x.drop (i + 1)) (d + 1 + pickI ((x[i]'gl2).1.tdiv 3) 3) (q ++ [cellOf d (x[i]'gl2)]) = mkC x 0 []:=by
     rw [← e,qx gl2,mkC,if_pos Z]
    have ab:IntKind.i64.wrap (d.tdiv 5) = d.tdiv 5:=zaj (by omega) (by omega);have ao:d.tdiv 5 + 1 = IntKind.i64.wrap (IntKind.i64.wrap (d.tdiv 5) + 1):=by rw [ab]; exact (zaj (by omega) (by omega)).symm
    have ay:d.tmod 5 + 1 = IntKind.i64.wrap (d.tmod 5 + 1):=(zaj (by omega) (by omega)).symm
    have bm:pickI (x[i]'gl2).1 3 = 0 → ∀ ρ,(encK (cellOf d (x[i]'gl2))).map (SA.den ρ) = [SA.int .i64 (IntKind.i64.wrap (d.tdiv 5)),.int .i64 (d.tmod 5),.lit true,.int .i64 0,.int .i64 (pickI (x[i]'gl2).2.1 (d.tdiv 5 + 1)),.int .i64 (pickI (x[i]'gl2).2.2 (d.tmod 5 + 1))].map (SA.den ρ):=fun h ρ=>by
     rw [cellOf,if_pos h,ab]; rfl
    have b8:=zco (x[i]'gl2).2.1 201 (by decide) L.2.1
    have bs:¬ pickI (x[i]'gl2).1 3 = 0 → ∀ ρ,(encK (cellOf d (x[i]'gl2))).map (SA.den ρ) = [SA.int .i64 (IntKind.i64.wrap (d.tdiv 5)),.int .i64 (d.tmod 5),.lit false,.int .i64 (IntKind.i64.wrap (pickI (x[i]'gl2).2.1 201 - 100)),.int .i64 0,.int .i64 0].map (SA.den ρ):=fun h ρ=>by
     rw [cellOf,if_neg h,ab,zaj (by omega) (by omega)]; rfl
    have bg:(x[i]'gl2).1.tdiv 3 = IntKind.i64.wrap ((x[i]'gl2).1.tdiv 3):=by
     have:=zs5 L.1;unfold i64 at this;exact (zaj (by omega) (by omega)).symm
    have aq:d + 1 + pickI ((x[i]'gl2).1.tdiv 3) 3 = IntKind.i64.wrap (IntKind.i64.wrap (d + 1) + pickI ((x[i]'gl2).1.tdiv 3) 3):=by rw [zaj (n:=d + 1) (by omega) (by omega),zaj (by omega) (by omega)]
    have ax:((i + 1:Nat):Int) = IntKind.i64.wrap ((i:Int) + 1):=by rw [zaj (by omega) (by omega)]; rfl
    have G:∀ c',q.length + 1 ≤ c' → 0 ≤ d + 1 + pickI ((x[i]'gl2).1.tdiv 3) 3 ∧ d + 1 + pickI ((x[i]'gl2).1.tdiv 3) 3 ≤ 27 ∧ ((q ++ [cellOf d (x[i]'gl2)]).length:Int) ≤ d + 1 + pickI ((x[i]'gl2).1.tdiv 3) 3 ∧ (q ++ [cellOf d (x[i]'gl2)]).length ≤ c':=fun c' h=>by
     rw [qd];refine ⟨by omega,by omega,?_,h⟩;show ((q.length + 1:Nat):Int) ≤ _; omega
    clear e;rcases q with _ | ⟨d0,Q⟩
    all_goals
     refine ⟨fun _=>?_,fun h=>absurd J (oe h)⟩;refine bri Z ?_;refine ⟨by decide,by decide,p,⟨by omega,J⟩,⟨by decide,by decide⟩,_,hB,?_⟩;refine R.2.1.rd1 ar ?_;refine usePu (bj F) rfl ⟨rfl,rfl,tv⟩ rfl ?_;refine br (fun h3=>?_) (fun h3=>?_)
     case' refine_1=>
      refine drawP hΘ mixed (lk [0,1,2,3,4,5,6,7] (.alt 8 (.look 9 (.last 10 .done)) .nil)) [6] (by kernel_rfl) ?_;refine ⟨p,⟨by omega,J⟩,⟨by decide,by decide⟩,rfl,_,hB,?_⟩;refine R.2.2.1.rd1 a2 ?_;refine ⟨rfl,?_⟩;refine usePu (bo F) rfl ⟨rfl,eu ao,tv⟩ rfl ?_;conv=>whnf
      repeat
       refine ⟨Fz.r F,rfl,?_⟩;conv=>whnf
      refine drawP hΘ mixed (lk [0,1,2,3,4,5,6,7] (.alt 8 (.look 9 (.last 10 .done)) .nil)) [6] (by kernel_rfl) ?_;refine ⟨p,⟨by omega,J⟩,⟨by decide,by decide⟩,rfl,_,hB,?_⟩;refine R.2.2.2.rd1 bk ?_;refine ⟨rfl,?_⟩;refine usePu (b3 F) rfl ⟨rfl,eu ay,tv⟩ rfl ?_;conv=>whnf
      repeat
       refine ⟨Fz.r F,rfl,?_⟩;conv=>whnf
     case' refine_2=>
      refine ⟨p,⟨by omega,J⟩,⟨by decide,by decide⟩,_,hB,?_⟩;refine R.2.2.1.rd1 a2 ?_;refine usePu (bd F) rfl ⟨rfl,rfl,tv⟩ rfl ?_;conv=>whnf
     case' refine_1=>
      have ae:=bm (od h3);refine ⟨nb rfl,[[SA.int .i64 (IntKind.i64.wrap (d.tdiv 5)),.int .i64 (d.tmod 5),.lit true,.int .i64 0,.int .i64 (pickI (x[i]'gl2).2.1 (d.tdiv 5 + 1)),.int .i64 (pickI (x[i]'gl2).2.2 (d.tmod 5 + 1))]],rfl,?_⟩
     case' refine_2=>
      have ae:=bs (oe h3);refine ⟨nb rfl,[[SA.int .i64 (IntKind.i64.wrap (d.tdiv 5)),.int .i64 (d.tmod 5),.lit false,.int .i64 (IntKind.i64.wrap (pickI (x[i]'gl2).2.1 201 - 100)),.int .i64 0,.int .i64 0]],rfl,?_⟩
     all_goals
      conv=>whnf
      first
       |refine ⟨rfl,rfl,?_⟩
        refine ⟨nb rfl,fun c' K=>?_⟩
       |refine ⟨rfl,rfl,by simp,rfl,(by have h9:((Q.length + 1:Nat):Int) ≤ d:=bx; show (Q.length + 1 + 1) * 48 ≤ 140737488355328; omega),fun c' K=>?_⟩
      refine ⟨p,⟨by omega,J⟩,⟨by decide,by decide⟩,_,hB,?_⟩;refine R.2.1.rd1 ar ?_;refine ⟨by decide,?_⟩;conv=>whnf
      first
       |refine swapC 8 (.arr 151 6 (((d0 :: Q) ++ [cellOf d (x[i]'gl2)]).map encK) c') rfl (swK (q:=d0 :: Q) rfl rfl ae) (zbd zad _ _ _ _ _) ?_
       |refine swapC 8 (.arr 151 6 (([] ++ [cellOf d (x[i]'gl2)]).map encK) c') rfl (swK (q:=[]) rfl rfl ae) (zbd zad _ _ _ _ _) ?_
      refine usePu (ba F) rfl ⟨eu bg,rfl,tv⟩ rfl ?_;conv=>whnf
      first
       |exact ⟨⟨(d + 1 + pickI ((x[i]'gl2).1.tdiv 3) 3,i + 1,(d0 :: Q) ++ [cellOf d (x[i]'gl2)],c'),gl2,G c' K,B⟩,m,leR [(5,8)] av a0 rfl ⟨tv,zgr (by omega),zai zal _ _ _ _ _,zai zad _ _ _ _ _,tv⟩ ⟨eu aq,eu ax,tv⟩ ⟨Fz.r F,zt9 (zgj (μ:=sig [(5,8)]) (i:=4) (j:=4) rfl o) (znp (μ:=sig [(5,8)]) rfl rfl),zax zal (zay _ _ _ _),zax zad (zcs (l:=(d0 :: Q) ++ [cellOf d (x[i]'gl2)]) _ rfl),tv⟩⟩
       |exact ⟨⟨(d + 1 + pickI ((x[i]'gl2).1.tdiv 3) 3,i + 1,[] ++ [cellOf d (x[i]'gl2)],c'),gl2,G c' K,B⟩,m,leR [(5,8)] av a0 rfl ⟨tv,zgr (by omega),zai zal _ _ _ _ _,zai zad _ _ _ _ _,tv⟩ ⟨eu aq,eu ax,tv⟩ ⟨Fz.r F,zt9 (zgj (μ:=sig [(5,8)]) (i:=4) (j:=4) rfl o) (znp (μ:=sig [(5,8)]) rfl rfl),zax zal (zay _ _ _ _),zax zad (zcs (l:=[] ++ [cellOf d (x[i]'gl2)]) _ rfl),tv⟩⟩
   ·have bi:q = mkC x 0 []:=by
     rw [← e];rcases qb7 i x.length with h | h
     ·rw [qx h,mkC,if_neg (by omega)]
     ·rw [qba h]; rfl
    clear e;have Z:(i:Int) < (x.length:Int) → ¬ d < 25:=by omega
    have M:D = ⟨o,q,(W:Int),mkB (W * (1 + H)) N⟩:=by rw [← hD,madeD,← ho,← bi,hW,ah,hN,qp,b5]
    refine ⟨fun gi=>?_,fun gi=>?_⟩
    case' refine_1=>
     refine br (fun h=>absurd (od h) (Z (od gi))) (fun _=>?_)
    all_goals
     refine ⟨⟨by decide,by decide⟩,?_⟩;refine usePu (aa F) rfl ⟨rfl,rfl,tv⟩ rfl ?_;refine ⟨⟨by decide,by decide⟩,?_⟩;refine usePu (aj F) rfl ⟨rfl,rfl,tv⟩ rfl ?_
     refine zam hΘ (X:={ j:Nat // j ≤ W * (1 + H) }) (fun y=>[(15,.va (.int .i64 y.1))]) [131,132,133,134,135,136,137,138,139,140,141,142,143,144,145,146,147,148,149,150,151,152,153,154]
      (fun y=>[(0,.frz F),(3,dcE c cc o q W (mkB y.1 N))]) 6 (fun y=>W * (1 + H) - y.1) ⟨0,yj _⟩
      (fun T S=>leI [] T S rfl ⟨tv,zgr (by omega),tv⟩ ⟨rfl,tv⟩ ⟨Fz.r F,zt9 (zgj (μ:=sig []) (i:=4) (j:=4) rfl o) (zgj (μ:=sig []) (i:=5) (j:=5) rfl q),tv⟩) ?_
     rintro ⟨j,hj⟩ a7 bu;by_cases g4:j < W * (1 + H)
     ·have ag:(j:Int) < IntKind.i64.wrap ((W:Int) * IntKind.i64.wrap (1 + (H:Int))):=by rw [a3]; omega
      have m:W * (1 + H) - (j + 1) < W * (1 + H) - j:=by omega
      have I:j < 4611686018427387904:=by omega
      have a8:[[SA.int .u8 (IntKind.u8.wrap (IntKind.i64.wrap (48 + (shrI IntKind.i64 (N:Int) (j:Int)).tmod 2)))]] = [UInt8.ofNat (48 + N / 2 ^ j % 2)].map encB:=by rw [bitN N j (by omega)]; rfl
      refine drawP hΘ mixed (lk [0,1,2,3,4,5] (.alt 6 (.alt 7 (.look 8 (.look 9 .done)) .nil) .nil)) [1,3] (by kernel_rfl) ?_;refine ⟨rfl,⟨by decide,by decide⟩,rfl,by decide,?_⟩;refine usePu (ad F) rfl ⟨eu an,rfl,tv⟩ rfl ?_;conv=>whnf
      repeat
       refine ⟨Fz.r F,rfl,rfl,?_⟩;conv=>whnf
      refine bri ag ?_;refine drawP hΘ mixed (lk [0,1,2,3,4,5] (.alt 6 (.alt 7 (.alt 8 (.alt 9 (.look 10 (.look 11 (.last 12 .done))) .nil) .nil) .nil) .nil)) [3] (by kernel_rfl) ?_;refine ⟨rfl,jt j,by decide,?_⟩;conv=>whnf
      repeat
       refine ⟨Fz.r F,rfl,?_⟩;conv=>whnf
      refine ⟨nb rfl,[[.int .u8 (IntKind.u8.wrap (IntKind.i64.wrap (48 + (shrI IntKind.i64 (N:Int) (j:Int)).tmod 2)))]],rfl,[UInt8.ofNat (48 + N / 2 ^ j % 2)],a8,Fz.r F,rfl,by rw [zri]; show j + 1 ≤ 9223372036854775807; omega,?_⟩;exact ⟨⟨j + 1,g4⟩,m,leR [] a7 bu rfl ⟨tv,zgr (by omega),tv⟩ ⟨cnt I,tv⟩ ⟨Fz.r F,yd4 (z2e j N).symm (zgj (μ:=sig []) (i:=4) (j:=4) rfl o) (zgj (μ:=sig []) (i:=5) (j:=5) rfl q),tv⟩⟩
     ·have ag:¬ (j:Int) < IntKind.i64.wrap ((W:Int) * IntKind.i64.wrap (1 + (H:Int))):=by rw [a3]; omega
      have b4:j = W * (1 + H):=by omega
      rw [← b4] at M;rcases o with _ | ⟨o0,A⟩
      all_goals rcases q with _ | ⟨q0,qr⟩
      all_goals
       refine drawP hΘ mixed (lk [0,1,2,3,4,5] (.alt 6 (.alt 7 (.look 8 (.look 9 .done)) .nil) .nil)) [1,3] (by kernel_rfl) ?_;refine ⟨rfl,⟨by decide,by decide⟩,rfl,by decide,?_⟩;refine usePu (ad F) rfl ⟨eu an,rfl,tv⟩ rfl ?_;conv=>whnf
       repeat
        refine ⟨Fz.r F,rfl,rfl,?_⟩;conv=>whnf
       refine brj ag ?_;conv=>whnf
      ·refine zn6 (out':=.ret (.agg [.slice true 0 0 0 2 0 0,.slice true 0 0 0 6 0 0,.int .i64 (W:Int),.str (mkB j N)])) (fun _ _ h=>h) (Out.bB_ok rfl) ?_;exact endFo (.ret (.agg [.slice true 0 0 0 2 0 0,.slice true 0 0 0 6 0 0,.int .i64 (W:Int),.str (mkB j N)])) F rfl (Fz.r F) (Fz.r F) (zm7 M Sl.nil Sl.nil (qm 0)) rfl rfl
      ·refine zn6 (out':=.ret (.agg [.slice true 0 0 0 2 0 0,.slice false 5 0 0 6 (qr.length + 1) cc,.int .i64 (W:Int),.str (mkB j N)])) (fun _ _ h=>h) (Out.bB_ok rfl) ?_;refine zbn 5 (fun _=>.arr 151 6 ((q0 :: qr).map encK) cc) rfl rfl rfl (fun _ _=>by exact zcx zad rfl _ _ _ _) (fun _ _=>zbd zad _ _ _ _ _) ?_;intro z F1 u1 hz;exact endFo (.ret (.agg [.slice true 0 0 0 2 0 0,.slice false 0 (z 0) 0 6 (qr.length + 1) cc,.int .i64 (W:Int),.str (mkB j N)])) F1 rfl u1 (Fz.r F1) (zm7 M Sl.nil (Sl.new (l:=q0 :: qr) (hz 0 ⟨rfl,rfl⟩)) aw) rfl rfl
      ·refine zn6 (out':=.ret (.agg [.slice false 4 0 0 2 (A.length + 1) c,.slice true 0 0 0 6 0 0,.int .i64 (W:Int),.str (mkB j N)])) (fun _ _ h=>h) (Out.bB_ok rfl) ?_;refine zbn 4 (fun _=>.arr 148 2 ((o0 :: A).map encN) c) rfl rfl rfl (fun _ _=>by exact zcx zal rfl _ _ _ _) (fun _ _=>zbd zal _ _ _ _ _) ?_;intro z F1 u1 hz;exact endFo (.ret (.agg [.slice false 0 (z 0) 0 2 (A.length + 1) c,.slice true 0 0 0 6 0 0,.int .i64 (W:Int),.str (mkB j N)])) F1 rfl u1 (Fz.r F1) (zm7 M (Sl.new (l:=o0 :: A) (hz 0 ⟨rfl,rfl⟩)) Sl.nil (qm 0)) rfl rfl
      ·refine zbn 4 (fun _=>.arr 148 2 ((o0 :: A).map encN) c) rfl rfl rfl (fun _ _=>by exact zcx zal rfl _ _ _ _) (fun _ _=>zbd zal _ _ _ _ _) ?_;intro z F1 u1 hz;refine zbn 5 (fun _=>.arr 151 6 ((q0 :: qr).map encK) cc) rfl rfl rfl (fun _ _=>by exact zcx zad rfl _ _ _ _) (fun _ _=>zbd zad _ _ _ _ _) ?_;intro y F2 u2 hy;exact endFo (.ret (.agg [.slice false 0 (z 0) 0 2 (A.length + 1) c,.slice false 0 (y 0) 0 6 (qr.length + 1) cc,.int .i64 (W:Int),.str (mkB j N)])) F2 rfl (Fz.t u1 u2) (Fz.r F2) (zm7 M (Sl.new (l:=o0 :: A) (u2 _ _ (hz 0 ⟨rfl,rfl⟩))) (Sl.new (l:=q0 :: qr) (hy 0 ⟨rfl,rfl⟩)) aw) rfl rfl
structure CaseAt (F:Fz) (n1 n2 n3:Bool) (b1 o1 b2 o2 b3 o3 l3:Nat) (L:List Stp) (X:List Q3) (r0 r1:Int) (zs:List Int):Prop where
 nl1:n1 = true → L = []
 nl2:n2 = true → X = []
 nl3:n3 = true → l3 = 0
 raw1:RawAt F b1 o1 (ints2 L)
 raw2:RawAt F b2 o2 (ints3 X)
 raw3:RawAt F b3 o3 zs
 i1:∀ y ∈ L,i64 y.1 ∧ i64 y.2
 i2:∀ y ∈ X,i64 y.1 ∧ i64 y.2.1 ∧ i64 y.2.2
 i3:∀ z ∈ zs,i64 z
 r:i64 r0 ∧ i64 r1
 s1:L.length < 9223372036854775808
 s2:X.length < 9223372036854775808
 s3:l3 < 9223372036854775808
 len:zs.length = l3 * 5
abbrev caseS (f c i:Bool) (j k h p g a o d e n:Nat) (l x:Nat) (m b:Int):List SA:=[.slice f 0 j k 1 l h,.slice c 0 p g 1 x a,.int .i64 m,.int .i64 b,.slice i 0 o d 1 e n]
theorem CaseAt.mono {F n:Fz} {c j m:Bool} {e g p d i k f:Nat} {L:List Stp} {X:List Q3} {o b:Int} {l:List Int} (h:CaseAt F c j m e g p d i k f L X o b l) (a:Fz.le F n):CaseAt n c j m e g p d i k f L X o b l:=
 { h with raw1:=h.raw1.mono a,raw2:=h.raw2.mono a,raw3:=h.raw3.mono a }
theorem CaseAt.ok {F:Fz} {d k n:Bool} {f i o e j l g:Nat} {L:List Stp} {X:List Q3} {c b:Int} {m:List Int} (h:CaseAt F d k n f i o e j l g L X c b m):docOk (madeD L X c b) = true ∧ DcSmall (madeD L X c b):=
 z4q (fun y a=>(h.i1 y a).2) (fun y a=>(h.i2 y a).2) (fun y a=>(h.i2 y a).1) h.r.1
theorem z3s (F:Fz) (e k u:Bool) (g i p j f m q s n K:Nat) (L:List Stp) (X:List Q3) (d c:Int) (O:List Int) (h:CaseAt F e k u g i j f q s n L X d c O) :
  Fo Tryz.prog F 15 [.agg (caseS e k u g i p j f m q s n K L.length X.length d c)] (fun o Q=>∃ a b,o = .ret (.agg (docS a b (madeD L X d c).w (madeD L X d c).bits)) ∧ DocAt Q a b (madeD L X d c)):=by
 have x:=z95 F e k g i p j f m L X d c h.nl1 h.nl2 h.raw1 h.raw2 h.i1 h.i2 h.r h.s1 h.s2;obtain ⟨D,R⟩:∃ D,madeD L X d c = D:=⟨_,rfl⟩
 rw [R] at x ⊢;refine fo_of hΘ Tryz.func15 rfl (by decide) _ _ rfl rfl rfl ?_;refine useFo x rfl (zaa _) rfl ?_;rintro _ F1 I ⟨a,b,rfl,y⟩;have l:=y;obtain ⟨A,M,T,G,S,J,B,E,rfl,rfl,-,-,-⟩:=y;exact endFo (.ret (.agg (docS (.slice A 0 M T 2 D.lines.length G) (.slice S 0 J B 6 D.cells.length E) D.w D.bits))) F1 rfl I (Fz.r F1) ⟨_,_,rfl,l⟩ rfl rfl
end Go.Proofs.YtfnkamphhpldcaaGreatDoor
