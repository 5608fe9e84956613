import Derived.Test.YtfnkamphhpldcaaGreatDoorK19
import Derived.Test.YtfnkamphhpldcaaGreatDoorK25
import Derived.Test.YtfnkamphhpldcaaGreatDoorK13
import Derived.Test.YtfnkamphhpldcaaGreatDoorK10
set_option maxHeartbeats 64000000
namespace Go.Proofs.YtfnkamphhpldcaaGreatDoor
open Go Sx
set_option maxRecDepth 100000
def encW (n:Nat):List SA:=[wd n]
def full (A:List Nat):List Nat:=A ++ List.replicate (64 - A.length) 0
theorem zz9 {A:List Nat} (h:A.length ≤ 64):(full A).length = 64:=by simp [full]; omega
theorem z1n {A:List Nat} (x:Nat) (h:A.length < 64):(full A).set A.length x = full (A ++ [x]):=by
 unfold full
 rw [qbs _ _ (qf _),Nat.sub_self,qk,qa]
 obtain ⟨m,hm⟩:∃ m,64 - A.length = m + 1:=⟨63 - A.length,by omega⟩
 rw [hm,qbh,qao,yf,show 64 - (A.length + 1) = m by omega]
 rfl
theorem zz0 {A:List Nat} {i:Nat} (h:i < A.length):(full A)[i]? = some (at0 A i):=by
 unfold full at0
 rw [js h,qc h]; rfl
theorem z1f {A:List Nat} (h:A.length = 64):full A = A:=by simp [full,h]
theorem zqo {A:List Nat} {i:Nat} (h:i < A.length):at0 A i ∈ A:=by
 unfold at0; rw [qc h]; exact jj h
abbrev rowW (A:List Nat):Ent:=.one (.arr 287 1 ((full A).map encW) 64)
theorem zex (μ:Mu) (L:List Nat) (c:Nat):(SB.arr 287 1 (L.map encW) c).ren μ = SB.arr 287 1 (L.map encW) c:=by
 show SB.arr 287 1 ((L.map encW).map (List.map (SA.ren μ))) c = _
 rw [yd]; congr 1
theorem zdb (n:Nat) (L:List Nat) (c:Nat):(SB.arr 287 1 (L.map encW) c).below n:=by
 intro x hx a ha
 obtain ⟨s,_,rfl⟩:=q9.1 hx
 rcases qy.1 ha with rfl
 trivial
theorem word_lt (b:List UInt8) (i:Nat):word b i < 4294967296:=by
 unfold word
 have h:=fun j:Nat=>(b[j]?.getD 0).toNat_lt
 have h0:=h (4 * i); have h1:=h (4 * i + 1); have h2:=h (4 * i + 2); have h3:=h (4 * i + 3)
 omega
theorem zp4 {a b k:Nat} (h:b < 2 ^ k):(a * 2 ^ k) ||| b = a * 2 ^ k + b:=by
 rw [qa0,← qa7 h]
theorem wordI (b:List UInt8) (i:Nat) (x0 x1 x2 x3:Nat) (h0:x0 < 256) (h1:x1 < 256) (h2:x2 < 256) (h3:x3 < 256) :
  bOr .u32 (bOr .u32 (bOr .u32 (shlI .u32 (IntKind.u32.wrap (x0:Int)) 24) (shlI .u32 (IntKind.u32.wrap (x1:Int)) 16)) (shlI .u32 (IntKind.u32.wrap (x2:Int)) 8)) (IntKind.u32.wrap (x3:Int)) = ((x0 * 16777216 + x1 * 65536 + x2 * 256 + x3:Nat):Int):=by
 have s0:=shl32 x0 24 (by omega); have s1:=shl32 x1 16 (by omega); have s2:=shl32 x2 8 (by omega)
 have e:∀ x:Nat,x < 256 → IntKind.u32.wrap (x:Int) = (x:Int):=fun x hx=>by rw [w32n,jo (by omega)]
 rw [e _ h0,e _ h1,e _ h2,e _ h3]
 simp only [show ((24:Nat):Int) = 24 from rfl,show ((16:Nat):Int) = 16 from rfl,show ((8:Nat):Int) = 8 from rfl] at s0 s1 s2
 rw [s0,s1,s2,jo (by omega),jo (by omega),jo (by omega),or32 (by omega) (by omega)]
 have a1:x0 * 2 ^ 24 ||| x1 * 2 ^ 16 = (x0 * 256 + x1) * 2 ^ 16:=by rw [zp4 (by omega)]; omega
 rw [a1,or32 (by omega) (by omega)]
 have a2:(x0 * 256 + x1) * 2 ^ 16 ||| x2 * 2 ^ 8 = ((x0 * 256 + x1) * 256 + x2) * 2 ^ 8:=by rw [zp4 (by omega)]; omega
 rw [a2,or32 (by omega) (by omega),zp4 (by omega)]
 congr 1; omega
theorem z2i {A:List Nat} (x:Nat) (h:A.length < 64):(∃ x0,((full A).map encW)[((A.length:Nat):Int).toNat]? = some (encW x0)) ∧
  ∀ z:Int,z = ((x:Nat):Int) → SB.arr 287 1 (((full A).map encW).set ((A.length:Nat):Int).toNat [SA.int .u32 z]) 64 = SB.arr 287 1 ((full (A ++ [x])).map encW) 64:=by
 have hl:=zz9 (A:=A) (by omega)
 refine ⟨⟨(full A)[A.length],?_⟩,?_⟩
 ·rw [ql,qs,qc (by omega)]; rfl
 ·rintro z rfl
  rw [ql,show [SA.int .u32 ((x:Nat):Int)] = encW x from rfl,← qbo,z1n x h]
abbrev zbp (b:List UInt8) (k:Nat):List Nat:=(List.range k).map (word b)
theorem zl3:∀ (n:Nat) (A:List Nat),(grow n A).length = A.length + n
 |0,A=>rfl
 |n + 1,A=>by rw [grow,zl3 n,qa]; simp; omega
theorem znv:∀ (n:Nat) (A:List Nat),grow (n + 1) A = grow n A ++ [nxt (grow n A)]
 |0,A=>rfl
 |n + 1,A=>by rw [grow,znv n,grow]
theorem z7q (w:List Nat):nxt w < 4294967296:=qat _ (by omega)
theorem zpm:∀ (n:Nat) (A:List Nat),(∀ x ∈ A,x < 4294967296) → ∀ x ∈ grow n A,x < 4294967296
 |0,_,h=>h
 |n + 1,A,h=>zpm n _ fun x hx=>by
  rcases yl.1 hx with hx | hx
  ·exact h x hx
  ·rw [qy.1 hx]; exact z7q A
theorem zwf (l:List UInt8) (k:Nat):∀ x ∈ zbp l k,x < 4294967296:=fun x hx=>by
 obtain ⟨j,_,rfl⟩:=q9.1 hx
 exact word_lt l j
theorem nxtI (A:List Nat) (i:Nat) (hA:A.length = i) (hb:∀ j,j < i → at0 A j < 4294967296) (h16:16 ≤ i) :
  IntKind.u32.wrap (IntKind.u32.wrap (IntKind.u32.wrap ((at0 A (i - 16):Nat) + bXor .u32 (mix (at0 A (i - 15)) [7,18] 0:Nat) (shrI .u32 (at0 A (i - 15):Nat) 3)) + (at0 A (i - 7):Nat)) + bXor .u32 (mix (at0 A (i - 2)) [17,19] 0:Nat) (shrI .u32 (at0 A (i - 2):Nat) 10)) = ((nxt A:Nat):Int):=by
 have b15:=hb (i - 15) (by omega); have b2:=hb (i - 2) (by omega); have b7:=hb (i - 7) (by omega); have b16:=hb (i - 16) (by omega)
 have s3:=shr32 (at0 A (i - 15)) 3 (by omega); have s10:=shr32 (at0 A (i - 2)) 10 (by omega)
 simp only [show ((3:Nat):Int) = 3 from rfl,show ((10:Nat):Int) = 10 from rfl,show (2:Nat) ^ 3 = 8 from rfl,show (2:Nat) ^ 10 = 1024 from rfl] at s3 s10
 rw [s3,s10,xor32 (zsa _ b15 _ _ (by decide)) (yg (qbj _ _) b15),xor32 (zsa _ b2 _ _ (by decide)) (yg (qbj _ _) b2)]
 unfold nxt
 rw [hA,w32,w32,w32]
 omega
theorem z5d {L:List Nat} {n:Nat} (h:L.length = n):(List.range n).map (fun j=>at0 L j) = L:=by
 refine List.ext_getElem (by simp [h]) fun j h1 h2=>?_
 simp only [List.getElem_map,List.getElem_range]
 unfold at0
 rw [qc h2]; rfl
theorem znw (L:List Nat):(L.map encW).flatten = L.map wd:=by
 induction L with
 |nil=>rfl
 |cons a r ih=>simpa [encW] using ih
theorem znq {α:Type}:∀ (l:List α),takeN l.length l = some l
 |[]=>rfl
 |x :: r=>by simp [takeN,znq r]
theorem zsk {α:Type}:∀ (l v:List α),l.length = v.length → setN l v = some v
 |[],[],_=>rfl
 |[],_ :: _,h=>by simp at h
 |_ :: _,[],h=>by simp at h
 |x :: r,y :: v,h=>by simp [setN,zsk r v (by simpa using h)]
abbrev at64 (L:List Nat):List SA:=(List.range 64).map fun j=>wd (at0 L j)
theorem zib {L:List Nat} (h:L.length = 64):at64 L = L.map wd:=by
 have:=congrArg (List.map wd) (z5d h)
 rw [yd] at this
 exact this
theorem zxc {L:List Nat} (h:L.length = 64):zd6 (L.map encW).flatten 0 64 = some (at64 L):=by
 rw [zib h,znw]
 have:=znq (L.map wd)
 rw [qb,h] at this
 unfold zd6
 cases hL:L.map wd with
 |nil=>rw [hL] at this; exact this
 |cons a r=>rw [hL] at this; exact this
theorem set64 {L:List Nat} (h:L.length = 64):setAt (L.map encW).flatten 0 (at64 L) = some (L.map encW).flatten:=by
 rw [zib h,znw]
 have:=zsk (L.map wd) (L.map wd) rfl
 unfold setAt
 cases hL:L.map wd with
 |nil=>rw [hL] at this; exact this
 |cons a r=>rw [hL] at this; exact this
theorem zp6 (F:Fz) (sa:SA) (l:List UInt8) (ha:Sl F 5 1 encB sa l) (hl:l.length = 64) :
  Fo Tryz.prog F 230 [.va sa] (fun o F'=>o = .ret (.agg ((sched l).map wd)) ∧ F' = F):=by
 obtain ⟨han,hab,hae,hac,haL,har,rfl,ha1,ha2,ha3,ha4⟩:=ha
 refine fo_of hΘ Tryz.func230 rfl (by decide) _ _ rfl rfl rfl ?_;conv=>whnf
 refine zvh 1 (.arr 287 1 ((full []).map encW) 64) rfl (zmm rfl rfl) (zg3 rfl) ?_
 refine zan hΘ (X:={ k:Nat // k ≤ 16 }) (fun k=>[(7,.va (.int .i64 k.1))]) [3,8,9,10,11,12,13,14,15,16,17,18,19,20,21,22,23,24,25,26,27,28,29,30,31,32,33,34,35,36,37,38,39,40,41,42,43,44,45] (fun k=>[(0,.frz F),(1,rowW (zbp l k.1))]) 2 (fun k=>16 - k.1) ⟨0,by simp⟩
  (fun hH hT=>leI [] hH hT rfl ⟨tv,zdb 2 (full (zbp l 0)) 64,tv⟩ ⟨rfl,tv⟩ ⟨Fz.r F,(zex _ (full (zbp l 0)) 64).symm,tv⟩) ?_
 rintro ⟨k,hk⟩ hH hT
 by_cases g:k < 16
 ·have e0:IntKind.i64.wrap (4 * (k:Int)) = ((4 * k + 0:Nat):Int):=by rw [zal (by omega) (by omega)]; omega
  have e1:IntKind.i64.wrap (IntKind.i64.wrap (4 * (k:Int)) + 1) = ((4 * k + 1:Nat):Int):=by rw [e0,zal (by omega) (by omega)]; omega
  have e2:IntKind.i64.wrap (IntKind.i64.wrap (4 * (k:Int)) + 2) = ((4 * k + 2:Nat):Int):=by rw [e0,zal (by omega) (by omega)]; omega
  have e3:IntKind.i64.wrap (IntKind.i64.wrap (4 * (k:Int)) + 3) = ((4 * k + 3:Nat):Int):=by rw [e0,zal (by omega) (by omega)]; omega
  have g0:4 * k + 0 < l.length:=by omega
  have g1:4 * k + 1 < l.length:=by omega
  have g2:4 * k + 2 < l.length:=by omega
  have g3:4 * k + 3 < l.length:=by omega
  have hw:=wordI l k l[4 * k + 0].toNat l[4 * k + 1].toNat l[4 * k + 2].toNat l[4 * k + 3].toNat (qce _) (qce _) (qce _) (qce _)
  have hwk:(l[4 * k + 0].toNat * 16777216 + l[4 * k + 1].toNat * 65536 + l[4 * k + 2].toNat * 256 + l[4 * k + 3].toNat:Nat) = word l k:=by
   unfold word
   rw [qc g1,qc g2,qc g3,show l[4 * k]? = some l[4 * k + 0] from qc g0]
   rfl
  rw [hwk] at hw
  have hrow:=z2i (A:=zbp l k) (word l k) (by simp; omega)
  have hnext:zbp l k ++ [word l k] = zbp l (k + 1):=by rw [zbp,zbp,qcu,q5]; rfl
  rw [show (zbp l k).length = k by simp,hnext] at hrow
  obtain ⟨⟨x0,hx0⟩,hrow⟩:=hrow
  conv=>whnf
  refine br (fun _=>?_) (fun h=>absurd h (by simp; omega));conv=>whnf
  refine drawP hΘ mixed (lk [0,1,2,3,4,5,6,7,8,9,10,11,12,13,14,15,16,17,18,19,20,21,22,23,24,25,26,27,28,29,30,31,32,33,34] (.last 35 .done)) [] (by kernel_rfl) ?_;conv=>whnf
  refine ⟨Sl.lt ha1 g0,⟨by rw [e0]; omega,by rw [e0]; omega⟩,?_⟩;conv=>whnf
  refine ⟨rfl,?_⟩;conv=>whnf
  refine ⟨_,ha2 (Sl.lt ha1 g0),?_⟩;conv=>whnf
  refine ⟨encB l[4 * k + 0],(by rw [e0]; exact Sl.at ha4 g0),?_⟩;conv=>whnf
  refine ⟨by decide,?_⟩;conv=>whnf
  refine ⟨Sl.lt ha1 g1,⟨by rw [e1]; omega,by rw [e1]; omega⟩,?_⟩;conv=>whnf
  refine ⟨rfl,?_⟩;conv=>whnf
  refine ⟨_,ha2 (Sl.lt ha1 g1),?_⟩;conv=>whnf
  refine ⟨encB l[4 * k + 1],(by rw [e1]; exact Sl.at ha4 g1),?_⟩;conv=>whnf
  refine ⟨by decide,?_⟩;conv=>whnf
  refine ⟨Sl.lt ha1 g2,⟨by rw [e2]; omega,by rw [e2]; omega⟩,?_⟩;conv=>whnf
  refine ⟨rfl,?_⟩;conv=>whnf
  refine ⟨_,ha2 (Sl.lt ha1 g2),?_⟩;conv=>whnf
  refine ⟨encB l[4 * k + 2],(by rw [e2]; exact Sl.at ha4 g2),?_⟩;conv=>whnf
  refine ⟨by decide,?_⟩;conv=>whnf
  refine ⟨Sl.lt ha1 g3,⟨by rw [e3]; omega,by rw [e3]; omega⟩,?_⟩;conv=>whnf
  refine ⟨rfl,?_⟩;conv=>whnf
  refine ⟨_,ha2 (Sl.lt ha1 g3),?_⟩;conv=>whnf
  refine ⟨encB l[4 * k + 3],(by rw [e3]; exact Sl.at ha4 g3),?_⟩;conv=>whnf
  skip
  skip
  refine ⟨⟨by simp,by show (k:Int) < 64; omega⟩,?_⟩;conv=>whnf
  refine ⟨encW x0,hx0,?_⟩;conv=>whnf
  exact ⟨⟨k + 1,by omega⟩,by show 16 - (k + 1) < 16 - k; omega,leR [] hH hT rfl ⟨tv,zdb 2 (full (zbp l (k + 1))) 64,tv⟩ ⟨cnt (by omega),tv⟩ ⟨Fz.r F,(hrow _ hw).trans (zex _ (full (zbp l (k + 1))) 64).symm,tv⟩⟩
 ·have hk':k = 16:=by omega
  subst hk'
  conv=>whnf
  refine brd (by simp) ?_;conv=>whnf
  refine zan hΘ (X:={ i:Nat // 16 ≤ i ∧ i ≤ 64 }) (fun i=>[(4,.va (.int .i64 i.1))]) [5,6,46,47,48,49,50,51,52,53,54,55,56,57,58,59,60,61,62,63,64,65,66,67,68,69,70,71,72,73,74,75,76,77,78,79,80,81,82] (fun i=>[(0,.frz F),(1,rowW (grow (i.1 - 16) (zbp l 16)))]) 2 (fun i=>64 - i.1) ⟨16,by simp⟩
   (fun hH hT=>leI [] hH hT rfl ⟨tv,zdb 2 (full (zbp l 16)) 64,tv⟩ ⟨rfl,tv⟩ ⟨Fz.r F,(zex _ (full (zbp l 16)) 64).symm,tv⟩) ?_
  rintro ⟨i,hi1,hi2⟩ hH hT
  have hAl:(grow (i - 16) (zbp l 16)).length = i:=by rw [zl3]; simp; omega
  have hA:=zpm (i - 16) (zbp l 16) (zwf l 16)
  by_cases g:i < 64
  ·have e15:IntKind.i64.wrap ((i:Int) - 15) = ((i - 15:Nat):Int):=by rw [zal (by omega) (by omega)]; omega
   have e2:IntKind.i64.wrap ((i:Int) - 2) = ((i - 2:Nat):Int):=by rw [zal (by omega) (by omega)]; omega
   have e16:IntKind.i64.wrap ((i:Int) - 16) = ((i - 16:Nat):Int):=by rw [zal (by omega) (by omega)]; omega
   have e7:IntKind.i64.wrap ((i:Int) - 7) = ((i - 7:Nat):Int):=by rw [zal (by omega) (by omega)]; omega
   have hget:∀ j:Nat,j < i → ((full (grow (i - 16) (zbp l 16))).map encW)[(j:Int).toNat]? = some (encW (at0 (grow (i - 16) (zbp l 16)) j)):=fun j hj=>by
    rw [ql,qs,zz0 (by rw [hAl]; exact hj)]; rfl
   have hb:∀ j:Nat,j < i → at0 (grow (i - 16) (zbp l 16)) j < 4294967296:=fun j hj=>hA _ (zqo (by rw [hAl]; exact hj))
   have q15:i - 15 < i:=by omega
   have q2:i - 2 < i:=by omega
   have q16:i - 16 < i:=by omega
   have q7:i - 7 < i:=by omega
   have hrow:=z2i (A:=grow (i - 16) (zbp l 16)) (nxt (grow (i - 16) (zbp l 16))) (by omega)
   rw [← znv,hAl,show i - 16 + 1 = i + 1 - 16 by omega] at hrow
   obtain ⟨⟨x0,hx0⟩,hrow⟩:=hrow
   have hnx:=nxtI (grow (i - 16) (zbp l 16)) i hAl hb hi1
   conv=>whnf
   refine br (fun _=>?_) (fun h=>absurd h (by simp; omega));conv=>whnf
   refine drawP hΘ mixed (lk [0,1,2,3,4,5,6,7,8,9] .done) [1] (by kernel_rfl) ?_;conv=>whnf
   refine ⟨⟨by rw [e15]; omega,by rw [e15]; show ((i - 15:Nat):Int) < 64; omega⟩,?_⟩;conv=>whnf
   refine ⟨rfl,?_⟩;conv=>whnf
   refine ⟨encW (at0 (grow (i - 16) (zbp l 16)) (i - 15)),(by rw [e15]; exact hget (i - 15) q15),?_⟩;conv=>whnf
   refine ⟨⟨by rw [e2]; omega,by rw [e2]; show ((i - 2:Nat):Int) < 64; omega⟩,?_⟩;conv=>whnf
   refine ⟨rfl,?_⟩;conv=>whnf
   refine ⟨encW (at0 (grow (i - 16) (zbp l 16)) (i - 2)),(by rw [e2]; exact hget (i - 2) q2),?_⟩;conv=>whnf
   refine drawP hΘ mixed (lk [0,1,2,3,4,5,8,9,12,13,14,15,17,20,21] (.alt 6 (.alt 7 (lk [10,11,16] (.alt 18 (.alt 19 (lk [22,23,24] (.last 25 .done)) .nil) .nil)) (.alt 18 (.alt 7 (lk [10,11,16] (.alt 19 (lk [22,23,24] (.last 25 .done)) .nil)) .nil) .nil)) (.alt 18 (.alt 6 (.alt 7 (lk [10,11,16] (.alt 19 (lk [22,23,24] (.last 25 .done)) .nil)) .nil) .nil) .nil))) [1] (by kernel_rfl) ?_;conv=>whnf
   refine ⟨⟨by rw [e16]; omega,by rw [e16]; show ((i - 16:Nat):Int) < 64; omega⟩,?_⟩;conv=>whnf
   refine ⟨rfl,?_⟩;conv=>whnf
   refine ⟨encW (at0 (grow (i - 16) (zbp l 16)) (i - 16)),(by rw [e16]; exact hget (i - 16) q16),?_⟩;conv=>whnf
   refine ⟨by decide,?_⟩;conv=>whnf
   refine ⟨⟨by rw [e7]; omega,by rw [e7]; show ((i - 7:Nat):Int) < 64; omega⟩,?_⟩;conv=>whnf
   refine ⟨rfl,?_⟩;conv=>whnf
   refine ⟨encW (at0 (grow (i - 16) (zbp l 16)) (i - 7)),(by rw [e7]; exact hget (i - 7) q7),?_⟩;conv=>whnf
   refine ⟨by decide,?_⟩;conv=>whnf
   have m1:∀ n ∈ [7,18],1 ≤ n ∧ n < 32:=by decide
   have m2:∀ n ∈ [17,19],1 ≤ n ∧ n < 32:=by decide
   refine ⟨?_,?_⟩
   ·conv=>whnf
    refine ⟨Fz.r F,rfl,?_⟩;conv=>whnf
    refine ⟨?_,?_⟩
    ·conv=>whnf
     refine mixU [7,18] (hb _ q15) m1 (by decide) 2 rfl rfl rfl ?_
     refine ⟨Fz.r F,rfl,?_⟩;conv=>whnf
     refine ⟨Fz.r F,rfl,?_⟩;conv=>whnf
     refine mixU [17,19] (hb _ q2) m2 (by decide) 3 rfl rfl rfl ?_
     refine ⟨Fz.r F,rfl,?_⟩;conv=>whnf
     refine ⟨⟨by simp,by show (i:Int) < 64; omega⟩,?_⟩;conv=>whnf
     refine ⟨encW x0,hx0,?_⟩;conv=>whnf
     exact ⟨⟨i + 1,by omega,by omega⟩,by show 64 - (i + 1) < 64 - i; omega,leR [] hH hT rfl ⟨tv,zdb 2 (full (grow (i + 1 - 16) (zbp l 16))) 64,tv⟩ ⟨cnt (by omega),tv⟩ ⟨Fz.r F,(hrow _ hnx).trans (zex _ (full (grow (i + 1 - 16) (zbp l 16))) 64).symm,tv⟩⟩
    ·conv=>whnf
     refine ⟨Fz.r F,rfl,?_⟩;conv=>whnf
     refine mixU [7,18] (hb _ q15) m1 (by decide) 2 rfl rfl rfl ?_
     refine ⟨Fz.r F,rfl,?_⟩;conv=>whnf
     refine mixU [17,19] (hb _ q2) m2 (by decide) 3 rfl rfl rfl ?_
     refine ⟨Fz.r F,rfl,?_⟩;conv=>whnf
     refine ⟨⟨by simp,by show (i:Int) < 64; omega⟩,?_⟩;conv=>whnf
     refine ⟨encW x0,hx0,?_⟩;conv=>whnf
     exact ⟨⟨i + 1,by omega,by omega⟩,by show 64 - (i + 1) < 64 - i; omega,leR [] hH hT rfl ⟨tv,zdb 2 (full (grow (i + 1 - 16) (zbp l 16))) 64,tv⟩ ⟨cnt (by omega),tv⟩ ⟨Fz.r F,(hrow _ hnx).trans (zex _ (full (grow (i + 1 - 16) (zbp l 16))) 64).symm,tv⟩⟩
   ·conv=>whnf
    refine ⟨Fz.r F,rfl,?_⟩;conv=>whnf
    refine ⟨Fz.r F,rfl,?_⟩;conv=>whnf
    refine mixU [7,18] (hb _ q15) m1 (by decide) 3 rfl rfl rfl ?_
    refine ⟨Fz.r F,rfl,?_⟩;conv=>whnf
    refine mixU [17,19] (hb _ q2) m2 (by decide) 2 rfl rfl rfl ?_
    refine ⟨Fz.r F,rfl,?_⟩;conv=>whnf
    refine ⟨⟨by simp,by show (i:Int) < 64; omega⟩,?_⟩;conv=>whnf
    refine ⟨encW x0,hx0,?_⟩;conv=>whnf
    exact ⟨⟨i + 1,by omega,by omega⟩,by show 64 - (i + 1) < 64 - i; omega,leR [] hH hT rfl ⟨tv,zdb 2 (full (grow (i + 1 - 16) (zbp l 16))) 64,tv⟩ ⟨cnt (by omega),tv⟩ ⟨Fz.r F,(hrow _ hnx).trans (zex _ (full (grow (i + 1 - 16) (zbp l 16))) 64).symm,tv⟩⟩
  ·have hi:i = 64:=by omega
   subst hi
   have hf:full (grow 48 (zbp l 16)) = sched l:=z1f hAl
   have hfl:(full (grow 48 (zbp l 16))).length = 64:=by rw [hf]; exact hAl
   have hend:∀ μ:Mu,(at64 (full (grow 48 (zbp l 16)))).map (SA.ren μ) = (sched l).map wd:=fun μ=>by
    rw [zib hfl,hf,yd]; rfl
   conv=>whnf
   refine brd (by simp) ?_;conv=>whnf
   refine ⟨at64 (full (grow 48 (zbp l 16))),zxc hfl,?_⟩;conv=>whnf
   refine ⟨(full (grow 48 (zbp l 16))).map encW,?_,rfl,set64 hfl,?_⟩
   ·intro x hx
    obtain ⟨y,_,rfl⟩:=q9.1 hx
    rfl
   conv=>whnf
   refine ⟨at64 (full (grow 48 (zbp l 16))),zxc hfl,?_⟩;conv=>whnf
   exact endPu rfl (Fz.r F) (congrArg SV.agg (hend _).symm) (by simp [SV.z,SA.z])
def RNDF (F:Fz):Prop:=F 0 = some (.arr 287 1 (konst.map encW) 64)
theorem RNDF.mono {F F':Fz} (h:RNDF F) (hle:Fz.le F F'):RNDF F':=hle _ _ h
theorem zer:konst.length = 64:=rfl
theorem zyd:∀ x ∈ konst,x < 4294967296:=by decide +kernel
theorem zno (l:List UInt8):(sched l).length = 64:=by rw [sched,zl3]; simp
theorem zxs (l:List UInt8):∀ x ∈ sched l,x < 4294967296:=zpm _ _ (zwf l 16)
theorem zpf {F:Fz} {sa:SA} {l:List UInt8} (ha:Sl F 5 1 encB sa l) (hl:l.length = 64) :
  Fo Tryz.prog F 230 [.va sa] (fun o F'=>o = .ret (.agg (at64 (sched l))) ∧ F' = F):=by
 have:=zp6 F sa l ha hl
 rw [← zib (zno l)] at this
 exact this
theorem zoh {L:List Nat} (h:L.length = 64):L.map encW = sing (at64 L):=by
 rw [zib h,sing,yd]; rfl
theorem zxk {L:List Nat} {k:Nat} {x:SA} (h:(L.map wd)[k]? = some x) (hL:L.length = 64:=by exact zer):(at64 L)[((k:Nat):Int).toNat]? = some x:=by
 rw [zib hL,ql]; exact h
def w8 (v:W8):List SA:=[wd v.a,wd v.b,wd v.c,wd v.d,wd v.e,wd v.f,wd v.g,wd v.h]
structure W8.Ok (v:W8):Prop where
 a:v.a < 4294967296
 b:v.b < 4294967296
 c:v.c < 4294967296
 d:v.d < 4294967296
 e:v.e < 4294967296
 f:v.f < 4294967296
 g:v.g < 4294967296
 h:v.h < 4294967296
theorem m32 (x:Nat):x % 4294967296 < 4294967296:=qat x (yp yk (Nat.le_add_left 1 4294967295))
theorem zzs {k w:Nat} {v:W8} (h:v.Ok):(step8 k w v).Ok:=⟨m32 _,h.a,h.b,h.c,m32 _,h.e,h.f,h.g⟩
theorem z6m (v u:W8):(add8 v u).Ok:=⟨m32 _,m32 _,m32 _,m32 _,m32 _,m32 _,m32 _,m32 _⟩
theorem zpp (l:List (Nat × Nat)) (x:Nat × Nat) (v:W8):zf2 (l ++ [x]) v = step8 x.1 x.2 (zf2 l v):=by
 unfold zf2
 rw [qaq,y4,qav]
theorem wC8 {t:Nat} {a b c d e f g h:Int} {v:W8} (ha:a = v.a) (hb:b = v.b) (hc:c = v.c) (hd:d = v.d) (he:e = v.e) (hf:f = v.f) (hg:g = v.g) (hh:h = v.h) :
  SB.cells t [.int .u32 a,.int .u32 b,.int .u32 c,.int .u32 d,.int .u32 e,.int .u32 f,.int .u32 g,.int .u32 h] = SB.cells t (w8 v):=by
 subst ha hb hc hd he hf hg hh; rfl
theorem stepI {k w:Nat} {v:W8} (h:v.Ok) (hk:k < 4294967296) (hw:w < 4294967296) :
  IntKind.u32.wrap (IntKind.u32.wrap (IntKind.u32.wrap (IntKind.u32.wrap ((v.h:Nat) + (mix v.e [6,11,25] 0:Nat)) + bXor .u32 (bAnd .u32 (v.e:Nat) (v.f:Nat)) (bAnd .u32 (bXor .u32 4294967295 (v.e:Nat)) (v.g:Nat))) + (k:Nat)) + (w:Nat)) =
   (((v.h + mix v.e [6,11,25] 0 + ((v.e &&& v.f) ^^^ ((4294967295 - v.e) &&& v.g)) + k + w) % 4294967296:Nat):Int):=by
 rw [not32 h.e,and32 h.e h.f,and32 (by omega) h.g,xor32 (yg qbz h.e) (yg Nat.and_le_right h.g),w32,w32,w32,w32]
 omega
theorem stepJ {v:W8} (h:v.Ok) :
  IntKind.u32.wrap ((mix v.a [2,13,22] 0:Nat) + bXor .u32 (bXor .u32 (bAnd .u32 (v.a:Nat) (v.b:Nat)) (bAnd .u32 (v.a:Nat) (v.c:Nat))) (bAnd .u32 (v.b:Nat) (v.c:Nat))) =
   (((mix v.a [2,13,22] 0 + ((v.a &&& v.b) ^^^ (v.a &&& v.c) ^^^ (v.b &&& v.c))) % 4294967296:Nat):Int):=by
 have hab:v.a &&& v.b < 4294967296:=yg qbz h.a
 have hac:v.a &&& v.c < 4294967296:=yg qbz h.a
 have hbc:v.b &&& v.c < 4294967296:=yg qbz h.b
 rw [and32 h.a h.b,and32 h.a h.c,and32 h.b h.c,xor32 hab hac,xor32 (qcc (n:=32) hab hac) hbc,w32]
 omega
theorem stepA {k w:Nat} {v:W8} (h:v.Ok) (hk:k < 4294967296) (hw:w < 4294967296) :
  IntKind.u32.wrap (IntKind.u32.wrap (IntKind.u32.wrap (IntKind.u32.wrap (IntKind.u32.wrap ((v.h:Nat) + (mix v.e [6,11,25] 0:Nat)) + bXor .u32 (bAnd .u32 (v.e:Nat) (v.f:Nat)) (bAnd .u32 (bXor .u32 4294967295 (v.e:Nat)) (v.g:Nat))) + (k:Nat)) + (w:Nat)) +
   IntKind.u32.wrap ((mix v.a [2,13,22] 0:Nat) + bXor .u32 (bXor .u32 (bAnd .u32 (v.a:Nat) (v.b:Nat)) (bAnd .u32 (v.a:Nat) (v.c:Nat))) (bAnd .u32 (v.b:Nat) (v.c:Nat)))) = (((step8 k w v).a:Nat):Int):=by
 rw [stepI h hk hw,stepJ h,← qby,w32n]
 rfl
theorem stepE {k w:Nat} {v:W8} (h:v.Ok) (hk:k < 4294967296) (hw:w < 4294967296) :
  IntKind.u32.wrap ((v.d:Nat) + IntKind.u32.wrap (IntKind.u32.wrap (IntKind.u32.wrap (IntKind.u32.wrap ((v.h:Nat) + (mix v.e [6,11,25] 0:Nat)) + bXor .u32 (bAnd .u32 (v.e:Nat) (v.f:Nat)) (bAnd .u32 (bXor .u32 4294967295 (v.e:Nat)) (v.g:Nat))) + (k:Nat)) + (w:Nat))) = (((step8 k w v).e:Nat):Int):=by
 rw [stepI h hk hw,← qby,w32n]
 rfl
theorem add32 (x y:Nat):IntKind.u32.wrap ((x:Int) + (y:Int)) = (((x + y) % 4294967296:Nat):Int):=by rw [← qby,w32n]
abbrev rowS (A:List Nat):Ent:=.one (.arr 287 1 (A.map encW) 64)
theorem zdy (n t:Nat) (v:W8):(SB.cells t (w8 v)).below n:=by
 intro a ha
 simp only [w8,qj,qq,or_false] at ha
 rcases ha with rfl | rfl | rfl | rfl | rfl | rfl | rfl | rfl<;>trivial
theorem z8t (F:Fz) (hR:RNDF F) (sa:SA) (l:List UInt8) (v:W8) (ha:Sl F 5 1 encB sa l) (hl:l.length = 64) (hv:v.Ok) :
  Ct Tryz.prog 175 [.va (.ptr ⟨1,0,0,0,0⟩),.va sa] F [(1,.one (.cells 246 (w8 v)))] 2 (fun o F' h n=>o = .ret (.tup []) ∧ F' = F ∧ h = [(1,.one (.cells 246 (w8 (zg5 l v))))] ∧ n = 2):=by
 have hS:=zpf ha hl
 obtain ⟨W,hW,hWl,hWb⟩:∃ W,sched l = W ∧ W.length = 64 ∧ ∀ x ∈ W,x < 4294967296:=⟨_,rfl,zno l,zxs l⟩
 rw [hW] at hS
 have hbl:zg5 l v = add8 v (zf2 (konst.zip W) v):=by rw [zg5,hW]
 obtain ⟨han,hab,hae,hac,haL,har,rfl,ha1,ha2,ha3,ha4⟩:=ha
 refine ct_of hΘ Tryz.func175 rfl (by decide) _ _ rfl rfl rfl ?_;conv=>whnf
 refine usePu (hS) rfl (zaa _) rfl ?_;conv=>whnf
 conv=>whnf
 refine ⟨_,hR,?_⟩;conv=>whnf
 refine ⟨at64 konst,zxc zer,?_⟩;conv=>whnf
 refine zvh 2 (.arr 287 1 (W.map encW) 64) rfl (zmm (zoh hWl) rfl) (zg3 (zoh hWl)) ?_
 refine zan hΘ (X:={ x:Nat × W8 // x.1 ≤ 64 ∧ x.2 = zf2 ((konst.zip W).take x.1) v ∧ x.2.Ok }) (fun x=>[(19,.va (.int .i64 x.1.1))]) [6,7,8,9,10,11,20,21,22,23,24,25,26,27,28,29,30,31,32,33,34,35,36,37,38,39,40,41,42,43,44,45,46,47,48,49,50,51,52,53,54,55,56,57,58,59,60,61,62,63,64,65,66,67,68,69,70,71,72,73,74,75,76,77,78,79,80,81] (fun x=>[(0,.frz F),(1,.one (.cells 246 (w8 v))),(2,rowS W),(3,.one (.cells 246 (w8 x.1.2)))]) 4 (fun x=>64 - x.1.1) ⟨(0,v),by simp,by rw [List.take_zero]; rfl,hv⟩
  (fun hH hT=>leI [] hH hT rfl ⟨tv,zdy 4 246 v,zdb 4 W 64,zdy 4 246 v,tv⟩ ⟨rfl,tv⟩ ⟨Fz.r F,rfl,(zex _ W 64).symm,rfl,tv⟩) ?_
 rintro ⟨⟨k,a,b,c,d,e,f,g,hh⟩,hk,hV,hO⟩ hH hT
 replace hk:k ≤ 64:=hk
 by_cases gk:k < 64
 ·have hK:(konst.map wd)[k]? = some (wd (at0 konst k)):=by
   rw [qs]; unfold at0; rw [qc (by rw [zer]; omega)]; rfl
  have hWk:(W.map encW)[((k:Nat):Int).toNat]? = some (encW (at0 W k)):=by
   rw [ql,qs]; unfold at0; rw [qc (by omega)]; rfl
  have hkb:at0 konst k < 4294967296:=zyd _ (zqo (by rw [zer]; omega))
  have hwb:at0 W k < 4294967296:=hWb _ (zqo (by omega))
  have hA:=stepA hO hkb hwb
  have hE:=stepE hO hkb hwb
  have hnext:step8 (at0 konst k) (at0 W k) ⟨a,b,c,d,e,f,g,hh⟩ = zf2 ((konst.zip W).take (k + 1)) v:=by
   have hzl:k < (konst.zip W).length:=by rw [qa1,zer,hWl]; omega
   rw [qi hzl,zpp,qcm,← hV]
   unfold at0
   rw [qc (by rw [zer]; omega),qc (by omega)]
   rfl
  conv=>whnf
  refine br (fun _=>?_) (fun h=>absurd h (by simp; omega));conv=>whnf
  refine ⟨⟨by simp,by show (k:Int) < 64; omega⟩,[wd (at0 konst k)],?_,?_⟩
  ·exact zh3 (zxk hK)
  conv=>whnf
  refine drawP hΘ mixed (lk [0,1,2,3,4,5] .done) [3] (by kernel_rfl) ?_;conv=>whnf
  repeat' ((conv=>whnf); first
   |refine ⟨rfl,?_⟩
   |refine ⟨Fz.r _,rfl,?_⟩
   |refine ⟨Fz.r _,rfl,rfl,?_⟩
   |refine ⟨⟨by simp,by simp⟩,?_⟩
   |fail)
  refine drawP hΘ mixed (lk [0,1,2,6,7,8,9,10,11,12,13,14,15,17,19,20,21] (.alt 3 (.alt 4 (lk [5,16,18,22,23] .done) .nil) .nil)) [2,3] (by kernel_rfl) ?_;conv=>whnf
  repeat' ((conv=>whnf); first
   |refine ⟨rfl,?_⟩
   |refine ⟨encW (at0 W k),hWk,?_⟩
   |refine ⟨⟨qcb k,Int.ofNat_lt.2 gk⟩,?_⟩
   |refine ⟨⟨by decide,by decide⟩,?_⟩
   |fail)
  refine ⟨Fz.r F,rfl,rfl,?_⟩;conv=>whnf
  refine mixU [6,11,25] hO.e (by decide) (by decide) 4 rfl rfl rfl ?_
  refine ⟨Fz.r F,rfl,rfl,?_⟩
  repeat' ((conv=>whnf); first
   |refine ⟨rfl,?_⟩
   |refine ⟨Fz.r _,rfl,?_⟩
   |refine ⟨Fz.r _,rfl,rfl,?_⟩
   |refine ⟨⟨by simp,by simp⟩,?_⟩
   |fail)
  refine drawP hΘ mixed (lk [0,3,4,5,6,7,8,9,10,11,12,13,14,15,16,17] (.alt 1 (.alt 2 (.look 18 (.look 19 .done)) .nil) .nil)) [3] (by kernel_rfl) ?_;conv=>whnf
  repeat' ((conv=>whnf); first
   |refine ⟨rfl,?_⟩
   |refine ⟨Fz.r _,rfl,?_⟩
   |refine ⟨Fz.r _,rfl,rfl,?_⟩
   |refine ⟨⟨by simp,by simp⟩,?_⟩
   |fail)
  refine mixU [2,13,22] hO.a (by decide) (by decide) 5 rfl rfl rfl ?_
  refine ⟨Fz.r F,rfl,?_⟩
  repeat' ((conv=>whnf); first
   |refine ⟨rfl,?_⟩
   |refine ⟨Fz.r _,rfl,?_⟩
   |refine ⟨Fz.r _,rfl,rfl,?_⟩
   |refine ⟨⟨by simp,by simp⟩,?_⟩
   |fail)
  refine drawP hΘ mixed (.look 0 (.look 1 (.last 2 .done))) [3] (by kernel_rfl) ?_;conv=>whnf
  repeat' ((conv=>whnf); first
   |refine ⟨⟨by decide,by decide⟩,?_⟩
   |refine ⟨rfl,?_⟩
   |fail)
  conv=>whnf
  exact ⟨⟨(k + 1,step8 (at0 konst k) (at0 W k) ⟨a,b,c,d,e,f,g,hh⟩),by show k + 1 ≤ 64; omega,hnext,zzs hO⟩,by show 64 - (k + 1) < 64 - k; omega,
   leR [] hH hT rfl ⟨tv,zdy 4 246 v,zdb 4 W 64,zdy 4 246 (step8 (at0 konst k) (at0 W k) ⟨a,b,c,d,e,f,g,hh⟩),tv⟩ ⟨cnt (by omega),tv⟩ ⟨Fz.r F,rfl,(zex _ W 64).symm,wC8 hA rfl rfl rfl hE rfl rfl rfl,tv⟩⟩
 ·have hk':k = 64:=by omega
  subst hk'
  have hfin:(⟨a,b,c,d,e,f,g,hh⟩:W8) = zf2 (konst.zip W) v:=by
   rw [qm (by rw [qa1,zer,hWl]; omega)] at hV; exact hV
  have hB:zg5 l v = add8 v ⟨a,b,c,d,e,f,g,hh⟩:=by rw [hbl,hfin]
  conv=>whnf
  refine brd (by simp) ?_;conv=>whnf
  refine zeo hΘ 8 ?_;conv=>whnf
  refine bre (by decide) ?_;conv=>whnf
  refine drawP hΘ mixed (lk [0,1,2,3,5,6,7,9] (.alt 4 (.look 8 (.look 10 (.alt 11 .done .nil))) .nil)) [3] (by kernel_rfl) ?_;conv=>whnf
  repeat' ((conv=>whnf); first
   |refine ⟨Fz.r F,rfl,?_⟩
   |refine ⟨rfl,?_⟩
   |refine ⟨⟨by decide,by decide⟩,?_⟩
   |fail)
  conv=>whnf
  refine sr_go hΘ ?_;conv=>whnf
  refine bre (by decide) ?_;conv=>whnf
  refine drawP hΘ mixed (lk [0,1,2,3,5,6,7,9] (.alt 4 (.look 8 (.look 10 (.alt 11 .done .nil))) .nil)) [3] (by kernel_rfl) ?_;conv=>whnf
  repeat' ((conv=>whnf); first
   |refine ⟨Fz.r F,rfl,?_⟩
   |refine ⟨rfl,?_⟩
   |refine ⟨⟨by decide,by decide⟩,?_⟩
   |fail)
  conv=>whnf
  refine sr_go hΘ ?_;conv=>whnf
  refine bre (by decide) ?_;conv=>whnf
  refine drawP hΘ mixed (lk [0,1,2,3,5,6,7,9] (.alt 4 (.look 8 (.look 10 (.alt 11 .done .nil))) .nil)) [3] (by kernel_rfl) ?_;conv=>whnf
  repeat' ((conv=>whnf); first
   |refine ⟨Fz.r F,rfl,?_⟩
   |refine ⟨rfl,?_⟩
   |refine ⟨⟨by decide,by decide⟩,?_⟩
   |fail)
  conv=>whnf
  refine sr_go hΘ ?_;conv=>whnf
  refine bre (by decide) ?_;conv=>whnf
  refine drawP hΘ mixed (lk [0,1,2,3,5,6,7,9] (.alt 4 (.look 8 (.look 10 (.alt 11 .done .nil))) .nil)) [3] (by kernel_rfl) ?_;conv=>whnf
  repeat' ((conv=>whnf); first
   |refine ⟨Fz.r F,rfl,?_⟩
   |refine ⟨rfl,?_⟩
   |refine ⟨⟨by decide,by decide⟩,?_⟩
   |fail)
  conv=>whnf
  refine sr_go hΘ ?_;conv=>whnf
  refine bre (by decide) ?_;conv=>whnf
  refine drawP hΘ mixed (lk [0,1,2,3,5,6,7,9] (.alt 4 (.look 8 (.look 10 (.alt 11 .done .nil))) .nil)) [3] (by kernel_rfl) ?_;conv=>whnf
  repeat' ((conv=>whnf); first
   |refine ⟨Fz.r F,rfl,?_⟩
   |refine ⟨rfl,?_⟩
   |refine ⟨⟨by decide,by decide⟩,?_⟩
   |fail)
  conv=>whnf
  refine sr_go hΘ ?_;conv=>whnf
  refine bre (by decide) ?_;conv=>whnf
  refine drawP hΘ mixed (lk [0,1,2,3,5,6,7,9] (.alt 4 (.look 8 (.look 10 (.alt 11 .done .nil))) .nil)) [3] (by kernel_rfl) ?_;conv=>whnf
  repeat' ((conv=>whnf); first
   |refine ⟨Fz.r F,rfl,?_⟩
   |refine ⟨rfl,?_⟩
   |refine ⟨⟨by decide,by decide⟩,?_⟩
   |fail)
  conv=>whnf
  refine sr_go hΘ ?_;conv=>whnf
  refine bre (by decide) ?_;conv=>whnf
  refine drawP hΘ mixed (lk [0,1,2,3,5,6,7,9] (.alt 4 (.look 8 (.look 10 (.alt 11 .done .nil))) .nil)) [3] (by kernel_rfl) ?_;conv=>whnf
  repeat' ((conv=>whnf); first
   |refine ⟨Fz.r F,rfl,?_⟩
   |refine ⟨rfl,?_⟩
   |refine ⟨⟨by decide,by decide⟩,?_⟩
   |fail)
  conv=>whnf
  refine sr_go hΘ ?_;conv=>whnf
  refine bre (by decide) ?_;conv=>whnf
  refine drawP hΘ mixed (lk [0,1,2,3,5,6,7,9] (.alt 4 (.look 8 (.look 10 (.alt 11 .done .nil))) .nil)) [3] (by kernel_rfl) ?_;conv=>whnf
  repeat' ((conv=>whnf); first
   |refine ⟨Fz.r F,rfl,?_⟩
   |refine ⟨rfl,?_⟩
   |refine ⟨⟨by decide,by decide⟩,?_⟩
   |fail)
  conv=>whnf
  refine sr_go hΘ ?_;conv=>whnf
  refine brd (by decide) ?_;conv=>whnf
  exact clean [] (.ret (.tup [])) F [(1,.one (.cells 246 (w8 (add8 v ⟨a,b,c,d,e,f,g,hh⟩))))] 2 ⟨Fz.r F,rfl,rfl,by rw [hB],rfl⟩ trivial rfl rfl (Out.bB_ok (o:=.ret (.tup [])) rfl) ⟨zdy 2 246 (add8 v ⟨a,b,c,d,e,f,g,hh⟩),tv⟩
   ⟨Fz.r F,wC8 (add32 v.a a) (add32 v.b b) (add32 v.c c) (add32 v.d d) (add32 v.e e) (add32 v.f f) (add32 v.g g) (add32 v.h hh),tv⟩
def fullB (A:List UInt8):List UInt8:=A ++ List.replicate (32 - A.length) 0
theorem zug {A:List UInt8} (x:UInt8) (h:A.length < 32):(fullB A).set A.length x = fullB (A ++ [x]):=by
 unfold fullB
 rw [qbs _ _ (qf _),Nat.sub_self,qk,qa]
 obtain ⟨m,hm⟩:∃ m,32 - A.length = m + 1:=⟨31 - A.length,by omega⟩
 rw [hm,qbh,qao,yf,show 32 - (A.length + 1) = m by omega]
 rfl
theorem zou {A:List UInt8} (h:A.length ≤ 32):(fullB A).length = 32:=by simp [fullB]; omega
theorem set1B {A:List UInt8} {j:Nat} {z:Int} (x:UInt8) (hj:j = A.length) (h:A.length < 32) (hz:z = (x.toNat:Int)):((fullB A).map encB).set j [SA.int .u8 z] = (fullB (A ++ [x])).map encB:=by
 subst hj hz
 rw [show [SA.int .u8 (x.toNat:Int)] = encB x from rfl,← qbo,zug x h]
theorem set4B {A:List UInt8} {j0 j1 j2 j3:Nat} {z0 z1 z2 z3:Int} (x:Nat) (h:A.length + 4 ≤ 32) (h0:j0 = A.length) (h1:j1 = A.length + 1) (h2:j2 = A.length + 2) (h3:j3 = A.length + 3)
  (e0:z0 = ((UInt8.ofNat (x / 16777216)).toNat:Int)) (e1:z1 = ((UInt8.ofNat (x / 65536)).toNat:Int)) (e2:z2 = ((UInt8.ofNat (x / 256)).toNat:Int)) (e3:z3 = ((UInt8.ofNat x).toNat:Int)) :
  (((((fullB A).map encB).set j0 [SA.int .u8 z0]).set j1 [SA.int .u8 z1]).set j2 [SA.int .u8 z2]).set j3 [SA.int .u8 z3] = (fullB (A ++ be4 x)).map encB:=by
 rw [set1B _ h0 (by omega) e0,set1B _ (by rw [h1]; simp) (by simp; omega) e1,set1B _ (by rw [h2]; simp) (by simp; omega) e2,set1B _ (by rw [h3]; simp) (by simp; omega) e3]
 congr 2
 simp [be4]
theorem byteI (x n:Nat) (h:n ≤ 32):IntKind.u8.wrap (shrI .u32 (x:Int) (n:Int)) = ((UInt8.ofNat (x / 2 ^ n)).toNat:Int):=by
 rw [shr32 x n h]
 show ((x / 2 ^ n:Nat):Int) % 256 = _
 rw [qal]
 omega
abbrev rowB (A:List UInt8):Ent:=.one (.arr 290 1 ((fullB A).map encB) 32)
theorem zrp (μ:Mu) (L:List UInt8) (c:Nat):(SB.arr 290 1 (L.map encB) c).ren μ = SB.arr 290 1 (L.map encB) c:=by
 show SB.arr 290 1 ((L.map encB).map (List.map (SA.ren μ))) c = _
 rw [yd]; congr 1
theorem zkv (n:Nat) (L:List UInt8) (c:Nat):(SB.arr 290 1 (L.map encB) c).below n:=by
 intro x hx a ha
 obtain ⟨s,_,rfl⟩:=q9.1 hx
 rcases qy.1 ha with rfl
 trivial
theorem zk2 {l:List (List SA)} {i j:Nat} {y x:List SA} (h:i ≠ j) (hx:l[j]? = some x):(l.set i y)[j]? = some x:=by
 rw [qa9 h]; exact hx
def fb (A:List UInt8) (j:Nat):UInt8:=(fullB A)[j]?.getD 0
theorem getB {A:List UInt8} {j n:Nat} (hj:j = n) (h:n < 32) (hA:A.length ≤ 32):((fullB A).map encB)[j]? = some (encB (fb A n)):=by
 have hl:=zou hA
 subst hj
 unfold fb
 rw [qs,qc (by omega)]; rfl
def wl (v:W8):List Nat:=[v.a,v.b,v.c,v.d,v.e,v.f,v.g,v.h]
def preB (v:W8) (i:Nat):List UInt8:=((wl v).take i).flatMap be4
theorem zq6 (v:W8) {i:Nat} (h:i ≤ 8):(preB v i).length = 4 * i:=by
 have hc:i = 0 ∨ i = 1 ∨ i = 2 ∨ i = 3 ∨ i = 4 ∨ i = 5 ∨ i = 6 ∨ i = 7 ∨ i = 8:=by omega
 rcases hc with rfl | rfl | rfl | rfl | rfl | rfl | rfl | rfl | rfl<;>rfl
theorem zty (v:W8) {i:Nat} (h:i < 8):preB v (i + 1) = preB v i ++ be4 (at0 (wl v) i):=by
 unfold preB at0
 rw [qi (show i < (wl v).length from h),List.flatMap_append,qc (show i < (wl v).length from h)]
 simp
theorem z1m (v:W8):preB v 8 = zf9 v:=by
 simp [preB,wl,zf9,List.take,List.flatMap_cons]
theorem setI (v:W8) {i j0 j1 j2 j3:Nat} {t0 t1 t2 t3:Int} (hi:i < 8) (h0:j0 = 4 * i + 0) (h1:j1 = 4 * i + 1) (h2:j2 = 4 * i + 2) (h3:j3 = 4 * i + 3) (e0:t0 = ((24:Nat):Int)) (e1:t1 = ((16:Nat):Int)) (e2:t2 = ((8:Nat):Int)) (e3:t3 = ((0:Nat):Int)) :
  (((((fullB (preB v i)).map encB).set j0 [SA.int .u8 (IntKind.u8.wrap (shrI .u32 ((at0 (wl v) i:Nat):Int) t0))]).set j1 [SA.int .u8 (IntKind.u8.wrap (shrI .u32 ((at0 (wl v) i:Nat):Int) t1))]).set j2 [SA.int .u8 (IntKind.u8.wrap (shrI .u32 ((at0 (wl v) i:Nat):Int) t2))]).set j3 [SA.int .u8 (IntKind.u8.wrap (shrI .u32 ((at0 (wl v) i:Nat):Int) t3))] = (fullB (preB v (i + 1))).map encB:=by
 have hl:=zq6 v (show i ≤ 8 by omega)
 subst e0 e1 e2 e3
 have b0:=byteI (at0 (wl v) i) 24 (by omega)
 have b1:=byteI (at0 (wl v) i) 16 (by omega)
 have b2:=byteI (at0 (wl v) i) 8 (by omega)
 have b3:=byteI (at0 (wl v) i) 0 (by omega)
 rw [show 2 ^ 24 = 16777216 from rfl] at b0
 rw [show 2 ^ 16 = 65536 from rfl] at b1
 rw [show 2 ^ 8 = 256 from rfl] at b2
 rw [Nat.pow_zero,Nat.div_one] at b3
 rw [set4B (A:=preB v i) (at0 (wl v) i) (by omega) (by omega) (by omega) (by omega) (by omega) b0 b1 b2 b3,zty v hi]
theorem s24:IntKind.i64.wrap (24 - IntKind.i64.wrap (8 * 0)) = ((24:Nat):Int):=by decide
theorem s16:IntKind.i64.wrap (24 - IntKind.i64.wrap (8 * 1)) = ((16:Nat):Int):=by decide
theorem s8:IntKind.i64.wrap (24 - IntKind.i64.wrap (8 * 2)) = ((8:Nat):Int):=by decide
theorem s0:IntKind.i64.wrap (24 - IntKind.i64.wrap (8 * 3)) = ((0:Nat):Int):=by decide
theorem zu8 (F:Fz) (v:W8) (hv:v.Ok):Fo Tryz.prog F 176 [.agg (w8 v)] (fun o F'=>o = .ret (.va (.str (zf9 v))) ∧ F' = F):=by
 refine fo_of hΘ Tryz.func176 rfl (by decide) _ _ rfl rfl rfl ?_;conv=>whnf
 refine zvh 2 (.arr 290 1 ((fullB []).map encB) 32) rfl (zmm rfl rfl) (zg3 rfl) ?_
 refine zan hΘ (X:={ i:Nat // i ≤ 8 }) (fun i=>[(8,.va (.int .i64 i.1))]) [4,5,6,9,10,11,12,13,14,15,16,17,18,19,20,21,22,23,24,25,26,27] (fun i=>[(0,.frz F),(2,rowB (preB v i.1))]) 3 (fun i=>8 - i.1) ⟨0,by simp⟩
  (fun hH hT=>leI [] hH hT rfl ⟨tv,zkv 3 (fullB []) 32,tv⟩ ⟨rfl,tv⟩ ⟨Fz.r F,(zrp _ (fullB []) 32).symm,tv⟩) ?_
 rintro ⟨i,hi⟩ hH hT
 by_cases g:i < 8
 ·have hx:zd6 (w8 v) (((i:Nat):Int).toNat * 1) 1 = some [wd (at0 (wl v) i)]:=zh3 (by
   rw [ql,show w8 v = (wl v).map wd from rfl,qs]; unfold at0
   rw [qc (show i < (wl v).length from g)]; rfl)
  have e0:IntKind.i64.wrap (IntKind.i64.wrap (4 * (i:Int)) + 0) = ((4 * i + 0:Nat):Int):=by rw [zal (n:=4 * (i:Int)) (by omega) (by omega),zal (by omega) (by omega)]; omega
  have e1:IntKind.i64.wrap (IntKind.i64.wrap (4 * (i:Int)) + 1) = ((4 * i + 1:Nat):Int):=by rw [zal (n:=4 * (i:Int)) (by omega) (by omega),zal (by omega) (by omega)]; omega
  have e2:IntKind.i64.wrap (IntKind.i64.wrap (4 * (i:Int)) + 2) = ((4 * i + 2:Nat):Int):=by rw [zal (n:=4 * (i:Int)) (by omega) (by omega),zal (by omega) (by omega)]; omega
  have e3:IntKind.i64.wrap (IntKind.i64.wrap (4 * (i:Int)) + 3) = ((4 * i + 3:Nat):Int):=by rw [zal (n:=4 * (i:Int)) (by omega) (by omega),zal (by omega) (by omega)]; omega
  have q0:(IntKind.i64.wrap (IntKind.i64.wrap (4 * (i:Int)) + 0)).toNat = 4 * i + 0:=by rw [e0]; exact ql _
  have q1:(IntKind.i64.wrap (IntKind.i64.wrap (4 * (i:Int)) + 1)).toNat = 4 * i + 1:=by rw [e1]; exact ql _
  have q2:(IntKind.i64.wrap (IntKind.i64.wrap (4 * (i:Int)) + 2)).toNat = 4 * i + 2:=by rw [e2]; exact ql _
  have q3:(IntKind.i64.wrap (IntKind.i64.wrap (4 * (i:Int)) + 3)).toNat = 4 * i + 3:=by rw [e3]; exact ql _
  have hl:=zq6 v hi
  have hfl:=zou (A:=preB v i) (by omega)
  have hb0:=getB (A:=preB v i) q0 (by omega) (by omega)
  have hb1:=getB (A:=preB v i) q1 (by omega) (by omega)
  have hb2:=getB (A:=preB v i) q2 (by omega) (by omega)
  have hb3:=getB (A:=preB v i) q3 (by omega) (by omega)
  have n01:(IntKind.i64.wrap (IntKind.i64.wrap (4 * (i:Int)) + 0)).toNat ≠ (IntKind.i64.wrap (IntKind.i64.wrap (4 * (i:Int)) + 1)).toNat:=by rw [q0,q1]; omega
  have n02:(IntKind.i64.wrap (IntKind.i64.wrap (4 * (i:Int)) + 0)).toNat ≠ (IntKind.i64.wrap (IntKind.i64.wrap (4 * (i:Int)) + 2)).toNat:=by rw [q0,q2]; omega
  have n03:(IntKind.i64.wrap (IntKind.i64.wrap (4 * (i:Int)) + 0)).toNat ≠ (IntKind.i64.wrap (IntKind.i64.wrap (4 * (i:Int)) + 3)).toNat:=by rw [q0,q3]; omega
  have n12:(IntKind.i64.wrap (IntKind.i64.wrap (4 * (i:Int)) + 1)).toNat ≠ (IntKind.i64.wrap (IntKind.i64.wrap (4 * (i:Int)) + 2)).toNat:=by rw [q1,q2]; omega
  have n13:(IntKind.i64.wrap (IntKind.i64.wrap (4 * (i:Int)) + 1)).toNat ≠ (IntKind.i64.wrap (IntKind.i64.wrap (4 * (i:Int)) + 3)).toNat:=by rw [q1,q3]; omega
  have n23:(IntKind.i64.wrap (IntKind.i64.wrap (4 * (i:Int)) + 2)).toNat ≠ (IntKind.i64.wrap (IntKind.i64.wrap (4 * (i:Int)) + 3)).toNat:=by rw [q2,q3]; omega
  have hset:=setI v g q0 q1 q2 q3 s24 s16 s8 s0
  conv=>whnf
  refine br (fun _=>?_) (fun h=>absurd h (by simp; omega));conv=>whnf
  refine ⟨⟨by simp,by show (i:Int) < 8; omega⟩,[wd (at0 (wl v) i)],hx,?_⟩;conv=>whnf
  refine zeo hΘ 4 ?_;conv=>whnf
  refine bre (by decide) ?_;conv=>whnf
  refine ⟨by decide,?_⟩;conv=>whnf
  refine ⟨⟨by show 0 ≤ IntKind.i64.wrap (IntKind.i64.wrap (4 * (i:Int)) + 0); rw [e0]; omega,by show IntKind.i64.wrap (IntKind.i64.wrap (4 * (i:Int)) + 0) < 32; rw [e0]; omega⟩,?_⟩;conv=>whnf
  refine ⟨encB (fb (preB v i) (4 * i + 0)),hb0,?_⟩;conv=>whnf
  refine sr_go hΘ ?_;conv=>whnf
  refine bre (by decide) ?_;conv=>whnf
  refine ⟨by decide,?_⟩;conv=>whnf
  refine ⟨⟨by show 0 ≤ IntKind.i64.wrap (IntKind.i64.wrap (4 * (i:Int)) + 1); rw [e1]; omega,by show IntKind.i64.wrap (IntKind.i64.wrap (4 * (i:Int)) + 1) < 32; rw [e1]; omega⟩,?_⟩;conv=>whnf
  refine ⟨encB (fb (preB v i) (4 * i + 1)),zk2 n01 hb1,?_⟩;conv=>whnf
  refine sr_go hΘ ?_;conv=>whnf
  refine bre (by decide) ?_;conv=>whnf
  refine ⟨by decide,?_⟩;conv=>whnf
  refine ⟨⟨by show 0 ≤ IntKind.i64.wrap (IntKind.i64.wrap (4 * (i:Int)) + 2); rw [e2]; omega,by show IntKind.i64.wrap (IntKind.i64.wrap (4 * (i:Int)) + 2) < 32; rw [e2]; omega⟩,?_⟩;conv=>whnf
  refine ⟨encB (fb (preB v i) (4 * i + 2)),zk2 n12 (zk2 n02 hb2),?_⟩;conv=>whnf
  refine sr_go hΘ ?_;conv=>whnf
  refine bre (by decide) ?_;conv=>whnf
  refine ⟨by decide,?_⟩;conv=>whnf
  refine ⟨⟨by show 0 ≤ IntKind.i64.wrap (IntKind.i64.wrap (4 * (i:Int)) + 3); rw [e3]; omega,by show IntKind.i64.wrap (IntKind.i64.wrap (4 * (i:Int)) + 3) < 32; rw [e3]; omega⟩,?_⟩;conv=>whnf
  refine ⟨encB (fb (preB v i) (4 * i + 3)),zk2 n23 (zk2 n13 (zk2 n03 hb3)),?_⟩;conv=>whnf
  refine sr_go hΘ ?_;conv=>whnf
  refine brd (by decide) ?_;conv=>whnf
  exact ⟨⟨i + 1,by omega⟩,by show 8 - (i + 1) < 8 - i; omega,leR [] hH hT rfl ⟨tv,zkv 3 (fullB (preB v (i + 1))) 32,tv⟩ ⟨cnt (by omega),tv⟩ ⟨Fz.r F,(congrArg (fun L=>SB.arr 290 1 L 32) hset).trans (zrp _ (fullB (preB v (i + 1))) 32).symm,tv⟩⟩
 ·have hi8:i = 8:=by omega
  subst hi8
  have hall:fullB (preB v 8) = zf9 v:=by rw [z1m]; unfold fullB; rw [zs9]; simp
  have hlen:(fullB (preB v 8)).length = 32:=by rw [hall]; rfl
  have hcv:List.take 32 (List.drop 0 ((fullB (preB v 8)).map encB)) = (zf9 v).map fun b=>[SA.int .u8 b.toNat]:=by
   rw [qai,qm (by rw [qb,hlen]; exact qf _),hall]; rfl
  conv=>whnf
  refine brd (by simp) ?_;conv=>whnf
  refine ⟨(by show 0 + 32 ≤ _; rw [qb,hlen]; exact qf 32),_,rfl,zf9 v,hcv,?_⟩;conv=>whnf
  exact endPu rfl (Fz.r F) rfl rfl
end Go.Proofs.YtfnkamphhpldcaaGreatDoor
namespace Sx
open Go Go.RowKit
variable {P:Program} {C:Ctx} {ρ:Rho} {h:Hp} {nx:Nat} {w:World}
theorem Sat.putObj (s:Sat C ρ h nx w) {l:Nat} {o:Obj} (hl:∀ i k,St.owns h i k → ρ i k ≠ l) (hC:C.w0.heap.size ≤ l):Sat C ρ h nx (w.putObj l o) where
 lt:=s.lt
 blk:=fun i e he k hk=>by
  obtain ⟨o',ho,hok⟩:=s.blk i e he k hk
  exact ⟨o',(World.putObj_heap_other (hl i k ⟨e,he,hk⟩)).trans ho,hok⟩
 wf:=s.wf
 inj:=s.inj
 anch:=s.anch
 n0:=s.n0
 n1:=s.n1
 os:=s.os
 tape:=s.tape
 output:=s.output
 size:=by have:=s.size; simpa [World.putObj] using this
 fr:=fun b hb hn=>(World.putObj_heap_other (by omega)).trans (s.fr b hb hn)
 own:=s.own
 fz:=s.fz
 id0:=s.id0
 only:=s.only
 lnk:=s.lnk
theorem ztf {f:FuncId} {args:List SV} {K:Out → Hp → Nat → Prop} {vs:List Value} (hc:za6 P f args h nx K) (S:Sat C ρ h nx w) (hr:relL ρ args vs) (hb:∀ s ∈ args,s.below nx) :
  Calls P f vs.toArray w fun e w'=>∃ out h' nx' ρ',K out h' nx' ∧ out.rel ρ' e ∧ Sat C ρ' h' nx' w' ∧ (∀ i,i < nx → ρ' i = ρ i) ∧ nx ≤ nx' ∧ (∀ b,b < w.heap.size → (∀ i k,i ≠ 0 → St.owns h i k → ρ i k ≠ b) → w'.heap[b]? = w.heap[b]?):=by
 unfold za6 at hc
 let C':Ctx:={ w0:=w,ρ0:=ρ,n0:=nx,B:=fun b=>∃ i k,i ≠ 0 ∧ St.owns h i k ∧ ρ i k = b,R:=fun k=>St.owns h 0 k }
 have S':Sat C' ρ h nx w:={ S with
  anch:=fun _ _ _=>rfl
  n0:=qf _
  n1:=S.pos
  os:=rfl
  tape:=rfl
  output:=rfl
  size:=qf _
  fr:=fun _ _ _=>rfl
  own:=fun i k ho=>by
   by_cases hi:i = 0
   ·subst hi; exact .inl ⟨rfl,ho⟩
   ·exact .inr (.inl ⟨i,k,hi,ho,rfl⟩) }
 refine (hc C' ρ w vs S' hr hb).2.mono ?_
 rintro e w' ⟨out,h',nx',ρ',hk,ho,S2,hag,hle,_⟩
 have hnb:∀ b,b < C.w0.heap.size → ¬ C.B b → ¬ C'.B b:=by
  rintro b hb1 hb2 ⟨i,k,hi,hown,rfl⟩
  rcases S.own i k hown with h1 | h1 | h1
  ·exact hi h1.1
  ·exact hb2 h1
  ·omega
 refine ⟨out,h',nx',ρ',hk,ho,?_,hag,hle,fun b hb1 hb2=>S2.fr b hb1 ?_⟩
 ·exact { S2 with
   anch:=fun i hi k=>by rw [hag i (yp hi S.n0)]; exact S.anch i hi k
   n0:=jk S.n0 hle
   n1:=S.n1
   os:=S2.os.trans S.os
   tape:=S2.tape.trans S.tape
   output:=S2.output.trans S.output
   size:=jk S.size S2.size
   fr:=fun b hb1 hb2=>(S2.fr b (yp hb1 S.size) (hnb b hb1 hb2)).trans (S.fr b hb1 hb2)
   own:=fun i k hown=>by
    rcases S2.own i k hown with ⟨rfl,h1⟩ | ⟨j,k',hj,hown',he⟩ | h1
    ·have h2:=S.own 0 k h1
     rw [S.id0] at h2
     rw [S2.id0]
     exact h2
    ·rcases S.own j k' hown' with h3 | h3 | h3
     ·exact absurd h3.1 hj
     ·exact .inr (.inl (he ▸ h3))
     ·exact .inr (.inr (he ▸ h3))
    ·exact .inr (.inr (jk S.size h1)) }
 ·rintro ⟨i,k,hi,hown,rfl⟩
  exact hb2 i k hi hown rfl
end Sx
namespace Sx
open Go Go.RowKit
section
variable {P:Program} {Θ:Tys}
theorem Sat.trashC {C:Ctx} {ρ:Rho} {h:Hp} {nx:Nat} {w w':World} (s:Sat C ρ h nx w) {i:Nat} {e:Ent} (he:lget h i = some e) (hp:e.plain = true) (h0:e.has 0) (hk:∀ k,e.has k → k = 0) {o':Obj} (hos:w'.os = w.os) (ht:w'.tape = w.tape) (ho:w'.output = w.output) (hsz:w'.heap.size = w.heap.size)
  (hnew:w'.heap[ρ i 0]? = some o') (hold:∀ b,b ≠ ρ i 0 → w'.heap[b]? = w.heap[b]?):Sat C ρ (lput (lput h i (.one (.obj o'))) i .gone) nx w':=by
 have hi:=s.lt i _ he
 have hi0:=s.ne0 he hp
 refine Sat.forget (s.upd (e':=.one (.obj o')) 0 he hp rfl h0 ?_ o' ?_ rfl trivial hos ht ho hsz hnew hold) hi hi0
 ·intro k'
  constructor
  ·rintro rfl; exact h0
  ·intro h; exact hk k' h
 ·intro k' hne h2
  exact absurd (hk k' h2) hne
abbrev colH (h:Hp) (i:Nat):Hp:=lput (lput h i (.one (.obj (.deferred none)))) i .gone
def colQ (Θ:Tys) (rs:List ResultVar) (K:Out → Hp → Nat → Prop) (st:St):Prop:=
 match st.d with
 |[]=>sres Θ st rs fun v=>K (.ret v) st.h st.nx
 |[(.col,[.iter i k])]=>k = 0 ∧ lget st.h i = some (.one (.obj (.deferred (some [])))) ∧ sres Θ { st with h:=colH st.h i } rs fun v=>K (.ret v) (colH st.h i) st.nx
 |_=>False
def endQC (Θ:Tys) (rs:List ResultVar) (K:Out → Hp → Nat → Prop):SE → St → Prop:=fun e st=>
 match e with
 |.normal=>colQ Θ rs K st
 |.ret=>colQ Θ rs K st
 |_=>False
theorem zzn (hΘ:Θ.Ok P) {f:FuncId} {fn:Func} {c:Code} {args:List SV} {h:Hp} {nx:Nat} {K:Out → Hp → Nat → Prop} (hf:P.funcs[f]? = some fn) (hb:fn.body = some c) (hn:(fn.name == "runtime.NumGoroutine") = false)
  (nt:Nat) (rs:List ResultVar) (hnt:fn.ntmps = nt) (hrs:fn.results.toList = rs) (hl:Nat.ble args.length nt = true)
  (hx:WP P c ⟨[zeh 0 args],h,nx,nx,nt,[]⟩ (endQC Θ rs K)):za6 P f args h nx K:=by
 unfold za6
 intro C ρ w vs S hrel hbl
 refine ⟨enters_of hf hb hn,?_⟩
 unfold WP at hx
 let C1:Ctx:={ C with ρ0:=ρ,n0:=nx }
 have S1:Sat C1 ρ h nx w:={ S with anch:=fun _ _ _=>rfl,n0:=qf _,n1:=S.pos }
 have hlen:=zhl hrel
 have hle:=nb hl
 have D:Den C1 ρ ⟨[zeh 0 args],h,nx,nx,nt,[]⟩ { tmps:=vs.toArray ++ Array.replicate (fn.ntmps - vs.toArray.size) undef,defers:=[] } w:=by
  refine { sat:=S1,nt:=?_,tm:=?_,tw:=?_,n0:=rfl,df:=rfl,dw:=by simp }
  ·simp; omega
  ·intro n s hs
   simp only [lget] at hs
   split at hs
   ·rename_i v hv
    cases hs
    obtain ⟨u,_,h2,h3,_⟩:=zct (nx:=nx) args vs 0 n s hrel hv
    simp only [qak] at h2
    refine ⟨u,?_,h3⟩
    rw [qan (by simpa using (qh.1 h2).1)]
    simpa using h2
   ·simp at hs
  ·intro n s hs
   simp only [lget] at hs
   split at hs
   ·rename_i v hv
    cases hs
    obtain ⟨u,_,_,_,h4⟩:=zct (nx:=nx) args vs 0 n s hrel hv
    exact hbl s h4
   ·simp at hs
 refine callsIn_wide.1 (callsIn_of_wp_marks (F:=Fence.wide) (n:=0) hf hb trivial (wpIn_wide.2 (wp_mono (hx C1 ρ _ w D) ?_)) rfl)
 rintro e a' w' ⟨se,st',ρ',hq,rfl,D'⟩
 have back:∀ {h2:Hp} {w2:World},Sat C1 ρ' h2 st'.nx w2 → Sat C ρ' h2 st'.nx w2:=fun S2=>{ S2 with
  anch:=fun i hi k=>by rw [S2.anch i (yp hi S.n0) k]; exact S.anch i hi k
  n0:=jk S.n0 S2.n0
  n1:=S.n1 }
 have hag:∀ i,i < nx → ρ' i = ρ i:=fun i hi=>funext fun k=>D'.sat.anch i hi k
 have ret:colQ Θ rs K st' → LeavesInM Fence.wide 0 P fn a'.tmps (fun e w'=>∃ out h' nx' ρ',K out h' nx' ∧ out.rel ρ' e ∧ Sat C ρ' h' nx' w' ∧ (∀ i,i < nx → ρ' i = ρ i) ∧ nx ≤ nx' ∧ (match out with | .ret s=>s.below nx' | .panic _=>True)) a'.defers .returning w':=by
  intro hr
  unfold colQ at hr
  have hdf:=D'.df
  split at hr
  ·rename_i hd
   rw [hd] at hdf
   rw [hdf]
   rw [← hrs] at hr
   obtain ⟨v,sv,r1,r2,r3,r4⟩:=ze2 hΘ D' hr
   exact ⟨v,r1,.ret sv,st'.h,st'.nx,ρ',r4,⟨v,rfl,r2⟩,back D'.sat,hag,D'.sat.n0,r3⟩
  ·rename_i i k hd
   obtain ⟨rfl,hi,hr⟩:=hr
   rw [hd] at hdf
   rw [hdf]
   obtain ⟨o,ho,hok⟩:=D'.sat.blk i _ hi 0 rfl
   have hoo:o = .deferred (some []):=hok
   subst hoo
   have hlt:=(qz.1 ho).1
   have S2:Sat C1 ρ' (colH st'.h i) st'.nx (w'.putObj (ρ' i 0) (.deferred none)):=
    D'.sat.trashC hi rfl rfl (fun _ h=>h) rfl rfl rfl (by simp [World.putObj]) (World.putObj_heap_same hlt) (fun b hb=>World.putObj_heap_other hb)
   have D2:Den C1 ρ' { st' with h:=colH st'.h i } a' (w'.putObj (ρ' i 0) (.deferred none)):={ sat:=S2,nt:=D'.nt,tm:=D'.tm,tw:=D'.tw,n0:=D'.n0,df:=D'.df,dw:=D'.dw }
   rw [← hrs] at hr
   obtain ⟨v,sv,r1,r2,r3,r4⟩:=ze2 hΘ D2 hr
   refine ⟨by simp,.inl ⟨_,_,rfl,run_takeDeferred ho,?_⟩⟩
   exact ⟨v,r1,.ret sv,_,st'.nx,ρ',r4,⟨v,rfl,r2⟩,back S2,hag,D'.sat.n0,r3⟩
  ·exact hr.elim
 cases se with
 |normal=>exact ret hq
 |ret=>exact ret hq
 |exit id=>exact hq.elim
 |panic v=>exact hq.elim
end
end Sx
