import Derived.Test.YtfnkamphhpldcaaGreatDoorK19
set_option maxHeartbeats 64000000
namespace Go.Proofs.YtfnkamphhpldcaaGreatDoor
open Go Sx
set_option maxRecDepth 100000
def decZ:List UInt8 → Nat → Nat → Nat → Option (Nat × Nat × UInt8)
 |_,0,_,_=>none
 |[],_ + 1,_,_=>none
 |b :: r,f + 1,i,z=>if 128 ≤ b.toNat then decZ r f (i + 1) (z + b.toNat % 128 * 128 ^ i) else some (z + b.toNat * 128 ^ i,i,b)
def unz (z:Nat):Int:=if z % 2 = 1 then -((z / 2:Nat):Int) - 1 else ((z / 2:Nat):Int)
def getI (s:List UInt8) (at_:Int):Int × Int × Int:=
 if at_ < 0 ∨ (s.length:Int) < at_ then (0,0,2) else
 match decZ (s.drop at_.toNat) 9 0 0 with
 |none=>(0,0,10)
 |some (z,i,b)=>if (b = 0 ∧ 0 < i) ∨ unz z < -4611686018427387903 then (0,0,10) else (unz z,at_ + i + 1,0)
theorem z8g (b:UInt8):bAnd .u8 (b.toNat:Int) 127 = ((b.toNat % 128:Nat):Int):=by
 have hb:=b.toNat_lt
 have h1:(BitVec.ofInt IntKind.u8.bits (b.toNat:Int) &&& BitVec.ofInt IntKind.u8.bits 127).toNat = b.toNat % 128:=by
  show (BitVec.ofInt 8 (b.toNat:Int) &&& BitVec.ofInt 8 127).toNat = _
  rw [BitVec.toNat_and,BitVec.ofInt_natCast,BitVec.toNat_ofNat]
  show b.toNat % 256 &&& 127 = _
  rw [jo hb]
  exact qbv b.toNat 7
 rw [bAnd,h1,z6x (by omega) (by omega)]
theorem or_lt {z m i:Nat} (hz:z < 128 ^ i):z ||| (m * 128 ^ i) = z + m * 128 ^ i:=by
 have e:128 ^ i = 2 ^ (7 * i):=by rw [Nat.pow_mul]
 rw [e] at hz ⊢
 have:=qa7 hz m
 rw [qa0 m,Nat.or_comm,← this,qb4]
theorem pow9 {i:Nat} (h:i ≤ 8):128 ^ i ≤ 72057594037927936:=by
 have:128 ^ i ≤ 128 ^ 8:=qba (by omega) h
 exact this
theorem shl7 (m i:Nat) (hm:m < 128) (hi:i ≤ 8):shlI .u64 (m:Int) (IntKind.i64.wrap (7 * (i:Int))) = ((m * 128 ^ i:Nat):Int):=by
 have hp:=pow9 hi
 have h1:m * 128 ^ i ≤ 127 * 72057594037927936:=qaw (by omega) hp
 have e:(IntKind.i64.wrap (7 * (i:Int))).toNat = 7 * i:=by rw [zal (by omega) (by omega)]; omega
 rw [shlI,e,qag (show 7 * i ≤ IntKind.u64.bits by show 7 * i ≤ 64; omega)]
 have e2:(m:Int) * 2 ^ (7 * i) = ((m * 128 ^ i:Nat):Int):=by
  rw [show (128:Nat) ^ i = 2 ^ (7 * i) by rw [Nat.pow_mul]]; simp
 rw [e2,zm3 (by omega) (by omega)]
theorem or7 {z m i:Nat} (hz:z < 128 ^ i) (hm:m < 128) (hi:i ≤ 8):bOr .u64 (z:Int) ((m * 128 ^ i:Nat):Int) = ((z + m * 128 ^ i:Nat):Int):=by
 have hp:=pow9 hi
 have h1:m * 128 ^ i ≤ 127 * 72057594037927936:=qaw (by omega) hp
 have h2:(BitVec.ofInt IntKind.u64.bits (z:Int) ||| BitVec.ofInt IntKind.u64.bits ((m * 128 ^ i:Nat):Int)).toNat = z + m * 128 ^ i:=by
  show (BitVec.ofInt 64 (z:Int) ||| BitVec.ofInt 64 ((m * 128 ^ i:Nat):Int)).toNat = _
  rw [BitVec.toNat_or,BitVec.ofInt_natCast,BitVec.ofInt_natCast,BitVec.toNat_ofNat,BitVec.toNat_ofNat,jo (by omega),jo (by omega)]
  exact or_lt hz
 rw [bOr,h2,zm3 (by omega) (by omega)]
theorem acc7 {z i:Nat} (b:UInt8) (hz:z < 128 ^ i) (hi:i ≤ 8):bOr .u64 (z:Int) (shlI .u64 (IntKind.u64.wrap (bAnd .u8 (b.toNat:Int) 127)) (IntKind.i64.wrap (7 * (i:Int)))) = ((z + b.toNat % 128 * 128 ^ i:Nat):Int):=by
 have hm:b.toNat % 128 < 128:=qat _ (by omega)
 rw [z8g,zm3 (by omega) (by omega),shl7 _ _ hm hi,or7 hz hm hi]
theorem zvf {z i m:Nat} (hz:z < 128 ^ i) (hm:m < 128):z + m * 128 ^ i < 128 ^ (i + 1):=by
 rw [qcq]
 have:m * 128 ^ i ≤ 127 * 128 ^ i:=qas _ (by omega)
 omega
theorem and1 (z:Nat) (h:z < 18446744073709551616):bAnd .u64 (z:Int) 1 = ((z % 2:Nat):Int):=by
 have h1:(BitVec.ofInt IntKind.u64.bits (z:Int) &&& BitVec.ofInt IntKind.u64.bits 1).toNat = z % 2:=by
  show (BitVec.ofInt 64 (z:Int) &&& BitVec.ofInt 64 1).toNat = _
  rw [BitVec.toNat_and,BitVec.ofInt_natCast,BitVec.toNat_ofNat,jo h]
  exact Nat.and_one_is_mod z
 rw [bAnd,h1,zm3 (by omega) (by omega)]
theorem z8r (z:Nat) (h:z < 9223372036854775808):bXor .i64 (IntKind.i64.wrap (shrI .u64 (z:Int) 1)) (IntKind.i64.wrap (0 - IntKind.i64.wrap (bAnd .u64 (z:Int) 1))) = unz z:=by
 have e1:shrI .u64 (z:Int) 1 = ((z / 2:Nat):Int):=by
  show (z:Int).fdiv (2 ^ 1) = _
  rw [qam _ (by decide)]; rfl
 rw [e1,and1 z (by omega),zal (n:=((z / 2:Nat):Int)) (by omega) (by omega),zal (n:=((z % 2:Nat):Int)) (by omega) (by omega),zal (n:=0 - _) (by omega) (by omega)]
 by_cases ho:z % 2 = 1
 ·rw [ho,unz,if_pos ho]
  have h2:(BitVec.ofInt IntKind.i64.bits ((z / 2:Nat):Int) ^^^ BitVec.ofInt IntKind.i64.bits (0 - ((1:Nat):Int))).toNat = 18446744073709551615 - z / 2:=by
   show (BitVec.ofInt 64 ((z / 2:Nat):Int) ^^^ BitVec.ofInt 64 (0 - ((1:Nat):Int))).toNat = _
   have:BitVec.ofInt 64 (0 - ((1:Nat):Int)) = BitVec.allOnes 64:=by decide
   rw [this,BitVec.xor_allOnes,BitVec.toNat_not,BitVec.ofInt_natCast,BitVec.toNat_ofNat,jo (by omega)]
  rw [bXor,h2,IntKind.wrap_i64]; omega
 ·have h0:z % 2 = 0:=by omega
  rw [h0,unz,if_neg ho]
  have h2:(BitVec.ofInt IntKind.i64.bits ((z / 2:Nat):Int) ^^^ BitVec.ofInt IntKind.i64.bits (0 - ((0:Nat):Int))).toNat = z / 2:=by
   show (BitVec.ofInt 64 ((z / 2:Nat):Int) ^^^ BitVec.ofInt 64 (0 - ((0:Nat):Int))).toNat = _
   have:BitVec.ofInt 64 (0 - ((0:Nat):Int)) = 0#64:=by decide
   rw [this,BitVec.xor_zero,BitVec.ofInt_natCast,BitVec.toNat_ofNat,jo (by omega)]
  rw [bXor,h2,zal (by omega) (by omega)]
theorem zw3 {f i z:Nat}:decZ [] f i z = none:=by cases f<;>rfl
theorem drop_at {s:List UInt8} {k:Nat} (h:k < s.length):s.drop k = s[k] :: s.drop (k + 1):=qv h
theorem zu0 (F:Fz) (s:List UInt8) (p:Int) (hs:s.length ≤ 1000000000000000000) (hp:i64 p) :
  Fo Tryz.prog F 151 [.va (.str s),.va (.int .i64 p)] (fun o F'=>o = .ret (.tup [.va (.int .i64 (getI s p).1),.va (.int .i64 (getI s p).2.1),.va (.int .i64 (getI s p).2.2)]) ∧ F' = F):=by
 have fin:∀ (n x e:Int) (h:Hp) (nx:Nat),getI s p = (n,x,e) → lget h 0 = some (.frz F) →
   Cln 1 (FoK F fun o F'=>o = .ret (.tup [.va (.int .i64 (getI s p).1),.va (.int .i64 (getI s p).2.1),.va (.int .i64 (getI s p).2.2)]) ∧ F' = F) (.ret (.tup [.va (.int .i64 n),.va (.int .i64 x),.va (.int .i64 e)])) h nx:=by
  intro n x e h nx hv h0
  exact endFo (.ret (.tup [.va (.int .i64 n),.va (.int .i64 x),.va (.int .i64 e)])) F h0 (Fz.r F) (Fz.r F) ⟨by rw [hv],rfl⟩ (zaj _) rfl
 refine fo_of hΘ Tryz.func151 rfl (by decide) _ _ rfl rfl rfl ?_;conv=>whnf
 refine ⟨fun g=>?_,fun g=>?_⟩
 ·have g1:¬ p < 0:=by simpa using g
  conv=>whnf
  refine br (fun g=>?_) (fun g=>?_)
  ·have g2:(s.length:Int) < p:=by simpa using g
   conv=>whnf
   exact fin 0 0 2 _ _ (by rw [getI,if_pos (.inr g2)]) rfl
  ·have g2:¬ (s.length:Int) < p:=by simpa using g
   have hex:∃ a:Nat,p = a ∧ a ≤ s.length:=⟨p.toNat,by omega,by omega⟩
   obtain ⟨a,ea,hal⟩:=hex
   subst ea
   have hg:getI s a = match decZ (s.drop a) 9 0 0 with
    |none=>(0,0,10)
    |some (z,i,b)=>if (b = 0 ∧ 0 < i) ∨ unz z < -4611686018427387903 then (0,0,10) else (unz z,a + i + 1,0):=by
    rw [getI,if_neg (by omega)]; rfl
   have hno:decZ (s.drop a) 9 0 0 = none → getI s a = (0,0,10):=fun h=>by rw [hg,h]
   conv=>whnf
   refine zan hΘ (X:={ x:Nat × Nat // x.1 ≤ 9 ∧ x.2 < 128 ^ x.1 ∧ decZ (s.drop a) 9 0 0 = decZ (s.drop (a + x.1)) (9 - x.1) x.1 x.2 }) (fun x=>[(7,.va (.int .u64 x.1.2)),(19,.va (.int .i64 x.1.1))]) [4,5,6,8,9,10,20,21,22,23,24,25,26,27,28,29,30,31,32,33,34,35,36,37,38,39,40,41,42,43,44,45,46,47,48,49,50,51,52,53,54,55,56,57,58,59,60,61,62,63,64,65,66] (fz fun _=>F) 1 (fun x=>9 - x.1.1) ⟨(0,0),by simp⟩
    (fun hH hT=>le0 hH hT rfl (Fz.r F) rfl ⟨rfl,rfl,tv⟩) ?_
   rintro ⟨⟨i,z⟩,hi,hz,hd⟩ hH hT
   replace hi:i ≤ 9:=hi
   replace hz:z < 128 ^ i:=hz
   replace hd:decZ (s.drop a) 9 0 0 = decZ (s.drop (a + i)) (9 - i) i z:=hd
   conv=>whnf
   refine br (fun gb=>?_) (fun gb=>?_)
   ·have gi:i < 9:=by
     have h0:(i:Int) < 9:=by simpa using gb
     omega
    clear gb
    have ew:IntKind.i64.wrap ((a:Int) + i) = ((a + i:Nat):Int):=by rw [zal (by omega) (by omega)]; rfl
    have h9:9 - i = (9 - (i + 1)) + 1:=by omega
    conv=>whnf
    refine br (fun gc=>?_) (fun gc=>?_)
    ·have gl:s.length ≤ a + i:=by
      have h0:(s.length:Int) ≤ IntKind.i64.wrap ((a:Int) + i):=by simpa using gc
      rw [ew] at h0; omega
     conv=>whnf
     exact fin 0 0 10 _ _ (hno (by rw [hd,jq gl,zw3])) rfl
    ·have gl:a + i < s.length:=by
      have h0:¬ (s.length:Int) ≤ IntKind.i64.wrap ((a:Int) + i):=by simpa using gc
      rw [ew] at h0; omega
     clear gc
     have hd2:=hd
     rw [drop_at gl,h9,decZ] at hd2
     have hacc:=acc7 s[a + i] hz (by omega)
     have hm:s[a + i].toNat % 128 < 128:=qat _ (by omega)
     have hlt:=zvf hz hm
     conv=>whnf
     refine ⟨by dsimp only; rw [ew]; omega,s[a + i],by dsimp only; rw [ew,ql,qc gl],?_⟩;conv=>whnf
     refine ⟨by dsimp only; rw [zal (by omega) (by omega)]; omega,?_⟩;conv=>whnf
     refine br (fun gd=>?_) (fun gd=>?_)
     ·have g128:128 ≤ s[a + i].toNat:=by
       have h0:(128:Int) ≤ s[a + i].toNat:=by simpa using gd
       omega
      clear gd
      rw [if_pos g128] at hd2
      conv=>whnf
      refine ⟨⟨(i + 1,z + s[a + i].toNat % 128 * 128 ^ i),by show i + 1 ≤ 9; omega,hlt,hd2⟩,by show 9 - (i + 1) < 9 - i; omega,lr0 hH hT rfl (Fz.r F) rfl ⟨?_,cnt (by omega),tv⟩⟩
      exact congrArg (SA.int .u64) hacc.symm
     ·have g128:¬ 128 ≤ s[a + i].toNat:=by
       have h0:¬ (128:Int) ≤ s[a + i].toNat:=by simpa using gd
       omega
      clear gd
      rw [if_neg g128] at hd2
      have hmm:s[a + i].toNat % 128 = s[a + i].toNat:=jo (by omega)
      rw [hmm] at hacc hlt
      have hp9:128 ^ (i + 1) ≤ 9223372036854775808:=by
       have:128 ^ (i + 1) ≤ 128 ^ 9:=qba (by omega) (by omega)
       exact this
      have hu:=z8r (z + s[a + i].toNat * 128 ^ i) (by omega)
      rw [← hacc] at hu
      have hfin:getI s a = if (s[a + i] = 0 ∧ 0 < i) ∨ unz (z + s[a + i].toNat * 128 ^ i) < -4611686018427387903 then (0,0,10) else (unz (z + s[a + i].toNat * 128 ^ i),(a:Int) + i + 1,0):=by rw [hg,hd2]
      have e2:IntKind.i64.wrap (IntKind.i64.wrap ((a:Int) + i) + 1) = (a:Int) + i + 1:=by rw [ew,zal (by omega) (by omega)]; omega
      have bz:(s[a + i].toNat:Int) = 0 ↔ s[a + i] = 0:=by
       constructor
       ·intro h; exact UInt8.toNat_inj.1 (by simpa using h)
       ·intro h; rw [h]; rfl
      conv=>whnf
      refine ⟨by decide,?_⟩;conv=>whnf
      refine ⟨fun gz=>?_,fun gz=>?_⟩
      ·have gz':s[a + i] = 0:=bz.1 (od gz)
       conv=>whnf
       refine ⟨fun gp=>?_,fun gp=>?_⟩
       ·have nz:¬ (s[a + i] = 0 ∧ 0 < i):=fun h=>by
         have h0:¬ (0:Int) < i:=oe gp
         omega
        conv=>whnf
        refine br (fun gn=>?_) (fun gn=>?_)
        ·have gn':unz (z + s[a + i].toNat * 128 ^ i) < -4611686018427387903:=by
          have h0:=od gn
          rw [← hu]; exact h0
         conv=>whnf
         exact fin 0 0 10 _ _ (by rw [hfin,if_pos (.inr gn')]) rfl
        ·have gn':¬ unz (z + s[a + i].toNat * 128 ^ i) < -4611686018427387903:=by
          have h0:=oe gn
          rw [← hu]; exact h0
         conv=>whnf
         exact fin _ _ 0 _ _ (by rw [hfin,if_neg (by rintro (h | h); exact nz h; exact gn' h),← hu,← e2]) rfl
       ·have nz:s[a + i] = 0 ∧ 0 < i:=⟨gz',by
         have h0:(0:Int) < i:=od gp
         omega⟩
        conv=>whnf
        exact fin 0 0 10 _ _ (by rw [hfin,if_pos (.inl nz)]) rfl
      ·have nz:¬ (s[a + i] = 0 ∧ 0 < i):=fun h=>oe gz (bz.2 h.1)
       conv=>whnf
       refine br (fun gn=>?_) (fun gn=>?_)
       ·have gn':unz (z + s[a + i].toNat * 128 ^ i) < -4611686018427387903:=by
         have h0:=od gn
         rw [← hu]; exact h0
        conv=>whnf
        exact fin 0 0 10 _ _ (by rw [hfin,if_pos (.inr gn')]) rfl
       ·have gn':¬ unz (z + s[a + i].toNat * 128 ^ i) < -4611686018427387903:=by
         have h0:=oe gn
         rw [← hu]; exact h0
        conv=>whnf
        exact fin _ _ 0 _ _ (by rw [hfin,if_neg (by rintro (h | h); exact nz h; exact gn' h),← hu,← e2]) rfl
   ·have gi:i = 9:=by
     have h0:¬ (i:Int) < 9:=by simpa using gb
     omega
    subst gi
    conv=>whnf
    exact fin 0 0 10 _ _ (hno (by rw [hd]; cases s.drop (a + 9)<;>rfl)) rfl
 ·have g1:p < 0:=by simpa using g
  conv=>whnf
  exact fin 0 0 2 _ _ (by rw [getI,if_pos (.inl g1)]) rfl
theorem zow:∀ (l:List UInt8) (f i z:Nat) {z' i':Nat} {b:UInt8},decZ l f i z = some (z',i',b) → i ≤ i' ∧ i' - i < l.length ∧ i' < i + f ∧ l[i' - i]? = some b
 |_,0,_,_,_,_,_,h=>by simp [decZ] at h
 |[],_ + 1,_,_,_,_,_,h=>by simp [decZ] at h
 |b :: r,f + 1,i,z,z',i',b',h=>by
  rw [decZ] at h
  split at h
  ·obtain ⟨h1,h2,h3,h4⟩:=zow r f (i + 1) _ h
   refine ⟨by omega,by simp; omega,by omega,?_⟩
   have:i' - i = (i' - (i + 1)) + 1:=by omega
   rw [this,qbm]; exact h4
  ·simp only [Option.some.injEq,Prod.mk.injEq] at h
   obtain ⟨_,h2,h3⟩:=h
   subst h2; subst h3
   exact ⟨qf _,by simp,by omega,by simp⟩
theorem zwd:∀ (l:List UInt8) (f i z:Nat) {z' i':Nat} {b:UInt8},decZ l f i z = some (z',i',b) → z < 128 ^ i → z' < 128 ^ (i' + 1)
 |_,0,_,_,_,_,_,h,_=>by simp [decZ] at h
 |[],_ + 1,_,_,_,_,_,h,_=>by simp [decZ] at h
 |b :: r,f + 1,i,z,z',i',b',h,hz=>by
  rw [decZ] at h
  split at h
  ·exact zwd r f (i + 1) _ h (zvf hz (qat _ (by omega)))
  ·rename_i hb
   simp only [Option.some.injEq,Prod.mk.injEq] at h
   obtain ⟨h1,h2,_⟩:=h
   subst h1; subst h2
   exact zvf hz (by omega)
theorem zfj {s:List UInt8} {p:Int} (h:(getI s p).2.2 = 0):0 ≤ p ∧ p < (getI s p).2.1 ∧ (getI s p).2.1 ≤ s.length ∧ -4611686018427387903 ≤ (getI s p).1 ∧ (getI s p).1 ≤ 4611686018427387903:=by
 rw [getI] at h ⊢
 split at h
 ·simp at h
 ·rename_i hb
  rw [if_neg hb]
  split at h
  ·simp at h
  ·rename_i z i b hd
   split at h
   ·simp at h
   ·rename_i hn
    simp only [if_neg hn]
    obtain ⟨h1,h2,h3,h4⟩:=zow _ _ _ _ hd
    have h5:=zwd _ _ _ _ hd (by simp)
    have h6:128 ^ (i + 1) ≤ 128 ^ 9:=qba (by omega) (by omega)
    have h7:(128:Nat) ^ 9 = 9223372036854775808:=by decide
    rw [yj] at h2
    refine ⟨by omega,by omega,by omega,by omega,?_⟩
    unfold unz; split<;>omega
def getS (s:List UInt8) (p:Int):List UInt8 × Int × Int:=
 if (getI s p).2.2 ≠ 0 then ([],0,(getI s p).2.2) else
 if (getI s p).1 < 0 ∨ 65536 < (getI s p).1 ∨ (s.length:Int) - (getI s p).2.1 < (getI s p).1 then ([],0,10) else
 ((s.take ((getI s p).2.1 + (getI s p).1).toNat).drop (getI s p).2.1.toNat,(getI s p).2.1 + (getI s p).1,0)
theorem zn3 (F:Fz) (s:List UInt8) (p:Int) (hs:s.length ≤ 1000000000000000000) (hp:i64 p) :
  Fo Tryz.prog F 152 [.va (.str s),.va (.int .i64 p)] (fun o F'=>o = .ret (.tup [.va (.str (getS s p).1),.va (.int .i64 (getS s p).2.1),.va (.int .i64 (getS s p).2.2)]) ∧ F' = F):=by
 have fin:∀ (n:List UInt8) (x e:Int) (h:Hp) (nx:Nat),getS s p = (n,x,e) → lget h 0 = some (.frz F) →
   Cln 1 (FoK F fun o F'=>o = .ret (.tup [.va (.str (getS s p).1),.va (.int .i64 (getS s p).2.1),.va (.int .i64 (getS s p).2.2)]) ∧ F' = F) (.ret (.tup [.va (.str n),.va (.int .i64 x),.va (.int .i64 e)])) h nx:=by
  intro n x e h nx hv h0
  exact endFo (.ret (.tup [.va (.str n),.va (.int .i64 x),.va (.int .i64 e)])) F h0 (Fz.r F) (Fz.r F) ⟨by rw [hv],rfl⟩ (zaj _) rfl
 have hi:=zu0 F s p hs hp
 have hok:=@zfj s p
 have hge:∀ n x e,getI s p = (n,x,e) → getS s p = if e ≠ 0 then ([],0,e) else if n < 0 ∨ 65536 < n ∨ (s.length:Int) - x < n then ([],0,10) else ((s.take (x + n).toNat).drop x.toNat,x + n,0):=fun n x e h=>by rw [getS,h]
 obtain ⟨n,x,e,hg⟩:∃ n x e,getI s p = (n,x,e):=⟨_,_,_,rfl⟩
 have hge:=hge n x e hg
 rw [hg] at hi hok
 replace hok:e = 0 → 0 ≤ p ∧ p < x ∧ x ≤ s.length ∧ -4611686018427387903 ≤ n ∧ n ≤ 4611686018427387903:=hok
 refine fo_of hΘ Tryz.func152 rfl (by decide) _ _ rfl rfl rfl ?_;conv=>whnf
 refine usePu (hi) rfl (zaa _) rfl ?_;conv=>whnf
 refine br (fun g=>?_) (fun g=>?_)
 ·have g1:e ≠ 0:=by simpa using g
  conv=>whnf
  exact fin [] 0 e _ _ (by rw [hge,if_pos g1]) rfl
 ·have g1:e = 0:=by simpa using g
  have hb:=hok g1
  have hge2:getS s p = if n < 0 ∨ 65536 < n ∨ (s.length:Int) - x < n then ([],0,10) else ((s.take (x + n).toNat).drop x.toNat,x + n,0):=by rw [hge,if_neg (by simp [g1])]
  have ew:IntKind.i64.wrap ((s.length:Int) - x) = s.length - x:=zal (by omega) (by omega)
  conv=>whnf
  refine ⟨fun ga=>?_,fun ga=>?_⟩
  ·have ga':¬ n < 0:=oe ga
   conv=>whnf
   refine ⟨fun gb=>?_,fun gb=>?_⟩
   ·have gb':¬ 65536 < n:=oe gb
    conv=>whnf
    refine br (fun gc=>?_) (fun gc=>?_)
    ·have gc':(s.length:Int) - x < n:=by have h0:=od gc; rw [← ew]; exact h0
     conv=>whnf
     exact fin [] 0 10 _ _ (by rw [hge2,if_pos (.inr (.inr gc'))]) rfl
    ·have gc':¬ (s.length:Int) - x < n:=by have h0:=oe gc; rw [← ew]; exact h0
     have e2:IntKind.i64.wrap (x + n) = x + n:=zal (by omega) (by omega)
     conv=>whnf
     refine ⟨⟨by dsimp only; rw [e2]; omega,by dsimp only; rw [e2]; omega⟩,⟨by dsimp only; omega,by dsimp only; rw [e2]; omega⟩,?_⟩;conv=>whnf
     refine fin _ _ 0 _ _ ?_ rfl
     rw [hge2,if_neg (by omega),e2]
   ·have gb':65536 < n:=od gb
    conv=>whnf
    exact fin [] 0 10 _ _ (by rw [hge2,if_pos (.inr (.inl gb'))]) rfl
  ·have ga':n < 0:=od ga
   conv=>whnf
   exact fin [] 0 10 _ _ (by rw [hge2,if_pos (.inl ga')]) rfl
def perr:Value:=.iface 35 (.int .i64 70)
theorem zcb (F:Fz) (b:Bool):Fo Tryz.prog F 127 [.va (.bool b)] (fun o F'=>F = F' ∧ ((b = true ∧ o = .ret (.tup [])) ∨ (b = false ∧ o = .panic perr))):=by
 refine fo_of hΘ Tryz.func127 rfl (by decide) _ _ rfl rfl rfl ?_;conv=>whnf
 refine br (fun g=>?_) (fun g=>?_)
 ·conv=>whnf
  exact endFo (.panic perr) F rfl (Fz.r F) (Fz.r F) ⟨rfl,.inr ⟨not_t g,rfl⟩⟩ rfl rfl
 ·conv=>whnf
  exact endFo (.ret (.tup [])) F rfl (Fz.r F) (Fz.r F) ⟨rfl,.inl ⟨by simpa using g,rfl⟩⟩ (zaj _) rfl
def rdr (s:List UInt8) (p:Int):Ent:=.one (.cells 257 [.str s,.int .i64 p])
theorem za2 {n:Nat} (s:List UInt8) (p:Int):(rdr s p).below n:=(SB.bB_ok rfl:SB.below n (.cells 257 [.str s,.int .i64 p]))
def zb1 (s:List UInt8) (p lo hi:Int):Bool:=decide ((getI s p).2.2 = 0) && (decide (lo ≤ (getI s p).1) && decide ((getI s p).1 ≤ hi))
theorem zes (F:Fz) (s:List UInt8) (p lo hi:Int) (hs:s.length ≤ 1000000000000000000) (hp:i64 p) :
  Ct Tryz.prog 182 [.va (.ptr ⟨1,0,0,0,0⟩),.va (.int .i64 lo),.va (.int .i64 hi)] F [(1,rdr s p)] 2
   (fun o F0 h0 n0=>F = F0 ∧ n0 = 2 ∧ (if zb1 s p lo hi = true then o = .ret (.va (.int .i64 (getI s p).1)) ∧ h0 = [(1,rdr s (getI s p).2.1)] else o = .panic perr ∧ h0 = [(1,rdr s p)])):=by
 have hi1:=zu0 F s p hs hp
 obtain ⟨n,x,e,hg⟩:∃ n x e,getI s p = (n,x,e):=⟨_,_,_,rfl⟩
 have hok:zb1 s p lo hi = (decide (e = 0) && (decide (lo ≤ n) && decide (n ≤ hi))):=by rw [zb1,hg]
 rw [hg] at hi1
 have hgx:(getI s p).2.1 = x:=by rw [hg]
 have hgn:(getI s p).1 = n:=by rw [hg]
 refine ct_of hΘ Tryz.func182 rfl (by decide) _ _ rfl rfl rfl ?_;conv=>whnf
 refine drawP hΘ mixed (lk [0,1,2,3,4,5,6,7] (.alt 8 (lk [9,10,11,12,13,14,15] .done) .nil)) [1] (by kernel_rfl) ?_;conv=>whnf
 repeat' ((conv=>whnf); first
  |refine ⟨rfl,?_⟩
  |refine ⟨Fz.r _,rfl,?_⟩
  |refine ⟨Fz.r _,rfl,rfl,?_⟩
  |refine ⟨⟨by simp,by simp⟩,?_⟩
  |fail)
 conv=>whnf
 refine usePu (hi1) rfl (zaa _) rfl ?_;conv=>whnf
 refine ⟨Fz.r F,rfl,?_⟩;conv=>whnf
 refine ⟨fun ge=>?_,fun ge=>?_⟩
 ·have ge':e = 0:=od ge
  conv=>whnf
  refine usePu (zdi n lo hi F) rfl (zaa _) rfl ?_;conv=>whnf
  refine useFo (zcb F (decide (lo ≤ n) && decide (n ≤ hi))) rfl ⟨rfl,tv⟩ rfl ?_
  rintro _ _ l1 ⟨rfl,⟨hb,rfl⟩ | ⟨hb,rfl⟩⟩
  ·conv=>whnf
   refine clean [] (.ret (.va (.int .i64 n))) F [(1,rdr s x)] 2 ⟨Fz.r F,rfl,rfl,?_⟩ (zaj _) rfl rfl trivial ⟨za2 s _,tv⟩ ⟨Fz.r F,rfl,tv⟩
   rw [hok,if_pos (by rw [ge,hb]; rfl),hgn,hgx]; exact ⟨rfl,rfl⟩
  ·conv=>whnf
   refine clean [] (.panic perr) F [(1,rdr s p)] 2 ⟨Fz.r F,rfl,rfl,?_⟩ rfl rfl rfl trivial ⟨za2 s _,tv⟩ ⟨Fz.r F,rfl,tv⟩
   rw [hok,if_neg (by rw [hb]; simp)]; exact ⟨rfl,rfl⟩
 ·conv=>whnf
  refine useFo (zcb F false) rfl ⟨rfl,tv⟩ rfl ?_
  rintro _ _ l1 ⟨rfl,⟨hb,rfl⟩ | ⟨hb,rfl⟩⟩
  ·cases hb
  ·conv=>whnf
   refine clean [] (.panic perr) F [(1,rdr s p)] 2 ⟨Fz.r F,rfl,rfl,?_⟩ rfl rfl rfl trivial ⟨za2 s _,tv⟩ ⟨Fz.r F,rfl,tv⟩
   rw [hok,if_neg (by rw [ge]; simp)]; exact ⟨rfl,rfl⟩
theorem zsp (F:Fz) (s:List UInt8) (p:Int) (hs:s.length ≤ 1000000000000000000) (hp:i64 p) :
  Ct Tryz.prog 183 [.va (.ptr ⟨1,0,0,0,0⟩)] F [(1,rdr s p)] 2
   (fun o F0 h0 n0=>F = F0 ∧ n0 = 2 ∧ (if (getS s p).2.2 = 0 then o = .ret (.va (.str (getS s p).1)) ∧ h0 = [(1,rdr s (getS s p).2.1)] else o = .panic perr ∧ h0 = [(1,rdr s p)])):=by
 have hi1:=zn3 F s p hs hp
 obtain ⟨n,x,e,hg⟩:∃ n x e,getS s p = (n,x,e):=⟨_,_,_,rfl⟩
 rw [hg] at hi1
 have hge:(getS s p).2.2 = e:=by rw [hg]
 have hgx:(getS s p).2.1 = x:=by rw [hg]
 have hgn:(getS s p).1 = n:=by rw [hg]
 refine ct_of hΘ Tryz.func183 rfl (by decide) _ _ rfl rfl rfl ?_;conv=>whnf
 refine drawP hΘ mixed (lk [0,1,2,3,4,5,6,7] (.alt 8 (lk [9,10,11,12,13,14,15] .done) .nil)) [1] (by kernel_rfl) ?_;conv=>whnf
 repeat' ((conv=>whnf); first
  |refine ⟨rfl,?_⟩
  |refine ⟨Fz.r _,rfl,?_⟩
  |refine ⟨Fz.r _,rfl,rfl,?_⟩
  |refine ⟨⟨by simp,by simp⟩,?_⟩
  |fail)
 conv=>whnf
 refine usePu (hi1) rfl (zaa _) rfl ?_;conv=>whnf
 refine ⟨Fz.r F,rfl,?_⟩;conv=>whnf
 refine useFo (zcb F (decide (e = 0))) rfl ⟨rfl,tv⟩ rfl ?_
 rintro _ _ l1 ⟨rfl,⟨hb,rfl⟩ | ⟨hb,rfl⟩⟩
 ·conv=>whnf
  refine clean [] (.ret (.va (.str n))) F [(1,rdr s x)] 2 ⟨Fz.r F,rfl,rfl,?_⟩ (zaj _) rfl rfl trivial ⟨za2 s _,tv⟩ ⟨Fz.r F,rfl,tv⟩
  rw [hge,if_pos (od hb),hgn,hgx]; exact ⟨rfl,rfl⟩
 ·conv=>whnf
  refine clean [] (.panic perr) F [(1,rdr s p)] 2 ⟨Fz.r F,rfl,rfl,?_⟩ rfl rfl rfl trivial ⟨za2 s _,tv⟩ ⟨Fz.r F,rfl,tv⟩
  rw [hge,if_neg (oe hb)]; exact ⟨rfl,rfl⟩
theorem zrj (n:Int):Pu Tryz.prog 277 [.va (.int .i64 n)] (.va (.bool false)):=by
 intro F
 refine fo_of hΘ Tryz.func277 rfl (by decide) _ _ rfl rfl rfl ?_;conv=>whnf
 refine endPu rfl (Fz.r F) (ob ?_) rfl
 simp
def cmpI (a b:Int):Int:=if a < b then -1 else if b < a then 1 else 0
theorem z7j (a b:Int):Pu Tryz.prog 263 [.va (.int .i64 a),.va (.int .i64 b)] (.va (.int .i64 (cmpI a b))):=by
 intro F
 refine fo_of hΘ Tryz.func263 rfl (by decide) _ _ rfl rfl rfl ?_;conv=>whnf
 refine usePu (zrj a F) rfl (zaa _) rfl ?_;conv=>whnf
 refine usePu (zrj b F) rfl (zaa _) rfl ?_;conv=>whnf
 refine brd (by decide) ?_;conv=>whnf
 refine brd (by decide) ?_;conv=>whnf
 refine br (fun g=>?_) (fun g=>?_)
 ·conv=>whnf
  refine endPu rfl (Fz.r F) (oi ?_) rfl
  rw [cmpI,if_pos (od g)]
 ·have g1:¬ a < b:=oe g
  conv=>whnf
  refine br (fun g=>?_) (fun g=>?_)
  ·conv=>whnf
   refine endPu rfl (Fz.r F) (oi ?_) rfl
   rw [cmpI,if_neg g1,if_pos (od g)]
  ·conv=>whnf
   refine endPu rfl (Fz.r F) (oi ?_) rfl
   rw [cmpI,if_neg g1,if_neg (oe g)]
def cmpL:List Int → List Int → Int
 |[],[]=>0
 |[],_ :: _=>-1
 |_ :: _,[]=>1
 |x :: r,y :: t=>if cmpI x y = 0 then cmpL r t else cmpI x y
theorem zvx {a b:List Int} {k:Nat} (ha:k < a.length) (hb:k < b.length):cmpL (a.drop k) (b.drop k) = if cmpI a[k] b[k] = 0 then cmpL (a.drop (k + 1)) (b.drop (k + 1)) else cmpI a[k] b[k]:=by
 rw [qv ha,qv hb,cmpL]
theorem zsz (F:Fz) (sa sb:SA) (a b:List Int) (ha:zd7 F sa a) (hb:zd7 F sb b) (la:a.length < 1000000) :
  Fo Tryz.prog F 245 [.va sa,.va sb] (fun o F'=>o = .ret (.va (.int .i64 (cmpL a b))) ∧ F' = F):=by
 have fin:∀ (v:Int) (h:Hp) (nx:Nat),cmpL a b = v → lget h 0 = some (.frz F) →
   Cln 1 (FoK F fun o F'=>o = .ret (.va (.int .i64 (cmpL a b))) ∧ F' = F) (.ret (.va (.int .i64 v))) h nx:=by
  intro v h nx hv h0
  exact endPu h0 (Fz.r F) (oi hv) rfl
 obtain ⟨han,hab,hae,hac,haL,har,rfl,ha1,ha2,ha3,ha4⟩:=ha
 obtain ⟨hbn,hbb,hbe,hbc,hbL,hbr,rfl,hb1,hb2,hb3,hb4⟩:=hb
 refine fo_of hΘ Tryz.func245 rfl (by decide) _ _ rfl rfl rfl ?_;conv=>whnf
 refine zan hΘ (X:={ k:Nat // k ≤ a.length ∧ k ≤ b.length ∧ cmpL a b = cmpL (a.drop k) (b.drop k) }) (fun k=>[(11,.va (.int .i64 k.1))]) [4,5,6,7,8,12,13,14,15,16,17,18,19,20,21,22,23,24,25,26,27,28,29,30] (fz fun _=>F) 1 (fun k=>a.length - k.1) ⟨0,by simp⟩
  (fun hH hT=>le0 hH hT rfl (Fz.r F) rfl ⟨rfl,tv⟩) ?_
 rintro ⟨k,hk,hk2,hp⟩ hH hT;conv=>whnf
 refine br (fun g=>?_) (fun g=>?_)
 ·have g:k < a.length:=by simpa using g
  conv=>whnf
  refine ⟨Sl.lt ha1 g,⟨by simp,by simpa using g⟩,?_⟩;conv=>whnf
  refine ⟨_,ha2 (Sl.lt ha1 g),?_⟩;conv=>whnf
  refine ⟨_,Sl.at ha4 g,?_⟩;conv=>whnf
  refine br (fun gb=>?_) (fun gb=>?_)
  ·have gb':b.length = k:=by have h0:(b.length:Int) ≤ k:=(by simpa using gb); omega
   conv=>whnf
   have hbk:b.drop k = []:=jq (by omega)
   exact fin 1 _ _ (by rw [hp,qv g,hbk,cmpL]) rfl
  ·have gb':k < b.length:=by have h0:¬ (b.length:Int) ≤ k:=(by simpa using gb); omega
   rw [zvx g gb'] at hp
   conv=>whnf
   refine ⟨Sl.lt hb1 gb',⟨by simp,by simpa using gb'⟩,?_⟩;conv=>whnf
   refine ⟨_,hb2 (Sl.lt hb1 gb'),?_⟩;conv=>whnf
   refine ⟨_,Sl.at hb4 gb',?_⟩;conv=>whnf
   refine usePu (z7j a[k] b[k] F) rfl (zaa _) rfl ?_;conv=>whnf
   refine br (fun gc=>?_) (fun gc=>?_)
   ·have gc':¬ cmpI a[k] b[k] = 0:=by simpa using gc
    conv=>whnf
    exact fin _ _ _ (by rw [hp,if_neg gc']) rfl
   ·have gc':cmpI a[k] b[k] = 0:=by simpa using gc
    rw [if_pos gc'] at hp
    conv=>whnf
    exact ⟨⟨k + 1,by omega,by omega,hp⟩,by show a.length - (k + 1) < a.length - k; omega,lr0 hH hT rfl (Fz.r F) rfl ⟨cnt (by omega),tv⟩⟩
 ·have g:¬ k < a.length:=by simpa using g
  have hak:a.drop k = []:=jq (by omega)
  rw [hak] at hp
  conv=>whnf
  refine br (fun gb=>?_) (fun gb=>?_)
  ·have gb':k < b.length:=by have h0:(a.length:Int) < b.length:=(by simpa using gb); omega
   conv=>whnf
   exact fin (-1) _ _ (by rw [hp,qv gb',cmpL]) rfl
  ·have gb':b.length ≤ k:=by have h0:¬ (a.length:Int) < b.length:=(by simpa using gb); omega
   conv=>whnf
   have hbk:b.drop k = []:=jq gb'
   exact fin 0 _ _ (by rw [hp,hbk,cmpL]) rfl
def cols (p:Int):Nat:=if p = 2 then 1 else if p = 3 then 3 else if p = 4 then 4 else if p = 5 then 3 else 0
theorem zld (p:Int) (hp:1 ≤ p ∧ p ≤ 5):Pu Tryz.prog 243 [.va (.int .i64 p)] (.va (.int .i64 (cols p))):=by
 intro F
 have hcs:p = 1 ∨ p = 2 ∨ p = 3 ∨ p = 4 ∨ p = 5:=by omega
 rcases hcs with rfl | rfl | rfl | rfl | rfl
 all_goals refine fo_of hΘ Tryz.func243 rfl (by decide) _ _ rfl rfl rfl ?_
 all_goals conv=>whnf
 all_goals refine ⟨⟨by decide,by decide⟩,_,rfl,?_⟩
 all_goals conv=>whnf
 all_goals exact endPu rfl (Fz.r F) rfl rfl
def bnd (p:Int) (n:List Int):Int × Int:=
 if p = 2 then (0,7) else if n.length < 2 then (0,31) else if p = 4 then (0,n.getD (n.length - 2) 0) else if p = 3 then (-1000000,1000000) else (-1000000000000,1000000000000)
theorem zn8 (F:Fz) (sa:SA) (n:List Int) (p:Int) (ha:zd7 F sa n) (hl:n.length < 1000000) :
  Fo Tryz.prog F 244 [.va (.int .i64 p),.va sa] (fun o F'=>o = .ret (.tup [.va (.int .i64 (bnd p n).1),.va (.int .i64 (bnd p n).2)]) ∧ F' = F):=by
 have fin:∀ (x y:Int) (h:Hp) (nx:Nat),bnd p n = (x,y) → lget h 0 = some (.frz F) →
   Cln 1 (FoK F fun o F'=>o = .ret (.tup [.va (.int .i64 (bnd p n).1),.va (.int .i64 (bnd p n).2)]) ∧ F' = F) (.ret (.tup [.va (.int .i64 x),.va (.int .i64 y)])) h nx:=by
  intro x y h nx hv h0
  exact endFo (.ret (.tup [.va (.int .i64 x),.va (.int .i64 y)])) F h0 (Fz.r F) (Fz.r F) ⟨by rw [hv],rfl⟩ (zaj _) rfl
 obtain ⟨han,hab,hae,hac,haL,har,rfl,ha1,ha2,ha3,ha4⟩:=ha
 refine fo_of hΘ Tryz.func244 rfl (by decide) _ _ rfl rfl rfl ?_;conv=>whnf
 refine br (fun g=>?_) (fun g=>?_)
 ·have g1:p = 2:=od g
  conv=>whnf
  exact fin 0 7 _ _ (by rw [bnd,if_pos g1]) rfl
 ·have g1:¬ p = 2:=oe g
  conv=>whnf
  refine br (fun g=>?_) (fun g=>?_)
  ·have g2:n.length < 2:=by have h0:(n.length:Int) < 2:=od g; omega
   conv=>whnf
   exact fin 0 31 _ _ (by rw [bnd,if_neg g1,if_pos g2]) rfl
  ·have g2:¬ n.length < 2:=by have h0:¬ (n.length:Int) < 2:=oe g; omega
   conv=>whnf
   refine br (fun g=>?_) (fun g=>?_)
   ·have g3:p = 4:=od g
    have gk:n.length - 2 < n.length:=by omega
    have ew:IntKind.i64.wrap ((n.length:Int) - 2) = ((n.length - 2:Nat):Int):=by rw [zal (by omega) (by omega)]; omega
    conv=>whnf
    refine drawP hΘ mixed (lk [0,1,2,3,4,5,6] .done) [] (by kernel_rfl) ?_;conv=>whnf
    refine ⟨Sl.lt ha1 gk,⟨by rw [ew]; omega,by rw [ew]; omega⟩,?_⟩;conv=>whnf
    refine ⟨rfl,?_⟩;conv=>whnf
    refine ⟨_,ha2 (Sl.lt ha1 gk),?_⟩;conv=>whnf
    refine ⟨encI n[n.length - 2],by dsimp only; rw [ew]; exact Sl.at ha4 gk,?_⟩;conv=>whnf
    refine fin 0 n[n.length - 2] _ _ ?_ rfl
    rw [bnd,if_neg g1,if_neg g2,if_pos g3,yt,qc gk]; rfl
   ·have g3:¬ p = 4:=oe g
    conv=>whnf
    refine br (fun g=>?_) (fun g=>?_)
    ·have g4:p = 3:=od g
     conv=>whnf
     exact fin (-1000000) 1000000 _ _ (by rw [bnd,if_neg g1,if_neg g2,if_neg g3,if_pos g4]) rfl
    ·have g4:¬ p = 3:=oe g
     conv=>whnf
     exact fin (-1000000000000) 1000000000000 _ _ (by rw [bnd,if_neg g1,if_neg g2,if_neg g3,if_neg g4]) rfl
end Go.Proofs.YtfnkamphhpldcaaGreatDoor
