import Derived.Test.YtfnkamphhpldcaaGreatDoorK25
import Derived.Test.YtfnkamphhpldcaaGreatDoorK12
import Derived.Test.YtfnkamphhpldcaaGreatDoorK24
set_option maxHeartbeats 64000000
namespace Go.Proofs.YtfnkamphhpldcaaGreatDoor
open Go Sx
theorem z4e (n:Int):unz (zig n) = n:=by
 unfold zig unz
 split<;>split<;>omega
theorem zu3 (z:Nat):putZ z ≠ []:=by
 by_cases h:z < 128
 ·rw [zj6 h]; simp
 ·rw [zqa h]; simp
theorem zua (z:Nat):∀ (r:List UInt8) (f i acc:Nat),(putZ z).length ≤ f → ∃ b,decZ (putZ z ++ r) f i acc = some (acc + z * 128 ^ i,i + ((putZ z).length - 1),b) ∧ (b = 0 → z = 0):=by
 induction z using Nat.strongRecOn with
 |_ z ih=>
  intro r f i acc hf
  by_cases hz:z < 128
  ·rw [zj6 hz] at hf ⊢
   obtain ⟨f,rfl⟩:∃ g,f = g + 1:=⟨f - 1,by simp at hf; omega⟩
   have e:(UInt8.ofNat z).toNat = z:=by rw [qal]; exact jo (by omega)
   refine ⟨UInt8.ofNat z,?_,fun h=>?_⟩
   ·rw [jt,qu,decZ,if_neg (by rw [e]; omega),e]; rfl
   ·rw [h] at e; exact e.symm
  ·have h1:=ih (z / 128) (by omega)
   rw [zqa hz] at hf ⊢
   obtain ⟨f,rfl⟩:∃ g,f = g + 1:=⟨f - 1,by simp at hf; omega⟩
   have e:(UInt8.ofNat (z % 128 + 128)).toNat = z % 128 + 128:=by rw [qal]; exact jo (by omega)
   obtain ⟨b,h2,h3⟩:=h1 r f (i + 1) (acc + (z % 128 + 128) % 128 * 128 ^ i) (by simp at hf; omega)
   have hne:0 < (putZ (z / 128)).length:=qb2.2 (zu3 _)
   refine ⟨b,?_,fun hb=>?_⟩
   ·rw [jt,decZ,if_pos (by rw [e]; omega),e,h2,qcq]
    have e2:acc + (z % 128 + 128) % 128 * 128 ^ i + z / 128 * (128 ^ i * 128) = acc + z * 128 ^ i:=by
     have h4:z * 128 ^ i = (z % 128 + 128 * (z / 128)) * 128 ^ i:=by rw [Nat.mod_add_div]
     have h5:(z % 128 + 128) % 128 = z % 128:=by omega
     rw [h4,h5,qa8,qa0 (128 ^ i) 128,← Nat.mul_assoc,qa0 (z / 128) 128]
     omega
    rw [e2,qe]
    have e3:i + 1 + ((putZ (z / 128)).length - 1) = i + ((putZ (z / 128)).length + 1 - 1):=by omega
    rw [e3]
   ·have:=h3 hb; omega
def okI (n:Int):Prop:=-4611686018427387903 ≤ n ∧ n ≤ 4611686018427387903
theorem ziy {n:Int} (h:okI n):(putIR n).1 = putI n:=by
 unfold okI at h
 rw [putIR,if_neg (by omega)]
theorem zh4 (n:Int):putI n ≠ []:=zu3 _
theorem zdz (pre r:List UInt8) {n:Int} (h:okI n):getI (pre ++ (putI n ++ r)) (pre.length:Nat) = (n,(((pre ++ putI n).length:Nat):Int),0):=by
 have hl:=zmk n h
 have hne:0 < (putI n).length:=qb2.2 (zh4 n)
 obtain ⟨b,h1,h2⟩:=zua (zig n) r 9 0 0 hl
 rw [getI,if_neg (by rw [qa]; omega),ql,qb8]
 show (match decZ (putZ (zig n) ++ r) 9 0 0 with | none=>_ | some (z,i,b)=>_) = _
 rw [h1]
 have e1:0 + zig n * 128 ^ 0 = zig n:=by simp
 simp only [e1,z4e]
 have hn:okI n:=h
 unfold okI at h
 rw [if_neg]
 ·have e2:((0 + ((putZ (zig n)).length - 1):Nat):Int) + 1 = (putI n).length:=by
   show ((0 + ((putI n).length - 1):Nat):Int) + 1 = _
   omega
  rw [qa]
  have:(pre.length:Int) + ((0 + ((putZ (zig n)).length - 1):Nat):Int) + 1 = ((pre.length + (putI n).length:Nat):Int):=by omega
  rw [this]
 ·rintro (⟨h3,h4⟩ | h3)
  ·have hz:=h2 h3
   rw [hz,zj6 (by omega)] at h4
   simp at h4
  ·omega
theorem zsl (pre r t:List UInt8) (h:t.length ≤ 65536):getS (pre ++ ((putSR t).1 ++ r)) (pre.length:Nat) = (t,(((pre ++ (putSR t).1).length:Nat):Int),0):=by
 have e:(putSR t).1 = putI t.length ++ t:=by rw [putSR,if_neg (by omega)]
 have hok:okI (t.length:Int):=by unfold okI; omega
 rw [e]
 have hg:=zdz pre (t ++ r) hok
 rw [qk,getS,hg]
 dsimp only
 rw [if_neg (by simp),if_neg]
 ·have e1:((((pre ++ putI t.length).length:Nat):Int) + (t.length:Int)).toNat = (pre ++ putI t.length ++ t).length:=by
   rw [qa (bs:=t)]; omega
  have e2:pre ++ (putI t.length ++ (t ++ r)) = (pre ++ putI t.length ++ t) ++ r:=by simp only [qk]
  rw [e1,e2,List.take_left,ql,qb8]
  refine Prod.ext rfl (Prod.ext ?_ rfl)
  show (((pre ++ putI t.length).length:Nat):Int) + (t.length:Int) = _
  show _ = (((pre ++ (putI t.length ++ t)).length:Nat):Int)
  simp only [qa]; omega
 ·rintro (h1 | h1 | h1)
  ·omega
  ·omega
  ·simp only [qa] at h1; omega
theorem zvj (pre r:List UInt8) {n lo hi:Int} (h:okI n) (h2:lo ≤ n ∧ n ≤ hi):zb1 (pre ++ (putI n ++ r)) (pre.length:Nat) lo hi = true:=by
 rw [zbs,zdz pre r h]
 exact ⟨rfl,h2⟩
theorem z4r {acc:List Int} (ha:∀ x ∈ acc,okI x) (k:Nat):okI (acc.getD k 0):=by
 rw [yt]
 cases h:acc[k]? with
 |none=>show okI 0; unfold okI; omega
 |some x=>exact ha x (yi h)
theorem z8y {p:Int} {acc:List Int} (ha:∀ x ∈ acc,okI x) {x:Int} (h:(bnd p acc).1 ≤ x ∧ x ≤ (bnd p acc).2):okI x:=by
 unfold bnd at h
 have h2:=z4r ha (acc.length - 2)
 unfold okI at h2 ⊢
 split at h
 ·dsimp only at h; omega
 split at h
 ·dsimp only at h; omega
 split at h
 ·dsimp only at h; omega
 split at h
 ·dsimp only at h; omega
 ·dsimp only at h; omega
theorem zfr (x:Int) (r:List Int):zae (x :: r) = (putIR x).1 ++ zae r:=rfl
theorem zm8 {p:Int} (r:List UInt8):∀ (n acc:List Int) (pre:List UInt8),(∀ x ∈ acc,okI x) → zk7 p acc n → numsS (pre ++ (zae n ++ r)) p n.length acc (pre.length:Nat) = some (acc ++ n,(((pre ++ zae n).length:Nat):Int))
 |[],acc,pre,_,_=>by
  show some (acc,_) = _
  simp [zae]
 |x :: n,acc,pre,ha,h=>by
  have hx:=z8y ha h.1
  have ih:=zm8 r n (acc ++ [x]) (pre ++ putI x) (fun z hz=>by rcases yl.1 hz with h | h; exact ha z h; rw [qy.1 h]; exact hx) h.2
  rw [zfr,ziy hx,qk,qe,numsS,if_pos (zvj pre _ hx h.1),zdz pre _ hx]
  dsimp only
  rw [qk] at ih
  rw [ih]
  simp only [qk,qcx]
theorem zur {p:Int} {before:List Ln} {x:Ln} (pre r:List UInt8) (h:lnOk p before x):lineS (pre ++ (lineW p x ++ r)) p before (pre.length:Nat) = some (x,(((pre ++ lineW p x).length:Nat):Int)):=by
 unfold lnOk at h
 unfold lineS
 split at h
 ·rename_i hp
  obtain ⟨t,n⟩:=x
  obtain ⟨h1,h2,h3⟩:=h
  replace h1:n = []:=h1
  subst h1
  have e:lineW p (t,[]) = (putSR t).1:=by rw [lineW,if_pos hp]; exact jw _
  replace h2:t.length ≤ 80:=h2
  rw [if_pos hp,e,zsl pre r t (by omega)]
  exact if_pos ⟨rfl,h2,h3⟩
 ·rename_i hp
  obtain ⟨t,n⟩:=x
  obtain ⟨h1,h2,h3,h4⟩:=h
  replace h1:t = []:=h1
  subst h1
  replace h2:n.length = cols p:=h2
  have e:lineW p ([],n) = zae n:=by rw [lineW,if_neg hp]; rfl
  rw [if_neg hp,e,← h2,zm8 r n [] pre (fun _ h=>absurd h (by simp)) h3]
  dsimp only
  rw [qu]
  by_cases hp2:p = 2
  ·rw [if_pos hp2]
  ·rw [if_neg hp2]
   cases hl:before.getLast? with
   |none=>rfl
   |some y=>exact if_pos (h4 hp2 y hl)
theorem zkr {p:Int} (r:List UInt8):∀ (l acc:List Ln) (pre:List UInt8),lnsOk p acc l → zca (pre ++ ((l.map (lineW p)).flatten ++ r)) p l.length acc (pre.length:Nat) = some (acc ++ l,(((pre ++ (l.map (lineW p)).flatten).length:Nat):Int))
 |[],acc,pre,_=>by
  show some (acc,_) = _
  simp
 |x :: l,acc,pre,h=>by
  have ih:=zkr r l (acc ++ [x]) (pre ++ lineW p x) h.2
  rw [qx,jy,qk,qe,zca,zur pre _ h.1]
  dsimp only
  rw [qk] at ih
  rw [ih]
  simp only [qk,qcx]
theorem zob {n:Int} (h:okI n):zae [n] = putI n:=by
 rw [zfr,ziy h]; exact jw _
theorem zki {n m:Int} (h:okI n) (h2:okI m):zae [n,m] = putI n ++ putI m:=by
 rw [zfr,ziy h,zob h2]
theorem zti {p:Int} {v:Val} (hp:1 ≤ p ∧ p ≤ 8) (hv:VOK p v):readS p (zbh p v) = some v:=by
 rcases hv with rfl | ⟨hl,hv⟩
 ·have e:zbh p loseV = []:=if_pos rfl
  rw [e,readS,if_neg (by omega),if_pos rfl]; rfl
 obtain ⟨lost,L,w,h,bits⟩:=v
 replace hl:lost = false:=hl
 subst hl
 dsimp only at hv
 by_cases h8:p = 8
 ·rw [if_pos h8] at hv
  obtain ⟨rfl,rfl,hw,hh⟩:=hv
  have ow:okI w:=by unfold okI; omega
  have oh:okI h:=by unfold okI; omega
  have e:zbh p ⟨false,[],w,h,[]⟩ = putI w ++ putI h:=by
   rw [zbh,if_neg (by simp),if_pos (by omega),if_neg (by omega),jw,zki ow oh]
  have g1:=zdz [] (putI h) ow
  have g2:=zdz (putI w) [] oh
  rw [qu,qu] at g1
  rw [jw] at g2
  replace g1:getI (putI w ++ putI h) 0 = (w,((putI w).length:Int),0):=g1
  rw [e,readS,if_neg (by omega),if_neg (by simp [zh4]),if_pos h8,g1]
  dsimp only
  rw [g2,if_pos]
  exact ⟨zbs.2 (by rw [g1]; exact ⟨rfl,hw⟩),zbs.2 (by rw [g2]; exact ⟨rfl,hh⟩),rfl⟩
 rw [if_neg h8] at hv
 by_cases h6:6 ≤ p
 ·rw [if_pos h6] at hv
  obtain ⟨rfl,hw,hh,hb⟩:=hv
  have ow:okI w:=by unfold okI; omega
  have oh:okI h:=by unfold okI; omega
  by_cases h7:p = 7
  ·rw [if_pos h7] at hb
   have hbl:bits.length ≤ 65536:=by
    have h5:w * h ≤ 32 * h:=qbu hw.2 (by omega)
    omega
   have e:zbh p ⟨false,[],w,h,bits⟩ = putI w ++ (putI h ++ (putSR bits).1):=by
    rw [zbh,if_neg (by simp),if_pos (by omega),if_pos h7,zki ow oh,qk]
   have g1:=zdz [] (putI h ++ (putSR bits).1) ow
   have g2:=zdz (putI w) (putSR bits).1 oh
   have g3:=zsl (putI w ++ putI h) [] bits hbl
   rw [qu,qu] at g1
   rw [jw,qk (putI w)] at g3
   replace g1:getI (putI w ++ (putI h ++ (putSR bits).1)) 0 = (w,((putI w).length:Int),0):=g1
   rw [e,readS,if_neg (by omega),if_neg (by simp [zh4]),if_neg h8,if_pos h6,g1]
   dsimp only
   rw [g2]
   dsimp only
   rw [if_pos ⟨zbs.2 (by rw [g1]; exact ⟨rfl,hw⟩),zbs.2 (by rw [g2]; exact ⟨rfl,hh⟩)⟩,if_pos h7,g3]
   exact if_pos ⟨rfl,hb.1,hb.2,by simp only [qk]⟩
  ·rw [if_neg h7] at hb
   subst hb
   have e:zbh p ⟨false,[],w,h,[]⟩ = putI w ++ putI h:=by
    rw [zbh,if_neg (by simp),if_pos (by omega),if_neg (by omega),jw,zki ow oh]
   have g1:=zdz [] (putI h) ow
   have g2:=zdz (putI w) [] oh
   rw [qu,qu] at g1
   rw [jw] at g2
   replace g1:getI (putI w ++ putI h) 0 = (w,((putI w).length:Int),0):=g1
   rw [e,readS,if_neg (by omega),if_neg (by simp [zh4]),if_neg h8,if_pos h6,g1]
   dsimp only
   rw [g2]
   dsimp only
   rw [if_pos ⟨zbs.2 (by rw [g1]; exact ⟨rfl,hw⟩),zbs.2 (by rw [g2]; exact ⟨rfl,hh⟩)⟩,if_neg h7]
   exact if_pos rfl
 ·rw [if_neg h6] at hv
  obtain ⟨rfl,rfl,rfl,hl,ho⟩:=hv
  have on:okI (L.length:Int):=by unfold okI; omega
  have e:zbh p ⟨false,L,0,0,[]⟩ = putI L.length ++ (L.map (lineW p)).flatten:=by
   rw [zbh,if_neg (by simp),if_neg h6,zob on]
  have g1:=zdz [] ((L.map (lineW p)).flatten) on
  have g2:=zkr [] L [] (putI L.length) ho
  rw [qu,qu] at g1
  rw [jw] at g2
  replace g1:getI (putI L.length ++ (L.map (lineW p)).flatten) 0 = ((L.length:Int),((putI L.length).length:Int),0):=g1
  rw [e,readS,if_neg (by omega),if_neg (by simp [zh4]),if_neg h8,if_neg h6,if_pos (zbs.2 (by rw [g1]; exact ⟨rfl,by dsimp only; omega,by dsimp only; omega⟩)),g1]
  dsimp only
  rw [ql,g2]
  dsimp only
  rw [qu]
  exact if_pos rfl
theorem zqq {p:Int} {l:List Stp} {v:Val} (hl:zbn p l = true) (hv:VOK p v):zde p l (zbh p v) = (zbh p (runS l v),0):=by
 rw [zde,if_pos hl,zti (z3c hl) hv]
instance decNums (p:Int):∀ (l acc:List Int),Decidable (zk7 p acc l)
 |[],_=>isTrue trivial
 |x :: r,acc=>@instDecidableAnd _ _ inferInstance (decNums p r (acc ++ [x]))
instance decLn (p:Int) (before:List Ln) (x:Ln):Decidable (lnOk p before x):=by
 unfold lnOk
 have:Decidable (∀ y,before.getLast? = some y → cmpL (y.2.take 2) (x.2.take 2) < 0):=by
  cases h:before.getLast? with
  |none=>exact isTrue (fun y hy=>by cases hy)
  |some z=>
   by_cases hz:cmpL (z.2.take 2) (x.2.take 2) < 0
   ·exact isTrue (fun y hy=>by cases hy; exact hz)
   ·exact isFalse (fun hy=>hz (hy z rfl))
 infer_instance
instance decLns (p:Int):∀ (l acc:List Ln),Decidable (lnsOk p acc l)
 |[],_=>isTrue trivial
 |x :: r,acc=>@instDecidableAnd _ _ (decLn p acc x) (decLns p r (acc ++ [x]))
def VOK1 (p:Int) (v:Val):Prop:=v.lost = false ∧
  if p = 8 then v.lines = [] ∧ v.bits = [] ∧ (0 ≤ v.w ∧ v.w ≤ 64) ∧ (0 ≤ v.h ∧ v.h ≤ 64)
  else if 6 ≤ p then v.lines = [] ∧ (0 ≤ v.w ∧ v.w ≤ 32) ∧ (min v.w 1 ≤ v.h ∧ v.h ≤ min v.w 1 * 32) ∧ (if p = 7 then (v.bits.length:Int) = v.w * v.h ∧ v.bits.all (fun b=>b == 48 || b == 49) = true else v.bits = [])
  else v.w = 0 ∧ v.h = 0 ∧ v.bits = [] ∧ v.lines.length ≤ 64 ∧ lnsOk p [] v.lines
theorem VOK1.ok {p:Int} {v:Val} (h:VOK1 p v):VOK p v:=.inr h
instance decVOK (p:Int) (v:Val):Decidable (VOK1 p v):=by unfold VOK1; infer_instance
end Go.Proofs.YtfnkamphhpldcaaGreatDoor
namespace Sx
open Go
theorem z8a {P:Program} {c:Code} {st:St} {Q:SE → St → Prop} {X:Type} (I0:St) (I:X → St) (h0:WfH st.h st.nx → WfT st.t st.nx → Le st I0 ∧ WP P c I0 (fun e st'=>e = .normal ∧ ∃ x,Le st' (I x))) (h2:∀ x,Q .normal (I x)):WP P c st Q:=by
 unfold WP
 intro C ρ a w D
 obtain ⟨h0,h1⟩:=h0 D.wfH D.wfT
 unfold Le at h0
 obtain ⟨ρ1,D1⟩:=h0 C ρ a w D
 unfold WP at h1
 refine wp_mono (h1 C ρ1 a w D1) ?_
 rintro e a' w' ⟨se,st',ρ',⟨rfl,x,hle⟩,rfl,D'⟩
 unfold Le at hle
 obtain ⟨ρ2,D2⟩:=hle C ρ' a' w' D'
 exact ⟨.normal,I x,ρ2,h2 x,rfl,D2⟩
end Sx
namespace Go.Proofs.YtfnkamphhpldcaaGreatDoor
open Go Sx
set_option maxRecDepth 100000
theorem zg9 {P:Program} {F:Fz} {f:FuncId} {args:List SV} {b:Bool} {R:Fz → Prop} (h:Fo P F f args (fun o F'=>o = .ret (.va (.bool b)) ∧ R F')):Fo P F f args (fun o F'=>o = .ret (.va (.lit b)) ∧ R F'):=by
 unfold Fo at *
 refine zj7 h fun o h n hc=>?_
 unfold Cln at *
 intro C ρ w e hn S hr hb
 obtain ⟨out0,F0,h0,n0,ρ0,⟨k1,k2,k3,k4,rfl,k5⟩,q1,q2,r⟩:=hc C ρ w e hn S hr hb
 exact ⟨.ret (.va (.lit b)),F0,h0,n0,ρ0,⟨k1,k2,k3,rfl,rfl,k5⟩,q1,tv,r⟩
end Go.Proofs.YtfnkamphhpldcaaGreatDoor
namespace Go.Proofs.YtfnkamphhpldcaaGreatDoor
open Go Sx
set_option maxRecDepth 100000
theorem zsx {p:Int} {v:Val} (hv:Fits v):(zbh p v).length ≤ 100000000000:=by
 unfold zbh
 split
 ·simp
 split
 ·have h1:=zaz [v.w,v.h]
  have h2:=zdg v.bits
  rw [qa]
  simp only [qe,qp] at h1
  split
  ·omega
  ·simp only [qp]; omega
 ·have h1:=zaz [(v.lines.length:Int)]
  have h2:=zh2 (p:=p) v.lines (fun x hx=>(hv.h2 x hx).2)
  have h3:=hv.h1
  rw [qa]
  simp only [qe,qp] at h1
  have h4:74545 * v.lines.length ≤ 74545 * 1000:=qbg _ h3
  omega
def inR (n lo hi:Int):Bool:=decide (lo ≤ n) && decide (n ≤ hi)
theorem zsw (n lo hi:Int):Pu Tryz.prog 217 [.va (.int .i64 n),.va (.int .i64 lo),.va (.int .i64 hi)] (.va (.bool (inR n lo hi))):=by
 intro F
 refine fo_of hΘ Tryz.func217 rfl (by decide) _ _ rfl rfl rfl ?_;conv=>whnf
 refine ⟨fun g=>?_,fun g=>?_⟩
 ·conv=>whnf
  refine endPu rfl (Fz.r F) (ob ?_) rfl
  unfold inR; rw [g,y5]
 ·conv=>whnf
  refine endPu rfl (Fz.r F) (ob ?_) rfl
  unfold inR; rw [g,qt]
theorem zdx {n lo hi:Int} {b:Bool} (h:inR n lo hi = b) (F:Fz):Fo Tryz.prog F 217 [.va (.int .i64 n),.va (.int .i64 lo),.va (.int .i64 hi)] (fun o F'=>o = .ret (.va (.lit b)) ∧ F' = F):=by
 have h1:=zsw n lo hi F
 rw [h] at h1
 exact zg9 h1
abbrev docS (a b:SA) (w:Int) (s:List UInt8):List SA:=[a,b,.int .i64 w,.str s]
def hgt (w:Int) (s:List UInt8):Int:=if w < 1 then 0 else (s.length:Int).tdiv w
theorem zi9 (F:Fz) (a b:SA) (w:Int) (s:List UInt8) (hs:s.length ≤ 1000000000000000000):Fo Tryz.prog F 168 [.agg (docS a b w s)] (fun o F'=>o = .ret (.va (.int .i64 (hgt w s))) ∧ F' = F):=by
 have fin:∀ (z:Int) (h:Hp) (nx:Nat),hgt w s = z → lget h 0 = some (.frz F) → Cln 1 (FoK F fun o F'=>o = .ret (.va (.int .i64 (hgt w s))) ∧ F' = F) (.ret (.va (.int .i64 z))) h nx:=by
  intro z h nx hz h0
  subst hz
  exact endPu h0 (Fz.r F) (zaj _) rfl
 by_cases hw:w < 1
 ·have e:hgt w s = 0:=if_pos hw
  refine fo_of hΘ Tryz.func168 rfl (by decide) _ _ rfl rfl rfl ?_;conv=>whnf
  refine bri hw ?_;conv=>whnf
  exact fin 0 _ _ e rfl
 ·have hw0:w ≠ 0:=by omega
  have hd:IntKind.i64.wrap ((s.length:Int).tdiv w) = (s.length:Int).tdiv w:=by
   have h1:0 ≤ (s.length:Int).tdiv w:=Int.tdiv_nonneg (by omega) (by omega)
   have h2:(s.length:Int).tdiv w ≤ s.length:=by
    rw [q8 (by omega)]
    exact Int.ediv_le_self _ (by omega)
   exact zal (by omega) (by omega)
  have e:hgt w s = IntKind.i64.wrap ((s.length:Int).tdiv w):=by rw [hd]; exact if_neg hw
  refine fo_of hΘ Tryz.func168 rfl (by decide) _ _ rfl rfl rfl ?_;conv=>whnf
  refine brj hw ?_;conv=>whnf
  refine ⟨hw0,?_⟩;conv=>whnf
  exact fin _ _ _ e rfl
structure Cel where
 row:Int
 col:Int
 sum:Bool
 value:Int
 top:Int
 left:Int
def encK (c:Cel):List SA:=[.int .i64 c.row,.int .i64 c.col,.bool c.sum,.int .i64 c.value,.int .i64 c.top,.int .i64 c.left]
def celOk (c:Cel):Bool:=(inR c.row 0 31 && inR c.col 0 31) && (if c.sum = true then (decide (c.value = 0) && inR c.top 0 c.row) && inR c.left 0 c.col else (inR c.value (-1000000) 1000000 && decide (c.top = 0)) && decide (c.left = 0))
theorem zwl (F:Fz) (c:Cel):Fo Tryz.prog F 148 [.agg (encK c)] (fun o F'=>o = .ret (.va (.bool (celOk c))) ∧ F' = F):=by
 obtain ⟨row,col,sum,value,top,left⟩:=c
 have hx:∃ b1 b2 b3 b4 b5,inR row 0 31 = b1 ∧ inR col 0 31 = b2 ∧ inR top 0 row = b3 ∧ inR left 0 col = b4 ∧ inR value (-1000000) 1000000 = b5:=⟨_,_,_,_,_,rfl,rfl,rfl,rfl,rfl⟩
 obtain ⟨b1,b2,b3,b4,b5,h1,h2,h3,h4,h5⟩:=hx
 have w1:=zdx h1 F
 have w2:=zdx h2 F
 have w3:=zdx h3 F
 have w4:=zdx h4 F
 have w5:=zdx h5 F
 have fin:∀ (z:Bool) (a:SA) (h:Hp) (nx:Nat),celOk ⟨row,col,sum,value,top,left⟩ = z → atomE (.bool z) (a.ren (resP h)) → lget h 0 = some (.frz F) → Cln 1 (FoK F fun o F'=>o = .ret (.va (.bool (celOk ⟨row,col,sum,value,top,left⟩))) ∧ F' = F) (.ret (.va a)) h nx:=by
  intro z a h nx hz ha h0
  subst hz
  exact endPu h0 (Fz.r F) ha rfl
 have e:celOk ⟨row,col,sum,value,top,left⟩ = ((b1 && b2) && (if sum = true then (decide (value = 0) && b3) && b4 else (b5 && decide (top = 0)) && decide (left = 0))):=by
  rw [← h1,← h2,← h3,← h4,← h5]; rfl
 clear h1 h2 h3 h4 h5
 refine fo_of hΘ Tryz.func148 rfl (by decide) _ _ rfl rfl rfl ?_;conv=>whnf
 refine usePu w1 rfl ⟨rfl,rfl,rfl,tv⟩ rfl ?_
 rcases b1 with _ | _
 ·conv=>whnf
  exact fin false _ _ _ e rfl rfl
 ·conv=>whnf
  refine usePu w2 rfl ⟨rfl,rfl,rfl,tv⟩ rfl ?_
  rcases b2 with _ | _
  ·conv=>whnf
   exact fin false _ _ _ e rfl rfl
  ·rcases sum with _ | _
   ·conv=>whnf
    refine br (fun g=>absurd g (by show ¬ false = true; decide)) (fun _=>?_);conv=>whnf
    refine usePu w5 rfl ⟨rfl,rfl,rfl,tv⟩ rfl ?_
    rcases b5 with _ | _
    ·conv=>whnf
     exact fin false _ _ _ e rfl rfl
    ·conv=>whnf
     by_cases ht:top = 0
     ·refine ⟨fun _=>?_,fun g=>absurd ht (oe g)⟩;conv=>whnf
      exact fin (decide (left = 0)) _ _ _ (by rw [e,decide_eq_true ht]; simp) rfl rfl
     ·refine ⟨fun g=>absurd (od g) ht,fun _=>?_⟩;conv=>whnf
      exact fin false _ _ _ (by rw [e,decide_eq_false ht]; simp) rfl rfl
   ·conv=>whnf
    refine br (fun _=>?_) (fun g=>absurd g (by show ¬ true = false; decide));conv=>whnf
    by_cases hv:value = 0
    ·refine ⟨fun _=>?_,fun g=>absurd hv (oe g)⟩;conv=>whnf
     refine usePu w3 rfl ⟨rfl,rfl,rfl,tv⟩ rfl ?_
     rcases b3 with _ | _
     ·conv=>whnf
      exact fin false _ _ _ (by rw [e,decide_eq_true hv]; rfl) rfl rfl
     ·conv=>whnf
      refine usePu w4 rfl ⟨rfl,rfl,rfl,tv⟩ rfl ?_;conv=>whnf
      exact fin b4 _ _ _ (by rw [e,decide_eq_true hv]; simp) rfl rfl
    ·refine ⟨fun g=>absurd (od g) hv,fun _=>?_⟩;conv=>whnf
     exact fin false _ _ _ (by rw [e,decide_eq_false hv]; simp) rfl rfl
end Go.Proofs.YtfnkamphhpldcaaGreatDoor
namespace Go.Proofs.YtfnkamphhpldcaaGreatDoor
open Go Go.RowKit Sx
theorem z3p (w:World):PredAtRunes Tryz.prog 215 #[] badR w:=by
 intro W x hx hb
 unfold FnGives
 go_enter Tryz.func215,Tryz.ntmps215
 by_cases h1:32 ≤ x
 ·by_cases h2:x ≤ 126
  ·go_wp2
   all_goals go_ret
   all_goals refine ⟨?_,0,rfl⟩
   all_goals (simp [badR,h1,h2]; try omega)
  ·go_wp2
   all_goals go_ret
   all_goals refine ⟨?_,0,rfl⟩
   all_goals (simp [badR,h1,h2]; try omega)
 ·go_wp2
  all_goals go_ret
  all_goals refine ⟨?_,0,rfl⟩
  all_goals (simp [badR,h1]; try omega)
theorem ifun (F:Fz) (s:List UInt8) (hs:s.length ≤ 1000000000000000000):Fo Tryz.prog F 216 [.va (.str s),.va (.fn (.func 215) [])] (fun o F'=>(∃ z,o = .ret (.va (.int .i64 z)) ∧ decide (0 ≤ z) = s.any badC) ∧ F' = F):=by
 refine zb5 (zf5 (F:=F) (args:=[.va (.str s),.va (.fn (.func 215) [])]) (out:=.ret (.va (.int .i64 (Lib.idxFunc badR true ⟨s.toArray⟩)))) (vs:=[.string ⟨s.toArray⟩,.func (.func 215) #[] #[]]) (Sx.enters_of Tryz.func216 rfl (by decide)) rfl (by
   rintro ρ vs' h
   match vs',h with
   |[v,u],h=>rw [h.1,h.2.1]; rfl) (.returned (.int .i64 (Lib.idxFunc badR true ⟨s.toArray⟩))) (fun ρ=>⟨_,rfl,rfl⟩) (fun C ρ w S=>by
   have h:=Any.strings_IndexFunc_runes { Tryz.laysGw17 with } 215 #[] (enters_of Tryz.func215 (by kernel_rfl) rfl) badR ⟨s.toArray⟩ w (z3p w)
   refine h.mono fun e w' ⟨h1,h2⟩=>⟨?_,h2⟩
   rw [h1])) fun o F' h=>⟨⟨_,h.1,by rw [Lib.idxFunc,zpn s _ 0 (by show s.length ≤ 0 + s.toArray.size; simp),qai]⟩,h.2⟩
end Go.Proofs.YtfnkamphhpldcaaGreatDoor
namespace Go.Proofs.YtfnkamphhpldcaaGreatDoor
open Go Sx
set_option maxRecDepth 100000
abbrev DLn:=List UInt8 × Int
def encN (l:DLn):List SA:=[.str l.1,.int .i64 l.2]
def dlnOk (l:DLn):Bool:=(decide (l.1.length ≤ 80) && !l.1.any badC) && inR l.2 0 7
theorem zvd (F:Fz) (l:DLn):Fo Tryz.prog F 146 [.agg (encN l)] (fun o F'=>o = .ret (.va (.bool (dlnOk l))) ∧ F' = F):=by
 obtain ⟨t,m⟩:=l
 have hx:∃ b1 b2,t.any badC = b1 ∧ inR m 0 7 = b2:=⟨_,_,rfl,rfl⟩
 obtain ⟨b1,b2,h1,h2⟩:=hx
 have w2:=zdx h2 F
 have e:dlnOk (t,m) = ((decide (t.length ≤ 80) && !b1) && b2):=by rw [← h1,← h2]; rfl
 have hif:=fun h80:t.length ≤ 80=>ifun F t (jk h80 (by decide))
 rw [h1] at hif
 have fin:∀ (z:Bool) (a:SA) (h:Hp) (nx:Nat),dlnOk (t,m) = z → atomE (.bool z) (a.ren (resP h)) → lget h 0 = some (.frz F) → Cln 1 (FoK F fun o F'=>o = .ret (.va (.bool (dlnOk (t,m)))) ∧ F' = F) (.ret (.va a)) h nx:=by
  intro z a h nx hz ha h0
  subst hz
  exact endPu h0 (Fz.r F) ha rfl
 clear h1 h2
 by_cases h80:t.length ≤ 80
 ·have h80':(t.length:Int) ≤ 80:=by omega
  refine fo_of hΘ Tryz.func146 rfl (by decide) _ _ rfl rfl rfl ?_;conv=>whnf
  refine ⟨fun _=>?_,fun g=>absurd h80' (oe g)⟩;conv=>whnf
  refine useFo (hif h80) rfl ⟨rfl,rfl,tv⟩ rfl ?_
  rintro _ F' _ ⟨⟨z,rfl,hz⟩,rfl⟩
  rcases b1 with _ | _
  ·have hz0:z < 0:=by
    have:=oe hz; omega
   conv=>whnf
   refine ⟨fun _=>?_,fun g=>absurd hz0 (oe g)⟩;conv=>whnf
   refine usePu w2 rfl ⟨rfl,rfl,rfl,tv⟩ rfl ?_;conv=>whnf
   exact fin b2 _ _ _ (by rw [e,decide_eq_true h80]; simp) rfl rfl
  ·have hz0:¬ z < 0:=by
    have:=od hz; omega
   conv=>whnf
   refine ⟨fun g=>absurd (od g) hz0,fun _=>?_⟩;conv=>whnf
   exact fin false _ _ _ (by rw [e]; simp) rfl rfl
 ·have h80':¬ (t.length:Int) ≤ 80:=by omega
  refine fo_of hΘ Tryz.func146 rfl (by decide) _ _ rfl rfl rfl ?_;conv=>whnf
  refine ⟨fun g=>absurd (od g) h80',fun _=>?_⟩;conv=>whnf
  exact fin false _ _ _ (by rw [e,decide_eq_false h80]; simp) rfl rfl
theorem z0a {n lo hi:Int}:inR n lo hi = true ↔ lo ≤ n ∧ n ≤ hi:=by
 unfold inR; simp
def bitK (b:UInt8):Bool:=b == 48 || b == 49
theorem zagg {l:List SA} {μ:Mu} (h:l.all SA.z = true) (h0:∀ k,μ 0 k = (0,k)):svE (.agg l) (SV.ren μ (.agg l)):=by
 have h2:(SV.agg l).z = true:=h
 rw [SV.ren_id (.inl h2) h0]; exact zhk _
def rasOk (w:Int) (s:List UInt8):Bool:=(inR w 0 32 && s.all bitK) && ((decide (w = 0) && (s == [])) || ((decide (0 < w) && decide ((s.length:Int) = w * hgt w s)) && inR (hgt w s) 1 32))
theorem zqr (F:Fz) (a b:SA) (w:Int) (s:List UInt8) (hs:s.length ≤ 70000) (za:a.z = true) (zb:b.z = true):Fo Tryz.prog F 149 [.agg (docS a b w s)] (fun o F'=>o = .ret (.va (.bool (rasOk w s))) ∧ F' = F):=by
 have hz:(docS a b w s).all SA.z = true:=by
  show (a.z && (b.z && (true && (true && true)))) = true
  rw [za,zb]; rfl
 have hzz:([SV.agg (docS a b w s)].all SV.z) = true:=by
  show ((docS a b w s).all SA.z && true) = true
  rw [hz]; rfl
 have htr:=tfun F s hs
 have hhg:=zi9 F a b w s (by omega)
 have hx:∃ b1 b2 b3,inR w 0 32 = b1 ∧ s.all bitK = b2 ∧ inR (hgt w s) 1 32 = b3:=⟨_,_,_,rfl,rfl,rfl⟩
 obtain ⟨b1,b2,b3,h1,h2,h3⟩:=hx
 have w1:=zdx h1 F
 have w3:=zdx h3 F
 have e:rasOk w s = ((b1 && b2) && ((decide (w = 0) && (s == [])) || ((decide (0 < w) && decide ((s.length:Int) = w * hgt w s)) && b3))):=by
  unfold rasOk; rw [h1,h2,h3]
 have hr:b1 = true → 0 ≤ w ∧ w ≤ 32:=fun h=>z0a.1 (h1.trans h)
 have fin:∀ (z:Bool) (a:SA) (h:Hp) (nx:Nat),rasOk w s = z → atomE (.bool z) (a.ren (resP h)) → lget h 0 = some (.frz F) → Cln 1 (FoK F fun o F'=>o = .ret (.va (.bool (rasOk w s))) ∧ F' = F) (.ret (.va a)) h nx:=by
  intro z a h nx hz ha h0
  subst hz
  exact endPu h0 (Fz.r F) ha rfl
 clear h1 h3
 rcases b1 with _ | _
 ·refine fo_of hΘ Tryz.func149 rfl (by decide) _ _ rfl rfl rfl ?_;conv=>whnf
  refine usePu w1 rfl ⟨rfl,rfl,rfl,tv⟩ rfl ?_;conv=>whnf
  exact fin false _ _ _ (by rw [e]; simp) rfl rfl
 have hw:=hr rfl
 refine fo_of hΘ Tryz.func149 rfl (by decide) _ _ rfl rfl rfl ?_;conv=>whnf
 refine usePu w1 rfl ⟨rfl,rfl,rfl,tv⟩ rfl ?_;conv=>whnf
 refine useFo htr rfl ⟨rfl,rfl,tv⟩ rfl ?_
 rintro _ F' _ ⟨rfl,r,rfl,hrr⟩
 rcases b2 with _ | _
 ·have hrn:(!(r == [])) = true:=by
   have h4:¬ r = []:=fun h=>by
    have h5:s.all bitK = true:=hrr.1 h
    rw [h2] at h5; cases h5
   simpa using h4
  conv=>whnf
  refine br (fun _=>?_) (fun g=>absurd hrn (by rw [g]; simp));conv=>whnf
  exact fin false _ _ _ (by rw [e]; simp) rfl rfl
 have hrn:(!(r == [])) = false:=by
  have h4:r = []:=hrr.2 h2
  rw [h4]; rfl
 conv=>whnf
 refine br (fun g=>absurd g (by rw [hrn]; simp)) (fun _=>?_);conv=>whnf
 refine drawP hΘ mixed (lk [0,1,2,3,4,5,6,7,8,9,10,11,12,13,14,15,16,17,18,19,20,21,22,23] (.alt 24 (lk [25,26,27,28,29] (.alt 30 (.alt 31 (lk [32,33,34] .done) .nil) .nil)) .nil)) [1] (by kernel_rfl) ?_;conv=>whnf
 refine ⟨rfl,?_⟩;conv=>whnf
 by_cases hw0:w = 0
 ·refine ⟨fun _=>?_,fun g=>absurd hw0 (oe g)⟩;conv=>whnf
  refine ⟨rfl,?_⟩;conv=>whnf
  by_cases hs0:s = []
  ·have hse:(s == []) = true:=by rw [hs0]; rfl
   refine ⟨fun g=>absurd g (by rw [hse]; simp),fun _=>?_⟩;conv=>whnf
   exact fin true _ _ _ (by rw [e,hse,decide_eq_true hw0]; rfl) rfl rfl
  ·have hse:(s == []) = false:=by simpa using hs0
   have hnp:¬ 0 < w:=by omega
   refine ⟨fun _=>?_,fun g=>absurd g (by rw [hse]; simp)⟩;conv=>whnf
   refine ⟨rfl,?_⟩;conv=>whnf
   refine ⟨fun g=>absurd (od g) hnp,fun _=>?_⟩;conv=>whnf
   exact fin false _ _ _ (by rw [e,hse,decide_eq_false hnp]; simp) rfl rfl
 ·have hpos:0 < w:=by omega
  have hmul:IntKind.i64.wrap (w * hgt w s) = w * hgt w s:=by
   have h6:0 ≤ hgt w s:=by
    unfold hgt; split
    ·omega
    ·exact Int.tdiv_nonneg (by omega) (by omega)
   have h7:hgt w s ≤ 70000:=by
    unfold hgt; split
    ·omega
    ·rw [q8 (by omega)]
     exact Int.le_trans (Int.ediv_le_self _ (by omega)) (by omega)
   have h8:w * hgt w s ≤ 32 * 70000:=qb6 hw.2 h7 h6 (by omega)
   have h9:0 ≤ w * hgt w s:=qb5 (by omega) h6
   exact zal (by omega) (by omega)
  have e':rasOk w s = (decide ((s.length:Int) = IntKind.i64.wrap (w * hgt w s)) && b3):=by
   rw [e,hmul,decide_eq_true hpos,decide_eq_false hw0]; simp
  clear hmul
  refine ⟨fun g=>absurd (od g) hw0,fun _=>?_⟩;conv=>whnf
  refine ⟨rfl,?_⟩;conv=>whnf
  refine ⟨fun _=>?_,fun g=>absurd hpos (oe g)⟩;conv=>whnf
  refine ⟨rfl,?_⟩;conv=>whnf
  refine ⟨rfl,?_⟩;conv=>whnf
  refine ⟨rfl,?_⟩;conv=>whnf
  refine usePu hhg rfl ⟨zagg hz (fun k=>rfl),tv⟩ hzz ?_
  refine ⟨Fz.r F,rfl,?_⟩;conv=>whnf
  by_cases hm:(s.length:Int) = IntKind.i64.wrap (w * hgt w s)
  ·refine ⟨fun _=>?_,fun g=>absurd hm (oe g)⟩
   rw [decide_eq_true hm,y5] at e'
   conv=>whnf
   refine ⟨rfl,?_⟩;conv=>whnf
   refine usePu hhg rfl ⟨zagg hz (fun k=>rfl),tv⟩ hzz ?_
   refine ⟨Fz.r F,rfl,?_⟩;conv=>whnf
   refine usePu w3 rfl ⟨rfl,rfl,rfl,tv⟩ rfl ?_
   refine ⟨Fz.r F,rfl,?_⟩;conv=>whnf
   exact fin b3 _ _ _ e' rfl rfl
  ·refine ⟨fun g=>absurd (od g) hm,fun _=>?_⟩
   rw [decide_eq_false hm,qt] at e'
   conv=>whnf
   exact fin false _ _ _ e' rfl rfl
def idxG {α:Type} (q:α → Bool):List α → Nat → Int
 |[],_=>-1
 |x :: r,n=>if q x = false then n else idxG q r (n + 1)
theorem zje {α:Type} (q:α → Bool) (l:List α) (k:Nat) (h:k < l.length):idxG q (l.drop k) k = if q l[k] = false then (k:Int) else idxG q (l.drop (k + 1)) (k + 1):=by
 rw [qv h]; rfl
theorem zr7 {α:Type} (q:α → Bool):∀ (l:List α) (n:Nat),(0 ≤ idxG q l n) ↔ l.all q = false
 |[],n=>by simp [idxG]
 |x :: r,n=>by
  simp only [idxG,qbw]
  split
  ·rename_i h; simp [h]
  ·rename_i h
   have:q x = true:=by simpa using h
   rw [zr7 q r (n + 1),this]; simp
theorem zro {α:Type} (q:α → Bool) (l:List α):(!decide (0 ≤ idxG q l 0)) = l.all q:=by
 have:=zr7 q l 0
 cases h:l.all q with
 |true=>
  rw [h] at this
  have h2:¬ (0 ≤ idxG q l 0):=fun h3=>by have:=this.1 h3; cases this
  rw [decide_eq_false h2]; rfl
 |false=>rw [h] at this; rw [decide_eq_true (this.2 rfl)]; rfl
theorem al1N (F:Fz) (x:DLn) (bc:Nat) (hx:True) (hB:F bc = some (.cells 224 [.fn (.func 146) []])):Fo Tryz.prog F 214 [.agg (encN x),.va (.ptr (fp bc))] (fun o F'=>o = .ret (.va (.bool (!dlnOk x))) ∧ F' = F):=by
 have hi:=zvd F x
 refine fo_of hΘ Tryz.func214 rfl (by decide) _ _ rfl rfl rfl ?_;conv=>whnf
 refine ⟨_,hB,?_⟩;conv=>whnf
 refine usePu hi rfl (zaa _) rfl ?_;conv=>whnf
 exact endPu rfl (Fz.r F) rfl rfl
theorem al2N (F:Fz) (sa:SA) (l:List DLn) (bc:Nat) (ha:Sl F 148 2 encN sa l) (hl:l.length < 1000000) (hx:∀ x ∈ l,True) (hB:F bc = some (.cells 224 [.fn (.func 146) []])) :
  Fo Tryz.prog F 254 [.va sa,.va (.fn (.func 214) [fp bc])] (fun o F'=>o = .ret (.va (.int .i64 (idxG dlnOk l 0))) ∧ F' = F):=by
 have fin:∀ (x:Int) (h:Hp) (nx:Nat),idxG dlnOk l 0 = x → lget h 0 = some (.frz F) →
   Cln 1 (FoK F fun o F'=>o = .ret (.va (.int .i64 (idxG dlnOk l 0))) ∧ F' = F) (.ret (.va (.int .i64 x))) h nx:=by
  intro x h nx hv h0
  exact endPu h0 (Fz.r F) (oi hv) rfl
 obtain ⟨han,hab,hae,hac,haL,har,rfl,ha1,ha2,ha3,ha4⟩:=ha
 refine fo_of hΘ Tryz.func254 rfl (by decide) _ _ rfl rfl rfl ?_;conv=>whnf
 refine zan hΘ (X:={ k:Nat // k ≤ l.length ∧ idxG dlnOk l 0 = idxG dlnOk (l.drop k) k }) (fun k=>[(8,.va (.int .i64 k.1))]) [4,5,9,10,11,12,13,14,15,16,17,18] (fz fun _=>F) 1 (fun k=>l.length - k.1) ⟨0,by simp⟩
  (fun hH hT=>le0 hH hT rfl (Fz.r F) rfl ⟨rfl,tv⟩) ?_
 rintro ⟨k,hk,hp⟩ hH hT
 replace hk:k ≤ l.length:=hk
 replace hp:idxG dlnOk l 0 = idxG dlnOk (l.drop k) k:=hp
 by_cases g:k < l.length
 ·have hlt:(k:Int) < (l.length:Nat):=by omega
  have hidx:0 ≤ (k:Int) ∧ (k:Int) < (l.length:Nat):=by omega
  have hex:∃ x,l[k] = x:=⟨_,rfl⟩
  obtain ⟨x,hx0⟩:=hex
  have hat:haL[hae + (k:Int).toNat]? = some (encN x):=by rw [← hx0]; exact Sl.at ha4 g
  have hc:=hx _ (jj g)
  try rw [hx0] at hc
  have hcall:=al1N F x bc (trivial) hB
  rw [zje _ l k g,hx0] at hp
  have hk1:k + 1 ≤ l.length:=g
  have hdec:l.length - (k + 1) < l.length - k:=by omega
  have hk62:k < 4611686018427387904:=by omega
  have hqx:∃ b,dlnOk x = b:=⟨_,rfl⟩
  obtain ⟨b,hqx⟩:=hqx
  rw [hqx] at hp hcall
  clear hx hc hx0;conv=>whnf
  refine bri hlt ?_;conv=>whnf
  refine ⟨Sl.lt ha1 g,hidx,?_⟩;conv=>whnf
  refine ⟨_,ha2 (Sl.lt ha1 g),?_⟩;conv=>whnf
  refine ⟨_,hat,?_⟩;conv=>whnf
  refine usePu hcall rfl (zaa _) rfl ?_
  rcases b with _ | _
  ·conv=>whnf
   refine br (fun _=>?_) (fun g2=>absurd g2 (by decide));conv=>whnf
   exact fin _ _ _ (hp.trans (if_pos rfl)) rfl
  ·conv=>whnf
   refine br (fun g2=>absurd g2 (by decide)) (fun _=>?_)
   rw [if_neg (by decide)] at hp
   conv=>whnf
   exact ⟨⟨k + 1,hk1,hp⟩,hdec,lr0 hH hT rfl (Fz.r F) rfl ⟨cnt hk62,tv⟩⟩
 ·have hge:¬ (k:Int) < (l.length:Nat):=by omega
  rw [jq (by omega)] at hp
  conv=>whnf
  refine brj hge ?_;conv=>whnf
  exact fin _ _ _ hp rfl
theorem al3N (F:Fz) (sa:SA) (l:List DLn) (bc:Nat) (ha:Sl F 148 2 encN sa l) (hl:l.length < 1000000) (hx:∀ x ∈ l,True) (hB:F bc = some (.cells 224 [.fn (.func 146) []])) :
  Fo Tryz.prog F 213 [.va sa,.va (.fn (.func 214) [fp bc])] (fun o F'=>o = .ret (.va (.bool (decide (0 ≤ idxG dlnOk l 0)))) ∧ F' = F):=by
 have h:=al2N F sa l bc ha hl hx hB
 obtain ⟨han,hab,hae,hac,haL,har,rfl,ha1,ha2,ha3,ha4⟩:=ha
 refine fo_of hΘ Tryz.func213 rfl (by decide) _ _ rfl rfl rfl ?_;conv=>whnf
 refine usePu h rfl (zaa _) rfl ?_;conv=>whnf
 exact endPu rfl (Fz.r F) (ob rfl) rfl
theorem allN (F:Fz) (sa:SA) (l:List DLn) (ha:Sl F 148 2 encN sa l) (hl:l.length < 1000000) (hx:∀ x ∈ l,True) :
  Fo Tryz.prog F 145 [.va sa,.va (.fn (.func 146) [])] (fun o F'=>o = .ret (.va (.bool (l.all dlnOk))) ∧ F' = F):=by
 have h:=fun F' (hle:Fz.le F F') bc=>al3N F' sa l bc (ha.mono hle) hl hx
 have e:=zro dlnOk l
 obtain ⟨han,hab,hae,hac,haL,har,rfl,ha1,ha2,ha3,ha4⟩:=ha
 refine fo_of hΘ Tryz.func145 rfl (by decide) _ _ rfl rfl rfl ?_;conv=>whnf
 refine za0 1 (fun _=>.cells 224 [.fn (.func 146) []]) rfl rfl rfl (fun _ _=>rfl) (fun _ _=>SB.bB_ok rfl) ?_
 intro bc F2 l2 hB
 refine usePu (h F2 l2 (bc 0) (hB 0 rfl)) rfl (zaa _) rfl ?_;conv=>whnf
 exact endPu rfl l2 (ob e.symm) rfl
theorem al1K (F:Fz) (x:Cel) (bc:Nat) (hx:True) (hB:F bc = some (.cells 226 [.fn (.func 148) []])):Fo Tryz.prog F 219 [.agg (encK x),.va (.ptr (fp bc))] (fun o F'=>o = .ret (.va (.bool (!celOk x))) ∧ F' = F):=by
 have hi:=zwl F x
 refine fo_of hΘ Tryz.func219 rfl (by decide) _ _ rfl rfl rfl ?_;conv=>whnf
 refine ⟨_,hB,?_⟩;conv=>whnf
 refine usePu hi rfl (zaa _) rfl ?_;conv=>whnf
 exact endPu rfl (Fz.r F) rfl rfl
theorem al2K (F:Fz) (sa:SA) (l:List Cel) (bc:Nat) (ha:Sl F 151 6 encK sa l) (hl:l.length < 1000000) (hx:∀ x ∈ l,True) (hB:F bc = some (.cells 226 [.fn (.func 148) []])) :
  Fo Tryz.prog F 220 [.va sa,.va (.fn (.func 219) [fp bc])] (fun o F'=>o = .ret (.va (.int .i64 (idxG celOk l 0))) ∧ F' = F):=by
 have fin:∀ (x:Int) (h:Hp) (nx:Nat),idxG celOk l 0 = x → lget h 0 = some (.frz F) →
   Cln 1 (FoK F fun o F'=>o = .ret (.va (.int .i64 (idxG celOk l 0))) ∧ F' = F) (.ret (.va (.int .i64 x))) h nx:=by
  intro x h nx hv h0
  exact endPu h0 (Fz.r F) (oi hv) rfl
 obtain ⟨han,hab,hae,hac,haL,har,rfl,ha1,ha2,ha3,ha4⟩:=ha
 refine fo_of hΘ Tryz.func220 rfl (by decide) _ _ rfl rfl rfl ?_;conv=>whnf
 refine zan hΘ (X:={ k:Nat // k ≤ l.length ∧ idxG celOk l 0 = idxG celOk (l.drop k) k }) (fun k=>[(8,.va (.int .i64 k.1))]) [4,5,9,10,11,12,13,14,15,16,17,18] (fz fun _=>F) 1 (fun k=>l.length - k.1) ⟨0,by simp⟩
  (fun hH hT=>le0 hH hT rfl (Fz.r F) rfl ⟨rfl,tv⟩) ?_
 rintro ⟨k,hk,hp⟩ hH hT
 replace hk:k ≤ l.length:=hk
 replace hp:idxG celOk l 0 = idxG celOk (l.drop k) k:=hp
 by_cases g:k < l.length
 ·have hlt:(k:Int) < (l.length:Nat):=by omega
  have hidx:0 ≤ (k:Int) ∧ (k:Int) < (l.length:Nat):=by omega
  have hex:∃ x,l[k] = x:=⟨_,rfl⟩
  obtain ⟨x,hx0⟩:=hex
  have hat:haL[hae + (k:Int).toNat]? = some (encK x):=by rw [← hx0]; exact Sl.at ha4 g
  have hc:=hx _ (jj g)
  try rw [hx0] at hc
  have hcall:=al1K F x bc (trivial) hB
  rw [zje _ l k g,hx0] at hp
  have hk1:k + 1 ≤ l.length:=g
  have hdec:l.length - (k + 1) < l.length - k:=by omega
  have hk62:k < 4611686018427387904:=by omega
  have hqx:∃ b,celOk x = b:=⟨_,rfl⟩
  obtain ⟨b,hqx⟩:=hqx
  rw [hqx] at hp hcall
  clear hx hc hx0;conv=>whnf
  refine bri hlt ?_;conv=>whnf
  refine ⟨Sl.lt ha1 g,hidx,?_⟩;conv=>whnf
  refine ⟨_,ha2 (Sl.lt ha1 g),?_⟩;conv=>whnf
  refine ⟨_,hat,?_⟩;conv=>whnf
  refine usePu hcall rfl (zaa _) rfl ?_
  rcases b with _ | _
  ·conv=>whnf
   refine br (fun _=>?_) (fun g2=>absurd g2 (by decide));conv=>whnf
   exact fin _ _ _ (hp.trans (if_pos rfl)) rfl
  ·conv=>whnf
   refine br (fun g2=>absurd g2 (by decide)) (fun _=>?_)
   rw [if_neg (by decide)] at hp
   conv=>whnf
   exact ⟨⟨k + 1,hk1,hp⟩,hdec,lr0 hH hT rfl (Fz.r F) rfl ⟨cnt hk62,tv⟩⟩
 ·have hge:¬ (k:Int) < (l.length:Nat):=by omega
  rw [jq (by omega)] at hp
  conv=>whnf
  refine brj hge ?_;conv=>whnf
  exact fin _ _ _ hp rfl
theorem al3K (F:Fz) (sa:SA) (l:List Cel) (bc:Nat) (ha:Sl F 151 6 encK sa l) (hl:l.length < 1000000) (hx:∀ x ∈ l,True) (hB:F bc = some (.cells 226 [.fn (.func 148) []])) :
  Fo Tryz.prog F 218 [.va sa,.va (.fn (.func 219) [fp bc])] (fun o F'=>o = .ret (.va (.bool (decide (0 ≤ idxG celOk l 0)))) ∧ F' = F):=by
 have h:=al2K F sa l bc ha hl hx hB
 obtain ⟨han,hab,hae,hac,haL,har,rfl,ha1,ha2,ha3,ha4⟩:=ha
 refine fo_of hΘ Tryz.func218 rfl (by decide) _ _ rfl rfl rfl ?_;conv=>whnf
 refine usePu h rfl (zaa _) rfl ?_;conv=>whnf
 exact endPu rfl (Fz.r F) (ob rfl) rfl
theorem allK (F:Fz) (sa:SA) (l:List Cel) (ha:Sl F 151 6 encK sa l) (hl:l.length < 1000000) (hx:∀ x ∈ l,True) :
  Fo Tryz.prog F 147 [.va sa,.va (.fn (.func 148) [])] (fun o F'=>o = .ret (.va (.bool (l.all celOk))) ∧ F' = F):=by
 have h:=fun F' (hle:Fz.le F F') bc=>al3K F' sa l bc (ha.mono hle) hl hx
 have e:=zro celOk l
 obtain ⟨han,hab,hae,hac,haL,har,rfl,ha1,ha2,ha3,ha4⟩:=ha
 refine fo_of hΘ Tryz.func147 rfl (by decide) _ _ rfl rfl rfl ?_;conv=>whnf
 refine za0 1 (fun _=>.cells 226 [.fn (.func 148) []]) rfl rfl rfl (fun _ _=>rfl) (fun _ _=>SB.bB_ok rfl) ?_
 intro bc F2 l2 hB
 refine usePu (h F2 l2 (bc 0) (hB 0 rfl)) rfl (zaa _) rfl ?_;conv=>whnf
 exact endPu rfl l2 (ob e.symm) rfl
def ltC (a b:Cel):Bool:=decide (a.row < b.row) || (decide (a.row = b.row) && decide (a.col < b.col))
def ascF:List Cel → Bool
 |a :: b :: r=>ltC a b && ascF (b :: r)
 |_=>true
theorem zjr:∀ (l:List Cel) (a b:Cel),ascF (l ++ [a,b]) = (ascF (l ++ [a]) && ltC a b)
 |[],a,b=>by simp [ascF]
 |[x],a,b=>by simp [ascF,Bool.and_assoc]
 |x :: y :: r,a,b=>by
  have ih:=zjr (y :: r) a b
  show (ltC x y && ascF ((y :: r) ++ [a,b])) = ((ltC x y && ascF ((y :: r) ++ [a])) && ltC a b)
  rw [ih,Bool.and_assoc]
theorem zux {l:List Cel} {k:Nat} (h1:1 ≤ k) (g:k < l.length) {a b:Cel} (ha:l[k - 1] = a) (hb:l[k] = b):ascF (l.take (k + 1)) = (ascF (l.take k) && ltC a b):=by
 obtain ⟨m,rfl⟩:∃ m,k = m + 1:=⟨k - 1,by omega⟩
 rw [qi g,qi (show m < l.length by omega),qk,hb]
 have e:l[m] = a:=ha
 rw [e]
 exact zjr _ _ _
structure Dc where
 lines:List DLn
 cells:List Cel
 w:Int
 bits:List UInt8
def docOk (d:Dc):Bool:=((((decide (d.lines.length ≤ 64) && decide (d.cells.length ≤ 64)) && ascF d.cells) && d.lines.all dlnOk) && d.cells.all celOk) && rasOk d.w d.bits
def docE (a b:SA) (w:Int) (s:List UInt8):Ent:=.one (.cells 41 (docS a b w s))
theorem zb8 {n:Nat} {a b:SA} {w:Int} {s:List UInt8} (ha:a.below n) (hb:b.below n):(docE a b w s).below n:=by
 show ∀ x ∈ _,SA.below n x
 intro x hx
 simp only [qj,qq,or_false] at hx
 rcases hx with rfl | rfl | rfl | rfl
 ·exact ha
 ·exact hb
 ·trivial
 ·trivial
theorem zcr (F:Fz) (sa sb:SA) (d:Dc) (ha:Sl F 148 2 encN sa d.lines) (hb:Sl F 151 6 encK sb d.cells) (hl:d.lines.length ≤ 1000) (hc:d.cells.length ≤ 1000) (hs:d.bits.length ≤ 70000) :
  Fo Tryz.prog F 85 [.agg (docS sa sb d.w d.bits)] (fun o F'=>o = .ret (.va (.bool (docOk d))) ∧ F' = F):=by
 obtain ⟨L,K,w,s⟩:=d
 replace ha:Sl F 148 2 encN sa L:=ha
 replace hb:Sl F 151 6 encK sb K:=hb
 replace hl:L.length ≤ 1000:=hl
 replace hc:K.length ≤ 1000:=hc
 have aL:=allN F sa L ha (by omega) (fun _ _=>trivial)
 have aK:=allK F sb K hb (by omega) (fun _ _=>trivial)
 obtain ⟨han,hab,hae,hac,haL,har,rfl,ha1,ha2,ha3,ha4⟩:=ha
 obtain ⟨hbn,hbb,hbe,hbc,hbL,hbr,rfl,hb1,hb2,hb3,hb4⟩:=hb
 have iR:=zqr F (.slice han 0 hab hae 2 L.length hac) (.slice hbn 0 hbb hbe 6 K.length hbc) w s hs rfl rfl
 have fin:∀ (z:Bool) (a:SA) (h:Hp) (nx:Nat),docOk ⟨L,K,w,s⟩ = z → atomE (.bool z) (a.ren (resP h)) → lget h 0 = some (.frz F) → Cln 1 (FoK F fun o F'=>o = .ret (.va (.bool (docOk ⟨L,K,w,s⟩))) ∧ F' = F) (.ret (.va a)) h nx:=by
  intro z a h nx hz ha h0
  subst hz
  exact endPu h0 (Fz.r F) ha rfl
 have hinit:ascF (K.take 1) = true:=by
  cases K with
  |nil=>rfl
  |cons x r=>rfl
 refine fo_of hΘ Tryz.func85 rfl (by decide) _ _ rfl rfl rfl ?_;conv=>whnf
 refine zan hΘ (X:={ y:Nat × Bool // 1 ≤ y.1 ∧ (y.1 = 1 ∨ y.1 ≤ K.length) ∧ y.2 = ascF (K.take y.1) }) (fun y=>[(3,.va (.bool y.1.2)),(4,.va (.int .i64 y.1.1))]) [5,6,7,8,9,10,11,12,13,14,15,16,17,18,19,20,21,22,23,24,25,26,27,28,29,30,31,32,33,34,35,36,37,38,39,40,41,42,43,44,45,46]
  (fun _=>[(0,.frz F),(1,docE (.slice han 0 hab hae 2 L.length hac) (.slice hbn 0 hbb hbe 6 K.length hbc) w s)]) 2 (fun y=>K.length - y.1.1) ⟨(1,true),by omega,by omega,hinit.symm⟩
  (fun hH hT=>leI [] hH hT rfl ⟨tv,zb8 (.inr (by omega)) (.inr (by omega)),tv⟩ ⟨rfl,rfl,tv⟩ ⟨Fz.r F,rfl,tv⟩) ?_
 rintro ⟨⟨k,asc⟩,hk1,hk,hasc⟩ hH hT
 replace hk1:1 ≤ k:=hk1
 replace hk:k = 1 ∨ k ≤ K.length:=hk
 replace hasc:asc = ascF (K.take k):=hasc
 by_cases g:k < K.length
 ·have g0:k < K.length:=g
  have gp:k - 1 < K.length:=by omega
  have hlt:(k:Int) < (K.length:Nat):=by omega
  have hex:∃ a b,K[k - 1] = a ∧ K[k] = b:=⟨_,_,rfl,rfl⟩
  obtain ⟨a,b,hka,hkb⟩:=hex
  have hat0:hbL[hbe + (IntKind.i64.wrap ((k:Int) - 1)).toNat]? = some (encK a):=by
   rw [zal (by omega) (by omega),show ((k:Int) - 1).toNat = ((k - 1:Nat):Int).toNat by omega,← hka]; exact Sl.at hb4 gp
  have hat1:hbL[hbe + (k:Int).toNat]? = some (encK b):=by rw [← hkb]; exact Sl.at hb4 g
  have hi0:0 ≤ IntKind.i64.wrap ((k:Int) - 1) ∧ IntKind.i64.wrap ((k:Int) - 1) < (K.length:Nat):=by rw [zal (by omega) (by omega)]; omega
  have hi1:0 ≤ (k:Int) ∧ (k:Int) < (K.length:Nat):=by omega
  have hnx:=zux hk1 g hka hkb
  rw [← hasc] at hnx
  have hk2:1 ≤ k + 1 ∧ (k + 1 = 1 ∨ k + 1 ≤ K.length):=by omega
  have hdec:K.length - (k + 1) < K.length - k:=by omega
  have hk62:k < 4611686018427387904:=by omega
  obtain ⟨ar,ac,a2,a3,a4,a5⟩:=a
  obtain ⟨br',bc,b2,b3,b4,b5⟩:=b
  replace hnx:ascF (K.take (k + 1)) = (asc && (decide (ar < br') || (decide (ar = br') && decide (ac < bc)))):=hnx
  clear hasc hka hkb;conv=>whnf
  refine bri hlt ?_;conv=>whnf
  refine drawP hΘ mixed (lk [0,1,2,3,4,5,6,7,8,9,10] (.alt 11 (.alt 12 (.alt 13 (.last 14 .done) .nil) .nil) (.alt 12 (.alt 11 (.alt 13 (.last 14 .done) .nil) .nil) .nil))) [1] (by kernel_rfl) ?_;conv=>whnf
  refine ⟨rfl,?_⟩;conv=>whnf
  refine ⟨Sl.lt hb1 g0,hi0,?_⟩;conv=>whnf
  refine ⟨rfl,?_⟩;conv=>whnf
  refine ⟨_,hb2 (Sl.lt hb1 g0),?_⟩;conv=>whnf
  refine ⟨_,hat0,?_⟩;conv=>whnf
  refine ⟨rfl,?_⟩;conv=>whnf
  refine ⟨Sl.lt hb1 g0,hi1,?_⟩;conv=>whnf
  refine ⟨rfl,?_⟩;conv=>whnf
  refine ⟨_,hb2 (Sl.lt hb1 g0),?_⟩;conv=>whnf
  refine ⟨_,hat1,?_⟩;conv=>whnf
  refine ⟨?_,?_⟩
  all_goals
   conv=>whnf
   refine ⟨Fz.r F,rfl,?_⟩;conv=>whnf
   refine ⟨Fz.r F,rfl,?_⟩;conv=>whnf
   refine ⟨Fz.r F,rfl,?_⟩
   rcases asc with _ | _
   ·conv=>whnf
    refine ⟨fun g2=>absurd g2 (by show ¬ false = true; decide),fun _=>?_⟩;conv=>whnf
    exact ⟨⟨(k + 1,false),hk2.1,hk2.2,by rw [hnx]; rfl⟩,hdec,leR [] hH hT rfl ⟨tv,zb8 (.inr (by omega)) (.inr (by omega)),tv⟩ ⟨rfl,cnt hk62,tv⟩ ⟨Fz.r F,rfl,tv⟩⟩
   ·conv=>whnf
    refine ⟨fun _=>?_,fun g2=>absurd g2 (by show ¬ true = false; decide)⟩;conv=>whnf
    by_cases h1:ar < br'
    ·refine ⟨fun g2=>absurd h1 (oe g2),fun _=>?_⟩;conv=>whnf
     exact ⟨⟨(k + 1,true),hk2.1,hk2.2,by rw [hnx,decide_eq_true h1]; rfl⟩,hdec,leR [] hH hT rfl ⟨tv,zb8 (.inr (by omega)) (.inr (by omega)),tv⟩ ⟨rfl,cnt hk62,tv⟩ ⟨Fz.r F,rfl,tv⟩⟩
    ·refine ⟨fun _=>?_,fun g2=>absurd (od g2) h1⟩;conv=>whnf
     by_cases h2:ar = br'
     ·refine ⟨fun _=>?_,fun g2=>absurd h2 (oe g2)⟩;conv=>whnf
      exact ⟨⟨(k + 1,decide (ac < bc)),hk2.1,hk2.2,by rw [hnx,decide_eq_false h1,decide_eq_true h2]; simp⟩,hdec,leR [] hH hT rfl ⟨tv,zb8 (.inr (by omega)) (.inr (by omega)),tv⟩ ⟨rfl,cnt hk62,tv⟩ ⟨Fz.r F,rfl,tv⟩⟩
     ·refine ⟨fun g2=>absurd (od g2) h2,fun _=>?_⟩;conv=>whnf
      exact ⟨⟨(k + 1,false),hk2.1,hk2.2,by rw [hnx,decide_eq_false h1,decide_eq_false h2]; rfl⟩,hdec,leR [] hH hT rfl ⟨tv,zb8 (.inr (by omega)) (.inr (by omega)),tv⟩ ⟨rfl,cnt hk62,tv⟩ ⟨Fz.r F,rfl,tv⟩⟩
 ·have hge:¬ (k:Int) < (K.length:Nat):=by omega
  have hall:asc = ascF K:=by
   rw [hasc,qm (by omega)]
  have e:docOk ⟨L,K,w,s⟩ = (((((decide (L.length ≤ 64) && decide (K.length ≤ 64)) && asc) && L.all dlnOk) && K.all celOk) && rasOk w s):=by rw [hall]; rfl
  clear hasc hall
  have hx2:∃ bL bK,L.all dlnOk = bL ∧ K.all celOk = bK:=⟨_,_,rfl,rfl⟩
  obtain ⟨bL,bK,hbL,hbK⟩:=hx2
  rw [hbL,hbK] at e
  rw [hbL] at aL
  rw [hbK] at aK
  clear hbL hbK;conv=>whnf
  refine brj hge ?_;conv=>whnf
  by_cases l1:L.length ≤ 64
  ·have l1':(L.length:Int) ≤ 64:=by omega
   rw [decide_eq_true l1,y5] at e
   refine ⟨fun _=>?_,fun g2=>absurd l1' (oe g2)⟩;conv=>whnf
   by_cases l2:K.length ≤ 64
   ·have l2':(K.length:Int) ≤ 64:=by omega
    rw [decide_eq_true l2,y5] at e
    refine ⟨fun _=>?_,fun g2=>absurd l2' (oe g2)⟩;conv=>whnf
    rcases asc with _ | _
    ·refine ⟨fun g2=>absurd g2 (by show ¬ false = true; decide),fun _=>?_⟩;conv=>whnf
     exact fin false _ _ _ e rfl rfl
    ·refine ⟨fun _=>?_,fun g2=>absurd g2 (by show ¬ true = false; decide)⟩;conv=>whnf
     refine usePu aL rfl ⟨⟨rfl,rfl,rfl,.inr ⟨rfl,rfl,rfl,rfl⟩⟩,rfl,tv⟩ rfl ?_
     rcases bL with _ | _
     ·conv=>whnf
      refine ⟨fun g2=>absurd g2 (by decide),fun _=>?_⟩;conv=>whnf
      exact fin false _ _ _ e rfl rfl
     ·conv=>whnf
      refine ⟨fun _=>?_,fun g2=>absurd g2 (by decide)⟩;conv=>whnf
      refine usePu aK rfl ⟨⟨rfl,rfl,rfl,.inr ⟨rfl,rfl,rfl,rfl⟩⟩,rfl,tv⟩ rfl ?_
      rcases bK with _ | _
      ·conv=>whnf
       refine ⟨fun g2=>absurd g2 (by decide),fun _=>?_⟩;conv=>whnf
       exact fin false _ _ _ e rfl rfl
      ·conv=>whnf
       refine ⟨fun _=>?_,fun g2=>absurd g2 (by decide)⟩;conv=>whnf
       refine usePu iR rfl ⟨rfl,tv⟩ rfl ?_;conv=>whnf
       exact fin _ _ _ _ e rfl rfl
   ·have l2':¬ (K.length:Int) ≤ 64:=by omega
    rw [decide_eq_false l2] at e
    refine ⟨fun g2=>absurd (od g2) l2',fun _=>?_⟩;conv=>whnf
    exact fin false _ _ _ (by rw [e]; simp) rfl rfl
  ·have l1':¬ (L.length:Int) ≤ 64:=by omega
   rw [decide_eq_false l1] at e
   refine ⟨fun g2=>absurd (od g2) l1',fun _=>?_⟩;conv=>whnf
   exact fin false _ _ _ (by rw [e]; simp) rfl rfl
end Go.Proofs.YtfnkamphhpldcaaGreatDoor
