import Derived.Test.YtfnkamphhpldcaaGreatDoorK17
import Derived.Test.YtfnkamphhpldcaaGreatDoorK22
import Derived.Test.YtfnkamphhpldcaaGreatDoorK11
import Derived.Test.YtfnkamphhpldcaaGreatDoorK08
set_option maxHeartbeats 64000000
namespace Go.Proofs.YtfnkamphhpldcaaGreatDoor
open Go Sx
set_option maxRecDepth 100000
def encW (n:Nat):List SA:=[wd n]
def full (A:List Nat):List Nat:=A ++ List.replicate (64 - A.length) 0
theorem z4s {A:List Nat} (h:A.length ≤ 64):(full A).length = 64:=by simp [full]; omega
theorem z6e {A:List Nat} (x:Nat) (h:A.length < 64):(full A).set A.length x = full (A ++ [x]):=by
 unfold full;rw [qbf _ _ (qm _),Nat.sub_self,ql,qd];obtain ⟨m,a⟩:∃ m,64 - A.length = m + 1:=⟨63 - A.length,by omega⟩
 rw [a,qbv,qaq,yk,show 64 - (A.length + 1) = m by omega];rfl
theorem z0t {A:List Nat} {i:Nat} (h:i < A.length):(full A)[i]? = some (at0 A i):=by
 unfold full at0;rw [jw h,qe h]; rfl
theorem z1a {A:List Nat} (h:A.length = 64):full A = A:=by simp [full,h]
theorem zso {A:List Nat} {i:Nat} (h:i < A.length):at0 A i ∈ A:=by
 unfold at0; rw [qe h]; exact jp h
abbrev rowW (A:List Nat):Ent:=.one (.arr 287 1 ((full A).map encW) 64)
theorem zfa (μ:Mu) (L:List Nat) (c:Nat):(SB.arr 287 1 (L.map encW) c).ren μ = SB.arr 287 1 (L.map encW) c:=by
 show SB.arr 287 1 ((L.map encW).map (List.map (SA.ren μ))) c = _;rw [q9]; congr 1
theorem zds (n:Nat) (L:List Nat) (c:Nat):(SB.arr 287 1 (L.map encW) c).below n:=by
 intro x b a d;obtain ⟨s,_,rfl⟩:=qz.1 b;rcases qu.1 d with rfl;trivial
theorem word_lt (b:List UInt8) (i:Nat):word b i < 4294967296:=by
 unfold word;have h:=fun j:Nat=>(b[j]?.getD 0).toNat_lt
 have d:=h (4 * i); have h1:=h (4 * i + 1); have c:=h (4 * i + 2); have a:=h (4 * i + 3);omega
theorem zrz {a b k:Nat} (h:b < 2 ^ k):(a * 2 ^ k) ||| b = a * 2 ^ k + b:=by
 rw [qbb,← qbj h]
theorem wordI (b:List UInt8) (i:Nat) (a x1 x2 c:Nat) (l:a < 256) (h1:x1 < 256) (j:x2 < 256) (g:c < 256) :
  bOr .u32 (bOr .u32 (bOr .u32 (shlI .u32 (IntKind.u32.wrap (a:Int)) 24) (shlI .u32 (IntKind.u32.wrap (x1:Int)) 16)) (shlI .u32 (IntKind.u32.wrap (x2:Int)) 8)) (IntKind.u32.wrap (c:Int)) = ((a * 16777216 + x1 * 65536 + x2 * 256 + c:Nat):Int):=by
 have s0:=shl32 a 24 (by omega); have d:=shl32 x1 16 (by omega); have f:=shl32 x2 8 (by omega);have e:∀ x:Nat,x < 256 → IntKind.u32.wrap (x:Int) = (x:Int):=fun x m=>by rw [w32n,jz (by omega)]
 rw [e _ l,e _ h1,e _ j,e _ g];simp only [show ((24:Nat):Int) = 24 from rfl,show ((16:Nat):Int) = 16 from rfl,show ((8:Nat):Int) = 8 from rfl] at s0 d f;rw [s0,d,f,jz (by omega),jz (by omega),jz (by omega),or32 (by omega) (by omega)];have k:a * 2 ^ 24 ||| x1 * 2 ^ 16 = (a * 256 + x1) * 2 ^ 16:=by rw [zrz (by omega)]; omega
 rw [k,or32 (by omega) (by omega)];have h:(a * 256 + x1) * 2 ^ 16 ||| x2 * 2 ^ 8 = ((a * 256 + x1) * 256 + x2) * 2 ^ 8:=by rw [zrz (by omega)]; omega
 rw [h,or32 (by omega) (by omega),zrz (by omega)]
 congr 1; omega
theorem z7k {A:List Nat} (x:Nat) (h:A.length < 64):(∃ a,((full A).map encW)[((A.length:Nat):Int).toNat]? = some (encW a)) ∧
  ∀ z:Int,z = ((x:Nat):Int) → SB.arr 287 1 (((full A).map encW).set ((A.length:Nat):Int).toNat [SA.int .u32 z]) 64 = SB.arr 287 1 ((full (A ++ [x])).map encW) 64:=by
 have b:=z4s (A:=A) (by omega);refine ⟨⟨(full A)[A.length],?_⟩,?_⟩
 ·rw [qp,qy,qe (by omega)]; rfl
 ·rintro z rfl;rw [qp,show [SA.int .u32 ((x:Nat):Int)] = encW x from rfl,← qbp,z6e x h]
abbrev zbz (b:List UInt8) (k:Nat):List Nat:=(List.range k).map (word b)
theorem zn4:∀ (n:Nat) (A:List Nat),(grow n A).length = A.length + n
 |0,A=>rfl
 |n + 1,A=>by rw [grow,zn4 n,qd]; simp; omega
theorem zqm:∀ (n:Nat) (A:List Nat),grow (n + 1) A = grow n A ++ [nxt (grow n A)]
 |0,A=>rfl
 |n + 1,A=>by rw [grow,zqm n,grow]
theorem ycm (w:List Nat):nxt w < 4294967296:=qa4 _ (by omega)
theorem zr4:∀ (n:Nat) (A:List Nat),(∀ x ∈ A,x < 4294967296) → ∀ x ∈ grow n A,x < 4294967296
 |0,_,h=>h
 |n + 1,A,h=>zr4 n _ fun x hx=>by
  rcases ym.1 hx with hx | hx
  ·exact h x hx
  ·rw [qu.1 hx]; exact ycm A
theorem zy5 (l:List UInt8) (k:Nat):∀ x ∈ zbz l k,x < 4294967296:=fun x a=>by
 obtain ⟨j,_,rfl⟩:=qz.1 a;exact word_lt l j
theorem nxtI (A:List Nat) (i:Nat) (f:A.length = i) (c:∀ j,j < i → at0 A j < 4294967296) (h:16 ≤ i) :
  IntKind.u32.wrap (IntKind.u32.wrap (IntKind.u32.wrap ((at0 A (i - 16):Nat) + bXor .u32 (mix (at0 A (i - 15)) [7,18] 0:Nat) (shrI .u32 (at0 A (i - 15):Nat) 3)) + (at0 A (i - 7):Nat)) + bXor .u32 (mix (at0 A (i - 2)) [17,19] 0:Nat) (shrI .u32 (at0 A (i - 2):Nat) 10)) = ((nxt A:Nat):Int):=by
 have b:=c (i - 15) (by omega); have e:=c (i - 2) (by omega); have k:=c (i - 7) (by omega); have g:=c (i - 16) (by omega);have d:=shr32 (at0 A (i - 15)) 3 (by omega); have a:=shr32 (at0 A (i - 2)) 10 (by omega);simp only [show ((3:Nat):Int) = 3 from rfl,show ((10:Nat):Int) = 10 from rfl,show (2:Nat) ^ 3 = 8 from rfl,show (2:Nat) ^ 10 = 1024 from rfl] at d a;rw [d,a,xor32 (zu7 _ b _ _ (by decide)) (yq (qbx _ _) b),xor32 (zu7 _ e _ _ (by decide)) (yq (qbx _ _) e)];unfold nxt;rw [f,w32,w32,w32];omega
theorem ybh {L:List Nat} {n:Nat} (h:L.length = n):(List.range n).map (fun j=>at0 L j) = L:=by
 refine List.ext_getElem (by simp [h]) fun j h1 a=>?_
 simp only [yr,List.getElem_range];unfold at0;rw [qe a]; rfl
theorem zpx (L:List Nat):(L.map encW).flatten = L.map wd:=by
 induction L with
 |nil=>rfl
 |cons a r ih=>simpa [encW] using ih
theorem zo6 {α:Type}:∀ (l:List α),takeN l.length l = some l
 |[]=>rfl
 |x :: r=>by simp [takeN,zo6 r]
theorem zs7 {α:Type}:∀ (l v:List α),l.length = v.length → setN l v = some v
 |[],[],_=>rfl
 |[],_ :: _,h=>by simp at h
 |_ :: _,[],h=>by simp at h
 |x :: r,y :: v,h=>by simp [setN,zs7 r v (by simpa using h)]
abbrev at64 (L:List Nat):List SA:=(List.range 64).map fun j=>wd (at0 L j)
theorem zit {L:List Nat} (h:L.length = 64):at64 L = L.map wd:=by
 have:=congrArg (List.map wd) (ybh h);rw [q9] at this;exact this
theorem zwj {L:List Nat} (h:L.length = 64):zd3 (L.map encW).flatten 0 64 = some (at64 L):=by
 rw [zit h,zpx];have:=zo6 (L.map wd);rw [qa,h] at this;unfold zd3;cases b:L.map wd with
 |nil=>rw [b] at this; exact this
 |cons a r=>rw [b] at this; exact this
theorem set64 {L:List Nat} (h:L.length = 64):setAt (L.map encW).flatten 0 (at64 L) = some (L.map encW).flatten:=by
 rw [zit h,zpx];have:=zs7 (L.map wd) (L.map wd) rfl;unfold setAt;cases b:L.map wd with
 |nil=>rw [b] at this; exact this
 |cons a r=>rw [b] at this; exact this
theorem zrp (F:Fz) (sa:SA) (l:List UInt8) (ha:Sl F 5 1 encB sa l) (hl:l.length = 64) :
  Fo Tryz.prog F 230 [.va sa] (fun o F'=>o = .ret (.agg ((sched l).map wd)) ∧ F' = F):=by
 obtain ⟨af,ab,ae,ah,ad,ai,rfl,b,q,ac,u⟩:=ha;refine fo_of hΘ Tryz.func230 rfl (by decide) _ _ rfl rfl rfl ?_;refine zx8 1 (.arr 287 1 ((full []).map encW) 64) rfl (znu rfl rfl) (zhc rfl) ?_
 refine zam hΘ (X:={ k:Nat // k ≤ 16 }) (fun k=>[(7,.va (.int .i64 k.1))]) [3,8,9,10,11,12,13,14,15,16,17,18,19,20,21,22,23,24,25,26,27,28,29,30,31,32,33,34,35,36,37,38,39,40,41,42,43,44,45] (fun k=>[(0,.frz F),(1,rowW (zbz l k.1))]) 2 (fun k=>16 - k.1) ⟨0,by simp⟩
  (fun f s=>leI [] f s rfl ⟨tv,zds 2 (full (zbz l 0)) 64,tv⟩ ⟨rfl,tv⟩ ⟨Fz.r F,(zfa _ (full (zbz l 0)) 64).symm,tv⟩) ?_
 rintro ⟨k,hk⟩ f s;by_cases g:k < 16
 ·have J:IntKind.i64.wrap (4 * (k:Int)) = ((4 * k + 0:Nat):Int):=by rw [zaj (by omega) (by omega)]; omega
  have e1:IntKind.i64.wrap (IntKind.i64.wrap (4 * (k:Int)) + 1) = ((4 * k + 1:Nat):Int):=by rw [J,zaj (by omega) (by omega)]; omega
  have D:IntKind.i64.wrap (IntKind.i64.wrap (4 * (k:Int)) + 2) = ((4 * k + 2:Nat):Int):=by rw [J,zaj (by omega) (by omega)]; omega
  have V:IntKind.i64.wrap (IntKind.i64.wrap (4 * (k:Int)) + 3) = ((4 * k + 3:Nat):Int):=by rw [J,zaj (by omega) (by omega)]; omega
  have O:4 * k + 0 < l.length:=by omega
  have Q:4 * k + 1 < l.length:=by omega
  have M:4 * k + 2 < l.length:=by omega
  have R:4 * k + 3 < l.length:=by omega
  have hw:=wordI l k l[4 * k + 0].toNat l[4 * k + 1].toNat l[4 * k + 2].toNat l[4 * k + 3].toNat (qcq _) (qcq _) (qcq _) (qcq _)
  have aa:(l[4 * k + 0].toNat * 16777216 + l[4 * k + 1].toNat * 65536 + l[4 * k + 2].toNat * 256 + l[4 * k + 3].toNat:Nat) = word l k:=by
   unfold word;rw [qe Q,qe M,qe R,show l[4 * k]? = some l[4 * k + 0] from qe O];rfl
  rw [aa] at hw;have a:=z7k (A:=zbz l k) (word l k) (by simp; omega);have B:zbz l k ++ [word l k] = zbz l (k + 1):=by rw [zbz,zbz,qdc,jj]; rfl
  rw [show (zbz l k).length = k by simp,B] at a;obtain ⟨⟨L,e⟩,a⟩:=a;refine br (fun _=>?_) (fun h=>absurd h (by simp; omega));refine drawP hΘ mixed (lk [0,1,2,3,4,5,6,7,8,9,10,11,12,13,14,15,16,17,18,19,20,21,22,23,24,25,26,27,28,29,30,31,32,33,34] (.last 35 .done)) [] (by kernel_rfl) ?_;refine ⟨Sl.lt b O,⟨by rw [J]; omega,by rw [J]; omega⟩,rfl,_,q (Sl.lt b O),encB l[4 * k + 0],(by rw [J]; exact Sl.at u O),by decide,Sl.lt b Q,⟨by rw [e1]; omega,by rw [e1]; omega⟩,rfl,_,q (Sl.lt b Q),encB l[4 * k + 1],(by rw [e1]; exact Sl.at u Q),by decide,Sl.lt b M,⟨by rw [D]; omega,by rw [D]; omega⟩,rfl,_,q (Sl.lt b M),encB l[4 * k + 2],(by rw [D]; exact Sl.at u M),by decide,Sl.lt b R,⟨by rw [V]; omega,by rw [V]; omega⟩,rfl,_,q (Sl.lt b R),encB l[4 * k + 3],(by rw [V]; exact Sl.at u R),?_⟩;conv=>whnf
  skip
  skip
  refine ⟨⟨by simp,by show (k:Int) < 64; omega⟩,encW L,e,?_⟩;exact ⟨⟨k + 1,by omega⟩,by show 16 - (k + 1) < 16 - k; omega,leR [] f s rfl ⟨tv,zds 2 (full (zbz l (k + 1))) 64,tv⟩ ⟨cnt (by omega),tv⟩ ⟨Fz.r F,(a _ hw).trans (zfa _ (full (zbz l (k + 1))) 64).symm,tv⟩⟩
 ·have W:k = 16:=by omega
  subst W;refine brd (by simp) ?_
  refine zam hΘ (X:={ i:Nat // 16 ≤ i ∧ i ≤ 64 }) (fun i=>[(4,.va (.int .i64 i.1))]) [5,6,46,47,48,49,50,51,52,53,54,55,56,57,58,59,60,61,62,63,64,65,66,67,68,69,70,71,72,73,74,75,76,77,78,79,80,81,82] (fun i=>[(0,.frz F),(1,rowW (grow (i.1 - 16) (zbz l 16)))]) 2 (fun i=>64 - i.1) ⟨16,by simp⟩
   (fun f s=>leI [] f s rfl ⟨tv,zds 2 (full (zbz l 16)) 64,tv⟩ ⟨rfl,tv⟩ ⟨Fz.r F,(zfa _ (full (zbz l 16)) 64).symm,tv⟩) ?_
  rintro ⟨i,Y,ag⟩ f s;have d:(grow (i - 16) (zbz l 16)).length = i:=by rw [zn4]; simp; omega
  have hA:=zr4 (i - 16) (zbz l 16) (zy5 l 16);by_cases g:i < 64
  ·have w:IntKind.i64.wrap ((i:Int) - 15) = ((i - 15:Nat):Int):=by rw [zaj (by omega) (by omega)]; omega
   have D:IntKind.i64.wrap ((i:Int) - 2) = ((i - 2:Nat):Int):=by rw [zaj (by omega) (by omega)]; omega
   have E:IntKind.i64.wrap ((i:Int) - 16) = ((i - 16:Nat):Int):=by rw [zaj (by omega) (by omega)]; omega
   have Z:IntKind.i64.wrap ((i:Int) - 7) = ((i - 7:Nat):Int):=by rw [zaj (by omega) (by omega)]; omega
   have c:∀ j:Nat,j < i → ((full (grow (i - 16) (zbz l 16))).map encW)[(j:Int).toNat]? = some (encW (at0 (grow (i - 16) (zbz l 16)) j)):=fun j hj=>by
    rw [qp,qy,z0t (by rw [d]; exact hj)]; rfl
   have G:∀ j:Nat,j < i → at0 (grow (i - 16) (zbz l 16)) j < 4294967296:=fun j hj=>hA _ (zso (by rw [d]; exact hj))
   have p:i - 15 < i:=by omega
   have S:i - 2 < i:=by omega
   have T:i - 16 < i:=by omega
   have q7:i - 7 < i:=by omega
   have a:=z7k (A:=grow (i - 16) (zbz l 16)) (nxt (grow (i - 16) (zbz l 16))) (by omega);rw [← zqm,d,show i - 16 + 1 = i + 1 - 16 by omega] at a;obtain ⟨⟨L,e⟩,a⟩:=a;have I:=nxtI (grow (i - 16) (zbz l 16)) i d G Y;refine br (fun _=>?_) (fun h=>absurd h (by simp; omega));refine drawP hΘ mixed (lk [0,1,2,3,4,5,6,7,8,9] .done) [1] (by kernel_rfl) ?_;refine ⟨⟨by rw [w]; omega,by rw [w]; show ((i - 15:Nat):Int) < 64; omega⟩,rfl,encW (at0 (grow (i - 16) (zbz l 16)) (i - 15)),(by rw [w]; exact c (i - 15) p),⟨by rw [D]; omega,by rw [D]; show ((i - 2:Nat):Int) < 64; omega⟩,rfl,encW (at0 (grow (i - 16) (zbz l 16)) (i - 2)),(by rw [D]; exact c (i - 2) S),?_⟩;refine drawP hΘ mixed (lk [0,1,2,3,4,5,8,9,12,13,14,15,17,20,21] (.alt 6 (.alt 7 (lk [10,11,16] (.alt 18 (.alt 19 (lk [22,23,24] (.last 25 .done)) .nil) .nil)) (.alt 18 (.alt 7 (lk [10,11,16] (.alt 19 (lk [22,23,24] (.last 25 .done)) .nil)) .nil) .nil)) (.alt 18 (.alt 6 (.alt 7 (lk [10,11,16] (.alt 19 (lk [22,23,24] (.last 25 .done)) .nil)) .nil) .nil) .nil))) [1] (by kernel_rfl) ?_;refine ⟨⟨by rw [E]; omega,by rw [E]; show ((i - 16:Nat):Int) < 64; omega⟩,rfl,encW (at0 (grow (i - 16) (zbz l 16)) (i - 16)),(by rw [E]; exact c (i - 16) T),by decide,⟨by rw [Z]; omega,by rw [Z]; show ((i - 7:Nat):Int) < 64; omega⟩,rfl,encW (at0 (grow (i - 16) (zbz l 16)) (i - 7)),(by rw [Z]; exact c (i - 7) q7),by decide,?_⟩;conv=>whnf
   have U:∀ n ∈ [7,18],1 ≤ n ∧ n < 32:=by decide
   have m2:∀ n ∈ [17,19],1 ≤ n ∧ n < 32:=by decide
   refine ⟨?_,?_⟩
   ·refine ⟨Fz.r F,rfl,?_,?_⟩
    ·refine mixU [7,18] (G _ p) U (by decide) 2 rfl rfl rfl ?_;refine ⟨Fz.r F,rfl,Fz.r F,rfl,?_⟩;refine mixU [17,19] (G _ S) m2 (by decide) 3 rfl rfl rfl ?_;refine ⟨Fz.r F,rfl,⟨by simp,by show (i:Int) < 64; omega⟩,encW L,e,?_⟩;exact ⟨⟨i + 1,by omega,by omega⟩,by show 64 - (i + 1) < 64 - i; omega,leR [] f s rfl ⟨tv,zds 2 (full (grow (i + 1 - 16) (zbz l 16))) 64,tv⟩ ⟨cnt (by omega),tv⟩ ⟨Fz.r F,(a _ I).trans (zfa _ (full (grow (i + 1 - 16) (zbz l 16))) 64).symm,tv⟩⟩
    ·refine ⟨Fz.r F,rfl,?_⟩;refine mixU [7,18] (G _ p) U (by decide) 2 rfl rfl rfl ?_;refine ⟨Fz.r F,rfl,?_⟩;refine mixU [17,19] (G _ S) m2 (by decide) 3 rfl rfl rfl ?_;refine ⟨Fz.r F,rfl,⟨by simp,by show (i:Int) < 64; omega⟩,encW L,e,?_⟩;exact ⟨⟨i + 1,by omega,by omega⟩,by show 64 - (i + 1) < 64 - i; omega,leR [] f s rfl ⟨tv,zds 2 (full (grow (i + 1 - 16) (zbz l 16))) 64,tv⟩ ⟨cnt (by omega),tv⟩ ⟨Fz.r F,(a _ I).trans (zfa _ (full (grow (i + 1 - 16) (zbz l 16))) 64).symm,tv⟩⟩
   ·refine ⟨Fz.r F,rfl,Fz.r F,rfl,?_⟩;refine mixU [7,18] (G _ p) U (by decide) 3 rfl rfl rfl ?_;refine ⟨Fz.r F,rfl,?_⟩;refine mixU [17,19] (G _ S) m2 (by decide) 2 rfl rfl rfl ?_;refine ⟨Fz.r F,rfl,⟨by simp,by show (i:Int) < 64; omega⟩,encW L,e,?_⟩;exact ⟨⟨i + 1,by omega,by omega⟩,by show 64 - (i + 1) < 64 - i; omega,leR [] f s rfl ⟨tv,zds 2 (full (grow (i + 1 - 16) (zbz l 16))) 64,tv⟩ ⟨cnt (by omega),tv⟩ ⟨Fz.r F,(a _ I).trans (zfa _ (full (grow (i + 1 - 16) (zbz l 16))) 64).symm,tv⟩⟩
  ·have hi:i = 64:=by omega
   subst hi;have hf:full (grow 48 (zbz l 16)) = sched l:=z1a d;have m:(full (grow 48 (zbz l 16))).length = 64:=by rw [hf]; exact d
   have K:∀ μ:Mu,(at64 (full (grow 48 (zbz l 16)))).map (SA.ren μ) = (sched l).map wd:=fun μ=>by
    rw [zit m,hf,q9]; rfl
   refine brd (by simp) ?_;refine ⟨at64 (full (grow 48 (zbz l 16))),zwj m,(full (grow 48 (zbz l 16))).map encW,?_,rfl,set64 m,?_⟩
   ·intro x hx;obtain ⟨y,_,rfl⟩:=qz.1 hx;rfl
   refine ⟨at64 (full (grow 48 (zbz l 16))),zwj m,?_⟩;exact endPu rfl (Fz.r F) (congrArg SV.agg (K _).symm) (by simp [SV.z,SA.z])
def RNDF (F:Fz):Prop:=F 0 = some (.arr 287 1 (konst.map encW) 64)
theorem RNDF.mono {F b:Fz} (h:RNDF F) (a:Fz.le F b):RNDF b:=a _ _ h
theorem zes:konst.length = 64:=rfl
theorem z1r:∀ x ∈ konst,x < 4294967296:=by decide +kernel
theorem zpf (l:List UInt8):(sched l).length = 64:=by rw [sched,zn4]; simp
theorem z5k (l:List UInt8):∀ x ∈ sched l,x < 4294967296:=zr4 _ _ (zy5 l 16)
theorem zrt {F:Fz} {a:SA} {l:List UInt8} (d:Sl F 5 1 encB a l) (b:l.length = 64) :
  Fo Tryz.prog F 230 [.va a] (fun o c=>o = .ret (.agg (at64 (sched l))) ∧ c = F):=by
 have:=zrp F a l d b;rw [← zit (zpf l)] at this;exact this
theorem zoz {L:List Nat} (h:L.length = 64):L.map encW = sing (at64 L):=by
 rw [zit h,sing,q9]; rfl
theorem z5y {L:List Nat} {k:Nat} {x:SA} (h:(L.map wd)[k]? = some x) (a:L.length = 64:=by exact zes):(at64 L)[((k:Nat):Int).toNat]? = some x:=by
 rw [zit a,qp]; exact h
def w8 (v:W8):List SA:=[wd v.a,wd v.b,wd v.c,wd v.d,wd v.e,wd v.f,wd v.g,wd v.h]
structure W8.Ok (v:W8):Prop where
 a:v.a < 4294967296
 b:v.b < 4294967296
 c:v.c < 4294967296
 d:v.d < 4294967296
 e:v.e < 4294967296
 f:v.f < 4294967296
 g:v.g < 4294967296
 h:v.h < 4294967296
theorem m32 (x:Nat):x % 4294967296 < 4294967296:=qa4 x (yz yx (Nat.le_add_left 1 4294967295))
theorem z1l {k w:Nat} {v:W8} (h:v.Ok):(step8 k w v).Ok:=⟨m32 _,h.a,h.b,h.c,m32 _,h.e,h.f,h.g⟩
theorem z9j (v u:W8):(add8 v u).Ok:=⟨m32 _,m32 _,m32 _,m32 _,m32 _,m32 _,m32 _,m32 _⟩
theorem zsl (l:List (Nat × Nat)) (x:Nat × Nat) (v:W8):zgi (l ++ [x]) v = step8 x.1 x.2 (zgi l v):=by
 unfold zgi;rw [qa1,y5,qa8]
theorem wC8 {t:Nat} {a b c d e f g h:Int} {v:W8} (m:a = v.a) (l:b = v.b) (i:c = v.c) (n:d = v.d) (o:e = v.e) (p:f = v.f) (k:g = v.g) (j:h = v.h) :
  SB.cells t [.int .u32 a,.int .u32 b,.int .u32 c,.int .u32 d,.int .u32 e,.int .u32 f,.int .u32 g,.int .u32 h] = SB.cells t (w8 v):=by
 subst m l i n o p k j; rfl
theorem stepI {k w:Nat} {v:W8} (h:v.Ok) (b:k < 4294967296) (a:w < 4294967296) :
  IntKind.u32.wrap (IntKind.u32.wrap (IntKind.u32.wrap (IntKind.u32.wrap ((v.h:Nat) + (mix v.e [6,11,25] 0:Nat)) + bXor .u32 (bAnd .u32 (v.e:Nat) (v.f:Nat)) (bAnd .u32 (bXor .u32 4294967295 (v.e:Nat)) (v.g:Nat))) + (k:Nat)) + (w:Nat)) =
   (((v.h + mix v.e [6,11,25] 0 + ((v.e &&& v.f) ^^^ ((4294967295 - v.e) &&& v.g)) + k + w) % 4294967296:Nat):Int):=by
 rw [not32 h.e,and32 h.e h.f,and32 (by omega) h.g,xor32 (yq qci h.e) (yq Nat.and_le_right h.g),w32,w32,w32,w32];omega
theorem stepJ {v:W8} (h:v.Ok) :
  IntKind.u32.wrap ((mix v.a [2,13,22] 0:Nat) + bXor .u32 (bXor .u32 (bAnd .u32 (v.a:Nat) (v.b:Nat)) (bAnd .u32 (v.a:Nat) (v.c:Nat))) (bAnd .u32 (v.b:Nat) (v.c:Nat))) =
   (((mix v.a [2,13,22] 0 + ((v.a &&& v.b) ^^^ (v.a &&& v.c) ^^^ (v.b &&& v.c))) % 4294967296:Nat):Int):=by
 have e:v.a &&& v.b < 4294967296:=yq qci h.a;have d:v.a &&& v.c < 4294967296:=yq qci h.a;have f:v.b &&& v.c < 4294967296:=yq qci h.b;rw [and32 h.a h.b,and32 h.a h.c,and32 h.b h.c,xor32 e d,xor32 (qco (n:=32) e d) f,w32];omega
theorem stepA {k w:Nat} {v:W8} (h:v.Ok) (i:k < 4294967296) (d:w < 4294967296) :
  IntKind.u32.wrap (IntKind.u32.wrap (IntKind.u32.wrap (IntKind.u32.wrap (IntKind.u32.wrap ((v.h:Nat) + (mix v.e [6,11,25] 0:Nat)) + bXor .u32 (bAnd .u32 (v.e:Nat) (v.f:Nat)) (bAnd .u32 (bXor .u32 4294967295 (v.e:Nat)) (v.g:Nat))) + (k:Nat)) + (w:Nat)) +
   IntKind.u32.wrap ((mix v.a [2,13,22] 0:Nat) + bXor .u32 (bXor .u32 (bAnd .u32 (v.a:Nat) (v.b:Nat)) (bAnd .u32 (v.a:Nat) (v.c:Nat))) (bAnd .u32 (v.b:Nat) (v.c:Nat)))) = (((step8 k w v).a:Nat):Int):=by
 rw [stepI h i d,stepJ h,← qcl,w32n];rfl
theorem stepE {k w:Nat} {v:W8} (h:v.Ok) (b:k < 4294967296) (a:w < 4294967296) :
  IntKind.u32.wrap ((v.d:Nat) + IntKind.u32.wrap (IntKind.u32.wrap (IntKind.u32.wrap (IntKind.u32.wrap ((v.h:Nat) + (mix v.e [6,11,25] 0:Nat)) + bXor .u32 (bAnd .u32 (v.e:Nat) (v.f:Nat)) (bAnd .u32 (bXor .u32 4294967295 (v.e:Nat)) (v.g:Nat))) + (k:Nat)) + (w:Nat))) = (((step8 k w v).e:Nat):Int):=by
 rw [stepI h b a,← qcl,w32n];rfl
theorem add32 (x y:Nat):IntKind.u32.wrap ((x:Int) + (y:Int)) = (((x + y) % 4294967296:Nat):Int):=by rw [← qcl,w32n]
abbrev rowS (A:List Nat):Ent:=.one (.arr 287 1 (A.map encW) 64)
theorem zee (n t:Nat) (v:W8):(SB.cells t (w8 v)).below n:=by
 intro a b;simp only [w8,qj,qs,or_false] at b;rcases b with rfl | rfl | rfl | rfl | rfl | rfl | rfl | rfl<;>trivial
theorem yc4 (F:Fz) (Q:RNDF F) (K:SA) (l:List UInt8) (v:W8) (M:Sl F 5 1 encB K l) (T:l.length = 64) (U:v.Ok) :
  Ct Tryz.prog 175 [.va (.ptr ⟨1,0,0,0,0⟩),.va K] F [(1,.one (.cells 246 (w8 v)))] 2 (fun o F' h n=>o = .ret (.tup []) ∧ F' = F ∧ h = [(1,.one (.cells 246 (w8 (zib l v))))] ∧ n = 2):=by
 have L:=zrt M T;obtain ⟨W,O,i,D⟩:∃ W,sched l = W ∧ W.length = 64 ∧ ∀ x ∈ W,x < 4294967296:=⟨_,rfl,zpf l,z5k l⟩
 rw [O] at L;have G:zib l v = add8 v (zgi (konst.zip W) v):=by rw [zib,O]
 obtain ⟨ad,R,ac,ae,ab,ag,rfl,aa,Z,S,af⟩:=M;refine ct_of hΘ Tryz.func175 rfl (by decide) _ _ rfl rfl rfl ?_;refine usePu (L) rfl (zaa _) rfl ?_;conv=>whnf
 refine ⟨_,Q,at64 konst,zwj zes,?_⟩;refine zx8 2 (.arr 287 1 (W.map encW) 64) rfl (znu (zoz i) rfl) (zhc (zoz i)) ?_
 refine zam hΘ (X:={ x:Nat × W8 // x.1 ≤ 64 ∧ x.2 = zgi ((konst.zip W).take x.1) v ∧ x.2.Ok }) (fun x=>[(19,.va (.int .i64 x.1.1))]) [6,7,8,9,10,11,20,21,22,23,24,25,26,27,28,29,30,31,32,33,34,35,36,37,38,39,40,41,42,43,44,45,46,47,48,49,50,51,52,53,54,55,56,57,58,59,60,61,62,63,64,65,66,67,68,69,70,71,72,73,74,75,76,77,78,79,80,81] (fun x=>[(0,.frz F),(1,.one (.cells 246 (w8 v))),(2,rowS W),(3,.one (.cells 246 (w8 x.1.2)))]) 4 (fun x=>64 - x.1.1) ⟨(0,v),by simp,by rw [List.take_zero]; rfl,U⟩
  (fun w E=>leI [] w E rfl ⟨tv,zee 4 246 v,zds 4 W 64,zee 4 246 v,tv⟩ ⟨rfl,tv⟩ ⟨Fz.r F,rfl,(zfa _ W 64).symm,rfl,tv⟩) ?_
 rintro ⟨⟨k,a,b,c,d,e,f,g,j⟩,J,B,u⟩ w E;replace J:k ≤ 64:=J;by_cases gk:k < 64
 ·have V:(konst.map wd)[k]? = some (wd (at0 konst k)):=by
   rw [qy]; unfold at0; rw [qe (by rw [zes]; omega)]; rfl
  have A:(W.map encW)[((k:Nat):Int).toNat]? = some (encW (at0 W k)):=by
   rw [qp,qy]; unfold at0; rw [qe (by omega)]; rfl
  have p:at0 konst k < 4294967296:=z1r _ (zso (by rw [zes]; omega));have s:at0 W k < 4294967296:=D _ (zso (by omega));have hA:=stepA u p s;have hE:=stepE u p s
  have m:step8 (at0 konst k) (at0 W k) ⟨a,b,c,d,e,f,g,j⟩ = zgi ((konst.zip W).take (k + 1)) v:=by
   have I:k < (konst.zip W).length:=by rw [qak,zes,i]; omega
   rw [qg I,zsl,qc4,← B];unfold at0;rw [qe (by rw [zes]; omega),qe (by omega)];rfl
  refine br (fun _=>?_) (fun h=>absurd h (by simp; omega));refine ⟨⟨by simp,by show (k:Int) < 64; omega⟩,[wd (at0 konst k)],?_,?_⟩
  ·exact zi8 (z5y V)
  refine drawP hΘ mixed (lk [0,1,2,3,4,5] .done) [3] (by kernel_rfl) ?_;conv=>whnf
  repeat' ((conv=>whnf); first
   |refine ⟨rfl,?_⟩
   |refine ⟨Fz.r _,rfl,?_⟩
   |refine ⟨Fz.r _,rfl,rfl,?_⟩
   |refine ⟨⟨by simp,by simp⟩,?_⟩
   |fail)
  refine drawP hΘ mixed (lk [0,1,2,6,7,8,9,10,11,12,13,14,15,17,19,20,21] (.alt 3 (.alt 4 (lk [5,16,18,22,23] .done) .nil) .nil)) [2,3] (by kernel_rfl) ?_;conv=>whnf
  repeat' ((conv=>whnf); first
   |refine ⟨rfl,?_⟩
   |refine ⟨encW (at0 W k),A,?_⟩
   |refine ⟨⟨jt k,Int.ofNat_lt.2 gk⟩,?_⟩
   |refine ⟨⟨by decide,by decide⟩,?_⟩
   |fail)
  refine ⟨Fz.r F,rfl,rfl,?_⟩;refine mixU [6,11,25] u.e (by decide) (by decide) 4 rfl rfl rfl ?_;refine ⟨Fz.r F,rfl,rfl,?_⟩
  repeat' ((conv=>whnf); first
   |refine ⟨rfl,?_⟩
   |refine ⟨Fz.r _,rfl,?_⟩
   |refine ⟨Fz.r _,rfl,rfl,?_⟩
   |refine ⟨⟨by simp,by simp⟩,?_⟩
   |fail)
  refine drawP hΘ mixed (lk [0,3,4,5,6,7,8,9,10,11,12,13,14,15,16,17] (.alt 1 (.alt 2 (.look 18 (.look 19 .done)) .nil) .nil)) [3] (by kernel_rfl) ?_;conv=>whnf
  repeat' ((conv=>whnf); first
   |refine ⟨rfl,?_⟩
   |refine ⟨Fz.r _,rfl,?_⟩
   |refine ⟨Fz.r _,rfl,rfl,?_⟩
   |refine ⟨⟨by simp,by simp⟩,?_⟩
   |fail)
  refine mixU [2,13,22] u.a (by decide) (by decide) 5 rfl rfl rfl ?_;refine ⟨Fz.r F,rfl,?_⟩
  repeat' ((conv=>whnf); first
   |refine ⟨rfl,?_⟩
   |refine ⟨Fz.r _,rfl,?_⟩
   |refine ⟨Fz.r _,rfl,rfl,?_⟩
   |refine ⟨⟨by simp,by simp⟩,?_⟩
   |fail)
  refine drawP hΘ mixed (.look 0 (.look 1 (.last 2 .done))) [3] (by kernel_rfl) ?_;conv=>whnf
  repeat' ((conv=>whnf); first
   |refine ⟨⟨by decide,by decide⟩,?_⟩
   |refine ⟨rfl,?_⟩
   |fail)
  exact ⟨⟨(k + 1,step8 (at0 konst k) (at0 W k) ⟨a,b,c,d,e,f,g,j⟩),by show k + 1 ≤ 64; omega,m,z1l u⟩,by show 64 - (k + 1) < 64 - k; omega,
   leR [] w E rfl ⟨tv,zee 4 246 v,zds 4 W 64,zee 4 246 (step8 (at0 konst k) (at0 W k) ⟨a,b,c,d,e,f,g,j⟩),tv⟩ ⟨cnt (by omega),tv⟩ ⟨Fz.r F,rfl,(zfa _ W 64).symm,wC8 hA rfl rfl rfl hE rfl rfl rfl,tv⟩⟩
 ·have y:k = 64:=by omega
  subst y
  have q:(⟨a,b,c,d,e,f,g,j⟩:W8) = zgi (konst.zip W) v:=by
   rw [qn (by rw [qak,zes,i]; omega)] at B; exact B
  have Y:zib l v = add8 v ⟨a,b,c,d,e,f,g,j⟩:=by rw [G,q]
  refine brd (by simp) ?_;refine zez hΘ 8 ?_;refine bre (by decide) ?_;refine drawP hΘ mixed (lk [0,1,2,3,5,6,7,9] (.alt 4 (.look 8 (.look 10 (.alt 11 .done .nil))) .nil)) [3] (by kernel_rfl) ?_;conv=>whnf
  repeat' ((conv=>whnf); first
   |refine ⟨Fz.r F,rfl,?_⟩
   |refine ⟨rfl,?_⟩
   |refine ⟨⟨by decide,by decide⟩,?_⟩
   |fail)
  refine sr_go hΘ ?_;refine bre (by decide) ?_;refine drawP hΘ mixed (lk [0,1,2,3,5,6,7,9] (.alt 4 (.look 8 (.look 10 (.alt 11 .done .nil))) .nil)) [3] (by kernel_rfl) ?_;conv=>whnf
  repeat' ((conv=>whnf); first
   |refine ⟨Fz.r F,rfl,?_⟩
   |refine ⟨rfl,?_⟩
   |refine ⟨⟨by decide,by decide⟩,?_⟩
   |fail)
  refine sr_go hΘ ?_;refine bre (by decide) ?_;refine drawP hΘ mixed (lk [0,1,2,3,5,6,7,9] (.alt 4 (.look 8 (.look 10 (.alt 11 .done .nil))) .nil)) [3] (by kernel_rfl) ?_;conv=>whnf
  repeat' ((conv=>whnf); first
   |refine ⟨Fz.r F,rfl,?_⟩
   |refine ⟨rfl,?_⟩
   |refine ⟨⟨by decide,by decide⟩,?_⟩
   |fail)
  refine sr_go hΘ ?_;refine bre (by decide) ?_;refine drawP hΘ mixed (lk [0,1,2,3,5,6,7,9] (.alt 4 (.look 8 (.look 10 (.alt 11 .done .nil))) .nil)) [3] (by kernel_rfl) ?_;conv=>whnf
  repeat' ((conv=>whnf); first
   |refine ⟨Fz.r F,rfl,?_⟩
   |refine ⟨rfl,?_⟩
   |refine ⟨⟨by decide,by decide⟩,?_⟩
   |fail)
  refine sr_go hΘ ?_;refine bre (by decide) ?_;refine drawP hΘ mixed (lk [0,1,2,3,5,6,7,9] (.alt 4 (.look 8 (.look 10 (.alt 11 .done .nil))) .nil)) [3] (by kernel_rfl) ?_;conv=>whnf
  repeat' ((conv=>whnf); first
   |refine ⟨Fz.r F,rfl,?_⟩
   |refine ⟨rfl,?_⟩
   |refine ⟨⟨by decide,by decide⟩,?_⟩
   |fail)
  refine sr_go hΘ ?_;refine bre (by decide) ?_;refine drawP hΘ mixed (lk [0,1,2,3,5,6,7,9] (.alt 4 (.look 8 (.look 10 (.alt 11 .done .nil))) .nil)) [3] (by kernel_rfl) ?_;conv=>whnf
  repeat' ((conv=>whnf); first
   |refine ⟨Fz.r F,rfl,?_⟩
   |refine ⟨rfl,?_⟩
   |refine ⟨⟨by decide,by decide⟩,?_⟩
   |fail)
  refine sr_go hΘ ?_;refine bre (by decide) ?_;refine drawP hΘ mixed (lk [0,1,2,3,5,6,7,9] (.alt 4 (.look 8 (.look 10 (.alt 11 .done .nil))) .nil)) [3] (by kernel_rfl) ?_;conv=>whnf
  repeat' ((conv=>whnf); first
   |refine ⟨Fz.r F,rfl,?_⟩
   |refine ⟨rfl,?_⟩
   |refine ⟨⟨by decide,by decide⟩,?_⟩
   |fail)
  refine sr_go hΘ ?_;refine bre (by decide) ?_;refine drawP hΘ mixed (lk [0,1,2,3,5,6,7,9] (.alt 4 (.look 8 (.look 10 (.alt 11 .done .nil))) .nil)) [3] (by kernel_rfl) ?_;conv=>whnf
  repeat' ((conv=>whnf); first
   |refine ⟨Fz.r F,rfl,?_⟩
   |refine ⟨rfl,?_⟩
   |refine ⟨⟨by decide,by decide⟩,?_⟩
   |fail)
  refine sr_go hΘ ?_;refine brd (by decide) ?_
  exact clean [] (.ret (.tup [])) F [(1,.one (.cells 246 (w8 (add8 v ⟨a,b,c,d,e,f,g,j⟩))))] 2 ⟨Fz.r F,rfl,rfl,by rw [Y],rfl⟩ trivial rfl rfl (Out.bB_ok (o:=.ret (.tup [])) rfl) ⟨zee 2 246 (add8 v ⟨a,b,c,d,e,f,g,j⟩),tv⟩
   ⟨Fz.r F,wC8 (add32 v.a a) (add32 v.b b) (add32 v.c c) (add32 v.d d) (add32 v.e e) (add32 v.f f) (add32 v.g g) (add32 v.h j),tv⟩
def fullB (A:List UInt8):List UInt8:=A ++ List.replicate (32 - A.length) 0
theorem zxr {A:List UInt8} (x:UInt8) (h:A.length < 32):(fullB A).set A.length x = fullB (A ++ [x]):=by
 unfold fullB;rw [qbf _ _ (qm _),Nat.sub_self,ql,qd];obtain ⟨m,a⟩:∃ m,32 - A.length = m + 1:=⟨31 - A.length,by omega⟩
 rw [a,qbv,qaq,yk,show 32 - (A.length + 1) = m by omega];rfl
theorem zpr {A:List UInt8} (h:A.length ≤ 32):(fullB A).length = 32:=by simp [fullB]; omega
theorem set1B {A:List UInt8} {j:Nat} {z:Int} (x:UInt8) (a:j = A.length) (h:A.length < 32) (b:z = (x.toNat:Int)):((fullB A).map encB).set j [SA.int .u8 z] = (fullB (A ++ [x])).map encB:=by
 subst a b;rw [show [SA.int .u8 (x.toNat:Int)] = encB x from rfl,← qbp,zxr x h]
theorem set4B {A:List UInt8} {e a g d:Nat} {i f c b:Int} (x:Nat) (h:A.length + 4 ≤ 32) (k:e = A.length) (h1:a = A.length + 1) (m:g = A.length + 2) (o:d = A.length + 3)
  (n:i = ((UInt8.ofNat (x / 16777216)).toNat:Int)) (p:f = ((UInt8.ofNat (x / 65536)).toNat:Int)) (l:c = ((UInt8.ofNat (x / 256)).toNat:Int)) (j:b = ((UInt8.ofNat x).toNat:Int)) :
  (((((fullB A).map encB).set e [SA.int .u8 i]).set a [SA.int .u8 f]).set g [SA.int .u8 c]).set d [SA.int .u8 b] = (fullB (A ++ be4 x)).map encB:=by
 rw [set1B _ k (by omega) n,set1B _ (by rw [h1]; simp) (by simp; omega) p,set1B _ (by rw [m]; simp) (by simp; omega) l,set1B _ (by rw [o]; simp) (by simp; omega) j]
 congr 2
 simp [be4]
theorem byteI (x n:Nat) (h:n ≤ 32):IntKind.u8.wrap (shrI .u32 (x:Int) (n:Int)) = ((UInt8.ofNat (x / 2 ^ n)).toNat:Int):=by
 rw [shr32 x n h];show ((x / 2 ^ n:Nat):Int) % 256 = _;rw [qav];omega
abbrev rowB (A:List UInt8):Ent:=.one (.arr 290 1 ((fullB A).map encB) 32)
theorem ztt (μ:Mu) (L:List UInt8) (c:Nat):(SB.arr 290 1 (L.map encB) c).ren μ = SB.arr 290 1 (L.map encB) c:=by
 show SB.arr 290 1 ((L.map encB).map (List.map (SA.ren μ))) c = _;rw [q9]; congr 1
theorem zmn (n:Nat) (L:List UInt8) (c:Nat):(SB.arr 290 1 (L.map encB) c).below n:=by
 intro x b a d;obtain ⟨s,_,rfl⟩:=qz.1 b;rcases qu.1 d with rfl;trivial
theorem zmb {l:List (List SA)} {i j:Nat} {y x:List SA} (h:i ≠ j) (a:l[j]? = some x):(l.set i y)[j]? = some x:=by
 rw [qbl h]; exact a
def fb (A:List UInt8) (j:Nat):UInt8:=(fullB A)[j]?.getD 0
theorem getB {A:List UInt8} {j n:Nat} (a:j = n) (h:n < 32) (b:A.length ≤ 32):((fullB A).map encB)[j]? = some (encB (fb A n)):=by
 have c:=zpr b;subst a;unfold fb;rw [qy,qe (by omega)]; rfl
def wl (v:W8):List Nat:=[v.a,v.b,v.c,v.d,v.e,v.f,v.g,v.h]
def preB (v:W8) (i:Nat):List UInt8:=((wl v).take i).flatMap be4
theorem zs9 (v:W8) {i:Nat} (h:i ≤ 8):(preB v i).length = 4 * i:=by
 have a:i = 0 ∨ i = 1 ∨ i = 2 ∨ i = 3 ∨ i = 4 ∨ i = 5 ∨ i = 6 ∨ i = 7 ∨ i = 8:=by omega
 rcases a with rfl | rfl | rfl | rfl | rfl | rfl | rfl | rfl | rfl<;>rfl
theorem zzb (v:W8) {i:Nat} (h:i < 8):preB v (i + 1) = preB v i ++ be4 (at0 (wl v) i):=by
 unfold preB at0;rw [qg (show i < (wl v).length from h),List.flatMap_append,qe (show i < (wl v).length from h)];simp
theorem z0w (v:W8):preB v 8 = zgh v:=by
 simp [preB,wl,zgh,List.take,List.flatMap_cons]
theorem setI (v:W8) {i e a f d:Nat} {t0 t1 t2 t3:Int} (l:i < 8) (o:e = 4 * i + 0) (h1:a = 4 * i + 1) (q:f = 4 * i + 2) (s:d = 4 * i + 3) (m:t0 = ((24:Nat):Int)) (n:t1 = ((16:Nat):Int)) (k:t2 = ((8:Nat):Int)) (j:t3 = ((0:Nat):Int)) :
  (((((fullB (preB v i)).map encB).set e [SA.int .u8 (IntKind.u8.wrap (shrI .u32 ((at0 (wl v) i:Nat):Int) t0))]).set a [SA.int .u8 (IntKind.u8.wrap (shrI .u32 ((at0 (wl v) i:Nat):Int) t1))]).set f [SA.int .u8 (IntKind.u8.wrap (shrI .u32 ((at0 (wl v) i:Nat):Int) t2))]).set d [SA.int .u8 (IntKind.u8.wrap (shrI .u32 ((at0 (wl v) i:Nat):Int) t3))] = (fullB (preB v (i + 1))).map encB:=by
 have p:=zs9 v (show i ≤ 8 by omega);subst m n k j;have g:=byteI (at0 (wl v) i) 24 (by omega);have b:=byteI (at0 (wl v) i) 16 (by omega);have h:=byteI (at0 (wl v) i) 8 (by omega);have c:=byteI (at0 (wl v) i) 0 (by omega);rw [show 2 ^ 24 = 16777216 from rfl] at g;rw [show 2 ^ 16 = 65536 from rfl] at b;rw [show 2 ^ 8 = 256 from rfl] at h;rw [Nat.pow_zero,Nat.div_one] at c;rw [set4B (A:=preB v i) (at0 (wl v) i) (by omega) (by omega) (by omega) (by omega) (by omega) g b h c,zzb v l]
theorem s24:IntKind.i64.wrap (24 - IntKind.i64.wrap (8 * 0)) = ((24:Nat):Int):=by decide
theorem s16:IntKind.i64.wrap (24 - IntKind.i64.wrap (8 * 1)) = ((16:Nat):Int):=by decide
theorem s8:IntKind.i64.wrap (24 - IntKind.i64.wrap (8 * 2)) = ((8:Nat):Int):=by decide
theorem s0:IntKind.i64.wrap (24 - IntKind.i64.wrap (8 * 3)) = ((0:Nat):Int):=by decide
theorem zwq (F:Fz) (v:W8) (S:v.Ok):Fo Tryz.prog F 176 [.agg (w8 v)] (fun o O=>o = .ret (.va (.str (zgh v))) ∧ O = F):=by
 refine fo_of hΘ Tryz.func176 rfl (by decide) _ _ rfl rfl rfl ?_;refine zx8 2 (.arr 290 1 ((fullB []).map encB) 32) rfl (znu rfl rfl) (zhc rfl) ?_
 refine zam hΘ (X:={ i:Nat // i ≤ 8 }) (fun i=>[(8,.va (.int .i64 i.1))]) [4,5,6,9,10,11,12,13,14,15,16,17,18,19,20,21,22,23,24,25,26,27] (fun i=>[(0,.frz F),(2,rowB (preB v i.1))]) 3 (fun i=>8 - i.1) ⟨0,by simp⟩
  (fun l B=>leI [] l B rfl ⟨tv,zmn 3 (fullB []) 32,tv⟩ ⟨rfl,tv⟩ ⟨Fz.r F,(ztt _ (fullB []) 32).symm,tv⟩) ?_
 rintro ⟨i,Q⟩ l B;by_cases g:i < 8
 ·have K:zd3 (w8 v) (((i:Nat):Int).toNat * 1) 1 = some [wd (at0 (wl v) i)]:=zi8 (by
   rw [qp,show w8 v = (wl v).map wd from rfl,qy]; unfold at0;rw [qe (show i < (wl v).length from g)]; rfl)
  have E:IntKind.i64.wrap (IntKind.i64.wrap (4 * (i:Int)) + 0) = ((4 * i + 0:Nat):Int):=by rw [zaj (n:=4 * (i:Int)) (by omega) (by omega),zaj (by omega) (by omega)]; omega
  have J:IntKind.i64.wrap (IntKind.i64.wrap (4 * (i:Int)) + 1) = ((4 * i + 1:Nat):Int):=by rw [zaj (n:=4 * (i:Int)) (by omega) (by omega),zaj (by omega) (by omega)]; omega
  have w:IntKind.i64.wrap (IntKind.i64.wrap (4 * (i:Int)) + 2) = ((4 * i + 2:Nat):Int):=by rw [zaj (n:=4 * (i:Int)) (by omega) (by omega),zaj (by omega) (by omega)]; omega
  have q:IntKind.i64.wrap (IntKind.i64.wrap (4 * (i:Int)) + 3) = ((4 * i + 3:Nat):Int):=by rw [zaj (n:=4 * (i:Int)) (by omega) (by omega),zaj (by omega) (by omega)]; omega
  have f:(IntKind.i64.wrap (IntKind.i64.wrap (4 * (i:Int)) + 0)).toNat = 4 * i + 0:=by rw [E]; exact qp _
  have k:(IntKind.i64.wrap (IntKind.i64.wrap (4 * (i:Int)) + 1)).toNat = 4 * i + 1:=by rw [J]; exact qp _
  have j:(IntKind.i64.wrap (IntKind.i64.wrap (4 * (i:Int)) + 2)).toNat = 4 * i + 2:=by rw [w]; exact qp _
  have d:(IntKind.i64.wrap (IntKind.i64.wrap (4 * (i:Int)) + 3)).toNat = 4 * i + 3:=by rw [q]; exact qp _
  have R:=zs9 v Q;have M:=zpr (A:=preB v i) (by omega);have x:=getB (A:=preB v i) f (by omega) (by omega);have D:=getB (A:=preB v i) k (by omega) (by omega);have u:=getB (A:=preB v i) j (by omega) (by omega);have s:=getB (A:=preB v i) d (by omega) (by omega);have I:(IntKind.i64.wrap (IntKind.i64.wrap (4 * (i:Int)) + 0)).toNat ≠ (IntKind.i64.wrap (IntKind.i64.wrap (4 * (i:Int)) + 1)).toNat:=by rw [f,k]; omega
  have p:(IntKind.i64.wrap (IntKind.i64.wrap (4 * (i:Int)) + 0)).toNat ≠ (IntKind.i64.wrap (IntKind.i64.wrap (4 * (i:Int)) + 2)).toNat:=by rw [f,j]; omega
  have G:(IntKind.i64.wrap (IntKind.i64.wrap (4 * (i:Int)) + 0)).toNat ≠ (IntKind.i64.wrap (IntKind.i64.wrap (4 * (i:Int)) + 3)).toNat:=by rw [f,d]; omega
  have n12:(IntKind.i64.wrap (IntKind.i64.wrap (4 * (i:Int)) + 1)).toNat ≠ (IntKind.i64.wrap (IntKind.i64.wrap (4 * (i:Int)) + 2)).toNat:=by rw [k,j]; omega
  have n13:(IntKind.i64.wrap (IntKind.i64.wrap (4 * (i:Int)) + 1)).toNat ≠ (IntKind.i64.wrap (IntKind.i64.wrap (4 * (i:Int)) + 3)).toNat:=by rw [k,d]; omega
  have n23:(IntKind.i64.wrap (IntKind.i64.wrap (4 * (i:Int)) + 2)).toNat ≠ (IntKind.i64.wrap (IntKind.i64.wrap (4 * (i:Int)) + 3)).toNat:=by rw [j,d]; omega
  have e:=setI v g f k j d s24 s16 s8 s0;refine br (fun _=>?_) (fun h=>absurd h (by simp; omega));refine ⟨⟨by simp,by show (i:Int) < 8; omega⟩,[wd (at0 (wl v) i)],K,?_⟩;refine zez hΘ 4 ?_;refine bre (by decide) ?_;refine ⟨by decide,⟨by show 0 ≤ IntKind.i64.wrap (IntKind.i64.wrap (4 * (i:Int)) + 0); rw [E]; omega,by show IntKind.i64.wrap (IntKind.i64.wrap (4 * (i:Int)) + 0) < 32; rw [E]; omega⟩,encB (fb (preB v i) (4 * i + 0)),x,?_⟩;refine sr_go hΘ ?_;refine bre (by decide) ?_;refine ⟨by decide,⟨by show 0 ≤ IntKind.i64.wrap (IntKind.i64.wrap (4 * (i:Int)) + 1); rw [J]; omega,by show IntKind.i64.wrap (IntKind.i64.wrap (4 * (i:Int)) + 1) < 32; rw [J]; omega⟩,encB (fb (preB v i) (4 * i + 1)),zmb I D,?_⟩;refine sr_go hΘ ?_;refine bre (by decide) ?_;refine ⟨by decide,⟨by show 0 ≤ IntKind.i64.wrap (IntKind.i64.wrap (4 * (i:Int)) + 2); rw [w]; omega,by show IntKind.i64.wrap (IntKind.i64.wrap (4 * (i:Int)) + 2) < 32; rw [w]; omega⟩,encB (fb (preB v i) (4 * i + 2)),zmb n12 (zmb p u),?_⟩;refine sr_go hΘ ?_;refine bre (by decide) ?_;refine ⟨by decide,⟨by show 0 ≤ IntKind.i64.wrap (IntKind.i64.wrap (4 * (i:Int)) + 3); rw [q]; omega,by show IntKind.i64.wrap (IntKind.i64.wrap (4 * (i:Int)) + 3) < 32; rw [q]; omega⟩,encB (fb (preB v i) (4 * i + 3)),zmb n23 (zmb n13 (zmb G s)),?_⟩;refine sr_go hΘ ?_;refine brd (by decide) ?_;exact ⟨⟨i + 1,by omega⟩,by show 8 - (i + 1) < 8 - i; omega,leR [] l B rfl ⟨tv,zmn 3 (fullB (preB v (i + 1))) 32,tv⟩ ⟨cnt (by omega),tv⟩ ⟨Fz.r F,(congrArg (fun L=>SB.arr 290 1 L 32) e).trans (ztt _ (fullB (preB v (i + 1))) 32).symm,tv⟩⟩
 ·have m:i = 8:=by omega
  subst m;have a:fullB (preB v 8) = zgh v:=by rw [z0w]; unfold fullB; rw [zvz]; simp
  have c:(fullB (preB v 8)).length = 32:=by rw [a]; rfl
  have y:List.take 32 (List.drop 0 ((fullB (preB v 8)).map encB)) = (zgh v).map fun b=>[SA.int .u8 b.toNat]:=by
   rw [qaf,qn (by rw [qa,c]; exact qm _),a]; rfl
  refine brd (by simp) ?_;refine ⟨(by show 0 + 32 ≤ _; rw [qa,c]; exact qm 32),_,rfl,zgh v,y,?_⟩;exact endPu rfl (Fz.r F) rfl rfl
end Go.Proofs.YtfnkamphhpldcaaGreatDoor
namespace Sx
open Go Go.RowKit
variable {P:Program} {C:Ctx} {ρ:Rho} {h:Hp} {nx:Nat} {w:World}
theorem Sat.putObj (s:Sat C ρ h nx w) {l:Nat} {o:Obj} (f:∀ i k,St.owns h i k → ρ i k ≠ l) (p:C.w0.heap.size ≤ l):Sat C ρ h nx (w.putObj l o) where
 lt:=s.lt
 blk:=fun i e d k c=>by
  obtain ⟨g,m,a⟩:=s.blk i e d k c;exact ⟨g,(World.putObj_heap_other (f i k ⟨e,d,c⟩)).trans m,a⟩
 wf:=s.wf
 inj:=s.inj
 anch:=s.anch
 n0:=s.n0
 n1:=s.n1
 os:=s.os
 tape:=s.tape
 output:=s.output
 size:=by have:=s.size; simpa [World.putObj] using this
 fr:=fun b j n=>(World.putObj_heap_other (by omega)).trans (s.fr b j n)
 own:=s.own
 fz:=s.fz
 id0:=s.id0
 only:=s.only
 lnk:=s.lnk
theorem zvq {f:FuncId} {args:List SV} {K:Out → Hp → Nat → Prop} {vs:List Value} (y:zba P f args h nx K) (S:Sat C ρ h nx w) (G:relL ρ args vs) (I:∀ s ∈ args,s.below nx) :
  Calls P f vs.toArray w fun e u=>∃ out p g n,K out p g ∧ out.rel n e ∧ Sat C n p g u ∧ (∀ i,i < nx → n i = ρ i) ∧ nx ≤ g ∧ (∀ b,b < w.heap.size → (∀ i k,i ≠ 0 → St.owns h i k → ρ i k ≠ b) → u.heap[b]? = w.heap[b]?):=by
 unfold zba at y
 let x:Ctx:={ w0:=w,ρ0:=ρ,n0:=nx,B:=fun b=>∃ i k,i ≠ 0 ∧ St.owns h i k ∧ ρ i k = b,R:=fun k=>St.owns h 0 k }
 have J:Sat x ρ h nx w:={ S with
  anch:=fun _ _ _=>rfl
  n0:=qm _
  n1:=S.pos
  os:=rfl
  tape:=rfl
  output:=rfl
  size:=qm _
  fr:=fun _ _ _=>rfl
  own:=fun i k ho=>by
   by_cases hi:i = 0
   ·subst hi; exact .inl ⟨rfl,ho⟩
   ·exact .inr (.inl ⟨i,k,hi,ho,rfl⟩) }
 refine (y x ρ w vs J G I).2.mono ?_;rintro e u ⟨out,p,g,n,E,ho,l,o,m,_⟩
 have q:∀ b,b < C.w0.heap.size → ¬ C.B b → ¬ x.B b:=by
  rintro b d c ⟨i,k,hi,a,rfl⟩;rcases S.own i k a with h1 | h1 | h1
  ·exact hi h1.1
  ·exact c h1
  ·omega
 refine ⟨out,p,g,n,E,ho,?_,o,m,fun b d c=>l.fr b d ?_⟩
 ·exact { l with
   anch:=fun i hi k=>by rw [o i (yz hi S.n0)]; exact S.anch i hi k
   n0:=js S.n0 m
   n1:=S.n1
   os:=l.os.trans S.os
   tape:=l.tape.trans S.tape
   output:=l.output.trans S.output
   size:=js S.size l.size
   fr:=fun b d c=>(l.fr b (yz d S.size) (q b d c)).trans (S.fr b d c)
   own:=fun i k a=>by
    rcases l.own i k a with ⟨rfl,h1⟩ | ⟨j,k',hj,hown',A⟩ | h1
    ·have D:=S.own 0 k h1;rw [S.id0] at D;rw [l.id0];exact D
    ·rcases S.own j k' hown' with h3 | h3 | h3
     ·exact absurd h3.1 hj
     ·exact .inr (.inl (A ▸ h3))
     ·exact .inr (.inr (A ▸ h3))
    ·exact .inr (.inr (js S.size h1)) }
 ·rintro ⟨i,k,hi,a,rfl⟩;exact c i k hi a rfl
end Sx
namespace Sx
open Go Go.RowKit
section
variable {P:Program} {Θ:Tys}
theorem Sat.trashC {C:Ctx} {ρ:Rho} {h:Hp} {nx:Nat} {w a:World} (s:Sat C ρ h nx w) {i:Nat} {e:Ent} (g:lget h i = some e) (u:e.plain = true) (q:e.has 0) (p:∀ k,e.has k → k = 0) {f:Obj} (l:a.os = w.os) (x:a.tape = w.tape) (y:a.output = w.output) (j:a.heap.size = w.heap.size)
  (d:a.heap[ρ i 0]? = some f) (c:∀ b,b ≠ ρ i 0 → a.heap[b]? = w.heap[b]?):Sat C ρ (lput (lput h i (.one (.obj f))) i .gone) nx a:=by
 have B:=s.lt i _ g;have m:=s.ne0 g u;refine Sat.forget (s.upd (e':=.one (.obj f)) 0 g u rfl q ?_ f ?_ rfl trivial l x y j d c) B m
 ·intro n;constructor
  ·rintro rfl; exact q
  ·intro h; exact p n h
 ·intro n o A;exact absurd (p n A) o
abbrev colH (h:Hp) (i:Nat):Hp:=lput (lput h i (.one (.obj (.deferred none)))) i .gone
def colQ (Θ:Tys) (b:List ResultVar) (K:Out → Hp → Nat → Prop) (a:St):Prop:=
 match a.d with
 |[]=>sres Θ a b fun v=>K (.ret v) a.h a.nx
 |[(.col,[.iter i k])]=>k = 0 ∧ lget a.h i = some (.one (.obj (.deferred (some [])))) ∧ sres Θ { a with h:=colH a.h i } b fun v=>K (.ret v) (colH a.h i) a.nx
 |_=>False
def endQC (Θ:Tys) (b:List ResultVar) (K:Out → Hp → Nat → Prop):SE → St → Prop:=fun e a=>
 match e with
 |.normal=>colQ Θ b K a
 |.ret=>colQ Θ b K a
 |_=>False
theorem z5i (hΘ:Θ.Ok P) {f:FuncId} {fn:Func} {c:Code} {args:List SV} {h:Hp} {nx:Nat} {K:Out → Hp → Nat → Prop} (hf:P.funcs[f]? = some fn) (M:fn.body = some c) (hn:(fn.name == "runtime.NumGoroutine") = false)
  (nt:Nat) (rs:List ResultVar) (ab:fn.ntmps = nt) (G:fn.results.toList = rs) (hl:Nat.ble args.length nt = true)
  (hx:WP P c ⟨[zex 0 args],h,nx,nx,nt,[]⟩ (endQC Θ rs K)):zba P f args h nx K:=by
 unfold zba;intro C ρ w vs S j Y;refine ⟨enters_of hf M hn,?_⟩;unfold WP at hx
 let B:Ctx:={ C with ρ0:=ρ,n0:=nx }
 have S1:Sat B ρ h nx w:={ S with anch:=fun _ _ _=>rfl,n0:=qm _,n1:=S.pos }
 have aa:=zh7 j;have ac:=nb hl
 have D:Den B ρ ⟨[zex 0 args],h,nx,nx,nt,[]⟩ { tmps:=vs.toArray ++ Array.replicate (fn.ntmps - vs.toArray.size) undef,defers:=[] } w:=by
  refine { sat:=S1,nt:=?_,tm:=?_,tw:=?_,n0:=rfl,df:=rfl,dw:=by simp }
  ·simp; omega
  ·intro n s l;simp only [lget] at l;split at l
   ·rename_i v T;cases l
    obtain ⟨u,_,A,h3,_⟩:=zc8 (nx:=nx) args vs 0 n s j T;simp only [qat] at A;refine ⟨u,?_,h3⟩;rw [qax (by simpa using (qi.1 A).1)];simpa using A
   ·simp at l
  ·intro n s l;simp only [lget] at l;split at l
   ·rename_i v T;cases l
    obtain ⟨u,_,_,_,h4⟩:=zc8 (nx:=nx) args vs 0 n s j T;exact Y s h4
   ·simp at l
 refine callsIn_wide.1 (callsIn_of_wp_marks (F:=Fence.wide) (n:=0) hf M trivial (wpIn_wide.2 (wp_mono (hx B ρ _ w D) ?_)) rfl);rintro e X I ⟨se,a,g,L,rfl,d⟩
 have x:∀ {A:Hp} {w2:World},Sat B g A a.nx w2 → Sat C g A a.nx w2:=fun E=>{ E with
  anch:=fun i y k=>by rw [E.anch i (yz y S.n0) k]; exact S.anch i y k
  n0:=js S.n0 E.n0
  n1:=S.n1 }
 have J:∀ i,i < nx → g i = ρ i:=fun i y=>funext fun k=>d.sat.anch i y k
 have ret:colQ Θ rs K a → LeavesInM Fence.wide 0 P fn X.tmps (fun e I=>∃ out h' p g,K out h' p ∧ out.rel g e ∧ Sat C g h' p I ∧ (∀ i,i < nx → g i = ρ i) ∧ nx ≤ p ∧ (match out with | .ret s=>s.below p | .panic _=>True)) X.defers .returning I:=by
  intro q;unfold colQ at q;have m:=d.df;split at q
  ·rename_i V;rw [V] at m;rw [m];rw [← G] at q;obtain ⟨v,sv,Q,Z,R,r4⟩:=zfe hΘ d q;exact ⟨v,Q,.ret sv,a.h,a.nx,g,r4,⟨v,rfl,Z⟩,x d.sat,J,d.sat.n0,R⟩
  ·rename_i i k V;obtain ⟨rfl,y,q⟩:=q;rw [V] at m;rw [m];obtain ⟨o,ho,W⟩:=d.sat.blk i _ y 0 rfl;have U:o = .deferred (some []):=W;subst U;have O:=(jo.1 ho).1
   have E:Sat B g (colH a.h i) a.nx (I.putObj (g i 0) (.deferred none)):=
    d.sat.trashC y rfl rfl (fun _ h=>h) rfl rfl rfl (by simp [World.putObj]) (World.putObj_heap_same O) (fun b M=>World.putObj_heap_other M)
   have D2:Den B g { a with h:=colH a.h i } X (I.putObj (g i 0) (.deferred none)):={ sat:=E,nt:=d.nt,tm:=d.tm,tw:=d.tw,n0:=d.n0,df:=d.df,dw:=d.dw }
   rw [← G] at q;obtain ⟨v,sv,Q,Z,R,r4⟩:=zfe hΘ D2 q;refine ⟨by simp,.inl ⟨_,_,rfl,run_takeDeferred ho,?_⟩⟩;exact ⟨v,Q,.ret sv,_,a.nx,g,r4,⟨v,rfl,Z⟩,x E,J,d.sat.n0,R⟩
  ·exact q.elim
 cases se with
 |normal=>exact ret L
 |ret=>exact ret L
 |exit id=>exact L.elim
 |panic v=>exact L.elim
end
end Sx
