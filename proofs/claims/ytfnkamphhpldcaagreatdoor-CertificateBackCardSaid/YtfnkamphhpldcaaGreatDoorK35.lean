import Derived.Test.YtfnkamphhpldcaaGreatDoorK21
import Derived.Test.YtfnkamphhpldcaaGreatDoorK30
import Derived.Test.YtfnkamphhpldcaaGreatDoorK34
import Derived.Test.YtfnkamphhpldcaaGreatDoorK26
set_option maxHeartbeats 64000000
namespace Go.Proofs.YtfnkamphhpldcaaGreatDoor
open Go Sx
set_option maxRecDepth 100000
def force {β:Type} (n:Nat) (k:Nat → β):β:=match n with
 |0=>k 0
 |m + 1=>k (m + 1)
theorem force_eq {β:Type} (n:Nat) (k:Nat → β):force n k = k n:=by cases n<;>rfl
def zo6 {β:Type}:List Nat → (List Nat → β) → β
 |[],k=>k []
 |x :: r,k=>force x fun y=>zo6 r fun l=>k (y :: l)
theorem zj7 {β:Type}:∀ (l:List Nat) (k:List Nat → β),zo6 l k = k l
 |[],_=>rfl
 |x :: r,k=>by rw [zo6,force_eq,zj7 r]
def fW {β:Type} (v:W8) (k:W8 → β):β:=force v.a fun a=>force v.b fun b=>force v.c fun c=>force v.d fun d=>force v.e fun e=>force v.f fun f=>force v.g fun g=>force v.h fun h=>k ⟨a,b,c,d,e,f,g,h⟩
theorem fW_eq {β:Type} (v:W8) (k:W8 → β):fW v k = k v:=by simp only [fW,force_eq]
def nx16 (a b c d:Nat):Nat:=(a + (mix b [7,18] 0 ^^^ b / 8) + c + (mix d [17,19] 0 ^^^ d / 1024)) % 4294967296
def zsv {β:Type}:List Nat → List Nat → W8 → (W8 → β) → β
 |[],_,v,k=>k v
 |c :: r,w,v,k=>force (nx16 (at0 w 0) (at0 w 1) (at0 w 9) (at0 w 14)) fun x=>zo6 (w.drop 1 ++ [x]) fun w'=>fW (step8 c (at0 w 0) v) fun u=>zsv r w' u k
theorem zl5 (p l:List Nat) (j:Nat):at0 (p ++ l) (p.length + j) = at0 l j:=by
 unfold at0
 rw [jz (Nat.le_add_right _ _),qac]
theorem z4q (p w:List Nat) (hw:w.length = 16):nxt (p ++ w) = nx16 (at0 w 0) (at0 w 1) (at0 w 9) (at0 w 14):=by
 have h:(p ++ w).length = p.length + 16:=by rw [qa,hw]
 have h1:p.length + 16 - 16 = p.length + 0:=by omega
 have h2:p.length + 16 - 15 = p.length + 1:=by omega
 have h3:p.length + 16 - 7 = p.length + 9:=by omega
 have h4:p.length + 16 - 2 = p.length + 14:=by omega
 rw [nxt,h,h1,h2,h3,h4,zl5,zl5,zl5,zl5]
 rfl
theorem zi1:∀ (n:Nat) (w:List Nat),∃ z,grow n w = w ++ z ∧ z.length = n
 |0,w=>⟨[],by simp [grow],rfl⟩
 |n + 1,w=>by
  obtain ⟨z,hz,hl⟩:=zi1 n (w ++ [nxt w])
  exact ⟨nxt w :: z,by rw [grow,hz]; simp,by simp [hl]⟩
theorem zuo {β:Type} (k:W8 → β):∀ (ks:List Nat) (n:Nat) (p w:List Nat) (v:W8),ks.length ≤ n → w.length = 16 →
  zsv ks w v k = k (zf2 (ks.zip ((grow n (p ++ w)).drop p.length)) v):=by
 intro ks
 induction ks with
 |nil=>intro n p w v _ _; rfl
 |cons c r ih=>
  intro n p w v h hw
  cases n with
  |zero=>exact absurd h (by simp)
  |succ n=>
   cases w with
   |nil=>cases hw
   |cons w0 t=>
    have ht:t.length = 15:=by simpa using hw
    have ih:=ih n (p ++ [w0]) (t ++ [nxt (p ++ w0 :: t)]) (step8 c w0 v) (by simpa using h) (by rw [qa,ht]; rfl)
    rw [zsv,force_eq,zj7,fW_eq,← z4q p _ hw]
    rw [show (w0 :: t).drop 1 = t from rfl,show at0 (w0 :: t) 0 = w0 from rfl,ih]
    have e:p ++ [w0] ++ (t ++ [nxt (p ++ w0 :: t)]) = p ++ w0 :: t ++ [nxt (p ++ w0 :: t)]:=by simp
    rw [e,grow]
    obtain ⟨z,hz,-⟩:=zi1 n (p ++ w0 :: t ++ [nxt (p ++ w0 :: t)])
    rw [hz]
    have d1:(p ++ w0 :: t ++ [nxt (p ++ w0 :: t)] ++ z).drop p.length = w0 :: (t ++ [nxt (p ++ w0 :: t)] ++ z):=by
     rw [qk,qk,qb5]; simp
    have d2:(p ++ w0 :: t ++ [nxt (p ++ w0 :: t)] ++ z).drop (p ++ [w0]).length = t ++ [nxt (p ++ w0 :: t)] ++ z:=by
     rw [← e,qk (p ++ [w0]),qb5]
    rw [d1,d2,qcc,zf2,zf2,y4]
theorem z5s (k a z:List Nat) (h:k.length ≤ a.length):k.zip (a ++ z) = k.zip a:=by
 induction k generalizing a with
 |nil=>rfl
 |cons x r ih=>cases a with
  |nil=>exact absurd h (by simp)
  |cons y s=>rw [jt,qcc,qcc,ih s (by simpa using h)]
theorem znh:∀ (m n:Nat) (w:List Nat),grow (m + n) w = grow n (grow m w)
 |0,n,w=>by rw [ji]; rfl
 |m + 1,n,w=>by rw [Nat.add_right_comm]; exact znh m n _
def zu0 {β:Type} (b:List UInt8) (v:W8) (k:W8 → β):β:=zo6 ((List.range 16).map (word b)) fun w=>zsv konst w v fun u=>fW (add8 v u) k
theorem zxd {β:Type} (b:List UInt8) (v:W8) (k:W8 → β):zu0 b v k = k (zhu b v):=by
 rw [zu0,zj7]
 have h:=zuo (fun u=>fW (add8 v u) k) konst 64 [] ((List.range 16).map (word b)) v (nb rfl) rfl
 refine h.trans ?_
 rw [fW_eq,zhu]
 have e:(konst.zip ((grow 64 ([] ++ (List.range 16).map (word b))).drop ([]:List Nat).length)) = konst.zip (sched b):=by
  rw [qu,qp,qai,sched,show (64:Nat) = 48 + 16 from rfl,znh]
  obtain ⟨z,hz,-⟩:=zi1 16 (grow 48 ((List.range 16).map (word b)))
  rw [hz]
  refine z5s _ _ _ ?_
  obtain ⟨y,hy,hl⟩:=zi1 48 ((List.range 16).map (word b))
  rw [hy,qa,hl]
  exact nb rfl
 rw [e]
def zmc {β:Type}:List Nat → List UInt8 → W8 → (W8 → β) → β
 |[],_,v,k=>k v
 |i :: r,p,v,k=>zu0 ((p.drop (64 * i)).take 64) v fun u=>zmc r p u k
theorem zky {β:Type} (p:List UInt8) (k:W8 → β):∀ (l:List Nat) (v:W8),zmc l p v k = k (l.foldl (fun v k=>zhu ((p.drop (64 * k)).take 64) v) v)
 |[],_=>rfl
 |i :: r,v=>by rw [zmc,zxd,zky p k r,y4]
def sumW (s:List UInt8):List UInt8:=zmc (List.range ((padded s).length / 64)) (padded s) init8 zf8
theorem zwg (s:List UInt8):sumW s = sumS s:=by rw [sumW,zky]; rfl
theorem leafV {s d:List UInt8} (h:sumW (0 :: s) = d):leafS s = d:=by rw [leafS,← zwg,h]
theorem nodeV {a b x y d:List UInt8} (ha:a = x) (hb:b = y) (h:sumW (1 :: (x ++ y)) = d):nodeS a b = d:=by rw [nodeS,ha,hb,← zwg,h]
def valA:List (List UInt8):=[[2,12,84,111,32,32,66,101],[2,10],[0],[0],[0],[0,0],[0,0,0],[2,0]]
theorem gl0:leafS [2,12,84,111,32,32,66,101] = [238,43,26,1,207,144,68,193,115,18,112,4,215,143,46,111,177,187,153,33,44,0,1,222,88,185,117,180,10,41,136,53]:=leafV (by decide +kernel)
theorem gl1:leafS [2,10] = [211,168,146,147,135,137,144,118,180,0,248,134,99,149,60,40,227,223,96,46,78,218,94,137,173,237,112,221,10,152,83,107]:=leafV (by decide +kernel)
theorem gl2:leafS [0] = [150,162,150,210,36,242,133,198,123,238,147,195,15,138,48,145,87,240,218,163,93,197,184,126,65,11,120,99,10,9,207,199]:=leafV (by decide +kernel)
theorem gl3:leafS [0,0] = [112,158,128,200,132,135,162,65,30,30,228,223,185,242,42,134,20,146,210,12,71,101,21,12,12,121,74,189,112,248,20,124]:=leafV (by decide +kernel)
theorem gl4:leafS [0,0,0] = [223,63,97,152,4,169,47,219,64,87,25,45,196,61,215,72,234,119,138,220,82,188,73,140,232,5,36,192,20,184,17,25]:=leafV (by decide +kernel)
theorem gl5:leafS [2,0] = [219,188,112,37,232,158,185,177,236,158,142,44,122,45,182,134,157,187,80,251,162,27,243,116,200,101,41,220,49,28,237,233]:=leafV (by decide +kernel)
theorem gnA0:nodeS (leafS [2,12,84,111,32,32,66,101]) (leafS [2,10]) = [116,129,84,203,128,152,161,250,41,172,209,118,108,42,66,180,165,165,154,122,167,31,35,29,237,223,246,32,172,226,30,157]:=nodeV (gl0) (gl1) (by decide +kernel)
theorem gnA1:nodeS (leafS [0]) (leafS [0]) = [13,226,65,128,173,164,201,93,183,137,134,218,62,87,14,167,168,41,106,252,156,252,123,4,185,118,203,170,91,180,234,137]:=nodeV (gl2) (gl2) (by decide +kernel)
theorem gnA2:nodeS (leafS [0]) (leafS [0,0]) = [123,80,130,78,116,212,98,75,241,11,125,227,213,139,216,133,49,214,80,228,55,94,69,79,228,185,104,93,12,73,204,149]:=nodeV (gl2) (gl3) (by decide +kernel)
theorem gnA3:nodeS (leafS [0,0,0]) (leafS [2,0]) = [251,214,97,244,25,243,9,210,205,9,142,32,93,57,232,164,201,154,136,225,224,89,230,34,176,43,250,58,47,151,64,127]:=nodeV (gl4) (gl5) (by decide +kernel)
theorem gnA4:nodeS (nodeS (leafS [2,12,84,111,32,32,66,101]) (leafS [2,10])) (nodeS (leafS [0]) (leafS [0])) = [238,208,255,52,27,145,149,89,39,245,242,170,80,225,87,142,125,108,37,18,110,36,23,176,152,226,240,21,103,49,64,163]:=nodeV (gnA0) (gnA1) (by decide +kernel)
theorem gnA5:nodeS (nodeS (leafS [0]) (leafS [0,0])) (nodeS (leafS [0,0,0]) (leafS [2,0])) = [61,188,37,240,46,83,250,156,148,215,32,106,192,242,66,51,240,233,62,90,236,106,112,36,82,248,165,27,185,208,211,42]:=nodeV (gnA2) (gnA3) (by decide +kernel)
theorem gnA6:nodeS (nodeS (nodeS (leafS [2,12,84,111,32,32,66,101]) (leafS [2,10])) (nodeS (leafS [0]) (leafS [0]))) (nodeS (nodeS (leafS [0]) (leafS [0,0])) (nodeS (leafS [0,0,0]) (leafS [2,0]))) = [171,174,167,58,167,81,185,43,48,224,96,218,29,211,146,128,64,184,139,96,77,17,46,118,111,240,82,54,231,197,36,76]:=nodeV (gnA4) (gnA5) (by decide +kernel)
theorem rootA:root8 valA = [171,174,167,58,167,81,185,43,48,224,96,218,29,211,146,128,64,184,139,96,77,17,46,118,111,240,82,54,231,197,36,76]:=gnA6
def valC:List (List UInt8):=[[2,10,116,111,32,98,101],[2,0],[0],[0],[0],[0,0],[0,0,0],[2,0]]
theorem gl6:leafS [2,10,116,111,32,98,101] = [181,74,11,201,27,109,77,171,99,210,222,104,68,96,9,243,161,211,126,175,131,90,161,233,7,198,238,32,108,6,140,164]:=leafV (by decide +kernel)
theorem gnC0:nodeS (leafS [2,10,116,111,32,98,101]) (leafS [2,0]) = [189,227,190,161,253,59,247,175,172,237,225,62,75,50,84,1,115,35,95,217,101,220,82,217,148,100,23,193,204,128,124,44]:=nodeV (gl6) (gl5) (by decide +kernel)
theorem gnC1:nodeS (leafS [0]) (leafS [0]) = [13,226,65,128,173,164,201,93,183,137,134,218,62,87,14,167,168,41,106,252,156,252,123,4,185,118,203,170,91,180,234,137]:=nodeV (gl2) (gl2) (by decide +kernel)
theorem gnC2:nodeS (leafS [0]) (leafS [0,0]) = [123,80,130,78,116,212,98,75,241,11,125,227,213,139,216,133,49,214,80,228,55,94,69,79,228,185,104,93,12,73,204,149]:=nodeV (gl2) (gl3) (by decide +kernel)
theorem gnC3:nodeS (leafS [0,0,0]) (leafS [2,0]) = [251,214,97,244,25,243,9,210,205,9,142,32,93,57,232,164,201,154,136,225,224,89,230,34,176,43,250,58,47,151,64,127]:=nodeV (gl4) (gl5) (by decide +kernel)
theorem gnC4:nodeS (nodeS (leafS [2,10,116,111,32,98,101]) (leafS [2,0])) (nodeS (leafS [0]) (leafS [0])) = [182,79,0,168,112,244,243,82,166,87,160,70,230,42,70,147,161,56,61,154,66,245,27,147,150,39,125,160,0,127,31,124]:=nodeV (gnC0) (gnC1) (by decide +kernel)
theorem gnC5:nodeS (nodeS (leafS [0]) (leafS [0,0])) (nodeS (leafS [0,0,0]) (leafS [2,0])) = [61,188,37,240,46,83,250,156,148,215,32,106,192,242,66,51,240,233,62,90,236,106,112,36,82,248,165,27,185,208,211,42]:=nodeV (gnC2) (gnC3) (by decide +kernel)
theorem gnC6:nodeS (nodeS (nodeS (leafS [2,10,116,111,32,98,101]) (leafS [2,0])) (nodeS (leafS [0]) (leafS [0]))) (nodeS (nodeS (leafS [0]) (leafS [0,0])) (nodeS (leafS [0,0,0]) (leafS [2,0]))) = [87,88,40,225,107,207,196,38,61,10,33,79,30,124,109,124,220,103,169,15,91,32,254,125,139,13,94,204,226,91,176,220]:=nodeV (gnC4) (gnC5) (by decide +kernel)
theorem rootC:root8 valC = [87,88,40,225,107,207,196,38,61,10,33,79,30,124,109,124,220,103,169,15,91,32,254,125,139,13,94,204,226,91,176,220]:=gnC6
theorem zre:root8 valC ≠ root8 valA:=by rw [rootA,rootC]; decide
def d1:Dc:=exD [84,111,32,32,66,101] 5
def d2:Dc:=exD [116,111,32,32,98,101] 5
def d3:Dc:=exD [116,111,32,98,101] 0
def d4:Dc:=exD [116,111,32,98,101] 5
def mg1:Mig:=⟨1,1,2,false,[(1,[(1,0)])]⟩
def mg2:Mig:=⟨2,2,3,false,[(1,[(2,0)]),(2,[(6,0)])]⟩
theorem zg7 (m:Mig) (d e:Dc):zdn m d e = (migOk m && (docOk d && (docOk e && (clOk (zbq m.keep) 1 && (zbq m.keep).all (chkAt (allB d) (allB e)))))):=by
 have h1:decide ((root8 (allB d)).length = 32) = true:=decide_eq_true (ze8 _)
 have h2:decide ((root8 (allB e)).length = 32) = true:=decide_eq_true (ze8 _)
 have h3:decide ((zbq m.keep).length = 8) = true:=decide_eq_true (zc8 _)
 have h4:decide ((allB d).length = 8) = true:=decide_eq_true (zc5 _)
 have h5:decide ((allB e).length = 8) = true:=decide_eq_true (zc5 _)
 have h6:crtOk (makeC m d e) = clOk (zbq m.keep) 1:=by
  show (decide ((root8 (allB d)).length = 32) && (decide ((root8 (allB e)).length = 32) && (decide (1 ≤ (1:Int)) && (decide ((1:Int) ≤ 64) && (decide ((zbq m.keep).length = 8) && clOk (zbq m.keep) 1))))) = _
  rw [h1,h2,h3]; rfl
 have h7:zcf (makeC m d e) (allB d) (allB e) = (clOk (zbq m.keep) 1 && (zbq m.keep).all (chkAt (allB d) (allB e))):=by
  rw [zcf,h6,h4,h5]
  show (_ && (true && (decide (root8 (allB d) = root8 (allB d)) && (decide (root8 (allB e) = root8 (allB e)) && (zbq m.keep).all (chkAt (allB d) (allB e)))))) = _
  rw [decide_eq_true rfl,decide_eq_true rfl]; simp
 rw [zdn,h7]
theorem mk1:zdn mg1 d1 d2 = true:=by rw [zg7]; decide +kernel
theorem mk2:zdn mg1 d1 d4 = false:=by rw [zg7]; decide +kernel
theorem mk3:zdn mg2 d2 d3 = true:=by rw [zg7]; decide +kernel
theorem all1:allB d1 = valA:=by decide +kernel
theorem all3:allB d3 = valC:=by decide +kernel
theorem doc1:docOk d1 = true:=by decide +kernel
theorem doc3:docOk d3 = true:=by decide +kernel
def cA:Crt:=makeC mg1 d1 d2
def cB:Crt:=makeC mg2 d2 d3
theorem zse {m:Mig} {d e:Dc} (h:zdn m d e = true):crtOk (makeC m d e) = true:=by
 simp only [zdn,qd,zcf] at h
 exact h.2.2.2.1
theorem okA:crtOk cA = true:=zse mk1
theorem okB:crtOk cB = true:=zse mk3
def cX:Crt:=⟨root8 (allB d1),root8 (allB d3),2,exCl⟩
theorem z8b:joinC cA cB = cX:=by
 have h:List.zipWith zf0 (zbq mg1.keep) (zbq mg2.keep) = exCl:=by decide +kernel
 show Crt.mk (root8 (allB d1)) (root8 (allB d3)) 2 (List.zipWith zf0 (zbq mg1.keep) (zbq mg2.keep)) = _
 rw [h]; rfl
theorem comp1:zcc [cA,cB] = some cX:=by
 have hj:zcw cA cB = true:=by
  have hb:crtOk cB = true:=zse mk3
  have hd:decide (cA.dst = cB.src) = true:=decide_eq_true rfl
  rw [zcw,hd,hb]; rfl
 rw [zcc,if_pos okA,foldS,if_pos hj,foldS,z8b]
theorem comp2:zcc [cB,cA] = none:=by
 have hj:zcw cB cA = false:=by
  have hd:decide (cB.dst = cA.src) = false:=decide_eq_false (by
   show root8 (allB d3) ≠ root8 (allB d1)
   rw [all1,all3]; exact zre)
  rw [zcw,hd]; rfl
 rw [zcc,if_pos okB,foldS,if_neg (by rw [hj]; simp)]
theorem cX_ok:crtOk cX = true:=by
 show (decide ((root8 (allB d1)).length = 32) && (decide ((root8 (allB d3)).length = 32) && (decide (1 ≤ (2:Int)) && (decide ((2:Int) ≤ 64) && (decide (exCl.length = 8) && clOk exCl 1))))) = _
 rw [decide_eq_true (ze8 _),decide_eq_true (ze8 _)]; decide +kernel
theorem chk1:zcf cX (allB d1) (allB d3) = true:=by
 have h:exCl.all (chkAt (allB d1) (allB d3)) = true:=by decide +kernel
 rw [zcf,cX_ok,decide_eq_true (zc5 _),decide_eq_true (zc5 _)]
 show (true && ((true && true) && (decide (root8 (allB d1) = root8 (allB d1)) && (decide (root8 (allB d3) = root8 (allB d3)) && exCl.all (chkAt (allB d1) (allB d3)))))) = true
 rw [decide_eq_true rfl,decide_eq_true rfl,h]; rfl
theorem chk2:zcf cX (allB d3) (allB d1) = false:=by
 have h:decide (root8 (allB d3) = root8 (allB d1)) = false:=decide_eq_false (by rw [all1,all3]; exact zre)
 rw [zcf]
 show (_ && (_ && (decide (root8 (allB d3) = root8 (allB d1)) && _))) = false
 rw [h]; simp
theorem sameX:zmy cX cX = true:=by simp [zmy]
theorem z8l:zmy cA cB = false:=by
 have h:decide (zbq mg1.keep = zbq mg2.keep) = false:=by decide +kernel
 show (_ && (_ && (_ && decide (zbq mg1.keep = zbq mg2.keep)))) = false
 rw [h]; simp
theorem encX:encC cX = [64] ++ root8 valA ++ [64] ++ root8 valC ++ [4,4,2,0,4,0,2,12,0,0,0,0,0,0,0]:=by
 have h1:∀ s:List UInt8,s.length = 32 → (putSR s).1 = [64] ++ s:=fun s hs=>by
  have h3:putI ((32:Nat):Int) = [64]:=by decide +kernel
  rw [putSR,if_neg (by omega),hs]
  show putI ((32:Nat):Int) ++ s = _
  rw [h3]
 have h2:zae [(2:Int)] ++ (exCl.map zf6).flatten = [4,4,2,0,4,0,2,12,0,0,0,0,0,0,0]:=by decide +kernel
 show (putSR (root8 (allB d1))).1 ++ (putSR (root8 (allB d3))).1 ++ zae [(2:Int)] ++ (exCl.map zf6).flatten = _
 rw [qk _ (zae _),h2,h1 _ (ze8 _),h1 _ (ze8 _),all1,all3]
 simp only [qk]
theorem rd1:getS (encC cX) 0 = (root8 valA,33,0):=by rw [encX,rootA,rootC]; decide +kernel
theorem rd2:getS (encC cX) 33 = (root8 valC,66,0):=by rw [encX,rootA,rootC]; decide +kernel
theorem rd3:getI (encC cX) 66 = (2,67,0):=by rw [encX,rootA,rootC]; decide +kernel
theorem rd4:∀ k:Nat,k < 14 → getI (encC cX) (67 + (k:Int)) = (exV[k]?.getD 0,68 + (k:Int),0):=by rw [encX,rootA,rootC]; decide +kernel
theorem rdl:(encC cX).length = 81:=by rw [encX,rootA,rootC]; rfl
end Go.Proofs.YtfnkamphhpldcaaGreatDoor
namespace Sx
open Go
def LJ0 (st:St) (jl:List Nat) (F:Fz):St:=⟨[] :: junks jl :: st.t,[(0,.frz F)] :: st.h,st.nx,st.n0,st.nt,st.d⟩
theorem cutJ {P:Program} {c:Code} {st:St} {Q:SE → St → Prop} {X:Type} (F0:Fz) (upd:X → List (Nat × SV)) (jl:List Nat) (hup:X → List (Nat × Ent)) (N:Nat)
  (h0:WfH st.h st.nx → WfT st.t st.nx → Le st (LJ0 st jl F0))
  (h1:WfH st.h st.nx → WfT st.t st.nx → WP P c (LJ0 st jl F0) (fun e st'=>e = .normal ∧ ∃ x,Le st' (LI st upd jl hup N x)))
  (h2:∀ x,Q .normal (LI st upd jl hup N x)):WP P c st Q:=
 z9c (LJ0 st jl F0) (LI st upd jl hup N) (fun hH hT=>⟨h0 hH hT,h1 hH hT⟩) h2
end Sx
namespace Go.Proofs.YtfnkamphhpldcaaGreatDoor
open Go Sx
set_option maxRecDepth 100000
abbrev dS (b:Nat):List SA:=docS (.slice false 0 b 0 2 1 1) (.slice true 0 0 0 6 0 0) 0 []
abbrev LnAt (F:Fz) (b:Nat) (t:List UInt8) (m:Int):Prop:=F b = some (.arr 148 2 ([(t,m)].map encN) 1)
theorem z6t (F:Fz) (hM:MLF F) (hR:RNDF F) (sk:SA) (b1 b2:Nat) (hk:KpsAt F sk mg1.keep) (h1:LnAt F b1 [84,111,32,32,66,101] 5) (h2:LnAt F b2 [116,111,32,32,98,101] 5) :
  Fo Tryz.prog F 21 [.agg (migS mg1 sk),.agg (dS b1),.agg (dS b2)] (fun o F'=>∃ sc,o = .ret (.tup [.agg (crtS cA sc),.va (.int .i64 0)]) ∧ ClsAt F' sc cA.cl):=
 zb6 (zmj F hM hR sk _ _ _ _ mg1 d1 d2 hk (by intro x hx; simp [mg1] at hx; subst hx; decide) (by decide) (exAt h1) (exAt h2) (zem _ _) (zem _ _)) fun o F' h=>by
  rcases h with ⟨h,_⟩ | ⟨_,h⟩
  ·exact absurd (h.symm.trans mk1) (by simp)
  ·exact h
theorem z6y (F:Fz) (hM:MLF F) (hR:RNDF F) (sk:SA) (b1 b2:Nat) (hk:KpsAt F sk mg1.keep) (h1:LnAt F b1 [84,111,32,32,66,101] 5) (h2:LnAt F b2 [116,111,32,98,101] 5) :
  Fo Tryz.prog F 21 [.agg (migS mg1 sk),.agg (dS b1),.agg (dS b2)] (fun o F'=>o = .ret (.tup [.agg [.str [],.str [],.int .i64 0,.nilsl],.va (.int .i64 100)])):=
 zb6 (zmj F hM hR sk _ _ _ _ mg1 d1 d4 hk (by intro x hx; simp [mg1] at hx; subst hx; decide) (by decide) (exAt h1) (exAt h2) (zem _ _) (zem _ _)) fun o F' h=>by
  rcases h with ⟨_,h⟩ | ⟨h,_⟩
  ·exact h
  ·exact absurd (h.symm.trans mk2) (by simp)
theorem z8o (F:Fz) (hM:MLF F) (hR:RNDF F) (sk:SA) (b1 b2:Nat) (hk:KpsAt F sk mg2.keep) (h1:LnAt F b1 [116,111,32,32,98,101] 5) (h2:LnAt F b2 [116,111,32,98,101] 0) :
  Fo Tryz.prog F 21 [.agg (migS mg2 sk),.agg (dS b1),.agg (dS b2)] (fun o F'=>∃ sc,o = .ret (.tup [.agg (crtS cB sc),.va (.int .i64 0)]) ∧ ClsAt F' sc cB.cl):=
 zb6 (zmj F hM hR sk _ _ _ _ mg2 d2 d3 hk (by intro x hx; simp [mg2] at hx; rcases hx with rfl | rfl<;>decide) (by decide) (exAt h1) (exAt h2) (zem _ _) (zem _ _)) fun o F' h=>by
  rcases h with ⟨h,_⟩ | ⟨_,h⟩
  ·exact absurd (h.symm.trans mk3) (by simp)
  ·exact h
theorem sameT (F:Fz) (sa sb:SA) (a:List Stp) (ha:za3 F sa a) (hb:za3 F sb a) (la:a.length < 1000000):Fo Tryz.prog F 46 [.va sa,.va sb] (fun o F'=>o = .ret (.va (.lit true)) ∧ F' = F):=by
 have h1:=z4x F sa sb a a ha hb la
 rw [decide_eq_true rfl] at h1
 exact zhh h1
abbrev zC:List SA:=[.str [],.str [],.int .i64 0,.nilsl]
abbrev zC':List SA:=[.str [],.str [],.int .i64 0,.slice true 0 0 0 2 0 0]
theorem zSwap (ρ:Rho) (vs:List Value) (h:relL ρ [.agg zC] vs):relL ρ [.agg zC'] vs:=by
 match vs,h with
 |[],h=>exact h.elim
 |[v],h=>exact h
 |_ :: _ :: _,h=>exact h
theorem z6v (n:Nat):∀ s ∈ [SV.agg zC'],s.below n:=fun s hs=>by
 simp only [qy] at hs
 subst hs
 intro a ha
 simp only [qj,qq,or_false] at ha
 rcases ha with rfl | rfl | rfl | rfl
 ·trivial
 ·trivial
 ·trivial
 ·exact .inl rfl
theorem zm4:short cA.cl:=zea (by intro x hx; simp [mg1] at hx; subst hx; decide)
theorem zr8:short cB.cl:=zea (by intro x hx; simp [mg2] at hx; rcases hx with rfl | rfl<;>decide)
theorem zhr:short cX.cl:=fun x hx=>by have:=zlb x hx; omega
theorem crts2 {F:Fz} {b:Nat} {c1 c2:Crt} {s1 s2:SA} (h1:ClsAt F s1 c1.cl) (h2:ClsAt F s2 c2.cl) (hb:F b = some (.arr 48 4 [crtS c1 s1,crtS c2 s2] 2)):zox F (.slice false 0 b 0 4 2 2) [c1,c2]:=
 SlR.new (l:=[c1,c2]) hb rfl fun k x hx=>by
  match k,hx with
  |0,hx=>cases hx; exact ⟨_,rfl,s1,rfl,h1⟩
  |1,hx=>cases hx; exact ⟨_,rfl,s2,rfl,h2⟩
  |k + 2,hx=>cases hx
theorem zie {p:Crt → Prop} {c1 c2:Crt} (h1:p c1) (h2:p c2):∀ c ∈ [c1,c2],p c:=by
 intro c hc
 simp only [qj,qq,or_false] at hc
 rcases hc with rfl | rfl
 ·exact h1
 ·exact h2
theorem zvv:cA.cl.length < 1000000:=yg (qc7 (zc8 mg1.keep)) (by decide)
theorem z2j:cB.cl.length < 1000000:=yg (qc7 (zc8 mg2.keep)) (by decide)
theorem z3b (F:Fz) (b:Nat) (sa sb:SA) (hA:ClsAt F sa cA.cl) (hB:ClsAt F sb cB.cl) (hb:F b = some (.arr 48 4 [crtS cA sa,crtS cB sb] 2)) :
  Fo Tryz.prog F 30 [.va (.slice false 0 b 0 4 2 2)] (fun o F'=>∃ sk,o = .ret (.tup [.agg (crtS cX sk),.va (.int .i64 0)]) ∧ ClsAt F' sk cX.cl):=
 zb6 (zgf F false b 0 2 [cA,cB] (crts2 hA hB hb) (qf 2) (zie zm4 zr8) (zie zvv z2j) (by show 2 < 1000000; decide)) fun o F' h=>by
  rcases h with ⟨h,_⟩ | ⟨c,h,h2⟩
  ·exact absurd (h.symm.trans comp1) (by simp)
  ·have h3:c = cX:=by have:=h.symm.trans comp1; exact Option.some.inj this
   subst h3; exact h2
theorem z5t (F:Fz) (b:Nat) (sa sb:SA) (hA:ClsAt F sa cA.cl) (hB:ClsAt F sb cB.cl) (hb:F b = some (.arr 48 4 [crtS cB sb,crtS cA sa] 2)) :
  Fo Tryz.prog F 30 [.va (.slice false 0 b 0 4 2 2)] (fun o F'=>o = .ret (.tup [.agg [.str [],.str [],.int .i64 0,.nilsl],.va (.int .i64 100)])):=
 zb6 (zgf F false b 0 2 [cB,cA] (crts2 hB hA hb) (qf 2) (zie zr8 zm4) (zie z2j zvv) (by show 2 < 1000000; decide)) fun o F' h=>by
  rcases h with ⟨_,h⟩ | ⟨c,h,_⟩
  ·exact h
  ·exact absurd (h.symm.trans comp2) (by simp)
theorem z4k (F:Fz):Fo Tryz.prog F 30 [.va (.slice true 0 0 0 4 0 0)] (fun o F'=>o = .ret (.tup [.agg [.str [],.str [],.int .i64 0,.nilsl],.va (.int .i64 100)])):=
 zb6 (zgf F true 0 0 0 [] SlR.nil (by decide) (by simp) (by simp) (by decide)) fun o F' h=>by
  rcases h with ⟨_,h⟩ | ⟨c,h,_⟩
  ·exact h
  ·cases h
theorem zwu (F:Fz) (b:Nat) (t:List UInt8) (m:Int) (h:LnAt F b t m) (hd:docOk (exD t m) = true):Fo Tryz.prog F 14 [.agg (dS b)] (fun o F'=>∃ b c,o = .ret (.tup [.va (.slice false 0 b 0 1 8 c),.va (.int .i64 0)]) ∧ F' b = some (.arr 9 1 ((allB (exD t m)).map encS) c)):=
 zb6 (zpt F _ _ (exD t m) (exAt h) (zem _ _)) fun o F' h=>by
  rcases h with ⟨h,_⟩ | ⟨_,h⟩
  ·exact absurd (h.symm.trans hd) (by simp)
  ·exact h
structure Ex (A B:Crt) (xs xd:List UInt8) (vA vC:List (List UInt8)) (E:List UInt8):Prop where
 al:A.len = 1
 mkA:∀ F,MLF F → RNDF F → ∀ sk b1 b2,KpsAt F sk mg1.keep → LnAt F b1 [84,111,32,32,66,101] 5 → LnAt F b2 [116,111,32,32,98,101] 5 → Fo Tryz.prog F 21 [.agg (migS mg1 sk),.agg (dS b1),.agg (dS b2)] (fun o F'=>∃ sc,o = .ret (.tup [.agg (crtS A sc),.va (.int .i64 0)]) ∧ ClsAt F' sc A.cl)
 mkF:∀ F,MLF F → RNDF F → ∀ sk b1 b2,KpsAt F sk mg1.keep → LnAt F b1 [84,111,32,32,66,101] 5 → LnAt F b2 [116,111,32,98,101] 5 → Fo Tryz.prog F 21 [.agg (migS mg1 sk),.agg (dS b1),.agg (dS b2)] (fun o F'=>o = .ret (.tup [.agg zC,.va (.int .i64 100)]))
 mkB:∀ F,MLF F → RNDF F → ∀ sk b1 b2,KpsAt F sk mg2.keep → LnAt F b1 [116,111,32,32,98,101] 5 → LnAt F b2 [116,111,32,98,101] 0 → Fo Tryz.prog F 21 [.agg (migS mg2 sk),.agg (dS b1),.agg (dS b2)] (fun o F'=>∃ sc,o = .ret (.tup [.agg (crtS B sc),.va (.int .i64 0)]) ∧ ClsAt F' sc B.cl)
 cX:∀ F b sa sb,ClsAt F sa A.cl → ClsAt F sb B.cl → F b = some (.arr 48 4 [crtS A sa,crtS B sb] 2) → Fo Tryz.prog F 30 [.va (.slice false 0 b 0 4 2 2)] (fun o F'=>∃ sk,o = .ret (.tup [.agg (crtS ⟨xs,xd,2,exCl⟩ sk),.va (.int .i64 0)]) ∧ ClsAt F' sk exCl)
 cN:∀ F b sa sb,ClsAt F sa A.cl → ClsAt F sb B.cl → F b = some (.arr 48 4 [crtS B sb,crtS A sa] 2) → Fo Tryz.prog F 30 [.va (.slice false 0 b 0 4 2 2)] (fun o F'=>o = .ret (.tup [.agg zC,.va (.int .i64 100)]))
 all1:∀ F b,LnAt F b [84,111,32,32,66,101] 5 → Fo Tryz.prog F 14 [.agg (dS b)] (fun o F'=>∃ b c,o = .ret (.tup [.va (.slice false 0 b 0 1 8 c),.va (.int .i64 0)]) ∧ F' b = some (.arr 9 1 (vA.map encS) c))
 all3:∀ F b,LnAt F b [116,111,32,98,101] 0 → Fo Tryz.prog F 14 [.agg (dS b)] (fun o F'=>∃ b c,o = .ret (.tup [.va (.slice false 0 b 0 1 8 c),.va (.int .i64 0)]) ∧ F' b = some (.arr 9 1 (vC.map encS) c))
 enc:∀ F sk,ClsAt F sk exCl → Fo Tryz.prog F 34 [.agg (crtS ⟨xs,xd,2,exCl⟩ sk)] (fun o F'=>o = .ret (.tup [.va (.str E),.va (.int .i64 0)]))
 dec:∀ F,Fo Tryz.prog F 36 [.va (.str E)] (fun o F'=>∃ sk,o = .ret (.tup [.agg (crtS ⟨xs,xd,2,exCl⟩ sk),.va (.int .i64 0)]) ∧ ClsAt F' sk exCl)
 k1:∀ F,MLF F → RNDF F → ∀ sk b1 c1 b3 c3,ClsAt F sk exCl → F b1 = some (.arr 9 1 (vA.map encS) c1) → F b3 = some (.arr 9 1 (vC.map encS) c3) → Fo Tryz.prog F 22 [.agg (crtS ⟨xs,xd,2,exCl⟩ sk),.va (.slice false 0 b1 0 1 8 c1),.va (.slice false 0 b3 0 1 8 c3)] (fun o F'=>o = .ret (.va (.lit true)) ∧ True)
 k2:∀ F,MLF F → RNDF F → ∀ sk b1 c1 b3 c3,ClsAt F sk exCl → F b1 = some (.arr 9 1 (vA.map encS) c1) → F b3 = some (.arr 9 1 (vC.map encS) c3) → Fo Tryz.prog F 22 [.agg (crtS ⟨xs,xd,2,exCl⟩ sk),.va (.slice false 0 b3 0 1 8 c3),.va (.slice false 0 b1 0 1 8 c1)] (fun o F'=>o = .ret (.va (.lit false)) ∧ True)
 s1:∀ F s t,ClsAt F s exCl → ClsAt F t exCl → Fo Tryz.prog F 27 [.agg (crtS ⟨xs,xd,2,exCl⟩ s),.agg (crtS ⟨xs,xd,2,exCl⟩ t)] (fun o F'=>o = .ret (.va (.lit true)) ∧ F' = F)
 s2:∀ F s t,ClsAt F s A.cl → ClsAt F t B.cl → Fo Tryz.prog F 27 [.agg (crtS A s),.agg (crtS B t)] (fun o F'=>o = .ret (.va (.lit false)) ∧ F' = F)
 vX:∀ F s,ClsAt F s exCl → Fo Tryz.prog F 25 [.agg (crtS ⟨xs,xd,2,exCl⟩ s)] (fun o F'=>o = .ret (.va (.lit true)) ∧ True)
 v0:∀ F,Fo Tryz.prog F 25 [.agg [.str [],.str [],.int .i64 0,.slice true 0 0 0 2 0 0]] (fun o F'=>o = .ret (.va (.lit false)) ∧ True)
theorem zpl (A B:Crt) (xs xd:List UInt8) (vA vC:List (List UInt8)) (E:List UInt8) (ex:Ex A B xs xd vA vC E) (F0:Fz) (m0:MLF F0) (r0:RNDF F0):Fo Tryz.prog F0 12 [] (fun o F'=>o = .ret (.va (.bool true)) ∧ True):=by
 obtain ⟨hA1,mkA,mkF,mkB,cX,cN,all1,all3,enc_,dec,k1,k2,s1,s2,vX,v0⟩:=ex
 obtain ⟨As,Ad,An,Ac⟩:=A
 obtain ⟨Bs,Bd,Bn,Bc⟩:=B
 replace hA1:An = 1:=hA1
 subst hA1
 refine fo_of hΘ Tryz.func12 rfl (by decide) _ _ rfl rfl rfl ?_;conv=>whnf
 refine zjq 1 (fun _=>.arr 56 2 ([(1,0)].map enc) 1) rfl rfl rfl (fun _ _=>rfl) (fun _ _=>SB.bB_ok rfl) ?_
 intro p1 F1 l1 hp1
 refine zjq 4 (fun _=>.arr 56 2 ([(2,0)].map enc) 1) rfl rfl rfl (fun _ _=>rfl) (fun _ _=>SB.bB_ok rfl) ?_
 intro p4 F4 l4 hp4
 refine zjq 5 (fun _=>.arr 56 2 ([(6,0)].map enc) 1) rfl rfl rfl (fun _ _=>rfl) (fun _ _=>SB.bB_ok rfl) ?_
 intro p5 F5 l5 hp5
 refine zjq 2 (fun _=>.arr 96 2 [[.int .i64 1,.slice false 0 (p1 0) 0 2 1 1]] 1) rfl rfl rfl (fun _ _=>rfl) (fun _ _=>SB.bB_ok rfl) ?_
 intro p2 F2 l2 hp2
 refine zjq 6 (fun _=>.arr 96 2 [[.int .i64 1,.slice false 0 (p4 0) 0 2 1 1],[.int .i64 2,.slice false 0 (p5 0) 0 2 1 1]] 2) rfl rfl rfl (fun _ _=>rfl) (fun _ _=>SB.bB_ok rfl) ?_
 intro p6 F6 l6 hp6
 have K1:KpsAt F6 (.slice false 0 (p2 0) 0 2 1 1) mg1.keep:=SlR.new (l:=mg1.keep) (l6 _ _ (hp2 0 rfl)) rfl fun k x hx=>by
  match k,hx with
  |0,hx=>cases hx; exact ⟨_,rfl,_,rfl,Sl.new (l:=[(1,0)]) (l6 _ _ (l2 _ _ (l5 _ _ (l4 _ _ (hp1 0 rfl)))))⟩
  |k + 1,hx=>cases hx
 have K2:KpsAt F6 (.slice false 0 (p6 0) 0 2 2 2) mg2.keep:=SlR.new (l:=mg2.keep) (hp6 0 rfl) rfl fun k x hx=>by
  match k,hx with
  |0,hx=>cases hx; exact ⟨_,rfl,_,rfl,Sl.new (l:=[(2,0)]) (l6 _ _ (l2 _ _ (l5 _ _ (hp4 0 rfl))))⟩
  |1,hx=>cases hx; exact ⟨_,rfl,_,rfl,Sl.new (l:=[(6,0)]) (l6 _ _ (l2 _ _ (hp5 0 rfl)))⟩
  |k + 2,hx=>cases hx
 have q6:Fz.le F0 F6:=Fz.t l1 (Fz.t l4 (Fz.t l5 (Fz.t l2 l6)))
 have m6:=m0.mono q6
 have r6:=r0.mono q6
 clear hp1 hp4 hp5 hp2 hp6 l1 l4 l5 l2 l6
 refine cutJ (X:={ x:Fz × (Bool × Nat × Nat × Nat) // Fz.le F6 x.1 ∧ ClsAt x.1 (.slice x.2.1 0 x.2.2.1 x.2.2.2.1 2 Ac.length x.2.2.2.2) Ac }) F6 (fun x=>[(3,.va (.ptr ⟨8,0,0,0,0⟩)),(4,.va (.int .i64 0))]) [37,38,39,40,41,42,43] (fun x=>[(0,.frz x.1.1),(8,.one (.cells 48 (crtS ⟨As,Ad,1,Ac⟩ (.slice x.1.2.1 0 x.1.2.2.1 x.1.2.2.2.1 2 Ac.length x.1.2.2.2.2))))]) 9
  (fun hH hT=>leI [] hH hT rfl ⟨tv,tv⟩ trivial ⟨Fz.r F6,tv⟩) (fun hH hT=>?draws3) ?rest3
 case draws3=>
  refine drawP hΘ mixed (.look 0 (.alt 1 (.alt 2 (.alt 3 (lk [4,5,6] (.alt 7 (.alt 8 (.look 9 .done) .nil) .nil)) (.alt 7 (.alt 3 (lk [4,5,6] (.alt 8 (.look 9 .done) .nil)) .nil) .nil)) (.alt 7 (.alt 2 (.alt 3 (lk [4,5,6] (.alt 8 (.look 9 .done) .nil)) .nil) .nil) .nil)) (.alt 7 (.alt 1 (.alt 2 (.alt 3 (lk [4,5,6] (.alt 8 (.look 9 .done) .nil)) .nil) .nil) .nil) .nil))) [3] (by kernel_rfl) ?_;conv=>whnf
  refine ⟨rfl,?_⟩;conv=>whnf
  refine ⟨?_,?_⟩
  ·conv=>whnf
   refine useFo (zbj F6 [84,111,32,32,66,101] 5) rfl (zaa _) rfl ?_
   rintro _ G1 u1 ⟨e1,rfl,he1⟩;conv=>whnf
   refine ⟨u1,rfl,?_⟩;conv=>whnf
   refine ⟨?_,?_⟩
   ·conv=>whnf
    refine useFo (zbj G1 [116,111,32,32,98,101] 5) rfl (zaa _) rfl ?_
    rintro _ G2 u2 ⟨e2,rfl,he2⟩;conv=>whnf
    refine ⟨u2,rfl,?_⟩;conv=>whnf
    refine ⟨?_,?_⟩
    ·conv=>whnf
     have v2:=Fz.t u1 u2
     have hmk:=mkA G2 (m6.mono v2) (r6.mono v2) _ e1 e2 (KpsAt.up K1 v2) (u2 _ _ he1) he2
     refine useFo hmk rfl (zaa _) rfl ?_
     rintro _ G3 u3 ⟨sc,rfl,hsc⟩
     have hsc':=hsc
     obtain ⟨cn,cb,ce,cc,cL,cr,rfl,-,-,-,-⟩:=hsc
     conv=>whnf
     refine ⟨u3,rfl,?_⟩;conv=>whnf
     conv=>whnf
     refine ⟨Fz.r _,rfl,?_⟩;conv=>whnf
     refine ⟨Fz.r _,rfl,?_⟩;conv=>whnf
     exact ⟨rfl,⟨(G3,(cn,cb,ce,cc)),Fz.t u1 (Fz.t u2 u3),hsc'⟩,leR [(8,8)] hH hT rfl ⟨tv,zar _ (.inr (by omega)),tv⟩ ⟨rfl,rfl,tv⟩ ⟨Fz.r G3,rfl,tv⟩⟩
    ·conv=>whnf
     refine ⟨Fz.r _,rfl,?_⟩;conv=>whnf
     conv=>whnf
     have v2:=Fz.t u1 u2
     have hmk:=mkA G2 (m6.mono v2) (r6.mono v2) _ e1 e2 (KpsAt.up K1 v2) (u2 _ _ he1) he2
     refine useFo hmk rfl (zaa _) rfl ?_
     rintro _ G3 u3 ⟨sc,rfl,hsc⟩
     have hsc':=hsc
     obtain ⟨cn,cb,ce,cc,cL,cr,rfl,-,-,-,-⟩:=hsc
     conv=>whnf
     refine ⟨u3,rfl,?_⟩;conv=>whnf
     refine ⟨Fz.r _,rfl,?_⟩;conv=>whnf
     exact ⟨rfl,⟨(G3,(cn,cb,ce,cc)),Fz.t u1 (Fz.t u2 u3),hsc'⟩,leR [(8,8)] hH hT rfl ⟨tv,zar _ (.inr (by omega)),tv⟩ ⟨rfl,rfl,tv⟩ ⟨Fz.r G3,rfl,tv⟩⟩
   ·conv=>whnf
    refine ⟨Fz.r _,rfl,?_⟩;conv=>whnf
    conv=>whnf
    refine useFo (zbj G1 [116,111,32,32,98,101] 5) rfl (zaa _) rfl ?_
    rintro _ G2 u2 ⟨e2,rfl,he2⟩;conv=>whnf
    refine ⟨u2,rfl,?_⟩;conv=>whnf
    conv=>whnf
    have v2:=Fz.t u1 u2
    have hmk:=mkA G2 (m6.mono v2) (r6.mono v2) _ e1 e2 (KpsAt.up K1 v2) (u2 _ _ he1) he2
    refine useFo hmk rfl (zaa _) rfl ?_
    rintro _ G3 u3 ⟨sc,rfl,hsc⟩
    have hsc':=hsc
    obtain ⟨cn,cb,ce,cc,cL,cr,rfl,-,-,-,-⟩:=hsc
    conv=>whnf
    refine ⟨u3,rfl,?_⟩;conv=>whnf
    refine ⟨Fz.r _,rfl,?_⟩;conv=>whnf
    exact ⟨rfl,⟨(G3,(cn,cb,ce,cc)),Fz.t u1 (Fz.t u2 u3),hsc'⟩,leR [(8,8)] hH hT rfl ⟨tv,zar _ (.inr (by omega)),tv⟩ ⟨rfl,rfl,tv⟩ ⟨Fz.r G3,rfl,tv⟩⟩
  ·conv=>whnf
   refine ⟨Fz.r _,rfl,?_⟩;conv=>whnf
   conv=>whnf
   refine useFo (zbj F6 [84,111,32,32,66,101] 5) rfl (zaa _) rfl ?_
   rintro _ G1 u1 ⟨e1,rfl,he1⟩;conv=>whnf
   refine ⟨u1,rfl,?_⟩;conv=>whnf
   conv=>whnf
   refine useFo (zbj G1 [116,111,32,32,98,101] 5) rfl (zaa _) rfl ?_
   rintro _ G2 u2 ⟨e2,rfl,he2⟩;conv=>whnf
   refine ⟨u2,rfl,?_⟩;conv=>whnf
   conv=>whnf
   have v2:=Fz.t u1 u2
   have hmk:=mkA G2 (m6.mono v2) (r6.mono v2) _ e1 e2 (KpsAt.up K1 v2) (u2 _ _ he1) he2
   refine useFo hmk rfl (zaa _) rfl ?_
   rintro _ G3 u3 ⟨sc,rfl,hsc⟩
   have hsc':=hsc
   obtain ⟨cn,cb,ce,cc,cL,cr,rfl,-,-,-,-⟩:=hsc
   conv=>whnf
   refine ⟨u3,rfl,?_⟩;conv=>whnf
   refine ⟨Fz.r _,rfl,?_⟩;conv=>whnf
   exact ⟨rfl,⟨(G3,(cn,cb,ce,cc)),Fz.t u1 (Fz.t u2 u3),hsc'⟩,leR [(8,8)] hH hT rfl ⟨tv,zar _ (.inr (by omega)),tv⟩ ⟨rfl,rfl,tv⟩ ⟨Fz.r G3,rfl,tv⟩⟩
 case rest3=>
  rintro ⟨⟨G,an,ab,ae,ac⟩,w1,hA⟩
  replace w1:Fz.le F6 G:=w1
  replace hA:ClsAt G (.slice an 0 ab ae 2 Ac.length ac) Ac:=hA
  have mG:=m6.mono w1
  have rG:=r6.mono w1
  have K1':=KpsAt.up K1 w1
  have K2':=KpsAt.up K2 w1
  conv=>whnf
  refine cutJ (X:={ x:Fz // Fz.le G x }) G (fun x=>[(5,.va (.ptr ⟨9,0,0,0,0⟩)),(6,.va (.int .i64 100))]) [44,45,46,47,48,49,50] (fun x=>[(0,.frz x.1),(9,.one (.cells 48 zC))]) 10
   (fun hH hT=>leI [] hH hT rfl ⟨tv,tv⟩ trivial ⟨Fz.r G,tv⟩) (fun hH hT=>?draws4) ?rest4
  case draws4=>
   refine drawP hΘ mixed (.look 0 (.alt 1 (.alt 2 (.alt 3 (lk [4,5,6] (.alt 7 (.alt 8 (.look 9 .done) .nil) .nil)) (.alt 7 (.alt 3 (lk [4,5,6] (.alt 8 (.look 9 .done) .nil)) .nil) .nil)) (.alt 7 (.alt 2 (.alt 3 (lk [4,5,6] (.alt 8 (.look 9 .done) .nil)) .nil) .nil) .nil)) (.alt 7 (.alt 1 (.alt 2 (.alt 3 (lk [4,5,6] (.alt 8 (.look 9 .done) .nil)) .nil) .nil) .nil) .nil))) [3] (by kernel_rfl) ?_;conv=>whnf
   refine ⟨rfl,?_⟩;conv=>whnf
   refine ⟨?_,?_⟩
   ·conv=>whnf
    refine useFo (zbj G [84,111,32,32,66,101] 5) rfl (zaa _) rfl ?_
    rintro _ G1 u1 ⟨e1,rfl,he1⟩;conv=>whnf
    refine ⟨u1,rfl,?_⟩;conv=>whnf
    refine ⟨?_,?_⟩
    ·conv=>whnf
     refine useFo (zbj G1 [116,111,32,98,101] 5) rfl (zaa _) rfl ?_
     rintro _ G2 u2 ⟨e2,rfl,he2⟩;conv=>whnf
     refine ⟨u2,rfl,?_⟩;conv=>whnf
     refine ⟨?_,?_⟩
     ·conv=>whnf
      have v2:=Fz.t u1 u2
      have hmk:=mkF G2 (mG.mono v2) (rG.mono v2) _ e1 e2 (KpsAt.up K1' v2) (u2 _ _ he1) he2
      refine useFo hmk rfl (zaa _) rfl ?_
      rintro _ G3 u3 rfl;conv=>whnf
      refine ⟨u3,rfl,?_⟩;conv=>whnf
      conv=>whnf
      refine ⟨Fz.r _,rfl,?_⟩;conv=>whnf
      refine ⟨Fz.r _,rfl,?_⟩;conv=>whnf
      exact ⟨rfl,⟨G3,Fz.t u1 (Fz.t u2 u3)⟩,leR [(9,9)] hH hT rfl ⟨tv,zar ⟨[],[],0,[]⟩ (sk:=.nilsl) trivial,tv⟩ ⟨rfl,rfl,tv⟩ ⟨Fz.r G3,rfl,tv⟩⟩
     ·conv=>whnf
      refine ⟨Fz.r _,rfl,?_⟩;conv=>whnf
      conv=>whnf
      have v2:=Fz.t u1 u2
      have hmk:=mkF G2 (mG.mono v2) (rG.mono v2) _ e1 e2 (KpsAt.up K1' v2) (u2 _ _ he1) he2
      refine useFo hmk rfl (zaa _) rfl ?_
      rintro _ G3 u3 rfl;conv=>whnf
      refine ⟨u3,rfl,?_⟩;conv=>whnf
      refine ⟨Fz.r _,rfl,?_⟩;conv=>whnf
      exact ⟨rfl,⟨G3,Fz.t u1 (Fz.t u2 u3)⟩,leR [(9,9)] hH hT rfl ⟨tv,zar ⟨[],[],0,[]⟩ (sk:=.nilsl) trivial,tv⟩ ⟨rfl,rfl,tv⟩ ⟨Fz.r G3,rfl,tv⟩⟩
    ·conv=>whnf
     refine ⟨Fz.r _,rfl,?_⟩;conv=>whnf
     conv=>whnf
     refine useFo (zbj G1 [116,111,32,98,101] 5) rfl (zaa _) rfl ?_
     rintro _ G2 u2 ⟨e2,rfl,he2⟩;conv=>whnf
     refine ⟨u2,rfl,?_⟩;conv=>whnf
     conv=>whnf
     have v2:=Fz.t u1 u2
     have hmk:=mkF G2 (mG.mono v2) (rG.mono v2) _ e1 e2 (KpsAt.up K1' v2) (u2 _ _ he1) he2
     refine useFo hmk rfl (zaa _) rfl ?_
     rintro _ G3 u3 rfl;conv=>whnf
     refine ⟨u3,rfl,?_⟩;conv=>whnf
     refine ⟨Fz.r _,rfl,?_⟩;conv=>whnf
     exact ⟨rfl,⟨G3,Fz.t u1 (Fz.t u2 u3)⟩,leR [(9,9)] hH hT rfl ⟨tv,zar ⟨[],[],0,[]⟩ (sk:=.nilsl) trivial,tv⟩ ⟨rfl,rfl,tv⟩ ⟨Fz.r G3,rfl,tv⟩⟩
   ·conv=>whnf
    refine ⟨Fz.r _,rfl,?_⟩;conv=>whnf
    conv=>whnf
    refine useFo (zbj G [84,111,32,32,66,101] 5) rfl (zaa _) rfl ?_
    rintro _ G1 u1 ⟨e1,rfl,he1⟩;conv=>whnf
    refine ⟨u1,rfl,?_⟩;conv=>whnf
    conv=>whnf
    refine useFo (zbj G1 [116,111,32,98,101] 5) rfl (zaa _) rfl ?_
    rintro _ G2 u2 ⟨e2,rfl,he2⟩;conv=>whnf
    refine ⟨u2,rfl,?_⟩;conv=>whnf
    conv=>whnf
    have v2:=Fz.t u1 u2
    have hmk:=mkF G2 (mG.mono v2) (rG.mono v2) _ e1 e2 (KpsAt.up K1' v2) (u2 _ _ he1) he2
    refine useFo hmk rfl (zaa _) rfl ?_
    rintro _ G3 u3 rfl;conv=>whnf
    refine ⟨u3,rfl,?_⟩;conv=>whnf
    refine ⟨Fz.r _,rfl,?_⟩;conv=>whnf
    exact ⟨rfl,⟨G3,Fz.t u1 (Fz.t u2 u3)⟩,leR [(9,9)] hH hT rfl ⟨tv,zar ⟨[],[],0,[]⟩ (sk:=.nilsl) trivial,tv⟩ ⟨rfl,rfl,tv⟩ ⟨Fz.r G3,rfl,tv⟩⟩
  case rest4=>
   rintro ⟨H,w2⟩
   replace w2:Fz.le G H:=w2
   have mH:=mG.mono w2
   have rH:=rG.mono w2
   have K2'':=KpsAt.up K2' w2
   have hA2:=KpsAt.up hA w2
   conv=>whnf
   refine cutJ (X:={ x:Fz × (Bool × Nat × Nat × Nat) // Fz.le H x.1 ∧ ClsAt x.1 (.slice x.2.1 0 x.2.2.1 x.2.2.2.1 2 Bc.length x.2.2.2.2) Bc }) H (fun x=>[(7,.va (.ptr ⟨10,0,0,0,0⟩)),(8,.va (.int .i64 0))]) [51,52,53,54,55,56,57] (fun x=>[(0,.frz x.1.1),(10,.one (.cells 48 (crtS ⟨Bs,Bd,Bn,Bc⟩ (.slice x.1.2.1 0 x.1.2.2.1 x.1.2.2.2.1 2 Bc.length x.1.2.2.2.2))))]) 11
    (fun hH hT=>leI [] hH hT rfl ⟨tv,tv⟩ trivial ⟨Fz.r H,tv⟩) (fun hH hT=>?draws5) ?rest5
   case draws5=>
    refine drawP hΘ mixed (.look 0 (.alt 1 (.alt 2 (.alt 3 (lk [4,5,6] (.alt 7 (.alt 8 (.look 9 .done) .nil) .nil)) (.alt 7 (.alt 3 (lk [4,5,6] (.alt 8 (.look 9 .done) .nil)) .nil) .nil)) (.alt 7 (.alt 2 (.alt 3 (lk [4,5,6] (.alt 8 (.look 9 .done) .nil)) .nil) .nil) .nil)) (.alt 7 (.alt 1 (.alt 2 (.alt 3 (lk [4,5,6] (.alt 8 (.look 9 .done) .nil)) .nil) .nil) .nil) .nil))) [7] (by kernel_rfl) ?_;conv=>whnf
    refine ⟨rfl,?_⟩;conv=>whnf
    refine ⟨?_,?_⟩
    ·conv=>whnf
     refine useFo (zbj H [116,111,32,32,98,101] 5) rfl (zaa _) rfl ?_
     rintro _ G1 u1 ⟨e1,rfl,he1⟩;conv=>whnf
     refine ⟨u1,rfl,?_⟩;conv=>whnf
     refine ⟨?_,?_⟩
     ·conv=>whnf
      refine useFo (zbj G1 [116,111,32,98,101] 0) rfl (zaa _) rfl ?_
      rintro _ G2 u2 ⟨e2,rfl,he2⟩;conv=>whnf
      refine ⟨u2,rfl,?_⟩;conv=>whnf
      refine ⟨?_,?_⟩
      ·conv=>whnf
       have v2:=Fz.t u1 u2
       have hmk:=mkB G2 (mH.mono v2) (rH.mono v2) _ e1 e2 (KpsAt.up K2'' v2) (u2 _ _ he1) he2
       refine useFo hmk rfl (zaa _) rfl ?_
       rintro _ G3 u3 ⟨sc,rfl,hsc⟩
       have hsc':=hsc
       obtain ⟨cn,cb,ce,cc,cL,cr,rfl,-,-,-,-⟩:=hsc
       conv=>whnf
       refine ⟨u3,rfl,?_⟩;conv=>whnf
       conv=>whnf
       refine ⟨Fz.r _,rfl,?_⟩;conv=>whnf
       refine ⟨Fz.r _,rfl,?_⟩;conv=>whnf
       exact ⟨rfl,⟨(G3,(cn,cb,ce,cc)),Fz.t u1 (Fz.t u2 u3),hsc'⟩,leR [(10,10)] hH hT rfl ⟨tv,zar _ (.inr (by omega)),tv⟩ ⟨rfl,rfl,tv⟩ ⟨Fz.r G3,rfl,tv⟩⟩
      ·conv=>whnf
       refine ⟨Fz.r _,rfl,?_⟩;conv=>whnf
       conv=>whnf
       have v2:=Fz.t u1 u2
       have hmk:=mkB G2 (mH.mono v2) (rH.mono v2) _ e1 e2 (KpsAt.up K2'' v2) (u2 _ _ he1) he2
       refine useFo hmk rfl (zaa _) rfl ?_
       rintro _ G3 u3 ⟨sc,rfl,hsc⟩
       have hsc':=hsc
       obtain ⟨cn,cb,ce,cc,cL,cr,rfl,-,-,-,-⟩:=hsc
       conv=>whnf
       refine ⟨u3,rfl,?_⟩;conv=>whnf
       refine ⟨Fz.r _,rfl,?_⟩;conv=>whnf
       exact ⟨rfl,⟨(G3,(cn,cb,ce,cc)),Fz.t u1 (Fz.t u2 u3),hsc'⟩,leR [(10,10)] hH hT rfl ⟨tv,zar _ (.inr (by omega)),tv⟩ ⟨rfl,rfl,tv⟩ ⟨Fz.r G3,rfl,tv⟩⟩
     ·conv=>whnf
      refine ⟨Fz.r _,rfl,?_⟩;conv=>whnf
      conv=>whnf
      refine useFo (zbj G1 [116,111,32,98,101] 0) rfl (zaa _) rfl ?_
      rintro _ G2 u2 ⟨e2,rfl,he2⟩;conv=>whnf
      refine ⟨u2,rfl,?_⟩;conv=>whnf
      conv=>whnf
      have v2:=Fz.t u1 u2
      have hmk:=mkB G2 (mH.mono v2) (rH.mono v2) _ e1 e2 (KpsAt.up K2'' v2) (u2 _ _ he1) he2
      refine useFo hmk rfl (zaa _) rfl ?_
      rintro _ G3 u3 ⟨sc,rfl,hsc⟩
      have hsc':=hsc
      obtain ⟨cn,cb,ce,cc,cL,cr,rfl,-,-,-,-⟩:=hsc
      conv=>whnf
      refine ⟨u3,rfl,?_⟩;conv=>whnf
      refine ⟨Fz.r _,rfl,?_⟩;conv=>whnf
      exact ⟨rfl,⟨(G3,(cn,cb,ce,cc)),Fz.t u1 (Fz.t u2 u3),hsc'⟩,leR [(10,10)] hH hT rfl ⟨tv,zar _ (.inr (by omega)),tv⟩ ⟨rfl,rfl,tv⟩ ⟨Fz.r G3,rfl,tv⟩⟩
    ·conv=>whnf
     refine ⟨Fz.r _,rfl,?_⟩;conv=>whnf
     conv=>whnf
     refine useFo (zbj H [116,111,32,32,98,101] 5) rfl (zaa _) rfl ?_
     rintro _ G1 u1 ⟨e1,rfl,he1⟩;conv=>whnf
     refine ⟨u1,rfl,?_⟩;conv=>whnf
     conv=>whnf
     refine useFo (zbj G1 [116,111,32,98,101] 0) rfl (zaa _) rfl ?_
     rintro _ G2 u2 ⟨e2,rfl,he2⟩;conv=>whnf
     refine ⟨u2,rfl,?_⟩;conv=>whnf
     conv=>whnf
     have v2:=Fz.t u1 u2
     have hmk:=mkB G2 (mH.mono v2) (rH.mono v2) _ e1 e2 (KpsAt.up K2'' v2) (u2 _ _ he1) he2
     refine useFo hmk rfl (zaa _) rfl ?_
     rintro _ G3 u3 ⟨sc,rfl,hsc⟩
     have hsc':=hsc
     obtain ⟨cn,cb,ce,cc,cL,cr,rfl,-,-,-,-⟩:=hsc
     conv=>whnf
     refine ⟨u3,rfl,?_⟩;conv=>whnf
     refine ⟨Fz.r _,rfl,?_⟩;conv=>whnf
     exact ⟨rfl,⟨(G3,(cn,cb,ce,cc)),Fz.t u1 (Fz.t u2 u3),hsc'⟩,leR [(10,10)] hH hT rfl ⟨tv,zar _ (.inr (by omega)),tv⟩ ⟨rfl,rfl,tv⟩ ⟨Fz.r G3,rfl,tv⟩⟩
   case rest5=>
    rintro ⟨⟨J,bn,bb,be,bc⟩,w3,hB⟩
    replace w3:Fz.le H J:=w3
    replace hB:ClsAt J (.slice bn 0 bb be 2 Bc.length bc) Bc:=hB
    have mJ:=mH.mono w3
    have rJ:=rH.mono w3
    have hA3:=KpsAt.up hA2 w3
    conv=>whnf
    refine za0 11 (fun _=>.arr 48 4 [crtS ⟨As,Ad,1,Ac⟩ (.slice an 0 ab ae 2 Ac.length ac),crtS ⟨Bs,Bd,Bn,Bc⟩ (.slice bn 0 bb be 2 Bc.length bc)] 2) rfl rfl rfl (fun _ _=>rfl) (fun _ _=>SB.bB_ok rfl) ?_
    intro b1 J1 j1 hb1
    refine useFo (cX J1 (b1 0) _ _ (KpsAt.up hA3 j1) (KpsAt.up hB j1) (hb1 0 rfl)) rfl (zaa _) rfl ?_
    rintro _ J2 j2 ⟨xk,rfl,hX⟩
    have hX':=hX
    obtain ⟨xn,xb,xe,xc,xL,xr,rfl,x1,x2,x3,x4⟩:=hX
    conv=>whnf
    refine za0 13 (fun _=>.arr 48 4 [crtS ⟨Bs,Bd,Bn,Bc⟩ (.slice bn 0 bb be 2 Bc.length bc),crtS ⟨As,Ad,1,Ac⟩ (.slice an 0 ab ae 2 Ac.length ac)] 2) rfl rfl rfl (fun _ _=>rfl) (fun _ _=>SB.bB_ok rfl) ?_
    intro b2 J3 j3 hb2
    have a3:=Fz.t j1 (Fz.t j2 j3)
    refine useFo (cN J3 (b2 0) _ _ (KpsAt.up hA3 a3) (KpsAt.up hB a3) (hb2 0 rfl)) rfl (zaa _) rfl ?_
    rintro _ J4 j4 rfl;conv=>whnf
    refine useFo (z4k J4) rfl ⟨⟨rfl,rfl,rfl⟩,tv⟩ rfl ?_
    rintro _ J5 j5 rfl;conv=>whnf
    refine useFo (zbj J5 [84,111,32,32,66,101] 5) rfl (zaa _) rfl ?_
    rintro _ J6 j6 ⟨e1,rfl,he1⟩;conv=>whnf
    refine useFo (all1 J6 e1 he1) rfl (zaa _) rfl ?_
    rintro _ J7 j7 ⟨u1,v1,rfl,hu1⟩;conv=>whnf
    refine useFo (zbj J7 [116,111,32,98,101] 0) rfl (zaa _) rfl ?_
    rintro _ J8 j8 ⟨e3,rfl,he3⟩;conv=>whnf
    refine useFo (all3 J8 e3 he3) rfl (zaa _) rfl ?_
    rintro _ J9 j9 ⟨u3,v3,rfl,hu3⟩;conv=>whnf
    refine gae (by decide) ?_;conv=>whnf
    refine gae (by decide) ?_;conv=>whnf
    refine gae (by decide) ?_;conv=>whnf
    refine brd (by decide) ?_;conv=>whnf
    have w29:Fz.le J2 J9:=Fz.t j3 (Fz.t j4 (Fz.t j5 (Fz.t j6 (Fz.t j7 (Fz.t j8 j9)))))
    have hX9:=KpsAt.up hX' w29
    refine useFo (enc_ J9 _ hX9) rfl (zaa _) rfl ?_
    rintro _ Ja ja rfl;conv=>whnf
    refine useFo (dec Ja) rfl (zaa _) rfl ?_
    rintro _ Jb jb ⟨dk,rfl,hD⟩
    have hD':=hD
    obtain ⟨dn,db,de,dc,dL,dr,rfl,-,-,-,-⟩:=hD
    have hz0:=x4 0 _ rfl
    have hz1:=x4 1 _ rfl
    have hz7:=x4 7 _ rfl
    obtain ⟨y0,hy0,s0,rfl,hs0⟩:=hz0
    obtain ⟨y1,hy1,s1',rfl,hs1⟩:=hz1
    obtain ⟨y7,hy7,s7,rfl,hs7⟩:=hz7
    have hxn:xn = false:=SlR.lt x1 (show 0 < exCl.length by decide)
    have w2b:Fz.le J2 Jb:=Fz.t w29 (Fz.t ja jb)
    have q0:=hs0.mono w2b
    have q1:=hs1.mono w2b
    obtain ⟨hs0n,hs0b,hs0e,hs0c,hs0L,hs0r,rfl,hs01,hs02,hs03,hs04⟩:=hs0
    obtain ⟨hs1n,hs1b,hs1e,hs1c,hs1L,hs1r,rfl,hs11,hs12,hs13,hs14⟩:=hs1
    obtain ⟨hs7n,hs7b,hs7e,hs7c,hs7L,hs7r,rfl,hs71,hs72,hs73,hs74⟩:=hs7
    conv=>whnf
    refine ⟨hxn,by decide,?_⟩;conv=>whnf
    refine ⟨_,w2b _ _ (x2 hxn),?_⟩;conv=>whnf
    refine ⟨_,hy0,?_⟩;conv=>whnf
    refine za0 17 (fun _=>.arr 56 2 ([(1,0),(2,0)].map enc) 2) rfl rfl rfl (fun _ _=>rfl) (fun _ _=>SB.bB_ok rfl) ?_
    intro b3 Jc jc hb3
    refine usePu (sameT Jc _ _ [(1,0),(2,0)] (q0.mono jc) (Sl.new (l:=[(1,0),(2,0)]) (cap:=2) (hb3 0 rfl)) (by decide)) rfl (zaa _) rfl ?_;conv=>whnf
    refine ⟨hxn,by decide,?_⟩;conv=>whnf
    refine ⟨_,jc _ _ (w2b _ _ (x2 hxn)),?_⟩;conv=>whnf
    refine ⟨_,hy1,?_⟩;conv=>whnf
    refine za0 18 (fun _=>.arr 56 2 ([(6,0)].map enc) 1) rfl rfl rfl (fun _ _=>rfl) (fun _ _=>SB.bB_ok rfl) ?_
    intro b4 Jd jd hb4
    refine usePu (sameT Jd _ _ [(6,0)] ((q1.mono jc).mono jd) (Sl.new (l:=[(6,0)]) (cap:=1) (hb4 0 rfl)) (by decide)) rfl (zaa _) rfl ?_;conv=>whnf
    refine ⟨hxn,by decide,?_⟩;conv=>whnf
    refine ⟨_,jd _ _ (jc _ _ (w2b _ _ (x2 hxn))),?_⟩;conv=>whnf
    refine ⟨_,hy7,?_⟩;conv=>whnf
    repeat
     refine gae (by decide) ?_;conv=>whnf
    refine ⟨fun _=>?_,fun g=>absurd g (by show ¬ (decide ((1:Int) = 1) = false); decide)⟩;conv=>whnf
    refine ⟨fun _=>?_,fun g=>absurd g (by show ¬ (decide ((2:Int) = 2) = false); decide)⟩;conv=>whnf
    repeat
     refine gae (by decide) ?_;conv=>whnf
    have w6d:Fz.le J9 Jd:=Fz.t ja (Fz.t jb (Fz.t jc jd))
    have mJ9:Fz.le J J9:=Fz.t j1 (Fz.t j2 w29)
    have mD:=(mJ.mono mJ9).mono w6d
    have rD:=(rJ.mono mJ9).mono w6d
    have hXd:=KpsAt.up hX9 w6d
    have hu1d:=w6d _ _ (j9 _ _ (j8 _ _ hu1))
    have hu3d:=w6d _ _ hu3
    refine useFo (k1 Jd mD rD _ u1 v1 u3 v3 hXd hu1d hu3d) rfl (zaa _) rfl ?_
    rintro _ Je je ⟨rfl,-⟩;conv=>whnf
    refine useFo (k2 Je (mD.mono je) (rD.mono je) _ u1 v1 u3 v3 (KpsAt.up hXd je) (je _ _ hu1d) (je _ _ hu3d)) rfl (zaa _) rfl ?_
    rintro _ Jf jf ⟨rfl,-⟩;conv=>whnf
    repeat
     refine gae (by decide) ?_;conv=>whnf
    have wdf:=Fz.t je jf
    refine usePu (s1 Jf _ _ (KpsAt.up hXd wdf) (KpsAt.up hD' (Fz.t jc (Fz.t jd wdf)))) rfl (zaa _) rfl ?_;conv=>whnf
    repeat
     refine gae (by decide) ?_;conv=>whnf
    have mJf:=Fz.t mJ9 (Fz.t w6d wdf)
    refine usePu (s2 Jf _ _ (KpsAt.up hA3 mJf) (KpsAt.up hB mJf)) rfl (zaa _) rfl ?_;conv=>whnf
    repeat
     refine gae (by decide) ?_;conv=>whnf
    refine useFo (vX Jf _ (KpsAt.up hXd wdf)) rfl (zaa _) rfl ?_
    rintro _ Jg jg ⟨rfl,-⟩;conv=>whnf
    repeat
     refine gae (by decide) ?_;conv=>whnf
    refine zh3 (args':=[.agg zC']) zSwap (fun n _=>z6v n) ?_
    refine useFo (v0 Jg) rfl (zaa _) rfl ?_
    rintro _ Jh jh ⟨rfl,-⟩;conv=>whnf
    have l6h:Fz.le F6 Jh:=Fz.t w1 (Fz.t w2 (Fz.t w3 (Fz.t mJf (Fz.t jg jh))))
    exact endFo (.ret (.va (.bool true))) Jh rfl (Fz.t q6 l6h) (Fz.r Jh) ⟨rfl,tv⟩ rfl rfl
end Go.Proofs.YtfnkamphhpldcaaGreatDoor
