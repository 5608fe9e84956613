import Derived.Test.YtfnkamphhpldcaaGreatDoorK23
import Derived.Test.YtfnkamphhpldcaaGreatDoorK31
import Derived.Test.YtfnkamphhpldcaaGreatDoorK37
import Derived.Test.YtfnkamphhpldcaaGreatDoorK26
set_option maxHeartbeats 64000000
namespace Go.Proofs.YtfnkamphhpldcaaGreatDoor
open Go Sx Tryz
set_option maxRecDepth 100000
def force{β:Type}(n:Nat)(k:Nat->β):β:=match n with
 |0=>k 0
 |m+1=>k (m+1)
variable {β:Type}
theorem force_eq(n:Nat)(k:Nat->β):force n k=k n:=by cases n<;>rfl
def kI{β:Type}:List Nat->(List Nat->β)->β
 |[],k=>k []
 |x::r,k=>force x fun y=>kI r fun l=>k (y::l)
theorem oQ{β:Type}:∀(l:List Nat) (k:List Nat->β),kI l k=k l
 |[],_=>rfl
 |x::r,k=>by rw[kI,force_eq,oQ r]
def fW{β:Type}(v:W8)(k:W8->β):β:=force v.a fun a=>force v.b fun b=>force v.c fun c=>force v.d fun d=>force v.e fun e=>force v.f fun f=>force v.g fun g=>force v.h fun h=>k ⟨a,b,c,d,e,f,g,h⟩
theorem fW_eq(v:W8)(k:W8->β):fW v k=k v:=by simp only[fW,force_eq]
def nx16(a b c d:Nat):Nat:=(a+(mix b [7,18] 0^^^b / 8)+c+(mix d [17,19] 0^^^d / 1024)) % 4294967296
def np{β:Type}:List Nat->List Nat->W8->(W8->β)->β
 |[],_,v,k=>k v
 |c::r,w,v,k=>force (nx16 (at0 w 0) (at0 w 1) (at0 w 9) (at0 w 14)) fun x=>kI (w.drop 1++[x]) fun a=>fW (step8 c (at0 w 0) v) fun u=>np r a u k
theorem mq(p l:List Nat)(j:Nat):at0 (p++l) (p.length+j)=at0 l j:=by
 unfold at0;rw[jt (Nat.le_add_right _ _),qag]
theorem ybe(p w:List Nat)(d:w.length=16):nxt (p++w)=nx16 (at0 w 0) (at0 w 1) (at0 w 9) (at0 w 14):=by
 have h:(p++w).length=p.length+16:=by rw[qb,d]
 have h1:p.length+16 - 16=p.length+0:=by omega
 have a:p.length+16 - 15=p.length+1:=by omega
 have b:p.length+16 - 7=p.length+9:=by omega
 have c:p.length+16 - 2=p.length+14:=by omega
 rw[nxt,h,h1,a,b,c,mq,mq,mq,mq];rfl
theorem ma:∀(n:Nat) (w:List Nat),∃z,grow n w=w++z/\z.length=n
 |0,w=>⟨[],by simp[grow],rfl⟩
 |n+1,w=>by
  obtain⟨z,b,a⟩:=ma n (w++[nxt w]);exact⟨nxt w::z,by rw[grow,b];simp,by simp[a]⟩
theorem Af(k:W8->β):∀(b:List Nat) (n:Nat) (p w:List Nat) (v:W8),b.length<=n->w.length=16->
  np b w v k=k (eX (b.zip ((grow n (p++w)).drop p.length)) v):=by
 intro b
 induction b with
 |nil=>intro n p w v _ _;rfl
 |cons c r ih=>
  intro n p w v h d;cases n with
  |zero=>exact absurd h ss
  |succ n=>
   cases w with
   |nil=>cases d
   |cons a t=>
    have f:t.length=15:=by simpa using d
    have ih:=ih n (p++[a]) (t++[nxt (p++a::t)]) (step8 c a v) (by simpa using h) (by rw[qb,f];rfl);rw[np,force_eq,oQ,fW_eq,<-ybe p _ d];rw[show(a::t).drop 1=t from rfl,show at0 (a::t) 0=a from rfl,ih];have e:p++[a]++(t++[nxt (p++a::t)])=p++a::t++[nxt (p++a::t)]:=by simp
    rw[e,grow];obtain⟨z,g,-⟩:=ma n (p++a::t++[nxt (p++a::t)]);rw[g]
    have d1:(p++a::t++[nxt (p++a::t)]++z).drop p.length=a::(t++[nxt (p++a::t)]++z):=by
     rw[qj,qj,qbs];simp
    have d2:(p++a::t++[nxt (p++a::t)]++z).drop (p++[a]).length=t++[nxt (p++a::t)]++z:=by
     rw[<-e,qj (p++[a]),qbs]
    rw[d1,d2,qcb,eX,eX,qai]
theorem ycb(k a z:List Nat)(h:k.length<=a.length):k.zip (a++z)=k.zip a:=by
 induction k generalizing a with
 |nil=>rfl
 |cons x r ih=>cases a with
  |nil=>exact absurd h ss
  |cons y s=>rw[yd,qcb,qcb,ih s (by simpa using h)]
theorem vi:∀(m n:Nat) (w:List Nat),grow (m+n) w=grow n (grow m w)
 |0,n,w=>by rw[q9];rfl
 |m+1,n,w=>by rw[Nat.add_right_comm];exact vi m n _
def qP{β:Type}(b:List UInt8)(v:W8)(k:W8->β):β:=kI ((List.range 16).map (word b)) fun w=>np konst w v fun u=>fW (add8 v u) k
theorem EC(b:List UInt8)(v:W8)(k:W8->β):qP b v k=k (fC b v):=by
 rw[qP,oQ];have h:=Af (fun u=>fW (add8 v u) k) konst 64 [] ((List.range 16).map (word b)) v (nb rfl) rfl;refine h.trans ?_;rw[fW_eq,fC]
 have e:(konst.zip ((grow 64 ([]++(List.range 16).map (word b))).drop ([]:List Nat).length))=konst.zip (sched b):=by
  rw[qv,qu,y8,sched,show(64:Nat)=48+16 from rfl,vi];obtain⟨z,d,-⟩:=ma 16 (grow 48 ((List.range 16).map (word b)));rw[d];refine ycb _ _ _ ?_;obtain⟨y,c,a⟩:=ma 48 ((List.range 16).map (word b));rw[c,qb,a];exact nb rfl
 rw[e]
def mv{β:Type}:List Nat->List UInt8->W8->(W8->β)->β
 |[],_,v,k=>k v
 |i::r,p,v,k=>qP ((p.drop (64*i)).take 64) v fun u=>mv r p u k
theorem tB{β:Type}(p:List UInt8)(k:W8->β):∀(l:List Nat) (v:W8),mv l p v k=k (l.foldl (fun v k=>fC ((p.drop (64*k)).take 64) v) v)
 |[],_=>rfl
 |i::r,v=>by rw[mv,EC,tB p k r,qai]
def sumW(s:List UInt8):List UInt8:=mv (List.range ((padded s).length / 64)) (padded s) init8 eW
theorem rE(s:List UInt8):sumW s=sumS s:=by rw[sumW,tB];rfl
theorem leafV{s d:List UInt8}(h:sumW (0::s)=d):leafS s=d:=by rw[leafS,<-rE,h]
theorem nodeV{a b x y d:List UInt8}(c:a=x)(e:b=y)(h:sumW (1::(x++y))=d):nodeS a b=d:=by rw[nodeS,c,e,<-rE,h]
def valA:List (List UInt8):=[[2,12,84,111,32,32,66,101],[2,10],[0],[0],[0],[0,0],[0,0,0],[2,0]]
theorem gl0:leafS [2,12,84,111,32,32,66,101]=[238,43,26,1,207,144,68,193,115,18,112,4,215,143,46,111,177,187,153,33,44,0,1,222,88,185,117,180,10,41,136,53]:=leafV (by decide+kernel)
theorem gl1:leafS [2,10]=[211,168,146,147,135,137,144,118,180,0,248,134,99,149,60,40,227,223,96,46,78,218,94,137,173,237,112,221,10,152,83,107]:=leafV (by decide+kernel)
theorem gl2:leafS [0]=[150,162,150,210,36,242,133,198,123,238,147,195,15,138,48,145,87,240,218,163,93,197,184,126,65,11,120,99,10,9,207,199]:=leafV (by decide+kernel)
theorem gl3:leafS [0,0]=[112,158,128,200,132,135,162,65,30,30,228,223,185,242,42,134,20,146,210,12,71,101,21,12,12,121,74,189,112,248,20,124]:=leafV (by decide+kernel)
theorem gl4:leafS [0,0,0]=[223,63,97,152,4,169,47,219,64,87,25,45,196,61,215,72,234,119,138,220,82,188,73,140,232,5,36,192,20,184,17,25]:=leafV (by decide+kernel)
theorem gl5:leafS [2,0]=[219,188,112,37,232,158,185,177,236,158,142,44,122,45,182,134,157,187,80,251,162,27,243,116,200,101,41,220,49,28,237,233]:=leafV (by decide+kernel)
theorem gnA0:nodeS (leafS [2,12,84,111,32,32,66,101]) (leafS [2,10])=[116,129,84,203,128,152,161,250,41,172,209,118,108,42,66,180,165,165,154,122,167,31,35,29,237,223,246,32,172,226,30,157]:=nodeV (gl0) (gl1) (by decide+kernel)
theorem gnA1:nodeS (leafS [0]) (leafS [0])=[13,226,65,128,173,164,201,93,183,137,134,218,62,87,14,167,168,41,106,252,156,252,123,4,185,118,203,170,91,180,234,137]:=nodeV (gl2) (gl2) (by decide+kernel)
theorem gnA2:nodeS (leafS [0]) (leafS [0,0])=[123,80,130,78,116,212,98,75,241,11,125,227,213,139,216,133,49,214,80,228,55,94,69,79,228,185,104,93,12,73,204,149]:=nodeV (gl2) (gl3) (by decide+kernel)
theorem gnA3:nodeS (leafS [0,0,0]) (leafS [2,0])=[251,214,97,244,25,243,9,210,205,9,142,32,93,57,232,164,201,154,136,225,224,89,230,34,176,43,250,58,47,151,64,127]:=nodeV (gl4) (gl5) (by decide+kernel)
theorem gnA4:nodeS (nodeS (leafS [2,12,84,111,32,32,66,101]) (leafS [2,10])) (nodeS (leafS [0]) (leafS [0]))=[238,208,255,52,27,145,149,89,39,245,242,170,80,225,87,142,125,108,37,18,110,36,23,176,152,226,240,21,103,49,64,163]:=nodeV (gnA0) (gnA1) (by decide+kernel)
theorem gnA5:nodeS (nodeS (leafS [0]) (leafS [0,0])) (nodeS (leafS [0,0,0]) (leafS [2,0]))=[61,188,37,240,46,83,250,156,148,215,32,106,192,242,66,51,240,233,62,90,236,106,112,36,82,248,165,27,185,208,211,42]:=nodeV (gnA2) (gnA3) (by decide+kernel)
theorem gnA6:nodeS (nodeS (nodeS (leafS [2,12,84,111,32,32,66,101]) (leafS [2,10])) (nodeS (leafS [0]) (leafS [0]))) (nodeS (nodeS (leafS [0]) (leafS [0,0])) (nodeS (leafS [0,0,0]) (leafS [2,0])))=[171,174,167,58,167,81,185,43,48,224,96,218,29,211,146,128,64,184,139,96,77,17,46,118,111,240,82,54,231,197,36,76]:=nodeV (gnA4) (gnA5) (by decide+kernel)
theorem rootA:root8 valA=[171,174,167,58,167,81,185,43,48,224,96,218,29,211,146,128,64,184,139,96,77,17,46,118,111,240,82,54,231,197,36,76]:=gnA6
def valC:List (List UInt8):=[[2,10,116,111,32,98,101],[2,0],[0],[0],[0],[0,0],[0,0,0],[2,0]]
theorem gl6:leafS [2,10,116,111,32,98,101]=[181,74,11,201,27,109,77,171,99,210,222,104,68,96,9,243,161,211,126,175,131,90,161,233,7,198,238,32,108,6,140,164]:=leafV (by decide+kernel)
theorem gnC0:nodeS (leafS [2,10,116,111,32,98,101]) (leafS [2,0])=[189,227,190,161,253,59,247,175,172,237,225,62,75,50,84,1,115,35,95,217,101,220,82,217,148,100,23,193,204,128,124,44]:=nodeV (gl6) (gl5) (by decide+kernel)
theorem gnC1:nodeS (leafS [0]) (leafS [0])=[13,226,65,128,173,164,201,93,183,137,134,218,62,87,14,167,168,41,106,252,156,252,123,4,185,118,203,170,91,180,234,137]:=nodeV (gl2) (gl2) (by decide+kernel)
theorem gnC2:nodeS (leafS [0]) (leafS [0,0])=[123,80,130,78,116,212,98,75,241,11,125,227,213,139,216,133,49,214,80,228,55,94,69,79,228,185,104,93,12,73,204,149]:=nodeV (gl2) (gl3) (by decide+kernel)
theorem gnC3:nodeS (leafS [0,0,0]) (leafS [2,0])=[251,214,97,244,25,243,9,210,205,9,142,32,93,57,232,164,201,154,136,225,224,89,230,34,176,43,250,58,47,151,64,127]:=nodeV (gl4) (gl5) (by decide+kernel)
theorem gnC4:nodeS (nodeS (leafS [2,10,116,111,32,98,101]) (leafS [2,0])) (nodeS (leafS [0]) (leafS [0]))=[182,79,0,168,112,244,243,82,166,87,160,70,230,42,70,147,161,56,61,154,66,245,27,147,150,39,125,160,0,127,31,124]:=nodeV (gnC0) (gnC1) (by decide+kernel)
theorem gnC5:nodeS (nodeS (leafS [0]) (leafS [0,0])) (nodeS (leafS [0,0,0]) (leafS [2,0]))=[61,188,37,240,46,83,250,156,148,215,32,106,192,242,66,51,240,233,62,90,236,106,112,36,82,248,165,27,185,208,211,42]:=nodeV (gnC2) (gnC3) (by decide+kernel)
theorem gnC6:nodeS (nodeS (nodeS (leafS [2,10,116,111,32,98,101]) (leafS [2,0])) (nodeS (leafS [0]) (leafS [0]))) (nodeS (nodeS (leafS [0]) (leafS [0,0])) (nodeS (leafS [0,0,0]) (leafS [2,0])))=[87,88,40,225,107,207,196,38,61,10,33,79,30,124,109,124,220,103,169,15,91,32,254,125,139,13,94,204,226,91,176,220]:=nodeV (gnC4) (gnC5) (by decide+kernel)
theorem rootC:root8 valC=[87,88,40,225,107,207,196,38,61,10,33,79,30,124,109,124,220,103,169,15,91,32,254,125,139,13,94,204,226,91,176,220]:=gnC6
theorem xE:root8 valC≠root8 valA:=by rw[rootA,rootC];decide
def d1:Dc:=exD [84,111,32,32,66,101] 5
def d2:Dc:=exD [116,111,32,32,98,101] 5
def d3:Dc:=exD [116,111,32,98,101] 0
def d4:Dc:=exD [116,111,32,98,101] 5
def mg1:Mig:=⟨1,1,2,false,[(1,[(1,0)])]⟩
def mg2:Mig:=⟨2,2,3,false,[(1,[(2,0)]),(2,[(6,0)])]⟩
theorem lG(m:Mig)(d e:Dc):ep m d e=(migOk m&&(docOk d&&(docOk e&&(clOk (bR m.keep) 1&&(bR m.keep).all (chkAt (allB d) (allB e)))))):=by
 have h1:decide ((root8 (allB d)).length=32)=true:=decide_eq_true (lw _);have a:decide ((root8 (allB e)).length=32)=true:=decide_eq_true (lw _);have b:decide ((bR m.keep).length=8)=true:=decide_eq_true (gw _);have c:decide ((allB d).length=8)=true:=decide_eq_true (eH _);have f:decide ((allB e).length=8)=true:=decide_eq_true (eH _)
 have g:crtOk (makeC m d e)=clOk (bR m.keep) 1:=by
  show(decide ((root8 (allB d)).length=32)&&(decide ((root8 (allB e)).length=32)&&(decide (1<=(1:Int))&&(decide ((1:Int)<=64)&&(decide ((bR m.keep).length=8)&&clOk (bR m.keep) 1)))))=_;rw[h1,a,b];rfl
 have h:cH (makeC m d e) (allB d) (allB e)=(clOk (bR m.keep) 1&&(bR m.keep).all (chkAt (allB d) (allB e))):=by
  rw[cH,g,c,f];show(_&&(true&&(decide (root8 (allB d)=root8 (allB d))&&(decide (root8 (allB e)=root8 (allB e))&&(bR m.keep).all (chkAt (allB d) (allB e))))))=_;rw[decide_eq_true rfl,decide_eq_true rfl];simp
 rw[ep,h]
theorem mk1:ep mg1 d1 d2=true:=by rw[lG];decide+kernel
theorem mk2:ep mg1 d1 d4=false:=by rw[lG];decide+kernel
theorem mk3:ep mg2 d2 d3=true:=by rw[lG];decide+kernel
theorem all1:allB d1=valA:=by decide+kernel
theorem all3:allB d3=valC:=by decide+kernel
theorem doc1:docOk d1=true:=by decide+kernel
theorem doc3:docOk d3=true:=by decide+kernel
def cA:Crt:=makeC mg1 d1 d2
def cB:Crt:=makeC mg2 d2 d3
theorem nu{m:Mig}{d e:Dc}(h:ep m d e=true):crtOk (makeC m d e)=true:=by
 simp only[ep,qd,cH]at h;exact h.2.2.2.1
theorem okA:crtOk cA=true:=nu mk1
theorem okB:crtOk cB=true:=nu mk3
def cX:Crt:=⟨root8 (allB d1),root8 (allB d3),2,exCl⟩
theorem ydc:joinC cA cB=cX:=by
 have h:List.zipWith fo (bR mg1.keep) (bR mg2.keep)=exCl:=by decide+kernel
 show Crt.mk (root8 (allB d1)) (root8 (allB d3)) 2 (List.zipWith fo (bR mg1.keep) (bR mg2.keep))=_;rw[h];rfl
theorem comp1:ey [cA,cB]=some cX:=by
 have c:dC cA cB=true:=by
  have a:crtOk cB=true:=nu mk3;have b:decide (cA.dst=cB.src)=true:=decide_eq_true rfl;rw[dC,b,a];rfl
 rw[ey,if_pos okA,foldS,if_pos c,foldS,ydc]
theorem comp2:ey [cB,cA]=none:=by
 have b:dC cB cA=false:=by
  have a:decide (cB.dst=cA.src)=false:=decide_eq_false (by
   show root8 (allB d3)≠root8 (allB d1);rw[all1,all3];exact xE)
  rw[dC,a];rfl
 rw[ey,if_pos okB,foldS,if_neg (by rw[b];simp)]
theorem cX_ok:crtOk cX=true:=by
 show(decide ((root8 (allB d1)).length=32)&&(decide ((root8 (allB d3)).length=32)&&(decide (1<=(2:Int))&&(decide ((2:Int)<=64)&&(decide (exCl.length=8)&&clOk exCl 1)))))=_;rw[decide_eq_true (lw _),decide_eq_true (lw _)];decide+kernel
theorem chk1:cH cX (allB d1) (allB d3)=true:=by
 have h:exCl.all (chkAt (allB d1) (allB d3))=true:=by decide+kernel
 rw[cH,cX_ok,decide_eq_true (eH _),decide_eq_true (eH _)];show(true&&((true&&true)&&(decide (root8 (allB d1)=root8 (allB d1))&&(decide (root8 (allB d3)=root8 (allB d3))&&exCl.all (chkAt (allB d1) (allB d3))))))=true;rw[decide_eq_true rfl,decide_eq_true rfl,h];rfl
theorem chk2:cH cX (allB d3) (allB d1)=false:=by
 have h:decide (root8 (allB d3)=root8 (allB d1))=false:=decide_eq_false (by rw[all1,all3];exact xE);rw[cH];show(_&&(_&&(decide (root8 (allB d3)=root8 (allB d1))&&_)))=false;rw[h];simp
theorem sameX:gW cX cX=true:=by simp[gW]
theorem ydt:gW cA cB=false:=by
 have h:decide (bR mg1.keep=bR mg2.keep)=false:=by decide+kernel
 show(_&&(_&&(_&&decide (bR mg1.keep=bR mg2.keep))))=false;rw[h];simp
end Go.Proofs.YtfnkamphhpldcaaGreatDoor
namespace Sx
open Go
def LJ0(a:St)(jl:List Nat)(F:Fz):St:=⟨[]::junks jl::a.t,[(0,.frz F)]::a.h,a.nx,a.n0,a.nt,a.d⟩
theorem cutJ{P:Program}{c:Code}{a:St}{Q:SE->St->Prop}{X:Type}(b:Fz)(upd:X->List (Nat×SV))(jl:List Nat)(hup:X->List (Nat×Ent))(N:Nat)
  (i:WfH a.h a.nx->WfT a.t a.nx->Le a (LJ0 a jl b))
  (h1:WfH a.h a.nx->WfT a.t a.nx->WP P c (LJ0 a jl b) (fun e d=>e=.normal/\∃x,Le d (LI a upd jl hup N x)))
  (j:∀x,Q .normal (LI a upd jl hup N x)):WP P c a Q:=
 yce (LJ0 a jl b) (LI a upd jl hup N) (fun f g=>⟨i f g,h1 f g⟩) j
end Sx
namespace Go.Proofs.YtfnkamphhpldcaaGreatDoor
open Go Sx Tryz
set_option maxRecDepth 100000
abbrev dS(b:Nat):List SA:=docS (.slice false 0 b 0 2 1 1) (.slice true 0 0 0 6 0 0) 0 []
abbrev LnAt(F:Fz)(b:Nat)(t:List UInt8)(m:Int):Prop:=F b=some (.arr 148 2 ([(t,m)].map encN) 1)
theorem ydi(F:Fz)(g:MLF F)(i:RNDF F)(sk:SA)(b c:Nat)(j:KpsAt F sk mg1.keep)(h1:LnAt F b [84,111,32,32,66,101] 5)(f:LnAt F c [116,111,32,32,98,101] 5):
  Fo prog F 21 [.agg (migS mg1 sk),.agg (dS b),.agg (dS c)] (fun o a=>∃e,o=.ret (.tup [.agg (crtS cA e),.va (.int .i64 0)])/\ClsAt a e cA.cl):=
 cK (mj F g i sk _ _ _ _ mg1 d1 d2 j (by intro x d;simp[mg1]at d;subst d;decide) dd (exAt h1) (exAt f) (gH _ _) (gH _ _)) fun o a h=>by
  rcases h with⟨h,_⟩ | ⟨_,h⟩
  ·exact absurd (h.symm.trans mk1) ss
  ·exact h
theorem ydk(F:Fz)(f:MLF F)(g:RNDF F)(sk:SA)(a b:Nat)(i:KpsAt F sk mg1.keep)(h1:LnAt F a [84,111,32,32,66,101] 5)(e:LnAt F b [116,111,32,98,101] 5):
  Fo prog F 21 [.agg (migS mg1 sk),.agg (dS a),.agg (dS b)] (fun o _=>o=.ret (.tup [.agg [.str [],.str [],.int .i64 0,.nilsl],.va (.int .i64 100)])):=
 cK (mj F f g sk _ _ _ _ mg1 d1 d4 i (by intro x c;simp[mg1]at c;subst c;decide) dd (exAt h1) (exAt e) (gH _ _) (gH _ _)) fun o d h=>by
  rcases h with⟨_,h⟩ | ⟨h,_⟩
  ·exact h
  ·exact absurd (h.symm.trans mk2) ss
theorem ydj(F:Fz)(g:MLF F)(i:RNDF F)(sk:SA)(b c:Nat)(j:KpsAt F sk mg2.keep)(h1:LnAt F b [116,111,32,32,98,101] 5)(f:LnAt F c [116,111,32,98,101] 0):
  Fo prog F 21 [.agg (migS mg2 sk),.agg (dS b),.agg (dS c)] (fun o a=>∃e,o=.ret (.tup [.agg (crtS cB e),.va (.int .i64 0)])/\ClsAt a e cB.cl):=
 cK (mj F g i sk _ _ _ _ mg2 d2 d3 j (by intro x d;simp[mg2]at d;rcases d with rfl | rfl<;>decide) dd (exAt h1) (exAt f) (gH _ _) (gH _ _)) fun o a h=>by
  rcases h with⟨h,_⟩ | ⟨_,h⟩
  ·exact absurd (h.symm.trans mk3) ss
  ·exact h
theorem sameT(F:Fz)(b c:SA)(a:List Stp)(e:aW F b a)(f:aW F c a)(g:a.length < 1000000):Fo prog F 46 [.va b,.va c] (fun o d=>o=.ret (.va (.lit true))/\d=F):=by
 have h1:=rx F b c a a e f g;rw[decide_eq_true rfl]at h1;exact fk h1
abbrev zC:List SA:=[.str [],.str [],.int .i64 0,.nilsl]
abbrev zC':List SA:=[.str [],.str [],.int .i64 0,.slice true 0 0 0 2 0 0]
theorem zSwap(ρ:Rho)(vs:List Value)(h:relL ρ [.agg zC] vs):relL ρ [.agg zC'] vs:=by
 match vs,h with
 |[],h=>exact h.elim
 |[v],h=>exact h
 |_::_::_,h=>exact h
theorem yd9(n:Nat):∀s∈[SV.agg zC'],s.below n:=fun s c=>by
 simp only[qs]at c;subst c;intro a b;simp only[qh,qq,or_false]at b;rcases b with rfl | rfl | rfl | rfl
 ·trivial
 ·trivial
 ·trivial
 ·exact .inl rfl
theorem pf:short cA.cl:=kW (by intro x a;simp[mg1]at a;subst a;decide)
theorem wv:short cB.cl:=kW (by intro x a;simp[mg2]at a;rcases a with rfl | rfl<;>decide)
theorem km:short cX.cl:=fun x a=>by have:=D7 x a;omega
theorem crts2{F:Fz}{b:Nat}{c d:Crt}{e f:SA}(h1:ClsAt F e c.cl)(g:ClsAt F f d.cl)(h:F b=some (.arr 48 4 [crtS c e,crtS d f] 2)):mX F (.slice false 0 b 0 4 2 2) [c,d]:=
 SlR.new (l:=[c,d]) h rfl fun k x a=>by
  match k,a with
  |0,a=>cases a;exact⟨_,rfl,e,rfl,h1⟩
  |1,a=>cases a;exact⟨_,rfl,f,rfl,g⟩
  |k+2,a=>cases a
theorem mI{p:Crt->Prop}{a b:Crt}(h1:p a)(e:p b):∀c∈[a,b],p c:=by
 intro c d;simp only[qh,qq,or_false]at d;rcases d with rfl | rfl
 ·exact h1
 ·exact e
theorem qQ:cA.cl.length < 1000000:=yt (qcx (gw mg1.keep)) dd
theorem rU:cB.cl.length < 1000000:=yt (qcx (gw mg2.keep)) dd
theorem Cs(F:Fz)(b:Nat)(d e:SA)(i:ClsAt F d cA.cl)(j:ClsAt F e cB.cl)(k:F b=some (.arr 48 4 [crtS cA d,crtS cB e] 2)):
  Fo prog F 30 [.va (.slice false 0 b 0 4 2 2)] (fun o a=>∃sk,o=.ret (.tup [.agg (crtS cX sk),.va (.int .i64 0)])/\ClsAt a sk cX.cl):=
 cK (ot F false b 0 2 [cA,cB] (crts2 i j k) (qi 2) (mI pf wv) (mI qQ rU) (by show 2 < 1000000;decide)) fun o a h=>by
  rcases h with⟨h,_⟩ | ⟨c,h,f⟩
  ·exact absurd (h.symm.trans comp1) ss
  ·have g:c=cX:=by have:=h.symm.trans comp1;exact Option.some.inj this
   subst g;exact f
theorem Cr(F:Fz)(b:Nat)(a d:SA)(f:ClsAt F a cA.cl)(g:ClsAt F d cB.cl)(i:F b=some (.arr 48 4 [crtS cB d,crtS cA a] 2)):
  Fo prog F 30 [.va (.slice false 0 b 0 4 2 2)] (fun o _=>o=.ret (.tup [.agg [.str [],.str [],.int .i64 0,.nilsl],.va (.int .i64 100)])):=
 cK (ot F false b 0 2 [cB,cA] (crts2 g f i) (qi 2) (mI wv pf) (mI rU qQ) (by show 2 < 1000000;decide)) fun o e h=>by
  rcases h with⟨_,h⟩ | ⟨c,h,_⟩
  ·exact h
  ·exact absurd (h.symm.trans comp2) ss
theorem Cq(F:Fz):Fo prog F 30 [.va (.slice true 0 0 0 4 0 0)] (fun o _=>o=.ret (.tup [.agg [.str [],.str [],.int .i64 0,.nilsl],.va (.int .i64 100)])):=
 cK (ot F true 0 0 0 [] SlR.nil dd ss ss dd) fun o a h=>by
  rcases h with⟨_,h⟩ | ⟨c,h,_⟩
  ·exact h
  ·cases h
theorem xY(F:Fz)(b:Nat)(t:List UInt8)(m:Int)(h:LnAt F b t m)(d:docOk (exD t m)=true):Fo prog F 14 [.agg (dS b)] (fun o a=>∃b c,o=.ret (.tup [.va (.slice false 0 b 0 1 8 c),.va (.int .i64 0)])/\a b=some (.arr 9 1 ((allB (exD t m)).map encS) c)):=
 cK (pH F _ _ (exD t m) (exAt h) (gH _ _)) fun o a h=>by
  rcases h with⟨h,_⟩ | ⟨_,h⟩
  ·exact absurd (h.symm.trans d) ss
  ·exact h
structure Ex(A B:Crt)(xs xd:List UInt8)(vA vC:List (List UInt8))(E:List UInt8):Prop where
 al:A.len=1
 mkA:∀F,MLF F->RNDF F->∀sk b1 b2,KpsAt F sk mg1.keep->LnAt F b1 [84,111,32,32,66,101] 5->LnAt F b2 [116,111,32,32,98,101] 5->Fo prog F 21 [.agg (migS mg1 sk),.agg (dS b1),.agg (dS b2)] (fun o F'=>∃sc,o=.ret (.tup [.agg (crtS A sc),.va (.int .i64 0)])/\ClsAt F' sc A.cl)
 mkF:∀F,MLF F->RNDF F->∀sk b1 b2,KpsAt F sk mg1.keep->LnAt F b1 [84,111,32,32,66,101] 5->LnAt F b2 [116,111,32,98,101] 5->Fo prog F 21 [.agg (migS mg1 sk),.agg (dS b1),.agg (dS b2)] (fun o _=>o=.ret (.tup [.agg zC,.va (.int .i64 100)]))
 mkB:∀F,MLF F->RNDF F->∀sk b1 b2,KpsAt F sk mg2.keep->LnAt F b1 [116,111,32,32,98,101] 5->LnAt F b2 [116,111,32,98,101] 0->Fo prog F 21 [.agg (migS mg2 sk),.agg (dS b1),.agg (dS b2)] (fun o F'=>∃sc,o=.ret (.tup [.agg (crtS B sc),.va (.int .i64 0)])/\ClsAt F' sc B.cl)
 cX:∀F b sa sb,ClsAt F sa A.cl->ClsAt F sb B.cl->F b=some (.arr 48 4 [crtS A sa,crtS B sb] 2)->Fo prog F 30 [.va (.slice false 0 b 0 4 2 2)] (fun o F'=>∃sk,o=.ret (.tup [.agg (crtS ⟨xs,xd,2,exCl⟩ sk),.va (.int .i64 0)])/\ClsAt F' sk exCl)
 cN:∀F b sa sb,ClsAt F sa A.cl->ClsAt F sb B.cl->F b=some (.arr 48 4 [crtS B sb,crtS A sa] 2)->Fo prog F 30 [.va (.slice false 0 b 0 4 2 2)] (fun o _=>o=.ret (.tup [.agg zC,.va (.int .i64 100)]))
 all1:∀F b,LnAt F b [84,111,32,32,66,101] 5->Fo prog F 14 [.agg (dS b)] (fun o F'=>∃b c,o=.ret (.tup [.va (.slice false 0 b 0 1 8 c),.va (.int .i64 0)])/\F' b=some (.arr 9 1 (vA.map encS) c))
 all3:∀F b,LnAt F b [116,111,32,98,101] 0->Fo prog F 14 [.agg (dS b)] (fun o F'=>∃b c,o=.ret (.tup [.va (.slice false 0 b 0 1 8 c),.va (.int .i64 0)])/\F' b=some (.arr 9 1 (vC.map encS) c))
 enc:∀F sk,ClsAt F sk exCl->Fo prog F 34 [.agg (crtS ⟨xs,xd,2,exCl⟩ sk)] (fun o _=>o=.ret (.tup [.va (.str E),.va (.int .i64 0)]))
 dec:∀F,Fo prog F 36 [.va (.str E)] (fun o F'=>∃sk,o=.ret (.tup [.agg (crtS ⟨xs,xd,2,exCl⟩ sk),.va (.int .i64 0)])/\ClsAt F' sk exCl)
 k1:∀F,MLF F->RNDF F->∀sk b1 c1 b3 c3,ClsAt F sk exCl->F b1=some (.arr 9 1 (vA.map encS) c1)->F b3=some (.arr 9 1 (vC.map encS) c3)->Fo prog F 22 [.agg (crtS ⟨xs,xd,2,exCl⟩ sk),.va (.slice false 0 b1 0 1 8 c1),.va (.slice false 0 b3 0 1 8 c3)] (fun o _=>o=.ret (.va (.lit true))/\True)
 k2:∀F,MLF F->RNDF F->∀sk b1 c1 b3 c3,ClsAt F sk exCl->F b1=some (.arr 9 1 (vA.map encS) c1)->F b3=some (.arr 9 1 (vC.map encS) c3)->Fo prog F 22 [.agg (crtS ⟨xs,xd,2,exCl⟩ sk),.va (.slice false 0 b3 0 1 8 c3),.va (.slice false 0 b1 0 1 8 c1)] (fun o _=>o=.ret (.va (.lit false))/\True)
 s1:∀F s t,ClsAt F s exCl->ClsAt F t exCl->Fo prog F 27 [.agg (crtS ⟨xs,xd,2,exCl⟩ s),.agg (crtS ⟨xs,xd,2,exCl⟩ t)] (fun o F'=>o=.ret (.va (.lit true))/\F'=F)
 s2:∀F s t,ClsAt F s A.cl->ClsAt F t B.cl->Fo prog F 27 [.agg (crtS A s),.agg (crtS B t)] (fun o F'=>o=.ret (.va (.lit false))/\F'=F)
 vX:∀F s,ClsAt F s exCl->Fo prog F 25 [.agg (crtS ⟨xs,xd,2,exCl⟩ s)] (fun o _=>o=.ret (.va (.lit true))/\True)
 v0:∀F,Fo prog F 25 [.agg [.str [],.str [],.int .i64 0,.slice true 0 0 0 2 0 0]] (fun o _=>o=.ret (.va (.lit false))/\True)
theorem Dp(A B:Crt)(xs xd:List UInt8)(vA vC:List (List UInt8))(E:List UInt8)(ex:Ex A B xs xd vA vC E)(F0:Fz)(m0:MLF F0)(r0:RNDF F0):Fo prog F0 12 [] (fun o _=>o=.ret (.va (.bool true))/\True):=by
 obtain⟨S,bf,bg,mkB,cX,cN,all1,all3,ad,aq,k1,k2,s1,s2,vX,v0⟩:=ex;obtain⟨As,Ad,An,y⟩:=A;obtain⟨Bs,Bd,Bn,D⟩:=B;replace S:An=1:=S;subst S;refine foS func12 ?_;refine di 1 (fun _=>.arr 56 2 ([(1,0)].map enc) 1) ?_;intro p1 F1 l1 ag;refine di 4 (fun _=>.arr 56 2 ([(2,0)].map enc) 1) ?_;intro p4 F4 l4 ai;refine di 5 (fun _=>.arr 56 2 ([(6,0)].map enc) 1) ?_;intro p5 F5 l5 aj;refine di 2 (fun _=>.arr 96 2 [[.int .i64 1,.slice false 0 (p1 0) 0 2 1 1]] 1) ?_;intro p2 F2 l2 ah;refine di 6 (fun _=>.arr 96 2 [[.int .i64 1,.slice false 0 (p4 0) 0 2 1 1],[.int .i64 2,.slice false 0 (p5 0) 0 2 1 1]] 2) ?_;intro p6 I l6 ak
 have K1:KpsAt I (.slice false 0 (p2 0) 0 2 1 1) mg1.keep:=SlR.new (l:=mg1.keep) (l6 _ _ (ah 0 rfl)) rfl fun k x d=>by
  match k,d with
  |0,d=>cases d;exact⟨_,rfl,_,rfl,Sl.new (l:=[(1,0)]) (l6 _ _ (l2 _ _ (l5 _ _ (l4 _ _ (ag 0 rfl)))))⟩
  |k+1,d=>cases d
 have K2:KpsAt I (.slice false 0 (p6 0) 0 2 2 2) mg2.keep:=SlR.new (l:=mg2.keep) (ak 0 rfl) rfl fun k x d=>by
  match k,d with
  |0,d=>cases d;exact⟨_,rfl,_,rfl,Sl.new (l:=[(2,0)]) (l6 _ _ (l2 _ _ (l5 _ _ (ai 0 rfl))))⟩
  |1,d=>cases d;exact⟨_,rfl,_,rfl,Sl.new (l:=[(6,0)]) (l6 _ _ (l2 _ _ (aj 0 rfl)))⟩
  |k+2,d=>cases d
 have q6:Fz.le F0 I:=Fz.t l1 (Fz.t l4 (Fz.t l5 (Fz.t l2 l6)));have m6:=m0.mono q6;have r6:=r0.mono q6;clear ag ai aj ah ak l1 l4 l5 l2 l6
 refine cutJ (X:={ x:Fz×(Bool×Nat×Nat×Nat) // Fz.le I x.1/\ClsAt x.1 (.slice x.2.1 0 x.2.2.1 x.2.2.2.1 2 y.length x.2.2.2.2) y }) I (fun x=>[(3,.va (.ptr ⟨8,0,0,0,0⟩)),(4,.va (.int .i64 0))]) [37,38,39,40,41,42,43] (fun x=>[(0,.frz x.1.1),(8,.one (.cells 48 (crtS ⟨As,Ad,1,y⟩ (.slice x.1.2.1 0 x.1.2.2.1 x.1.2.2.2.1 2 y.length x.1.2.2.2.2))))]) 9
  (fun h i=>leI [] h i rfl ⟨tv,tv⟩ trivial ⟨Fz.r I,tv⟩) (fun h i=>?draws3) ?rest3
 case draws3=>
  refine dwS (.look 0 (.alt 1 (.alt 2 (.alt 3 (lk [4,5,6] (.alt 7 (.alt 8 (.look 9 .done) .nil) .nil)) (.alt 7 (.alt 3 (lk [4,5,6] (.alt 8 (.look 9 .done) .nil)) .nil) .nil)) (.alt 7 (.alt 2 (.alt 3 (lk [4,5,6] (.alt 8 (.look 9 .done) .nil)) .nil) .nil) .nil)) (.alt 7 (.alt 1 (.alt 2 (.alt 3 (lk [4,5,6] (.alt 8 (.look 9 .done) .nil)) .nil) .nil) .nil) .nil))) [3] ?_;refine⟨rfl,?_,?_⟩
  all_goals
   conv=>whnf
   first | (refine⟨Fz.r _,rfl,?_⟩;(conv=>whnf)) | skip
   refine useFs (fK I [84,111,32,32,66,101] 5) ?_;rintro _ G1 b ⟨R,rfl,a⟩;refine⟨b,rfl,?_⟩;conv=>whnf
   first | refine⟨?_,?_⟩ | skip
  all_goals
   conv=>whnf
   first | (refine⟨Fz.r _,rfl,?_⟩;(conv=>whnf)) | skip
   refine useFs (fK G1 [116,111,32,32,98,101] 5) ?_;rintro _ G2 c ⟨e2,rfl,j⟩;refine⟨c,rfl,?_⟩;conv=>whnf
   first | refine⟨?_,?_⟩ | skip
  all_goals
   conv=>whnf
   first | (refine⟨Fz.r _,rfl,?_⟩;(conv=>whnf)) | skip
   have u:=Fz.t b c;have m:=bf G2 (m6.mono u) (r6.mono u) _ R e2 (KpsAt.up K1 u) (c _ _ a) j;refine useFs m ?_;rintro _ M s ⟨sc,rfl,p⟩;have q:=p;obtain⟨cn,cb,ce,cc,cL,cr,rfl,-,-,-,-⟩:=p;refine⟨s,rfl,?_⟩
   repeat((conv=>whnf);refine⟨Fz.r _,rfl,?_⟩)
   exact⟨rfl,⟨(M,(cn,cb,ce,cc)),Fz.t b (Fz.t c s),q⟩,leR [(8,8)] h i rfl ⟨tv,cR _ (.inr oo),tv⟩ ⟨rfl,rfl,tv⟩ ⟨Fz.r M,rfl,tv⟩⟩
 case rest3=>
  rintro⟨⟨G,an,ab,ae,ac⟩,W,hA⟩;replace W:Fz.le I G:=W;replace hA:ClsAt G (.slice an 0 ab ae 2 y.length ac) y:=hA;have mG:=m6.mono W;have rG:=r6.mono W;have ao:=KpsAt.up K1 W;have ap:=KpsAt.up K2 W
  conv=>whnf
  refine cutJ (X:={ x:Fz // Fz.le G x }) G (fun x=>[(5,.va (.ptr ⟨9,0,0,0,0⟩)),(6,.va (.int .i64 100))]) [44,45,46,47,48,49,50] (fun x=>[(0,.frz x.1),(9,.one (.cells 48 zC))]) 10
   (fun h i=>leI [] h i rfl ⟨tv,tv⟩ trivial ⟨Fz.r G,tv⟩) (fun h i=>?draws4) ?rest4
  case draws4=>
   refine dwS (.look 0 (.alt 1 (.alt 2 (.alt 3 (lk [4,5,6] (.alt 7 (.alt 8 (.look 9 .done) .nil) .nil)) (.alt 7 (.alt 3 (lk [4,5,6] (.alt 8 (.look 9 .done) .nil)) .nil) .nil)) (.alt 7 (.alt 2 (.alt 3 (lk [4,5,6] (.alt 8 (.look 9 .done) .nil)) .nil) .nil) .nil)) (.alt 7 (.alt 1 (.alt 2 (.alt 3 (lk [4,5,6] (.alt 8 (.look 9 .done) .nil)) .nil) .nil) .nil) .nil))) [3] ?_;refine⟨rfl,?_,?_⟩
   all_goals
    conv=>whnf
    first | (refine⟨Fz.r _,rfl,?_⟩;(conv=>whnf)) | skip
    refine useFs (fK G [84,111,32,32,66,101] 5) ?_;rintro _ G1 b ⟨R,rfl,a⟩;refine⟨b,rfl,?_⟩;conv=>whnf
    first | refine⟨?_,?_⟩ | skip
   all_goals
    conv=>whnf
    first | (refine⟨Fz.r _,rfl,?_⟩;(conv=>whnf)) | skip
    refine useFs (fK G1 [116,111,32,98,101] 5) ?_;rintro _ G2 c ⟨e2,rfl,j⟩;refine⟨c,rfl,?_⟩;conv=>whnf
    first | refine⟨?_,?_⟩ | skip
   all_goals
    conv=>whnf
    first | (refine⟨Fz.r _,rfl,?_⟩;(conv=>whnf)) | skip
    have u:=Fz.t b c;have m:=bg G2 (mG.mono u) (rG.mono u) _ R e2 (KpsAt.up ao u) (c _ _ a) j;refine useFs m ?_;rintro _ M s rfl;refine⟨s,rfl,?_⟩
    repeat((conv=>whnf);refine⟨Fz.r _,rfl,?_⟩)
    exact⟨rfl,⟨M,Fz.t b (Fz.t c s)⟩,leR [(9,9)] h i rfl ⟨tv,cR ⟨[],[],0,[]⟩ (sk:=.nilsl) trivial,tv⟩ ⟨rfl,rfl,tv⟩ ⟨Fz.r M,rfl,tv⟩⟩
  case rest4=>
   rintro⟨H,Y⟩;replace Y:Fz.le G H:=Y;have mH:=mG.mono Y;have rH:=rG.mono Y;have aa:=KpsAt.up ap Y;have ar:=KpsAt.up hA Y
   conv=>whnf
   refine cutJ (X:={ x:Fz×(Bool×Nat×Nat×Nat) // Fz.le H x.1/\ClsAt x.1 (.slice x.2.1 0 x.2.2.1 x.2.2.2.1 2 D.length x.2.2.2.2) D }) H (fun x=>[(7,.va (.ptr ⟨10,0,0,0,0⟩)),(8,.va (.int .i64 0))]) [51,52,53,54,55,56,57] (fun x=>[(0,.frz x.1.1),(10,.one (.cells 48 (crtS ⟨Bs,Bd,Bn,D⟩ (.slice x.1.2.1 0 x.1.2.2.1 x.1.2.2.2.1 2 D.length x.1.2.2.2.2))))]) 11
    (fun h i=>leI [] h i rfl ⟨tv,tv⟩ trivial ⟨Fz.r H,tv⟩) (fun h i=>?draws5) ?rest5
   case draws5=>
    refine dwS (.look 0 (.alt 1 (.alt 2 (.alt 3 (lk [4,5,6] (.alt 7 (.alt 8 (.look 9 .done) .nil) .nil)) (.alt 7 (.alt 3 (lk [4,5,6] (.alt 8 (.look 9 .done) .nil)) .nil) .nil)) (.alt 7 (.alt 2 (.alt 3 (lk [4,5,6] (.alt 8 (.look 9 .done) .nil)) .nil) .nil) .nil)) (.alt 7 (.alt 1 (.alt 2 (.alt 3 (lk [4,5,6] (.alt 8 (.look 9 .done) .nil)) .nil) .nil) .nil) .nil))) [7] ?_;refine⟨rfl,?_,?_⟩
    all_goals
     conv=>whnf
     first | (refine⟨Fz.r _,rfl,?_⟩;(conv=>whnf)) | skip
     refine useFs (fK H [116,111,32,32,98,101] 5) ?_;rintro _ G1 b ⟨R,rfl,a⟩;refine⟨b,rfl,?_⟩;conv=>whnf
     first | refine⟨?_,?_⟩ | skip
    all_goals
     conv=>whnf
     first | (refine⟨Fz.r _,rfl,?_⟩;(conv=>whnf)) | skip
     refine useFs (fK G1 [116,111,32,98,101] 0) ?_;rintro _ G2 c ⟨e2,rfl,j⟩;refine⟨c,rfl,?_⟩;conv=>whnf
     first | refine⟨?_,?_⟩ | skip
    all_goals
     conv=>whnf
     first | (refine⟨Fz.r _,rfl,?_⟩;(conv=>whnf)) | skip
     have u:=Fz.t b c;have m:=mkB G2 (mH.mono u) (rH.mono u) _ R e2 (KpsAt.up aa u) (c _ _ a) j;refine useFs m ?_;rintro _ M s ⟨sc,rfl,p⟩;have q:=p;obtain⟨cn,cb,ce,cc,cL,cr,rfl,-,-,-,-⟩:=p;refine⟨s,rfl,?_⟩
     repeat((conv=>whnf);refine⟨Fz.r _,rfl,?_⟩)
     exact⟨rfl,⟨(M,(cn,cb,ce,cc)),Fz.t b (Fz.t c s),q⟩,leR [(10,10)] h i rfl ⟨tv,cR _ (.inr oo),tv⟩ ⟨rfl,rfl,tv⟩ ⟨Fz.r M,rfl,tv⟩⟩
   case rest5=>
    rintro⟨⟨J,bn,bb,be,bc⟩,w3,hB⟩;replace w3:Fz.le H J:=w3;replace hB:ClsAt J (.slice bn 0 bb be 2 D.length bc) D:=hB;have mJ:=mH.mono w3;have rJ:=rH.mono w3;have T:=KpsAt.up ar w3;refine bS 11 (fun _=>.arr 48 4 [crtS ⟨As,Ad,1,y⟩ (.slice an 0 ab ae 2 y.length ac),crtS ⟨Bs,Bd,Bn,D⟩ (.slice bn 0 bb be 2 D.length bc)] 2) ?_;intro b1 J1 j1 aw;refine useFs (cX J1 (b1 0) _ _ (KpsAt.up T j1) (KpsAt.up hB j1) (aw 0 rfl)) ?_;rintro _ J2 j2 ⟨xk,rfl,hX⟩;have av:=hX;obtain⟨xn,xb,xe,xc,xL,xr,rfl,x1,x2,x3,x4⟩:=hX;refine bS 13 (fun _=>.arr 48 4 [crtS ⟨Bs,Bd,Bn,D⟩ (.slice bn 0 bb be 2 D.length bc),crtS ⟨As,Ad,1,y⟩ (.slice an 0 ab ae 2 y.length ac)] 2) ?_;intro b2 J3 j3 ax;have a3:=Fz.t j1 (Fz.t j2 j3);refine useFs (cN J3 (b2 0) _ _ (KpsAt.up T a3) (KpsAt.up hB a3) (ax 0 rfl)) ?_;rintro _ J4 j4 rfl;refine useFt (Cq J4) ?_;rintro _ J5 j5 rfl;refine useFs (fK J5 [84,111,32,32,66,101] 5) ?_;rintro _ J6 j6 ⟨R,rfl,a⟩;refine useFs (all1 J6 R a) ?_;rintro _ J7 j7 ⟨b,v1,rfl,a2⟩;refine useFs (fK J7 [116,111,32,98,101] 0) ?_;rintro _ J8 j8 ⟨e3,rfl,a0⟩;refine useFs (all3 J8 e3 a0) ?_;rintro _ J9 j9 ⟨s,v3,rfl,a4⟩;refine gae dd ?_;refine gae dd ?_;refine gae dd ?_;refine brd dd ?_;conv=>whnf
    have Z:Fz.le J2 J9:=Fz.t j3 (Fz.t j4 (Fz.t j5 (Fz.t j6 (Fz.t j7 (Fz.t j8 j9)))));have af:=KpsAt.up av Z;refine useFs (ad J9 _ af) ?_;rintro _ Ja ja rfl;refine useFs (aq Ja) ?_;rintro _ Jb jb ⟨dk,rfl,hD⟩;have au:=hD;obtain⟨dn,db,de,dc,dL,dr,rfl,-,-,-,-⟩:=hD;have a8:=x4 0 _ rfl;have a9:=x4 1 _ rfl;have ba:=x4 7 _ rfl;obtain⟨y0,a5,s0,rfl,al⟩:=a8;obtain⟨y1,a6,cm,rfl,am⟩:=a9;obtain⟨y7,a7,s7,rfl,a1⟩:=ba;have e:xn=false:=SlR.lt x1 (show 0 < exCl.length by decide);have w:Fz.le J2 Jb:=Fz.t Z (Fz.t ja jb);have q0:=al.mono w;have q1:=am.mono w;obtain⟨bq,bm,bp,bo,bl,bs,rfl,bh,bi,bj,bk⟩:=al;obtain⟨b7,b0,b6,b5,bz,b8,rfl,bt,bu,bw,bx⟩:=am;obtain⟨ck,ch,cj,ci,cg,cl,rfl,b9,ca,cd,cf⟩:=a1;refine⟨e,by decide,_,w _ _ (x2 e),_,a5,?_⟩;refine bS 17 (fun _=>.arr 56 2 ([(1,0),(2,0)].map enc) 2) ?_;intro b3 Jc jc ay;refine usePs (sameT Jc _ _ [(1,0),(2,0)] (q0.mono jc) (Sl.new (l:=[(1,0),(2,0)]) (cap:=2) (ay 0 rfl)) dd) ?_;refine⟨e,by decide,_,jc _ _ (w _ _ (x2 e)),_,a6,?_⟩;refine bS 18 (fun _=>.arr 56 2 ([(6,0)].map enc) 1) ?_;intro b4 Jd jd az;refine usePs (sameT Jd _ _ [(6,0)] ((q1.mono jc).mono jd) (Sl.new (l:=[(6,0)]) (cap:=1) (az 0 rfl)) dd) ?_;refine⟨e,by decide,_,jd _ _ (jc _ _ (w _ _ (x2 e))),_,a7,?_⟩;conv=>whnf
    repeat
     refine gae dd ?_;conv=>whnf
    refine⟨fun _=>?_,fun g=>absurd g (by show¬(decide ((1:Int)=1)=false);decide)⟩;refine⟨fun _=>?_,fun g=>absurd g (by show¬(decide ((2:Int)=2)=false);decide)⟩;conv=>whnf
    repeat
     refine gae dd ?_;conv=>whnf
    have f:Fz.le J9 Jd:=Fz.t ja (Fz.t jb (Fz.t jc jd));have U:Fz.le J J9:=Fz.t j1 (Fz.t j2 Z);have mD:=(mJ.mono U).mono f;have rD:=(rJ.mono U).mono f;have K:=KpsAt.up af f;have O:=f _ _ (j9 _ _ (j8 _ _ a2));have Q:=f _ _ a4;refine useFs (k1 Jd mD rD _ b v1 s v3 K O Q) ?_;rintro _ Je je ⟨rfl,-⟩;refine useFs (k2 Je (mD.mono je) (rD.mono je) _ b v1 s v3 (KpsAt.up K je) (je _ _ O) (je _ _ Q)) ?_;rintro _ Jf jf ⟨rfl,-⟩;conv=>whnf
    repeat
     refine gae dd ?_;conv=>whnf
    have L:=Fz.t je jf;refine usePs (s1 Jf _ _ (KpsAt.up K L) (KpsAt.up au (Fz.t jc (Fz.t jd L)))) ?_;conv=>whnf
    repeat
     refine gae dd ?_;conv=>whnf
    have V:=Fz.t U (Fz.t f L);refine usePs (s2 Jf _ _ (KpsAt.up T V) (KpsAt.up hB V)) ?_;conv=>whnf
    repeat
     refine gae dd ?_;conv=>whnf
    refine useFs (vX Jf _ (KpsAt.up K L)) ?_;rintro _ Jg jg ⟨rfl,-⟩;conv=>whnf
    repeat
     refine gae dd ?_;conv=>whnf
    refine Cy (args':=[.agg zC']) zSwap (fun n _=>yd9 n) ?_;refine useFs (v0 Jg) ?_;rintro _ Jh jh ⟨rfl,-⟩;conv=>whnf
    have bd:Fz.le I Jh:=Fz.t W (Fz.t Y (Fz.t w3 (Fz.t V (Fz.t jg jh))));exact endFo (.ret (.va (.bool true))) Jh rfl (Fz.t q6 bd) (Fz.r Jh) ⟨rfl,tv⟩ rfl rfl
theorem zt:short ([]:List Kp):=fun x a=>by simp at a
theorem lV{F:Fz}{b c:Nat}{l:List (List UInt8)}(h:F b=some (.arr 9 1 (l.map encS) c))(a:l.length=8):Sl F 9 1 encS (.slice false 0 b 0 1 8 c) l:=by
 have:=Sl.new (enc:=encS) (cap:=c) h;rw[a]at this;exact this
theorem ybx:Ex cA cB (root8 (allB d1)) (root8 (allB d3)) (allB d1) (allB d3) (encC cX)where
 al:=rfl
 mkA:=ydi
 mkF:=ydk
 mkB:=ydj
 cX:=Cs
 cN:=Cr
 all1:=fun F b h=>xY F b _ _ h doc1
 all3:=fun F b h=>xY F b _ _ h doc3
 enc:=fun F sk a=>cK (lz F sk cX a km (by show exCl.length < 1000000;decide)) fun o d h=>by
  rcases h with⟨h,_⟩ | ⟨_,h⟩
  ·exact absurd (h.symm.trans cX_ok) ss
  ·exact h
 dec:=fun F=>by
  have h:=oN F (encC cX) (q8 (wH cX_ok) dd);rw[wD cX_ok]at h;exact h
 k1:=fun F f g sk j l k m a h1 e=>by
  have h:=ph F f g sk _ _ cX (allB d1) (allB d3) a km (by show exCl.length < 1000000;decide) (lV h1 (eH _)) (lV e (eH _)) (fI doc1) (fI doc3);rw[chk1]at h;exact fk (cK h fun o d h=>⟨h,tv⟩)
 k2:=fun F f g sk j l k m a h1 e=>by
  have h:=ph F f g sk _ _ cX (allB d3) (allB d1) a km (by show exCl.length < 1000000;decide) (lV e (eH _)) (lV h1 (eH _)) (fI doc3) (fI doc1);rw[chk2]at h;exact fk (cK h fun o d h=>⟨h,tv⟩)
 s1:=fun F s t c i=>by
  have h:=wm F s t cX cX c i km (by show exCl.length < 1000000;decide);rw[sameX]at h;exact fk h
 s2:=fun F s t c i=>by
  have h:=wm F s t cA cB c i pf qQ;rw[ydt]at h;exact fk h
 vX:=fun F s c=>by
  have h:=gG F s cX c km (by show exCl.length < 1000000;decide);rw[cX_ok]at h;exact fk (cK h fun o d h=>⟨h,tv⟩)
 v0:=fun F=>by
  have h:=gG F (.slice true 0 0 0 2 0 0) ⟨[],[],0,[]⟩ SlR.nil zt (by show 0 < 1000000;decide);rw[show crtOk ⟨[],[],0,[]⟩=false by decide]at h;exact fk (cK h fun o d h=>⟨h,tv⟩)
theorem zW(a:Fz)(b:MLF a)(c:RNDF a):Fo prog a 12 [] (fun o _=>o=.ret (.va (.bool true))/\True):=
 Dp cA cB _ _ _ _ _ ybx a b c
theorem ybw(a:Fz)(b:MLF a)(c:RNDF a):Fo prog a 12 [] (fun o _=>o=.ret (.va (.lit true))/\True):=
 fk (zW a b c)
theorem aG:Plain encN:=fun x=>⟨fun μ=>rfl,fun a b=>by
 simp only[encN,qh,qq,or_false]at b;rcases b with rfl | rfl<;>trivial⟩
theorem fd(c n:Int)(a:i64 c)(b:0 < n):Pu prog 105 [.va (.int .i64 c),.va (.int .i64 n)] (.va (.int .i64 (pickI c n))):=by
 intro F;unfold i64 at a;refine foS func105 ?_;refine br (fun g=>?_) (fun g=>?_)
 ·refine⟨by omega,?_⟩;refine endPu rfl (Fz.r F) (oi ?_) rfl;simp at g;rw[aI (n:=c+1) oo oo,aI (n:=0 - (c+1)) oo oo,pickI,if_pos g]
  congr 1;omega
 ·refine⟨by omega,?_⟩;refine endPu rfl (Fz.r F) (oi ?_) rfl;simp at g;rw[pickI,if_neg oo]
def chB:List UInt8:=[97,66,32,99,32,68]
def mkT:Nat->Int->List UInt8->List UInt8
 |0,_,s=>s
 |f+1,n,s=>if 0 < n then mkT f (n.tdiv 6) (s++[chB[(n.tmod 6).toNat]?.getD 97])else s
theorem r9:∀(f:Nat) (n:Int) (s:List UInt8),s.any badC=false->(mkT f n s).any badC=false/\(mkT f n s).length<=s.length+f
 |0,_,s,h=>⟨h,qi _⟩
 |f+1,n,s,h=>by
  rw[mkT];split
  ·have a:badC (chB[(n.tmod 6).toNat]?.getD 97)=false:=by
    have h1:∀x∈chB,badC x=false:=by decide
    cases b:chB[(n.tmod 6).toNat]? with
    |none=>decide
    |some x=>exact h1 x (yw b)
   have ih:=r9 f (n.tdiv 6) (s++[chB[(n.tmod 6).toNat]?.getD 97]) (by rw[List.any_append,h];simp[a]);refine⟨ih.1,q8 ih.2 ?_⟩;rw[qb];simp;omega
  ·exact⟨h,by omega⟩
def mkLn(x:Stp):DLn:=(mkT 8 (pickI x.1 1000000) [],pickI x.2 8)
theorem ya9{x:Stp}(a:i64 x.2):dlnOk (mkLn x)=true:=by
 have h:=r9 8 (pickI x.1 1000000) [] rfl;have c:=dP x.2 8 dd a;have b:(mkT 8 (pickI x.1 1000000) []).length<=80:=q8 h.2 dd;show((decide ((mkT 8 (pickI x.1 1000000) []).length<=80)&& !(mkT 8 (pickI x.1 1000000) []).any badC)&&inR (pickI x.2 8) 0 7)=true;rw[h.1,decide_eq_true b,inR,decide_eq_true (show 0<=pickI x.2 8 by omega),decide_eq_true (show pickI x.2 8<=7 by omega)];rfl
abbrev Q3:=Int×Int×Int
def cellOf(k:Int)(x:Q3):Cel:=
 if pickI x.1 3=0 then⟨k.tdiv 5,k.tmod 5,true,0,pickI x.2.1 (k.tdiv 5+1),pickI x.2.2 (k.tmod 5+1)⟩
 else⟨k.tdiv 5,k.tmod 5,false,pickI x.2.1 201 - 100,0,0⟩
def mkC:List Q3->Int->List Cel->List Cel
 |[],_,o=>o
 |x::r,k,o=>if k < 25 then mkC r (k+1+pickI (x.1.tdiv 3) 3) (o++[cellOf k x])else o
theorem Ej{k:Int}(b:0<=k)(e:k < 25){x:Q3}(a:i64 x.2.1/\i64 x.2.2):celOk (cellOf k x)=true/\(cellOf k x).row*5+(cellOf k x).col=k/\0<=(cellOf k x).col/\(cellOf k x).col<=4:=by
 have c:k.tdiv 5=k / 5:=jw b;have d:k.tmod 5=k % 5:=qaa b;unfold cellOf;rw[c,d];split
 ·have f:=dP x.2.1 (k / 5+1) oo a.1;have g:=dP x.2.2 (k % 5+1) oo a.2;refine⟨?_,by show k / 5*5+k % 5=k;omega,by show 0<=k % 5;omega,by show k % 5<=4;omega⟩;simp only[celOk,inR,if_true,decide_true,qab,qd,decide_eq_true_eq];omega
 ·have f:=dP x.2.1 201 dd a.1;refine⟨?_,by show k / 5*5+k % 5=k;omega,by show 0<=k % 5;omega,by show k % 5<=4;omega⟩;simp only[celOk,inR,jy,if_false,decide_true,qd0,qd,decide_eq_true_eq];omega
theorem ni{x:Int}(h:i64 x):i64 (x.tdiv 3):=by
 unfold i64 at*;rcases Int.le_total 0 x with h0 | h0
 ·rw[jw h0];omega
 ·have e:x.tdiv 3= -((-x).tdiv 3):=by rw[Int.neg_tdiv,Int.neg_neg]
  rw[e,jw oo];omega
theorem i5{x:Int}(h:i64 x):i64 (x.tdiv 6):=by
 unfold i64 at*;rcases Int.le_total 0 x with h0 | h0
 ·rw[jw h0];omega
 ·have e:x.tdiv 6= -((-x).tdiv 6):=by rw[Int.neg_tdiv,Int.neg_neg]
  rw[e,jw oo];omega
structure CInv(k:Int)(o:List Cel):Prop where
 k0:0<=k
 asc:ascF o=true
 last:∀l a,o=l++[a]->a.row*5+a.col < k/\0<=a.col/\a.col<=4
 ok:∀c∈o,celOk c=true
 len:(o.length:Int)<=k/\o.length<=25
theorem ydf{a b:Cel}(h:a.row*5+a.col < b.row*5+b.col)(e:0<=a.col/\a.col<=4)(f:0<=b.col/\b.col<=4):ltC a b=true:=by
 unfold ltC;by_cases h1:a.row < b.row
 ·simp[h1]
 ·have c:a.row=b.row:=by omega
  have d:a.col < b.col:=by omega
  simp[c,d]
theorem CInv.push{k j:Int}{o:List Cel}(h:CInv k o)(b:k < 25){x:Q3}(i:i64 x.2.1/\i64 x.2.2)(m:0<=j):CInv (k+1+j) (o++[cellOf k x]):=by
 have d:=Ej h.k0 b i;refine⟨by have:=h.k0;omega,?_,?_,?_,?_⟩
 ·rcases List.eq_nil_or_concat o with rfl | ⟨l,a,e⟩
  ·rfl
  ·rw[List.concat_eq_append]at e;subst e;have g:=h.last l a rfl;rw[qj];show ascF (l++[a,cellOf k x])=true;rw[oJ,h.asc,ydf oo g.2 d.2.2];rfl
 ·intro l a e;have h1:=List.append_inj_right' e rfl;have f:cellOf k x=a:=by simpa using h1
  rw[<-f];omega
 ·intro c hcm;rcases yf.1 hcm with hcm | hcm
  ·exact h.ok c hcm
  ·have:c=cellOf k x:=by simpa using hcm
   rw[this];exact d.1
 ·have:=h.len;rw[qb];simp only[qe,qu];omega
theorem qR:∀(l:List Q3) (k:Int) (o:List Cel),(∀x∈l,i64 x.2.1/\i64 x.2.2)->(∀x∈l,i64 x.1)->CInv k o->∃d,CInv d (mkC l k o)
 |[],k,o,_,_,h=>⟨k,h⟩
 |x::r,k,o,hx,hx1,h=>by
  rw[mkC];split
  ·rename_i a;have h1:=hx1 x ss;have c:=dP (x.1.tdiv 3) 3 dd (ni h1);exact qR r _ _ (fun y b=>hx y (by simp[b])) (fun y b=>hx1 y (by simp[b])) (h.push a (hx x ss) c.1)
  ·exact⟨k,h⟩
def mkB(t n:Nat):List UInt8:=(List.range t).map fun i=>UInt8.ofNat (48+n / 2^i % 2)
def madeD(l:List Stp)(x:List Q3)(a b:Int):Dc:=
 ⟨(l.take 6).map mkLn,mkC x 0 [],pickI a 6,mkB (pickI a 6*(1+pickI (a.tdiv 6) 4)).toNat (pickI b 1048576).toNat⟩
theorem Bx(t n:Nat):(mkB t n).all bitK=true:=by
 rw[qp];intro b a;obtain⟨i,_,rfl⟩:=qz.1 a;rcases Nat.mod_two_eq_zero_or_one (n / 2^i)with h | h
 ·rw[h];rfl
 ·rw[h];rfl
theorem p9(t n:Nat):(mkB t n).length=t:=by simp[mkB]
theorem Bq{l:List Stp}{x:List Q3}{i d:Int}(I:∀y∈l,i64 y.2)(L:∀y∈x,i64 y.2.1/\i64 y.2.2)(u:∀y∈x,i64 y.1)(A:i64 i):docOk (madeD l x i d)=true/\DcSmall (madeD l x i d):=by
 obtain⟨k,o⟩:=qR x 0 [] L u ⟨by omega,rfl,fun l a e=>by simp at e,fun c o=>by simp at o,by simp⟩;have D:=dP i 6 dd A;have B:=dP (i.tdiv 6) 4 dd (i5 A);have J:((l.take 6).map mkLn).length<=6:=by rw[qa,qk];omega
 have s:((l.take 6).map mkLn).all dlnOk=true:=by
  rw[qp];intro y M;obtain⟨z,O,rfl⟩:=qz.1 M;exact ya9 (I z (yh O))
 have q:(mkC x 0 []).all celOk=true:=by rw[qp];exact o.ok
 obtain⟨w,n⟩:∃w,pickI i 6=w:=⟨_,rfl⟩
 obtain⟨h,m⟩:∃h,pickI (i.tdiv 6) 4=h:=⟨_,rfl⟩
 have p:rasOk w (mkB (w*(1+h)).toNat (pickI d 1048576).toNat)=true:=by
  rw[n]at D;rw[m]at B;have b:=Bx (w*(1+h)).toNat (pickI d 1048576).toNat;have j:=p9 (w*(1+h)).toNat (pickI d 1048576).toNat;have g:inR w 0 32=true:=by rw[inR,decide_eq_true (show 0<=w by omega),decide_eq_true (show w<=32 by omega)];rfl
  by_cases e:w=0
  ·subst e;rw[rasOk,g,b];simp[mkB]
  ·have K:0<=w*(1+h):=qcz oo oo;have f:((mkB (w*(1+h)).toNat (pickI d 1048576).toNat).length:Int)=w*(1+h):=by rw[j];exact qdw K
   have G:hgt w (mkB (w*(1+h)).toNat (pickI d 1048576).toNat)=1+h:=by
    rw[hgt,if_neg oo,f,qda _ e]
   rw[rasOk,g,b,G,f,decide_eq_true (show 0 < w by omega),decide_eq_true rfl,inR,decide_eq_true (show 1<=1+h by omega),decide_eq_true (show 1+h<=32 by omega)];simp
 have E:madeD l x i d=⟨(l.take 6).map mkLn,mkC x 0 [],w,mkB (w*(1+h)).toNat (pickI d 1048576).toNat⟩:=by rw[madeD,n,m]
 rw[E];refine⟨?_,⟨by show((l.take 6).map mkLn).length<=1000;omega,by show(mkC x 0 []).length<=1000;have:=o.len;omega,?_⟩⟩
 ·show(((((decide (((l.take 6).map mkLn).length<=64)&&decide ((mkC x 0 []).length<=64))&&ascF (mkC x 0 []))&&((l.take 6).map mkLn).all dlnOk)&&(mkC x 0 []).all celOk)&&rasOk w _)=true;rw[s,q,o.asc,p,decide_eq_true (show((l.take 6).map mkLn).length<=64 by omega),decide_eq_true (show(mkC x 0 []).length<=64 by have:=o.len;omega)];rfl
 ·show(mkB (w*(1+h)).toNat (pickI d 1048576).toNat).length<=70000;rw[p9];rw[n]at D;rw[m]at B;have:w*(1+h)<=5*4:=qbr oo oo oo oo;omega
