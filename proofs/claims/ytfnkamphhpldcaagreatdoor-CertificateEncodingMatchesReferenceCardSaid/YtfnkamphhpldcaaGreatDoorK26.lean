import Derived.Test.YtfnkamphhpldcaaGreatDoorK22
import Derived.Test.YtfnkamphhpldcaaGreatDoorK23
import Derived.Test.YtfnkamphhpldcaaGreatDoorK10
set_option maxHeartbeats 64000000
namespace Go.Proofs.YtfnkamphhpldcaaGreatDoor
open Go Sx Tryz
theorem yb6(n:Int):unz (cO n)=n:=by
 grind[cO,unz]
theorem rk(z:Nat):putZ z≠[]:=by
 grind[fj,fT]
theorem EY(z:Nat):∀(r:List UInt8) (f i acc:Nat),(putZ z).length<=f->∃b,decZ (putZ z++r) f i acc=some (acc+z*128^i,i+((putZ z).length - 1),b)/\(b=0->z=0):=by
 induction z using Nat.strongRecOn with
 |_ z ih=>
  intro r f i acc a;by_cases c:z < 128
  ·rw[fj c]at a ⊢;obtain⟨f,rfl⟩:∃g,f=g+1:=⟨f - 1,by simp at a;omega⟩
   have e:(UInt8.ofNat z).toNat=z:=by rw[qay];exact ju oo
   refine⟨UInt8.ofNat z,?_,fun h=>?_⟩
   ·rw[yd,qv,decZ,if_neg (by rw[e];omega),e];rfl
   simp_all
  ·have h1:=ih (z / 128) oo;rw[fT c]at a ⊢;obtain⟨f,rfl⟩:∃g,f=g+1:=⟨f - 1,by simp at a;omega⟩
   have e:(UInt8.ofNat (z % 128+128)).toNat=z % 128+128:=by rw[qay];exact ju oo
   obtain⟨b,k,o⟩:=h1 r f (i+1) (acc+(z % 128+128) % 128*128^i) (by simp at a;omega);have n:0 < (putZ (z / 128)).length:=qa3.2 (rk _);refine⟨b,?_,fun p=>?_⟩
   ·rw[yd,decZ,if_pos (by rw[e];omega),e,k,qbx]
    have d:acc+(z % 128+128) % 128*128^i+z / 128*(128^i*128)=acc+z*128^i:=by
     have l:z*128^i=(z % 128+128*(z / 128))*128^i:=by rw[Nat.mod_add_div]
     have m:(z % 128+128) % 128=z % 128:=by omega
     rw[l,m,qbi,qar (128^i) 128,<-qb5,qar (z / 128) 128];omega
    rw[d,qe];have j:i+1+((putZ (z / 128)).length - 1)=i+((putZ (z / 128)).length+1 - 1):=by omega
    rw[j]
   grind
def okI(n:Int):Prop:=-4611686018427387903<=n/\n<=4611686018427387903
variable {n:Int}
theorem eb(h:okI n):(putIR n).1=putI n:=by
 grind[okI,putIR]
theorem iJ(n:Int):putI n≠[]:=rk _
theorem dJ(pre r:List UInt8)(h:okI n):getI (pre++(putI n++r)) (pre.length:Nat)=(n,(((pre++putI n).length:Nat):Int),0):=by
 have a:=kg n h;have c:0 < (putI n).length:=qa3.2 (iJ n);obtain⟨b,h1,d⟩:=EY (cO n) r 9 0 0 a;rw[getI,if_neg (by rw[qb];omega),qn,qbs]
 grind[yb6,List.length_append,fj,decZ,okI,putZ,cO,putI]
theorem kq(pre r t:List UInt8)(h:t.length<=65536):getS (pre++((putSR t).1++r)) (pre.length:Nat)=(t,(((pre++(putSR t).1).length:Nat):Int),0):=by
 have e:(putSR t).1=putI t.length++t:=by rw[putSR,if_neg oo]
 have a:okI (t.length:Int):=by unfold okI;omega
 rw[e];have d:=dJ pre (t++r) a;rw[qj,getS,d];dsimp only;rw[if_neg ss,if_neg]
 ·have b:((((pre++putI t.length).length:Nat):Int)+(t.length:Int)).toNat=(pre++putI t.length++t).length:=by
   rw[qb (bs:=t)];omega
  have c:pre++(putI t.length++(t++r))=(pre++putI t.length++t)++r:=by simp only[qj]
  rw[b,c,List.take_left,qn,qbs];refine Prod.ext rfl (Prod.ext ?_ rfl);show(((pre++putI t.length).length:Nat):Int)+(t.length:Int)=_;show _=(((pre++(putI t.length++t)).length:Nat):Int);simp only[qb];omega
 grind
theorem zy(pre r:List UInt8){b a:Int}(h:okI n)(c:b<=n/\n<=a):bZ (pre++(putI n++r)) (pre.length:Nat) b a=true:=by
 grind[eh,dJ]
theorem yao{acc:List Int}(a:∀x∈acc,okI x)(k:Nat):okI (acc.getD k 0):=by
 grind[List.mem_of_getElem?,okI]
variable {p:Int}
theorem ycp{acc:List Int}(a:∀x∈acc,okI x){x:Int}(h:(bnd p acc).1<=x/\x<=(bnd p acc).2):okI x:=by
 grind[yao,bnd,okI]
theorem nM(x:Int)(r:List Int):aA (x::r)=(putIR x).1++aA r:=rfl
theorem vK{p:Int}(r:List UInt8):∀(n acc:List Int) (pre:List UInt8),(∀x∈acc,okI x)->fZ p acc n->numsS (pre++(aA n++r)) p n.length acc (pre.length:Nat)=some (acc++n,(((pre++aA n).length:Nat):Int))
 |[],acc,pre,_,_=>by
  grind[aA,numsS,okI,fZ]
 |x::n,acc,pre,ha,h=>by
  have a:=ycp ha h.1;have ih:=vK r n (acc++[x]) (pre++putI x) (fun z b=>by rcases yf.1 b with h | h;exact ha z h;rw[qs.1 h];exact a) h.2
  grind[nM,eb,List.length_cons,zy,dJ,List.append_assoc,List.singleton_append,numsS,aA,okI,fZ,putI]
theorem zl{a:List Ln}{x:Ln}(pre r:List UInt8)(h:lnOk p a x):lineS (pre++(lineW p x++r)) p a (pre.length:Nat)=some (x,(((pre++lineW p x).length:Nat):Int)):=by
 unfold lnOk at h
 grind[kq,vK,lineS,putSR,cols,aA,lineW]
theorem uo{p:Int}(r:List UInt8):∀(l acc:List Ln) (pre:List UInt8),lnsOk p acc l->cP (pre++((l.map (lineW p)).flatten++r)) p l.length acc (pre.length:Nat)=some (acc++l,(((pre++(l.map (lineW p)).flatten).length:Nat):Int))
 |[],acc,pre,_=>by
  grind[cP,lineW,lnsOk]
 |x::l,acc,pre,h=>by
  have ih:=uo r l (acc++[x]) (pre++lineW p x) h.2
  grind[List.flatten_cons,List.length_cons,zl,List.append_assoc,List.singleton_append,cP,lineW,lnsOk]
theorem vI(h:okI n):aA [n]=putI n:=by
 rw[nM,eb h];exact qy _
theorem oD{m:Int}(h:okI n)(a:okI m):aA [n,m]=putI n++putI m:=by
 grind[nM,eb,vI]
theorem DN{v:Val}(y:1<=p/\p<=8)(c:VOK p v):readS p (bI p v)=some v:=by
 rcases c with rfl | ⟨m,c⟩
 ·grind[bI,loseV,readS]
 obtain⟨l,L,w,h,bits⟩:=v;replace m:l=false:=m;subst m;dsimp only at c;by_cases i:p=8
 ·rw[if_pos i]at c;obtain⟨rfl,rfl,n,q⟩:=c;have f:okI w:=by unfold okI;omega
  have d:okI h:=by unfold okI;omega
  have e:bI p ⟨false,[],w,h,[]⟩=putI w++putI h:=by
   rw[bI,if_neg ss,if_pos oo,if_neg oo,qy,oD f d]
  have a:=dJ [] (putI h) f;have b:=dJ (putI w) [] d;rw[qv,qv]at a;rw[qy]at b;replace a:getI (putI w++putI h) 0=(w,((putI w).length:Int),0):=a;rw[e,readS,if_neg oo,if_neg (by simp[iJ]),if_pos i,a];dsimp only
  grind[bZ,putI,getI,okI,bI]
 rw[if_neg i]at c;by_cases g:6<=p
 ·rw[if_pos g]at c;obtain⟨rfl,n,q,k⟩:=c;have f:okI w:=by unfold okI;omega
  have d:okI h:=by unfold okI;omega
  by_cases j:p=7
  ·rw[if_pos j]at k
   have o:bits.length<=65536:=by
    have x:w*h<=32*h:=qcj n.2 oo;omega
   have e:bI p ⟨false,[],w,h,bits⟩=putI w++(putI h++(putSR bits).1):=by
    rw[bI,if_neg ss,if_pos oo,if_pos j,oD f d,qj]
   have a:=dJ [] (putI h++(putSR bits).1) f;have b:=dJ (putI w) (putSR bits).1 d;have s:=kq (putI w++putI h) [] bits o;rw[qv,qv]at a;rw[qy,qj (putI w)]at s;replace a:getI (putI w++(putI h++(putSR bits).1)) 0=(w,((putI w).length:Int),0):=a;rw[e,readS,if_neg oo,if_neg (by simp[iJ]),if_neg i,if_pos g,a];dsimp only;rw[b];dsimp only;rw[if_pos ⟨eh.2 (by rw[a];exact⟨rfl,n⟩),eh.2 (by rw[b];exact⟨rfl,q⟩)⟩,if_pos j,s];exact if_pos ⟨rfl,k.1,k.2,by rfl⟩
  ·rw[if_neg j]at k;subst k
   have e:bI p ⟨false,[],w,h,[]⟩=putI w++putI h:=by
    rw[bI,if_neg ss,if_pos oo,if_neg oo,qy,oD f d]
   have a:=dJ [] (putI h) f;have b:=dJ (putI w) [] d;rw[qv,qv]at a;rw[qy]at b;replace a:getI (putI w++putI h) 0=(w,((putI w).length:Int),0):=a;rw[e,readS,if_neg oo,if_neg (by simp[iJ]),if_neg i,if_pos g,a];dsimp only;rw[b];dsimp only;rw[if_pos ⟨eh.2 (by rw[a];exact⟨rfl,n⟩),eh.2 (by rw[b];exact⟨rfl,q⟩)⟩,if_neg j];exact if_pos rfl
 ·rw[if_neg g]at c;obtain⟨rfl,rfl,rfl,m,u⟩:=c;have on:okI (L.length:Int):=by unfold okI;omega
  have e:bI p ⟨false,L,0,0,[]⟩=putI L.length++(L.map (lineW p)).flatten:=by
   rw[bI,if_neg ss,if_neg g,vI on]
  have a:=dJ [] ((L.map (lineW p)).flatten) on;have b:=uo [] L [] (putI L.length) u;rw[qv,qv]at a;rw[qy]at b;replace a:getI (putI L.length++(L.map (lineW p)).flatten) 0=((L.length:Int),((putI L.length).length:Int),0):=a;rw[e,readS,if_neg oo,if_neg (by simp[iJ]),if_neg i,if_neg g,if_pos (eh.2 (by rw[a];exact⟨rfl,by dsimp only;omega,by dsimp only;omega⟩)),a]
  grind
def nfs(p:Int):List (List Stp):=
 [(6,0)]::if p=1 then [[],[(1,0)],[(2,0)],[(1,0),(2,0)]]
 else if p=2 then [[],[(4,0)],[(4,1)],[(4,2)],[(4,3)],[(4,4)],[(4,5)],[(4,6)]]
 else if p=3\/p=5 then [[],[(3,10)],[(3,100)],[(3,1000)]]
 else if p=6\/p=7 then [[],[(5,0)],[(5,0),(5,0)],[(5,0),(5,0),(5,0)],[(5,0),(5,0),(5,0),(5,0)],[(5,0),(5,0),(5,0),(5,0),(5,0)]]
 else [[]]
def sts(p:Int):List Stp:=
 (6,0)::if p=1 then [(1,0),(2,0)]else if p=2 then [(4,0),(4,1),(4,2),(4,3),(4,4),(4,5),(4,6)]else if p=3\/p=5 then [(3,10),(3,100),(3,1000)]else if p=6\/p=7 then [(5,0)]else []
theorem p8(a:1<=p/\p<=8):p=1\/p=2\/p=3\/p=4\/p=5\/p=6\/p=7\/p=8:=by omega
theorem ya6{s:Stp}(a:1<=p/\p<=8)(h:bA p s=true):s∈sts p:=by
 obtain⟨k,n⟩:=s;rcases fH a h with⟨rfl,rfl,rfl⟩ | ⟨rfl,rfl,rfl⟩ | ⟨rfl,rfl | rfl,rfl | rfl | rfl⟩ | ⟨rfl,rfl,b⟩ | ⟨rfl,rfl | rfl,rfl⟩ | ⟨rfl,rfl⟩
 case inr.inr.inr.inl=>
  have:n=0\/n=1\/n=2\/n=3\/n=4\/n=5\/n=6:=by omega
  simp_all[sts,bA]
 case inr.inr.inr.inr.inr=>simp[sts]
 all_goals decide
theorem BD(a:1<=p/\p<=8):∀m∈nfs p,∀s∈sts p,normS (m++[s])∈nfs p:=by
 rcases p8 a with rfl | rfl | rfl | rfl | rfl | rfl | rfl | rfl<;>decide+kernel
theorem zw(l:List Stp):normS (normS l)=normS l:=by
 have h:=oC l [];rw[show normS []=[]from rfl,qy,qy]at h;omega
theorem zx(l:List Stp)(s:Stp):normS (normS l++[s])=normS (l++[s]):=by
 have h1:=oC l [s]
 grind[oC,zw,normS]
theorem B4{α:Type}{P:List α->Prop}(a:P [])(h1:∀l x,P l->P (l++[x]))(l:List α):P l:=by
 have:∀n,n<=l.length->P (l.take n):=by
  intro n
  induction n with
  |zero=>intro _;exact a
  |succ n ih=>
   intro h;rw[qf oo];exact h1 _ _ (ih oo)
 grind[List.take_length]
theorem BE(a:1<=p/\p<=8)(l:List Stp):(∀s∈l,bA p s=true)->normS l∈nfs p:=by
 refine B4 (P:=fun l=>(∀s∈l,bA p s=true)->normS l∈nfs p) ?_ ?_ l
 ·intro _;rcases p8 a with rfl | rfl | rfl | rfl | rfl | rfl | rfl | rfl<;>decide+kernel
 ·intro l x ih h;rw[<-zx]
  grind[BD,List.mem_append_left,ya6]
theorem sU{l:List Stp}{v:Val}(a:aN p l=true)(b:VOK p v):dp p l (bI p v)=(bI p (runS l v),0):=by
 rw[dp,if_pos a,DN (kC a) b]
theorem ydr{l:List Stp}{v:Val}(a:aN p l=true)(b:VOK p v):VOK p (runS l v):=mo (kC a) l v (gU a) b
theorem yba{l:List Stp}(a:aN p l=true):normS l∈nfs p:=BE (kC a) l (gU a)
instance decNums (p:Int):∀(l acc:List Int),Decidable (fZ p acc l)
 |[],_=>isTrue trivial
 |x::r,acc=>@instDecidableAnd _ _ inferInstance (decNums p r (acc++[x]))
instance decLn (p:Int) (before:List Ln) (x:Ln):Decidable (lnOk p before x):=by
 unfold lnOk
 have:Decidable (∀y,before.getLast? =some y->cmpL (y.2.take 2) (x.2.take 2) < 0):=by
  cases h:before.getLast? with
  |none=>exact isTrue (fun y hy=>by cases hy)
  |some z=>
   by_cases hz:cmpL (z.2.take 2) (x.2.take 2) < 0
   ·exact isTrue (fun y hy=>by cases hy;exact hz)
   ·exact isFalse (fun hy=>hz (hy z rfl))
 infer_instance
instance decLns (p:Int):∀(l acc:List Ln),Decidable (lnsOk p acc l)
 |[],_=>isTrue trivial
 |x::r,acc=>@instDecidableAnd _ _ (decLn p acc x) (decLns p r (acc++[x]))
def VOK1(p:Int)(v:Val):Prop:=v.lost=false/\
  if p=8 then v.lines=[]/\v.bits=[]/\(0<=v.w/\v.w<=64)/\(0<=v.h/\v.h<=64)
  else if 6<=p then v.lines=[]/\(0<=v.w/\v.w<=32)/\(min v.w 1<=v.h/\v.h<=min v.w 1*32)/\(if p=7 then(v.bits.length:Int)=v.w*v.h/\v.bits.all (fun b=>b==48||b==49)=true else v.bits=[])
  else v.w=0/\v.h=0/\v.bits=[]/\v.lines.length<=64/\lnsOk p [] v.lines
instance decVOK (p:Int) (v:Val):Decidable (VOK1 p v):=by unfold VOK1;infer_instance
theorem nilV(a:1<=p/\p<=8):aN p []=true:=by
 rcases p8 a with rfl | rfl | rfl | rfl | rfl | rfl | rfl | rfl<;>decide
end Go.Proofs.YtfnkamphhpldcaaGreatDoor
namespace Sx
open Go
theorem yce{P:Program}{c:Code}{b:St}{Q:SE->St->Prop}{X:Type}(i:St)(I:X->St)(g:WfH b.h b.nx->WfT b.t b.nx->Le b i/\WP P c i (fun e f=>e=.normal/\∃x,Le f (I x)))(n:∀x,Q .normal (I x)):WP P c b Q:=by
 unfold WP;intro C ρ a w D;obtain⟨g,h1⟩:=g D.wfH D.wfT;unfold Le at g;obtain⟨q,k⟩:=g C ρ a w D;unfold WP at h1;refine wp_mono (h1 C q a w k) ?_;rintro e m o ⟨u,f,p,⟨rfl,x,d⟩,rfl,j⟩;unfold Le at d;obtain⟨s,l⟩:=d C p m o j;exact⟨.normal,I x,s,n x,rfl,l⟩
end Sx
namespace Go.Proofs.YtfnkamphhpldcaaGreatDoor
open Go Sx Tryz
set_option maxRecDepth 100000
theorem fk{P:Program}{F:Fz}{f:FuncId}{args:List SV}{b:Bool}{R:Fz->Prop}(h:Fo P F f args (fun o a=>o=.ret (.va (.bool b))/\R a)):Fo P F f args (fun o a=>o=.ret (.va (.lit b))/\R a):=by
 unfold Fo at*;refine nV h fun o h n j=>?_
 unfold Cln at*;intro C ρ w e k S l i;obtain⟨c,d,g,n0,x,⟨m,p,q,y,rfl,s⟩,u,A,r⟩:=j C ρ w e k S l i;exact⟨.ret (.va (.lit b)),d,g,n0,x,⟨m,p,q,rfl,rfl,s⟩,u,tv,r⟩
end Go.Proofs.YtfnkamphhpldcaaGreatDoor
namespace Go.Proofs.YtfnkamphhpldcaaGreatDoor
open Go Sx Tryz
set_option maxRecDepth 100000
theorem Ew{p:Int}{v:Val}(a:Fits v):(bI p v).length<=100000000000:=by
 unfold bI;split
 ·simp
 split
 ·have h1:=du [v.w,v.h];have b:=ek v.bits;rw[qb];simp only[qe,qu]at h1;split
  ·omega
  ·simp only[qu];omega
 ·have h1:=du [(v.lines.length:Int)];have b:=oy (p:=p) v.lines (fun x d=>(a.h2 x d).2);have c:=a.h1;rw[qb];simp only[qe,qu]at h1;have e:74545*v.lines.length<=74545*1000:=qb3 _ c;omega
def vals:List UInt8->Nat
 |[]=>0
 |b::r=>b.toNat % 128+128*vals r
theorem o7:∀(l:List UInt8) (b:UInt8),vals (l++[b])=vals l+b.toNat % 128*128^l.length
 |[],b=>by simp[vals]
 |x::r,b=>by
  simp only[yd,vals,o7 r b,qe,qbx,qd4]
  have:128*(b.toNat % 128*128^r.length)=b.toNat % 128*(128^r.length*128):=by
   rw[qar (128^r.length) 128,<-qb5,<-qb5,qar 128 (b.toNat % 128)]
  omega
theorem ybm(z:Nat):putZ z≠[]:=by
 by_cases h:z < 128
 ·rw[fj h];simp
 ·rw[fT h];simp
theorem vk:∀(pre:List UInt8) (b:UInt8),(∀x∈pre,128<=x.toNat)->b.toNat < 128->(pre=[]\/b≠0)->putZ (vals (pre++[b]))=pre++[b]
 |[],b,_,hb,_=>by
  have e:vals ([]++[b])=b.toNat:=by simp[vals,ju hb]
  rw[e,fj hb];simp
 |x::r,b,hp,hb,hn=>by
  have a:b≠0:=by rcases hn with h | h;cases h;exact h
  have c:0 < b.toNat:=by
   refine Nat.pos_of_ne_zero fun h=>a (qdp.1 (by simpa using h))
  have ih:=vk r b (fun y f=>hp y (ym _ f)) hb (.inr a)
  have g:1<=vals (r++[b]):=by
   rw[o7,ju hb];have:1*1<=b.toNat*128^r.length:=qaw c (Nat.pow_pos oo);omega
  have i:=hp x (qbk ..);have d:=x.toNat_lt;have e:vals ((x::r)++[b])=x.toNat % 128+128*vals (r++[b]):=rfl;rw[e,fT oo,show(x.toNat % 128+128*vals (r++[b])) / 128=vals (r++[b])by omega,ih,show(x.toNat % 128+128*vals (r++[b])) % 128+128=x.toNat by omega];simp
theorem zK(z:Nat):∀l:List UInt8,putZ z=l++[0]->l=[]:=by
 induction z using Nat.strongRecOn with
 |_ z ih=>
  intro l h;by_cases d:z < 128
  ·rw[fj d]at h;cases l with
   |nil=>rfl
   |cons y r=>cases r<;>simp at h
  ·rw[fT d]at h;cases l with
   |nil=>rfl
   |cons y r=>
    simp only[yd,List.cons.injEq]at h;have e:=ih (z / 128) oo r h.2;subst e;have a:=h.2;by_cases b:z / 128 < 128
    ·rw[fj b]at a;simp only[qv,List.cons.injEq,and_true]at a;have c:=congrArg UInt8.toNat a;rw[qay,ju oo]at c;have f:z / 128=0:=c;omega
    ·rw[fT b]at a;simp only[qv,List.cons.injEq]at a;exact absurd a.2 (ybm _)
theorem yca(z:Nat):cO (unz z)=z:=by
 unfold cO unz;split<;>split<;>omega
theorem oI{z:Nat}(h:¬unz z < -4611686018427387903)(b:z < 9223372036854775808):putIR (unz z)=(putZ z,0):=by
 have a:unz z<=4611686018427387903:=by unfold unz;split<;>omega
 rw[putIR,if_neg oo,putI,yca]
theorem ut{z:Nat}(h:unz z < -4611686018427387903):putIR (unz z)=([],10):=by
 rw[putIR,if_pos (.inl h)]
theorem vM(pre:List UInt8)(b:UInt8)(f:∀x∈pre,128<=x.toNat)(d:b.toNat < 128):putZ (vals (pre++[b]))=pre++[b]↔¬(b=0/\0 < pre.length):=by
 constructor
 ·rintro h ⟨rfl,e⟩;have:=zK _ _ h;subst this;simp at e
 ·intro h;refine vk pre b f d ?_;by_cases a:b=0
  ·exact .inl (ji (by
    have:¬0 < pre.length:=fun c=>h ⟨a,c⟩
    omega))
  ·exact .inr a
theorem kA(F:Fz)(s:List UInt8)(p:Int)(hs:s.length<=1000000000000000000)(hp:i64 p):
  Fo prog F 84 [.va (.str s),.va (.int .i64 p)] (fun o F'=>o=.ret (.tup [.va (.int .i64 (getI s p).1),.va (.int .i64 (getI s p).2.1),.va (.int .i64 (getI s p).2.2)])/\F'=F):=by
 have fin:∀(n x e:Int) (h:Hp) (nx:Nat),getI s p=(n,x,e)->lget h 0=some (.frz F)->
   Cln 1 (FoK F fun o F'=>o=.ret (.tup [.va (.int .i64 (getI s p).1),.va (.int .i64 (getI s p).2.1),.va (.int .i64 (getI s p).2.2)])/\F'=F) (.ret (.tup [.va (.int .i64 n),.va (.int .i64 x),.va (.int .i64 e)])) h nx:=by
  intro n x e h nx hv k;exact endFo (.ret (.tup [.va (.int .i64 n),.va (.int .i64 x),.va (.int .i64 e)])) F k (Fz.r F) (Fz.r F) ⟨by rw[hv],rfl⟩ (aP _) rfl
 refine foS func84 ?_;refine⟨fun g=>?_,fun g=>?_⟩
 ·have g1:¬p < 0:=by simpa using g
  refine br (fun g=>?_) (fun g=>?_)
  ·have g2:(s.length:Int) < p:=by simpa using g
   exact fin 0 0 2 _ _ (by rw[getI,if_pos (.inr g2)]) rfl
  ·have g2:¬(s.length:Int) < p:=by simpa using g
   have af:∃a:Nat,p=a/\a<=s.length:=⟨p.toNat,by omega,by omega⟩
   obtain⟨a,ea,ac⟩:=af;subst ea
   have hg:getI s a=match decZ (s.drop a) 9 0 0 with
    |none=>(0,0,10)
    |some (z,i,b)=>if(b=0/\0 < i)\/unz z < -4611686018427387903 then(0,0,10)else(unz z,a+i+1,0):=by
    rw[getI,if_neg oo];rfl
   have aa:decZ (s.drop a) 9 0 0=none->getI s a=(0,0,10):=fun h=>by rw[hg,h]
   conv=>whnf
   refine aH hΘ (X:={ x:Nat×Nat // (x.1<=9/\a+x.1<=s.length)/\x.2 < 128^x.1/\decZ (s.drop a) 9 0 0=decZ (s.drop (a+x.1)) (9 - x.1) x.1 x.2/\(∀y∈(s.drop a).take x.1,128<=y.toNat)/\vals ((s.drop a).take x.1)=x.2 }) (fun x=>[(7,.va (.int .u64 x.1.2)),(8,.va (.int .i64 x.1.1))]) (4::5::6::9::10::11::12::jr 21 59 []) (fz fun _=>F) 1 (fun x=>9 - x.1.1) ⟨(0,0),by simp[ac],by simp,rfl,by simp,by simp[vals]⟩
    (fun hH hT=>le0 hH hT rfl (Fz.r F) rfl ⟨rfl,rfl,tv⟩) ?_
   rintro⟨⟨i,z⟩,hi,Q,W,q,hv⟩ hH hT;replace hi:i<=9/\a+i<=s.length:=hi;replace Q:z < 128^i:=Q;replace W:decZ (s.drop a) 9 0 0=decZ (s.drop (a+i)) (9 - i) i z:=W;replace q:∀y∈(s.drop a).take i,128<=y.toNat:=q;replace hv:vals ((s.drop a).take i)=z:=hv;have D:((s.drop a).take i).length=i:=by rw[qk,yj];omega
   have R:IntKind.i64.wrap ((a:Int)+i)=((a+i:Nat):Int):=by rw[aI oo oo];rfl
   refine⟨fun gb=>?_,fun gb=>?_⟩
   ·have gi:i < 9:=by
     have k:(i:Int) < 9:=by simpa using gb
     omega
    clear gb;have h9:9 - i=(9 - (i+1))+1:=by omega
    refine br (fun gc=>?_) (fun gc=>?_)
    ·have gl:a+i < s.length:=by
      have k:IntKind.i64.wrap ((a:Int)+i) < (s.length:Int):=by simpa using gc
      rw[R]at k;omega
     clear gc;have u:=W;rw[drop_at gl,h9,decZ]at u;have hm:s[a+i].toNat % 128 < 128:=qba _ oo;have L:=m8 Q hm;have aj:=shl7 (s[a+i].toNat % 128) i hm oo;have al:(s[a+i].toNat:Int).tmod 128=((s[a+i].toNat % 128:Nat):Int):=rfl
     have an:128^(i+1)<=9223372036854775808:=by
      have:128^(i+1)<=128^9:=qau oo oo;exact this
     have am:=s[a+i].toNat_lt;have w:IntKind.u64.wrap (s[a+i].toNat:Int)=(s[a+i].toNat:Int):=eo oo oo
     have j:IntKind.u64.wrap ((z:Int)+shlI .u64 ((IntKind.u64.wrap (s[a+i].toNat:Int)).tmod 128) (IntKind.i64.wrap (7*(i:Int))))=((z+s[a+i].toNat % 128*128^i:Nat):Int):=by
      rw[w,al,aj,eo oo oo];omega
     have f:(s.drop a).take (i+1)=(s.drop a).take i++[s[a+i]]:=by
      have h1:i < (s.drop a).length:=by rw[yj];omega
      rw[qf h1];simp
     have I:vals ((s.drop a).take (i+1))=z+s[a+i].toNat % 128*128^i:=by rw[f,o7,hv,D]
     refine⟨by dsimp only;rw[R];omega,s[a+i],by dsimp only;rw[R,qn,qc gl],by decide,by dsimp only;rw[aI oo oo];omega,?_⟩;refine br (fun S=>?_) (fun S=>?_)
     ·have l:128<=s[a+i].toNat:=by
       have k:(128:Int)<=IntKind.u64.wrap (s[a+i].toNat:Int):=od S;rw[w]at k;omega
      clear S;rw[if_pos l]at u
      have ai:∀y∈(s.drop a).take (i+1),128<=y.toNat:=by
       intro y hy;rw[f]at hy;rcases yf.1 hy with h | h
       ·exact q y h
       ·rw[qs.1 h];exact l
      refine⟨⟨(i+1,z+s[a+i].toNat % 128*128^i),by show i+1<=9/\a+(i+1)<=s.length;omega,L,u,ai,I⟩,by show 9 - (i+1) < 9 - i;omega,lr0 hH hT rfl (Fz.r F) rfl ⟨?_,cnt oo,tv⟩⟩;exact congrArg (SA.int .u64) j.symm
     ·have l:¬128<=s[a+i].toNat:=by
       have k:¬(128:Int)<=IntKind.u64.wrap (s[a+i].toNat:Int):=oe S;rw[w]at k;omega
      clear S;rw[if_neg l]at u;have ag:s[a+i].toNat % 128=s[a+i].toNat:=ju oo;rw[ag]at j L I;have hZ:∃Z,Z=z+s[a+i].toNat*128^i:=⟨_,rfl⟩
      obtain⟨Z,hZ⟩:=hZ;rw[<-hZ]at j L I u;have T:Z < 9223372036854775808:=by omega
      have d:getI s a=if(s[a+i]=0/\0 < i)\/unz Z < -4611686018427387903 then(0,0,10)else(unz Z,(a:Int)+i+1,0):=by rw[hg,u]
      have ad:Z=vals ((s.drop a).take i++[s[a+i]]):=by rw[<-I,f]
      have K:=vM ((s.drop a).take i) s[a+i] q oo;rw[<-ad,<-f,D]at K;have c:=ip F (unz Z);have hr:unz Z < -4611686018427387903\/¬unz Z < -4611686018427387903:=Decidable.em _;have ak:(s.take (a+i+1)).drop a=(s.drop a).take (i+1):=by rw[qdt];congr 1;omega
      have E:IntKind.i64.wrap (IntKind.i64.wrap ((a:Int)+i)+1)=((a+i+1:Nat):Int):=by rw[R,aI oo oo];omega
      have U:0<=IntKind.i64.wrap (IntKind.i64.wrap ((a:Int)+i)+1)/\IntKind.i64.wrap (IntKind.i64.wrap ((a:Int)+i)+1)<=(s.length:Int):=by rw[E];omega
      have V:0<=(a:Int)/\(a:Int)<=IntKind.i64.wrap (IntKind.i64.wrap ((a:Int)+i)+1):=by rw[E];omega
      have Y:IntKind.i64.wrap (IntKind.i64.wrap ((a:Int)+i)+1)=(a:Int)+i+1:=by rw[E];omega
      have A:(putZ Z==List.drop (a:Int).toNat (List.take (IntKind.i64.wrap (IntKind.i64.wrap ((a:Int)+i)+1)).toNat s))=decide (¬(s[a+i]=0/\0 < i)):=by
       rw[E,qn,qn,ak,qdk,beq_iff_eq,decide_eq_true_iff];exact K
      have J:(!(putZ Z==List.drop (a:Int).toNat (List.take (IntKind.i64.wrap (IntKind.i64.wrap ((a:Int)+i)+1)).toNat s)))=true->s[a+i]=0/\0 < i:=fun h=>by
       rw[A]at h
       exact Decidable.byContradiction fun h'=>by
        rw[decide_eq_true h']at h;cases h
      have B:(!(putZ Z==List.drop (a:Int).toNat (List.take (IntKind.i64.wrap (IntKind.i64.wrap ((a:Int)+i)+1)).toNat s)))=false->¬(s[a+i]=0/\0 < i):=fun h=>by
       rw[A]at h
       exact od (by
        rw[Bool.not_eq_false']at h;exact h)
      clear A
      have G:IntKind.i64.wrap (IntKind.u64.wrap ((IntKind.u64.wrap ((z:Int)+shlI .u64 ((IntKind.u64.wrap (s[a+i].toNat:Int)).tmod 128) (IntKind.i64.wrap (7*(i:Int))))).tdiv 2))=((Z / 2:Nat):Int):=by
       have h1:(Z:Int).tdiv 2=((Z / 2:Nat):Int):=rfl;rw[j,h1,eo oo oo,aI oo oo]
      have m:((IntKind.u64.wrap ((z:Int)+shlI .u64 ((IntKind.u64.wrap (s[a+i].toNat:Int)).tmod 128) (IntKind.i64.wrap (7*(i:Int))))).tmod 2)=((Z % 2:Nat):Int):=by
       rw[j];rfl
      refine⟨by decide,by decide,?_⟩;refine br (fun gp=>?_) (fun gp=>?_)
      ·have ab:Z % 2=1:=by
        have k:=od gp;rw[m]at k;omega
       have M:IntKind.i64.wrap (IntKind.i64.wrap (0 - IntKind.i64.wrap (IntKind.u64.wrap ((IntKind.u64.wrap ((z:Int)+shlI .u64 ((IntKind.u64.wrap (s[a+i].toNat:Int)).tmod 128) (IntKind.i64.wrap (7*(i:Int))))).tdiv 2))) - 1)=unz Z:=by
        have ah:IntKind.i64.wrap (0 - ((Z / 2:Nat):Int))= -((Z / 2:Nat):Int):=by rw[aI oo oo];omega
        rw[G,ah,aI oo oo,unz,if_pos ab]
       clear gp G m;rcases hr with hr | hr
       ·rw[ut hr]at c;refine usePu c rfl ⟨congrArg (SA.int .i64) M.symm,tv⟩ rfl ?_;refine gaf ss ?_;exact fin 0 0 10 _ _ (by rw[d,if_pos (.inr hr)]) rfl
       ·rw[oI hr T]at c;refine usePu c rfl ⟨congrArg (SA.int .i64) M.symm,tv⟩ rfl ?_;refine gae ss ⟨U,V,?_⟩;refine br (fun gx=>?_) (fun gx=>?_)
        ·have O:=J gx;exact fin 0 0 10 _ _ (by rw[d,if_pos (.inl O)]) rfl
        ·have O:=B gx;exact fin _ _ 0 _ _ (by rw[d,if_neg (by rintro(h | h);exact O h;exact hr h),<-M,<-Y]) rfl
      ·have ae:¬Z % 2=1:=by
        have k:=oe gp;rw[m]at k;omega
       have M:IntKind.i64.wrap (IntKind.u64.wrap ((IntKind.u64.wrap ((z:Int)+shlI .u64 ((IntKind.u64.wrap (s[a+i].toNat:Int)).tmod 128) (IntKind.i64.wrap (7*(i:Int))))).tdiv 2))=unz Z:=by
        rw[G,unz,if_neg ae]
       clear gp G m;rcases hr with hr | hr
       ·rw[ut hr]at c;refine usePu c rfl ⟨congrArg (SA.int .i64) M.symm,tv⟩ rfl ?_;refine gaf ss ?_;exact fin 0 0 10 _ _ (by rw[d,if_pos (.inr hr)]) rfl
       ·rw[oI hr T]at c;refine usePu c rfl ⟨congrArg (SA.int .i64) M.symm,tv⟩ rfl ?_;refine gae ss ⟨U,V,?_⟩;refine br (fun gx=>?_) (fun gx=>?_)
        ·have O:=J gx;exact fin 0 0 10 _ _ (by rw[d,if_pos (.inl O)]) rfl
        ·have O:=B gx;exact fin _ _ 0 _ _ (by rw[d,if_neg (by rintro(h | h);exact O h;exact hr h),<-M,<-Y]) rfl
    ·have gl:s.length<=a+i:=by
      have k:¬IntKind.i64.wrap ((a:Int)+i) < (s.length:Int):=by simpa using gc
      rw[R]at k;omega
     have Q:decZ (s.drop a) 9 0 0=none:=by rw[W,yg gl,uY]
     exact fin 0 0 10 _ _ (aa Q) rfl
   ·have gi:i=9:=by
     have k:¬(i:Int) < 9:=by simpa using gb
     omega
    subst gi;have Q:decZ (s.drop a) 9 0 0=none:=by rw[W];cases s.drop (a+9)<;>rfl
    exact fin 0 0 10 _ _ (aa Q) rfl
 ·have g1:p < 0:=by simpa using g
  exact fin 0 0 2 _ _ (by rw[getI,if_pos (.inl g1)]) rfl
theorem tS(F:Fz)(s:List UInt8)(p:Int)(E:s.length<=1000000000000000000)(D:i64 p):
  Fo prog F 83 [.va (.str s),.va (.int .i64 p)] (fun o m=>o=.ret (.tup [.va (.str (getS s p).1),.va (.int .i64 (getS s p).2.1),.va (.int .i64 (getS s p).2.2)])/\m=F):=by
 have fin:∀(n:List UInt8) (x e:Int) (h:Hp) (nx:Nat),getS s p=(n,x,e)->lget h 0=some (.frz F)->
   Cln 1 (FoK F fun o m=>o=.ret (.tup [.va (.str (getS s p).1),.va (.int .i64 (getS s p).2.1),.va (.int .i64 (getS s p).2.2)])/\m=F) (.ret (.tup [.va (.str n),.va (.int .i64 x),.va (.int .i64 e)])) h nx:=by
  intro n x e h nx G j;exact endFo (.ret (.tup [.va (.str n),.va (.int .i64 x),.va (.int .i64 e)])) F j (Fz.r F) (Fz.r F) ⟨by rw[G],rfl⟩ (aP _) rfl
 have B:=kA F s p E D;have c:=@eL s p;have b:∀n x e,getI s p=(n,x,e)->getS s p=if e≠0 then([],0,e)else if n < 0\/65536 < n\/(s.length:Int) - x < n then([],0,10)else((s.take (x+n).toNat).drop x.toNat,x+n,0):=fun n x e h=>by rw[getS,h]
 obtain⟨n,x,e,A⟩:∃n x e,getI s p=(n,x,e):=⟨_,_,_,rfl⟩
 have b:=b n x e A;rw[A]at B c;replace c:e=0->0<=p/\p < x/\x<=s.length/\ -4611686018427387903<=n/\n<=4611686018427387903:=c;refine foS func83 ?_;refine usePs (B) ?_;refine br (fun g=>?_) (fun g=>?_)
 ·have l:e≠0:=by simpa using g
  exact fin [] 0 e _ _ (by rw[b,if_pos l]) rfl
 ·have l:e=0:=by simpa using g
  have I:=c l;have a:getS s p=if n < 0\/65536 < n\/(s.length:Int) - x < n then([],0,10)else((s.take (x+n).toNat).drop x.toNat,x+n,0):=by rw[b,if_neg (by simp[l])]
  have y:IntKind.i64.wrap ((s.length:Int) - x)=s.length - x:=aI oo oo;refine⟨fun q=>?_,fun q=>?_⟩
  ·have d:¬n < 0:=oe q;refine⟨fun u=>?_,fun u=>?_⟩
   ·have f:¬65536 < n:=oe u;refine br (fun w=>?_) (fun w=>?_)
    ·have i:(s.length:Int) - x < n:=by have j:=od w;rw[<-y];exact j
     exact fin [] 0 10 _ _ (by rw[a,if_pos (.inr (.inr i))]) rfl
    ·have i:¬(s.length:Int) - x < n:=by have j:=oe w;rw[<-y];exact j
     have k:IntKind.i64.wrap (x+n)=x+n:=aI oo oo;refine⟨⟨by dsimp only;rw[k];omega,by dsimp only;rw[k];omega⟩,⟨by dsimp only;omega,by dsimp only;rw[k];omega⟩,?_⟩;refine fin _ _ 0 _ _ ?_ rfl;rw[a,if_neg oo,k]
   ·have f:65536 < n:=od u;exact fin [] 0 10 _ _ (by rw[a,if_pos (.inr (.inl f))]) rfl
  ·have d:n < 0:=od q;exact fin [] 0 10 _ _ (by rw[a,if_pos (.inl d)]) rfl
def inR(n b a:Int):Bool:=decide (b<=n)&&decide (n<=a)
theorem D5(n b a:Int):Pu prog 217 [.va (.int .i64 n),.va (.int .i64 b),.va (.int .i64 a)] (.va (.bool (inR n b a))):=by
 intro F;refine foS func217 ?_;refine⟨fun g=>?_,fun g=>?_⟩
 ·refine endPu rfl (Fz.r F) (ob ?_) rfl;unfold inR;rw[g,qab]
 ·refine endPu rfl (Fz.r F) (ob ?_) rfl;unfold inR;rw[g,jv]
theorem fg{n c a:Int}{b:Bool}(h:inR n c a=b)(F:Fz):Fo prog F 217 [.va (.int .i64 n),.va (.int .i64 c),.va (.int .i64 a)] (fun o d=>o=.ret (.va (.lit b))/\d=F):=by
 have h1:=D5 n c a F;rw[h]at h1;exact fk h1
abbrev docS(a b:SA)(w:Int)(s:List UInt8):List SA:=[a,b,.int .i64 w,.str s]
def hgt(w:Int)(s:List UInt8):Int:=if w < 1 then 0 else(s.length:Int).tdiv w
theorem oR(F:Fz)(a b:SA)(w:Int)(s:List UInt8)(l:s.length<=1000000000000000000):Fo prog F 168 [.agg (docS a b w s)] (fun o d=>o=.ret (.va (.int .i64 (hgt w s)))/\d=F):=by
 have fin:∀(z:Int) (h:Hp) (nx:Nat),hgt w s=z->lget h 0=some (.frz F)->Cln 1 (FoK F fun o d=>o=.ret (.va (.int .i64 (hgt w s)))/\d=F) (.ret (.va (.int .i64 z))) h nx:=by
  intro z h nx j g;subst j;exact endPu g (Fz.r F) (aP _) rfl
 by_cases c:w < 1
 ·have e:hgt w s=0:=if_pos c;refine foS func168 ?_;refine bri c ?_;exact fin 0 _ _ e rfl
 ·have f:w≠0:=by omega
  have i:IntKind.i64.wrap ((s.length:Int).tdiv w)=(s.length:Int).tdiv w:=by
   have h1:0<=(s.length:Int).tdiv w:=Int.tdiv_nonneg oo oo
   have k:(s.length:Int).tdiv w<=s.length:=by
    rw[jw oo];exact Int.ediv_le_self _ oo
   exact aI oo oo
  have e:hgt w s=IntKind.i64.wrap ((s.length:Int).tdiv w):=by rw[i];exact if_neg c
  refine foS func168 ?_;refine brj c ⟨f,?_⟩;exact fin _ _ _ e rfl
structure Cel where
 row:Int
 col:Int
 sum:Bool
 value:Int
 top:Int
 left:Int
def encK(c:Cel):List SA:=[.int .i64 c.row,.int .i64 c.col,.bool c.sum,.int .i64 c.value,.int .i64 c.top,.int .i64 c.left]
def celOk(c:Cel):Bool:=(inR c.row 0 31&&inR c.col 0 31)&&(if c.sum=true then(decide (c.value=0)&&inR c.top 0 c.row)&&inR c.left 0 c.col else(inR c.value (-1000000) 1000000&&decide (c.top=0))&&decide (c.left=0))
theorem yY(F:Fz)(c:Cel):Fo prog F 148 [.agg (encK c)] (fun o u=>o=.ret (.va (.bool (celOk c)))/\u=F):=by
 obtain⟨i,f,j,b,d,left⟩:=c;have E:∃l m n p q,inR i 0 31=l/\inR f 0 31=m/\inR d 0 i=n/\inR left 0 f=p/\inR b (-1000000) 1000000=q:=⟨_,_,_,_,_,rfl,rfl,rfl,rfl,rfl⟩
 obtain⟨l,m,n,p,q,h1,w,x,y,A⟩:=E;have I:=fg h1 F;have J:=fg w F;have K:=fg x F;have L:=fg y F;have M:=fg A F
 have fin:∀(z:Bool) (a:SA) (h:Hp) (nx:Nat),celOk ⟨i,f,j,b,d,left⟩=z->atomE (.bool z) (a.ren (resP h))->lget h 0=some (.frz F)->Cln 1 (FoK F fun o u=>o=.ret (.va (.bool (celOk ⟨i,f,j,b,d,left⟩)))/\u=F) (.ret (.va a)) h nx:=by
  intro z a h nx G D B;subst G;exact endPu B (Fz.r F) D rfl
 have e:celOk ⟨i,f,j,b,d,left⟩=((l&&m)&&(if j=true then(decide (b=0)&&n)&&p else(q&&decide (d=0))&&decide (left=0))):=by
  rw[<-h1,<-w,<-x,<-y,<-A];rfl
 clear h1 w x y A;refine foS func148 ?_;refine usePt I ?_;rcases l with _ | _
 ·exact fin false _ _ _ e rfl rfl
 ·refine usePt J ?_;rcases m with _ | _
  ·exact fin false _ _ _ e rfl rfl
  ·rcases j with _ | _
   ·refine br (fun g=>absurd g (by show¬false=true;decide)) (fun _=>?_);refine usePt M ?_;rcases q with _ | _
    ·exact fin false _ _ _ e rfl rfl
    ·conv=>whnf
     by_cases s:d=0
     ·refine⟨fun _=>?_,fun g=>absurd s (oe g)⟩;exact fin (decide (left=0)) _ _ _ (by rw[e,decide_eq_true s];simp) rfl rfl
     ·refine⟨fun g=>absurd (od g) s,fun _=>?_⟩;exact fin false _ _ _ (by rw[e,decide_eq_false s];simp) rfl rfl
   ·refine br (fun _=>?_) (fun g=>absurd g (by show¬true=false;decide));conv=>whnf
    by_cases k:b=0
    ·refine⟨fun _=>?_,fun g=>absurd k (oe g)⟩;refine usePt K ?_;rcases n with _ | _
     ·exact fin false _ _ _ (by rw[e,decide_eq_true k];rfl) rfl rfl
     ·refine usePt L ?_;exact fin p _ _ _ (by rw[e,decide_eq_true k];simp) rfl rfl
    ·refine⟨fun g=>absurd (od g) k,fun _=>?_⟩;exact fin false _ _ _ (by rw[e,decide_eq_false k];simp) rfl rfl
end Go.Proofs.YtfnkamphhpldcaaGreatDoor
namespace Go.Proofs.YtfnkamphhpldcaaGreatDoor
open Go Go.RowKit Sx Tryz
theorem ybj(w:World):PredAtRunes prog 215 #[] badR w:=by
 intro W x hx hb;unfold FnGives
 go_enter func215,Tryz.ntmps215
 by_cases h1:32<=x
 ·by_cases h2:x<=126
  ·go_wp2
   all_goals go_ret
   all_goals refine⟨?_,0,rfl⟩
   all_goals(simp[badR,h1,h2];try omega)
  ·go_wp2
   all_goals go_ret
   all_goals refine⟨?_,0,rfl⟩
   all_goals(simp[badR,h1,h2];try omega)
 ·go_wp2
  all_goals go_ret
  all_goals refine⟨?_,0,rfl⟩
  all_goals(simp[badR,h1];try omega)
theorem ifun(F:Fz)(s:List UInt8)(_:s.length<=1000000000000000000):Fo prog F 216 [.va (.str s),.va (.fn (.func 215) [])] (fun o b=>(∃z,o=.ret (.va (.int .i64 z))/\decide (0<=z)=s.any badC)/\b=F):=by
 refine cK (fR (F:=F) (args:=[.va (.str s),.va (.fn (.func 215) [])]) (out:=.ret (.va (.int .i64 (Lib.idxFunc badR true ⟨s.toArray⟩)))) (vs:=[.string ⟨s.toArray⟩,.func (.func 215) #[] #[]]) (Sx.enters_of func216 rfl dd) rfl (by
   rintro ρ a h
   match a,h with
   |[v,u],h=>rw[h.1,h.2.1];rfl) (.returned (.int .i64 (Lib.idxFunc badR true ⟨s.toArray⟩))) (fun ρ=>⟨_,rfl,rfl⟩) (fun C ρ w S=>by
   have h:=Any.strings_IndexFunc_runes { Tryz.laysGw17 with } 215 #[] (enters_of func215 (by kernel_rfl) rfl) badR ⟨s.toArray⟩ w (ybj w);refine h.mono fun e f ⟨h1,c⟩=>⟨?_,c⟩
   rw[h1])) fun o b h=>⟨⟨_,h.1,by rw[Lib.idxFunc,pW s _ 0 (by show s.length<=0+s.toArray.size;simp),y8]⟩,h.2⟩
end Go.Proofs.YtfnkamphhpldcaaGreatDoor
namespace Go.Proofs.YtfnkamphhpldcaaGreatDoor
open Go Sx Tryz
set_option maxRecDepth 100000
abbrev DLn:=List UInt8×Int
def encN(l:DLn):List SA:=[.str l.1,.int .i64 l.2]
def dlnOk(l:DLn):Bool:=(decide (l.1.length<=80)&& !l.1.any badC)&&inR l.2 0 7
theorem za(F:Fz)(l:DLn):Fo prog F 146 [.agg (encN l)] (fun o i=>o=.ret (.va (.bool (dlnOk l)))/\i=F):=by
 obtain⟨t,m⟩:=l;have u:∃j k,t.any badC=j/\inR m 0 7=k:=⟨_,_,rfl,rfl⟩
 obtain⟨j,k,h1,p⟩:=u;have w:=fg p F;have e:dlnOk (t,m)=((decide (t.length<=80)&& !j)&&k):=by rw[<-h1,<-p];rfl
 have f:=fun b:t.length<=80=>ifun F t (q8 b dd)
 rw[h1]at f
 have fin:∀(z:Bool) (a:SA) (h:Hp) (nx:Nat),dlnOk (t,m)=z->atomE (.bool z) (a.ren (resP h))->lget h 0=some (.frz F)->Cln 1 (FoK F fun o i=>o=.ret (.va (.bool (dlnOk (t,m))))/\i=F) (.ret (.va a)) h nx:=by
  intro z a h nx n s q;subst n;exact endPu q (Fz.r F) s rfl
 clear h1 p;by_cases b:t.length<=80
 ·have c:(t.length:Int)<=80:=by omega
  refine foS func146 ?_;refine⟨fun _=>?_,fun g=>absurd c (oe g)⟩;refine useFt (f b) ?_;rintro _ i _ ⟨⟨z,rfl,n⟩,rfl⟩;rcases j with _ | _
  ·have d:z < 0:=by
    have:=oe n;omega
   refine⟨fun _=>?_,fun g=>absurd d (oe g)⟩;refine usePt w ?_;exact fin k _ _ _ (by rw[e,decide_eq_true b];simp) rfl rfl
  ·have d:¬z < 0:=by
    have:=od n;omega
   refine⟨fun g=>absurd (od g) d,fun _=>?_⟩;exact fin false _ _ _ (by rw[e];simp) rfl rfl
 ·have c:¬(t.length:Int)<=80:=by omega
  refine foS func146 ?_;refine⟨fun g=>absurd (od g) c,fun _=>?_⟩;exact fin false _ _ _ (by rw[e,decide_eq_false b];simp) rfl rfl
theorem Bg{n b a:Int}:inR n b a=true↔b<=n/\n<=a:=by
 unfold inR;simp
def bitK(b:UInt8):Bool:=b==48||b==49
theorem zagg{l:List SA}{μ:Mu}(h:l.all SA.z=true)(a:∀k,μ 0 k=(0,k)):svE (.agg l) (SV.ren μ (.agg l)):=by
 have b:(SV.agg l).z=true:=h;rw[SV.ren_id (.inl b) a];exact iI _
def rasOk(w:Int)(s:List UInt8):Bool:=(inR w 0 32&&s.all bitK)&&((decide (w=0)&&(s==[]))||((decide (0 < w)&&decide ((s.length:Int)=w*hgt w s))&&inR (hgt w s) 1 32))
theorem Dw(F:Fz)(a b:SA)(w:Int)(s:List UInt8)(T:s.length<=70000)(X:a.z=true)(Y:b.z=true):Fo prog F 149 [.agg (docS a b w s)] (fun o A=>o=.ret (.va (.bool (rasOk w s)))/\A=F):=by
 have x:(docS a b w s).all SA.z=true:=by
  show(a.z&&(b.z&&(true&&(true&&true))))=true;rw[X,Y];rfl
 have y:([SV.agg (docS a b w s)].all SV.z)=true:=by
  show((docS a b w s).all SA.z&&true)=true;rw[x];rfl
 have J:=tfun F s T;have n:=oR F a b w s oo;have V:∃l B m,inR w 0 32=l/\s.all bitK=B/\inR (hgt w s) 1 32=m:=⟨_,_,_,rfl,rfl,rfl⟩
 obtain⟨l,B,m,h1,E,G⟩:=V;have M:=fg h1 F;have W:=fg G F
 have e:rasOk w s=((l&&B)&&((decide (w=0)&&(s==[]))||((decide (0 < w)&&decide ((s.length:Int)=w*hgt w s))&&m))):=by
  unfold rasOk;rw[h1,E,G]
 have S:l=true->0<=w/\w<=32:=fun h=>Bg.1 (h1.trans h)
 have fin:∀(z:Bool) (a:SA) (h:Hp) (nx:Nat),rasOk w s=z->atomE (.bool z) (a.ren (resP h))->lget h 0=some (.frz F)->Cln 1 (FoK F fun o A=>o=.ret (.va (.bool (rasOk w s)))/\A=F) (.ret (.va a)) h nx:=by
  intro z a h nx x R O;subst x;exact endPu O (Fz.r F) R rfl
 clear h1 G;rcases l with _ | _
 ·refine foS func149 ?_;refine usePt M ?_;exact fin false _ _ _ (by rw[e];simp) rfl rfl
 have U:=S rfl;refine foS func149 ?_;refine usePt M ?_;refine useFt J ?_;rintro _ A _ ⟨rfl,r,rfl,q⟩;rcases B with _ | _
 ·have j:(!(r==[]))=true:=by
   have I:¬r=[]:=fun h=>by
    have K:s.all bitK=true:=q.1 h;rw[E]at K;cases K
   simpa using I
  refine br (fun _=>?_) (fun g=>absurd j (by rw[g];simp));exact fin false _ _ _ (by rw[e];simp) rfl rfl
 have j:(!(r==[]))=false:=by
  have I:r=[]:=q.2 E;rw[I];rfl
 refine br (fun g=>absurd g (by rw[j];simp)) (fun _=>?_);refine dwS (lk [0,1,2,3,4,5,6,7,8,9,10,11,12,13,14,15,16,17,18,19,20,21,22,23] (.alt 24 (lk [25,26,27,28,29] (.alt 30 (.alt 31 (lk [32,33,34] .done) .nil) .nil)) .nil)) [1] ?_;refine⟨rfl,?_⟩;conv=>whnf
 by_cases d:w=0
 ·refine⟨fun _=>?_,fun g=>absurd d (oe g)⟩;refine⟨rfl,?_⟩;conv=>whnf
  by_cases u:s=[]
  ·have c:(s==[])=true:=by rw[u];rfl
   refine⟨fun g=>absurd g (by rw[c];simp),fun _=>?_⟩;exact fin true _ _ _ (by rw[e,c,decide_eq_true d];rfl) rfl rfl
  ·have c:(s==[])=false:=by simpa using u
   have p:¬0 < w:=by omega
   refine⟨fun _=>?_,fun g=>absurd g (by rw[c];simp)⟩;refine⟨rfl,fun g=>absurd (od g) p,fun _=>?_⟩;exact fin false _ _ _ (by rw[e,c,decide_eq_false p];simp) rfl rfl
 ·have i:0 < w:=by omega
  have f:IntKind.i64.wrap (w*hgt w s)=w*hgt w s:=by
   have L:0<=hgt w s:=by
    unfold hgt;split
    ·omega
    ·exact Int.tdiv_nonneg oo oo
   have Q:hgt w s<=70000:=by
    unfold hgt;split
    ·omega
    ·rw[jw oo];exact qa4 (Int.ediv_le_self _ oo) oo
   have Z:w*hgt w s<=32*70000:=qbr U.2 Q L oo;have h9:0<=w*hgt w s:=qcz oo L;exact aI oo oo
  have e':rasOk w s=(decide ((s.length:Int)=IntKind.i64.wrap (w*hgt w s))&&m):=by
   rw[e,f,decide_eq_true i,decide_eq_false d];simp
  clear f;refine⟨fun g=>absurd (od g) d,fun _=>?_⟩;refine⟨rfl,fun _=>?_,fun g=>absurd i (oe g)⟩;refine⟨rfl,rfl,rfl,?_⟩;refine usePu n rfl ⟨zagg x (fun k=>rfl),tv⟩ y ⟨Fz.r F,rfl,?_⟩;conv=>whnf
  by_cases D:(s.length:Int)=IntKind.i64.wrap (w*hgt w s)
  ·refine⟨fun _=>?_,fun g=>absurd D (oe g)⟩;rw[decide_eq_true D,qab]at e';refine⟨rfl,?_⟩;refine usePu n rfl ⟨zagg x (fun k=>rfl),tv⟩ y ⟨Fz.r F,rfl,?_⟩;refine usePt W ?_;refine⟨Fz.r F,rfl,?_⟩;exact fin m _ _ _ e' rfl rfl
  ·refine⟨fun g=>absurd (od g) D,fun _=>?_⟩;rw[decide_eq_false D,jv]at e';exact fin false _ _ _ e' rfl rfl
