import Derived.Test.YtfnkamphhpldcaaGreatDoorK19
import Derived.Test.YtfnkamphhpldcaaGreatDoorK16
set_option maxHeartbeats 64000000
namespace Go.Proofs.YtfnkamphhpldcaaGreatDoor
open Go Sx Tryz
set_option maxRecDepth 100000
def TFun:Prop:=∀(F:Fz) (s:List UInt8),s.length<=70000->Fo prog F 184 [.va (.str s),.va (.str [48,49])] (fun o a=>F=a/\∃r:List UInt8,o=.ret (.va (.str r))/\(r=[]↔s.all (fun b=>b==48||b==49)=true))
theorem C4(F:Fz)(s:List UInt8)(m:s.length<=1000000000000000000)(e:¬s=[]):Ct prog 129 [.va (.int .i64 8),.va (.str s)] F [] 1 (readK F 8 s):=by
 have f:=gL F s 0 0 64 m (by unfold i64;omega)
 have j:readS 8 s=if bZ s 0 0 64=true/\bZ s (getI s 0).2.1 0 64=true/\(getI s (getI s 0).2.1).2.1=s.length then some ⟨false,[],(getI s 0).1,(getI s (getI s 0).2.1).1,[]⟩else none:=by
  rw[readS,if_neg oo,if_neg e,if_pos rfl]
 refine ctS func129 ?_;refine usePs (fv 8 1 8 F) ?_;refine useFt (dF F true) ?_;rintro _ _ q ⟨rfl,⟨l,rfl⟩ | ⟨l,rfl⟩⟩
 ·refine br (fun g=>absurd (by simpa using g) e) (fun _=>?_);refine bre dd ?_;refine useS f [(1,3)] ⟨cJ _ _,tv⟩ ⟨rfl,tv⟩ ?_;rintro i n o n0 k ⟨rfl,rfl,a⟩;by_cases d:bZ s 0 0 64=true
  ·rw[if_pos d]at a;obtain⟨rfl,rfl⟩:=a;have p:=eL (gK d);refine useS (gL F s (getI s 0).2.1 0 64 m ⟨by omega,by omega⟩) [(1,3)] ⟨cJ _ _,tv⟩ ⟨rfl,tv⟩ ?_;rintro i n o n0 k ⟨rfl,rfl,a⟩;by_cases b:bZ s (getI s 0).2.1 0 64=true
   ·rw[if_pos b]at a;obtain⟨rfl,rfl⟩:=a;refine useFt (dF F (decide ((getI s (getI s 0).2.1).2.1=(s.length:Int)))) ?_;rintro _ _ u ⟨rfl,⟨c,rfl⟩ | ⟨c,rfl⟩⟩
    ·exact mO (by rw[j,if_pos ⟨d,b,od c⟩]) rfl rfl
    ·exact eR (by rw[j,if_neg (fun h=>oe c h.2.2)]) rfl
   ·rw[if_neg b]at a;obtain⟨rfl,rfl⟩:=a;exact eR (by rw[j,if_neg (fun h=>b h.2.1)]) rfl
  ·rw[if_neg d]at a;obtain⟨rfl,rfl⟩:=a;exact eR (by rw[j,if_neg (fun h=>d h.1)]) rfl
 ·cases l
theorem CV(Y:TFun)(F:Fz)(s:List UInt8)(p:Int)(hp:p=6\/p=7)(R:s.length<=1000000000000000000)(G:¬s=[]):Ct prog 129 [.va (.int .i64 p),.va (.str s)] F [] 1 (readK F p s):=by
 have l:=gL F s 0 0 32 R (by unfold i64;omega);obtain⟨w,S⟩:∃w,(getI s 0).1=w:=⟨_,rfl⟩
 obtain⟨q,Q⟩:∃q,(getI s 0).2.1=q:=⟨_,rfl⟩
 obtain⟨h,O⟩:∃h,(getI s q).1=h:=⟨_,rfl⟩
 obtain⟨c,A⟩:∃c,(getI s q).2.1=c:=⟨_,rfl⟩
 have i:readS p s=if bZ s 0 0 32=true/\bZ s q (min w 1) (min w 1*32)=true then
   if p=7 then
    if(getS s c).2.2=0/\((getS s c).1.length:Int)=w*h/\(getS s c).1.all (fun b=>b==48||b==49)=true/\(getS s c).2.1=s.length then some ⟨false,[],w,h,(getS s c).1⟩else none
   else if c=s.length then some ⟨false,[],w,h,[]⟩else none
  else none:=by
  rw[readS,if_neg oo,if_neg G,if_neg oo,if_pos oo];simp only[S,Q,O,A]
 rw[S,Q]at l;have m:=fun(k:bZ s 0 0 32=true)=>eL (gK k)
 rw[Q]at m
 have J:bZ s 0 0 32=true->0<=w/\w<=32:=fun k=>by
  simp only[bZ,qd,decide_eq_true_eq,S]at k;exact k.2
 refine ctS func129 ?_;refine usePs (fv p 1 8 F) ?_;refine useFt (dF F (decide (1<=p)&&decide (p<=8))) ?_;rintro _ _ l1 ⟨rfl,⟨W,rfl⟩ | ⟨W,rfl⟩⟩
 ·refine br (fun g=>absurd (by simpa using g) G) (fun _=>?_);refine br (fun g=>absurd (od g) oo) (fun _=>?_);refine br (fun _=>?_) (fun g=>absurd (oe g) oo);refine useS l [(1,3)] ⟨cJ _ _,tv⟩ ⟨rfl,tv⟩ ?_;rintro o T B n0 E ⟨rfl,rfl,a⟩;by_cases k:bZ s 0 0 32=true
  ·rw[if_pos k]at a;obtain⟨rfl,rfl⟩:=a;have aa:=m k;have ab:=J k;have U:(if 1 < w then 1 else w)=min w 1:=by split<;>omega
   have e2:IntKind.i64.wrap ((if 1 < w then 1 else w)*32)=min w 1*32:=by rw[U,aI oo oo]
   have y:=gL F s q (if 1 < w then 1 else w) (IntKind.i64.wrap ((if 1 < w then 1 else w)*32)) R ⟨by omega,by omega⟩;refine useS y [(1,3)] ⟨cJ _ _,tv⟩ ⟨rfl,tv⟩ ?_;rintro o T B n0 E ⟨rfl,rfl,a⟩;rw[U,aI (n:=min w 1*32) oo oo,O,A]at a;by_cases f:bZ s q (min w 1) (min w 1*32)=true
   ·rw[if_pos f]at a;obtain⟨rfl,rfl⟩:=a;have I:=eL (gK f);rw[A]at I
    have Z:min w 1<=h/\h<=min w 1*32:=by
     simp only[bZ,qd,decide_eq_true_eq,O]at f;exact f.2
    rw[if_pos ⟨k,f⟩]at i
    have ac:0<=w*h/\w*h<=1024:=by
     refine⟨qcz oo oo,?_⟩;have:w*h<=32*32:=qbr oo oo oo oo;omega
    refine br (fun M=>?_) (fun M=>?_)
    ·have u:p=7:=od M;rw[if_pos u]at i;refine useS (xH F s c R ⟨by omega,by omega⟩) [(1,3)] ⟨cJ _ _,tv⟩ ⟨rfl,tv⟩ ?_;rintro o T B n0 E ⟨rfl,rfl,a⟩;by_cases K:(getS s c).2.2=0
     ·rw[if_pos K]at a;obtain⟨rfl,rfl⟩:=a;have V:IntKind.i64.wrap (w*h)=w*h:=aI oo oo;refine⟨fun D=>?_,fun D=>?_⟩
      ·have x:((getS s c).1.length:Int)=w*h:=by
        have B:=od D;rw[<-V];exact B
       clear D;refine useFs (Y F (getS s c).1 oo) ?_;rintro _ _ L ⟨rfl,r,rfl,X⟩;refine useFt (dF F (r==[])) ?_;rintro _ _ L ⟨rfl,⟨d,rfl⟩ | ⟨d,rfl⟩⟩
       ·have j:=X.1 (by simpa using d);refine useFt (dF F (decide ((getS s c).2.1=(s.length:Int)))) ?_;rintro _ _ L ⟨rfl,⟨e,rfl⟩ | ⟨e,rfl⟩⟩
        ·exact mO (by rw[i,if_pos ⟨K,x,j,od e⟩]) rfl rfl
        ·exact eR (by rw[i,if_neg (fun h=>oe e h.2.2.2)]) rfl
       ·have j:¬(getS s c).1.all (fun b=>b==48||b==49)=true:=fun h=>by
         rw[X.2 h]at d;cases d
        exact eR (by rw[i,if_neg (fun h=>j h.2.2.1)]) rfl
      ·have x:¬((getS s c).1.length:Int)=w*h:=by
        have B:=oe D;rw[<-V];exact B
       clear D;refine useFt (dF F false) ?_;rintro _ _ L ⟨rfl,⟨d,rfl⟩ | ⟨d,rfl⟩⟩
       ·cases d
       ·exact eR (by rw[i,if_neg (fun h=>x h.2.1)]) rfl
     ·rw[if_neg K]at a;obtain⟨rfl,rfl⟩:=a;exact eR (by rw[i,if_neg (fun h=>K h.1)]) rfl
    ·have u:¬p=7:=oe M;rw[if_neg u]at i;refine useFt (dF F (decide (c=(s.length:Int)))) ?_;rintro _ _ L ⟨rfl,⟨e,rfl⟩ | ⟨e,rfl⟩⟩
     ·exact mO (by rw[i,if_pos (od e)]) rfl rfl
     ·exact eR (by rw[i,if_neg (oe e)]) rfl
   ·rw[if_neg f]at a;obtain⟨rfl,rfl⟩:=a;exact eR (by rw[i,if_neg (fun h=>f h.2)]) rfl
  ·rw[if_neg k]at a;obtain⟨rfl,rfl⟩:=a;exact eR (by rw[i,if_neg (fun h=>k h.1)]) rfl
 ·exfalso;have:¬(1<=p/\p<=8):=fun h=>by simp[h]at W
  omega
theorem ybq(b:CFun)(f:TFun)(F:Fz)(s:List UInt8)(p:Int)(c:s.length<=1000000000000000000):Ct prog 129 [.va (.int .i64 p),.va (.str s)] F [] 1 (readK F p s):=by
 by_cases d:1<=p/\p<=8
 ·by_cases a:s=[]
  ·subst a;exact C5 F p d
  ·by_cases e:p=8
   ·subst e;exact C4 F s c a
   ·by_cases g:6<=p
    ·exact CV f F s p oo c a
    ·exact C6 b F s p c oo a
 ·exact DL F s p d
def PFun:Prop:=∀(F:Fz) (n:Int),Fo prog F 78 [.va (.int .i64 n)] (fun o a=>o=.ret (.tup [.va (.str (putIR n).1),.va (.int .i64 (putIR n).2)])/\a=F)
theorem kY(f:PFun)(F:Fz)(s:List UInt8)(i:s.length<=9000000000000000000):Fo prog F 79 [.va (.str s)] (fun o b=>o=.ret (.tup [.va (.str (putSR s).1),.va (.int .i64 (putSR s).2)])/\b=F):=by
 refine foS func79 ?_;refine br (fun g=>?_) (fun g=>?_)
 ·have a:65536 < s.length:=by have e:(65536:Int) < s.length:=(by simpa using g);omega
  exact endFs (.ret (.tup [.va (.str []),.va (.int .i64 10)])) (Fz.r F) ⟨by rw[putSR,if_pos a],rfl⟩
 ·have a:¬65536 < s.length:=by have e:¬(65536:Int) < s.length:=(by simpa using g);omega
  have c:putIR s.length=(putI s.length,0):=by rw[putIR,if_neg oo]
  have d:putSR s=(putI s.length++s,0):=by rw[putSR,if_neg a]
  refine usePs (f F s.length) ?_;conv=>whnf
  have h:=er s.length;refine⟨by omega,?_⟩;exact endFs (.ret (.tup [.va (.str ((putIR s.length).1++s)),.va (.int .i64 0)])) (Fz.r F) ⟨by rw[d,c],rfl⟩
def outC(_ j c:Nat)(l:List UInt8):Ent:=.one (.cells 81 [gA 1 j c l])
variable {j:Nat}
theorem dj{n:Nat}(h:j < n)(i c:Nat)(l:List UInt8):(outC i j c l).below n:=by
 intro a b;simp only[qh,qq,or_false]at b;subst b;cases l with
 |nil=>trivial
 |cons x r=>exact .inr h
abbrev outN(c:Nat)(l:List UInt8):List (Nat×Ent):=[(1,outC 1 3 c l),(2,.gone),(3,gE 5 1 encB c l)]
theorem lr(c:Nat)(l:List UInt8):bH 4 (outN c l):=⟨dj oo _ _ _,tv,aF aB _ _ _ _ _,tv⟩
variable {μ:Mu}
theorem lP{j':Nat}(h:μ j 0=(j',0))(i c:Nat)(l:List UInt8):(outC i j c l).ren μ=outC i j' c l:=by
 show Ent.one (.cells _ [(gA 1 j c l).ren μ])=_;rw[ng h];rfl
variable {c i:Nat}
theorem ku{j':Nat}(h:μ j 0=(j',0)){i':Nat}{l:List UInt8}:subE (some (outC i' j' c l)) ((outC i j c l).ren μ):=by rw[lP h];exact rfl
theorem lO{j':Nat}(h:μ j 0=(j',0)){n:Nat}{x:UInt8}{l:List UInt8}(a:n=l.length+1):subE (some (.one (.cells 81 [.slice false j' 0 0 1 n c]))) ((outC i j c (x::l)).ren μ):=by
 subst a;rw[lP h];exact rfl
abbrev outH(c:Nat)(l:List UInt8):List (Nat×Ent):=[(1,outC 1 2 c l),(2,gE 5 1 encB c l)]
theorem qF(k:PFun)(F:Fz)(s out:List UInt8)(c:Nat)(l:s.length<=9000000000000000000)(f:out.length<=1000000000000):
  Ct prog 197 [.va (.str s),.va (.ptr ⟨1,0,0,0,0⟩)] F (outH c out) 3
   (fun o g h n0=>F=g/\n0=4/\o=.ret (.tup [])/\∃c',h=outN c' (out++(putSR s).1)):=by
 have a:=kY k F s l;have e:=ek s;obtain⟨t,m⟩:∃t,(putSR s).1=t:=⟨_,rfl⟩
 rw[m]at a e ⊢;rcases out with _ | ⟨x,r⟩
 ·rcases t with _ | ⟨b,t⟩
  ·refine ctS func197 ?_;refine usePs (a) ?_;refine⟨rfl,rfl,?_⟩;exact clean [(3,2)] (.ret (.tup [])) F (outN c []) 4 ⟨Fz.r F,rfl,rfl,rfl,c,rfl⟩ trivial rfl rfl (Out.bB_ok (o:=.ret (.tup [])) rfl) (lr _ _) ⟨Fz.r F,rfl,aQ aB (bF _ _ _ _),tv⟩
  ·refine ctS func197 ?_;refine usePs (a) ?_;refine⟨rfl,rfl,by show((t.map fun b:UInt8=>[SA.int .u8 b.toNat]).length+1)*1<=140737488355328;rw[qa];simp at e;omega,fun c' d=>?_⟩;clear d;exact clean [(3,3)] (.ret (.tup [])) F (outN c' (b::t)) 4 ⟨Fz.r F,rfl,rfl,rfl,c',rfl⟩ trivial rfl rfl (Out.bB_ok (o:=.ret (.tup [])) rfl) (lr _ _) ⟨Fz.r F,lO (i:=1) (j:=3) (j':=3) (by rfl) ss,aQ aB (aZ _ (by rfl)),tv⟩
 ·replace f:r.length+1<=1000000000000:=f;refine ctS func197 ?_;refine usePs (a) ?_;refine⟨rfl,rfl,by simp,rfl,by rw[qa];show(r.length+1+t.length)*1<=140737488355328;omega,fun c' d=>?_⟩;clear d;exact clean [(3,3)] (.ret (.tup [])) F (outN c' (x::(r++t))) 4 ⟨Fz.r F,rfl,rfl,rfl,c',rfl⟩ trivial rfl rfl (Out.bB_ok (o:=.ret (.tup [])) rfl) (lr _ _) ⟨Fz.r F,lO (i:=1) (j:=3) (j':=3) (by rfl) (by rw[qa,qb];omega),aQ aB (aZ _ (by show((x::r).map encB)++(t.map encB)=(x::(r++t)).map encB;simp)),tv⟩
theorem ie(L:PFun)(F:Fz)(G:SA)(l:List Int)(out:List UInt8)(c:Nat)(M:dX F G l)(W:l.length < 1000000)(Y:out.length<=1000000000000):
  Ct prog 196 [.va G,.va (.ptr ⟨1,0,0,0,0⟩)] F (outH c out) 3
   (fun o I J n0=>F=I/\n0=4/\o=.ret (.tup [])/\∃c',J=outN c' (out++aA l)):=by
 obtain⟨U,R,T,S,Q,V,rfl,d,m,O,p⟩:=M;refine ctS func196 ?_;conv=>whnf
 refine aH hΘ (X:={ x:Nat×List UInt8×Nat // x.1<=l.length/\x.2.1=out++((l.take x.1).map fun n=>(putIR n).1).flatten }) (fun x=>[(9,.va (.int .i64 x.1.1))]) (4::5::6::jr 10 12 [])
  (fun x=>[(0,.frz F),(1,outC 1 3 x.1.2.2 x.1.2.1),(2,.gone),(3,gE 5 1 encB x.1.2.2 x.1.2.1)]) 4 (fun x=>l.length - x.1.1) ⟨(0,out,c),by simp⟩
  (fun q s=>leI [(3,2)] q s rfl ⟨tv,dj oo _ _ _,tv,aF aB _ _ _ _ _,tv⟩ ⟨rfl,tv⟩ ⟨Fz.r F,ku (i:=1) (i':=1) (j:=3) (j':=2) (by rfl),aQ aB (bF _ _ _ _),tv⟩) ?_
 rintro⟨⟨k,ob,B⟩,E,e⟩ q s;replace E:k<=l.length:=E;replace e:ob=out++((l.take k).map fun n=>(putIR n).1).flatten:=e
 have h:ob.length<=1000009000000:=by
  have K:=gP er (l.take k);rw[qk]at K;rw[e,qb];omega
 refine br (fun y=>?_) (fun y=>?_)
 ·have a:k < l.length:=by simpa using y
  clear y;have g:=L F l[k];have A:∃t,(putIR l[k]).1=t:=⟨_,rfl⟩
  obtain⟨t,A⟩:=A;have w:=er l[k];have f:ob++t=out++((l.take (k+1)).map fun n=>(putIR n).1).flatten:=by rw[eN a,A,e,qj]
  rw[A]at g w;rcases ob with _ | ⟨x,r⟩
  ·rcases t with _ | ⟨b,t⟩
   ·refine⟨Sl.lt d a,⟨by simp,by simpa using a⟩,_,m (Sl.lt d a),_,Sl.at p a,?_⟩;refine usePs (g) ?_;refine⟨rfl,rfl,?_⟩;exact⟨⟨(k+1,[],B),by show k+1<=l.length;omega,f⟩,by show l.length - (k+1) < l.length - k;omega,leR [(3,3)] q s rfl ⟨tv,dj oo _ _ _,tv,aF aB _ _ _ _ _,tv⟩ ⟨cnt oo,tv⟩ ⟨Fz.r F,rfl,aQ aB (bF _ _ _ _),tv⟩⟩
   ·refine⟨Sl.lt d a,⟨by simp,by simpa using a⟩,_,m (Sl.lt d a),_,Sl.at p a,?_⟩;refine usePs (g) ?_;refine⟨rfl,rfl,by show((t.map fun b:UInt8=>[SA.int .u8 b.toNat]).length+1)*1<=140737488355328;rw[qa];simp at w;omega,fun c' D=>?_⟩;clear D;exact⟨⟨(k+1,b::t,c'),by show k+1<=l.length;omega,f⟩,by show l.length - (k+1) < l.length - k;omega,leR [(3,4)] q s rfl ⟨tv,dj oo _ _ _,tv,aF aB _ _ _ _ _,tv⟩ ⟨cnt oo,tv⟩ ⟨Fz.r F,lO (i:=1) (j:=3) (j':=4) (by rfl) ss,aQ aB (aZ _ (by rfl)),tv⟩⟩
  ·replace h:r.length+1<=1000009000000:=h;refine⟨Sl.lt d a,⟨by simp,by simpa using a⟩,_,m (Sl.lt d a),_,Sl.at p a,?_⟩;refine usePs (g) ?_;refine⟨rfl,rfl,by simp,rfl,by rw[qa];show(r.length+1+t.length)*1<=140737488355328;omega,fun c' D=>?_⟩;clear D;exact⟨⟨(k+1,x::(r++t),c'),by show k+1<=l.length;omega,f⟩,by show l.length - (k+1) < l.length - k;omega,leR [(3,4)] q s rfl ⟨tv,dj oo _ _ _,tv,aF aB _ _ _ _ _,tv⟩ ⟨cnt oo,tv⟩ ⟨Fz.r F,lO (i:=1) (j:=3) (j':=4) (by rfl) (by rw[qa,qb];omega),aQ aB (aZ _ (by show((x::r).map encB)++(t.map encB)=(x::(r++t)).map encB;simp)),tv⟩⟩
 ·have a:¬k < l.length:=by simpa using y
  have u:ob=out++aA l:=by rw[e,aA,ql oo]
  exact clean [(3,3)] (.ret (.tup [])) F (outN B ob) 4 ⟨Fz.r F,rfl,rfl,rfl,B,by rw[u]⟩ trivial rfl rfl (Out.bB_ok (o:=.ret (.tup [])) rfl) (lr _ _) ⟨Fz.r F,ku (i:=1) (i':=1) (j:=3) (j':=3) (by rfl),aQ aB (bF _ _ _ _),tv⟩
def lineW(p:Int)(x:Ln):List UInt8:=(if p=1 then(putSR x.1).1 else [])++aA x.2
def bI(p:Int)(v:Val):List UInt8:=
 if v.lost=true then []else
 if 6<=p then aA [v.w,v.h]++(if p=7 then(putSR v.bits).1 else [])else
 aA [(v.lines.length:Int)]++(v.lines.map (lineW p)).flatten
theorem du(l:List Int):(aA l).length<=9*l.length:=gP er l
abbrev valH(v:Val)(c:Nat)(caps:Nat->Nat):List (Nat×Ent):=[(1,bG 2 caps c v.lines),(2,famE caps v.lines)]
variable {caps:Nat->Nat}
theorem ee{B B':Nat}{l:List Ln}(h:∀k,μ B k=(B',k)):subE (some (bG B' caps c l)) ((bG B caps c l).ren μ):=
 ⟨rfl,congrArg (fun L=>SB.arr 259 2 L c) (io (m:=l.length) (fun k _=>⟨h k,rfl⟩) 0 l oo).symm⟩
theorem rK(v:Val)(c:Nat)(caps:Nat->Nat):bH 3 (valH v c caps):=⟨c8 oo _ _ _,c9 _ _ _,tv⟩
theorem convR(μ:Mu)(l:List UInt8)(n:Nat)(a:n=l.length):(((l.map encB).map (List.map (SA.ren μ))).drop 0).take n=l.map encB:=by
 subst a;have h:(l.map encB).map (List.map (SA.ren μ))=l.map encB:=by rw[jq];exact jp fun x _=>rfl
 rw[h,y8,ql ss]
theorem cU{α:Type}{e:α->List SA}(a:Plain e){t sz:Nat}{τ:Mu}{l:List α}:subE (some ((gE t sz e c l).ren τ)) ((gE t sz e c l).ren μ):=by rw[kJ a,kJ a];exact bF _ _ _ _
variable {p:Int}{t:List UInt8}
theorem eU{F F1:Fz}{v:Val}{h:Hp}{nx:Nat}(f:t=bI p v)(b:Fz.le F F1)(a:lget h 0=some (.frz F1))(h1:lget h 1=some (bG 2 caps c v.lines))(e:lget h 2=some (famE caps v.lines)):
  Cln 3 (fun o d a n0=>Fz.le F d/\(n0=3/\o=.ret (.va (.str (bI p v)))/\a=valH v c caps)) (.ret (.va (.str t))) h nx:=
 clean [] (.ret (.va (.str t))) F1 (valH v c caps) 3 ⟨b,rfl,by rw[f],rfl⟩ rfl rfl rfl trivial (rK _ _ _)
  ⟨by show subE (lget h 0) (.frz F1);rw[a];exact Fz.r F1,by show subE (lget h 1) ((bG 2 caps c v.lines).ren (sig []));rw[h1];exact ee (fun k=>rfl),by show subE (lget h 2) ((famE caps v.lines).ren (sig []));rw[e];exact dW,tv⟩
theorem Dh(F:Fz)(v:Val)(c:Nat)(caps:Nat->Nat)(p:Int)(b:v.lost=true):
  Ct prog 131 [valV v 1 c,.va (.int .i64 p)] F (valH v c caps) 3 (fun o _ e n0=>n0=3/\o=.ret (.va (.str (bI p v)))/\e=valH v c caps):=by
 obtain⟨a,d,w,h,bits⟩:=v;replace b:a=true:=b;subst b;refine ctS func131 ?_;exact eU (by rw[bI,if_pos rfl]) (Fz.r F) rfl rfl rfl
theorem CL(M:PFun)(F:Fz)(v:Val)(c:Nat)(caps:Nat->Nat)(p:Int)(Q:v.lost=false)(T:p=6\/p=7\/p=8)(R:v.bits.length<=70000):
  Ct prog 131 [valV v 1 c,.va (.int .i64 p)] F (valH v c caps) 3 (fun o _ j n0=>n0=3/\o=.ret (.va (.str (bI p v)))/\j=valH v c caps):=by
 obtain⟨J,e,w,h,bits⟩:=v;replace Q:J=false:=Q;subst Q;replace R:bits.length<=70000:=R;have E:bI p ⟨false,e,w,h,bits⟩=aA [w,h]++(if p=7 then(putSR bits).1 else []):=by rw[bI,if_neg ss,if_pos oo]
 obtain⟨K,i⟩:∃K,[]++aA [w,h]=K:=⟨_,rfl⟩
 have I:K.length<=100:=by rw[<-i];have:=du [w,h];simp at this ⊢;omega
 refine ctS func131 ?_;refine br (fun _=>?_) (fun g=>absurd (oe g) oo);refine bS 5 (fun _=>.arr 3 1 ([w,h].map encI) 2) ?_;intro S F1 G O;have s:=ie M F1 _ [w,h] [] 0 (Sl.new (l:=[w,h]) (cap:=2) (O 0 rfl)) ss ss;rw[i]at s;have B:∃A,K++(putSR bits).1=A:=⟨_,rfl⟩
 rcases K with _ | ⟨x,r⟩
 ·skip
  refine useS s [(1,4),(2,5)] ⟨dj oo _ _ _,aF aB _ _ _ _ _,tv⟩ ⟨rfl,rfl,tv⟩ ?_;rintro b u j n0 m ⟨rfl,rfl,rfl,f,rfl⟩;refine br (fun D=>?_) (fun D=>?_)
  ·have d:p=7:=od D;obtain⟨A,n⟩:=B;have k:A=bI p ⟨false,e,w,h,bits⟩:=by rw[E,if_pos d,<-qv (aA [w,h]),i];exact n.symm
   have a:∀f,Ct prog 197 [.va (.str bits),.va (.ptr ⟨1,0,0,0,0⟩)] F1 (outH f []) 3 (fun o u j n0=>F1=u/\n0=4/\o=.ret (.tup [])/\∃c',j=outN c' A):=fun f=>by
    have:=qF M F1 bits [] f oo (q8 I oo);rw[n]at this;exact this
   conv=>whnf
   rcases A with _ | ⟨y,q⟩
   ·refine useS (a f) [(1,4),(2,6)] ⟨dj oo _ _ _,aF aB _ _ _ _ _,tv⟩ ⟨rfl,cU aB,tv⟩ ?_;rintro b u j n0 m ⟨rfl,rfl,rfl,L,rfl⟩;exact eU k G rfl rfl rfl
   ·refine useS (a f) [(1,4),(2,6)] ⟨dj oo _ _ _,aF aB _ _ _ _ _,tv⟩ ⟨rfl,cU aB,tv⟩ ?_;rintro b u j n0 m ⟨rfl,rfl,rfl,L,rfl⟩;refine⟨rfl,by simp,(y::q).map encB,convR _ (y::q) _ rfl,y::q,rfl,?_⟩;exact eU k G rfl rfl rfl
  ·have d:¬p=7:=oe D;rw[if_neg d,qy]at E;exact eU (by rw[E];exact i.symm) G rfl rfl rfl
 ·skip
  refine useS s [(1,4),(2,5)] ⟨dj oo _ _ _,aF aB _ _ _ _ _,tv⟩ ⟨rfl,rfl,tv⟩ ?_;rintro b u j n0 m ⟨rfl,rfl,rfl,f,rfl⟩;refine br (fun D=>?_) (fun D=>?_)
  ·have d:p=7:=od D;obtain⟨A,n⟩:=B;have k:A=bI p ⟨false,e,w,h,bits⟩:=by rw[E,if_pos d,<-qv (aA [w,h]),i];exact n.symm
   have a:∀f,Ct prog 197 [.va (.str bits),.va (.ptr ⟨1,0,0,0,0⟩)] F1 (outH f (x::r)) 3 (fun o u j n0=>F1=u/\n0=4/\o=.ret (.tup [])/\∃c',j=outN c' A):=fun f=>by
    have:=qF M F1 bits (x::r) f oo (q8 I oo);rw[n]at this;exact this
   conv=>whnf
   rcases A with _ | ⟨y,q⟩
   ·refine useS (a f) [(1,4),(2,6)] ⟨dj oo _ _ _,aF aB _ _ _ _ _,tv⟩ ⟨rfl,cU aB,tv⟩ ?_;rintro b u j n0 m ⟨rfl,rfl,rfl,L,rfl⟩;exact eU k G rfl rfl rfl
   ·refine useS (a f) [(1,4),(2,6)] ⟨dj oo _ _ _,aF aB _ _ _ _ _,tv⟩ ⟨rfl,cU aB,tv⟩ ?_;rintro b u j n0 m ⟨rfl,rfl,rfl,L,rfl⟩;refine⟨rfl,by simp,(y::q).map encB,convR _ (y::q) _ rfl,y::q,rfl,?_⟩;exact eU k G rfl rfl rfl
  ·have d:¬p=7:=oe D;rw[if_neg d,qy]at E;refine⟨rfl,by simp,(x::r).map encB,convR _ (x::r) _ rfl,x::r,rfl,?_⟩;exact eU (by rw[E];exact i.symm) G rfl rfl rfl
theorem jV{τ:Mu}{a b i':Nat}{l:List UInt8}(h:τ a 0=(j,0))(d:μ b 0=(j,0)):subE (some ((outC i' a c l).ren τ)) ((outC i b c l).ren μ):=by
 rw[lP h,lP d];exact rfl
theorem zm{x:Ln}(h:x.2.length<=1000):(lineW p x).length<=74545:=by
 unfold lineW;have h1:=ek x.1;have a:=du x.2;rw[qb];split
 ·omega
 ·simp;omega
theorem oy{p:Int}:∀(l:List Ln),(∀x∈l,x.2.length<=1000)->(l.map (lineW p)).flatten.length<=74545*l.length
 |[],_=>by simp
 |x::r,h=>by
  have h1:=zm (p:=p) (h x ss);have b:=oy (p:=p) r (fun y a=>h y (by simp[a]));simp only[qw,jm,qb,qe];omega
theorem CT(T:PFun)(F:Fz)(L:List Ln)(w h:Int)(bits:List UInt8)(c:Nat)(caps:Nat->Nat)(p:Int)(hp:¬6<=p)(ac:L≠[])(hl:L.length<=1000)(hx:∀x∈L,x.1.length<=70000/\x.2.length<=1000):
  Ct prog 131 [valV ⟨false,L,w,h,bits⟩ 1 c,.va (.int .i64 p)] F (valH ⟨false,L,w,h,bits⟩ c caps) 3 (fun o _ G n0=>n0=3/\o=.ret (.va (.str (bI p ⟨false,L,w,h,bits⟩)))/\G=valH ⟨false,L,w,h,bits⟩ c caps):=by
 have hW:bI p ⟨false,L,w,h,bits⟩=aA [(L.length:Int)]++(L.map (lineW p)).flatten:=by rw[bI,if_neg ss,if_neg hp]
 rcases L with _ | ⟨a0,ar⟩
 ·exact absurd rfl ac
 refine ctS func131 ?_;refine brj hp ?_;refine bS 5 (fun _=>.arr 3 1 ([((ar.length+1:Nat):Int)].map encI) 1) ?_;intro b1 F1 l1 aa;have W:=ie T F1 _ [((ar.length+1:Nat):Int)] [] 0 (Sl.new (l:=[((ar.length+1:Nat):Int)]) (cap:=1) (aa 0 rfl)) ss ss;refine useS W [(1,4),(2,5)] ⟨dj oo _ _ _,aF aB _ _ _ _ _,tv⟩ ⟨rfl,rfl,tv⟩ ?_;rintro g S G n0 B ⟨rfl,rfl,rfl,c1,rfl⟩;conv=>whnf
 refine aH hΘ (X:={ x:Nat×List UInt8×Nat // x.1<=ar.length+1/\x.2.1=aA [((ar.length+1:Nat):Int)]++(((a0::ar).take x.1).map (lineW p)).flatten }) (fun x=>[(21,.va (.int .i64 x.1.1))]) (9::jr 22 14 [])
  (fun x=>[(0,.frz F1),(1,bG 2 caps c (a0::ar)),(2,famE caps (a0::ar)),(4,outC 1 7 x.1.2.2 x.1.2.1),(6,.gone),(7,gE 5 1 encB x.1.2.2 x.1.2.1)]) 8 (fun x=>ar.length+1 - x.1.1) ⟨(0,[]++aA [((ar.length+1:Nat):Int)],c1),by simp⟩
  (fun Y Z=>leI [(7,6)] Y Z rfl ⟨tv,c8 oo _ _ _,c9 _ _ _,dj oo _ _ _,tv,aF aB _ _ _ _ _,tv⟩ ⟨rfl,tv⟩ ⟨Fz.r F1,ee (fun k=>rfl),dW (μ:=sig [(7,6)]) (caps:=caps) (l:=a0::ar),jV (i:=1) (i':=1) (a:=3) (b:=7) (j:=6) (by rfl) (by rfl),cU aB,tv⟩) ?_
 rintro⟨⟨k,ob,cb⟩,hk,D⟩ Y Z;replace hk:k<=ar.length+1:=hk;replace D:ob=aA [((ar.length+1:Nat):Int)]++(((a0::ar).take k).map (lineW p)).flatten:=D
 have af:ob.length<=100000000000:=by
  have h1:=du [((ar.length+1:Nat):Int)];have h2:=oy (p:=p) ((a0::ar).take k) (fun x ad=>(hx x (yh ad)).2);have h3:((a0::ar).take k).length<=1000:=by rw[qk];omega
  rw[D,qb];simp only[qe,qu]at h1;omega
 refine br (fun V=>?_) (fun V=>?_)
 ·have gk:k < ar.length+1:=by
   have G:(k:Int) < ((ar.length+1:Nat):Int):=od V;omega
  clear V;have O:k < (a0::ar).length:=gk;have E:=hx _ (qx O);have ab:∃t n,(a0::ar)[k]=(t,n):=⟨_,_,rfl⟩
  obtain⟨t,n,A⟩:=ab;rw[A]at E;replace E:t.length<=70000/\n.length<=1000:=E;have R:=gD 2 caps 0 (a0::ar) k (t,n) (by rw[qc O,A])
  have e:(ob++(if p=1 then(putSR t).1 else []))++aA n=aA [((ar.length+1:Nat):Int)]++(((a0::ar).take (k+1)).map (lineW p)).flatten:=by
   rw[eN O,A,lineW,D];simp only[qj]
  refine⟨rfl,⟨by simp,by show(k:Int) < ((ar.length+1:Nat):Int);omega⟩,rfl,_,by show(bM 2 caps 0 (a0::ar))[0+(k:Int).toNat]? =_;rw[q9,qn];exact R,?_⟩;refine br (fun g1=>?_) (fun g1=>?_)
  ·have M:p=1:=od g1;rw[if_pos M]at e;have ag:=ek t;have d:(ob++(putSR t).1).length<=1000000000000:=by rw[qb];omega
   refine useS (qF T F1 t ob cb oo oo) [(1,4),(2,7)] ⟨dj oo _ _ _,aF aB _ _ _ _ _,tv⟩ ⟨ku (i:=1) (i':=1) (j:=2) (j':=7) (by rfl),aQ aB (bF _ _ _ _),tv⟩ ?_;rintro g S G n1 B ⟨rfl,rfl,rfl,c2,rfl⟩;rcases n with _ | ⟨n0,I⟩
   case' nil=>
    refine useS (ie T F1 _ [] (ob++(putSR t).1) c2 Sl.nil ss d) [(1,4),(2,9)] ⟨dj oo _ _ _,aF aB _ _ _ _ _,tv⟩ ⟨jV (i:=1) (i':=1) (a:=3) (b:=2) (j:=9) (by rfl) (by rfl),cU aB,tv⟩ ?_;rintro g S G n1 B ⟨rfl,rfl,rfl,U,rfl⟩;conv=>whnf
   case' cons=>
    refine lend 2 (fun k=>(famE caps (a0::ar)).at k) rfl rfl rfl (fun k _=>ej _ _ _) (fun k _=>ef _ _ _) ?_;intro bf K ae Q;have s:=iS caps (l:=a0::ar) (k:=k) (x:=(t,n0::I)) (by rw[qc O,A]);have u:(famE caps (a0::ar)).has k:=⟨O,by show(!((((a0::ar).map (·.2)).getD k []).isEmpty))=true;rw[s];rfl⟩
    have f:K (bf k)=some ((famE caps (a0::ar)).at k):=Q k u;have m:(famE caps (a0::ar)).at k=.arr 3 1 ((n0::I).map encI) (caps k):=by show SB.arr 3 1 ((((a0::ar).map (·.2)).getD k []).map encI) (caps k)=_;rw[s]
    rw[m,<-q9 k]at f;refine useS (ie T K _ (n0::I) (ob++(putSR t).1) c2 (Sl.new (l:=n0::I) (cap:=caps (0+k)) f) (by simp at E ⊢;omega) d) [(1,4),(2,9)] ⟨dj oo _ _ _,aF aB _ _ _ _ _,tv⟩ ⟨jV (i:=1) (i':=1) (a:=3) (b:=2) (j:=9) (by rfl) (by rfl),cU aB,tv⟩ ?_;rintro g S G n1 B ⟨rfl,rfl,rfl,U,rfl⟩;refine⟨K,rfl,Fz.r _,rfl,?_⟩;conv=>whnf
   all_goals
    exact⟨⟨(k+1,_++aA _,U),by show k+1<=ar.length+1;omega,e⟩,by show ar.length+1 - (k+1) < ar.length+1 - k;omega,
     leR [(7,10)] Y Z rfl ⟨tv,c8 oo _ _ _,c9 _ _ _,dj oo _ _ _,tv,aF aB _ _ _ _ _,tv⟩ ⟨cnt oo,tv⟩
     ⟨Fz.r F1,ee (fun k=>rfl),dW (μ:=sig [(7,10)]) (caps:=caps) (l:=a0::ar),jV (i:=1) (i':=1) (a:=3) (b:=7) (j:=10) (by rfl) (by rfl),cU aB,tv⟩⟩
  ·have M:¬p=1:=oe g1;rw[if_neg M,qy]at e;have d:ob.length<=1000000000000:=by omega
   rcases n with _ | ⟨n0,I⟩
   case' nil=>
    refine useS (ie T F1 _ [] (ob) cb Sl.nil ss d) [(1,4),(2,7)] ⟨dj oo _ _ _,aF aB _ _ _ _ _,tv⟩ ⟨ku (i:=1) (i':=1) (j:=2) (j':=7) (by rfl),aQ aB (bF _ _ _ _),tv⟩ ?_;rintro g S G n1 B ⟨rfl,rfl,rfl,U,rfl⟩;conv=>whnf
   case' cons=>
    refine lend 2 (fun k=>(famE caps (a0::ar)).at k) rfl rfl rfl (fun k _=>ej _ _ _) (fun k _=>ef _ _ _) ?_;intro bf K ae Q;have s:=iS caps (l:=a0::ar) (k:=k) (x:=(t,n0::I)) (by rw[qc O,A]);have u:(famE caps (a0::ar)).has k:=⟨O,by show(!((((a0::ar).map (·.2)).getD k []).isEmpty))=true;rw[s];rfl⟩
    have f:K (bf k)=some ((famE caps (a0::ar)).at k):=Q k u;have m:(famE caps (a0::ar)).at k=.arr 3 1 ((n0::I).map encI) (caps k):=by show SB.arr 3 1 ((((a0::ar).map (·.2)).getD k []).map encI) (caps k)=_;rw[s]
    rw[m,<-q9 k]at f;refine useS (ie T K _ (n0::I) (ob) cb (Sl.new (l:=n0::I) (cap:=caps (0+k)) f) (by simp at E ⊢;omega) d) [(1,4),(2,7)] ⟨dj oo _ _ _,aF aB _ _ _ _ _,tv⟩ ⟨ku (i:=1) (i':=1) (j:=2) (j':=7) (by rfl),aQ aB (bF _ _ _ _),tv⟩ ?_;rintro g S G n1 B ⟨rfl,rfl,rfl,U,rfl⟩;refine⟨K,rfl,Fz.r _,rfl,?_⟩;conv=>whnf
   all_goals
    exact⟨⟨(k+1,_++aA _,U),by show k+1<=ar.length+1;omega,e⟩,by show ar.length+1 - (k+1) < ar.length+1 - k;omega,
     leR [(7,9)] Y Z rfl ⟨tv,c8 oo _ _ _,c9 _ _ _,dj oo _ _ _,tv,aF aB _ _ _ _ _,tv⟩ ⟨cnt oo,tv⟩
     ⟨Fz.r F1,ee (fun k=>rfl),dW (μ:=sig [(7,9)]) (caps:=caps) (l:=a0::ar),jV (i:=1) (i':=1) (a:=3) (b:=7) (j:=9) (by rfl) (by rfl),cU aB,tv⟩⟩
 ·have gk:k=ar.length+1:=by
   have G:¬(k:Int) < ((ar.length+1:Nat):Int):=oe V;omega
  clear V
  have J:ob=bI p ⟨false,a0::ar,w,h,bits⟩:=by
   rw[hW,D,gk];have:(a0::ar).take (ar.length+1)=a0::ar:=ql ss;rw[this];rfl
  rcases ob with _ | ⟨y,q⟩
  ·exact eU J l1 rfl rfl rfl
  ·refine⟨rfl,by simp,(y::q).map encB,by show(((y::q).map encB).drop 0).take (q.length+1)=_;rw[y8,ql ss],y::q,rfl,?_⟩;exact eU J l1 rfl rfl rfl
theorem Di(s:PFun)(F:Fz)(w h:Int)(bits:List UInt8)(c:Nat)(caps:Nat->Nat)(p:Int)(m:¬6<=p):
  Ct prog 131 [valV ⟨false,[],w,h,bits⟩ 1 c,.va (.int .i64 p)] F (valH ⟨false,[],w,h,bits⟩ c caps) 3 (fun o _ d n0=>n0=3/\o=.ret (.va (.str (bI p ⟨false,[],w,h,bits⟩)))/\d=valH ⟨false,[],w,h,bits⟩ c caps):=by
 have e:bI p ⟨false,[],w,h,bits⟩=[]++aA [0]:=by rw[bI,if_neg ss,if_neg m];exact qy (aA [0])
 obtain⟨j,i⟩:∃j,[]++aA [0]=j:=⟨_,rfl⟩
 refine ctS func131 ?_;refine brj m ?_;refine bS 5 (fun _=>.arr 3 1 ([(0:Int)].map encI) 1) ?_;intro u F1 n f;have a:=ie s F1 _ [0] [] 0 (Sl.new (l:=[(0:Int)]) (cap:=1) (f 0 rfl)) ss ss;rw[i]at a e;rcases j with _ | ⟨x,r⟩
 ·refine useS a [(1,4),(2,5)] ⟨dj oo _ _ _,aF aB _ _ _ _ _,tv⟩ ⟨rfl,rfl,tv⟩ ?_;rintro b k d n0 g ⟨rfl,rfl,rfl,q,rfl⟩;conv=>whnf
  refine rounds hΘ 1 ?_;refine brd dd ?_;exact eU e.symm n rfl rfl rfl
 ·refine useS a [(1,4),(2,5)] ⟨dj oo _ _ _,aF aB _ _ _ _ _,tv⟩ ⟨rfl,rfl,tv⟩ ?_;rintro b k d n0 g ⟨rfl,rfl,rfl,q,rfl⟩;conv=>whnf
  refine rounds hΘ 1 ?_;refine brd dd ⟨rfl,by simp,(x::r).map encB,convR _ (x::r) _ rfl,x::r,rfl,?_⟩;exact eU e.symm n rfl rfl rfl
structure Fits(v:Val):Prop where
 h1:v.lines.length<=1000
 h2:∀x∈v.lines,x.1.length<=70000/\x.2.length<=1000
 h3:v.bits.length<=70000
theorem Ck(e:PFun)(F:Fz)(v:Val)(c:Nat)(caps:Nat->Nat)(p:Int)(f:Fits v)(k:p<=8):
  Ct prog 131 [valV v 1 c,.va (.int .i64 p)] F (valH v c caps) 3 (fun o _ i n0=>n0=3/\o=.ret (.va (.str (bI p v)))/\i=valH v c caps):=by
 by_cases a:v.lost=true
 ·exact Dh F v c caps p a
 ·have a:v.lost=false:=by simpa using a
  by_cases g:6<=p
  ·exact CL e F v c caps p a oo f.h3
  ·obtain⟨d,L,w,h,bits⟩:=v;replace a:d=false:=a;subst a;by_cases b:L=[]
   ·subst b;exact Di e F w h bits c caps p g
   ·exact CT e F L w h bits c caps p g b f.h1 f.h2
theorem wN(r:List Int):∀x:Int,(r.foldl (fun m x=>if x < m then x else m) x∈x::r)/\∀y∈x::r,r.foldl (fun m x=>if x < m then x else m) x<=y:=by
 induction r with
 |nil=>intro x;simp
 |cons a r ih=>
  intro x;obtain⟨h1,b⟩:=ih (if a < x then a else x);simp only[qai];refine⟨?_,?_⟩
  ·rcases qh.1 h1 with h | h
   ·rw[h];split<;>simp
   ·exact ym _ (ym _ h)
  ·intro y hy;have c:=b _ qbk;rcases qh.1 hy with rfl | hy
   ·refine qa4 c ?_;split<;>omega
   ·rcases qh.1 hy with rfl | hy
    ·refine qa4 c ?_;split<;>omega
    ·exact b y (ym _ hy)
theorem wO(r:List Int):∀x:Int,(r.foldl (fun m x=>if x>m then x else m) x∈x::r)/\∀y∈x::r,y<=r.foldl (fun m x=>if x>m then x else m) x:=by
 induction r with
 |nil=>intro x;simp
 |cons a r ih=>
  intro x;obtain⟨h1,b⟩:=ih (if a>x then a else x);simp only[qai];refine⟨?_,?_⟩
  ·rcases qh.1 h1 with h | h
   ·rw[h];split<;>simp
   ·exact ym _ (ym _ h)
  ·intro y hy;have c:=b _ qbk;rcases qh.1 hy with rfl | hy
   ·refine qa4 ?_ c;split<;>omega
   ·rcases qh.1 hy with rfl | hy
    ·refine qa4 ?_ c;split<;>omega
    ·exact b y (ym _ hy)
variable {s:List Int}
theorem hU(h:s≠[]):mn s∈s:=by
 cases s with
 |nil=>exact absurd rfl h
 |cons x r=>exact(wN r x).1
theorem mn_le{y:Int}(h:y∈s):mn s<=y:=by
 cases s with
 |nil=>cases h
 |cons x r=>exact(wN r x).2 y h
theorem kO(h:s≠[]):mx s∈s:=by
 cases s with
 |nil=>exact absurd rfl h
 |cons x r=>exact(wO r x).1
theorem le_mx{y:Int}(h:y∈s):y<=mx s:=by
 cases s with
 |nil=>cases h
 |cons x r=>exact(wO r x).2 y h
theorem mn_eq{m:Int}(h:m∈s)(a:∀y∈s,m<=y):mn s=m:=
 Int.le_antisymm (mn_le h) (a _ (hU (by intro e;rw[e]at h;cases h)))
theorem mx_eq{m:Int}(h:m∈s)(a:∀y∈s,y<=m):mx s=m:=
 Int.le_antisymm (a _ (kO (by intro e;rw[e]at h;cases h))) (le_mx h)
theorem fy(κ:Int)(a b:List Stp):sel κ (a++b)=sel κ a++sel κ b:=by simp[sel]
variable {κ:Int}{l:List Stp}
theorem ya5{ν:Int}:ν∈sel κ l↔(κ,ν)∈l:=by
 simp only[sel,qz,qdl,decide_eq_true_eq];constructor
 ·rintro⟨⟨k,n⟩,⟨h1,a⟩,b⟩;simp only at a b;subst a;subst b;exact h1
 ·intro h;exact⟨(κ,ν),⟨h,rfl⟩,rfl⟩
theorem gU(h:aN p l=true):∀s∈l,bA p s=true:=by
 simp only[aN,qd]at h;exact fun s a=>qp.1 h.2.2 s a
theorem kC(h:aN p l=true):1<=p/\p<=8:=by
 simp only[aN,qd,decide_eq_true_eq]at h;exact h.1
theorem Ch(b:1<=p/\p<=8)(a:l.length<=64)(h:∀s∈l,bA p s=true):aN p l=true:=by
 simp only[aN,qd,decide_eq_true_eq];exact⟨b,a,qp.2 h⟩
theorem ybf{ν:Int}(h:bA p (κ,ν)=true)(a:κ≠3/\κ≠4):ν=0:=by
 simp only[bA,numOk,a.1,a.2,if_false,qd,decide_eq_true_eq]at h;exact h.2.2
theorem py(h:aN p l=true)(a:κ≠3/\κ≠4){ν:Int}(b:ν∈sel κ l):ν=0:=
 ybf (gU h _ (ya5.1 b)) a
theorem zeros(h:∀ν∈s,ν=0):s=List.replicate s.length 0:=List.eq_replicate_of_mem h
theorem jY(h:aN p l=true)(c:κ=1\/κ=2\/κ=3\/κ=4\/κ=5):dH κ (sel κ l)=piece κ (sel κ l):=by
 have one:∀s:List Int,s≠[]->min s.length 1=1:=fun s a=>by
  have:=qa3.2 a;omega
 by_cases a:sel κ l=[]
 ·simp[dH,piece,a]
 ·rcases c with rfl | rfl | rfl | rfl | rfl
  ·have b:=py h dd (hU a);simp[dH,piece,rmost,rnum,a,one _ a,b]
  ·have b:=py h dd (hU a);simp[dH,piece,rmost,rnum,a,one _ a,b]
  ·simp[dH,piece,rmost,rnum,a,one _ a]
  ·simp[dH,piece,rmost,rnum,a,one _ a]
  ·have b:=zeros (s:=sel 5 l) (fun ν d=>py h dd d);have e:piece 5 (sel 5 l)=((sel 5 l).take 5).map (fun n=>((5:Int),n)):=by simp[piece,a]
   rw[e,b,List.take_replicate,List.map_replicate];simp[dH,rmost,rnum,Nat.min_comm]
theorem zP(h:aN p l=true):jA l=normS l:=by
 unfold jA normS dG pieces;rw[jY h (.inl rfl),jY h (.inr (.inl rfl)),jY h (.inr (.inr (.inl rfl))),jY h (.inr (.inr (.inr (.inl rfl)))),jY h (.inr (.inr (.inr (.inr rfl))))];simp only[jm,qaj,qv,qy]
theorem yQ{t:Stp}(h:t∈piece κ s):t.1=κ/\t.2∈s:=by
 unfold piece at h;split at h
 ·cases h
 ·rename_i a;split at h
  ·rename_i b;simp only[qs]at h;subst h;exact⟨b.symm,kO a⟩
  ·split at h
   ·rename_i c;simp only[qz]at h;obtain⟨n,d,rfl⟩:=h;exact⟨c.symm,yh d⟩
   ·simp only[qs]at h;subst h;exact⟨rfl,hU a⟩
def cut(κ:Int)(s:List Int):List Int:=(piece κ s).map (·.2)
theorem zX(κ b:Int)(s:List Int):sel κ (piece b s)=if b=κ then cut κ s else []:=by
 have h1:∀t∈piece b s,t.1=b:=fun t a=>(yQ a).1
 split
 ·rename_i h;subst h;unfold sel cut;rw[List.filter_eq_self.2 (fun t a=>by simp[h1 t a])]
 ·rename_i h;unfold sel;rw[List.filter_eq_nil_iff.2 (fun t a=>by simp[h1 t a,h])];rfl
theorem lS(a:sel 6 l=[])(κ:Int)(b:κ=1\/κ=2\/κ=3\/κ=4\/κ=5\/κ=6):sel κ (normS l)=if κ=6 then []else cut κ (sel κ l):=by
 unfold normS;rw[if_pos a];simp only[pieces,jm,qaj,qv,qy,fy,zX];rcases b with rfl | rfl | rfl | rfl | rfl | rfl<;>simp
theorem yI(κ:Int):cut κ []=[]:=rfl
theorem D4:cut κ s=[]↔s=[]:=by
 constructor
 ·intro h;apply Classical.byContradiction;intro a;unfold cut piece at h;rw[if_neg a]at h;split at h
  ·cases h
  ·split at h
   ·simp at h;exact a h
   ·cases h
 ·rintro rfl;rfl
theorem zG(s t:List Int):piece κ (cut κ s++cut κ t)=piece κ (s++t):=by
 by_cases a:s=[]
 ·subst a;rw[yI,qv,qv];by_cases b:t=[]
  ·subst b;rfl
  ·have j:¬cut κ t=[]:=fun h=>b (D4.1 h)
   by_cases c:κ=3
   ·simp[piece,cut,b,c,mx]
   ·by_cases d:κ=5
    ·subst d;simp[piece,cut,b,Function.comp_def,qbh]
    ·simp[piece,cut,b,c,d,mn]
 ·by_cases b:t=[]
  ·subst b;rw[yI,qy,qy];by_cases c:κ=3
   ·simp[piece,cut,a,c,mx]
   ·by_cases d:κ=5
    ·subst d;simp[piece,cut,a,Function.comp_def,qbh]
    ·simp[piece,cut,a,c,d,mn]
  ·by_cases c:κ=3
   ·subst c
    have e:mx (s++t)=mx ([mx s]++[mx t]):=by
     refine mx_eq ?_ ?_
     ·rcases qh.1 (kO (s:=[mx s]++[mx t]) ss)with h | h
      ·rw[h];exact qa0 _ (kO a)
      ·rw[qs.1 h];exact qbn _ (kO b)
     ·intro y f;rcases yf.1 f with h | h
      ·exact qa4 (le_mx h) (le_mx ss)
      ·exact qa4 (le_mx h) (le_mx ss)
    simp[piece,cut,a,b,e]
   ·by_cases d:κ=5
    ·subst d;have g:∀s:List Int,s≠[]->cut 5 s=s.take 5:=fun s a=>by simp[cut,piece,a,Function.comp_def]
     rw[g s a,g t b];have e:∀u:List Int,u≠[]->piece 5 u=(u.take 5).map (fun n=>((5:Int),n)):=fun u i=>by simp[piece,i]
     rw[e _ (by simp[a]),e _ (by simp[a])]
     congr 1
     rw[List.take_append,List.take_append,qbh,qbh,qk]
     congr 2
     omega
    ·have e:mn (s++t)=mn ([mn s]++[mn t]):=by
      refine mn_eq ?_ ?_
      ·rcases qh.1 (hU (s:=[mn s]++[mn t]) ss)with h | h
       ·rw[h];exact qa0 _ (hU a)
       ·rw[qs.1 h];exact qbn _ (hU b)
      ·intro y f;rcases yf.1 f with h | h
       ·exact qa4 (mn_le ss) (mn_le h)
       ·exact qa4 (mn_le ss) (mn_le h)
     simp[piece,cut,a,b,c,d,e]
theorem xw(h:sel 6 l=[]):normS l=(pieces (sel 1 l) (sel 2 l) (sel 3 l) (sel 4 l) (sel 5 l)).flatten:=if_pos h
theorem iC(h:sel 6 l≠[]):normS l=[(6,0)]:=if_neg h
theorem xO:sel 6 [((6:Int),(0:Int))]=[0]:=rfl
theorem oC(a b:List Stp):normS (normS a++normS b)=normS (a++b):=by
 by_cases c:sel 6 a=[]
 ·by_cases d:sel 6 b=[]
  ·have i:sel 6 (normS a++normS b)=[]:=by rw[fy,lS c 6 ss,lS d 6 ss];rfl
   have g:sel 6 (a++b)=[]:=by rw[fy,c,d];rfl
   have e:∀κ,(κ=1\/κ=2\/κ=3\/κ=4\/κ=5\/κ=6)->κ≠6->piece κ (sel κ (normS a++normS b))=piece κ (sel κ (a++b)):=fun κ h f=>by
    rw[fy,fy,lS c κ h,lS d κ h,if_neg f,if_neg f,zG]
   rw[xw i,xw g,pieces,pieces,e 1 ss dd,e 2 ss dd,e 3 ss dd,e 4 ss dd,e 5 ss dd]
  ·rw[iC d,iC (l:=normS a++[(6,0)]) (by rw[fy,xO];simp),iC (l:=a++b) (by rw[fy];simp[d])]
 ·rw[iC c,iC (l:=[(6,0)]++normS b) (by rw[fy,xO];simp),iC (l:=a++b) (by rw[fy];simp[c])]
theorem BO(F:Fz)(b:SA)(l:List Stp)(p:Int)(e:aW F b l)(f:l.length < 1000000):
  Fo prog F 64 [.va (.int .i64 p),.va b] (fun o d=>∃c,o=.ret (.tup [.va c,.va (.int .i64 (normR p l).2)])/\aW d c (normR p l).1):=by
 have h:=DC F b l p e f;unfold normR;by_cases a:aN p l=true
 ·rw[zP a]at h;simp only[a,if_true]at h ⊢;exact h
 ·simp only[a]at h ⊢;exact h
def behind(a:List Stp):List (List Stp):=[a,[(6,0)],[],[(5,0)],[(5,0),(5,0)],[(5,0),(5,0),(5,0)],[(5,0),(5,0),(5,0),(5,0)],[(5,0),(5,0),(5,0),(5,0),(5,0)]]
theorem ul{B:Nat}{caps:Nat->Nat}{t:List UInt8}{n a:List Int}(b:n.length=a.length):∀(j:Nat) (L:List Ln) (i:Nat),L[i]? =some (t,n)->bM B caps j (L.set i (t,a))=bM B caps j L
 |j,y::r,0,h=>by
  simp at h;subst h;rw[qax,bM,bM]
  congr 2
  show[nA B j (caps j) a]=[nA B j (caps j) n];cases n<;>cases a<;>simp_all[nA]
 |j,y::r,i+1,h=>by
  rw[qc2,bM,bM,ul b (j+1) r i (by simpa using h)]
variable {L:List Ln}
theorem um{B:Nat}{n a:List Int}(b:n.length=a.length)(h:L[i]? =some (t,n)):bG B caps c (L.set i (t,a))=bG B caps c L:=by
 unfold bG;rw[ul b 0 L i h];cases L with
 |nil=>simp at h
 |cons x r=>cases i<;>rfl
theorem wM{k:Nat}:(L.map (·.2)).getD k []=((L[k]?).map (·.2)).getD []:=by
 rw[yr,qt]
theorem A4{n d:List Int}(o:n.length=d.length)(h:L[i]? =some (t,n))(f:n≠[]):
  famE caps (L.set i (t,d))=.fam L.length (fun k=>!((L.map (·.2)).getD k []).isEmpty) (fun k=>if k=i then .arr 3 1 (d.map encI) (caps i)else .arr 3 1 (((L.map (·.2)).getD k []).map encI) (caps k)):=by
 have m:i < L.length:=(qg.1 h).1
 have g:∀k,((L.set i (t,d)).map (·.2)).getD k []=if k=i then d else(L.map (·.2)).getD k []:=by
  intro k;rw[wM,wM,qc8];by_cases c:i=k
  ·subst c;rw[if_pos rfl,if_pos m,if_pos rfl];rfl
  ·rw[if_neg c,if_neg (fun e=>c e.symm)]
 unfold famE
 have j:(fun k=>!(((L.set i (t,d)).map (·.2)).getD k []).isEmpty)=(fun k=>!((L.map (·.2)).getD k []).isEmpty):=by
  funext k
  rw[g];by_cases c:k=i
  ·subst c;rw[if_pos rfl,iS caps h];cases n with
   |nil=>exact absurd rfl f
   |cons a r=>cases d with
    |nil=>simp at o
    |cons b r'=>rfl
  ·rw[if_neg c]
 have l:(fun k=>SB.arr 3 1 ((((L.set i (t,d)).map (·.2)).getD k []).map encI) (caps k))=(fun k=>if k=i then .arr 3 1 (d.map encI) (caps i)else .arr 3 1 (((L.map (·.2)).getD k []).map encI) (caps k)):=by
  funext k
  rw[g];by_cases c:k=i
  ·subst c;rw[if_pos rfl,if_pos rfl]
  ·rw[if_neg c,if_neg c]
 rw[qbm,j,l]
theorem rZ{n c:List Int}(d:n.length=c.length)(h:L[i]? =some (t,n))(b:n≠[]){a:List (List SA)}(e:a=c.map encI):
  subE (some (.fam L.length (fun k=>!((L.map (·.2)).getD k []).isEmpty) (fun k=>if k=i then .arr 3 1 a (caps i)else .arr 3 1 (((L.map (·.2)).getD k []).map encI) (caps k)))) ((famE caps (L.set i (t,c))).ren μ):=by
 subst e;rw[lZ,A4 d h b];cases L with
 |nil=>simp at h
 |cons x r=>exact⟨rfl,rfl,rfl⟩
theorem pz{α:Type}{L:List α}{x:α}(h:L[i]? =some x):L.set i x=L:=by
 apply qbc;intro k;rw[qc8];by_cases a:i=k
 ·subst a;rw[if_pos rfl,if_pos (qg.1 h).1,h]
 ·rw[if_neg a]
def stepK(F:Fz)(c:Nat)(caps:Nat->Nat)(L:List Ln):Out->Fz->List (Nat×Ent)->Nat->Prop:=fun o a b n0=>a=F/\n0=3/\o=.ret (.tup [])/\b=[(1,bG 2 caps c L),(2,famE caps L)]
def limN(a:Int):List Int->List Int
 |[]=>[]
 |x::r=>(if x>a then 0 else x)::r
theorem Bo(F:Fz)(L:List Ln)(i c:Nat)(caps:Nat->Nat)(t:List UInt8)(x a:Int)(r:List Int)(h:L[i]? =some (t,x::r)):
  Ct prog 193 [.va (.ptr ⟨1,0,i,2,0⟩),.va (.int .i64 a)] F [(1,bG 2 caps c L),(2,famE caps L)] 3
   (stepK F c caps (L.set i (t,limN a (x::r)))):=by
 have b:=gD 2 caps 0 L i _ h;rw[q9]at b;have m:i < L.length:=(qg.1 h).1;have d:=iS caps h;rcases L with _ | ⟨a0,ar⟩
 ·exact absurd m ss
 have p:((x::r).length=(limN a (x::r)).length):=rfl;have l:=um (B:=2) (caps:=caps) (c:=c) p h;have j:∀μ:Mu,(∀k,μ 2 k=(2,k))->subE (some (bG 2 caps c (a0::ar))) ((bG 2 caps c ((a0::ar).set i (t,limN a (x::r)))).ren μ):=fun μ u=>by rw[l];exact ee u
 have n:decide (a < x)=false->∀μ:Mu,subE (some (famE caps (a0::ar))) ((famE caps ((a0::ar).set i (t,limN a (x::r)))).ren μ):=fun g μ=>by
  have s:(a0::ar).set i (t,limN a (x::r))=a0::ar:=by rw[limN,if_neg (oe g)];exact pz h
  rw[s];exact dW
 have q:decide (a < x)=true->(List.map encI ((List.map (fun x:Ln=>x.snd) (a0::ar)).getD i [])).set 0 [.int .i64 0]=(limN a (x::r)).map encI:=fun g=>by
  rw[d,limN,if_pos (od g)];rfl
 refine ctS func193 ?_;refine⟨rfl,_,b,rfl,⟨by simp,by show(0:Int) < ((r.length+1:Nat):Int);omega⟩,?_⟩;conv=>whnf
 have e:(!((List.map (fun x:Ln=>x.snd) (a0::ar)).getD i []).isEmpty)=true:=by rw[d];rfl
 have f:(List.map encI ((List.map (fun x:Ln=>x.snd) (a0::ar)).getD i []))[0]? =some [.int .i64 x]:=by rw[d];rfl
 have o:(List.map encI ((List.map (fun x:Ln=>x.snd) (a0::ar)).getD i []))=encI x::r.map encI:=by rw[d];rfl
 refine⟨⟨m,e⟩,_,f,?_⟩;refine br (fun g=>?_) (fun g=>?_)
 ·refine⟨rfl,_,b,rfl,⟨by simp,by show(0:Int) < ((r.length+1:Nat):Int);omega⟩,⟨m,e⟩,_,f,?_⟩;refine clean [] (.ret (.tup [])) F [(1,bG 2 caps c ((a0::ar).set i (t,limN a (x::r)))),(2,famE caps ((a0::ar).set i (t,limN a (x::r))))] 3 ⟨Fz.r F,rfl,rfl,rfl,rfl⟩ (aP _) rfl rfl (by simp[Out.below,SV.below]) ⟨c8 oo _ _ _,c9 _ _ _,tv⟩ ⟨Fz.r F,?_,?_,tv⟩
  ·exact j _ (fun k=>rfl)
  ·refine rZ p h ss ?_;exact q g
 ·refine clean [] (.ret (.tup [])) F [(1,bG 2 caps c ((a0::ar).set i (t,limN a (x::r)))),(2,famE caps ((a0::ar).set i (t,limN a (x::r))))] 3 ⟨Fz.r F,rfl,rfl,rfl,rfl⟩ (aP _) rfl rfl (by simp[Out.below,SV.below]) ⟨c8 oo _ _ _,c9 _ _ _,tv⟩ ⟨Fz.r F,?_,?_,tv⟩
  ·exact j _ (fun k=>rfl)
  ·exact n g _
