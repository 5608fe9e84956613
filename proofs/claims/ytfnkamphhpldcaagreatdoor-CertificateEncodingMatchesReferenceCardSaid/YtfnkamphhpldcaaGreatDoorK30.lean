import Derived.Test.YtfnkamphhpldcaaGreatDoorK29
import Derived.Test.YtfnkamphhpldcaaGreatDoorK22
import Derived.Test.YtfnkamphhpldcaaGreatDoorK26
import Derived.Test.YtfnkamphhpldcaaGreatDoorK25
set_option maxHeartbeats 64000000
namespace Go.Proofs.YtfnkamphhpldcaaGreatDoor
open Go Sx Tryz
def dh(b:Bool)(K:List Cel):List UInt8:=aA [((K.filter (keepQ b)).length:Int)]++((K.filter (keepQ b)).map fun c=>aA (if b=true then [c.row,c.col,c.top,c.left]else [c.row,c.col,c.value])).flatten
def iD(p:Int)(d:Dc):List Ln:=
 if p=1 then d.lines.map fun l=>(l.1,[])
 else if p=2 then d.lines.map fun l=>([],[l.2])
 else if p=3 then(d.cells.filter (keepQ false)).map fun c=>([],[c.row,c.col,c.value])
 else if p=4 then(d.cells.filter (keepQ true)).map fun c=>([],[c.row,c.col,c.top,c.left])
 else(d.cells.zip (valsF d.cells)).map fun x=>([],[x.1.row,x.1.col,x.2])
def bV(p:Int)(d:Dc):Val:=
 if p=8 then⟨false,[],d.lines.length,d.cells.length,[]⟩
 else if p=7 then⟨false,[],d.w,hgt d.w d.bits,d.bits⟩
 else if p=6 then⟨false,[],d.w,hgt d.w d.bits,[]⟩
 else⟨false,iD p d,0,0,[]⟩
def propB(p:Int)(d:Dc):List UInt8:=
 if p=1 then ptext d.lines else if p=2 then pmot d.lines else if p=3 then dh false d.cells else if p=4 then dh true d.cells
 else if p=5 then pvals d.cells else if p=6 then aA [d.w,hgt d.w d.bits]else if p=7 then aA [d.w,hgt d.w d.bits]++(putSR d.bits).1
 else aA [(d.lines.length:Int),(d.cells.length:Int)]
theorem inRW{n b a:Int}:inR n b a=true↔b<=n/\n<=a:=by unfold inR;simp
theorem lE(p:Int)(a:p≠1)(l:List Int):lineW p ([],l)=aA l:=by grind[lineW]
theorem zo(s:List UInt8):lineW 1 (s,[])=(putSR s).1:=by grind[lineW,aA]
theorem oj(K:List Cel):(K.zip (valsF K)).length=K.length:=by grind[List.length_zip,ff]
theorem iF{p:Int}(b:1<=p/\p<=8)(d:Dc):propB p d=bI p (bV p d):=by
 have a:p=1\/p=2\/p=3\/p=4\/p=5\/p=6\/p=7\/p=8:=by omega
 rcases a with rfl | rfl | rfl | rfl | rfl | rfl | rfl | rfl
 ·simp only[propB,bV,iD,bI,if_true,if_false,jy,ptext,qa,jq,show¬(6:Int)<=1 by omega,show¬(1:Int)=8 by omega,show¬(1:Int)=7 by omega,show¬(1:Int)=6 by omega];simp only[Function.comp_def,zo]
 ·simp only[propB,bV,iD,bI,if_true,if_false,jy,pmot,qa,jq,show¬(6:Int)<=2 by omega,show¬(2:Int)=8 by omega,show¬(2:Int)=7 by omega,show¬(2:Int)=6 by omega,show¬(2:Int)=1 by omega];simp only[Function.comp_def,lE 2 oo]
 ·simp only[propB,bV,iD,bI,if_true,if_false,jy,dh,qa,jq,show¬(6:Int)<=3 by omega,show¬(3:Int)=8 by omega,show¬(3:Int)=7 by omega,show¬(3:Int)=6 by omega,show¬(3:Int)=1 by omega,show¬(3:Int)=2 by omega];simp only[Function.comp_def,lE 3 oo]
 ·simp only[propB,bV,iD,bI,if_true,if_false,jy,dh,qa,jq,show¬(6:Int)<=4 by omega,show¬(4:Int)=8 by omega,show¬(4:Int)=7 by omega,show¬(4:Int)=6 by omega,show¬(4:Int)=1 by omega,show¬(4:Int)=2 by omega,show¬(4:Int)=3 by omega];simp only[Function.comp_def,lE 4 oo]
 ·simp only[propB,bV,iD,bI,if_true,if_false,jy,pvals,qa,jq,show¬(6:Int)<=5 by omega,show¬(5:Int)=8 by omega,show¬(5:Int)=7 by omega,show¬(5:Int)=6 by omega,show¬(5:Int)=1 by omega,show¬(5:Int)=2 by omega,show¬(5:Int)=3 by omega,show¬(5:Int)=4 by omega,oj];simp only[Function.comp_def,lE 5 oo]
 ·simp[propB,bV,bI]
 ·simp[propB,bV,bI]
 ·simp[propB,bV,bI]
theorem iy{α:Type}{p:Int}{f:α->Ln}:∀(l acc:List α),(∀x∈l,if p=1 then(f x).2=[]/\(f x).1.length<=80/\(f x).1.any badC=false else(f x).1=[]/\(f x).2.length=cols p/\fZ p [] (f x).2)->
  (p≠1->p≠2->(acc++l).Pairwise fun a b=>cmpL ((f a).2.take 2) ((f b).2.take 2) < 0)->lnsOk p (acc.map f) (l.map f)
 |[],acc,_,_=>trivial
 |x::r,acc,h,hp=>by
  refine⟨?_,?_⟩
  ·grind[List.getLast?_map,List.mem_of_getLast?,lnOk]
  ·have:=iy (p:=p) (f:=f) r (acc++[x]) (fun y c=>h y (by simp[c])) (by rw[qj];exact hp)
   grind
theorem yO{a b c:Cel}(h1:ltC a b=true)(d:ltC b c=true):ltC a c=true:=by
 grind[ltC]
theorem pI:∀l:List Cel,ascF l=true->l.Pairwise fun a b=>ltC a b=true
 |[],_=>.nil
 |[x],_=>by simp
 |x::y::r,h=>by
  have h:(ltC x y&&ascF (y::r))=true:=h;rw[qd]at h;have ih:=pI (y::r) h.2;refine List.Pairwise.cons (fun z c=>?_) ih
  grind[yO,List.rel_of_pairwise_cons]
theorem pR{a b:Cel}(h:ltC a b=true):cmpL [a.row,a.col] [b.row,b.col] < 0:=by
 grind[ltC,cmpI,cmpL]
theorem EO(n:Int):-1000000000000<=dM n/\dM n<=1000000000000:=by grind[dM]
theorem xp:∀(l d:List Cel) (o:List Int),(∀n∈o,-1000000000000<=n/\n<=1000000000000)->∀n∈valsA l d o,-1000000000000<=n/\n<=1000000000000
 |[],d,o,h=>h
 |c::r,d,o,h=>by
  rw[valsA];refine xp r _ _ fun n a=>?_
  grind[EO,valF]
structure DocOk(d:Dc):Prop where
 lines:d.lines.length<=64
 cells:d.cells.length<=64
 asc:ascF d.cells=true
 ln:∀x∈d.lines,dlnOk x=true
 cel:∀x∈d.cells,celOk x=true
 ras:rasOk d.w d.bits=true
theorem dN{d:Dc}(h:docOk d=true):DocOk d:=by
 unfold docOk at h;simp only[qd,decide_eq_true_eq,qp]at h;exact⟨h.1.1.1.1.1,h.1.1.1.1.2,h.1.1.1.2,h.1.1.2,h.1.2,h.2⟩
theorem lv{w:Int}{s:List UInt8}(h:rasOk w s=true):(0<=w/\w<=32)/\s.all bitK=true/\(min w 1<=hgt w s/\hgt w s<=min w 1*32)/\(s.length:Int)=w*hgt w s:=by
 grind[inRW,rasOk,hgt]
theorem jT{p:Int}(E:1<=p/\p<=8){d:Dc}(A:docOk d=true):VOK p (bV p d):=by
 obtain⟨q,n,y,l,e,m⟩:=dN A;obtain⟨s,B,u,D⟩:=lv m;have k:=pI _ y;have w:p=1\/p=2\/p=3\/p=4\/p=5\/p=6\/p=7\/p=8:=by omega
 rcases w with rfl | rfl | rfl | rfl | rfl | rfl | rfl | rfl
 ·refine .inr ⟨rfl,?_⟩;refine⟨rfl,rfl,rfl,by show(d.lines.map _).length<=64;rw[qa];exact q,?_⟩;refine iy d.lines [] (fun x i=>?_) (fun h=>absurd rfl h);have:=l x i;unfold dlnOk at this;simp only[qd,decide_eq_true_eq,qav]at this;rw[if_pos rfl];exact⟨rfl,this.1.1,this.1.2⟩
 ·refine .inr ⟨rfl,?_⟩;refine⟨rfl,rfl,rfl,by show(d.lines.map _).length<=64;rw[qa];exact q,?_⟩;refine iy d.lines [] (fun x i=>?_) (fun _ h=>absurd rfl h);have:=l x i;unfold dlnOk at this;simp only[qd,inRW]at this;rw[if_neg oo];exact⟨rfl,rfl,this.2,tv⟩
 ·have j:(d.cells.filter (keepQ false)).length<=64:=q8 (qan _ _) n;refine .inr ⟨rfl,?_⟩;refine⟨rfl,rfl,rfl,by show((d.cells.filter (keepQ false)).map _).length<=64;rw[qa];exact j,?_⟩;refine iy (d.cells.filter (keepQ false)) [] (fun x i=>?_) (fun _ _=>(k.filter _).imp fun h=>pR h);obtain⟨f,g⟩:=qdl.1 i;have:=e x f;have o:x.sum=false:=by simpa[keepQ]using g
  unfold celOk at this;rw[o]at this;simp only[qd,inRW,jy,if_false,decide_eq_true_eq]at this;rw[if_neg oo];exact⟨rfl,rfl,this.1.1,this.1.2,this.2.1.1,tv⟩
 ·have j:(d.cells.filter (keepQ true)).length<=64:=q8 (qan _ _) n;refine .inr ⟨rfl,?_⟩;refine⟨rfl,rfl,rfl,by show((d.cells.filter (keepQ true)).map _).length<=64;rw[qa];exact j,?_⟩;refine iy (d.cells.filter (keepQ true)) [] (fun x i=>?_) (fun _ _=>(k.filter _).imp fun h=>pR h);obtain⟨f,g⟩:=qdl.1 i;have:=e x f;have o:x.sum=true:=by simpa[keepQ]using g
  unfold celOk at this;rw[o]at this;simp only[qd,inRW,if_true,decide_eq_true_eq]at this;rw[if_neg oo];exact⟨rfl,rfl,this.1.1,this.1.2,this.2.1.2,this.2.2,tv⟩
 ·refine .inr ⟨rfl,?_⟩;refine⟨rfl,rfl,rfl,by show((d.cells.zip (valsF d.cells)).map _).length<=64;rw[qa,oj];exact n,?_⟩;refine iy (d.cells.zip (valsF d.cells)) [] (fun x i=>?_) (fun _ _=>?_)
  ·obtain⟨c,v⟩:=x;obtain⟨f,g⟩:=qdm i;have:=e c f;unfold celOk at this;simp only[qd,inRW]at this;rw[if_neg oo];exact⟨rfl,rfl,this.1.1,this.1.2,xp _ _ _ ss v g,tv⟩
  ·have h1:((d.cells.zip (valsF d.cells)).map (·.1)).Pairwise fun a b=>ltC a b=true:=by
    rw[List.map_fst_zip (by rw[ff];exact qi _)];exact k
   rw[List.pairwise_map]at h1;exact h1.imp fun h=>pR h
 ·refine .inr ⟨rfl,?_⟩;exact⟨rfl,s,u,rfl⟩
 ·refine .inr ⟨rfl,?_⟩;exact⟨rfl,s,u,D,B⟩
 grind[bV,VOK,docOk,ascF,dlnOk,celOk,rasOk]
theorem jF:∀(b:Bool) (l:List Cel),((l.map fun c=>aA (if b=true then [c.row,c.col,c.top,c.left]else [c.row,c.col,c.value])).flatten).length<=l.length*1000
 |_,[]=>by simp
 |b,x::r=>by
  have h1:=du (if b=true then [x.row,x.col,x.top,x.left]else [x.row,x.col,x.value]);have a:(if b=true then [x.row,x.col,x.top,x.left]else [x.row,x.col,x.value]).length<=4:=by cases b<;>simp
  have d:=jF b r
  grind
theorem jX{p:Int}{d:Dc}(j:docOk d=true):(propB p d).length<=1000000000000000:=by
 obtain⟨s,i,o,e,f,a⟩:=dN j;obtain⟨l,y,A,B⟩:=lv a;have c:∀n:Int,(aA [n]).length<=9:=fun n=>du [n]
 have u:∀n m:Int,(aA [n,m]).length<=18:=fun n m=>du [n,m]
 have g:∀b,(d.cells.filter (keepQ b)).length<=64:=fun b=>q8 (qan _ _) i
 have q:d.bits.length<=2000:=by
  have h1:d.w*hgt d.w d.bits<=32*32:=qbr l.2 oo oo oo;omega
 unfold propB;split
 ·have:=oH d.lines fun x k=>by
   have:=e x k;unfold dlnOk at this;simp only[qd,decide_eq_true_eq]at this;omega
  rw[ptext,qb];have:=c d.lines.length;omega
 split
 ·have:=pp d.lines;rw[pmot,qb];have:=c d.lines.length;omega
 split
 ·have:=jF false (d.cells.filter (keepQ false));have h:=g false;rw[dh,qb];have:=c (d.cells.filter (keepQ false)).length;omega
 split
 ·have:=jF true (d.cells.filter (keepQ true));have h:=g true;rw[dh,qb];have:=c (d.cells.filter (keepQ true)).length;omega
 grind[oW,oj,ek,List.length_append,valsF,pvals,hgt]
end Go.Proofs.YtfnkamphhpldcaaGreatDoor
namespace Go.Proofs.YtfnkamphhpldcaaGreatDoor
open Go Sx Tryz
set_option maxRecDepth 100000
variable {α:Type}
theorem Dt(l:List α)(i j:Nat)(x:α)(h:i < j):(l.set i x).drop j=l.drop j:=by
 apply qbc;intro k;rw[yz,yz,qbu oo]
theorem CX(l:List α)(i:Nat)(x:α)(h:i < l.length):(l.set i x).take (i+1)=l.take i++[x]:=by
 apply qbc;intro k;rcases Nat.lt_trichotomy k i with hk | hk | hk
 ·rw[qaz oo,qbu oo,jo (by rw[qk];omega),qaz hk]
 ·subst hk;rw[qaz oo,qcc h,jt (by rw[qk];omega)];simp[qaq (Nat.le_of_lt h)]
 ·rw[qam (by rw[qk];omega),qam (by rw[qb,qk,yi];omega)]
theorem sJ{q:α->Bool}{l:List α}{k:Nat}(a:k < l.length){x:α}(b:l[k]=x):(l.take (k+1)).filter q=(l.take k).filter q++(if q x=true then [x]else []):=by
 rw[qf a,qc0,b];cases h:q x<;>simp[h]
theorem yc6{e:α->List SA}{t sz c:Nat}{l:List α}{b:Bool}{L:List (List SA)}(h1:b= !l.isEmpty)(a:L=l.map e):subE (some (.opt b (.arr t sz L c))) (gE t sz e c l):=⟨h1,by rw[a]⟩
theorem DE(R:List α)(i:Nat)(v:α):(!R.isEmpty)=(!(R.set i v).isEmpty):=by cases R<;>cases i<;>rfl
theorem Dx{R:List α}(h:0 < R.length):(!R.isEmpty)=true:=by
 cases R with
 |nil=>cases h
 |cons _ _=>rfl
theorem EP(F:Fz)(e:Bool)(p s q:Nat)(w:Sl F 151 6 encK (.slice e 0 p s 6 0 q) []):
  Fo prog F 87 [.va (.slice e 0 p s 6 0 q)] (fun o d=>∃u,o=.ret (.va u)/\Sl d 151 6 encK u []):=by
 obtain⟨D,y,B,A,j,k,m,x,g,h,i⟩:=w;cases m
 rcases e with _ | _
 ·have a:=g rfl;refine foS func87 ?_;refine brd dd ⟨151,j,k,a,h,[],i,rfl,rfl,rfl,by decide,fun c E=>?_⟩;clear E;refine dZ 2 (fun _=>.arr 151 6 [] c) ?_;intro b d n f;exact endFo (.ret (.va (.slice false 0 (b 0) 0 6 0 c))) d rfl n (Fz.r d) ⟨_,rfl,Sl.new (l:=[]) (f 0 rfl)⟩ ⟨rfl,rfl,rfl,.inr ⟨rfl,rfl,rfl,rfl⟩⟩ rfl
 ·refine foS func87 ?_;refine bre dd ?_;exact endFo (.ret (.va (.slice true 0 0 0 6 0 0))) F rfl (Fz.r F) (Fz.r F) ⟨_,rfl,Sl.nil⟩ ⟨rfl,rfl,rfl⟩ rfl
theorem AT(F:Fz)(c:SA)(b:Bool)(d:Nat)(e:Sl F 151 6 encK c [])(g:F d=some (.cells 4 [.lit b])):
  Fo prog F 226 [.va c,.va (.fn (.func 225) [fp d])] (fun o f=>o=.ret (.va c)/\f=F):=by
 have a:=xV F c [] b d e ss g;rw[show idxG (keepQ b) [] 0= -1 from rfl]at a;obtain⟨q,m,p,n,l,s,rfl,h,i,j,k⟩:=e;refine foS func226 ?_;refine usePs a ?_;refine bre dd ?_;exact endPu rfl (Fz.r F) ⟨rfl,rfl,rfl,.inr ⟨rfl,rfl,rfl,rfl⟩⟩ rfl
theorem sq{L:List (List SA)}(h:∀x∈L,(∀μ:Mu,x.map (SA.ren μ)=x)/\∀a∈x,a.below 0)(t sz c:Nat):(∀μ:Mu,(SB.arr t sz L c).ren μ=SB.arr t sz L c)/\∀n,(SB.arr t sz L c).below n:=by
 refine⟨fun μ=>?_,fun n x b a d=>SA.below_mono (jx _) ((h x b).2 a d)⟩;show SB.arr t sz (L.map (List.map (SA.ren μ))) c=_
 congr 1
 conv=>rhs;rw[<-qc9 L]
 exact jp fun x b=>(h x b).1 μ
theorem yb9:(∀μ:Mu,ti151.zero.map (SA.ren μ)=ti151.zero)/\∀a∈ti151.zero,a.below 0:=⟨fun _=>rfl,rT rfl⟩
theorem yaa(F:Fz)(c:Nat)(K:List Cel)(b:Bool)(bc:Nat)(aq:K≠[])(hB:F bc=some (.cells 4 [.lit b]))(hl:K.length<=1000)(hc:K.length<=c):
  Ct prog 226 [.va (.slice false 1 0 0 6 K.length c),.va (.fn (.func 225) [fp bc])] F [(1,gE 151 6 encK c K)] 2
   (fun o F0 h0 n0=>n0=2/\h0=[(1,.gone)]/\∃d,o=.ret (.va (.slice false 0 d 0 6 (K.filter (keepQ b)).length c))/\Sl F0 151 6 encK (.slice false 0 d 0 6 (K.filter (keepQ b)).length c) (K.filter (keepQ b))):=by
 have s:=uG (keepQ b) K 0;have p:(!K.isEmpty)=true:=by cases K<;>simp_all
 obtain⟨z,hz⟩:∃z,idxG (keepQ b) K 0=z:=⟨_,rfl⟩
 have m:=fun F1 b1 (l1:Fz.le F F1) (h:F1 b1=some (.arr 151 6 (K.map encK) c))=>xV F1 _ K b bc (Sl.new (l:=K) (cap:=c) h) oo (l1 _ _ hB)
 rw[hz]at m s;clear hz;refine ctS func226 ?_;refine lend 1 (fun _=>.arr 151 6 (K.map encK) c) rfl rfl rfl (fun _ _=>by exact cY aC rfl _ _ _ _) (fun _ _=>cF aC _ _ _ _ _) ?_;intro b1 F1 l1 ai;refine usePt (m F1 _ l1 (ai 0 ⟨p,rfl⟩)) ?_;refine⟨F1,rfl,Fz.r _,rfl,?_⟩;clear m;rcases s with⟨rfl,h2⟩ | ⟨i,x,h1,ad,h3,h4,h5⟩
 ·refine bre dd ?_;refine cD 1 (fun _=>.arr 151 6 (K.map encK) c) rfl rfl rfl (fun _ _=>by exact cY aC rfl _ _ _ _) (fun _ _=>cF aC _ _ _ _ _) ?_;intro d w M f;exact clean [] (.ret (.va (.slice false 0 (d 0) 0 6 K.length c))) w [(1,.gone)] 2 ⟨M,rfl,rfl,d 0,by rw[h2],by rw[h2];exact Sl.new (l:=K) (f 0 ⟨p,rfl⟩)⟩ ⟨rfl,rfl,rfl,.inr ⟨rfl,rfl,rfl,rfl⟩⟩ rfl rfl (Out.bB_ok (o:=.ret (.va (.slice false 0 (d 0) 0 6 K.length c))) rfl) ⟨tv,tv⟩ ⟨Fz.r w,tv⟩
 ·rw[q9]at ad;subst ad;have E:¬(i:Int)= -1:=by omega
  have I:(K.take (i+1)).filter (keepQ b)=K.take i:=by
   obtain⟨_,hx⟩:=qg.1 h4;rw[sJ h1 hx,h5,h3];simp
  have e:i < 4611686018427387904:=by omega
  have S:=cnt e;refine brj E ?_;conv=>whnf
  refine aH hΘ (X:={ y:Nat×Nat×List Cel // y.1 < y.2.1/\y.2.1<=K.length/\y.2.2.length=K.length/\y.1=((K.take y.2.1).filter (keepQ b)).length/\y.2.2.take y.1=(K.take y.2.1).filter (keepQ b)/\y.2.2.drop y.2.1=K.drop y.2.1 }) (fun y=>[(5,.va (.int .i64 y.1.1)),(6,.va (.int .i64 y.1.2.1))]) (7::jr 16 20 [])
   (fun y=>[(0,.frz F),(1,gE 151 6 encK c y.1.2.2)]) 2 (fun y=>K.length - y.1.2.1) ⟨(i,i+1,K),qcm i,h1,rfl,by show i=_;rw[I,qk];omega,I.symm,rfl⟩
   (fun hH hT=>leI [] hH hT rfl ⟨tv,aF aC _ _ _ _ _,tv⟩ ⟨rfl,S,tv⟩ ⟨Fz.r F,aQ aC (bF _ _ _ _),tv⟩) ?_
  rintro⟨⟨i,j,R⟩,k1,k2,k3,G,O,k6⟩ hH hT;replace k1:i < j:=k1;replace k2:j<=K.length:=k2;replace k3:R.length=K.length:=k3;replace G:i=((K.take j).filter (keepQ b)).length:=G;replace O:R.take i=(K.take j).filter (keepQ b):=O;replace k6:R.drop j=K.drop j:=k6;have A:=Dx (R:=R) oo;clear h1 h3 h4 h5 I e S E p;by_cases g:j < K.length
  ·have an:(j:Int) < (K.length:Nat):=by omega
   have U:0<=(j:Int)/\(j:Int) < (K.length:Nat):=by omega
   have L:0<=(i:Int)/\(i:Int) < (K.length:Nat):=by omega
   have ac:∃v,K[j]=v:=⟨_,rfl⟩
   obtain⟨v,hv⟩:=ac
   have ag:R[j]? =some v:=by
    have e1:(R.drop j)[0]? =(K.drop j)[0]?:=by rw[k6]
    rw[yz,yz,qap,qc g,hv]at e1;exact e1
   have ab:∃u,R[i]? =some u:=⟨_,qc oo⟩
   obtain⟨u,hu⟩:=ab;have ah:(R.map encK)[0+(j:Int).toNat]? =some (encK v):=by rw[q9,qn,qt,ag];rfl
   have Q:(R.map encK)[0+(i:Int).toNat]? =some (encK u):=by rw[q9,qn,qt,hu];rfl
   have n:=sJ (q:=keepQ b) g hv;have k:=uV F v b bc hB;have aa:∃q,keepQ b v=q:=⟨_,rfl⟩
   obtain⟨q,hq⟩:=aa;rw[hq]at n k;have V:j+1<=K.length:=g;have B:K.length - (j+1) < K.length - j:=by omega
   have D:j < 4611686018427387904:=by omega
   have e:i < 4611686018427387904:=by omega
   have ae:R.drop (j+1)=K.drop (j+1):=by
    have:=congrArg (List.drop 1) k6;rw[qbg,qbg]at this;exact this
   have Z:(R.map encK).set (0+(i:Int).toNat) (encK v)=(R.set i v).map encK:=by rw[q9,qn,qbw]
   have ap:=DE R i v;refine bri an ⟨rfl,U,A,_,ah,?_⟩;refine usePs k ?_;rcases q with _ | _
   ·refine br (fun g2=>absurd g2 dd) (fun _=>?_);exact⟨⟨(i,j+1,R),Nat.lt_succ_of_lt k1,V,k3,by show i=_;rw[n];simpa using G,by rw[n];simpa using O,ae⟩,B,leR [] hH hT rfl ⟨tv,aF aC _ _ _ _ _,tv⟩ ⟨rfl,cnt D,tv⟩ ⟨Fz.r F,aQ aC (bF _ _ _ _),tv⟩⟩
   ·refine br (fun _=>?_) (fun g2=>absurd g2 dd);refine⟨rfl,L,A,_,Q,?_⟩;exact⟨⟨(i+1,j+1,R.set i v),by show i+1 < j+1;omega,V,by rw[qbm];exact k3,by show i+1=_;rw[n,qb,<-G];rfl,by show(R.set i v).take (i+1)=_;rw[CX _ _ _ oo,O,n];rfl,by show(R.set i v).drop (j+1)=_;rw[Dt _ _ _ _ oo];exact ae⟩,B,leR [] hH hT rfl ⟨tv,aF aC _ _ _ _ _,tv⟩ ⟨cnt e,cnt D,tv⟩ ⟨Fz.r F,aQ aC (yc6 ap Z),tv⟩⟩
  ·have aj:¬(j:Int) < (K.length:Nat):=by omega
   refine brj aj ?_;have T:0<=(i:Int)/\(i:Int)<=(K.length:Nat):=by omega
   have al:j=K.length:=by omega
   have am:(K.take j).filter (keepQ b)=K.filter (keepQ b):=by rw[al,ql (qi _)]
   rw[am]at G O;have ak:¬c=(i:Int).toNat:=by rw[qn];omega
   have he:(if c=(i:Int).toNat then 0 else 0+(i:Int).toNat)=i:=by rw[if_neg ak];simp
   have W:(if c=(i:Int).toNat then 0 else 0+(i:Int).toNat)+(K.length - (i:Int).toNat)<=(R.map encK).length:=by rw[he,qn,qa];omega
   have J:0<=(i:Int)/\(i:Int)<=(c:Nat):=by omega
   have af:0=(if c=0 then 0 else 0+0):=by split<;>rfl
   have Y:∀x∈(R.map encK).take (if c=(i:Int).toNat then 0 else 0+(i:Int).toNat)++List.replicate (K.length - (i:Int).toNat) ti151.zero++(R.map encK).drop ((if c=(i:Int).toNat then 0 else 0+(i:Int).toNat)+(K.length - (i:Int).toNat)),(∀μ:Mu,x.map (SA.ren μ)=x)/\∀a∈x,a.below 0:=by
    intro x hx;rcases yf.1 hx with hx | hx
    ·rcases yf.1 hx with hx | hx
     ·obtain⟨y,_,rfl⟩:=qz.1 (yh hx);exact aC y
     ·rw[(qca.1 hx).2];exact yb9
    ·obtain⟨y,_,rfl⟩:=qz.1 (qas hx);exact aC y
   have ao:∀(w:Fz) (d:Nat),w d=some (.arr 151 6 ((R.map encK).take (if c=(i:Int).toNat then 0 else 0+(i:Int).toNat)++List.replicate (K.length - (i:Int).toNat) ti151.zero++(R.map encK).drop ((if c=(i:Int).toNat then 0 else 0+(i:Int).toNat)+(K.length - (i:Int).toNat))) c)->Sl w 151 6 encK (.slice false 0 d 0 6 (K.filter (keepQ b)).length c) (K.filter (keepQ b)):=by
    intro w d f;refine⟨false,d,0,c,_,c,rfl,(fun h=>nomatch h),fun _=>f,?_,?_⟩
    ·rw[he,<-G];simp only[qb,qk,y5,qa,yj,qn];omega
    ·rw[he,y8,qj,<-G,qco (by rw[qk,qa];omega),qbh,qd1,<-qdb,O]
   refine⟨T,A,W,J,?_⟩;refine cD 1 (fun _=>.arr 151 6 ((R.map encK).take (if c=(i:Int).toNat then 0 else 0+(i:Int).toNat)++List.replicate (K.length - (i:Int).toNat) ti151.zero++(R.map encK).drop ((if c=(i:Int).toNat then 0 else 0+(i:Int).toNat)+(K.length - (i:Int).toNat))) c) rfl rfl rfl (fun _ _=>by exact(sq Y 151 6 c).1 _) (fun _ _=>(sq Y 151 6 c).2 1) ?_;intro d w M f;exact clean [] (.ret (.va (.slice false 0 (d 0) 0 6 (K.filter (keepQ b)).length c))) w [(1,.gone)] 2 ⟨M,rfl,rfl,d 0,rfl,ao w (d 0) (f 0 ⟨A,rfl⟩)⟩ ⟨rfl,G.symm,rfl,.inr ⟨rfl,rfl,af,rfl⟩⟩ rfl rfl (Out.bB_ok (o:=.ret (.va (.slice false 0 (d 0) 0 6 (K.filter (keepQ b)).length c))) rfl) ⟨tv,tv⟩ ⟨Fz.r w,tv⟩
def celQ(b:Bool)(c:Cel):List Int:=match b with
 |true=>[c.row,c.col,c.top,c.left]
 |false=>[c.row,c.col,c.value]
theorem uR(b:Bool)(hP:PFun)(F:Fz)(bn:Bool)(bb be bc:Nat)(K:List Cel)(hb:Sl F 151 6 encK (.slice bn 0 bb be 6 K.length bc) K)(hl:K.length<=1000):
  Ct prog 163 [.va (.ptr ⟨1,0,0,0,0⟩),.va (.slice bn 0 bb be 6 K.length bc),.va (.lit b)] F (wrH false 0 []) 3 (wrL (dh b K)):=by
 have ay:(K.filter (keepQ b)).length<=K.length:=qan _ _;have m:dh b K=aA [((K.filter (keepQ b)).length:Int)]++((K.filter (keepQ b)).map fun c=>aA (celQ b c)).flatten:=by cases b<;>rfl
 have aj:∀l:List Cel,((l.map fun c=>aA (celQ b c)).flatten).length<=l.length*1000:=by cases b;exact jF false;exact jF true
 by_cases j:K=[]
 ·subst j;have m:dh b []=[]++aA [((0:Nat):Int)]:=by simp[dh]
  have i:=EP F bn bb be bc hb;refine ctS func163 ?_;refine useFt i ?_;rintro _ F1 l1 ⟨sa,rfl,V⟩;refine bS 3 (fun _=>.cells 4 [.lit b]) ?_;intro bx F2 E e;have ac:=AT F2 sa b (bx 0) (V.mono E) (e 0 rfl);have W:=V.mono E;obtain⟨aw,ar,av,au,aq,ax,rfl,am,an,ao,ap⟩:=W;refine useFt ac ?_;rintro _ F' l3 ⟨rfl,rfl⟩;refine bS 4 (fun _=>.arr 3 1 ([((0:Nat):Int)].map encI) 1) ?_;intro b1 u Y a;refine useS (eM hP u _ [((0:Nat):Int)] false [] 0 (fun _=>rfl) (Sl.new (l:=[((0:Nat):Int)]) (cap:=1) (a 0 rfl)) ss ss) [(1,1),(2,2)] ⟨bY _ oo oo _ _,aF aB _ _ _ _ _,tv⟩ ⟨cZ (by rfl) (by rfl),aQ aB (bF _ _ _ _),tv⟩ ?_;rintro p F' h0 n0 T ⟨rfl,rfl,rfl,Z,y,s,rfl⟩;conv=>whnf
  refine aH hΘ (X:={ x:Nat // x=0 }) (fun x=>[(21,.va (.int .i64 x.1))]) (8::jr 22 25 [])
   (fun x=>[(0,.frz u),(1,wrC Z 1 6 y ([]++aA [((0:Nat):Int)])),(5,.gone),(6,gE 5 1 encB y ([]++aA [((0:Nat):Int)]))]) 7 (fun x=>0) ⟨0,rfl⟩
   (fun B D=>leI [(6,5)] B D rfl ⟨tv,bY _ oo oo _ _,tv,aF aB _ _ _ _ _,tv⟩ ⟨rfl,tv⟩ ⟨Fz.r u,dK (i':=1) (j':=5) (by rfl) (by rfl) (by rfl) (by rfl) rfl,cU aB,tv⟩) ?_
  rintro⟨k,rfl⟩ B D;refine br (fun g2=>absurd g2 dd) (fun _=>?_);exact clean [(3,6)] (.ret (.tup [])) u (wrM Z y ([]++aA [((0:Nat):Int)])) 4 ⟨Fz.t l1 (Fz.t E Y),rfl,rfl,Z,y,by rw[m];exact s,by rw[m]⟩ trivial rfl rfl (Out.bB_ok (o:=.ret (.tup [])) rfl) (es _ _ _) ⟨Fz.r u,cZ (by rfl) (by rfl),aQ aB (bF _ _ _ _),tv⟩
 ·have i:=AO F bn bb be bc K j hb hl;refine ctS func163 ?_;refine useS i [] trivial trivial ?_;rintro _ F1 h0 n0 l1 ⟨rfl,c,M,rfl,rfl⟩;refine bS 3 (fun _=>.cells 4 [.lit b]) ?_;intro bx F2 E e;refine useS (yaa F2 c K b (bx 0) j (e 0 rfl) hl M) [(1,4)] ⟨aF aC _ _ _ _ _,tv⟩ ⟨cU aC,tv⟩ ?_;rintro _ u h0 n0 l3 ⟨rfl,rfl,rb,rfl,hR⟩;have L:=l3 _ _ (e 0 rfl);have af:=Fz.t l1 (Fz.t E l3);clear i l1 E l3 e M j hb;refine bS 5 (fun _=>.arr 3 1 ([(((K.filter (keepQ b)).length:Nat):Int)].map encI) 1) ?_;intro b1 w Y a;refine useS (eM hP w _ [(((K.filter (keepQ b)).length:Nat):Int)] false [] 0 (fun _=>rfl) (Sl.new (l:=[(((K.filter (keepQ b)).length:Nat):Int)]) (cap:=1) (a 0 rfl)) ss ss) [(1,1),(2,2)] ⟨bY _ oo oo _ _,aF aB _ _ _ _ _,tv⟩ ⟨cZ (by rfl) (by rfl),aQ aB (bF _ _ _ _),tv⟩ ?_;rintro p F' h0 n0 T ⟨rfl,rfl,rfl,Z,y,s,rfl⟩;conv=>whnf
  refine aH hΘ (X:={ x:Nat×List UInt8×Nat×Bool×Fz // Fz.le w x.2.2.2.2/\x.1<=(K.filter (keepQ b)).length/\x.2.1=aA [(((K.filter (keepQ b)).length:Nat):Int)]++(((K.filter (keepQ b)).take x.1).map fun c=>aA (celQ b c)).flatten/\(x.2.2.2.1=false->x.2.1=[]) }) (fun x=>[(21,.va (.int .i64 x.1.1))]) (8::jr 22 25 [])
   (fun x=>[(0,.frz x.1.2.2.2.2),(1,wrC x.1.2.2.2.1 1 7 x.1.2.2.1 x.1.2.1),(6,.gone),(7,gE 5 1 encB x.1.2.2.1 x.1.2.1)]) 8 (fun x=>(K.filter (keepQ b)).length - x.1.1) ⟨(0,[]++aA [(((K.filter (keepQ b)).length:Nat):Int)],y,Z,w),Fz.r w,by simpa using s⟩
   (fun B D=>leI [(7,6)] B D rfl ⟨tv,bY _ oo oo _ _,tv,aF aB _ _ _ _ _,tv⟩ ⟨rfl,tv⟩ ⟨Fz.r w,dK (i':=1) (j':=6) (by rfl) (by rfl) (by rfl) (by rfl) rfl,cU aB,tv⟩) ?_
  rintro⟨⟨k,ob,cb,ub,G⟩,A,hk,f,h⟩ B D;replace A:Fz.le w G:=A;replace hk:k<=(K.filter (keepQ b)).length:=hk;replace f:ob=aA [(((K.filter (keepQ b)).length:Nat):Int)]++(((K.filter (keepQ b)).take k).map fun c=>aA (celQ b c)).flatten:=f;replace h:ub=false->ob=[]:=h
  have al:ob.length<=100000000000:=by
   have h9:=aj ((K.filter (keepQ b)).take k);have h8:=du [(((K.filter (keepQ b)).length:Nat):Int)];rw[qk]at h9;rw[yi]at h8;rw[f,qb];omega
  by_cases g:k < (K.filter (keepQ b)).length
  ·have q:(k:Int) < ((K.filter (keepQ b)).length:Nat):=by omega
   have R:0<=(k:Int)/\(k:Int) < ((K.filter (keepQ b)).length:Nat):=by omega
   have ad:∃x,(K.filter (keepQ b))[k]=x:=⟨_,rfl⟩
   have aa:=hR.mono (Fz.t Y A);obtain⟨nn,nb,ne,nc,nL,nr,Q,az,ag,a0,ah⟩:=aa;cases Q
   obtain⟨x,hx⟩:=ad;have ab:nL[0+(k:Int).toNat]? =some (encK x):=by rw[<-hx];exact Sl.at ah g
   have U:ob++aA (celQ b x)=aA [(((K.filter (keepQ b)).length:Nat):Int)]++(((K.filter (keepQ b)).take (k+1)).map fun c=>aA (celQ b c)).flatten:=by
    rw[eN g,hx,f,qj]
   have ae:k+1<=(K.filter (keepQ b)).length:=g;have O:(K.filter (keepQ b)).length - (k+1) < (K.filter (keepQ b)).length - k:=by omega
   have S:k < 4611686018427387904:=by omega
   have J:=(Fz.t Y A) _ _ L;have ai:=ag rfl;clear hx;rcases b with _ | _
   all_goals
    refine bri q ⟨rfl,R,_,ai,_,ab,_,J,?_⟩;conv=>whnf
   case' false=>
    refine bS 9 (fun _=>.arr 3 1 ([x.row,x.col,x.value].map encI) 3) ?_;intro b2 I l5 d;refine useS (eM hP I _ [x.row,x.col,x.value] ub ob cb h (Sl.new (l:=[x.row,x.col,x.value]) (cap:=3) (d 0 rfl)) ss oo) [(1,1),(2,7)] ⟨bY _ oo oo _ _,aF aB _ _ _ _ _,tv⟩ ⟨cZ (by rfl) (by rfl),aQ aB (bF _ _ _ _),tv⟩ ?_
   case' true=>
    refine bS 9 (fun _=>.arr 3 1 ([x.row,x.col,x.top,x.left].map encI) 4) ?_;intro b2 I l5 d;refine useS (eM hP I _ [x.row,x.col,x.top,x.left] ub ob cb h (Sl.new (l:=[x.row,x.col,x.top,x.left]) (cap:=4) (d 0 rfl)) ss oo) [(1,1),(2,7)] ⟨bY _ oo oo _ _,aF aB _ _ _ _ _,tv⟩ ⟨cZ (by rfl) (by rfl),aQ aB (bF _ _ _ _),tv⟩ ?_
   all_goals
    rintro p F' h0 n0 T ⟨rfl,rfl,rfl,u2,c2,ak,rfl⟩;exact⟨⟨(k+1,ob++aA (celQ _ x),c2,u2,I),Fz.t A l5,ae,U,ak⟩,O,leR [(7,10)] B D rfl ⟨tv,bY _ oo oo _ _,tv,aF aB _ _ _ _ _,tv⟩ ⟨cnt S,tv⟩ ⟨Fz.r I,dK (i':=1) (j':=10) (by rfl) (by rfl) (by rfl) (by rfl) rfl,cU aB,tv⟩⟩
  ·have q:¬(k:Int) < ((K.filter (keepQ b)).length:Nat):=by omega
   have n:ob=dh b K:=by rw[f,m,ql oo]
   refine brj q ?_;exact clean [(3,7)] (.ret (.tup [])) G (wrM ub cb ob) 4 ⟨Fz.t af (Fz.t Y A),rfl,rfl,ub,cb,by rw[<-n];exact h,by rw[n]⟩ trivial rfl rfl (Out.bB_ok (o:=.ret (.tup [])) rfl) (es _ _ _) ⟨Fz.r G,cZ (by rfl) (by rfl),aQ aB (bF _ _ _ _),tv⟩
theorem yct(u:PFun)(F:Fz)(q:Bool)(l n p m:Nat)(e:Bool)(b d c:Nat)(K:List Cel)(w:Int)(s:List UInt8)(x:Sl F 151 6 encK (.slice e 0 b d 6 K.length c) K)(y:K.length<=1000):
  Ct prog 162 [.agg (docS (.slice q 0 l n 2 p m) (.slice e 0 b d 6 K.length c) w s),.va (.ptr ⟨1,0,0,0,0⟩)] F (wrH false 0 []) 3 (wrL (dh false K)):=by
 have i:=uR false u F e b d c K x y;obtain⟨P,a⟩:∃P,dh false K=P:=⟨_,rfl⟩
 rw[a]at i ⊢;clear a;refine ctS func162 ?_;refine useS i [(1,1),(2,2)] ⟨bY _ oo oo _ _,aF aB _ _ _ _ _,tv⟩ ⟨cZ (by rfl) (by rfl),aQ aB (bF _ _ _ _),tv⟩ ?_;rintro j F1 A n0 f ⟨rfl,rfl,k,h,g,rfl⟩;exact clean [(3,4)] (.ret (.tup [])) F1 (wrM k h P) 4 ⟨f,rfl,rfl,k,h,g,rfl⟩ trivial rfl rfl (Out.bB_ok (o:=.ret (.tup [])) rfl) (es _ _ _) ⟨Fz.r F1,dK (i':=1) (j':=4) (by rfl) (by rfl) (by rfl) (by rfl) rfl,cU aB,tv⟩
theorem ycu(u:PFun)(F:Fz)(q:Bool)(l n p m:Nat)(e:Bool)(b d c:Nat)(K:List Cel)(w:Int)(s:List UInt8)(x:Sl F 151 6 encK (.slice e 0 b d 6 K.length c) K)(y:K.length<=1000):
  Ct prog 164 [.agg (docS (.slice q 0 l n 2 p m) (.slice e 0 b d 6 K.length c) w s),.va (.ptr ⟨1,0,0,0,0⟩)] F (wrH false 0 []) 3 (wrL (dh true K)):=by
 have i:=uR true u F e b d c K x y;obtain⟨P,a⟩:∃P,dh true K=P:=⟨_,rfl⟩
 rw[a]at i ⊢;clear a;refine ctS func164 ?_;refine useS i [(1,1),(2,2)] ⟨bY _ oo oo _ _,aF aB _ _ _ _ _,tv⟩ ⟨cZ (by rfl) (by rfl),aQ aB (bF _ _ _ _),tv⟩ ?_;rintro j F1 A n0 f ⟨rfl,rfl,k,h,g,rfl⟩;exact clean [(3,4)] (.ret (.tup [])) F1 (wrM k h P) 4 ⟨f,rfl,rfl,k,h,g,rfl⟩ trivial rfl rfl (Out.bB_ok (o:=.ret (.tup [])) rfl) (es _ _ _) ⟨Fz.r F1,dK (i':=1) (j':=4) (by rfl) (by rfl) (by rfl) (by rfl) rfl,cU aB,tv⟩
theorem yan{P:Program}{f:FuncId}{args:List SV}{h:Hp}{nx:Nat}{K:Out->Hp->Nat->Prop}(i:Nat)(h1:(Nat.ble (i+1) nx&& !Nat.beq i 0)=true)(d:za6 P f args (lput h i .gone) nx K):za6 P f args h nx K:=by
 unfold za6 at*;intro C ρ w vs S e b;simp only[qd,qav]at h1;have c:i < nx:=nb h1.1;have a:i≠0:=fun h=>by rw[h]at h1;exact absurd h1.2 dd
 exact d C ρ w vs (S.forget c a) e b
theorem fN{n:Int}(h:-4611686018427387903<=n/\n<=4611686018427387903)(l:List Int):aA (n::l)≠[]:=by
 rw[aA,qw,jm,eb h];intro h;exact iJ n (qdg.1 h).1
theorem iX{a b:List α}(h:a≠[]):a++b≠[]:=fun c=>h (qdg.1 c).1
variable {d:Dc}
theorem BI{p:Int}(g:docOk d=true):propB p d≠[]:=by
 obtain⟨k,f,j,h,c,a⟩:=dN g;obtain⟨l,m,n,o⟩:=lv a;have e:∀b,(d.cells.filter (keepQ b)).length<=64:=fun b=>q8 (qan _ _) f
 have h1:=e true;have i:=e false;unfold propB;split
 ·exact iX (fN oo _)
 split
 ·exact iX (fN oo _)
 split
 ·exact iX (fN oo _)
 split
 ·exact iX (fN oo _)
 split
 ·exact iX (fN oo _)
 split
 ·exact fN oo _
 split
 ·exact iX (fN oo _)
 ·exact fN oo _
def pAns(p:Int)(d:Dc):Out:=.ret (.tup [.va (.str (if docOk d=true then propB p d else [])),.va (.int .i64 (if docOk d=true then 0 else 60))])
theorem so{p:Int}(h:docOk d=true):pAns p d=.ret (.tup [.va (.str (propB p d)),.va (.int .i64 0)]):=by rw[pAns,if_pos h,if_pos h]
theorem si{p:Int}(h:docOk d=false):pAns p d=.ret (.tup [.va (.str []),.va (.int .i64 60)]):=by rw[pAns,h];rfl
theorem BJ(p:Int)(Z:1<=p/\p<=8)(u:PFun)(F:Fz)(i:Bool)(e g f:Nat)(l:Bool)(j k c:Nat)(d:Dc)(I:Sl F 148 2 encN (.slice i 0 e g 2 d.lines.length f) d.lines)(E:Sl F 151 6 encK (.slice l 0 j k 6 d.cells.length c) d.cells)
  (G:d.lines.length<=1000)(y:d.cells.length<=1000)(R:d.bits.length<=70000)(b:d.cells.length<=c):
  Fo prog F 48 [.agg (docS (.slice i 0 e g 2 d.lines.length f) (.slice l 0 j k 6 d.cells.length c) d.w d.bits),.va (.int .i64 p)] (fun o _=>o=pAns p d):=by
 have Q:=oh F _ _ d I E G y R;have B:=so (p:=p) (d:=d);have O:=si (p:=p) (d:=d);have A:=BI (p:=p) (d:=d)
 have D:docOk d=true->∀x∈d.lines,x.1.length<=1000000:=fun q x D=>by
  have:=(dN q).ln x D;unfold dlnOk at this;simp only[qd,decide_eq_true_eq]at this;omega
 have m:=jX (p:=p) (d:=d);have U:∃T,propB p d=T:=⟨_,rfl⟩
 obtain⟨T,n⟩:=U;rw[n]at B A m;obtain⟨L,K,w,s⟩:=d;replace I:Sl F 148 2 encN (.slice i 0 e g 2 L.length f) L:=I;replace E:Sl F 151 6 encK (.slice l 0 j k 6 K.length c) K:=E;replace G:L.length<=1000:=G;replace y:K.length<=1000:=y;replace R:s.length<=70000:=R;replace b:K.length<=c:=b;replace D:docOk ⟨L,K,w,s⟩=true->∀x∈L,x.1.length<=1000000:=D;have V:∃v,docOk ⟨L,K,w,s⟩=v:=⟨_,rfl⟩
 obtain⟨v,hv⟩:=V;rw[hv]at Q B O A m D
 have fin:∀(z:Out) (F1:Fz) (h:Hp) (nx:Nat),pAns p ⟨L,K,w,s⟩=z->(∀μ,z.ren μ=z)->z.z=true->Fz.le F F1->lget h 0=some (.frz F1)->Cln 1 (FoK F fun o Y=>o=pAns p ⟨L,K,w,s⟩) z h nx:=by
  intro z F1 h nx hz hr W J S;subst hz;exact endFo (pAns p ⟨L,K,w,s⟩) F1 S J (Fz.r F1) rfl (by rw[hr];exact aP _) W
 rcases p8 Z with rfl | rfl | rfl | rfl | rfl | rfl | rfl | rfl
 case' inl=>
  have a:=fun q:v=true=>ycr u F i e g f l j k K.length c L w s I G (D q)
  rw[show ptext L=T from n]at a
 case' inr.inl=>
  have a:=fun q:v=true=>ycs u F i e g f l j k K.length c L w s I G
  rw[show pmot L=T from n]at a
 case' inr.inr.inl=>
  have a:=fun q:v=true=>yct u F i e g L.length f l j k c K w s E y
  rw[show dh false K=T from n]at a
 case' inr.inr.inr.inl=>
  have a:=fun q:v=true=>ycu u F i e g L.length f l j k c K w s E y
  rw[show dh true K=T from n]at a
 case' inr.inr.inr.inr.inl=>
  have a:=fun q:v=true=>ycv u F i e g L.length f l j k c K w s E y b
  rw[show pvals K=T from n]at a
 case' inr.inr.inr.inr.inr.inl=>
  have a:=fun q:v=true=>ycw u F i e g L.length f l j k K.length c w s oo
  rw[show aA [w,hgt w s]=T from n]at a
 case' inr.inr.inr.inr.inr.inr.inl=>
  have a:=fun q:v=true=>ycx u F i e g L.length f l j k K.length c w s oo
  rw[show aA [w,hgt w s]++(putSR s).1=T from n]at a
 case' inr.inr.inr.inr.inr.inr.inr=>
  have a:=fun q:v=true=>ycy u F i e g L.length f l j k K.length c w s
  rw[show aA [(L.length:Int),(K.length:Int)]=T from n]at a
 all_goals
  clear D R G y b n;refine foS func48 ?_;refine use (BK F) [] rfl trivial rfl trivial ss trivial ?_;rintro _ F0 S n0 J ⟨rfl,rfl,rfl,rfl⟩;conv=>whnf
  repeat(refine brd dd ?_;(conv=>whnf))
  refine bre dd ?_;refine usePs Q ?_;rcases v with _ | _
  ·refine bre dd ?_;exact fin _ F _ _ (O rfl) (fun _=>rfl) rfl (Fz.r F) rfl
  ·refine brd dd ?_;refine yan 2 rfl ?_;refine use (a rfl) [(1,3),(2,2)] rfl ⟨rfl,rfl,tv⟩ rfl ⟨bY _ oo oo _ _,aF aB _ _ _ _ _,tv⟩ (by simp[SV.below,SC.below,SA.below]) ⟨rfl,rfl,tv⟩ ?_;rintro X F1 S n0 M ⟨rfl,rfl,u1,c1,aa,rfl⟩;refine B8 (A rfl) (m rfl) rfl (kD (by rfl) (by rfl) _ _) rfl (kJ aB _ _ _ _ _) ?_;intro o';exact fin _ F1 _ _ (B rfl) (fun _=>rfl) rfl M rfl
theorem rj(k:PFun)(F:Fz)(g:Bool)(c f e:Nat)(j:Bool)(h i b:Nat)(d:Dc)(l:Sl F 148 2 encN (.slice g 0 c f 2 d.lines.length e) d.lines)(m:Sl F 151 6 encK (.slice j 0 h i 6 d.cells.length b) d.cells)
  (q:d.lines.length<=1000)(n:d.cells.length<=1000)(u:d.bits.length<=70000)(a:d.cells.length<=b)(p:Int)(s:1<=p/\p<=8):
  Fo prog F 48 [.agg (docS (.slice g 0 c f 2 d.lines.length e) (.slice j 0 h i 6 d.cells.length b) d.w d.bits),.va (.int .i64 p)] (fun o _=>o=pAns p d):=by
 exact BJ p s k F g c f e j h i b d l m q n u a
def allB(d:Dc):List (List UInt8):=(List.range 8).map fun k:Nat=>propB ((k:Int)+1) d
theorem eH(d:Dc):(allB d).length=8:=by simp[allB]
theorem lU(d:Dc)(k:Nat)(h:k < 8):(allB d)[k]? =some (propB ((k:Int)+1) d):=by simp[allB,h]
theorem k7{n:Nat}{a b:SA}{w:Int}{s:List UInt8}(c:a.below n)(d:b.below n):(Ent.one (.cells 41 (docS a b w s))).below n:=gy (w:=w) (s:=s) c d
theorem gC:Plain encS:=fun x=>⟨fun μ=>rfl,fun a b=>by simp only[encS,qs]at b;subst b;trivial⟩
abbrev rX(a b:SA)(w:Int)(s:List UInt8):Ent:=.one (.cells 41 (docS a b w s))
theorem xZ(hP:PFun)(F:Fz)(U:Bool)(R T S:Nat)(Y:Bool)(V W J:Nat)(d:Dc)(ha:Sl F 148 2 encN (.slice U 0 R T 2 d.lines.length S) d.lines)(hb:Sl F 151 6 encK (.slice Y 0 V W 6 d.cells.length J) d.cells)
  (hl:d.lines.length<=1000)(hc:d.cells.length<=1000)(hs:d.bits.length<=70000)(m:d.cells.length<=J):
  Fo prog F 14 [.agg (docS (.slice U 0 R T 2 d.lines.length S) (.slice Y 0 V W 6 d.cells.length J) d.w d.bits)] (fun o F'=>(docOk d=false/\o=.ret (.tup [.va .nilsl,.va (.int .i64 60)]))\/
   (docOk d=true/\∃b c,o=.ret (.tup [.va (.slice false 0 b 0 1 8 c),.va (.int .i64 0)])/\F' b=some (.arr 9 1 ((allB d).map encS) c)/\8<=c)):=by
 have ag:=fun F1 (l1:Fz.le F F1)=>rj hP F1 U R T S Y V W J d (ha.mono l1) (hb.mono l1) hl hc hs m
 have ah:=fun p=>so (p:=p) (d:=d)
 have af:=fun p=>si (p:=p) (d:=d)
 have f:=eH d;have hgt:=lU d;obtain⟨A,hA⟩:∃A,allB d=A:=⟨_,rfl⟩
 rw[hA]at f hgt ⊢;clear hA ha hb hl hc hs m;obtain⟨L,K,w,s⟩:=d;obtain⟨v,hv⟩:∃v,docOk ⟨L,K,w,s⟩=v:=⟨_,rfl⟩
 rw[hv]at ah af ⊢;clear hv;rcases v with _ | _
 ·have a:=ag F (Fz.r F) 1 oo;rw[af 1 rfl]at a;refine foS func14 ?_;conv=>whnf
  refine aH hΘ (X:={ k:Nat // k=0 }) (fun k=>[(4,.va .nilsl),(8,.va (.int .i64 k.1))]) (2::3::5::6::7::jr 9 17 [])
   (fun y=>[(0,.frz F),(1,rX (.slice U 0 R T 2 L.length S) (.slice Y 0 V W 6 K.length J) w s)]) 2 (fun k=>0) ⟨0,rfl⟩
   (fun u x=>leI [] u x rfl ⟨tv,k7 (.inr oo) (.inr oo),tv⟩ ⟨rfl,rfl,tv⟩ ⟨Fz.r F,rfl,tv⟩) ?_
  rintro⟨k,rfl⟩ u x;refine br (fun _=>?_) (fun q=>absurd q dd);refine useFs a ?_;rintro _ F1 l1 rfl;refine br (fun _=>?_) (fun q=>absurd q dd);exact endFs (.ret (.tup [.va .nilsl,.va (.int .i64 60)])) l1 (.inl ⟨rfl,rfl⟩)
 ·refine foS func14 ?_;conv=>whnf
  refine aH hΘ (X:={ y:Nat×List (List UInt8)×Nat×Fz // Fz.le F y.2.2.2/\y.1<=8/\y.2.1=A.take y.1/\y.2.1.length<=y.2.2.1 }) (fun y=>[(4,.va (gA 1 2 y.1.2.2.1 y.1.2.1)),(8,.va (.int .i64 y.1.1))]) (2::3::5::6::7::jr 9 17 [])
   (fun y=>[(0,.frz y.1.2.2.2),(1,rX (.slice U 0 R T 2 L.length S) (.slice Y 0 V W 6 K.length J) w s),(2,gE 9 1 encS y.1.2.2.1 y.1.2.1)]) 3 (fun y=>8 - y.1.1) ⟨(0,[],0,F),Fz.r F,by omega,by simp,qi 0⟩
   (fun u x=>leI [(2,2)] u x rfl ⟨tv,k7 (.inr oo) (.inr oo),aF gC _ _ _ _ _,tv⟩ ⟨rfl,rfl,tv⟩ ⟨Fz.r F,rfl,rfl,tv⟩) ?_
  rintro⟨⟨k,o,co,G⟩,M,hk,O,D⟩ u x;replace M:Fz.le F G:=M;replace hk:k<=8:=hk;replace O:o=A.take k:=O;replace D:o.length<=co:=D;by_cases g:k < 8
  ·have l:(k:Int) < 8:=by omega
   have Z:k+1<=8:=g;have n:8 - (k+1) < 8 - k:=by omega
   have h:k < 4611686018427387904:=by omega
   have hw:SA.int .i64 ((k:Int)+1)=SA.int .i64 (IntKind.i64.wrap ((k:Int)+1)):=cnt h;have am:∃t,propB ((k:Int)+1) ⟨L,K,w,s⟩=t:=⟨_,rfl⟩
   obtain⟨t,ht⟩:=am;have a:=ag G M ((k:Int)+1) oo;rw[ah ((k:Int)+1) rfl,ht]at a
   have ad:o++[t]=A.take (k+1):=by
    have aa:k < A.length:=by omega
    rw[qf aa,O];have:=hgt k g;rw[qc aa,ht]at this;rw[Option.some.inj this]
   have I:o.length=k:=by rw[O,qk];omega
   clear ht O;rcases o with _ | ⟨o0,e⟩
   ·refine bri l ?_;refine useFo a rfl ⟨rfl,hw,tv⟩ rfl ?_;rintro _ Q l2 rfl;refine br (fun q=>absurd q dd) (fun _=>?_);refine⟨nb rfl,[encS t],rfl,rfl,rfl,by show 1*16<=140737488355328;omega,fun c' B=>?_⟩;exact⟨⟨(k+1,[]++[t],c',Q),Fz.t M l2,Z,ad,by simpa using B⟩,n,leR [(2,4)] u x rfl ⟨tv,k7 (.inr oo) (.inr oo),aF gC _ _ _ _ _,tv⟩ ⟨by(conv=>whnf);exact⟨rfl,rfl,rfl,.inr ⟨rfl,rfl,rfl,rfl⟩⟩,cnt h,tv⟩ ⟨Fz.r Q,rfl,aQ gC (aZ _ ss),tv⟩⟩
   ·have al:(e.length+1+1)*16<=140737488355328:=by
     have h9:e.length+1=k:=I;omega
    refine bri l ?_;refine useFo a rfl ⟨rfl,hw,tv⟩ rfl ?_;rintro _ Q l2 rfl;refine br (fun q=>absurd q dd) (fun _=>?_);refine⟨nb rfl,[encS t],rfl,rfl,rfl,by simp,rfl,al,fun c' B=>?_⟩;exact⟨⟨(k+1,(o0::e)++[t],c',Q),Fz.t M l2,Z,ad,by simpa using B⟩,n,leR [(2,4)] u x rfl ⟨tv,k7 (.inr oo) (.inr oo),aF gC _ _ _ _ _,tv⟩ ⟨ed (μ:=sig [(2,4)]) (i:=2) (j:=4) rfl 1 c' _ (o0::e) t rfl,cnt h,tv⟩ ⟨Fz.r Q,rfl,aQ gC (aZ _ ss),tv⟩⟩
  ·have l:¬(k:Int) < 8:=by omega
   have aj:k=8:=by omega
   have E:o=A:=by rw[O,aj,ql oo]
   rcases o with _ | ⟨o0,e⟩
   ·rw[<-E]at f;cases f
   ·have I:e.length+1=8:=by rw[<-E]at f;exact f
    refine brj l ?_;refine cD 2 (fun _=>.arr 9 1 ((o0::e).map encS) co) rfl rfl rfl (fun _ _=>by exact cY gC rfl _ _ _ _) (fun _ _=>cF gC _ _ _ _ _) ?_;intro b' F' ak ai;refine endFo (.ret (.tup [.va (.slice false 0 (b' 0) 0 1 8 co),.va (.int .i64 0)])) F' rfl (Fz.t M ak) (Fz.r F') (.inr ⟨rfl,_,_,rfl,by rw[<-E];exact ai 0 ⟨rfl,rfl⟩,by have h9:e.length+1<=co:=D;omega⟩) ?_ rfl;exact⟨⟨rfl,I.symm,rfl,.inr ⟨rfl,rfl,rfl,rfl⟩⟩,rfl,tv⟩
theorem ycg(s:PFun)(F:Fz)(j:Bool)(f i g:Nat)(m:Bool)(k l e:Nat)(d:Dc)(u:Sl F 148 2 encN (.slice j 0 f i 2 d.lines.length g) d.lines)(x:Sl F 151 6 encK (.slice m 0 k l 6 d.cells.length e) d.cells)
  (A:d.lines.length<=1000)(y:d.cells.length<=1000)(B:d.bits.length<=70000)(a:d.cells.length<=e):
  Fo prog F 14 [.agg (docS (.slice j 0 f i 2 d.lines.length g) (.slice m 0 k l 6 d.cells.length e) d.w d.bits)] (fun o n=>(docOk d=false/\o=.ret (.tup [.va .nilsl,.va (.int .i64 60)]))\/
   (docOk d=true/\∃b c,o=.ret (.tup [.va (.slice false 0 b 0 1 8 c),.va (.int .i64 0)])/\n b=some (.arr 9 1 ((allB d).map encS) c))):=
 cK (xZ s F j f i g m k l e d u x A y B a) fun _ _ h=>h.imp id fun⟨h1,b,c,p,q,_⟩=>⟨h1,b,c,p,q⟩
def DocAt(F:Fz)(a b:SA)(d:Dc):Prop:=
 ∃(h:Bool) (e g f:Nat) (k:Bool) (i j c:Nat),a=.slice h 0 e g 2 d.lines.length f/\b=.slice k 0 i j 6 d.cells.length c/\Sl F 148 2 encN a d.lines/\Sl F 151 6 encK b d.cells/\d.cells.length<=c
theorem DocAt.mono{F e:Fz}{a b:SA}(h:DocAt F a b d)(c:Fz.le F e):DocAt e a b d:=by
 obtain⟨j,f,i,g,n,k,m,l,h1,o,p,q,s⟩:=h;exact⟨j,f,i,g,n,k,m,l,h1,o,p.mono c,q.mono c,s⟩
structure DcSmall(d:Dc):Prop where
 l:d.lines.length<=1000
 c:d.cells.length<=1000
 b:d.bits.length<=70000
theorem pH(F:Fz)(a b:SA)(d:Dc)(h:DocAt F a b d)(e:DcSmall d):
  Fo prog F 14 [.agg (docS a b d.w d.bits)] (fun o f=>(docOk d=false/\o=.ret (.tup [.va .nilsl,.va (.int .i64 60)]))\/
   (docOk d=true/\∃b c,o=.ret (.tup [.va (.slice false 0 b 0 1 8 c),.va (.int .i64 0)])/\f b=some (.arr 9 1 ((allB d).map encS) c))):=by
 obtain⟨k,g,j,i,q,m,p,n,rfl,rfl,s,u,x⟩:=h;exact ycg pfun F k g j i q m p n d s u e.l e.c e.b x
theorem Ap(F:Fz)(a b:SA)(d:Dc)(h:DocAt F a b d)(e:DcSmall d):
  Fo prog F 14 [.agg (docS a b d.w d.bits)] (fun o f=>(docOk d=false/\o=.ret (.tup [.va .nilsl,.va (.int .i64 60)]))\/
   (docOk d=true/\∃b c,o=.ret (.tup [.va (.slice false 0 b 0 1 8 c),.va (.int .i64 0)])/\f b=some (.arr 9 1 ((allB d).map encS) c)/\8<=c)):=by
 obtain⟨k,g,j,i,q,m,p,n,rfl,rfl,s,u,x⟩:=h;exact xZ pfun F k g j i q m p n d s u e.l e.c e.b x
theorem fI(b:docOk d=true):∀s∈allB d,s.length<=900000000000:=by
 intro s f;obtain⟨k,c,rfl⟩:=qz.1 f;have e:k < 8:=qce.1 c;have a:1<=(k:Int)+1/\(k:Int)+1<=8:=by omega
 show(propB ((k:Int)+1) d).length<=_;rw[iF a];have:=Ew (p:=(k:Int)+1) (yC a (jT a b));omega
theorem mp{F:Fz}{b c:Nat}(h:F b=some (.arr 9 1 ((allB d).map encS) c)):Sl F 9 1 encS (.slice false 0 b 0 1 8 c) (allB d):=by
 have:=Sl.new (enc:=encS) (cap:=c) h;rw[eH]at this;exact this
theorem C1{b:List Kp}(a:short b)(p:Int):(bJ b p).length < 1000000:=by
 unfold bJ;split
 ·decide
 ·split
  ·exact nX a _
  ·exact nX a _
theorem kW{a:List Kp}(b:short a):short (bR a):=by
 intro x c;obtain⟨k,_,rfl⟩:=qz.1 c;exact C1 b _
def makeC(m:Mig)(d e:Dc):Crt:=⟨root8 (allB d),root8 (allB e),1,bR m.keep⟩
def ep(m:Mig)(d e:Dc):Bool:=migOk m&&(docOk d&&(docOk e&&cH (makeC m d e) (allB d) (allB e)))
theorem mj(F:Fz)(hM:MLF F)(K:RNDF F)(sk G J I y:SA)(m:Mig)(d e:Dc)(U:KpsAt F sk m.keep)(V:short m.keep)(hl:m.keep.length < 1000000)(i:DocAt F G J d)(j:DocAt F I y e)(M:DcSmall d)(O:DcSmall e):
  Fo prog F 21 [.agg (migS m sk),.agg (docS G J d.w d.bits),.agg (docS I y e.w e.bits)] (fun o Y=>
   (ep m d e=false/\o=.ret (.tup [.agg [.str [],.str [],.int .i64 0,.nilsl],.va (.int .i64 100)]))\/
   (ep m d e=true/\∃X,o=.ret (.tup [.agg (crtS (makeC m d e) X),.va (.int .i64 0)])/\ClsAt Y X (bR m.keep))):=by
 have f:=EM F sk m U V hl;have l:=fun F1 (k:Fz.le F F1)=>pH F1 G J d (i.mono k) M
 have n:=fun F1 (k:Fz.le F F1)=>pH F1 I y e (j.mono k) O
 obtain⟨id,src,g,a,s⟩:=m;obtain⟨kn,kb,ke,kc,kL,kr,rfl,k1,k2,k3,k4⟩:=U;obtain⟨ag,aa,ae,ac,ao,ai,am,ak,rfl,rfl,-,-,-⟩:=i;obtain⟨ah,ab,af,ad,ap,aj,an,al,rfl,rfl,-,-,-⟩:=j;refine foS func21 ?_;refine useFs f ?_;rintro _ F1 k (⟨A,rfl⟩ | ⟨A,b,c,rfl,L⟩)
 all_goals
  refine useFs (l F1 k) ?_;rintro _ Z u (⟨i,rfl⟩ | ⟨i,y,c2,rfl,S⟩)
 all_goals
  refine useFs (n Z (Fz.t k u)) ?_;rintro _ F3 p (⟨j,rfl⟩ | ⟨j,b3,c3,rfl,T⟩)
 all_goals
  conv=>whnf
  repeat
   first
    |refine gaf dd ?_
     conv=>whnf
    |refine gae dd ?_
     conv=>whnf
    |refine brd dd ?_
     conv=>whnf
    |refine bre dd ?_
     conv=>whnf
 any_goals
  exact endFs (.ret (.tup [.agg [.str [],.str [],.int .i64 0,.nilsl],.va (.int .i64 100)])) (Fz.t k (Fz.t u p)) (.inl ⟨by simp only[ep,A,i,j,jv,yq],rfl⟩)
 refine useFs (lW F3 (K.mono (Fz.t k (Fz.t u p))) _ (allB d) (mp (p _ _ S)) (eH d) (fI i)) ?_;rintro _ F4 x rfl;have W:=Fz.t k (Fz.t u (Fz.t p x));refine useFs (lW F4 (K.mono W) _ (allB e) (mp (x _ _ T)) (eH e) (fI j)) ?_;rintro _ F5 B rfl;have E:=Fz.t W B;have R:=KpsAt.up L (Fz.t u (Fz.t p (Fz.t x B)));have h:=ph F5 (hM.mono E) (K.mono E) _ _ _ (makeC ⟨id,src,g,a,s⟩ d e) (allB d) (allB e) R (kW V) (by show(bR s).length < _;rw[gw];decide) (mp (B _ _ (x _ _ (p _ _ S)))) (mp (B _ _ (x _ _ T))) (fI i) (fI j)
 have Q:cH (makeC ⟨id,src,g,a,s⟩ d e) (allB d) (allB e)=true\/cH (makeC ⟨id,src,g,a,s⟩ d e) (allB d) (allB e)=false:=by
  cases cH (makeC ⟨id,src,g,a,s⟩ d e) (allB d) (allB e)
  ·exact .inr rfl
  ·exact .inl rfl
 refine Or.elim Q (fun q=>?_) (fun q=>?_)
 ·rw[q]at h;refine useFs h ?_;rintro _ F6 D rfl;refine brd dd ?_;exact endFs (.ret (.tup [.agg [.str (root8 (allB d)),.str (root8 (allB e)),.int .i64 1,.slice false 0 b 0 2 8 c],.va (.int .i64 0)])) (Fz.t E D) (.inr ⟨by simp only[ep,A,i,j,q,qab],_,rfl,KpsAt.up R D⟩)
 ·rw[q]at h;refine useFs h ?_;rintro _ F6 D rfl;refine bre dd ?_;exact endFs (.ret (.tup [.agg [.str [],.str [],.int .i64 0,.nilsl],.va (.int .i64 100)])) (Fz.t E D) (.inl ⟨by simp only[ep,A,i,j,q,qab],rfl⟩)
