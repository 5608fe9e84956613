import Derived.Test.YtfnkamphhpldcaaGreatDoorK28
import Derived.Test.YtfnkamphhpldcaaGreatDoorK21
set_option maxHeartbeats 64000000
namespace Go.Proofs.YtfnkamphhpldcaaGreatDoor
open Go Sx
def zcs(b:Bool)(K:List Cel):List UInt8:=zae [((K.filter (keepQ b)).length:Int)]++((K.filter (keepQ b)).map fun c=>zae (if b=true then [c.row,c.col,c.top,c.left]else [c.row,c.col,c.value])).flatten
def zg9(p:Int)(d:Dc):List Ln:=
 if p=1 then d.lines.map fun l=>(l.1,[])
 else if p=2 then d.lines.map fun l=>([],[l.2])
 else if p=3 then(d.cells.filter (keepQ false)).map fun c=>([],[c.row,c.col,c.value])
 else if p=4 then(d.cells.filter (keepQ true)).map fun c=>([],[c.row,c.col,c.top,c.left])
 else(d.cells.zip (valsF d.cells)).map fun x=>([],[x.1.row,x.1.col,x.2])
def zb9(p:Int)(d:Dc):Val:=
 if p=8 then⟨false,[],d.lines.length,d.cells.length,[]⟩
 else if p=7 then⟨false,[],d.w,hgt d.w d.bits,d.bits⟩
 else if p=6 then⟨false,[],d.w,hgt d.w d.bits,[]⟩
 else⟨false,zg9 p d,0,0,[]⟩
def propB(p:Int)(d:Dc):List UInt8:=
 if p=1 then ptext d.lines else if p=2 then pmot d.lines else if p=3 then zcs false d.cells else if p=4 then zcs true d.cells
 else if p=5 then pvals d.cells else if p=6 then zae [d.w,hgt d.w d.bits]else if p=7 then zae [d.w,hgt d.w d.bits]++(putSR d.bits).1
 else zae [(d.lines.length:Int),(d.cells.length:Int)]
theorem inRW{n b a:Int}:inR n b a=true↔b<=n/\n<=a:=by unfold inR;simp
theorem zid(p:Int)(a:p≠1)(l:List Int):lineW p ([],l)=zae l:=by grind[lineW]
theorem zzt(s:List UInt8):lineW 1 (s,[])=(putSR s).1:=by grind[lineW,zae]
theorem zjr(K:List Cel):(K.zip (valsF K)).length=K.length:=by grind[List.length_zip,zdp]
theorem zhg{p:Int}(b:1<=p/\p<=8)(d:Dc):propB p d=zbv p (zb9 p d):=by
 have a:p=1\/p=2\/p=3\/p=4\/p=5\/p=6\/p=7\/p=8:=by omega
 rcases a with rfl | rfl | rfl | rfl | rfl | rfl | rfl | rfl
 ·simp only[propB,zb9,zg9,zbv,if_true,if_false,jw,ptext,qa,ji,show¬(6:Int)<=1 by omega,show¬(1:Int)=8 by omega,show¬(1:Int)=7 by omega,show¬(1:Int)=6 by omega];simp only[Function.comp_def,zzt]
 ·simp only[propB,zb9,zg9,zbv,if_true,if_false,jw,pmot,qa,ji,show¬(6:Int)<=2 by omega,show¬(2:Int)=8 by omega,show¬(2:Int)=7 by omega,show¬(2:Int)=6 by omega,show¬(2:Int)=1 by omega];simp only[Function.comp_def,zid 2 (by omega)]
 ·simp only[propB,zb9,zg9,zbv,if_true,if_false,jw,zcs,qa,ji,show¬(6:Int)<=3 by omega,show¬(3:Int)=8 by omega,show¬(3:Int)=7 by omega,show¬(3:Int)=6 by omega,show¬(3:Int)=1 by omega,show¬(3:Int)=2 by omega];simp only[Function.comp_def,zid 3 (by omega)]
 ·simp only[propB,zb9,zg9,zbv,if_true,if_false,jw,zcs,qa,ji,show¬(6:Int)<=4 by omega,show¬(4:Int)=8 by omega,show¬(4:Int)=7 by omega,show¬(4:Int)=6 by omega,show¬(4:Int)=1 by omega,show¬(4:Int)=2 by omega,show¬(4:Int)=3 by omega];simp only[Function.comp_def,zid 4 (by omega)]
 ·simp only[propB,zb9,zg9,zbv,if_true,if_false,jw,pvals,qa,ji,show¬(6:Int)<=5 by omega,show¬(5:Int)=8 by omega,show¬(5:Int)=7 by omega,show¬(5:Int)=6 by omega,show¬(5:Int)=1 by omega,show¬(5:Int)=2 by omega,show¬(5:Int)=3 by omega,show¬(5:Int)=4 by omega,zjr];simp only[Function.comp_def,zid 5 (by omega)]
 ·simp[propB,zb9,zbv]
 ·simp[propB,zb9,zbv]
 ·simp[propB,zb9,zbv]
theorem zfw{α:Type}{p:Int}{f:α->Ln}:∀(l acc:List α),(∀x∈l,if p=1 then(f x).2=[]/\(f x).1.length<=80/\(f x).1.any badC=false else(f x).1=[]/\(f x).2.length=cols p/\zjz p [] (f x).2)->
  (p≠1->p≠2->(acc++l).Pairwise fun a b=>cmpL ((f a).2.take 2) ((f b).2.take 2) < 0)->lnsOk p (acc.map f) (l.map f)
 |[],acc,_,_=>trivial
 |x::r,acc,h,hp=>by
  refine⟨?_,?_⟩
  ·grind[List.getLast?_map,List.mem_of_getLast?,lnOk]
  ·have:=zfw (p:=p) (f:=f) r (acc++[x]) (fun y c=>h y (by simp[c])) (by rw[qn];exact hp)
   grind
theorem zzx{a b c:Cel}(h1:ltC a b=true)(d:ltC b c=true):ltC a c=true:=by
 grind[ltC]
theorem zsb:∀l:List Cel,ascF l=true->l.Pairwise fun a b=>ltC a b=true
 |[],_=>.nil
 |[x],_=>by simp
 |x::y::r,h=>by
  have h:(ltC x y&&ascF (y::r))=true:=h;rw[qd]at h;have ih:=zsb (y::r) h.2;refine List.Pairwise.cons (fun z c=>?_) ih
  grind[zzx,List.rel_of_pairwise_cons]
theorem zsm{a b:Cel}(h:ltC a b=true):cmpL [a.row,a.col] [b.row,b.col] < 0:=by
 grind[ltC,cmpI,cmpL]
theorem zyh(n:Int):-1000000000000<=zea n/\zea n<=1000000000000:=by grind[zea]
theorem zwk:∀(l d:List Cel) (o:List Int),(∀n∈o,-1000000000000<=n/\n<=1000000000000)->∀n∈valsA l d o,-1000000000000<=n/\n<=1000000000000
 |[],d,o,h=>h
 |c::r,d,o,h=>by
  rw[valsA];refine zwk r _ _ fun n a=>?_
  grind[zyh,valF]
structure DocOk(d:Dc):Prop where
 lines:d.lines.length<=64
 cells:d.cells.length<=64
 asc:ascF d.cells=true
 ln:∀x∈d.lines,dlnOk x=true
 cel:∀x∈d.cells,celOk x=true
 ras:rasOk d.w d.bits=true
theorem zbk{d:Dc}(h:docOk d=true):DocOk d:=by
 unfold docOk at h;simp only[qd,decide_eq_true_eq,qo]at h;exact⟨h.1.1.1.1.1,h.1.1.1.1.2,h.1.1.1.2,h.1.1.2,h.1.2,h.2⟩
theorem zio{w:Int}{s:List UInt8}(h:rasOk w s=true):(0<=w/\w<=32)/\s.all bitK=true/\(min w 1<=hgt w s/\hgt w s<=min w 1*32)/\(s.length:Int)=w*hgt w s:=by
 grind[inRW,rasOk,hgt]
theorem zgy{p:Int}(E:1<=p/\p<=8){d:Dc}(A:docOk d=true):VOK p (zb9 p d):=by
 obtain⟨q,n,y,l,e,m⟩:=zbk A;obtain⟨s,B,u,D⟩:=zio m;have k:=zsb _ y;have w:p=1\/p=2\/p=3\/p=4\/p=5\/p=6\/p=7\/p=8:=by omega
 rcases w with rfl | rfl | rfl | rfl | rfl | rfl | rfl | rfl
 ·refine .inr ⟨rfl,?_⟩;refine⟨rfl,rfl,rfl,by show(d.lines.map _).length<=64;rw[qa];exact q,?_⟩;refine zfw d.lines [] (fun x i=>?_) (fun h=>absurd rfl h);have:=l x i;unfold dlnOk at this;simp only[qd,decide_eq_true_eq,qao]at this;rw[if_pos rfl];exact⟨rfl,this.1.1,this.1.2⟩
 ·refine .inr ⟨rfl,?_⟩;refine⟨rfl,rfl,rfl,by show(d.lines.map _).length<=64;rw[qa];exact q,?_⟩;refine zfw d.lines [] (fun x i=>?_) (fun _ h=>absurd rfl h);have:=l x i;unfold dlnOk at this;simp only[qd,inRW]at this;rw[if_neg (by omega)];exact⟨rfl,rfl,this.2,tv⟩
 ·have j:(d.cells.filter (keepQ false)).length<=64:=q5 (qae _ _) n;refine .inr ⟨rfl,?_⟩;refine⟨rfl,rfl,rfl,by show((d.cells.filter (keepQ false)).map _).length<=64;rw[qa];exact j,?_⟩;refine zfw (d.cells.filter (keepQ false)) [] (fun x i=>?_) (fun _ _=>(k.filter _).imp fun h=>zsm h);obtain⟨f,g⟩:=qdh.1 i;have:=e x f;have o:x.sum=false:=by simpa[keepQ]using g
  unfold celOk at this;rw[o]at this;simp only[qd,inRW,jw,if_false,decide_eq_true_eq]at this;rw[if_neg (by omega)];exact⟨rfl,rfl,this.1.1,this.1.2,this.2.1.1,tv⟩
 ·have j:(d.cells.filter (keepQ true)).length<=64:=q5 (qae _ _) n;refine .inr ⟨rfl,?_⟩;refine⟨rfl,rfl,rfl,by show((d.cells.filter (keepQ true)).map _).length<=64;rw[qa];exact j,?_⟩;refine zfw (d.cells.filter (keepQ true)) [] (fun x i=>?_) (fun _ _=>(k.filter _).imp fun h=>zsm h);obtain⟨f,g⟩:=qdh.1 i;have:=e x f;have o:x.sum=true:=by simpa[keepQ]using g
  unfold celOk at this;rw[o]at this;simp only[qd,inRW,if_true,decide_eq_true_eq]at this;rw[if_neg (by omega)];exact⟨rfl,rfl,this.1.1,this.1.2,this.2.1.2,this.2.2,tv⟩
 ·refine .inr ⟨rfl,?_⟩;refine⟨rfl,rfl,rfl,by show((d.cells.zip (valsF d.cells)).map _).length<=64;rw[qa,zjr];exact n,?_⟩;refine zfw (d.cells.zip (valsF d.cells)) [] (fun x i=>?_) (fun _ _=>?_)
  ·obtain⟨c,v⟩:=x;obtain⟨f,g⟩:=qdi i;have:=e c f;unfold celOk at this;simp only[qd,inRW]at this;rw[if_neg (by omega)];exact⟨rfl,rfl,this.1.1,this.1.2,zwk _ _ _ (by simp) v g,tv⟩
  ·have h1:((d.cells.zip (valsF d.cells)).map (·.1)).Pairwise fun a b=>ltC a b=true:=by
    rw[List.map_fst_zip (by rw[zdp];exact qg _)];exact k
   rw[List.pairwise_map]at h1;exact h1.imp fun h=>zsm h
 ·refine .inr ⟨rfl,?_⟩;exact⟨rfl,s,u,rfl⟩
 ·refine .inr ⟨rfl,?_⟩;exact⟨rfl,s,u,D,B⟩
 grind[zb9,VOK,docOk,ascF,dlnOk,celOk,rasOk]
theorem zf1:∀(b:Bool) (l:List Cel),((l.map fun c=>zae (if b=true then [c.row,c.col,c.top,c.left]else [c.row,c.col,c.value])).flatten).length<=l.length*1000
 |_,[]=>by simp
 |b,x::r=>by
  have h1:=za4 (if b=true then [x.row,x.col,x.top,x.left]else [x.row,x.col,x.value]);have a:(if b=true then [x.row,x.col,x.top,x.left]else [x.row,x.col,x.value]).length<=4:=by cases b<;>simp
  have d:=zf1 b r
  grind
theorem zc0{p:Int}{d:Dc}(j:docOk d=true):(propB p d).length<=1000000000000000:=by
 obtain⟨s,i,o,e,f,a⟩:=zbk j;obtain⟨l,y,A,B⟩:=zio a;have c:∀n:Int,(zae [n]).length<=9:=fun n=>za4 [n]
 have u:∀n m:Int,(zae [n,m]).length<=18:=fun n m=>za4 [n,m]
 have g:∀b,(d.cells.filter (keepQ b)).length<=64:=fun b=>q5 (qae _ _) i
 have q:d.bits.length<=2000:=by
  have h1:d.w*hgt d.w d.bits<=32*32:=qbq l.2 (by omega) (by omega) (by omega);omega
 unfold propB;split
 ·have:=zlp d.lines fun x k=>by
   have:=e x k;unfold dlnOk at this;simp only[qd,decide_eq_true_eq]at this;omega
  rw[ptext,qb];have:=c d.lines.length;omega
 split
 ·have:=zov d.lines;rw[pmot,qb];have:=c d.lines.length;omega
 split
 ·have:=zf1 false (d.cells.filter (keepQ false));have h:=g false;rw[zcs,qb];have:=c (d.cells.filter (keepQ false)).length;omega
 split
 ·have:=zf1 true (d.cells.filter (keepQ true));have h:=g true;rw[zcs,qb];have:=c (d.cells.filter (keepQ true)).length;omega
 grind[zlt,zjr,zdm,List.length_append,valsF,pvals,hgt]
end Go.Proofs.YtfnkamphhpldcaaGreatDoor
namespace Go.Proofs.YtfnkamphhpldcaaGreatDoor
open Go Sx
set_option maxRecDepth 100000
theorem zsq{α:Type}(l:List α)(i j:Nat)(x:α)(h:i < j):(l.set i x).drop j=l.drop j:=by
 apply qbo;intro k;rw[qaa,qaa,qbs (by omega)]
theorem zpi{α:Type}(l:List α)(i:Nat)(x:α)(h:i < l.length):(l.set i x).take (i+1)=l.take i++[x]:=by
 apply qbo;intro k;rcases Nat.lt_trichotomy k i with hk | hk | hk
 ·rw[qbb (by omega),qbs (by omega),q9 (by rw[qj];omega),qbb hk]
 ·subst hk;rw[qbb (by omega),qca h,jt (by rw[qj];omega)];simp[qal (Nat.le_of_lt h)]
 ·rw[qaq (by rw[qj];omega),qaq (by rw[qb,qj,yh];omega)]
theorem zgp{α:Type}{q:α->Bool}{l:List α}{k:Nat}(a:k < l.length){x:α}(b:l[k]=x):(l.take (k+1)).filter q=(l.take k).filter q++(if q x=true then [x]else []):=by
 rw[qe a,qcx,b];cases h:q x<;>simp[h]
theorem yba{α:Type}{e:α->List SA}{t sz c:Nat}{l:List α}{b:Bool}{L:List (List SA)}(h1:b= !l.isEmpty)(a:L=l.map e):subE (some (.opt b (.arr t sz L c))) (gE t sz e c l):=⟨h1,by rw[a]⟩
theorem zto{α:Type}(R:List α)(i:Nat)(v:α):(!R.isEmpty)=(!(R.set i v).isEmpty):=by cases R<;>cases i<;>rfl
theorem zs3{α:Type}{R:List α}(h:0 < R.length):(!R.isEmpty)=true:=by
 cases R with
 |nil=>cases h
 |cons _ _=>rfl
theorem zp3(F:Fz)(e:Bool)(p s q:Nat)(w:Sl F 151 6 encK (.slice e 0 p s 6 0 q) []):
  Fo Tryz.prog F 87 [.va (.slice e 0 p s 6 0 q)] (fun o d=>∃u,o=.ret (.va u)/\Sl d 151 6 encK u []):=by
 obtain⟨D,y,B,A,j,k,m,x,g,h,i⟩:=w;cases m
 rcases e with _ | _
 ·have a:=g rfl;refine fo_of hΘ Tryz.func87 rfl (by decide) _ _ rfl rfl rfl ?_;refine brd (by decide) ⟨151,j,k,a,h,[],i,rfl,rfl,rfl,by decide,fun c E=>?_⟩;clear E;refine zbc 2 (fun _=>.arr 151 6 [] c) rfl rfl rfl (fun _ _=>rfl) (fun _ _=>SB.bB_ok rfl) ?_;intro b d n f;exact endFo (.ret (.va (.slice false 0 (b 0) 0 6 0 c))) d rfl n (Fz.r d) ⟨_,rfl,Sl.new (l:=[]) (f 0 rfl)⟩ ⟨rfl,rfl,rfl,.inr ⟨rfl,rfl,rfl,rfl⟩⟩ rfl
 ·refine fo_of hΘ Tryz.func87 rfl (by decide) _ _ rfl rfl rfl ?_;refine bre (by decide) ?_;exact endFo (.ret (.va (.slice true 0 0 0 6 0 0))) F rfl (Fz.r F) (Fz.r F) ⟨_,rfl,Sl.nil⟩ ⟨rfl,rfl,rfl⟩ rfl
theorem zum(F:Fz)(c:SA)(b:Bool)(d:Nat)(e:Sl F 151 6 encK c [])(g:F d=some (.cells 4 [.lit b])):
  Fo Tryz.prog F 226 [.va c,.va (.fn (.func 225) [fp d])] (fun o f=>o=.ret (.va c)/\f=F):=by
 have a:=zyc F c [] b d e (by simp) g;rw[show idxG (keepQ b) [] 0= -1 from rfl]at a;obtain⟨q,m,p,n,l,s,rfl,h,i,j,k⟩:=e;refine fo_of hΘ Tryz.func226 rfl (by decide) _ _ rfl rfl rfl ?_;refine usePu a rfl (zaa _) rfl ?_;refine bre (by decide) ?_;exact endPu rfl (Fz.r F) ⟨rfl,rfl,rfl,.inr ⟨rfl,rfl,rfl,rfl⟩⟩ rfl
theorem z6u{L:List (List SA)}(h:∀x∈L,(∀μ:Mu,x.map (SA.ren μ)=x)/\∀a∈x,a.below 0)(t sz c:Nat):(∀μ:Mu,(SB.arr t sz L c).ren μ=SB.arr t sz L c)/\∀n,(SB.arr t sz L c).below n:=by
 refine⟨fun μ=>?_,fun n x b a d=>SA.below_mono (jo _) ((h x b).2 a d)⟩;show SB.arr t sz (L.map (List.map (SA.ren μ))) c=_
 congr 1
 conv=>rhs;rw[<-qc5 L]
 exact jk fun x b=>(h x b).1 μ
theorem yad:(∀μ:Mu,ti151.zero.map (SA.ren μ)=ti151.zero)/\∀a∈ti151.zero,a.below 0:=⟨fun _=>rfl,z6i rfl⟩
theorem zyu(F:Fz)(c:Nat)(K:List Cel)(b:Bool)(bc:Nat)(aq:K≠[])(hB:F bc=some (.cells 4 [.lit b]))(hl:K.length<=1000)(hc:K.length<=c):
  Ct Tryz.prog 226 [.va (.slice false 1 0 0 6 K.length c),.va (.fn (.func 225) [fp bc])] F [(1,gE 151 6 encK c K)] 2
   (fun o F0 h0 n0=>n0=2/\h0=[(1,.gone)]/\∃d,o=.ret (.va (.slice false 0 d 0 6 (K.filter (keepQ b)).length c))/\Sl F0 151 6 encK (.slice false 0 d 0 6 (K.filter (keepQ b)).length c) (K.filter (keepQ b))):=by
 have s:=zqh (keepQ b) K 0;have p:(!K.isEmpty)=true:=by cases K<;>simp_all
 obtain⟨z,hz⟩:∃z,idxG (keepQ b) K 0=z:=⟨_,rfl⟩
 have m:=fun F1 b1 (l1:Fz.le F F1) (h:F1 b1=some (.arr 151 6 (K.map encK) c))=>zyc F1 _ K b bc (Sl.new (l:=K) (cap:=c) h) (by omega) (l1 _ _ hB)
 rw[hz]at m s;clear hz;refine ct_of hΘ Tryz.func226 rfl (by decide) _ _ rfl rfl rfl ?_;refine lend 1 (fun _=>.arr 151 6 (K.map encK) c) rfl rfl rfl (fun _ _=>by exact zcc zad rfl _ _ _ _) (fun _ _=>zat zad _ _ _ _ _) ?_;intro b1 F1 l1 ai;refine usePu (m F1 _ l1 (ai 0 ⟨p,rfl⟩)) rfl ⟨⟨rfl,rfl,rfl,.inr ⟨rfl,rfl,rfl,rfl⟩⟩,rfl,tv⟩ rfl ⟨F1,rfl,Fz.r _,rfl,?_⟩;clear m;rcases s with⟨rfl,h2⟩ | ⟨i,x,h1,ad,h3,h4,h5⟩
 ·refine bre (by decide) ?_;refine zbc 1 (fun _=>.arr 151 6 (K.map encK) c) rfl rfl rfl (fun _ _=>by exact zcc zad rfl _ _ _ _) (fun _ _=>zat zad _ _ _ _ _) ?_;intro d w M f;exact clean [] (.ret (.va (.slice false 0 (d 0) 0 6 K.length c))) w [(1,.gone)] 2 ⟨M,rfl,rfl,d 0,by rw[h2],by rw[h2];exact Sl.new (l:=K) (f 0 ⟨p,rfl⟩)⟩ ⟨rfl,rfl,rfl,.inr ⟨rfl,rfl,rfl,rfl⟩⟩ rfl rfl (Out.bB_ok (o:=.ret (.va (.slice false 0 (d 0) 0 6 K.length c))) rfl) ⟨tv,tv⟩ ⟨Fz.r w,tv⟩
 ·rw[qv]at ad;subst ad;have E:¬(i:Int)= -1:=by omega
  have I:(K.take (i+1)).filter (keepQ b)=K.take i:=by
   obtain⟨_,hx⟩:=qh.1 h4;rw[zgp h1 hx,h5,h3];simp
  have e:i < 4611686018427387904:=by omega
  have S:=cnt e;refine brj E ?_;conv=>whnf
  refine zam hΘ (X:={ y:Nat×Nat×List Cel // y.1 < y.2.1/\y.2.1<=K.length/\y.2.2.length=K.length/\y.1=((K.take y.2.1).filter (keepQ b)).length/\y.2.2.take y.1=(K.take y.2.1).filter (keepQ b)/\y.2.2.drop y.2.1=K.drop y.2.1 }) (fun y=>[(5,.va (.int .i64 y.1.1)),(6,.va (.int .i64 y.1.2.1))]) (7::jr 16 20 [])
   (fun y=>[(0,.frz F),(1,gE 151 6 encK c y.1.2.2)]) 2 (fun y=>K.length - y.1.2.1) ⟨(i,i+1,K),qck i,h1,rfl,by show i=_;rw[I,qj];omega,I.symm,rfl⟩
   (fun hH hT=>leI [] hH hT rfl ⟨tv,zai zad _ _ _ _ _,tv⟩ ⟨rfl,S,tv⟩ ⟨Fz.r F,zau zad (za2 _ _ _ _),tv⟩) ?_
  rintro⟨⟨i,j,R⟩,k1,k2,k3,G,O,k6⟩ hH hT;replace k1:i < j:=k1;replace k2:j<=K.length:=k2;replace k3:R.length=K.length:=k3;replace G:i=((K.take j).filter (keepQ b)).length:=G;replace O:R.take i=(K.take j).filter (keepQ b):=O;replace k6:R.drop j=K.drop j:=k6;have A:=zs3 (R:=R) (by omega);clear h1 h3 h4 h5 I e S E p;by_cases g:j < K.length
  ·have an:(j:Int) < (K.length:Nat):=by omega
   have U:0<=(j:Int)/\(j:Int) < (K.length:Nat):=by omega
   have L:0<=(i:Int)/\(i:Int) < (K.length:Nat):=by omega
   have ac:∃v,K[j]=v:=⟨_,rfl⟩
   obtain⟨v,hv⟩:=ac
   have ag:R[j]? =some v:=by
    have e1:(R.drop j)[0]? =(K.drop j)[0]?:=by rw[k6]
    rw[qaa,qaa,qav,qc g,hv]at e1;exact e1
   have ab:∃u,R[i]? =some u:=⟨_,qc (by omega)⟩
   obtain⟨u,hu⟩:=ab;have ah:(R.map encK)[0+(j:Int).toNat]? =some (encK v):=by rw[qv,qk,qs,ag];rfl
   have Q:(R.map encK)[0+(i:Int).toNat]? =some (encK u):=by rw[qv,qk,qs,hu];rfl
   have n:=zgp (q:=keepQ b) g hv;have k:=zp6 F v b bc hB;have aa:∃q,keepQ b v=q:=⟨_,rfl⟩
   obtain⟨q,hq⟩:=aa;rw[hq]at n k;have V:j+1<=K.length:=g;have B:K.length - (j+1) < K.length - j:=by omega
   have D:j < 4611686018427387904:=by omega
   have e:i < 4611686018427387904:=by omega
   have ae:R.drop (j+1)=K.drop (j+1):=by
    have:=congrArg (List.drop 1) k6;rw[qcv,qcv]at this;exact this
   have Z:(R.map encK).set (0+(i:Int).toNat) (encK v)=(R.set i v).map encK:=by rw[qv,qk,qbg]
   have ap:=zto R i v;refine bri an ⟨rfl,U,A,_,ah,?_⟩;refine usePu k rfl (zaa _) rfl ?_;rcases q with _ | _
   ·refine br (fun g2=>absurd g2 (by decide)) (fun _=>?_);exact⟨⟨(i,j+1,R),Nat.lt_succ_of_lt k1,V,k3,by show i=_;rw[n];simpa using G,by rw[n];simpa using O,ae⟩,B,leR [] hH hT rfl ⟨tv,zai zad _ _ _ _ _,tv⟩ ⟨rfl,cnt D,tv⟩ ⟨Fz.r F,zau zad (za2 _ _ _ _),tv⟩⟩
   ·refine br (fun _=>?_) (fun g2=>absurd g2 (by decide));refine⟨rfl,L,A,_,Q,?_⟩;exact⟨⟨(i+1,j+1,R.set i v),by show i+1 < j+1;omega,V,by rw[qa6];exact k3,by show i+1=_;rw[n,qb,<-G];rfl,by show(R.set i v).take (i+1)=_;rw[zpi _ _ _ (by omega),O,n];rfl,by show(R.set i v).drop (j+1)=_;rw[zsq _ _ _ _ (by omega)];exact ae⟩,B,leR [] hH hT rfl ⟨tv,zai zad _ _ _ _ _,tv⟩ ⟨cnt e,cnt D,tv⟩ ⟨Fz.r F,zau zad (yba ap Z),tv⟩⟩
  ·have aj:¬(j:Int) < (K.length:Nat):=by omega
   refine brj aj ?_;have T:0<=(i:Int)/\(i:Int)<=(K.length:Nat):=by omega
   have al:j=K.length:=by omega
   have am:(K.take j).filter (keepQ b)=K.filter (keepQ b):=by rw[al,qi (qg _)]
   rw[am]at G O;have ak:¬c=(i:Int).toNat:=by rw[qk];omega
   have he:(if c=(i:Int).toNat then 0 else 0+(i:Int).toNat)=i:=by rw[if_neg ak];simp
   have W:(if c=(i:Int).toNat then 0 else 0+(i:Int).toNat)+(K.length - (i:Int).toNat)<=(R.map encK).length:=by rw[he,qk,qa];omega
   have J:0<=(i:Int)/\(i:Int)<=(c:Nat):=by omega
   have af:0=(if c=0 then 0 else 0+0):=by split<;>rfl
   have Y:∀x∈(R.map encK).take (if c=(i:Int).toNat then 0 else 0+(i:Int).toNat)++List.replicate (K.length - (i:Int).toNat) ti151.zero++(R.map encK).drop ((if c=(i:Int).toNat then 0 else 0+(i:Int).toNat)+(K.length - (i:Int).toNat)),(∀μ:Mu,x.map (SA.ren μ)=x)/\∀a∈x,a.below 0:=by
    intro x hx;rcases yj.1 hx with hx | hx
    ·rcases yj.1 hx with hx | hx
     ·obtain⟨y,_,rfl⟩:=jj.1 (jx hx);exact zad y
     ·rw[(qb8.1 hx).2];exact yad
    ·obtain⟨y,_,rfl⟩:=jj.1 (y9 hx);exact zad y
   have ao:∀(w:Fz) (d:Nat),w d=some (.arr 151 6 ((R.map encK).take (if c=(i:Int).toNat then 0 else 0+(i:Int).toNat)++List.replicate (K.length - (i:Int).toNat) ti151.zero++(R.map encK).drop ((if c=(i:Int).toNat then 0 else 0+(i:Int).toNat)+(K.length - (i:Int).toNat))) c)->Sl w 151 6 encK (.slice false 0 d 0 6 (K.filter (keepQ b)).length c) (K.filter (keepQ b)):=by
    intro w d f;refine⟨false,d,0,c,_,c,rfl,(fun h=>nomatch h),fun _=>f,?_,?_⟩
    ·rw[he,<-G];simp only[qb,qj,qbl,qa,yd,qk];omega
    ·rw[he,yz,qn,<-G,qcl (by rw[qj,qa];omega),qa1,qdu,<-qb2,O]
   refine⟨T,A,W,J,?_⟩;refine zbc 1 (fun _=>.arr 151 6 ((R.map encK).take (if c=(i:Int).toNat then 0 else 0+(i:Int).toNat)++List.replicate (K.length - (i:Int).toNat) ti151.zero++(R.map encK).drop ((if c=(i:Int).toNat then 0 else 0+(i:Int).toNat)+(K.length - (i:Int).toNat))) c) rfl rfl rfl (fun _ _=>by exact(z6u Y 151 6 c).1 _) (fun _ _=>(z6u Y 151 6 c).2 1) ?_;intro d w M f;exact clean [] (.ret (.va (.slice false 0 (d 0) 0 6 (K.filter (keepQ b)).length c))) w [(1,.gone)] 2 ⟨M,rfl,rfl,d 0,rfl,ao w (d 0) (f 0 ⟨A,rfl⟩)⟩ ⟨rfl,G.symm,rfl,.inr ⟨rfl,rfl,af,rfl⟩⟩ rfl rfl (Out.bB_ok (o:=.ret (.va (.slice false 0 (d 0) 0 6 (K.filter (keepQ b)).length c))) rfl) ⟨tv,tv⟩ ⟨Fz.r w,tv⟩
theorem zn1(hP:PFun)(F:Fz)(bn:Bool)(Y be Z:Nat)(K:List Cel)(hb:Sl F 151 6 encK (.slice bn 0 Y be 6 K.length Z) K)(hl:K.length<=1000):
  Ct Tryz.prog 163 [.va (.ptr ⟨1,0,0,0,0⟩),.va (.slice bn 0 Y be 6 K.length Z),.va (.lit false)] F (wrH false 0 []) 3 (wrL (zcs false K)):=by
 have ay:(K.filter (keepQ false)).length<=K.length:=qae _ _;have h:zcs false K=zae [((K.filter (keepQ false)).length:Int)]++((K.filter (keepQ false)).map fun c=>zae [c.row,c.col,c.value]).flatten:=rfl;have aj:∀l:List Cel,((l.map fun c=>zae [c.row,c.col,c.value]).flatten).length<=l.length*1000:=fun l=>zf1 false l
 by_cases f:K=[]
 ·subst f;have h:zcs false []=[]++zae [((0:Nat):Int)]:=by simp[zcs]
  have e:=zp3 F bn Y be Z hb;refine ct_of hΘ Tryz.func163 rfl (by decide) _ _ rfl rfl rfl ?_;refine useFo e rfl ⟨⟨rfl,rfl,rfl,.inr ⟨rfl,rfl,rfl,rfl⟩⟩,tv⟩ rfl ?_;rintro _ F1 l1 ⟨sa,rfl,T⟩;refine zaz 3 (fun _=>.cells 4 [.lit false]) rfl rfl rfl (fun _ _=>rfl) (fun _ _=>SB.bB_ok rfl) ?_;intro bx F2 B b;have ac:=zum F2 sa false (bx 0) (T.mono B) (b 0 rfl);have U:=T.mono B;obtain⟨aw,ar,av,au,aq,ax,rfl,am,an,ao,ap⟩:=U;refine useFo ac rfl ⟨⟨rfl,rfl,rfl,.inr ⟨rfl,rfl,rfl,rfl⟩⟩,rfl,tv⟩ rfl ?_;rintro _ F' l3 ⟨rfl,rfl⟩;refine zaz 4 (fun _=>.arr 3 1 ([((0:Nat):Int)].map encI) 1) rfl rfl rfl (fun _ _=>rfl) (fun _ _=>SB.bB_ok rfl) ?_;intro b1 q V a;refine use (zd7 hP q _ [((0:Nat):Int)] false [] 0 (fun _=>rfl) (Sl.new (l:=[((0:Nat):Int)]) (cap:=1) (a 0 rfl)) (by simp) (by simp)) [(1,1),(2,2)] rfl ⟨rfl,⟨rfl,rfl,rfl,.inr ⟨rfl,rfl,rfl,rfl⟩⟩,tv⟩ rfl ⟨zas _ (by omega) (by omega) _ _,zai zab _ _ _ _ _,tv⟩ (by simp[SV.below,SA.below]) ⟨zb6 (by rfl) (by rfl),zau zab (za2 _ _ _ _),tv⟩ ?_;rintro m F' h0 n0 R ⟨rfl,rfl,rfl,W,u,p,rfl⟩;conv=>whnf
  refine zam hΘ (X:={ x:Nat // x=0 }) (fun x=>[(21,.va (.int .i64 x.1))]) (8::jr 22 25 [])
   (fun x=>[(0,.frz q),(1,wrC W 1 6 u ([]++zae [((0:Nat):Int)])),(5,.gone),(6,gE 5 1 encB u ([]++zae [((0:Nat):Int)]))]) 7 (fun x=>0) ⟨0,rfl⟩
   (fun y A=>leI [(6,5)] y A rfl ⟨tv,zas _ (by omega) (by omega) _ _,tv,zai zab _ _ _ _ _,tv⟩ ⟨rfl,tv⟩ ⟨Fz.r q,zca (i':=1) (j':=5) (by rfl) (by rfl) (by rfl) (by rfl) rfl,zbr zab,tv⟩) ?_
  rintro⟨k,rfl⟩ y A;refine br (fun g2=>absurd g2 (by decide)) (fun _=>?_);exact clean [(3,6)] (.ret (.tup [])) q (wrM W u ([]++zae [((0:Nat):Int)])) 4 ⟨Fz.t l1 (Fz.t B V),rfl,rfl,W,u,by rw[h];exact p,by rw[h]⟩ trivial rfl rfl (Out.bB_ok (o:=.ret (.tup [])) rfl) (zck _ _ _) ⟨Fz.r q,zb6 (by rfl) (by rfl),zau zab (za2 _ _ _ _),tv⟩
 ·have e:=zuh F bn Y be Z K f hb hl;refine ct_of hΘ Tryz.func163 rfl (by decide) _ _ rfl rfl rfl ?_;refine use e [] rfl ⟨⟨rfl,rfl,rfl,.inr ⟨rfl,rfl,rfl,rfl⟩⟩,tv⟩ rfl trivial (by simp[SV.below,SA.below]) trivial ?_;rintro _ F1 h0 n0 l1 ⟨rfl,c,J,rfl,rfl⟩;refine zaz 3 (fun _=>.cells 4 [.lit false]) rfl rfl rfl (fun _ _=>rfl) (fun _ _=>SB.bB_ok rfl) ?_;intro bx F2 B b;refine use (zyu F2 c K false (bx 0) f (b 0 rfl) hl J) [(1,4)] rfl ⟨⟨rfl,rfl,rfl,.inr ⟨rfl,rfl,rfl,rfl⟩⟩,rfl,tv⟩ rfl ⟨zai zad _ _ _ _ _,tv⟩ (by simp[SV.below,SA.below]) ⟨zbr zad,tv⟩ ?_;rintro _ q h0 n0 l3 ⟨rfl,rfl,rb,rfl,hR⟩;have I:=l3 _ _ (b 0 rfl);have af:=Fz.t l1 (Fz.t B l3);clear e l1 B l3 b J f hb;refine zaz 5 (fun _=>.arr 3 1 ([(((K.filter (keepQ false)).length:Nat):Int)].map encI) 1) rfl rfl rfl (fun _ _=>rfl) (fun _ _=>SB.bB_ok rfl) ?_;intro b1 s V a;refine use (zd7 hP s _ [(((K.filter (keepQ false)).length:Nat):Int)] false [] 0 (fun _=>rfl) (Sl.new (l:=[(((K.filter (keepQ false)).length:Nat):Int)]) (cap:=1) (a 0 rfl)) (by simp) (by simp)) [(1,1),(2,2)] rfl ⟨rfl,⟨rfl,rfl,rfl,.inr ⟨rfl,rfl,rfl,rfl⟩⟩,tv⟩ rfl ⟨zas _ (by omega) (by omega) _ _,zai zab _ _ _ _ _,tv⟩ (by simp[SV.below,SA.below]) ⟨zb6 (by rfl) (by rfl),zau zab (za2 _ _ _ _),tv⟩ ?_;rintro m F' h0 n0 R ⟨rfl,rfl,rfl,W,u,p,rfl⟩;conv=>whnf
  refine zam hΘ (X:={ x:Nat×List UInt8×Nat×Bool×Fz // Fz.le s x.2.2.2.2/\x.1<=(K.filter (keepQ false)).length/\x.2.1=zae [(((K.filter (keepQ false)).length:Nat):Int)]++(((K.filter (keepQ false)).take x.1).map fun c=>zae [c.row,c.col,c.value]).flatten/\(x.2.2.2.1=false->x.2.1=[]) }) (fun x=>[(21,.va (.int .i64 x.1.1))]) (8::jr 22 25 [])
   (fun x=>[(0,.frz x.1.2.2.2.2),(1,wrC x.1.2.2.2.1 1 7 x.1.2.2.1 x.1.2.1),(6,.gone),(7,gE 5 1 encB x.1.2.2.1 x.1.2.1)]) 8 (fun x=>(K.filter (keepQ false)).length - x.1.1) ⟨(0,[]++zae [(((K.filter (keepQ false)).length:Nat):Int)],u,W,s),Fz.r s,by simpa using p⟩
   (fun y A=>leI [(7,6)] y A rfl ⟨tv,zas _ (by omega) (by omega) _ _,tv,zai zab _ _ _ _ _,tv⟩ ⟨rfl,tv⟩ ⟨Fz.r s,zca (i':=1) (j':=6) (by rfl) (by rfl) (by rfl) (by rfl) rfl,zbr zab,tv⟩) ?_
  rintro⟨⟨k,ob,cb,ub,G⟩,w,hk,d,i⟩ y A;replace w:Fz.le s G:=w;replace hk:k<=(K.filter (keepQ false)).length:=hk;replace d:ob=zae [(((K.filter (keepQ false)).length:Nat):Int)]++(((K.filter (keepQ false)).take k).map fun c=>zae [c.row,c.col,c.value]).flatten:=d;replace i:ub=false->ob=[]:=i
  have al:ob.length<=100000000000:=by
   have h9:=aj ((K.filter (keepQ false)).take k);have h8:=za4 [(((K.filter (keepQ false)).length:Nat):Int)];rw[qj]at h9;rw[yh]at h8;rw[d,qb];omega
  by_cases g:k < (K.filter (keepQ false)).length
  ·have n:(k:Int) < ((K.filter (keepQ false)).length:Nat):=by omega
   have O:0<=(k:Int)/\(k:Int) < ((K.filter (keepQ false)).length:Nat):=by omega
   have ad:∃x,(K.filter (keepQ false))[k]=x:=⟨_,rfl⟩
   have aa:=hR.mono (Fz.t V w);obtain⟨nn,nb,ne,nc,nL,nr,M,az,ag,a0,ah⟩:=aa;cases M
   obtain⟨x,hx⟩:=ad;have ab:nL[0+(k:Int).toNat]? =some (encK x):=by rw[<-hx];exact Sl.at ah g
   have S:ob++zae [x.row,x.col,x.value]=zae [(((K.filter (keepQ false)).length:Nat):Int)]++(((K.filter (keepQ false)).take (k+1)).map fun c=>zae [c.row,c.col,c.value]).flatten:=by
    rw[zb5 g,hx,d,qn]
   have ae:k+1<=(K.filter (keepQ false)).length:=g;have L:(K.filter (keepQ false)).length - (k+1) < (K.filter (keepQ false)).length - k:=by omega
   have Q:k < 4611686018427387904:=by omega
   have E:=(Fz.t V w) _ _ I;have ai:=ag rfl;clear hx;refine bri n ⟨rfl,O,_,ai,_,ab,_,E,?_⟩;refine zaz 9 (fun _=>.arr 3 1 ([x.row,x.col,x.value].map encI) 3) rfl rfl rfl (fun _ _=>rfl) (fun _ _=>SB.bB_ok rfl) ?_;intro b2 G2 l5 D;refine use (zd7 hP G2 _ [x.row,x.col,x.value] ub ob cb i (Sl.new (l:=[x.row,x.col,x.value]) (cap:=3) (D 0 rfl)) (by simp) (by omega)) [(1,1),(2,7)] rfl ⟨rfl,⟨rfl,rfl,rfl,.inr ⟨rfl,rfl,rfl,rfl⟩⟩,tv⟩ rfl ⟨zas _ (by omega) (by omega) _ _,zai zab _ _ _ _ _,tv⟩ (by simp[SV.below,SA.below]) ⟨zb6 (by rfl) (by rfl),zau zab (za2 _ _ _ _),tv⟩ ?_;rintro m F' h0 n0 R ⟨rfl,rfl,rfl,u2,c2,ak,rfl⟩;exact⟨⟨(k+1,ob++zae [x.row,x.col,x.value],c2,u2,G2),Fz.t w l5,ae,S,ak⟩,L,leR [(7,10)] y A rfl ⟨tv,zas _ (by omega) (by omega) _ _,tv,zai zab _ _ _ _ _,tv⟩ ⟨cnt Q,tv⟩ ⟨Fz.r G2,zca (i':=1) (j':=10) (by rfl) (by rfl) (by rfl) (by rfl) rfl,zbr zab,tv⟩⟩
  ·have n:¬(k:Int) < ((K.filter (keepQ false)).length:Nat):=by omega
   have j:ob=zcs false K:=by rw[d,h,qi (by omega)]
   refine brj n ?_;exact clean [(3,7)] (.ret (.tup [])) G (wrM ub cb ob) 4 ⟨Fz.t af (Fz.t V w),rfl,rfl,ub,cb,by rw[<-j];exact i,by rw[j]⟩ trivial rfl rfl (Out.bB_ok (o:=.ret (.tup [])) rfl) (zck _ _ _) ⟨Fz.r G,zb6 (by rfl) (by rfl),zau zab (za2 _ _ _ _),tv⟩
theorem zp0(hP:PFun)(F:Fz)(bn:Bool)(Y be Z:Nat)(K:List Cel)(hb:Sl F 151 6 encK (.slice bn 0 Y be 6 K.length Z) K)(hl:K.length<=1000):
  Ct Tryz.prog 163 [.va (.ptr ⟨1,0,0,0,0⟩),.va (.slice bn 0 Y be 6 K.length Z),.va (.lit true)] F (wrH false 0 []) 3 (wrL (zcs true K)):=by
 have ay:(K.filter (keepQ true)).length<=K.length:=qae _ _;have h:zcs true K=zae [((K.filter (keepQ true)).length:Int)]++((K.filter (keepQ true)).map fun c=>zae [c.row,c.col,c.top,c.left]).flatten:=rfl;have aj:∀l:List Cel,((l.map fun c=>zae [c.row,c.col,c.top,c.left]).flatten).length<=l.length*1000:=fun l=>zf1 true l
 by_cases f:K=[]
 ·subst f;have h:zcs true []=[]++zae [((0:Nat):Int)]:=by simp[zcs]
  have e:=zp3 F bn Y be Z hb;refine ct_of hΘ Tryz.func163 rfl (by decide) _ _ rfl rfl rfl ?_;refine useFo e rfl ⟨⟨rfl,rfl,rfl,.inr ⟨rfl,rfl,rfl,rfl⟩⟩,tv⟩ rfl ?_;rintro _ F1 l1 ⟨sa,rfl,T⟩;refine zaz 3 (fun _=>.cells 4 [.lit true]) rfl rfl rfl (fun _ _=>rfl) (fun _ _=>SB.bB_ok rfl) ?_;intro bx F2 B b;have ac:=zum F2 sa true (bx 0) (T.mono B) (b 0 rfl);have U:=T.mono B;obtain⟨aw,ar,av,au,aq,ax,rfl,am,an,ao,ap⟩:=U;refine useFo ac rfl ⟨⟨rfl,rfl,rfl,.inr ⟨rfl,rfl,rfl,rfl⟩⟩,rfl,tv⟩ rfl ?_;rintro _ F' l3 ⟨rfl,rfl⟩;refine zaz 4 (fun _=>.arr 3 1 ([((0:Nat):Int)].map encI) 1) rfl rfl rfl (fun _ _=>rfl) (fun _ _=>SB.bB_ok rfl) ?_;intro b1 q V a;refine use (zd7 hP q _ [((0:Nat):Int)] false [] 0 (fun _=>rfl) (Sl.new (l:=[((0:Nat):Int)]) (cap:=1) (a 0 rfl)) (by simp) (by simp)) [(1,1),(2,2)] rfl ⟨rfl,⟨rfl,rfl,rfl,.inr ⟨rfl,rfl,rfl,rfl⟩⟩,tv⟩ rfl ⟨zas _ (by omega) (by omega) _ _,zai zab _ _ _ _ _,tv⟩ (by simp[SV.below,SA.below]) ⟨zb6 (by rfl) (by rfl),zau zab (za2 _ _ _ _),tv⟩ ?_;rintro m F' h0 n0 R ⟨rfl,rfl,rfl,W,u,p,rfl⟩;conv=>whnf
  refine zam hΘ (X:={ x:Nat // x=0 }) (fun x=>[(21,.va (.int .i64 x.1))]) (8::jr 22 25 [])
   (fun x=>[(0,.frz q),(1,wrC W 1 6 u ([]++zae [((0:Nat):Int)])),(5,.gone),(6,gE 5 1 encB u ([]++zae [((0:Nat):Int)]))]) 7 (fun x=>0) ⟨0,rfl⟩
   (fun y A=>leI [(6,5)] y A rfl ⟨tv,zas _ (by omega) (by omega) _ _,tv,zai zab _ _ _ _ _,tv⟩ ⟨rfl,tv⟩ ⟨Fz.r q,zca (i':=1) (j':=5) (by rfl) (by rfl) (by rfl) (by rfl) rfl,zbr zab,tv⟩) ?_
  rintro⟨k,rfl⟩ y A;refine br (fun g2=>absurd g2 (by decide)) (fun _=>?_);exact clean [(3,6)] (.ret (.tup [])) q (wrM W u ([]++zae [((0:Nat):Int)])) 4 ⟨Fz.t l1 (Fz.t B V),rfl,rfl,W,u,by rw[h];exact p,by rw[h]⟩ trivial rfl rfl (Out.bB_ok (o:=.ret (.tup [])) rfl) (zck _ _ _) ⟨Fz.r q,zb6 (by rfl) (by rfl),zau zab (za2 _ _ _ _),tv⟩
 ·have e:=zuh F bn Y be Z K f hb hl;refine ct_of hΘ Tryz.func163 rfl (by decide) _ _ rfl rfl rfl ?_;refine use e [] rfl ⟨⟨rfl,rfl,rfl,.inr ⟨rfl,rfl,rfl,rfl⟩⟩,tv⟩ rfl trivial (by simp[SV.below,SA.below]) trivial ?_;rintro _ F1 h0 n0 l1 ⟨rfl,c,J,rfl,rfl⟩;refine zaz 3 (fun _=>.cells 4 [.lit true]) rfl rfl rfl (fun _ _=>rfl) (fun _ _=>SB.bB_ok rfl) ?_;intro bx F2 B b;refine use (zyu F2 c K true (bx 0) f (b 0 rfl) hl J) [(1,4)] rfl ⟨⟨rfl,rfl,rfl,.inr ⟨rfl,rfl,rfl,rfl⟩⟩,rfl,tv⟩ rfl ⟨zai zad _ _ _ _ _,tv⟩ (by simp[SV.below,SA.below]) ⟨zbr zad,tv⟩ ?_;rintro _ q h0 n0 l3 ⟨rfl,rfl,rb,rfl,hR⟩;have I:=l3 _ _ (b 0 rfl);have af:=Fz.t l1 (Fz.t B l3);clear e l1 B l3 b J f hb;refine zaz 5 (fun _=>.arr 3 1 ([(((K.filter (keepQ true)).length:Nat):Int)].map encI) 1) rfl rfl rfl (fun _ _=>rfl) (fun _ _=>SB.bB_ok rfl) ?_;intro b1 s V a;refine use (zd7 hP s _ [(((K.filter (keepQ true)).length:Nat):Int)] false [] 0 (fun _=>rfl) (Sl.new (l:=[(((K.filter (keepQ true)).length:Nat):Int)]) (cap:=1) (a 0 rfl)) (by simp) (by simp)) [(1,1),(2,2)] rfl ⟨rfl,⟨rfl,rfl,rfl,.inr ⟨rfl,rfl,rfl,rfl⟩⟩,tv⟩ rfl ⟨zas _ (by omega) (by omega) _ _,zai zab _ _ _ _ _,tv⟩ (by simp[SV.below,SA.below]) ⟨zb6 (by rfl) (by rfl),zau zab (za2 _ _ _ _),tv⟩ ?_;rintro m F' h0 n0 R ⟨rfl,rfl,rfl,W,u,p,rfl⟩;conv=>whnf
  refine zam hΘ (X:={ x:Nat×List UInt8×Nat×Bool×Fz // Fz.le s x.2.2.2.2/\x.1<=(K.filter (keepQ true)).length/\x.2.1=zae [(((K.filter (keepQ true)).length:Nat):Int)]++(((K.filter (keepQ true)).take x.1).map fun c=>zae [c.row,c.col,c.top,c.left]).flatten/\(x.2.2.2.1=false->x.2.1=[]) }) (fun x=>[(21,.va (.int .i64 x.1.1))]) (8::jr 22 25 [])
   (fun x=>[(0,.frz x.1.2.2.2.2),(1,wrC x.1.2.2.2.1 1 7 x.1.2.2.1 x.1.2.1),(6,.gone),(7,gE 5 1 encB x.1.2.2.1 x.1.2.1)]) 8 (fun x=>(K.filter (keepQ true)).length - x.1.1) ⟨(0,[]++zae [(((K.filter (keepQ true)).length:Nat):Int)],u,W,s),Fz.r s,by simpa using p⟩
   (fun y A=>leI [(7,6)] y A rfl ⟨tv,zas _ (by omega) (by omega) _ _,tv,zai zab _ _ _ _ _,tv⟩ ⟨rfl,tv⟩ ⟨Fz.r s,zca (i':=1) (j':=6) (by rfl) (by rfl) (by rfl) (by rfl) rfl,zbr zab,tv⟩) ?_
  rintro⟨⟨k,ob,cb,ub,G⟩,w,hk,d,i⟩ y A;replace w:Fz.le s G:=w;replace hk:k<=(K.filter (keepQ true)).length:=hk;replace d:ob=zae [(((K.filter (keepQ true)).length:Nat):Int)]++(((K.filter (keepQ true)).take k).map fun c=>zae [c.row,c.col,c.top,c.left]).flatten:=d;replace i:ub=false->ob=[]:=i
  have al:ob.length<=100000000000:=by
   have h9:=aj ((K.filter (keepQ true)).take k);have h8:=za4 [(((K.filter (keepQ true)).length:Nat):Int)];rw[qj]at h9;rw[yh]at h8;rw[d,qb];omega
  by_cases g:k < (K.filter (keepQ true)).length
  ·have n:(k:Int) < ((K.filter (keepQ true)).length:Nat):=by omega
   have O:0<=(k:Int)/\(k:Int) < ((K.filter (keepQ true)).length:Nat):=by omega
   have ad:∃x,(K.filter (keepQ true))[k]=x:=⟨_,rfl⟩
   have aa:=hR.mono (Fz.t V w);obtain⟨nn,nb,ne,nc,nL,nr,M,az,ag,a0,ah⟩:=aa;cases M
   obtain⟨x,hx⟩:=ad;have ab:nL[0+(k:Int).toNat]? =some (encK x):=by rw[<-hx];exact Sl.at ah g
   have S:ob++zae [x.row,x.col,x.top,x.left]=zae [(((K.filter (keepQ true)).length:Nat):Int)]++(((K.filter (keepQ true)).take (k+1)).map fun c=>zae [c.row,c.col,c.top,c.left]).flatten:=by
    rw[zb5 g,hx,d,qn]
   have ae:k+1<=(K.filter (keepQ true)).length:=g;have L:(K.filter (keepQ true)).length - (k+1) < (K.filter (keepQ true)).length - k:=by omega
   have Q:k < 4611686018427387904:=by omega
   have E:=(Fz.t V w) _ _ I;have ai:=ag rfl;clear hx;refine bri n ⟨rfl,O,_,ai,_,ab,_,E,?_⟩;refine zaz 9 (fun _=>.arr 3 1 ([x.row,x.col,x.top,x.left].map encI) 4) rfl rfl rfl (fun _ _=>rfl) (fun _ _=>SB.bB_ok rfl) ?_;intro b2 G2 l5 D;refine use (zd7 hP G2 _ [x.row,x.col,x.top,x.left] ub ob cb i (Sl.new (l:=[x.row,x.col,x.top,x.left]) (cap:=4) (D 0 rfl)) (by simp) (by omega)) [(1,1),(2,7)] rfl ⟨rfl,⟨rfl,rfl,rfl,.inr ⟨rfl,rfl,rfl,rfl⟩⟩,tv⟩ rfl ⟨zas _ (by omega) (by omega) _ _,zai zab _ _ _ _ _,tv⟩ (by simp[SV.below,SA.below]) ⟨zb6 (by rfl) (by rfl),zau zab (za2 _ _ _ _),tv⟩ ?_;rintro m F' h0 n0 R ⟨rfl,rfl,rfl,u2,c2,ak,rfl⟩;exact⟨⟨(k+1,ob++zae [x.row,x.col,x.top,x.left],c2,u2,G2),Fz.t w l5,ae,S,ak⟩,L,leR [(7,10)] y A rfl ⟨tv,zas _ (by omega) (by omega) _ _,tv,zai zab _ _ _ _ _,tv⟩ ⟨cnt Q,tv⟩ ⟨Fz.r G2,zca (i':=1) (j':=10) (by rfl) (by rfl) (by rfl) (by rfl) rfl,zbr zab,tv⟩⟩
  ·have n:¬(k:Int) < ((K.filter (keepQ true)).length:Nat):=by omega
   have j:ob=zcs true K:=by rw[d,h,qi (by omega)]
   refine brj n ?_;exact clean [(3,7)] (.ret (.tup [])) G (wrM ub cb ob) 4 ⟨Fz.t af (Fz.t V w),rfl,rfl,ub,cb,by rw[<-j];exact i,by rw[j]⟩ trivial rfl rfl (Out.bB_ok (o:=.ret (.tup [])) rfl) (zck _ _ _) ⟨Fz.r G,zb6 (by rfl) (by rfl),zau zab (za2 _ _ _ _),tv⟩
theorem yau(u:PFun)(F:Fz)(q:Bool)(l n p m:Nat)(e:Bool)(b d c:Nat)(K:List Cel)(w:Int)(s:List UInt8)(x:Sl F 151 6 encK (.slice e 0 b d 6 K.length c) K)(y:K.length<=1000):
  Ct Tryz.prog 162 [.agg (docS (.slice q 0 l n 2 p m) (.slice e 0 b d 6 K.length c) w s),.va (.ptr ⟨1,0,0,0,0⟩)] F (wrH false 0 []) 3 (wrL (zcs false K)):=by
 have i:=zn1 u F e b d c K x y;obtain⟨P,a⟩:∃P,zcs false K=P:=⟨_,rfl⟩
 rw[a]at i ⊢;clear a;refine ct_of hΘ Tryz.func162 rfl (by decide) _ _ rfl rfl rfl ?_;refine use i [(1,1),(2,2)] rfl ⟨rfl,⟨rfl,rfl,rfl,.inr ⟨rfl,rfl,rfl,rfl⟩⟩,rfl,tv⟩ rfl ⟨zas _ (by omega) (by omega) _ _,zai zab _ _ _ _ _,tv⟩ (by simp[SV.below,SA.below]) ⟨zb6 (by rfl) (by rfl),zau zab (za2 _ _ _ _),tv⟩ ?_;rintro j F1 A n0 f ⟨rfl,rfl,k,h,g,rfl⟩;exact clean [(3,4)] (.ret (.tup [])) F1 (wrM k h P) 4 ⟨f,rfl,rfl,k,h,g,rfl⟩ trivial rfl rfl (Out.bB_ok (o:=.ret (.tup [])) rfl) (zck _ _ _) ⟨Fz.r F1,zca (i':=1) (j':=4) (by rfl) (by rfl) (by rfl) (by rfl) rfl,zbr zab,tv⟩
theorem yav(u:PFun)(F:Fz)(q:Bool)(l n p m:Nat)(e:Bool)(b d c:Nat)(K:List Cel)(w:Int)(s:List UInt8)(x:Sl F 151 6 encK (.slice e 0 b d 6 K.length c) K)(y:K.length<=1000):
  Ct Tryz.prog 164 [.agg (docS (.slice q 0 l n 2 p m) (.slice e 0 b d 6 K.length c) w s),.va (.ptr ⟨1,0,0,0,0⟩)] F (wrH false 0 []) 3 (wrL (zcs true K)):=by
 have i:=zp0 u F e b d c K x y;obtain⟨P,a⟩:∃P,zcs true K=P:=⟨_,rfl⟩
 rw[a]at i ⊢;clear a;refine ct_of hΘ Tryz.func164 rfl (by decide) _ _ rfl rfl rfl ?_;refine use i [(1,1),(2,2)] rfl ⟨rfl,⟨rfl,rfl,rfl,.inr ⟨rfl,rfl,rfl,rfl⟩⟩,rfl,tv⟩ rfl ⟨zas _ (by omega) (by omega) _ _,zai zab _ _ _ _ _,tv⟩ (by simp[SV.below,SA.below]) ⟨zb6 (by rfl) (by rfl),zau zab (za2 _ _ _ _),tv⟩ ?_;rintro j F1 A n0 f ⟨rfl,rfl,k,h,g,rfl⟩;exact clean [(3,4)] (.ret (.tup [])) F1 (wrM k h P) 4 ⟨f,rfl,rfl,k,h,g,rfl⟩ trivial rfl rfl (Out.bB_ok (o:=.ret (.tup [])) rfl) (zck _ _ _) ⟨Fz.r F1,zca (i':=1) (j':=4) (by rfl) (by rfl) (by rfl) (by rfl) rfl,zbr zab,tv⟩
