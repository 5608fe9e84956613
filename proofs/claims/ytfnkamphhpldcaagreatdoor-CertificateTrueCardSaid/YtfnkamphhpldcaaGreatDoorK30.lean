import Derived.Test.YtfnkamphhpldcaaGreatDoorK29
import Derived.Test.YtfnkamphhpldcaaGreatDoorK21
set_option maxHeartbeats 64000000
namespace Go.Proofs.YtfnkamphhpldcaaGreatDoor
open Go Sx
def zdt(b:Bool)(K:List Cel):List UInt8:=zad [((K.filter (keepQ b)).length:Int)]++((K.filter (keepQ b)).map fun c=>zad (if b=true then [c.row,c.col,c.top,c.left]else [c.row,c.col,c.value])).flatten
def zho(p:Int)(d:Dc):List Ln:=
 if p=1 then d.lines.map fun l=>(l.1,[])
 else if p=2 then d.lines.map fun l=>([],[l.2])
 else if p=3 then(d.cells.filter (keepQ false)).map fun c=>([],[c.row,c.col,c.value])
 else if p=4 then(d.cells.filter (keepQ true)).map fun c=>([],[c.row,c.col,c.top,c.left])
 else(d.cells.zip (valsF d.cells)).map fun x=>([],[x.1.row,x.1.col,x.2])
def zgy(p:Int)(d:Dc):Val:=
 if p=8 then⟨false,[],d.lines.length,d.cells.length,[]⟩
 else if p=7 then⟨false,[],d.w,hgt d.w d.bits,d.bits⟩
 else if p=6 then⟨false,[],d.w,hgt d.w d.bits,[]⟩
 else⟨false,zho p d,0,0,[]⟩
def propB(p:Int)(d:Dc):List UInt8:=
 if p=1 then ptext d.lines else if p=2 then pmot d.lines else if p=3 then zdt false d.cells else if p=4 then zdt true d.cells
 else if p=5 then pvals d.cells else if p=6 then zad [d.w,hgt d.w d.bits]else if p=7 then zad [d.w,hgt d.w d.bits]++(putSR d.bits).1
 else zad [(d.lines.length:Int),(d.cells.length:Int)]
theorem inRW{n b a:Int}:inR n b a=true↔b<=n/\n<=a:=by unfold inR;simp
theorem ziv(p:Int)(a:p≠1)(l:List Int):lineW p ([],l)=zad l:=by grind[lineW]
theorem z0m(s:List UInt8):lineW 1 (s,[])=(putSR s).1:=by grind[lineW,zad]
theorem zj1(K:List Cel):(K.zip (valsF K)).length=K.length:=by grind[List.length_zip,zjg]
theorem zvi{p:Int}(b:1<=p/\p<=8)(d:Dc):propB p d=zbp p (zgy p d):=by
 have a:p=1\/p=2\/p=3\/p=4\/p=5\/p=6\/p=7\/p=8:=by omega
 rcases a with rfl | rfl | rfl | rfl | rfl | rfl | rfl | rfl
 ·simp only[propB,zgy,zho,zbp,if_true,if_false,jw,ptext,qe,yg,show¬(6:Int)<=1 by omega,show¬(1:Int)=8 by omega,show¬(1:Int)=7 by omega,show¬(1:Int)=6 by omega];simp only[Function.comp_def,z0m]
 ·simp only[propB,zgy,zho,zbp,if_true,if_false,jw,pmot,qe,yg,show¬(6:Int)<=2 by omega,show¬(2:Int)=8 by omega,show¬(2:Int)=7 by omega,show¬(2:Int)=6 by omega,show¬(2:Int)=1 by omega];simp only[Function.comp_def,ziv 2 (by omega)]
 ·simp only[propB,zgy,zho,zbp,if_true,if_false,jw,zdt,qe,yg,show¬(6:Int)<=3 by omega,show¬(3:Int)=8 by omega,show¬(3:Int)=7 by omega,show¬(3:Int)=6 by omega,show¬(3:Int)=1 by omega,show¬(3:Int)=2 by omega];simp only[Function.comp_def,ziv 3 (by omega)]
 ·simp only[propB,zgy,zho,zbp,if_true,if_false,jw,zdt,qe,yg,show¬(6:Int)<=4 by omega,show¬(4:Int)=8 by omega,show¬(4:Int)=7 by omega,show¬(4:Int)=6 by omega,show¬(4:Int)=1 by omega,show¬(4:Int)=2 by omega,show¬(4:Int)=3 by omega];simp only[Function.comp_def,ziv 4 (by omega)]
 ·simp only[propB,zgy,zho,zbp,if_true,if_false,jw,pvals,qe,yg,show¬(6:Int)<=5 by omega,show¬(5:Int)=8 by omega,show¬(5:Int)=7 by omega,show¬(5:Int)=6 by omega,show¬(5:Int)=1 by omega,show¬(5:Int)=2 by omega,show¬(5:Int)=3 by omega,show¬(5:Int)=4 by omega,zj1];simp only[Function.comp_def,ziv 5 (by omega)]
 ·simp[propB,zgy,zbp]
 ·simp[propB,zgy,zbp]
 ·simp[propB,zgy,zbp]
theorem zga{α:Type}{p:Int}{f:α->Ln}:∀(l acc:List α),(∀x∈l,if p=1 then(f x).2=[]/\(f x).1.length<=80/\(f x).1.any badC=false else(f x).1=[]/\(f x).2.length=cols p/\zem p [] (f x).2)->
  (p≠1->p≠2->(acc++l).Pairwise fun a b=>cmpL ((f a).2.take 2) ((f b).2.take 2) < 0)->lnsOk p (acc.map f) (l.map f)
 |[],acc,_,_=>trivial
 |x::r,acc,h,hp=>by
  refine⟨?_,?_⟩
  ·grind[List.getLast?_map,List.mem_of_getLast?,lnOk]
  ·have:=zga (p:=p) (f:=f) r (acc++[x]) (fun y c=>h y (by simp[c])) (by rw[qp];exact hp)
   grind
theorem z0p{a b c:Cel}(h1:ltC a b=true)(d:ltC b c=true):ltC a c=true:=by
 grind[ltC]
theorem zyh:∀l:List Cel,ascF l=true->l.Pairwise fun a b=>ltC a b=true
 |[],_=>.nil
 |[x],_=>by simp
 |x::y::r,h=>by
  have h:(ltC x y&&ascF (y::r))=true:=h;rw[qg]at h;have ih:=zyh (y::r) h.2;refine List.Pairwise.cons (fun z c=>?_) ih
  grind[z0p,List.rel_of_pairwise_cons]
theorem zsk{a b:Cel}(h:ltC a b=true):cmpL [a.row,a.col] [b.row,b.col] < 0:=by
 grind[ltC,cmpI,cmpL]
theorem zy3(n:Int):-1000000000000<=ze6 n/\ze6 n<=1000000000000:=by grind[ze6]
theorem zwd:∀(l d:List Cel) (o:List Int),(∀n∈o,-1000000000000<=n/\n<=1000000000000)->∀n∈valsA l d o,-1000000000000<=n/\n<=1000000000000
 |[],d,o,h=>h
 |c::r,d,o,h=>by
  rw[valsA];refine zwd r _ _ fun n a=>?_
  grind[zy3,valF]
structure DocOk(d:Dc):Prop where
 lines:d.lines.length<=64
 cells:d.cells.length<=64
 asc:ascF d.cells=true
 ln:∀x∈d.lines,dlnOk x=true
 cel:∀x∈d.cells,celOk x=true
 ras:rasOk d.w d.bits=true
theorem zc7{d:Dc}(h:docOk d=true):DocOk d:=by
 unfold docOk at h;simp only[qg,decide_eq_true_eq,qq]at h;exact⟨h.1.1.1.1.1,h.1.1.1.1.2,h.1.1.1.2,h.1.1.2,h.1.2,h.2⟩
theorem zlw{w:Int}{s:List UInt8}(h:rasOk w s=true):(0<=w/\w<=32)/\s.all bitK=true/\(min w 1<=hgt w s/\hgt w s<=min w 1*32)/\(s.length:Int)=w*hgt w s:=by
 grind[inRW,rasOk,hgt]
theorem zp4{p:Int}(E:1<=p/\p<=8){d:Dc}(A:docOk d=true):VOK p (zgy p d):=by
 obtain⟨q,n,y,l,e,m⟩:=zc7 A;obtain⟨s,B,u,D⟩:=zlw m;have k:=zyh _ y;have w:p=1\/p=2\/p=3\/p=4\/p=5\/p=6\/p=7\/p=8:=by omega
 rcases w with rfl | rfl | rfl | rfl | rfl | rfl | rfl | rfl
 ·refine .inr ⟨rfl,?_⟩;refine⟨rfl,rfl,rfl,by show(d.lines.map _).length<=64;rw[qe];exact q,?_⟩;refine zga d.lines [] (fun x i=>?_) (fun h=>absurd rfl h);have:=l x i;unfold dlnOk at this;simp only[qg,decide_eq_true_eq,qar]at this;rw[if_pos rfl];exact⟨rfl,this.1.1,this.1.2⟩
 ·refine .inr ⟨rfl,?_⟩;refine⟨rfl,rfl,rfl,by show(d.lines.map _).length<=64;rw[qe];exact q,?_⟩;refine zga d.lines [] (fun x i=>?_) (fun _ h=>absurd rfl h);have:=l x i;unfold dlnOk at this;simp only[qg,inRW]at this;rw[if_neg (by omega)];exact⟨rfl,rfl,this.2,tv⟩
 ·have j:(d.cells.filter (keepQ false)).length<=64:=q8 (qak _ _) n;refine .inr ⟨rfl,?_⟩;refine⟨rfl,rfl,rfl,by show((d.cells.filter (keepQ false)).map _).length<=64;rw[qe];exact j,?_⟩;refine zga (d.cells.filter (keepQ false)) [] (fun x i=>?_) (fun _ _=>(k.filter _).imp fun h=>zsk h);obtain⟨f,g⟩:=qdg.1 i;have:=e x f;have o:x.sum=false:=by simpa[keepQ]using g
  unfold celOk at this;rw[o]at this;simp only[qg,inRW,jw,if_false,decide_eq_true_eq]at this;rw[if_neg (by omega)];exact⟨rfl,rfl,this.1.1,this.1.2,this.2.1.1,tv⟩
 ·have j:(d.cells.filter (keepQ true)).length<=64:=q8 (qak _ _) n;refine .inr ⟨rfl,?_⟩;refine⟨rfl,rfl,rfl,by show((d.cells.filter (keepQ true)).map _).length<=64;rw[qe];exact j,?_⟩;refine zga (d.cells.filter (keepQ true)) [] (fun x i=>?_) (fun _ _=>(k.filter _).imp fun h=>zsk h);obtain⟨f,g⟩:=qdg.1 i;have:=e x f;have o:x.sum=true:=by simpa[keepQ]using g
  unfold celOk at this;rw[o]at this;simp only[qg,inRW,if_true,decide_eq_true_eq]at this;rw[if_neg (by omega)];exact⟨rfl,rfl,this.1.1,this.1.2,this.2.1.2,this.2.2,tv⟩
 ·refine .inr ⟨rfl,?_⟩;refine⟨rfl,rfl,rfl,by show((d.cells.zip (valsF d.cells)).map _).length<=64;rw[qe,zj1];exact n,?_⟩;refine zga (d.cells.zip (valsF d.cells)) [] (fun x i=>?_) (fun _ _=>?_)
  ·obtain⟨c,v⟩:=x;obtain⟨f,g⟩:=List.of_mem_zip i;have:=e c f;unfold celOk at this;simp only[qg,inRW]at this;rw[if_neg (by omega)];exact⟨rfl,rfl,this.1.1,this.1.2,zwd _ _ _ (by simp) v g,tv⟩
  ·have h1:((d.cells.zip (valsF d.cells)).map (·.1)).Pairwise fun a b=>ltC a b=true:=by
    rw[List.map_fst_zip (by rw[zjg];exact qi _)];exact k
   rw[List.pairwise_map]at h1;exact h1.imp fun h=>zsk h
 ·refine .inr ⟨rfl,?_⟩;exact⟨rfl,s,u,rfl⟩
 ·refine .inr ⟨rfl,?_⟩;exact⟨rfl,s,u,D,B⟩
 grind[zgy,VOK,docOk,ascF,dlnOk,celOk,rasOk]
theorem zge:∀(b:Bool) (l:List Cel),((l.map fun c=>zad (if b=true then [c.row,c.col,c.top,c.left]else [c.row,c.col,c.value])).flatten).length<=l.length*1000
 |_,[]=>by simp
 |b,x::r=>by
  have h1:=za7 (if b=true then [x.row,x.col,x.top,x.left]else [x.row,x.col,x.value]);have a:(if b=true then [x.row,x.col,x.top,x.left]else [x.row,x.col,x.value]).length<=4:=by cases b<;>simp
  have d:=zge b r
  grind
theorem ze3{p:Int}{d:Dc}(j:docOk d=true):(propB p d).length<=1000000000000000:=by
 obtain⟨q,i,o,e,f,a⟩:=zc7 j;obtain⟨l,u,y,A⟩:=zlw a;have c:∀n:Int,(zad [n]).length<=9:=fun n=>za7 [n]
 have s:∀n m:Int,(zad [n,m]).length<=18:=fun n m=>za7 [n,m]
 have g:∀b,(d.cells.filter (keepQ b)).length<=64:=fun b=>q8 (qak _ _) i
 have hb:d.bits.length<=2000:=by
  have h1:d.w*hgt d.w d.bits<=32*32:=qbh l.2 (by omega) (by omega) (by omega);omega
 unfold propB;split
 ·have:=zlt d.lines fun x k=>by
   have:=e x k;unfold dlnOk at this;simp only[qg,decide_eq_true_eq]at this;omega
  rw[ptext,qd];have:=c d.lines.length;omega
 split
 ·have:=zox d.lines;rw[pmot,qd];have:=c d.lines.length;omega
 split
 ·have:=zge false (d.cells.filter (keepQ false));have h:=g false;rw[zdt,qd];have:=c (d.cells.filter (keepQ false)).length;omega
 split
 ·have:=zge true (d.cells.filter (keepQ true));have h:=g true;rw[zdt,qd];have:=c (d.cells.filter (keepQ true)).length;omega
 grind[zlv,zj1,zcl,List.length_append,valsF,pvals,hgt]
end Go.Proofs.YtfnkamphhpldcaaGreatDoor
namespace Go.Proofs.YtfnkamphhpldcaaGreatDoor
open Go Sx
set_option maxRecDepth 100000
theorem zso{α:Type}(l:List α)(i j:Nat)(x:α)(h:i < j):(l.set i x).drop j=l.drop j:=by
 apply qbe;intro k;rw[qam,qam,qbx (by omega)]
theorem zpg{α:Type}(l:List α)(i:Nat)(x:α)(h:i < l.length):(l.set i x).take (i+1)=l.take i++[x]:=by
 apply qbe;intro k;rcases Nat.lt_trichotomy k i with hk | hk | hk
 ·rw[qbg (by omega),qbx (by omega),js (by rw[qo];omega),qbg hk]
 ·subst hk;rw[qbg (by omega),qdc h,jx (by rw[qo];omega)];simp[qaz (Nat.le_of_lt h)]
 ·rw[qaj (by rw[qo];omega),qaj (by rw[qd,qo,jv];omega)]
theorem zgz{α:Type}{q:α->Bool}{l:List α}{k:Nat}(a:k < l.length){x:α}(b:l[k]=x):(l.take (k+1)).filter q=(l.take k).filter q++(if q x=true then [x]else []):=by
 rw[qf a,qcx,b];cases h:q x<;>simp[h]
theorem ycp{α:Type}{e:α->List SA}{t sz c:Nat}{l:List α}{b:Bool}{L:List (List SA)}(h1:b= !l.isEmpty)(a:L=l.map e):subE (some (.opt b (.arr t sz L c))) (gE t sz e c l):=⟨h1,by rw[a]⟩
theorem ztl{α:Type}(R:List α)(i:Nat)(v:α):(!R.isEmpty)=(!(R.set i v).isEmpty):=by cases R<;>cases i<;>rfl
theorem zsz{α:Type}{R:List α}(h:0 < R.length):(!R.isEmpty)=true:=by
 cases R with
 |nil=>cases h
 |cons _ _=>rfl
theorem zpz(F:Fz)(e:Bool)(n q p:Nat)(hb:Sl F 151 6 encK (.slice e 0 n q 6 0 p) []):
  Fo Tryz.prog F 87 [.va (.slice e 0 n q 6 0 p)] (fun o d=>∃s,o=.ret (.va s)/\Sl d 151 6 encK s []):=by
 obtain⟨A,w,y,x,i,j,k,u,g,h,hb4⟩:=hb;cases k
 rcases e with _ | _
 ·have a:=g rfl;refine foS Tryz.func87 ?_;refine brd (by decide) ⟨151,i,j,a,h,[],hb4,rfl,rfl,rfl,by decide,fun c B=>?_⟩;clear B;refine zdp 2 (fun _=>.arr 151 6 [] c) ?_;intro b d m f;exact endFo (.ret (.va (.slice false 0 (b 0) 0 6 0 c))) d rfl m (Fz.r d) ⟨_,rfl,Sl.new (l:=[]) (f 0 rfl)⟩ ⟨rfl,rfl,rfl,.inr ⟨rfl,rfl,rfl,rfl⟩⟩ rfl
 ·refine foS Tryz.func87 ?_;refine bre (by decide) ?_;exact endFo (.ret (.va (.slice true 0 0 0 6 0 0))) F rfl (Fz.r F) (Fz.r F) ⟨_,rfl,Sl.nil⟩ ⟨rfl,rfl,rfl⟩ rfl
theorem zt8(F:Fz)(c:SA)(b:Bool)(d:Nat)(e:Sl F 151 6 encK c [])(g:F d=some (.cells 4 [.lit b])):
  Fo Tryz.prog F 226 [.va c,.va (.fn (.func 225) [fp d])] (fun o f=>o=.ret (.va c)/\f=F):=by
 have a:=zyw F c [] b d e (by simp) g;rw[show idxG (keepQ b) [] 0= -1 from rfl]at a;obtain⟨q,m,p,n,l,s,rfl,h,i,j,k⟩:=e;refine foS Tryz.func226 ?_;refine usePs a ?_;refine bre (by decide) ?_;exact endPu rfl (Fz.r F) ⟨rfl,rfl,rfl,.inr ⟨rfl,rfl,rfl,rfl⟩⟩ rfl
theorem z8t{L:List (List SA)}(h:∀x∈L,(∀μ:Mu,x.map (SA.ren μ)=x)/\∀a∈x,a.below 0)(t sz c:Nat):(∀μ:Mu,(SB.arr t sz L c).ren μ=SB.arr t sz L c)/\∀n,(SB.arr t sz L c).below n:=by
 refine⟨fun μ=>?_,fun n x b a d=>SA.below_mono (yh _) ((h x b).2 a d)⟩;show SB.arr t sz (L.map (List.map (SA.ren μ))) c=_
 congr 1
 conv=>rhs;rw[<-List.map_id L]
 exact ju fun x b=>(h x b).1 μ
theorem ybv:(∀μ:Mu,ti151.zero.map (SA.ren μ)=ti151.zero)/\∀a∈ti151.zero,a.below 0:=⟨fun _=>rfl,z8m rfl⟩
theorem zzd(F:Fz)(c:Nat)(K:List Cel)(b:Bool)(bc:Nat)(aq:K≠[])(hB:F bc=some (.cells 4 [.lit b]))(hl:K.length<=1000)(hc:K.length<=c):
  Ct Tryz.prog 226 [.va (.slice false 1 0 0 6 K.length c),.va (.fn (.func 225) [fp bc])] F [(1,gE 151 6 encK c K)] 2
   (fun o F0 h0 n0=>n0=2/\h0=[(1,.gone)]/\∃d,o=.ret (.va (.slice false 0 d 0 6 (K.filter (keepQ b)).length c))/\Sl F0 151 6 encK (.slice false 0 d 0 6 (K.filter (keepQ b)).length c) (K.filter (keepQ b))):=by
 have s:=zqf (keepQ b) K 0;have p:(!K.isEmpty)=true:=by cases K<;>simp_all
 obtain⟨z,hz⟩:∃z,idxG (keepQ b) K 0=z:=⟨_,rfl⟩
 have m:=fun F1 b1 (l1:Fz.le F F1) (h:F1 b1=some (.arr 151 6 (K.map encK) c))=>zyw F1 _ K b bc (Sl.new (l:=K) (cap:=c) h) (by omega) (l1 _ _ hB)
 rw[hz]at m s;clear hz;refine ctS Tryz.func226 ?_;refine lend 1 (fun _=>.arr 151 6 (K.map encK) c) rfl rfl rfl (fun _ _=>by exact zcy zaz rfl _ _ _ _) (fun _ _=>zbj zaz _ _ _ _ _) ?_;intro b1 F1 l1 ai;refine usePt (m F1 _ l1 (ai 0 ⟨p,rfl⟩)) ?_;refine⟨F1,rfl,Fz.r _,rfl,?_⟩;clear m;rcases s with⟨rfl,h2⟩ | ⟨i,x,h1,ad,h3,h4,h5⟩
 ·refine bre (by decide) ?_;refine zck 1 (fun _=>.arr 151 6 (K.map encK) c) rfl rfl rfl (fun _ _=>by exact zcy zaz rfl _ _ _ _) (fun _ _=>zbj zaz _ _ _ _ _) ?_;intro d w M f;exact clean [] (.ret (.va (.slice false 0 (d 0) 0 6 K.length c))) w [(1,.gone)] 2 ⟨M,rfl,rfl,d 0,by rw[h2],by rw[h2];exact Sl.new (l:=K) (f 0 ⟨p,rfl⟩)⟩ ⟨rfl,rfl,rfl,.inr ⟨rfl,rfl,rfl,rfl⟩⟩ rfl rfl (Out.bB_ok (o:=.ret (.va (.slice false 0 (d 0) 0 6 K.length c))) rfl) ⟨tv,tv⟩ ⟨Fz.r w,tv⟩
 ·rw[qx]at ad;subst ad;have E:¬(i:Int)= -1:=by omega
  have I:(K.take (i+1)).filter (keepQ b)=K.take i:=by
   obtain⟨_,hx⟩:=ql.1 h4;rw[zgz h1 hx,h5,h3];simp
  have e:i < 4611686018427387904:=by omega
  have S:=cnt e;refine brj E ?_;conv=>whnf
  refine zak hΘ (X:={ y:Nat×Nat×List Cel // y.1 < y.2.1/\y.2.1<=K.length/\y.2.2.length=K.length/\y.1=((K.take y.2.1).filter (keepQ b)).length/\y.2.2.take y.1=(K.take y.2.1).filter (keepQ b)/\y.2.2.drop y.2.1=K.drop y.2.1 }) (fun y=>[(5,.va (.int .i64 y.1.1)),(6,.va (.int .i64 y.1.2.1))]) (7::jr 16 20 [])
   (fun y=>[(0,.frz F),(1,gE 151 6 encK c y.1.2.2)]) 2 (fun y=>K.length - y.1.2.1) ⟨(i,i+1,K),qck i,h1,rfl,by show i=_;rw[I,qo];omega,I.symm,rfl⟩
   (fun hH hT=>leI [] hH hT rfl ⟨tv,zab zaz _ _ _ _ _,tv⟩ ⟨rfl,S,tv⟩ ⟨Fz.r F,zaj zaz (zao _ _ _ _),tv⟩) ?_
  rintro⟨⟨i,j,R⟩,k1,k2,k3,G,O,k6⟩ hH hT;replace k1:i < j:=k1;replace k2:j<=K.length:=k2;replace k3:R.length=K.length:=k3;replace G:i=((K.take j).filter (keepQ b)).length:=G;replace O:R.take i=(K.take j).filter (keepQ b):=O;replace k6:R.drop j=K.drop j:=k6;have A:=zsz (R:=R) (by omega);clear h1 h3 h4 h5 I e S E p;by_cases g:j < K.length
  ·have an:(j:Int) < (K.length:Nat):=by omega
   have U:0<=(j:Int)/\(j:Int) < (K.length:Nat):=by omega
   have L:0<=(i:Int)/\(i:Int) < (K.length:Nat):=by omega
   have ac:∃v,K[j]=v:=⟨_,rfl⟩
   obtain⟨v,hv⟩:=ac
   have ag:R[j]? =some v:=by
    have e1:(R.drop j)[0]? =(K.drop j)[0]?:=by rw[k6]
    rw[qam,qam,qau,qa g,hv]at e1;exact e1
   have ab:∃u,R[i]? =some u:=⟨_,qa (by omega)⟩
   obtain⟨u,hu⟩:=ab;have ah:(R.map encK)[0+(j:Int).toNat]? =some (encK v):=by rw[qx,qk,qt,ag];rfl
   have Q:(R.map encK)[0+(i:Int).toNat]? =some (encK u):=by rw[qx,qk,qt,hu];rfl
   have n:=zgz (q:=keepQ b) g hv;have k:=zp1 F v b bc hB;have aa:∃q,keepQ b v=q:=⟨_,rfl⟩
   obtain⟨q,hq⟩:=aa;rw[hq]at n k;have V:j+1<=K.length:=g;have B:K.length - (j+1) < K.length - j:=by omega
   have D:j < 4611686018427387904:=by omega
   have e:i < 4611686018427387904:=by omega
   have ae:R.drop (j+1)=K.drop (j+1):=by
    have:=congrArg (List.drop 1) k6;rw[List.drop_drop,List.drop_drop]at this;exact this
   have Z:(R.map encK).set (0+(i:Int).toNat) (encK v)=(R.set i v).map encK:=by rw[qx,qk,qbl]
   have ap:=ztl R i v;refine bri an ⟨rfl,U,A,_,ah,?_⟩;refine usePs k ?_;rcases q with _ | _
   ·refine br (fun g2=>absurd g2 (by decide)) (fun _=>?_);exact⟨⟨(i,j+1,R),Nat.lt_succ_of_lt k1,V,k3,by show i=_;rw[n];simpa using G,by rw[n];simpa using O,ae⟩,B,leR [] hH hT rfl ⟨tv,zab zaz _ _ _ _ _,tv⟩ ⟨rfl,cnt D,tv⟩ ⟨Fz.r F,zaj zaz (zao _ _ _ _),tv⟩⟩
   ·refine br (fun _=>?_) (fun g2=>absurd g2 (by decide));refine⟨rfl,L,A,_,Q,?_⟩;exact⟨⟨(i+1,j+1,R.set i v),by show i+1 < j+1;omega,V,by rw[qax];exact k3,by show i+1=_;rw[n,qd,<-G];rfl,by show(R.set i v).take (i+1)=_;rw[zpg _ _ _ (by omega),O,n];rfl,by show(R.set i v).drop (j+1)=_;rw[zso _ _ _ _ (by omega)];exact ae⟩,B,leR [] hH hT rfl ⟨tv,zab zaz _ _ _ _ _,tv⟩ ⟨cnt e,cnt D,tv⟩ ⟨Fz.r F,zaj zaz (ycp ap Z),tv⟩⟩
  ·have aj:¬(j:Int) < (K.length:Nat):=by omega
   refine brj aj ?_;have T:0<=(i:Int)/\(i:Int)<=(K.length:Nat):=by omega
   have al:j=K.length:=by omega
   have am:(K.take j).filter (keepQ b)=K.filter (keepQ b):=by rw[al,qh (qi _)]
   rw[am]at G O;have ak:¬c=(i:Int).toNat:=by rw[qk];omega
   have he:(if c=(i:Int).toNat then 0 else 0+(i:Int).toNat)=i:=by rw[if_neg ak];simp
   have W:(if c=(i:Int).toNat then 0 else 0+(i:Int).toNat)+(K.length - (i:Int).toNat)<=(R.map encK).length:=by rw[he,qk,qe];omega
   have J:0<=(i:Int)/\(i:Int)<=(c:Nat):=by omega
   have af:0=(if c=0 then 0 else 0+0):=by split<;>rfl
   have Y:∀x∈(R.map encK).take (if c=(i:Int).toNat then 0 else 0+(i:Int).toNat)++List.replicate (K.length - (i:Int).toNat) ti151.zero++(R.map encK).drop ((if c=(i:Int).toNat then 0 else 0+(i:Int).toNat)+(K.length - (i:Int).toNat)),(∀μ:Mu,x.map (SA.ren μ)=x)/\∀a∈x,a.below 0:=by
    intro x hx;rcases yk.1 hx with hx | hx
    ·rcases yk.1 hx with hx | hx
     ·obtain⟨y,_,rfl⟩:=jj.1 (yd hx);exact zaz y
     ·rw[(qcb.1 hx).2];exact ybv
    ·obtain⟨y,_,rfl⟩:=jj.1 (qap hx);exact zaz y
   have ao:∀(w:Fz) (d:Nat),w d=some (.arr 151 6 ((R.map encK).take (if c=(i:Int).toNat then 0 else 0+(i:Int).toNat)++List.replicate (K.length - (i:Int).toNat) ti151.zero++(R.map encK).drop ((if c=(i:Int).toNat then 0 else 0+(i:Int).toNat)+(K.length - (i:Int).toNat))) c)->Sl w 151 6 encK (.slice false 0 d 0 6 (K.filter (keepQ b)).length c) (K.filter (keepQ b)):=by
    intro w d f;refine⟨false,d,0,c,_,c,rfl,(fun h=>nomatch h),fun _=>f,?_,?_⟩
    ·rw[he,<-G];simp only[qd,qo,qa0,qe,yp,qk];omega
    ·rw[he,y8,qp,<-G,qco (by rw[qo,qe];omega),qbj,Nat.min_self,<-qc6,O]
   refine⟨T,A,W,J,?_⟩;refine zck 1 (fun _=>.arr 151 6 ((R.map encK).take (if c=(i:Int).toNat then 0 else 0+(i:Int).toNat)++List.replicate (K.length - (i:Int).toNat) ti151.zero++(R.map encK).drop ((if c=(i:Int).toNat then 0 else 0+(i:Int).toNat)+(K.length - (i:Int).toNat))) c) rfl rfl rfl (fun _ _=>by exact(z8t Y 151 6 c).1 _) (fun _ _=>(z8t Y 151 6 c).2 1) ?_;intro d w M f;exact clean [] (.ret (.va (.slice false 0 (d 0) 0 6 (K.filter (keepQ b)).length c))) w [(1,.gone)] 2 ⟨M,rfl,rfl,d 0,rfl,ao w (d 0) (f 0 ⟨A,rfl⟩)⟩ ⟨rfl,G.symm,rfl,.inr ⟨rfl,rfl,af,rfl⟩⟩ rfl rfl (Out.bB_ok (o:=.ret (.va (.slice false 0 (d 0) 0 6 (K.filter (keepQ b)).length c))) rfl) ⟨tv,tv⟩ ⟨Fz.r w,tv⟩
theorem zn9(hP:PFun)(F:Fz)(bn:Bool)(Y be Z:Nat)(K:List Cel)(hb:Sl F 151 6 encK (.slice bn 0 Y be 6 K.length Z) K)(hl:K.length<=1000):
  Ct Tryz.prog 163 [.va (.ptr ⟨1,0,0,0,0⟩),.va (.slice bn 0 Y be 6 K.length Z),.va (.lit false)] F (wrH false 0 []) 3 (wrL (zdt false K)):=by
 have ax:(K.filter (keepQ false)).length<=K.length:=qak _ _;have h:zdt false K=zad [((K.filter (keepQ false)).length:Int)]++((K.filter (keepQ false)).map fun c=>zad [c.row,c.col,c.value]).flatten:=rfl;have aj:∀l:List Cel,((l.map fun c=>zad [c.row,c.col,c.value]).flatten).length<=l.length*1000:=fun l=>zge false l
 by_cases f:K=[]
 ·subst f;have h:zdt false []=[]++zad [((0:Nat):Int)]:=by simp[zdt]
  have e:=zpz F bn Y be Z hb;refine ctS Tryz.func163 ?_;refine useFt e ?_;rintro _ F1 l1 ⟨sa,rfl,T⟩;refine zat 3 (fun _=>.cells 4 [.lit false]) ?_;intro bx F2 B b;have ac:=zt8 F2 sa false (bx 0) (T.mono B) (b 0 rfl);have U:=T.mono B;obtain⟨av,aq,au,ar,ap,aw,rfl,am,an,ao,hb4⟩:=U;refine useFt ac ?_;rintro _ F' l3 ⟨rfl,rfl⟩;refine zat 4 (fun _=>.arr 3 1 ([((0:Nat):Int)].map encI) 1) ?_;intro b1 q V a;refine useS (zei hP q _ [((0:Nat):Int)] false [] 0 (fun _=>rfl) (Sl.new (l:=[((0:Nat):Int)]) (cap:=1) (a 0 rfl)) (by simp) (by simp)) [(1,1),(2,2)] ⟨zar _ (by omega) (by omega) _ _,zab zaa _ _ _ _ _,tv⟩ ⟨zcb (by rfl) (by rfl),zaj zaa (zao _ _ _ _),tv⟩ ?_;rintro m F' h0 n0 R ⟨rfl,rfl,rfl,W,u,p,rfl⟩;conv=>whnf
  refine zak hΘ (X:={ x:Nat // x=0 }) (fun x=>[(21,.va (.int .i64 x.1))]) (8::jr 22 25 [])
   (fun x=>[(0,.frz q),(1,wrC W 1 6 u ([]++zad [((0:Nat):Int)])),(5,.gone),(6,gE 5 1 encB u ([]++zad [((0:Nat):Int)]))]) 7 (fun x=>0) ⟨0,rfl⟩
   (fun y A=>leI [(6,5)] y A rfl ⟨tv,zar _ (by omega) (by omega) _ _,tv,zab zaa _ _ _ _ _,tv⟩ ⟨rfl,tv⟩ ⟨Fz.r q,zcf (i':=1) (j':=5) (by rfl) (by rfl) (by rfl) (by rfl) rfl,zbt zaa,tv⟩) ?_
  rintro⟨k,rfl⟩ y A;refine br (fun g2=>absurd g2 (by decide)) (fun _=>?_);exact clean [(3,6)] (.ret (.tup [])) q (wrM W u ([]++zad [((0:Nat):Int)])) 4 ⟨Fz.t l1 (Fz.t B V),rfl,rfl,W,u,by rw[h];exact p,by rw[h]⟩ trivial rfl rfl (Out.bB_ok (o:=.ret (.tup [])) rfl) (zcs _ _ _) ⟨Fz.r q,zcb (by rfl) (by rfl),zaj zaa (zao _ _ _ _),tv⟩
 ·have e:=zt4 F bn Y be Z K f hb hl;refine ctS Tryz.func163 ?_;refine useS e [] trivial trivial ?_;rintro _ F1 h0 n0 l1 ⟨rfl,c,J,rfl,rfl⟩;refine zat 3 (fun _=>.cells 4 [.lit false]) ?_;intro bx F2 B b;refine useS (zzd F2 c K false (bx 0) f (b 0 rfl) hl J) [(1,4)] ⟨zab zaz _ _ _ _ _,tv⟩ ⟨zbt zaz,tv⟩ ?_;rintro _ q h0 n0 l3 ⟨rfl,rfl,rb,rfl,hR⟩;have I:=l3 _ _ (b 0 rfl);have af:=Fz.t l1 (Fz.t B l3);clear e l1 B l3 b J f hb;refine zat 5 (fun _=>.arr 3 1 ([(((K.filter (keepQ false)).length:Nat):Int)].map encI) 1) ?_;intro b1 s V a;refine useS (zei hP s _ [(((K.filter (keepQ false)).length:Nat):Int)] false [] 0 (fun _=>rfl) (Sl.new (l:=[(((K.filter (keepQ false)).length:Nat):Int)]) (cap:=1) (a 0 rfl)) (by simp) (by simp)) [(1,1),(2,2)] ⟨zar _ (by omega) (by omega) _ _,zab zaa _ _ _ _ _,tv⟩ ⟨zcb (by rfl) (by rfl),zaj zaa (zao _ _ _ _),tv⟩ ?_;rintro m F' h0 n0 R ⟨rfl,rfl,rfl,W,u,p,rfl⟩;conv=>whnf
  refine zak hΘ (X:={ x:Nat×List UInt8×Nat×Bool×Fz // Fz.le s x.2.2.2.2/\x.1<=(K.filter (keepQ false)).length/\x.2.1=zad [(((K.filter (keepQ false)).length:Nat):Int)]++(((K.filter (keepQ false)).take x.1).map fun c=>zad [c.row,c.col,c.value]).flatten/\(x.2.2.2.1=false->x.2.1=[]) }) (fun x=>[(21,.va (.int .i64 x.1.1))]) (8::jr 22 25 [])
   (fun x=>[(0,.frz x.1.2.2.2.2),(1,wrC x.1.2.2.2.1 1 7 x.1.2.2.1 x.1.2.1),(6,.gone),(7,gE 5 1 encB x.1.2.2.1 x.1.2.1)]) 8 (fun x=>(K.filter (keepQ false)).length - x.1.1) ⟨(0,[]++zad [(((K.filter (keepQ false)).length:Nat):Int)],u,W,s),Fz.r s,by simpa using p⟩
   (fun y A=>leI [(7,6)] y A rfl ⟨tv,zar _ (by omega) (by omega) _ _,tv,zab zaa _ _ _ _ _,tv⟩ ⟨rfl,tv⟩ ⟨Fz.r s,zcf (i':=1) (j':=6) (by rfl) (by rfl) (by rfl) (by rfl) rfl,zbt zaa,tv⟩) ?_
  rintro⟨⟨k,ob,cb,ub,G⟩,w,hk,d,i⟩ y A;replace w:Fz.le s G:=w;replace hk:k<=(K.filter (keepQ false)).length:=hk;replace d:ob=zad [(((K.filter (keepQ false)).length:Nat):Int)]++(((K.filter (keepQ false)).take k).map fun c=>zad [c.row,c.col,c.value]).flatten:=d;replace i:ub=false->ob=[]:=i
  have al:ob.length<=100000000000:=by
   have h9:=aj ((K.filter (keepQ false)).take k);have h8:=za7 [(((K.filter (keepQ false)).length:Nat):Int)];rw[qo]at h9;rw[jv]at h8;rw[d,qd];omega
  by_cases g:k < (K.filter (keepQ false)).length
  ·have n:(k:Int) < ((K.filter (keepQ false)).length:Nat):=by omega
   have O:0<=(k:Int)/\(k:Int) < ((K.filter (keepQ false)).length:Nat):=by omega
   have ad:∃x,(K.filter (keepQ false))[k]=x:=⟨_,rfl⟩
   have aa:=hR.mono (Fz.t V w);obtain⟨nn,nb,ne,nc,nL,nr,M,ay,ag,az,ah⟩:=aa;cases M
   obtain⟨x,hx⟩:=ad;have ab:nL[0+(k:Int).toNat]? =some (encK x):=by rw[<-hx];exact Sl.at ah g
   have S:ob++zad [x.row,x.col,x.value]=zad [(((K.filter (keepQ false)).length:Nat):Int)]++(((K.filter (keepQ false)).take (k+1)).map fun c=>zad [c.row,c.col,c.value]).flatten:=by
    rw[zb3 g,hx,d,qp]
   have ae:k+1<=(K.filter (keepQ false)).length:=g;have L:(K.filter (keepQ false)).length - (k+1) < (K.filter (keepQ false)).length - k:=by omega
   have Q:k < 4611686018427387904:=by omega
   have E:=(Fz.t V w) _ _ I;have ai:=ag rfl;clear hx;refine bri n ⟨rfl,O,_,ai,_,ab,_,E,?_⟩;refine zat 9 (fun _=>.arr 3 1 ([x.row,x.col,x.value].map encI) 3) ?_;intro b2 G2 l5 D;refine useS (zei hP G2 _ [x.row,x.col,x.value] ub ob cb i (Sl.new (l:=[x.row,x.col,x.value]) (cap:=3) (D 0 rfl)) (by simp) (by omega)) [(1,1),(2,7)] ⟨zar _ (by omega) (by omega) _ _,zab zaa _ _ _ _ _,tv⟩ ⟨zcb (by rfl) (by rfl),zaj zaa (zao _ _ _ _),tv⟩ ?_;rintro m F' h0 n0 R ⟨rfl,rfl,rfl,u2,c2,ak,rfl⟩;exact⟨⟨(k+1,ob++zad [x.row,x.col,x.value],c2,u2,G2),Fz.t w l5,ae,S,ak⟩,L,leR [(7,10)] y A rfl ⟨tv,zar _ (by omega) (by omega) _ _,tv,zab zaa _ _ _ _ _,tv⟩ ⟨cnt Q,tv⟩ ⟨Fz.r G2,zcf (i':=1) (j':=10) (by rfl) (by rfl) (by rfl) (by rfl) rfl,zbt zaa,tv⟩⟩
  ·have n:¬(k:Int) < ((K.filter (keepQ false)).length:Nat):=by omega
   have j:ob=zdt false K:=by rw[d,h,qh (by omega)]
   refine brj n ?_;exact clean [(3,7)] (.ret (.tup [])) G (wrM ub cb ob) 4 ⟨Fz.t af (Fz.t V w),rfl,rfl,ub,cb,by rw[<-j];exact i,by rw[j]⟩ trivial rfl rfl (Out.bB_ok (o:=.ret (.tup [])) rfl) (zcs _ _ _) ⟨Fz.r G,zcb (by rfl) (by rfl),zaj zaa (zao _ _ _ _),tv⟩
theorem zpx(hP:PFun)(F:Fz)(bn:Bool)(Y be Z:Nat)(K:List Cel)(hb:Sl F 151 6 encK (.slice bn 0 Y be 6 K.length Z) K)(hl:K.length<=1000):
  Ct Tryz.prog 163 [.va (.ptr ⟨1,0,0,0,0⟩),.va (.slice bn 0 Y be 6 K.length Z),.va (.lit true)] F (wrH false 0 []) 3 (wrL (zdt true K)):=by
 have ax:(K.filter (keepQ true)).length<=K.length:=qak _ _;have h:zdt true K=zad [((K.filter (keepQ true)).length:Int)]++((K.filter (keepQ true)).map fun c=>zad [c.row,c.col,c.top,c.left]).flatten:=rfl;have aj:∀l:List Cel,((l.map fun c=>zad [c.row,c.col,c.top,c.left]).flatten).length<=l.length*1000:=fun l=>zge true l
 by_cases f:K=[]
 ·subst f;have h:zdt true []=[]++zad [((0:Nat):Int)]:=by simp[zdt]
  have e:=zpz F bn Y be Z hb;refine ctS Tryz.func163 ?_;refine useFt e ?_;rintro _ F1 l1 ⟨sa,rfl,T⟩;refine zat 3 (fun _=>.cells 4 [.lit true]) ?_;intro bx F2 B b;have ac:=zt8 F2 sa true (bx 0) (T.mono B) (b 0 rfl);have U:=T.mono B;obtain⟨av,aq,au,ar,ap,aw,rfl,am,an,ao,hb4⟩:=U;refine useFt ac ?_;rintro _ F' l3 ⟨rfl,rfl⟩;refine zat 4 (fun _=>.arr 3 1 ([((0:Nat):Int)].map encI) 1) ?_;intro b1 q V a;refine useS (zei hP q _ [((0:Nat):Int)] false [] 0 (fun _=>rfl) (Sl.new (l:=[((0:Nat):Int)]) (cap:=1) (a 0 rfl)) (by simp) (by simp)) [(1,1),(2,2)] ⟨zar _ (by omega) (by omega) _ _,zab zaa _ _ _ _ _,tv⟩ ⟨zcb (by rfl) (by rfl),zaj zaa (zao _ _ _ _),tv⟩ ?_;rintro m F' h0 n0 R ⟨rfl,rfl,rfl,W,u,p,rfl⟩;conv=>whnf
  refine zak hΘ (X:={ x:Nat // x=0 }) (fun x=>[(21,.va (.int .i64 x.1))]) (8::jr 22 25 [])
   (fun x=>[(0,.frz q),(1,wrC W 1 6 u ([]++zad [((0:Nat):Int)])),(5,.gone),(6,gE 5 1 encB u ([]++zad [((0:Nat):Int)]))]) 7 (fun x=>0) ⟨0,rfl⟩
   (fun y A=>leI [(6,5)] y A rfl ⟨tv,zar _ (by omega) (by omega) _ _,tv,zab zaa _ _ _ _ _,tv⟩ ⟨rfl,tv⟩ ⟨Fz.r q,zcf (i':=1) (j':=5) (by rfl) (by rfl) (by rfl) (by rfl) rfl,zbt zaa,tv⟩) ?_
  rintro⟨k,rfl⟩ y A;refine br (fun g2=>absurd g2 (by decide)) (fun _=>?_);exact clean [(3,6)] (.ret (.tup [])) q (wrM W u ([]++zad [((0:Nat):Int)])) 4 ⟨Fz.t l1 (Fz.t B V),rfl,rfl,W,u,by rw[h];exact p,by rw[h]⟩ trivial rfl rfl (Out.bB_ok (o:=.ret (.tup [])) rfl) (zcs _ _ _) ⟨Fz.r q,zcb (by rfl) (by rfl),zaj zaa (zao _ _ _ _),tv⟩
 ·have e:=zt4 F bn Y be Z K f hb hl;refine ctS Tryz.func163 ?_;refine useS e [] trivial trivial ?_;rintro _ F1 h0 n0 l1 ⟨rfl,c,J,rfl,rfl⟩;refine zat 3 (fun _=>.cells 4 [.lit true]) ?_;intro bx F2 B b;refine useS (zzd F2 c K true (bx 0) f (b 0 rfl) hl J) [(1,4)] ⟨zab zaz _ _ _ _ _,tv⟩ ⟨zbt zaz,tv⟩ ?_;rintro _ q h0 n0 l3 ⟨rfl,rfl,rb,rfl,hR⟩;have I:=l3 _ _ (b 0 rfl);have af:=Fz.t l1 (Fz.t B l3);clear e l1 B l3 b J f hb;refine zat 5 (fun _=>.arr 3 1 ([(((K.filter (keepQ true)).length:Nat):Int)].map encI) 1) ?_;intro b1 s V a;refine useS (zei hP s _ [(((K.filter (keepQ true)).length:Nat):Int)] false [] 0 (fun _=>rfl) (Sl.new (l:=[(((K.filter (keepQ true)).length:Nat):Int)]) (cap:=1) (a 0 rfl)) (by simp) (by simp)) [(1,1),(2,2)] ⟨zar _ (by omega) (by omega) _ _,zab zaa _ _ _ _ _,tv⟩ ⟨zcb (by rfl) (by rfl),zaj zaa (zao _ _ _ _),tv⟩ ?_;rintro m F' h0 n0 R ⟨rfl,rfl,rfl,W,u,p,rfl⟩;conv=>whnf
  refine zak hΘ (X:={ x:Nat×List UInt8×Nat×Bool×Fz // Fz.le s x.2.2.2.2/\x.1<=(K.filter (keepQ true)).length/\x.2.1=zad [(((K.filter (keepQ true)).length:Nat):Int)]++(((K.filter (keepQ true)).take x.1).map fun c=>zad [c.row,c.col,c.top,c.left]).flatten/\(x.2.2.2.1=false->x.2.1=[]) }) (fun x=>[(21,.va (.int .i64 x.1.1))]) (8::jr 22 25 [])
   (fun x=>[(0,.frz x.1.2.2.2.2),(1,wrC x.1.2.2.2.1 1 7 x.1.2.2.1 x.1.2.1),(6,.gone),(7,gE 5 1 encB x.1.2.2.1 x.1.2.1)]) 8 (fun x=>(K.filter (keepQ true)).length - x.1.1) ⟨(0,[]++zad [(((K.filter (keepQ true)).length:Nat):Int)],u,W,s),Fz.r s,by simpa using p⟩
   (fun y A=>leI [(7,6)] y A rfl ⟨tv,zar _ (by omega) (by omega) _ _,tv,zab zaa _ _ _ _ _,tv⟩ ⟨rfl,tv⟩ ⟨Fz.r s,zcf (i':=1) (j':=6) (by rfl) (by rfl) (by rfl) (by rfl) rfl,zbt zaa,tv⟩) ?_
  rintro⟨⟨k,ob,cb,ub,G⟩,w,hk,d,i⟩ y A;replace w:Fz.le s G:=w;replace hk:k<=(K.filter (keepQ true)).length:=hk;replace d:ob=zad [(((K.filter (keepQ true)).length:Nat):Int)]++(((K.filter (keepQ true)).take k).map fun c=>zad [c.row,c.col,c.top,c.left]).flatten:=d;replace i:ub=false->ob=[]:=i
  have al:ob.length<=100000000000:=by
   have h9:=aj ((K.filter (keepQ true)).take k);have h8:=za7 [(((K.filter (keepQ true)).length:Nat):Int)];rw[qo]at h9;rw[jv]at h8;rw[d,qd];omega
  by_cases g:k < (K.filter (keepQ true)).length
  ·have n:(k:Int) < ((K.filter (keepQ true)).length:Nat):=by omega
   have O:0<=(k:Int)/\(k:Int) < ((K.filter (keepQ true)).length:Nat):=by omega
   have ad:∃x,(K.filter (keepQ true))[k]=x:=⟨_,rfl⟩
   have aa:=hR.mono (Fz.t V w);obtain⟨nn,nb,ne,nc,nL,nr,M,ay,ag,az,ah⟩:=aa;cases M
   obtain⟨x,hx⟩:=ad;have ab:nL[0+(k:Int).toNat]? =some (encK x):=by rw[<-hx];exact Sl.at ah g
   have S:ob++zad [x.row,x.col,x.top,x.left]=zad [(((K.filter (keepQ true)).length:Nat):Int)]++(((K.filter (keepQ true)).take (k+1)).map fun c=>zad [c.row,c.col,c.top,c.left]).flatten:=by
    rw[zb3 g,hx,d,qp]
   have ae:k+1<=(K.filter (keepQ true)).length:=g;have L:(K.filter (keepQ true)).length - (k+1) < (K.filter (keepQ true)).length - k:=by omega
   have Q:k < 4611686018427387904:=by omega
   have E:=(Fz.t V w) _ _ I;have ai:=ag rfl;clear hx;refine bri n ⟨rfl,O,_,ai,_,ab,_,E,?_⟩;refine zat 9 (fun _=>.arr 3 1 ([x.row,x.col,x.top,x.left].map encI) 4) ?_;intro b2 G2 l5 D;refine useS (zei hP G2 _ [x.row,x.col,x.top,x.left] ub ob cb i (Sl.new (l:=[x.row,x.col,x.top,x.left]) (cap:=4) (D 0 rfl)) (by simp) (by omega)) [(1,1),(2,7)] ⟨zar _ (by omega) (by omega) _ _,zab zaa _ _ _ _ _,tv⟩ ⟨zcb (by rfl) (by rfl),zaj zaa (zao _ _ _ _),tv⟩ ?_;rintro m F' h0 n0 R ⟨rfl,rfl,rfl,u2,c2,ak,rfl⟩;exact⟨⟨(k+1,ob++zad [x.row,x.col,x.top,x.left],c2,u2,G2),Fz.t w l5,ae,S,ak⟩,L,leR [(7,10)] y A rfl ⟨tv,zar _ (by omega) (by omega) _ _,tv,zab zaa _ _ _ _ _,tv⟩ ⟨cnt Q,tv⟩ ⟨Fz.r G2,zcf (i':=1) (j':=10) (by rfl) (by rfl) (by rfl) (by rfl) rfl,zbt zaa,tv⟩⟩
  ·have n:¬(k:Int) < ((K.filter (keepQ true)).length:Nat):=by omega
   have j:ob=zdt true K:=by rw[d,h,qh (by omega)]
   refine brj n ?_;exact clean [(3,7)] (.ret (.tup [])) G (wrM ub cb ob) 4 ⟨Fz.t af (Fz.t V w),rfl,rfl,ub,cb,by rw[<-j];exact i,by rw[j]⟩ trivial rfl rfl (Out.bB_ok (o:=.ret (.tup [])) rfl) (zcs _ _ _) ⟨Fz.r G,zcb (by rfl) (by rfl),zaj zaa (zao _ _ _ _),tv⟩
theorem yca(u:PFun)(F:Fz)(q:Bool)(l n p m:Nat)(e:Bool)(b d c:Nat)(K:List Cel)(w:Int)(s:List UInt8)(hb:Sl F 151 6 encK (.slice e 0 b d 6 K.length c) K)(x:K.length<=1000):
  Ct Tryz.prog 162 [.agg (docS (.slice q 0 l n 2 p m) (.slice e 0 b d 6 K.length c) w s),.va (.ptr ⟨1,0,0,0,0⟩)] F (wrH false 0 []) 3 (wrL (zdt false K)):=by
 have i:=zn9 u F e b d c K hb x;obtain⟨P,a⟩:∃P,zdt false K=P:=⟨_,rfl⟩
 rw[a]at i ⊢;clear a;refine ctS Tryz.func162 ?_;refine useS i [(1,1),(2,2)] ⟨zar _ (by omega) (by omega) _ _,zab zaa _ _ _ _ _,tv⟩ ⟨zcb (by rfl) (by rfl),zaj zaa (zao _ _ _ _),tv⟩ ?_;rintro j F1 y n0 f ⟨rfl,rfl,k,h,g,rfl⟩;exact clean [(3,4)] (.ret (.tup [])) F1 (wrM k h P) 4 ⟨f,rfl,rfl,k,h,g,rfl⟩ trivial rfl rfl (Out.bB_ok (o:=.ret (.tup [])) rfl) (zcs _ _ _) ⟨Fz.r F1,zcf (i':=1) (j':=4) (by rfl) (by rfl) (by rfl) (by rfl) rfl,zbt zaa,tv⟩
theorem ycb(u:PFun)(F:Fz)(q:Bool)(l n p m:Nat)(e:Bool)(b d c:Nat)(K:List Cel)(w:Int)(s:List UInt8)(hb:Sl F 151 6 encK (.slice e 0 b d 6 K.length c) K)(x:K.length<=1000):
  Ct Tryz.prog 164 [.agg (docS (.slice q 0 l n 2 p m) (.slice e 0 b d 6 K.length c) w s),.va (.ptr ⟨1,0,0,0,0⟩)] F (wrH false 0 []) 3 (wrL (zdt true K)):=by
 have i:=zpx u F e b d c K hb x;obtain⟨P,a⟩:∃P,zdt true K=P:=⟨_,rfl⟩
 rw[a]at i ⊢;clear a;refine ctS Tryz.func164 ?_;refine useS i [(1,1),(2,2)] ⟨zar _ (by omega) (by omega) _ _,zab zaa _ _ _ _ _,tv⟩ ⟨zcb (by rfl) (by rfl),zaj zaa (zao _ _ _ _),tv⟩ ?_;rintro j F1 y n0 f ⟨rfl,rfl,k,h,g,rfl⟩;exact clean [(3,4)] (.ret (.tup [])) F1 (wrM k h P) 4 ⟨f,rfl,rfl,k,h,g,rfl⟩ trivial rfl rfl (Out.bB_ok (o:=.ret (.tup [])) rfl) (zcs _ _ _) ⟨Fz.r F1,zcf (i':=1) (j':=4) (by rfl) (by rfl) (by rfl) (by rfl) rfl,zbt zaa,tv⟩
