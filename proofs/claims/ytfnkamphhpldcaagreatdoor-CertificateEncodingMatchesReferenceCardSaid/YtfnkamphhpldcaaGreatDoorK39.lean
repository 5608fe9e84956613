import Derived.Test.YtfnkamphhpldcaaGreatDoorK38
import Derived.Test.YtfnkamphhpldcaaGreatDoorK10
set_option maxHeartbeats 64000000
namespace Go.Proofs.YtfnkamphhpldcaaGreatDoor
open Go Sx Tryz
set_option maxRecDepth 100000
theorem ybo{cs:Array Value}{t:TypeId}{fr:Nat×Nat}{i:Nat}{z:Int}(h:cs[i]? =some (.int .i64 z)):RdO (.cells cs t fr) i 1 [.int .i64 z]:=by
 refine⟨rfl,fun a c=>?_,fun ρ _=>⟨t,fr,cs.toList.take i,cs.toList.drop (i+1),?_,?_⟩⟩
 ·simp at c;subst c;trivial
 ·have d:=(jk.1 h).1;have f:cs[i]=.int .i64 z:=(jk.1 h).2
  congr 1
  apply qci.1;have g:i < cs.toList.length:=by simpa using d
  have b:cs.toList=cs.toList.take i++cs.toList[i]::cs.toList.drop (i+1):=by
   rw[<-jj g,yl]
  have e:cs.toList[i]=.int .i64 z:=by simpa using f
  rw[e]at b;simpa[SA.den]using b
 ·have d:=(jk.1 h).1;rw[qk,qcv];omega
theorem RawB.rd1{B:SB}{i:Nat}{z:Int}{p:Pl}{K:List SA->Prop}(h:RawB B i z)(b:p.e*p.sz+p.o=i)(a:K [.int .i64 z]):rdB B p 1 K:=by
 cases B with
 |obj o=>
  cases o with
  |cells cs t fr=>exact⟨_,by rw[b];exact ybo h,a⟩
  |_=>exact h.elim
 |cells t l=>
  simp only[rdB];rw[b,tM l i _ h];exact a
 |arr t sz L room=>exact h.elim
variable {F:Fz}{b:Nat}
theorem RawAt.rdO1{off:Nat}{zs:List Int}(h:RawAt F b off zs):∃B,∀(k:Nat) (g:k < zs.length),F b=some B/\RawB B (off+k) zs[k]:=by
 rcases h with h | ⟨B,h1,a⟩
 ·exact⟨.cells 0 [],fun k g=>by subst h;simp at g⟩
 ·exact⟨B,fun k g=>⟨h1,a k g⟩⟩
theorem wY:∀(l:List Stp) (k:Nat),(ints2 l)[k*2]? =(l[k]?).map (·.1)/\(ints2 l)[k*2+1]? =(l[k]?).map (·.2)
 |[],k=>by simp[ints2]
 |q::r,0=>⟨rfl,rfl⟩
 |q::r,k+1=>by
  have h:=wY r k;have e:(k+1)*2=k*2+2:=by omega
  rw[e];exact h
def ints3(x:List Q3):List Int:=(x.map fun q=>[q.1,q.2.1,q.2.2]).flatten
theorem uJ:∀l:List Q3,(ints3 l).length=l.length*3
 |[]=>rfl
 |q::r=>by
  have:=uJ r;show(q.1::q.2.1::q.2.2::ints3 r).length=_;simp only[qe];omega
theorem wZ:∀(l:List Q3) (k:Nat),(ints3 l)[k*3]? =(l[k]?).map (·.1)/\(ints3 l)[k*3+1]? =(l[k]?).map (·.2.1)/\(ints3 l)[k*3+2]? =(l[k]?).map (·.2.2)
 |[],k=>by simp[ints3]
 |q::r,0=>⟨rfl,rfl,rfl⟩
 |q::r,k+1=>by
  have h:=wZ r k;have e:(k+1)*3=k*3+3:=by omega
  rw[e];exact h
theorem RawAt.pair{off:Nat}{x:List Stp}(h:RawAt F b off (ints2 x)):∃B,∀(k:Nat) (g:k < x.length),F b=some B/\RawB B (off+k*2) (x[k]'g).1/\RawB B (off+k*2+1) (x[k]'g).2:=by
 obtain⟨B,d⟩:=h.rdO1;refine⟨B,fun k g=>?_⟩;have e:=uI x;obtain⟨a0,c⟩:=wY x k;rw[qc g]at a0 c;have a:=d (k*2) oo;have h1:=d (k*2+1) oo;rw[(qg.1 a0).2]at a;rw[(qg.1 c).2]at h1;exact⟨a.1,a.2,by rw[qbf];exact h1.2⟩
theorem RawAt.triple{off:Nat}{x:List Q3}(h:RawAt F b off (ints3 x)):∃B,∀(k:Nat) (g:k < x.length),F b=some B/\RawB B (off+k*3) (x[k]'g).1/\RawB B (off+k*3+1) (x[k]'g).2.1/\RawB B (off+k*3+2) (x[k]'g).2.2:=by
 obtain⟨B,c⟩:=h.rdO1;refine⟨B,fun k g=>?_⟩;have i:=uJ x;obtain⟨a0,d,e⟩:=wZ x k;rw[qc g]at a0 d e;have a:=c (k*3) oo;have h1:=c (k*3+1) oo;have f:=c (k*3+2) oo;rw[(qg.1 a0).2]at a;rw[(qg.1 d).2]at h1;rw[(qg.1 e).2]at f;exact⟨a.1,a.2,by rw[qbf];exact h1.2,by rw[qbf];exact f.2⟩
abbrev dcE(b a:Nat)(o:List DLn)(q:List Cel)(w:Int)(s:List UInt8):Ent:=.one (.cells 41 [gA 2 4 b o,gA 6 5 a q,.int .i64 w,.str s])
variable {q:List Cel}{o:List DLn}{c n:Nat}
theorem kd{d:Nat}{w:Int}{s:List UInt8}(h:5 < n):(dcE d c o q w s).below n:=by
 intro a b;simp only[qh,qq,or_false]at b;rcases b with rfl | rfl | rfl | rfl
 ·exact e9 oo _ _ _
 ·exact e9 oo _ _ _
 ·trivial
 ·trivial
theorem tH(h:4 < n):(Ent.one (.cells 41 [gA 2 4 c o,.nilsl,.int .i64 0,.str []])).below n:=by
 intro a b;simp only[qh,qq,or_false]at b;rcases b with rfl | rfl | rfl | rfl
 ·exact e9 oo _ _ _
 ·trivial
 ·trivial
 ·trivial
variable {μ:Mu}
theorem wF{j:Nat}{L:List DLn}{x:DLn}(a:μ 4 0=(j,0))(b:n=L.length+1):SB.cells 41 [.slice false j 0 0 2 n c,.nilsl,.int .i64 0,.str []]=SB.ren μ (.cells 41 [gA 2 4 c (L++[x]),.nilsl,.int .i64 0,.str []]):=by
 subst b;cases L with
 |nil=>simp only[gA,qv,SB.ren,qw,yy,SA.ren,a,qu]
 |cons y r=>simp only[gA,yd,SB.ren,qw,yy,SA.ren,a,qb,qe,qu]
theorem fS{α:Type}{sz i j:Nat}(h:μ i 0=(j,0))(l:List α):gA sz j c l=(gA sz i c l).ren μ:=by
 cases l<;>simp only[gA,SA.ren,h]
theorem mC{α:Type}{sz i j:Nat}{L:List α}{x:α}(h:μ i 0=(j,0))(a:n=L.length+1):SA.slice false j 0 0 sz n c=(gA sz i c (L++[x])).ren μ:=by
 subst a;cases L<;>simp[gA,SA.ren,h]
theorem swK{t:Nat}{a:List (List SA)}{X:List SA}{y:Cel}(b:a=q.map encK++[X])(_:X.length=6)(d:∀ρ,(encK y).map (SA.den ρ)=X.map (SA.den ρ)):
  ∀ρ o,(SB.arr t 6 a c).ok ρ o->(SB.arr t 6 ((q++[y]).map encK) c).ok ρ o:=by
 subst b;refine x7 ss ?_ ?_
 ·intro z e;obtain⟨u,_,rfl⟩:=qz.1 e;rfl
 ·intro ρ;simp only[qo,qw,yy,yu,jm,qaj,qy,d]
theorem nf{a:Nat}{w:Int}{s:List UInt8}{A B:SA}(c:A=(gA 2 4 b o).ren μ)(d:B=(gA 6 5 a q).ren μ):
  SB.cells 41 [A,B,.int .i64 w,.str s]=SB.ren μ (.cells 41 [gA 2 4 b o,gA 6 5 a q,.int .i64 w,.str s]):=by subst c d;rfl
theorem bitN(N j:Nat)(g:j < 64):IntKind.u8.wrap (IntKind.i64.wrap (48+(shrI IntKind.i64 (N:Int) (j:Int)).tmod 2))=((UInt8.ofNat (48+N / 2^j % 2)).toNat:Int):=by
 have b:shrI .i64 (N:Int) (j:Int)=((N / 2^j:Nat):Int):=by
  unfold shrI
  have f:min ((j:Int).toNat) (IntKind.i64.bits)=j:=by
   rw[qn];show min j 64=j;omega
  rw[f,qa9 _ (by have:=qd3 (n:=2) (m:=j) oo;omega)];simp
 have c:((N / 2^j:Nat):Int).tmod 2=((N / 2^j % 2:Nat):Int):=by
  rw[qaa (jz _)];simp
 have d:48+N / 2^j % 2 < 256:=by omega
 have e:(48:Int)+((N / 2^j % 2:Nat):Int)=((48+N / 2^j % 2:Nat):Int):=by simp
 have a:-9223372036854775808<=((48+N / 2^j % 2:Nat):Int)/\((48+N / 2^j % 2:Nat):Int)<=9223372036854775807:=by omega
 rw[b,c,e,aI a.1 (qa4 a.2 dd),qay,ju d];show((48+N / 2^j % 2:Nat):Int).emod 256=_;exact Int.emod_eq_of_lt oo oo
theorem By(j N:Nat):mkB (j+1) N=mkB j N++[UInt8.ofNat (48+N / 2^j % 2)]:=by
 unfold mkB;rw[qct,qo];rfl
theorem yc0{a:Nat}{w:Int}{s c:List UInt8}{A B:SA}(f:c=s)(d:A=(gA 2 4 b o).ren μ)(e:B=(gA 6 5 a q).ren μ):
  SB.cells 41 [A,B,.int .i64 w,.str c]=SB.ren μ (.cells 41 [gA 2 4 b o,gA 6 5 a q,.int .i64 w,.str s]):=by subst f d e;rfl
theorem mi{d:Fz}{D:Dc}{W:Int}{B:List UInt8}{g i:Bool}{e f h:Nat}(l:D=⟨o,q,W,B⟩)(j:Sl d 148 2 encN (.slice g 0 e 0 2 o.length f) o)
  (k:Sl d 151 6 encK (.slice i 0 h 0 6 q.length c) q)(m:q.length<=c):∃a b,Out.ret (SV.agg [.slice g 0 e 0 2 o.length f,.slice i 0 h 0 6 q.length c,.int .i64 W,.str B])=Out.ret (SV.agg (docS a b D.w D.bits))/\DocAt d a b D:=by
 subst l;exact⟨_,_,rfl,g,e,0,f,i,h,0,c,rfl,rfl,j,k,m⟩
theorem ya4(F:Fz)(n1 n2:Bool)(b1 o1 c1 b2 o2 c2:Nat)(l:List Stp)(x:List Q3)(A U:Int)(bm:n1=true->l=[])(b9:n2=true->x=[])(hl:RawAt F b1 o1 (ints2 l))(hx:RawAt F b2 o2 (ints3 x))
  (bn:∀y∈l,i64 y.1/\i64 y.2)(ca:∀y∈x,i64 y.1/\i64 y.2.1/\i64 y.2.2)(hr:i64 A/\i64 U)(_:l.length < 9223372036854775808)(ch:x.length < 9223372036854775808):
  Fo prog F 49 [.va (.slice n1 0 b1 o1 1 l.length c1),.va (.slice n2 0 b2 o2 1 x.length c2),.agg [.int .i64 A,.int .i64 U]] (fun o F'=>∃a b,o=.ret (.agg (docS a b (madeD l x A U).w (madeD l x A U).bits))/\DocAt F' a b (madeD l x A U)):=by
 have ah:=hl.pair;obtain⟨BL,ah⟩:=ah;have ai:=hx.triple;obtain⟨BX,ai⟩:=ai;have b7:=dP A 6 dd hr.1;have bh:=dP (A.tdiv 6) 4 dd (i5 hr.1);have ay:=dP U 1048576 dd hr.2;have ac:=fun F=>fd A 6 hr.1 dd F
 have ag:=fun F=>fd (A.tdiv 6) 4 (i5 hr.1) dd F
 have a1:=fun F=>fd U 1048576 hr.2 dd F
 have ak:A.tdiv 6=IntKind.i64.wrap (A.tdiv 6):=by
  have:=i5 hr.1;unfold i64 at this;exact(aI oo oo).symm
 obtain⟨W,hW⟩:∃W:Nat,pickI A 6=(W:Int):=⟨(pickI A 6).toNat,by omega⟩
 obtain⟨H,ae⟩:∃H:Nat,pickI (A.tdiv 6) 4=(H:Int):=⟨(pickI (A.tdiv 6) 4).toNat,by omega⟩
 obtain⟨N,hN⟩:∃N:Nat,pickI U 1048576=(N:Int):=⟨(pickI U 1048576).toNat,by omega⟩
 rw[hW]at b7;rw[ae]at bh;rw[hN]at ay;simp only[hW]at ac;simp only[ae]at ag;simp only[hN]at a1
 have bc:((W:Int)*(1+(H:Int))).toNat=W*(1+H):=by
  have:(W:Int)*(1+(H:Int))=((W*(1+H):Nat):Int):=by simp
  rw[this,qn]
 have cb:W*(1+H)<=20:=qaw (show W<=5 by omega) (show 1+H<=4 by omega)
 have an:IntKind.i64.wrap ((W:Int)*IntKind.i64.wrap (1+(H:Int)))=((W*(1+H):Nat):Int):=by
  have:(W:Int)*(1+(H:Int))=((W*(1+H):Nat):Int):=by simp
  rw[aI (n:=1+(H:Int)) oo oo,this,aI oo oo]
 obtain⟨D,hD⟩:∃D,madeD l x A U=D:=⟨_,rfl⟩
 rw[hD];refine foS func49 ?_;conv=>whnf
 refine aH hΘ (X:={ y:Nat×List DLn×Nat // y.1<=l.length/\y.1<=6/\y.2.1=(l.take y.1).map mkLn }) (fun y=>[(8,.va (.int .i64 y.1.1))]) (9::10::jr 17 40 [])
  (fun y=>[(0,.frz F),(3,.one (.cells 41 [gA 2 4 y.1.2.2 y.1.2.1,.nilsl,.int .i64 0,.str []])),(4,gE 148 2 encN y.1.2.2 y.1.2.1)]) 5 (fun y=>6 - y.1.1) ⟨(0,[],0),by simp,by omega,rfl⟩
  (fun R S=>leI [(4,4)] R S rfl ⟨tv,(by
   intro a ha;simp only[qh,qq,or_false]at ha;rcases ha with rfl | rfl | rfl | rfl
   ·exact e9 oo _ _ _
   ·trivial
   ·trivial
   ·trivial),aF aG _ _ _ _ _,tv⟩ ⟨rfl,tv⟩ ⟨Fz.r F,rfl,rfl,tv⟩) ?_
 rintro⟨⟨k,o,c⟩,hk,av,ho⟩ R S;replace hk:k<=l.length:=hk;replace av:k<=6:=av;replace ho:o=(l.take k).map mkLn:=ho;by_cases g:k < l.length/\k < 6
 ·have e:=g.1;have Y:(k:Int) < (l.length:Int):=by omega
  have g6:(k:Int) < 6:=by omega
  have T:=ah k e;have hB:=T.1;have M:=bn (l[k]'e) (qx e);have bw:=fun F=>fd (l[k]'e).1 1000000 M.1 dd F
  have bz:=fun F=>fd (l[k]'e).2 8 M.2 dd F
  have a0:(0<=pickI (l[k]'e).1 1000000/\pickI (l[k]'e).1 1000000<=1000000)/\pickI (l[k]'e).1 1000000 < 6^8:=by
   have h:=dP (l[k]'e).1 1000000 dd M.1;exact⟨⟨h.1,Int.le_of_lt h.2⟩,Int.lt_trans h.2 dd⟩
  have u:n1=false:=Sl.lt bm e;have Z:(o1+(k:Int).toNat*2)*1+(0+(0:Int).toNat*1)=o1+k*2:=by rw[qn];omega
  have bk:(o1+(k:Int).toNat*2)*1+(0+(1:Int).toNat*1)=o1+k*2+1:=by rw[qn];omega
  have m:6 - (k+1) < 6 - k:=by have:=g.2;omega
  have E:k < 4611686018427387904:=by omega
  have bp:o.length=k:=by rw[ho,qa,qk];omega
  have az:o++[mkLn (l[k]'e)]=(l.take (k+1)).map mkLn:=by rw[qf e,qo,<-ho];rfl
  clear ho;rcases o with _ | ⟨d0,Q⟩
  all_goals
   refine⟨fun _=>?_,fun h=>absurd Y (oe h)⟩;refine bri g6 ⟨u,⟨by omega,Y⟩,⟨by decide,by decide⟩,_,hB,?_⟩;refine T.2.1.rd1 Z ?_;refine usePt (bw F) ?_;conv=>whnf
   refine aH hΘ (X:={ y:Int×List UInt8×Nat // (0<=y.1/\y.1<=1000000)/\y.1 < 6^y.2.2/\y.2.1.length+y.2.2<=8/\mkT y.2.2 y.1 y.2.1=mkT 8 (pickI (l[k]'e).1 1000000) [] }) (fun y=>[(9,.va (.int .i64 y.1.1)),(10,.va (.str y.1.2.1))]) (jr 33 11 [])
    (fz fun _=>F) 5 (fun y=>y.1.2.2) ⟨(pickI (l[k]'e).1 1000000,[],8),a0.1,a0.2,by simp,rfl⟩
    (fun R S=>leI [] R S rfl ⟨tv,tv⟩ ⟨rfl,rfl,tv⟩ ⟨Fz.r F,tv⟩) ?_
   rintro⟨⟨n,s,f⟩,ax,J,a3,p⟩ a8 ba;have ab:0<=n:=ax.1;have cg:n<=1000000:=ax.2;replace J:n < 6^f:=J;replace a3:s.length+f<=8:=a3;replace p:mkT f n s=mkT 8 (pickI (l[k]'e).1 1000000) []:=p;by_cases hn:0 < n
   ·rcases f with _ | f
    ·exact absurd J (by show¬n < 1;omega)
    have ac:(6:Int)^(f+1)=6^f*6:=Int.pow_succ 6 f
    have bo:0<=n.tdiv 6/\n.tdiv 6 < 6^f:=by
     rw[jw ab];rw[ac]at J;omega
    have I:mkT f (n.tdiv 6) (s++[chB[(n.tmod 6).toNat]?.getD 97])=mkT 8 (pickI (l[k]'e).1 1000000) []:=by
     rw[<-p,mkT,if_pos hn]
    have a4:(s++[chB[(n.tmod 6).toNat]?.getD 97]).length+f<=8:=by rw[qb];simp only[qe,qu];omega
    have b6:0<=n.tdiv 6/\n.tdiv 6<=1000000:=by rw[jw ab];omega
    have b8:IntKind.i64.wrap (n.tdiv 6)=n.tdiv 6:=aI oo oo;have e1:n.tmod 6=n % 6:=qaa ab;have e2:n.tdiv 6=n / 6:=jw ab;have b5:0<=n.tmod 6:=by rw[e1];omega
    have bg:chB[(n.tmod 6).toNat]? =some (chB[(n.tmod 6).toNat]?.getD 97):=by
     rw[qc (show(n.tmod 6).toNat < chB.length by show _ < 6;rw[e1];omega)];rfl
    refine bri hn ⟨by decide,b5,_,bg,nb rfl,[[.int .u8 ((chB[(n.tmod 6).toNat]?.getD 97).toNat:Int)]],rfl,[chB[(n.tmod 6).toNat]?.getD 97],rfl,?_⟩;refine⟨by show s.length+1<=9223372036854775807;omega,by decide,?_⟩;exact⟨⟨(n.tdiv 6,s++[chB[(n.tmod 6).toNat]?.getD 97],f),b6,bo.2,a4,I⟩,qcm f,leR [] a8 ba rfl ⟨tv,tv⟩ ⟨eu b8.symm,rfl,tv⟩ ⟨Fz.r F,tv⟩⟩
   ·have ap:s=mkT 8 (pickI (l[k]'e).1 1000000) []:=by
     rw[<-p];cases f with
     |zero=>rfl
     |succ f=>rw[mkT,if_neg hn]
    have ao:encN (s,pickI (l[k]'e).2 8)=encN (mkLn (l[k]'e)):=by rw[mkLn,<-ap]
    refine brj hn ?_;refine dwS (lk [0,1,2,3,4,5,6,7] (.alt 8 (.alt 9 (.alt 10 (.alt 11 (.look 12 (.last 13 .done)) .nil) .nil) .nil) .nil)) [3] ?_;refine⟨rfl,u,⟨by omega,Y⟩,⟨by decide,by decide⟩,rfl,_,hB,?_⟩;refine T.2.2.rd1 bk ?_;refine usePt (bz F) ?_;refine⟨Fz.r F,rfl,Fz.r F,rfl,Fz.r F,rfl,nb rfl,[encN (s,pickI (l[k]'e).2 8)],rfl,?_⟩;conv=>whnf
    first
     |refine⟨rfl,rfl,?_⟩
      refine⟨by show 1*24<=140737488355328;omega,fun c' L=>?_⟩
     |refine⟨rfl,rfl,by simp,rfl,(by have h9:Q.length+1=k:=bp;show(Q.length+1+1)*24<=140737488355328;omega),fun c' L=>?_⟩
    clear L;refine⟨Fz.r F,rfl,?_⟩;conv=>whnf
    first
     |exact⟨⟨(k+1,[]++[mkLn (l[k]'e)],c'),e,g.2,az⟩,m,leRn [_,_,_] [_,_] [(4,6)] R S rfl ⟨tv,tH oo,aF aG _ _ _ _ _,tv⟩ ⟨cnt E,tv⟩ ⟨Fz.r F,wF (μ:=sig [(4,6)]) rfl rfl,aQ aG (aZ _ (by rw[ao];simp)),tv⟩⟩
     |exact⟨⟨(k+1,(d0::Q)++[mkLn (l[k]'e)],c'),e,g.2,az⟩,m,leRn [_,_,_] [_,_] [(4,6)] R S rfl ⟨tv,tH oo,aF aG _ _ _ _ _,tv⟩ ⟨cnt E,tv⟩ ⟨Fz.r F,wF (μ:=sig [(4,6)]) rfl rfl,aQ aG (aZ _ (by rw[ao];simp)),tv⟩⟩
 ·have gt:l.take k=l.take 6:=by
   rcases qcf k 6 with h | h
   ·have bl:k=l.length:=by omega
    rw[bl,yp,ql oo]
   ·have h6:k=6:=by omega
    rw[h6]
  rw[gt]at ho;have g6:(k:Int) < (l.length:Int)->¬(k:Int) < 6:=by omega
  clear gt;refine⟨fun Y=>?_,fun Y=>?_⟩
  case' refine_1=>
   refine br (fun h=>absurd (od h) (g6 (od Y))) (fun _=>?_)
  all_goals
   conv=>whnf
   refine aH hΘ (X:={ y:Int×Nat×List Cel×Nat // y.2.1<=x.length/\(0<=y.1/\y.1<=27/\(y.2.2.1.length:Int)<=y.1/\y.2.2.1.length<=y.2.2.2)/\mkC (x.drop y.2.1) y.1 y.2.2.1=mkC x 0 [] }) (fun y=>[(11,.va (.int .i64 y.1.1)),(12,.va (.int .i64 y.1.2.1))]) (13::jr 57 67 [])
    (fun y=>[(0,.frz F),(3,dcE c y.1.2.2.2 o y.1.2.2.1 0 []),(4,gE 148 2 encN c o),(5,gE 151 6 encK y.1.2.2.2 y.1.2.2.1)]) 6 (fun y=>x.length - y.1.2.1) ⟨(0,0,[],0),by simp,⟨by omega,by omega,by simp,by simp⟩,rfl⟩
    (fun R S=>leI [(5,5)] R S rfl ⟨tv,kd oo,aF aG _ _ _ _ _,aF aC _ _ _ _ _,tv⟩ ⟨rfl,rfl,tv⟩ ⟨Fz.r F,nf (fS (μ:=sig [(5,5)]) (i:=4) (j:=4) rfl o) rfl,aQ aG (bF _ _ _ _),rfl,tv⟩) ?_
   rintro⟨⟨d,i,q,cc⟩,hi,aa,p⟩ al am;have Z:0<=d:=aa.1;have cd:d<=27:=aa.2.1;have b4:(q.length:Int)<=d:=aa.2.2.1;have a2:q.length<=cc:=aa.2.2.2;replace hi:i<=x.length:=hi;replace p:mkC (x.drop i) d q=mkC x 0 []:=p;by_cases g2:i < x.length/\d < 25
   ·have gl2:=g2.1;have K:(i:Int) < (x.length:Int):=by omega
    have V:=g2.2;have T:=ai i gl2;have hB:=T.1;have M:=ca (x[i]'gl2) (qx gl2);have bq:=fun F=>fd (x[i]'gl2).1 3 M.1 dd F
    have bu:=fun F=>fd ((x[i]'gl2).1.tdiv 3) 3 (ni M.1) dd F
    have bs:=fun F=>fd (x[i]'gl2).2.1 201 M.2.1 dd F
    have e1:d.tdiv 5=d / 5:=jw Z;have e2:d.tmod 5=d % 5:=qaa Z;have b0:=fun F=>fd (x[i]'gl2).2.1 (d.tdiv 5+1) M.2.1 (by rw[e1];omega) F
    have bx:=fun F=>fd (x[i]'gl2).2.2 (d.tmod 5+1) M.2.2 (by rw[e2];omega) F
    have u:n2=false:=Sl.lt b9 gl2;have ar:(o2+(i:Int).toNat*3)*1+(0+(0:Int).toNat*1)=o2+i*3:=by rw[qn];omega
    have au:(o2+(i:Int).toNat*3)*1+(0+(1:Int).toNat*1)=o2+i*3+1:=by rw[qn];omega
    have bi:(o2+(i:Int).toNat*3)*1+(0+(2:Int).toNat*1)=o2+i*3+2:=by rw[qn];omega
    have m:x.length - (i+1) < x.length - i:=by omega
    have ce:=dP ((x[i]'gl2).1.tdiv 3) 3 dd (ni M.1)
    have I:mkC (x.drop (i+1)) (d+1+pickI ((x[i]'gl2).1.tdiv 3) 3) (q++[cellOf d (x[i]'gl2)])=mkC x 0 []:=by
     rw[<-p,jj gl2,mkC,if_pos V]
    have aj:IntKind.i64.wrap (d.tdiv 5)=d.tdiv 5:=aI oo oo;have a6:d.tdiv 5+1=IntKind.i64.wrap (IntKind.i64.wrap (d.tdiv 5)+1):=by rw[aj];exact(aI oo oo).symm
    have a5:d.tmod 5+1=IntKind.i64.wrap (d.tmod 5+1):=(aI oo oo).symm
    have bd:pickI (x[i]'gl2).1 3=0->∀ρ,(encK (cellOf d (x[i]'gl2))).map (SA.den ρ)=[SA.int .i64 (IntKind.i64.wrap (d.tdiv 5)),.int .i64 (d.tmod 5),.lit true,.int .i64 0,.int .i64 (pickI (x[i]'gl2).2.1 (d.tdiv 5+1)),.int .i64 (pickI (x[i]'gl2).2.2 (d.tmod 5+1))].map (SA.den ρ):=fun h ρ=>by
     rw[cellOf,if_pos h,aj];rfl
    have bt:=dP (x[i]'gl2).2.1 201 dd M.2.1
    have be:¬pickI (x[i]'gl2).1 3=0->∀ρ,(encK (cellOf d (x[i]'gl2))).map (SA.den ρ)=[SA.int .i64 (IntKind.i64.wrap (d.tdiv 5)),.int .i64 (d.tmod 5),.lit false,.int .i64 (IntKind.i64.wrap (pickI (x[i]'gl2).2.1 201 - 100)),.int .i64 0,.int .i64 0].map (SA.den ρ):=fun h ρ=>by
     rw[cellOf,if_neg h,aj,aI oo oo];rfl
    have a7:(x[i]'gl2).1.tdiv 3=IntKind.i64.wrap ((x[i]'gl2).1.tdiv 3):=by
     have:=ni M.1;unfold i64 at this;exact(aI oo oo).symm
    have aw:d+1+pickI ((x[i]'gl2).1.tdiv 3) 3=IntKind.i64.wrap (IntKind.i64.wrap (d+1)+pickI ((x[i]'gl2).1.tdiv 3) 3):=by rw[aI (n:=d+1) oo oo,aI oo oo]
    have aq:((i+1:Nat):Int)=IntKind.i64.wrap ((i:Int)+1):=by rw[aI oo oo];rfl
    have G:∀c',q.length+1<=c'->0<=d+1+pickI ((x[i]'gl2).1.tdiv 3) 3/\d+1+pickI ((x[i]'gl2).1.tdiv 3) 3<=27/\((q++[cellOf d (x[i]'gl2)]).length:Int)<=d+1+pickI ((x[i]'gl2).1.tdiv 3) 3/\(q++[cellOf d (x[i]'gl2)]).length<=c':=fun c' h=>by
     rw[qb];refine⟨by omega,by omega,?_,h⟩;show((q.length+1:Nat):Int)<=_;omega
    clear p;rcases q with _ | ⟨d0,Q⟩
    all_goals
     refine⟨fun _=>?_,fun h=>absurd K (oe h)⟩;refine bri V ⟨by decide,by decide,u,⟨by omega,K⟩,⟨by decide,by decide⟩,_,hB,?_⟩;refine T.2.1.rd1 ar ?_;refine usePt (bq F) ?_;refine br (fun h3=>?_) (fun h3=>?_)
     case' refine_1=>
      refine dwS (lk [0,1,2,3,4,5,6,7] (.alt 8 (.look 9 (.last 10 .done)) .nil)) [6] ?_;refine⟨u,⟨by omega,K⟩,⟨by decide,by decide⟩,rfl,_,hB,?_⟩;refine T.2.2.1.rd1 au ?_;refine⟨rfl,?_⟩;refine usePu (b0 F) rfl ⟨rfl,eu a6,tv⟩ rfl ?_;conv=>whnf
      repeat
       refine⟨Fz.r F,rfl,?_⟩;conv=>whnf
      refine dwS (lk [0,1,2,3,4,5,6,7] (.alt 8 (.look 9 (.last 10 .done)) .nil)) [6] ?_;refine⟨u,⟨by omega,K⟩,⟨by decide,by decide⟩,rfl,_,hB,?_⟩;refine T.2.2.2.rd1 bi ?_;refine⟨rfl,?_⟩;refine usePu (bx F) rfl ⟨rfl,eu a5,tv⟩ rfl ?_;conv=>whnf
      repeat
       refine⟨Fz.r F,rfl,?_⟩;conv=>whnf
     case' refine_2=>
      refine⟨u,⟨by omega,K⟩,⟨by decide,by decide⟩,_,hB,?_⟩;refine T.2.2.1.rd1 au ?_;refine usePt (bs F) ?_;conv=>whnf
     case' refine_1=>
      have af:=bd (od h3);refine⟨nb rfl,[[SA.int .i64 (IntKind.i64.wrap (d.tdiv 5)),.int .i64 (d.tmod 5),.lit true,.int .i64 0,.int .i64 (pickI (x[i]'gl2).2.1 (d.tdiv 5+1)),.int .i64 (pickI (x[i]'gl2).2.2 (d.tmod 5+1))]],rfl,?_⟩
     case' refine_2=>
      have af:=be (oe h3);refine⟨nb rfl,[[SA.int .i64 (IntKind.i64.wrap (d.tdiv 5)),.int .i64 (d.tmod 5),.lit false,.int .i64 (IntKind.i64.wrap (pickI (x[i]'gl2).2.1 201 - 100)),.int .i64 0,.int .i64 0]],rfl,?_⟩
     all_goals
      conv=>whnf
      first
       |refine⟨rfl,rfl,?_⟩
        refine⟨nb rfl,fun c' L=>?_⟩
       |refine⟨rfl,rfl,by simp,rfl,(by have h9:((Q.length+1:Nat):Int)<=d:=b4;show(Q.length+1+1)*48<=140737488355328;omega),fun c' L=>?_⟩
      refine⟨u,⟨by omega,K⟩,⟨by decide,by decide⟩,_,hB,?_⟩;refine T.2.1.rd1 ar ?_;refine⟨by decide,?_⟩;conv=>whnf
      first
       |refine swapC 8 (.arr 151 6 (((d0::Q)++[cellOf d (x[i]'gl2)]).map encK) c') rfl (swK (q:=d0::Q) rfl rfl af) (cF aC _ _ _ _ _) ?_
       |refine swapC 8 (.arr 151 6 (([]++[cellOf d (x[i]'gl2)]).map encK) c') rfl (swK (q:=[]) rfl rfl af) (cF aC _ _ _ _ _) ?_
      refine usePu (bu F) rfl ⟨eu a7,rfl,tv⟩ rfl ?_;conv=>whnf
      first
       |exact⟨⟨(d+1+pickI ((x[i]'gl2).1.tdiv 3) 3,i+1,(d0::Q)++[cellOf d (x[i]'gl2)],c'),gl2,G c' L,I⟩,m,leR [(5,8)] al am rfl ⟨tv,kd oo,aF aG _ _ _ _ _,aF aC _ _ _ _ _,tv⟩ ⟨eu aw,eu aq,tv⟩ ⟨Fz.r F,nf (fS (μ:=sig [(5,8)]) (i:=4) (j:=4) rfl o) (mC (μ:=sig [(5,8)]) rfl rfl),aQ aG (bF _ _ _ _),aQ aC (aZ (l:=(d0::Q)++[cellOf d (x[i]'gl2)]) _ rfl),tv⟩⟩
       |exact⟨⟨(d+1+pickI ((x[i]'gl2).1.tdiv 3) 3,i+1,[]++[cellOf d (x[i]'gl2)],c'),gl2,G c' L,I⟩,m,leR [(5,8)] al am rfl ⟨tv,kd oo,aF aG _ _ _ _ _,aF aC _ _ _ _ _,tv⟩ ⟨eu aw,eu aq,tv⟩ ⟨Fz.r F,nf (fS (μ:=sig [(5,8)]) (i:=4) (j:=4) rfl o) (mC (μ:=sig [(5,8)]) rfl rfl),aQ aG (bF _ _ _ _),aQ aC (aZ (l:=[]++[cellOf d (x[i]'gl2)]) _ rfl),tv⟩⟩
   ·have b3:q=mkC x 0 []:=by
     rw[<-p];rcases qcf i x.length with h | h
     ·rw[jj h,mkC,if_neg oo]
     ·rw[qbj h];rfl
    clear p;have V:(i:Int) < (x.length:Int)->¬d < 25:=by omega
    have O:D=⟨o,q,(W:Int),mkB (W*(1+H)) N⟩:=by rw[<-hD,madeD,<-ho,<-b3,hW,ae,hN,qn,bc]
    refine⟨fun Y=>?_,fun Y=>?_⟩
    case' refine_1=>
     refine br (fun h=>absurd (od h) (V (od Y))) (fun _=>?_)
    all_goals
     refine⟨⟨by decide,by decide⟩,?_⟩;refine usePt (ac F) ?_;refine⟨⟨by decide,by decide⟩,?_⟩;refine usePt (a1 F) ?_;conv=>whnf
     refine aH hΘ (X:={ j:Nat // j<=W*(1+H) }) (fun y=>[(15,.va (.int .i64 y.1))]) (jr 131 24 [])
      (fun y=>[(0,.frz F),(3,dcE c cc o q W (mkB y.1 N))]) 6 (fun y=>W*(1+H) - y.1) ⟨0,jx _⟩
      (fun R S=>leI [] R S rfl ⟨tv,kd oo,tv⟩ ⟨rfl,tv⟩ ⟨Fz.r F,nf (fS (μ:=sig []) (i:=4) (j:=4) rfl o) (fS (μ:=sig []) (i:=5) (j:=5) rfl q),tv⟩) ?_
     rintro⟨j,hj⟩ a9 bb;by_cases g4:j < W*(1+H)
     ·have ad:(j:Int) < IntKind.i64.wrap ((W:Int)*IntKind.i64.wrap (1+(H:Int))):=by rw[an];omega
      have m:W*(1+H) - (j+1) < W*(1+H) - j:=by omega
      have E:j < 4611686018427387904:=by omega
      have bf:[[SA.int .u8 (IntKind.u8.wrap (IntKind.i64.wrap (48+(shrI IntKind.i64 (N:Int) (j:Int)).tmod 2)))]]=[UInt8.ofNat (48+N / 2^j % 2)].map encB:=by rw[bitN N j oo];rfl
      refine dwS (lk [0,1,2,3,4,5] (.alt 6 (.alt 7 (.look 8 (.look 9 .done)) .nil) .nil)) [1,3] ?_;refine⟨rfl,⟨by decide,by decide⟩,rfl,by decide,?_⟩;refine usePu (ag F) rfl ⟨eu ak,rfl,tv⟩ rfl ?_;conv=>whnf
      repeat
       refine⟨Fz.r F,rfl,rfl,?_⟩;conv=>whnf
      refine bri ad ?_;refine dwS (lk [0,1,2,3,4,5] (.alt 6 (.alt 7 (.alt 8 (.alt 9 (.look 10 (.look 11 (.last 12 .done))) .nil) .nil) .nil) .nil)) [3] ?_;refine⟨rfl,jz j,by decide,?_⟩;conv=>whnf
      repeat
       refine⟨Fz.r F,rfl,?_⟩;conv=>whnf
      refine⟨nb rfl,[[.int .u8 (IntKind.u8.wrap (IntKind.i64.wrap (48+(shrI IntKind.i64 (N:Int) (j:Int)).tmod 2)))]],rfl,[UInt8.ofNat (48+N / 2^j % 2)],bf,Fz.r F,rfl,by rw[p9];show j+1<=9223372036854775807;omega,?_⟩;exact⟨⟨j+1,g4⟩,m,leR [] a9 bb rfl ⟨tv,kd oo,tv⟩ ⟨cnt E,tv⟩ ⟨Fz.r F,yc0 (By j N).symm (fS (μ:=sig []) (i:=4) (j:=4) rfl o) (fS (μ:=sig []) (i:=5) (j:=5) rfl q),tv⟩⟩
     ·have ad:¬(j:Int) < IntKind.i64.wrap ((W:Int)*IntKind.i64.wrap (1+(H:Int))):=by rw[an];omega
      have bj:j=W*(1+H):=by omega
      rw[<-bj]at O;rcases o with _ | ⟨o0,B⟩
      all_goals rcases q with _ | ⟨q0,qr⟩
      all_goals
       refine dwS (lk [0,1,2,3,4,5] (.alt 6 (.alt 7 (.look 8 (.look 9 .done)) .nil) .nil)) [1,3] ?_;refine⟨rfl,⟨by decide,by decide⟩,rfl,by decide,?_⟩;refine usePu (ag F) rfl ⟨eu ak,rfl,tv⟩ rfl ?_;conv=>whnf
       repeat
        refine⟨Fz.r F,rfl,rfl,?_⟩;conv=>whnf
       refine brj ad ?_;conv=>whnf
      ·refine mN (out':=.ret (.agg [.slice true 0 0 0 2 0 0,.slice true 0 0 0 6 0 0,.int .i64 (W:Int),.str (mkB j N)])) (fun _ _ h=>h) (Out.bB_ok rfl) ?_;exact endFo (.ret (.agg [.slice true 0 0 0 2 0 0,.slice true 0 0 0 6 0 0,.int .i64 (W:Int),.str (mkB j N)])) F rfl (Fz.r F) (Fz.r F) (mi O Sl.nil Sl.nil (qi 0)) rfl rfl
      ·refine mN (out':=.ret (.agg [.slice true 0 0 0 2 0 0,.slice false 5 0 0 6 (qr.length+1) cc,.int .i64 (W:Int),.str (mkB j N)])) (fun _ _ h=>h) (Out.bB_ok rfl) ?_;refine cD 5 (fun _=>.arr 151 6 ((q0::qr).map encK) cc) rfl rfl rfl (fun _ _=>by exact cY aC rfl _ _ _ _) (fun _ _=>cF aC _ _ _ _ _) ?_;intro z F1 u1 hz;exact endFo (.ret (.agg [.slice true 0 0 0 2 0 0,.slice false 0 (z 0) 0 6 (qr.length+1) cc,.int .i64 (W:Int),.str (mkB j N)])) F1 rfl u1 (Fz.r F1) (mi O Sl.nil (Sl.new (l:=q0::qr) (hz 0 ⟨rfl,rfl⟩)) a2) rfl rfl
      ·refine mN (out':=.ret (.agg [.slice false 4 0 0 2 (B.length+1) c,.slice true 0 0 0 6 0 0,.int .i64 (W:Int),.str (mkB j N)])) (fun _ _ h=>h) (Out.bB_ok rfl) ?_;refine cD 4 (fun _=>.arr 148 2 ((o0::B).map encN) c) rfl rfl rfl (fun _ _=>by exact cY aG rfl _ _ _ _) (fun _ _=>cF aG _ _ _ _ _) ?_;intro z F1 u1 hz;exact endFo (.ret (.agg [.slice false 0 (z 0) 0 2 (B.length+1) c,.slice true 0 0 0 6 0 0,.int .i64 (W:Int),.str (mkB j N)])) F1 rfl u1 (Fz.r F1) (mi O (Sl.new (l:=o0::B) (hz 0 ⟨rfl,rfl⟩)) Sl.nil (qi 0)) rfl rfl
      ·refine cD 4 (fun _=>.arr 148 2 ((o0::B).map encN) c) rfl rfl rfl (fun _ _=>by exact cY aG rfl _ _ _ _) (fun _ _=>cF aG _ _ _ _ _) ?_;intro z F1 u1 hz;refine cD 5 (fun _=>.arr 151 6 ((q0::qr).map encK) cc) rfl rfl rfl (fun _ _=>by exact cY aC rfl _ _ _ _) (fun _ _=>cF aC _ _ _ _ _) ?_;intro y F2 u2 hy;exact endFo (.ret (.agg [.slice false 0 (z 0) 0 2 (B.length+1) c,.slice false 0 (y 0) 0 6 (qr.length+1) cc,.int .i64 (W:Int),.str (mkB j N)])) F2 rfl (Fz.t u1 u2) (Fz.r F2) (mi O (Sl.new (l:=o0::B) (u2 _ _ (hz 0 ⟨rfl,rfl⟩))) (Sl.new (l:=q0::qr) (hy 0 ⟨rfl,rfl⟩)) a2) rfl rfl
structure CaseAt(F:Fz)(n1 n2 n3:Bool)(b1 o1 b2 o2 b3 o3 l3:Nat)(L:List Stp)(X:List Q3)(r0 r1:Int)(zs:List Int):Prop where
 nl1:n1=true->L=[]
 nl2:n2=true->X=[]
 nl3:n3=true->l3=0
 raw1:RawAt F b1 o1 (ints2 L)
 raw2:RawAt F b2 o2 (ints3 X)
 raw3:RawAt F b3 o3 zs
 i1:∀y∈L,i64 y.1/\i64 y.2
 i2:∀y∈X,i64 y.1/\i64 y.2.1/\i64 y.2.2
 i3:∀z∈zs,i64 z
 r:i64 r0/\i64 r1
 s1:L.length < 9223372036854775808
 s2:X.length < 9223372036854775808
 s3:l3 < 9223372036854775808
 len:zs.length=l3*5
abbrev caseS(h i j:Bool)(a k d b m e c n g f:Nat)(l x:Nat)(o p:Int):List SA:=[.slice h 0 a k 1 l d,.slice i 0 b m 1 x e,.int .i64 o,.int .i64 p,.slice j 0 c n 1 g f]
theorem CaseAt.mono{b:Fz}{g i j:Bool}{k d l e m f:Nat}{L:List Stp}{X:List Q3}{n o:Int}{zs:List Int}(h:CaseAt F g i j c k d l e m f L X n o zs)(a:Fz.le F b):CaseAt b g i j c k d l e m f L X n o zs:=
 { h with raw1:=h.raw1.mono a,raw2:=h.raw2.mono a,raw3:=h.raw3.mono a }
theorem CaseAt.ok{i j k:Bool}{d l e m f g:Nat}{L:List Stp}{X:List Q3}{b c:Int}{zs:List Int}(h:CaseAt F i j k d l e m f n g L X b c zs):docOk (madeD L X b c)=true/\DcSmall (madeD L X b c):=
 Bq (fun y a=>(h.i1 y a).2) (fun y a=>(h.i2 y a).2) (fun y a=>(h.i2 y a).1) h.r.1
theorem A6(F:Fz)(i j x:Bool)(e k n f l p m y u Q:Nat)(L:List Stp)(X:List Q3)(c d:Int)(zs:List Int)(h:CaseAt F i j x e k f l m y u L X c d zs):
  Fo prog F 15 [.agg (caseS i j x e k n f l p m y u Q L.length X.length c d)] (fun o A=>∃a b,o=.ret (.agg (docS a b (madeD L X c d).w (madeD L X c d).bits))/\DocAt A a b (madeD L X c d)):=by
 have s:=ya4 F i j e k n f l p L X c d h.nl1 h.nl2 h.raw1 h.raw2 h.i1 h.i2 h.r h.s1 h.s2;obtain⟨D,R⟩:∃D,madeD L X c d=D:=⟨_,rfl⟩
 rw[R]at s ⊢;refine foS func15 ?_;refine useFs s ?_;rintro _ F1 S ⟨a,b,rfl,q⟩;have g:=q;obtain⟨I,B,G,E,O,J,M,K,rfl,rfl,-,-,-⟩:=q;exact endFo (.ret (.agg (docS (.slice I 0 B G 2 D.lines.length E) (.slice O 0 J M 6 D.cells.length K) D.w D.bits))) F1 rfl S (Fz.r F1) ⟨_,_,rfl,g⟩ rfl rfl
