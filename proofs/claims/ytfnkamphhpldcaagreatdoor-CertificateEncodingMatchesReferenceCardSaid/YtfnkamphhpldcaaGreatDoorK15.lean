import Derived.Test.YtfnkamphhpldcaaGreatDoorK14
set_option maxHeartbeats 64000000
namespace Go.Proofs.YtfnkamphhpldcaaGreatDoor
open Go Sx Tryz
set_option maxRecDepth 100000
def iA(i c:Nat):List Int->SA
 |[]=>.nilsl
 |_::r=>.slice false i 0 0 1 (r.length+1) c
def iE(c:Nat)(s:List Int):Ent:=.opt (!s.isEmpty) (.arr 3 1 (s.map encI) c)
def oA(i c:Nat):List Stp->SA
 |[]=>.nilsl
 |_::r=>.slice false i 0 0 2 (r.length+1) c
def oE(c:Nat)(s:List Stp):Ent:=.opt (!s.isEmpty) (.arr 56 2 (s.map enc) c)
variable {μ:Mu}
theorem cI{i j:Nat}(h:μ i 0=(j,0))(c:Nat)(s:List Int):(iA i c s).ren μ=iA j c s:=by
 cases s with
 |nil=>rfl
 |cons x r=>simp only[iA,SA.ren,h]
theorem iW{a b c d e f g h c' i e' j:SA}(h1:a=g)(k:b=h)(l:c=c')(m:d=i)(n:e=e')(o:f=j):
  SB.cells 265 [.nilsl,a,b,c,d,e,f]=SB.cells 265 [.nilsl,g,h,c',i,e',j]:=by subst h1 k l m n o;rfl
theorem ydb(μ:Mu)(c:Nat)(s:List Int):(iE c s).ren μ=iE c s:=by
 show Ent.opt _ (SB.ren μ _)=_;rw[ej];rfl
variable {s:List Int}{c:Nat}
theorem aU{x:Option Ent}(h:subE x (iE c s)):subE x ((iE c s).ren μ):=by rw[ydb];exact h
theorem aY(c:Nat)(s:List Int):subE (some (iE c s)) (iE c s):=⟨rfl,rfl⟩
theorem i7(L:List (List SA))(h:L=s.map encI):subE (some (.one (.arr 3 1 L c))) (iE c s):=by rw[h];exact rfl
theorem bU(n c:Nat)(s:List Int):(iE c s).below n:=ef n s c
theorem Be{n i:Nat}(h:i < n)(c:Nat)(s:List Int):(iA i c s).below n:=by
 cases s with
 |nil=>trivial
 |cons x r=>exact .inr h
theorem xU(c d e f g h:Nat)(i j k l m n:List Int):(SB.cells 265 [.nilsl,iA 2 c i,iA 3 d j,iA 4 e k,iA 5 f l,iA 6 g m,iA 7 h n]).below 8:=by
 intro a b;simp only[qh,qq,or_false]at b;rcases b with rfl | rfl | rfl | rfl | rfl | rfl | rfl
 ·trivial
 all_goals exact Be oo _ _
theorem i6{i j:Nat}(h:μ i 0=(j,0))(c n:Nat)(s:List Int)(ν:Int)(a:n=s.length+1):SA.slice false j 0 0 1 n c=(iA i c (s++[ν])).ren μ:=by
 rw[cI h,a];cases s with
 |nil=>rfl
 |cons x r=>simp[iA]
variable {κ:Int}{l:List Stp}
theorem iH{k:Nat}{ν:Int}(a:s=sel κ (l.take k))(g:k < l.length)(h:l[k]=(κ,ν)):s++[ν]=sel κ (l.take (k+1)):=by
 rw[ry κ l k g (by rw[h]),a,h]
theorem cM{b:Int}{k:Nat}{ν:Int}(c:s=sel κ (l.take k))(g:k < l.length)(h:l[k]=(b,ν))(a:b≠κ):s=sel κ (l.take (k+1)):=by
 rw[sD κ l k g (by rw[h];exact a),c]
theorem qG{k:Nat}(a:s=sel κ (l.take k)):s.length<=k:=by
 rw[a];have:=nC κ (l.take k);rw[qk]at this;omega
def piece(κ:Int)(s:List Int):List Stp:=if s=[]then []else if κ=3 then [(3,mx s)]else if κ=5 then(s.take 5).map (fun n=>(5,n))else [(κ,mn s)]
def pieces(a b c d e:List Int):List (List Stp):=[[],piece 1 a,piece 2 b,piece 3 c,piece 4 d,piece 5 e,[]]
def normS(l:List Stp):List Stp:=if sel 6 l=[]then(pieces (sel 1 l) (sel 2 l) (sel 3 l) (sel 4 l) (sel 5 l)).flatten else [(6,0)]
theorem iv{a b c d e:List Int}{k:Nat}{out:List Stp}(p:List Stp)(h:out=((pieces a b c d e).take k).flatten)(f:(pieces a b c d e)[k]? =some p):out++p=((pieces a b c d e).take (k+1)).flatten:=by
 have i:=(qg.1 f).1;have g:=(qg.1 f).2;rw[jC i,g,h]
theorem jW(κ:Int)(s:List Int):(piece κ s).length<=5:=by
 unfold piece;split
 ·simp
 ·split
  ·simp
  ·split
   ·simp;omega
   ·simp
theorem n8(a b c d e:List Int)(k:Nat):((pieces a b c d e).take k).flatten.length<=100:=by
 refine q8 (ij _ k) ?_;have h1:=jW 1 a;have f:=jW 2 b;have g:=jW 3 c;have h:=jW 4 d;have i:=jW 5 e;simp only[pieces,jm,qaj,qb,qu];omega
theorem Ef(x:Int)(r:List Int):piece 5 (x::r)=((x::r).take 5).map (fun n=>(5,n)):=by simp[piece]
theorem oG{x:Int}{r:List Int}(a:κ≠3)(b:κ≠5):piece κ (x::r)=[(κ,mn (x::r))]:=by simp[piece,a,b]
theorem eq{i j:Nat}(h:μ i 0=(j,0))(c n:Nat)(s:List Stp)(t:Stp)(a:n=s.length+1):atomE ((oA i c (s++[t])).ren μ) (SA.slice false j 0 0 2 n c):=by
 subst a;cases s with
 |nil=>simp only[oA,qv,SA.ren,h];exact⟨rfl,rfl,rfl,.inr ⟨rfl,rfl,rfl,rfl⟩⟩
 |cons x r=>simp only[oA,yd,SA.ren,h];exact⟨rfl,by simp,rfl,.inr ⟨rfl,rfl,rfl,rfl⟩⟩
theorem ydn(μ:Mu)(c:Nat)(s:List Stp):(oE c s).ren μ=oE c s:=by
 show Ent.opt _ (SB.ren μ _)=_;rw[gO];rfl
theorem bE{x:Option Ent}{s:List Stp}(h:subE x (oE c s)):subE x ((oE c s).ren μ):=by rw[ydn];exact h
theorem eB{s:List Stp}(L:List (List SA))(h:L=s.map enc):subE (some (.one (.arr 56 2 L c))) (oE c s):=by rw[h];exact rfl
theorem bW(c:Nat)(s:List Stp):subE (some (oE c s)) (oE c s):=⟨rfl,rfl⟩
theorem bD(n c:Nat)(s:List Stp):(oE c s).below n:=fJ n s c
structure N1(l:List Stp)(k:Nat)(s1 s2 s3 s4 s5 s6:List Int)(c5:Nat):Prop where
 hk:k<=l.length
 h1:s1=sel 1 (l.take k)
 h2:s2=sel 2 (l.take k)
 h3:s3=sel 3 (l.take k)
 h4:s4=sel 4 (l.take k)
 h5:s5=sel 5 (l.take k)
 h6:s6=sel 6 (l.take k)
 h7:s5.length<=c5
abbrev LC:=List Int×Nat
abbrev X1(l:List Stp):={ x:Nat×LC×LC×LC×LC×LC×LC // N1 l x.1 x.2.1.1 x.2.2.1.1 x.2.2.2.1.1 x.2.2.2.2.1.1 x.2.2.2.2.2.1.1 x.2.2.2.2.2.2.1 x.2.2.2.2.2.1.2 }
theorem brF{b:Bool}{x y:Prop}(h:b=false)(k:y):Br b x y:=br (fun g=>absurd (h.symm.trans g) dd) fun _=>k
theorem brT{b:Bool}{x y:Prop}(h:b=true)(k:x):Br b x y:=br (fun _=>k) fun g=>absurd (h.symm.trans g) dd
theorem cs7(k:Nat)(h:k < 7)(b c d e f:List Int):(k=0\/(k=1/\b=[])\/(k=2/\c=[])\/(k=3/\d=[])\/(k=4/\e=[])\/(k=5/\f=[])\/k=6)\/
  ((k=1/\∃x r,b=x::r)\/(k=2/\∃x r,c=x::r)\/(k=3/\∃x r,d=x::r)\/(k=4/\∃x r,e=x::r))\/(k=5/\∃x r,f=x::r):=by
 have a:∀s:List Int,s=[]\/∃x r,s=x::r:=fun s=>by cases s<;>simp
 have i:=a b;have j:=a c;have l:=a d;have m:=a e;have n:=a f;have g:k=0\/k=1\/k=2\/k=3\/k=4\/k=5\/k=6:=by omega
 clear a
 grind
theorem vH(F:Fz)(sl:SA)(ls:List (List Stp))(hs:mZ F sl ls)(hn:ls.length < 1000)(hl:ls.flatten.length < 100000)(R:∀s∈ls.flatten,1<=s.1/\s.1<=6):
  Fo prog F 132 [.va sl] (fun o Q=>∃sc,o=.ret (.va sc)/\aW Q sc (normS ls.flatten)):=by
 have hc:=EV F sl ls hs hn oo;obtain⟨l,au⟩:∃l,l=ls.flatten:=⟨_,rfl⟩
 rw[<-au]at hl R hc ⊢;obtain⟨sn,sb,se,a9,sL,sr,rfl,A,B,D,E⟩:=hs;refine foS func132 ?_;refine useFs (hc) ?_;rintro _ F1 l1 ⟨sa,rfl,ha⟩;conv=>whnf
 obtain⟨a0,ay,aq,az,ap,a7,rfl,aj,an,ax,ao⟩:=ha
 conv=>whnf
 refine aH hΘ (X:=X1 l) (fun x=>[(14,.va (.int .i64 x.1.1))]) (5::jr 15 15 [])
  (fun x=>[(0,.frz F1),(1,.one (.cells 265 [.nilsl,iA 2 x.1.2.1.2 x.1.2.1.1,iA 3 x.1.2.2.1.2 x.1.2.2.1.1,iA 4 x.1.2.2.2.1.2 x.1.2.2.2.1.1,iA 5 x.1.2.2.2.2.1.2 x.1.2.2.2.2.1.1,iA 6 x.1.2.2.2.2.2.1.2 x.1.2.2.2.2.2.1.1,iA 7 x.1.2.2.2.2.2.2.2 x.1.2.2.2.2.2.2.1])),
   (2,iE x.1.2.1.2 x.1.2.1.1),(3,iE x.1.2.2.1.2 x.1.2.2.1.1),(4,iE x.1.2.2.2.1.2 x.1.2.2.2.1.1),(5,iE x.1.2.2.2.2.1.2 x.1.2.2.2.2.1.1),(6,iE x.1.2.2.2.2.2.1.2 x.1.2.2.2.2.2.1.1),(7,iE x.1.2.2.2.2.2.2.2 x.1.2.2.2.2.2.2.1)]) 8 (fun x=>l.length - x.1.1)
  ⟨(0,([],0),([],0),([],0),([],0),([],0),([],0)),⟨by simp,rfl,rfl,rfl,rfl,rfl,rfl,qi 0⟩⟩
  (fun w y=>leI [(2,2),(3,3),(4,4),(5,5),(6,6),(7,7)] w y rfl ?_ ⟨rfl,tv⟩ ⟨Fz.r F1,rfl,rfl,rfl,rfl,rfl,rfl,rfl,tv⟩) ?_
 ·exact⟨tv,xU _ _ _ _ _ _ _ _ _ _ _ _,bU _ _ _,bU _ _ _,bU _ _ _,bU _ _ _,bU _ _ _,bU _ _ _,tv⟩
 rintro⟨⟨k,⟨A,c1⟩,⟨B,c2⟩,⟨D,c3⟩,⟨E,c4⟩,⟨J,c5⟩,⟨V,c6⟩⟩,hk,h1,O,Y,Z,U,h6,h7⟩ w y;refine br (fun gb=>?_) (fun gb=>?_)
 ·have c:k < l.length:=by simpa using gb
  clear gb;have hκ:=R l[k] (qx c);have d:∃κ ν,l[k]=(κ,ν):=⟨_,_,rfl⟩
  obtain⟨κ,ν,d⟩:=d;rw[d]at hκ;replace hκ:1<=κ/\κ<=6:=hκ;refine⟨Sl.lt aj c,⟨by simp,by simpa using c⟩,_,an (Sl.lt aj c),?_⟩;conv=>whnf
  have ak:ap[aq+(k:Int).toNat]? =some (enc (κ,ν)):=(Sl.at ao c).trans (by rw[d]);refine⟨_,ak,?_⟩
  have hN:∀(κ:Int) (s:List Int),s=sel κ (l.take k)->s=[]\/∃x r,s=x::r/\r.length+1<=k:=fun κ s h=>by
   have O:=qG h;rcases s with _ | ⟨x,r⟩
   ·exact .inl rfl
   ·exact .inr ⟨x,r,rfl,O⟩
  have ae:(κ=1/\A=[])\/(κ=1/\∃x r,A=x::r/\r.length+1<=k)\/(κ=2/\B=[])\/(κ=2/\∃x r,B=x::r/\r.length+1<=k)\/(κ=3/\D=[])\/(κ=3/\∃x r,D=x::r/\r.length+1<=k)\/(κ=4/\E=[])\/(κ=4/\∃x r,E=x::r/\r.length+1<=k)\/(κ=5/\J=[])\/(κ=5/\∃x r,J=x::r/\r.length+1<=k)\/(κ=6/\V=[])\/(κ=6/\∃x r,V=x::r/\r.length+1<=k):=by
   have a8:κ=1\/κ=2\/κ=3\/κ=4\/κ=5\/κ=6:=by omega
   have n1:=hN 1 A h1;have n2:=hN 2 B O;have n3:=hN 3 D Y;have n4:=hN 4 E Z;have n5:=hN 5 J U;have n6:=hN 6 V h6;clear hN ak d h1 O Y Z U h6 h7;simp only[<-and_or_left,<-or_assoc]at*
   grind
  have p:l.length - (k+1) < l.length - k:=by omega
  have u:k < 4611686018427387904:=by omega
  have m:∀a1 a2 a3 a4 a5 a6 b1 b2 b3 b4 b5 b6,bH 8 [(0,.frz F1),(1,.one (.cells 265 [.nilsl,iA 2 a1 b1,iA 3 a2 b2,iA 4 a3 b3,iA 5 a4 b4,iA 6 a5 b5,iA 7 a6 b6])),(2,iE a1 b1),(3,iE a2 b2),(4,iE a3 b3),(5,iE a4 b4),(6,iE a5 b5),(7,iE a6 b6)]:=
   fun _ _ _ _ _ _ _ _ _ _ _ _=>⟨tv,xU _ _ _ _ _ _ _ _ _ _ _ _,bU _ _ _,bU _ _ _,bU _ _ _,bU _ _ _,bU _ _ _,bU _ _ _,tv⟩
  clear hN;rcases ae with⟨rfl,rfl⟩ | ⟨rfl,x,r,rfl,G⟩ | ⟨rfl,rfl⟩ | ⟨rfl,x,r,rfl,G⟩ | ⟨rfl,rfl⟩ | ⟨rfl,x,r,rfl,G⟩ | ⟨rfl,rfl⟩ | ⟨rfl,x,r,rfl,G⟩ | ⟨rfl,rfl⟩ | ⟨rfl,x,r,rfl,G⟩ | ⟨rfl,rfl⟩ | ⟨rfl,x,r,rfl,G⟩
  all_goals
   refine dwS (lk [0,1,2,3,4,5,6,7] (.alt 8 (.alt 9 (.look 10 (.last 11 .done)) .nil) .nil)) [1,8] ?_;conv=>whnf
   repeat' ((conv=>whnf);first
    |refine⟨rfl,?_⟩
    |refine⟨Fz.r _,rfl,?_⟩
    |refine⟨Fz.r _,rfl,rfl,?_⟩
    |refine⟨⟨by simp,by simp⟩,?_⟩
    |fail)
   refine⟨qi 1,[encI ν],rfl,?_⟩;conv=>whnf
   first
   |refine⟨rfl,rfl,by show 1*8<=140737488355328;omega,fun c' hc=>?_⟩
   |refine⟨rfl,rfl,by simp,rfl,by show(r.length+1+1)*8<=140737488355328;omega,fun c' hc=>?_⟩
   repeat' ((conv=>whnf);first
    |refine⟨rfl,?_⟩
    |refine⟨Fz.r _,rfl,?_⟩
    |refine⟨Fz.r _,rfl,rfl,?_⟩
    |refine⟨⟨by simp,by simp⟩,?_⟩
    |fail)
   conv=>whnf
   first
   |exact⟨⟨(k+1,(_++[ν],c'),(B,c2),(D,c3),(E,c4),(J,c5),(V,c6)),⟨c,iH h1 c d,cM O c d dd,cM Y c d dd,cM Z c d dd,cM U c d dd,cM h6 c d dd,h7⟩⟩,p,leR [(2,10),(3,3),(4,4),(5,5),(6,6),(7,7)] w y rfl (m _ _ _ _ _ _ _ _ _ _ _ _) ⟨cnt u,tv⟩ ⟨Fz.r F1,iW (i6 (μ:=sig [(2,10),(3,3),(4,4),(5,5),(6,6),(7,7)]) (i:=2) (j:=10) rfl c' _ _ ν rfl) (cI (μ:=sig [(2,10),(3,3),(4,4),(5,5),(6,6),(7,7)]) (i:=3) (j:=3) rfl _ _).symm (cI (μ:=sig [(2,10),(3,3),(4,4),(5,5),(6,6),(7,7)]) (i:=4) (j:=4) rfl _ _).symm (cI (μ:=sig [(2,10),(3,3),(4,4),(5,5),(6,6),(7,7)]) (i:=5) (j:=5) rfl _ _).symm (cI (μ:=sig [(2,10),(3,3),(4,4),(5,5),(6,6),(7,7)]) (i:=6) (j:=6) rfl _ _).symm (cI (μ:=sig [(2,10),(3,3),(4,4),(5,5),(6,6),(7,7)]) (i:=7) (j:=7) rfl _ _).symm,aU (i7 _ ss),aU (aY _ _),aU (aY _ _),aU (aY _ _),aU (aY _ _),aU (aY _ _),tv⟩⟩
   |exact⟨⟨(k+1,(A,c1),(_++[ν],c'),(D,c3),(E,c4),(J,c5),(V,c6)),⟨c,cM h1 c d dd,iH O c d,cM Y c d dd,cM Z c d dd,cM U c d dd,cM h6 c d dd,h7⟩⟩,p,leR [(2,2),(3,10),(4,4),(5,5),(6,6),(7,7)] w y rfl (m _ _ _ _ _ _ _ _ _ _ _ _) ⟨cnt u,tv⟩ ⟨Fz.r F1,iW (cI (μ:=sig [(2,2),(3,10),(4,4),(5,5),(6,6),(7,7)]) (i:=2) (j:=2) rfl _ _).symm (i6 (μ:=sig [(2,2),(3,10),(4,4),(5,5),(6,6),(7,7)]) (i:=3) (j:=10) rfl c' _ _ ν rfl) (cI (μ:=sig [(2,2),(3,10),(4,4),(5,5),(6,6),(7,7)]) (i:=4) (j:=4) rfl _ _).symm (cI (μ:=sig [(2,2),(3,10),(4,4),(5,5),(6,6),(7,7)]) (i:=5) (j:=5) rfl _ _).symm (cI (μ:=sig [(2,2),(3,10),(4,4),(5,5),(6,6),(7,7)]) (i:=6) (j:=6) rfl _ _).symm (cI (μ:=sig [(2,2),(3,10),(4,4),(5,5),(6,6),(7,7)]) (i:=7) (j:=7) rfl _ _).symm,aU (aY _ _),aU (i7 _ ss),aU (aY _ _),aU (aY _ _),aU (aY _ _),aU (aY _ _),tv⟩⟩
   |exact⟨⟨(k+1,(A,c1),(B,c2),(_++[ν],c'),(E,c4),(J,c5),(V,c6)),⟨c,cM h1 c d dd,cM O c d dd,iH Y c d,cM Z c d dd,cM U c d dd,cM h6 c d dd,h7⟩⟩,p,leR [(2,2),(3,3),(4,10),(5,5),(6,6),(7,7)] w y rfl (m _ _ _ _ _ _ _ _ _ _ _ _) ⟨cnt u,tv⟩ ⟨Fz.r F1,iW (cI (μ:=sig [(2,2),(3,3),(4,10),(5,5),(6,6),(7,7)]) (i:=2) (j:=2) rfl _ _).symm (cI (μ:=sig [(2,2),(3,3),(4,10),(5,5),(6,6),(7,7)]) (i:=3) (j:=3) rfl _ _).symm (i6 (μ:=sig [(2,2),(3,3),(4,10),(5,5),(6,6),(7,7)]) (i:=4) (j:=10) rfl c' _ _ ν rfl) (cI (μ:=sig [(2,2),(3,3),(4,10),(5,5),(6,6),(7,7)]) (i:=5) (j:=5) rfl _ _).symm (cI (μ:=sig [(2,2),(3,3),(4,10),(5,5),(6,6),(7,7)]) (i:=6) (j:=6) rfl _ _).symm (cI (μ:=sig [(2,2),(3,3),(4,10),(5,5),(6,6),(7,7)]) (i:=7) (j:=7) rfl _ _).symm,aU (aY _ _),aU (aY _ _),aU (i7 _ ss),aU (aY _ _),aU (aY _ _),aU (aY _ _),tv⟩⟩
   |exact⟨⟨(k+1,(A,c1),(B,c2),(D,c3),(_++[ν],c'),(J,c5),(V,c6)),⟨c,cM h1 c d dd,cM O c d dd,cM Y c d dd,iH Z c d,cM U c d dd,cM h6 c d dd,h7⟩⟩,p,leR [(2,2),(3,3),(4,4),(5,10),(6,6),(7,7)] w y rfl (m _ _ _ _ _ _ _ _ _ _ _ _) ⟨cnt u,tv⟩ ⟨Fz.r F1,iW (cI (μ:=sig [(2,2),(3,3),(4,4),(5,10),(6,6),(7,7)]) (i:=2) (j:=2) rfl _ _).symm (cI (μ:=sig [(2,2),(3,3),(4,4),(5,10),(6,6),(7,7)]) (i:=3) (j:=3) rfl _ _).symm (cI (μ:=sig [(2,2),(3,3),(4,4),(5,10),(6,6),(7,7)]) (i:=4) (j:=4) rfl _ _).symm (i6 (μ:=sig [(2,2),(3,3),(4,4),(5,10),(6,6),(7,7)]) (i:=5) (j:=10) rfl c' _ _ ν rfl) (cI (μ:=sig [(2,2),(3,3),(4,4),(5,10),(6,6),(7,7)]) (i:=6) (j:=6) rfl _ _).symm (cI (μ:=sig [(2,2),(3,3),(4,4),(5,10),(6,6),(7,7)]) (i:=7) (j:=7) rfl _ _).symm,aU (aY _ _),aU (aY _ _),aU (aY _ _),aU (i7 _ ss),aU (aY _ _),aU (aY _ _),tv⟩⟩
   |exact⟨⟨(k+1,(A,c1),(B,c2),(D,c3),(E,c4),(_++[ν],c'),(V,c6)),⟨c,cM h1 c d dd,cM O c d dd,cM Y c d dd,cM Z c d dd,iH U c d,cM h6 c d dd,by simpa using hc⟩⟩,p,leR [(2,2),(3,3),(4,4),(5,5),(6,10),(7,7)] w y rfl (m _ _ _ _ _ _ _ _ _ _ _ _) ⟨cnt u,tv⟩ ⟨Fz.r F1,iW (cI (μ:=sig [(2,2),(3,3),(4,4),(5,5),(6,10),(7,7)]) (i:=2) (j:=2) rfl _ _).symm (cI (μ:=sig [(2,2),(3,3),(4,4),(5,5),(6,10),(7,7)]) (i:=3) (j:=3) rfl _ _).symm (cI (μ:=sig [(2,2),(3,3),(4,4),(5,5),(6,10),(7,7)]) (i:=4) (j:=4) rfl _ _).symm (cI (μ:=sig [(2,2),(3,3),(4,4),(5,5),(6,10),(7,7)]) (i:=5) (j:=5) rfl _ _).symm (i6 (μ:=sig [(2,2),(3,3),(4,4),(5,5),(6,10),(7,7)]) (i:=6) (j:=10) rfl c' _ _ ν rfl) (cI (μ:=sig [(2,2),(3,3),(4,4),(5,5),(6,10),(7,7)]) (i:=7) (j:=7) rfl _ _).symm,aU (aY _ _),aU (aY _ _),aU (aY _ _),aU (aY _ _),aU (i7 _ ss),aU (aY _ _),tv⟩⟩
   |exact⟨⟨(k+1,(A,c1),(B,c2),(D,c3),(E,c4),(J,c5),(_++[ν],c')),⟨c,cM h1 c d dd,cM O c d dd,cM Y c d dd,cM Z c d dd,cM U c d dd,iH h6 c d,h7⟩⟩,p,leR [(2,2),(3,3),(4,4),(5,5),(6,6),(7,10)] w y rfl (m _ _ _ _ _ _ _ _ _ _ _ _) ⟨cnt u,tv⟩ ⟨Fz.r F1,iW (cI (μ:=sig [(2,2),(3,3),(4,4),(5,5),(6,6),(7,10)]) (i:=2) (j:=2) rfl _ _).symm (cI (μ:=sig [(2,2),(3,3),(4,4),(5,5),(6,6),(7,10)]) (i:=3) (j:=3) rfl _ _).symm (cI (μ:=sig [(2,2),(3,3),(4,4),(5,5),(6,6),(7,10)]) (i:=4) (j:=4) rfl _ _).symm (cI (μ:=sig [(2,2),(3,3),(4,4),(5,5),(6,6),(7,10)]) (i:=5) (j:=5) rfl _ _).symm (cI (μ:=sig [(2,2),(3,3),(4,4),(5,5),(6,6),(7,10)]) (i:=6) (j:=6) rfl _ _).symm (i6 (μ:=sig [(2,2),(3,3),(4,4),(5,5),(6,6),(7,10)]) (i:=7) (j:=10) rfl c' _ _ ν rfl),aU (aY _ _),aU (aY _ _),aU (aY _ _),aU (aY _ _),aU (aY _ _),aU (i7 _ ss),tv⟩⟩
 ·have c:k=l.length:=by have g1:¬k < l.length:=by simpa using gb
                        have:=hk;omega
  have e1:A=sel 1 l:=by have:=h1;rw[c,yp]at this;exact this
  have e2:B=sel 2 l:=by have:=O;rw[c,yp]at this;exact this
  have e3:D=sel 3 l:=by have:=Y;rw[c,yp]at this;exact this
  have e4:E=sel 4 l:=by have:=Z;rw[c,yp]at this;exact this
  have e5:J=sel 5 l:=by have:=U;rw[c,yp]at this;exact this
  have e6:V=sel 6 l:=by have:=h6;rw[c,yp]at this;exact this
  rcases V with _ | ⟨x6,r6⟩
  ·refine⟨⟨by decide,by decide⟩,brd dd ?_⟩;conv=>whnf
   refine aH hΘ (X:={ x:Nat×List Stp×Nat // x.1<=7/\x.2.1=((pieces A B D E J).take x.1).flatten }) (fun x=>[(6,.va (oA 8 x.1.2.2 x.1.2.1)),(37,.va (.int .i64 x.1.1))]) (7::8::10::jr 38 38 [])
    (fun x=>[(0,.frz F1),(2,iE c1 A),(3,iE c2 B),(4,iE c3 D),(5,iE c4 E),(6,iE c5 J),(8,oE x.1.2.2 x.1.2.1)]) 9 (fun x=>7 - x.1.1) ⟨(0,[],0),by simp⟩
    (fun w y=>leI [(8,8)] w y rfl ⟨tv,bU _ _ _,bU _ _ _,bU _ _ _,bU _ _ _,bU _ _ _,bD _ _ _,tv⟩ ⟨rfl,rfl,tv⟩ ⟨Fz.r F1,aU (aY _ _),aU (aY _ _),aU (aY _ _),aU (aY _ _),aU (aY _ _),rfl,tv⟩) ?_
   rintro⟨⟨k2,out,co⟩,al,f⟩ w y;replace al:k2<=7:=al;replace f:out=((pieces A B D E J).take k2).flatten:=f;refine br (fun W=>?_) (fun W=>?_)
   ·have ad:k2 < 7:=by have:(k2:Int) < 7:=by simpa using W
                       omega
    clear W
    have same:∀k,(pieces A B D E J)[k]? =some []->out=((pieces A B D E J).take k).flatten->out=((pieces A B D E J).take (k+1)).flatten:=fun k h1 O=>by
     have:=iv [] O h1;rwa[qy]at this
    have ar:=cs7 k2 ad A B D E J;have af:out.length<=100:=by rw[f];exact n8 _ _ _ _ _ _
    rcases ar with h | h | h
    ·rcases h with rfl | ⟨rfl,rfl⟩ | ⟨rfl,rfl⟩ | ⟨rfl,rfl⟩ | ⟨rfl,rfl⟩ | ⟨rfl,rfl⟩ | rfl
     all_goals
      have hs:=same _ rfl f;rcases out with _ | ⟨xo,I⟩
      all_goals
       refine⟨⟨by simp,by simp⟩,_,rfl,bre dd ?_⟩;exact⟨⟨(_,_,co),by simp,hs⟩,by simp,leR [(8,8)] w y rfl ⟨tv,bU _ _ _,bU _ _ _,bU _ _ _,bU _ _ _,bU _ _ _,bD _ _ _,tv⟩ ⟨(by first | exact rfl | exact⟨rfl,rfl,rfl,.inr ⟨rfl,rfl,rfl,rfl⟩⟩),rfl,tv⟩ ⟨Fz.r F1,aU (aY _ _),aU (aY _ _),aU (aY _ _),aU (aY _ _),aU (aY _ _),bE (bW _ _),tv⟩⟩
    ·rcases h with⟨rfl,x,r,rfl⟩ | ⟨rfl,x,r,rfl⟩ | ⟨rfl,x,r,rfl⟩ | ⟨rfl,x,r,rfl⟩
     all_goals
      have K:r.length+1<=k:=qG (s:=x::r) (by assumption)
      have L:=by first
       |exact iv [(1,mn (x::r))] f (congrArg some (oG dd dd))
       |exact iv [(2,mn (x::r))] f (congrArg some (oG dd dd))
       |exact iv [(3,mx (x::r))] f rfl
       |exact iv [(4,mn (x::r))] f (congrArg some (oG dd dd))
      rcases out with _ | ⟨xo,I⟩
      all_goals
       refine⟨⟨by simp,by simp⟩,_,rfl,?_⟩;refine br (fun g=>absurd g (by simp;omega)) (fun _=>?_);conv=>whnf
       first | refine brF rfl ?_ | refine brT rfl ?_
       conv=>whnf
       try refine brF rfl ?_
       conv=>whnf
       first
       |refine borrow 2 (fun _=>.arr 3 1 ((x::r).map encI) c1) rfl rfl rfl (fun _ _=>ej _ (x::r) _) (fun _ _=>ef _ _ _) ?_
       |refine borrow 3 (fun _=>.arr 3 1 ((x::r).map encI) c2) rfl rfl rfl (fun _ _=>ej _ (x::r) _) (fun _ _=>ef _ _ _) ?_
       |refine borrow 4 (fun _=>.arr 3 1 ((x::r).map encI) c3) rfl rfl rfl (fun _ _=>ej _ (x::r) _) (fun _ _=>ef _ _ _) ?_
       |refine borrow 5 (fun _=>.arr 3 1 ((x::r).map encI) c4) rfl rfl rfl (fun _ _=>ej _ (x::r) _) (fun _ _=>ef _ _ _) ?_
       intro b Q aw hb
       first
       |refine usePt (ydh Q _ (x::r) (Sl.new (hb 0 ⟨rfl,rfl⟩)) (by simp;omega) ss) ?_
       |refine usePt (ydg Q _ (x::r) (Sl.new (hb 0 ⟨rfl,rfl⟩)) (by simp;omega) ss) ?_
       refine⟨Q,rfl,Fz.r _,rfl,fun _ _ _ _ _ _ h=>h,?_⟩;conv=>whnf
       refine rounds hΘ 2 ?_;refine bre dd ⟨rfl,⟨by decide,by decide⟩,_,rfl,?_⟩;conv=>whnf
       first
       |refine⟨qi 1,[enc (1,mn (x::r))],rfl,?_⟩
       |refine⟨qi 1,[enc (2,mn (x::r))],rfl,?_⟩
       |refine⟨qi 1,[enc (3,mx (x::r))],rfl,?_⟩
       |refine⟨qi 1,[enc (4,mn (x::r))],rfl,?_⟩
       conv=>whnf
       first
       |refine⟨rfl,rfl,by show 1*16<=140737488355328;omega,fun c' hc=>?_⟩
       |refine⟨rfl,rfl,by simp,rfl,by replace af:I.length+1<=100:=af
                                      show(I.length+1+1)*16<=140737488355328;omega,fun c' hc=>?_⟩
       refine brd dd ?_;exact⟨⟨(_,_,c'),by simp,L⟩,by simp,leR [(8,11)] w y rfl ⟨tv,bU _ _ _,bU _ _ _,bU _ _ _,bU _ _ _,bU _ _ _,bD _ _ _,tv⟩ ⟨by first | exact eq (μ:=sig [(8,11)]) (i:=8) (j:=11) rfl c' _ [] (0,0) rfl | exact eq (μ:=sig [(8,11)]) (i:=8) (j:=11) rfl c' _ (xo::I) _ rfl,rfl,tv⟩ ⟨Fz.r F1,aU (aY _ _),aU (aY _ _),aU (aY _ _),aU (aY _ _),aU (aY _ _),bE (eB _ ss),tv⟩⟩
    ·obtain⟨rfl,x,r,rfl⟩:=h;have K:=qG U;replace K:r.length+1<=k:=K;have av:r.length+1<=c5:=h7;have L:=iv ((x::r).take 5 |>.map (fun n=>(5,n))) f (congrArg some (Ef x r));have af:out.length<=100:=by rw[f];exact n8 _ _ _ _ _ _
     refine⟨⟨by simp,by simp⟩,_,rfl,?_⟩;refine br (fun g=>absurd g (by simp;omega)) (fun _=>?_);refine brd ss ?_;refine bre ss ⟨⟨by split<;>omega,by dsimp only;split<;>omega⟩,?_⟩;conv=>whnf
     refine aH hΘ (X:={ q:Nat×List Stp×Nat // q.1<=min (r.length+1) 5/\q.2.1=out++((x::r).take q.1).map (fun n=>(5,n)) }) (fun x=>[(6,.va (oA 9 x.1.2.2 x.1.2.1)),(64,.va (.int .i64 x.1.1))]) (10::jr 65 10 [])
      (fun x=>[(0,.frz F1),(8,.gone),(9,oE x.1.2.2 x.1.2.1)]) 10 (fun x=>min (r.length+1) 5 - x.1.1) ⟨(0,out,co),by simp⟩ ?_ ?_
     ·intro w y;rcases out with _ | ⟨xo,I⟩
      ·exact leI [(9,8)] w y rfl ⟨tv,tv,bD _ _ _,tv⟩ ⟨rfl,rfl,tv⟩ ⟨Fz.r F1,bE (bW _ _),tv⟩
      ·exact leI [(9,8)] w y rfl ⟨tv,tv,bD _ _ _,tv⟩ ⟨⟨rfl,rfl,rfl,.inr ⟨rfl,rfl,rfl,rfl⟩⟩,rfl,tv⟩ ⟨Fz.r F1,bE (bW _ _),tv⟩
     rintro⟨⟨j,oi,ci⟩,hj,S⟩ ah ai;replace hj:j<=min (r.length+1) 5:=hj;replace S:oi=out++((x::r).take j).map (fun n=>(5,n)):=S;have ac:oi.length<=200:=by rw[S,qb,qa,qk];omega
     refine br (fun M=>?_) (fun M=>?_)
     ·have gj:j < min (r.length+1) 5:=by
       simp only[decide_eq_true_eq]at M;split at M<;>omega
      clear M;have ag:j < (x::r).length:=by simp;omega
      have ab:oi++[(5,(x::r)[j])]=out++((x::r).take (j+1)).map (fun n=>(5,n)):=by
       rw[qf ag,qo,<-qj,S];rfl
      have T:∀e:Nat,e=0->((x::r).map encI)[e+(j:Int).toNat]? =some (encI (x::r)[j]):=by
       intro e he;subst he;rw[q9,qn,qt,qc ag];rfl
      rcases oi with _ | ⟨yo,I⟩
      ·refine⟨rfl,⟨by simp,?_⟩,?_⟩
       ·dsimp only;split<;>omega
       refine⟨rfl,_,T _ (by dsimp only;split<;>rfl),qi 1,[enc (5,(x::r)[j])],rfl,rfl,rfl,by show 1*16<=140737488355328;omega,fun c' hc=>?_⟩;exact⟨⟨(j+1,[]++[(5,(x::r)[j])],c'),gj,ab⟩,by show min (r.length+1) 5 - (j+1) < min (r.length+1) 5 - j;omega,leR [(9,11)] ah ai rfl ⟨tv,tv,bD _ _ _,tv⟩ ⟨(eq (μ:=sig [(9,11)]) (i:=9) (j:=11) rfl c' _ ([]) (5,(x::r)[j]) rfl),cnt oo,tv⟩ ⟨Fz.r F1,bE (eB [enc (5,(x::r)[j])] rfl),tv⟩⟩
      ·replace ac:I.length+1<=200:=ac;refine⟨rfl,⟨by simp,?_⟩,?_⟩
       ·dsimp only;split<;>omega
       refine⟨rfl,_,T _ (by dsimp only;split<;>rfl),qi 1,[enc (5,(x::r)[j])],rfl,rfl,rfl,by simp,rfl,by show(I.length+1+1)*16<=140737488355328;omega,fun c' hc=>?_⟩;exact⟨⟨(j+1,yo::I++[(5,(x::r)[j])],c'),gj,ab⟩,by show min (r.length+1) 5 - (j+1) < min (r.length+1) 5 - j;omega,leR [(9,11)] ah ai rfl ⟨tv,tv,bD _ _ _,tv⟩ ⟨(eq (μ:=sig [(9,11)]) (i:=9) (j:=11) rfl c' _ (yo::I) (5,(x::r)[j]) rfl),cnt oo,tv⟩ ⟨Fz.r F1,bE (eB _ ss),tv⟩⟩
     ·have gj:j=min (r.length+1) 5:=by
       simp only[decide_eq_false_iff_not]at M;split at M<;>omega
      have am:oi=((pieces A B D E (x::r)).take 6).flatten:=by
       rw[S,<-L,gj]
       congr 2
       rw[Nat.min_comm,<-qe (a:=x),<-qbh,yp]
      rcases oi with _ | ⟨yo,I⟩
      ·exact⟨⟨(6,[],ci),by simp,am⟩,by show 7 - 6 < 7 - 5;omega,leRn [_,_,_] [_,_] [(8,9)] w y rfl ⟨tv,bU _ _ _,bU _ _ _,bU _ _ _,bU _ _ _,bU _ _ _,bD _ _ _,tv⟩ ⟨rfl,rfl,tv⟩ ⟨Fz.r F1,aU (aY _ _),aU (aY _ _),aU (aY _ _),aU (aY _ _),aU (aY _ _),bE (bW _ _),tv⟩⟩
      ·exact⟨⟨(6,yo::I,ci),by simp,am⟩,by show 7 - 6 < 7 - 5;omega,leRn [_,_,_] [_,_] [(8,9)] w y rfl ⟨tv,bU _ _ _,bU _ _ _,bU _ _ _,bU _ _ _,bU _ _ _,bD _ _ _,tv⟩ ⟨⟨rfl,rfl,rfl,.inr ⟨rfl,rfl,rfl,rfl⟩⟩,rfl,tv⟩ ⟨Fz.r F1,aU (aY _ _),aU (aY _ _),aU (aY _ _),aU (aY _ _),aU (aY _ _),bE (bW _ _),tv⟩⟩
   ·have ad:k2=7:=by have:¬(k2:Int) < 7:=by simpa using W
                     omega
    subst ad
    have aa:out=normS l:=by
     rw[normS,<-e6,if_pos rfl,<-e1,<-e2,<-e3,<-e4,<-e5];exact f
    rcases out with _ | ⟨xo,I⟩
    ·exact endFo (.ret (.va (.slice true 0 0 0 2 0 0))) F1 rfl l1 (Fz.r F1) ⟨_,rfl,by rw[<-aa];exact Sl.nil⟩ ⟨rfl,rfl,rfl⟩ rfl
    ·refine cD 8 (fun _=>.arr 56 2 ((xo::I).map enc) co) rfl rfl rfl (fun _ _=>?_) (fun _ _=>fJ _ _ _) ?_
     ·exact gO _ (xo::I) co
     intro b Q K hb;refine endFo (.ret (.va (.slice false 0 (b 0) 0 2 (I.length+1) co))) Q rfl (Fz.t l1 K) (Fz.r Q) ⟨_,rfl,?_⟩ ⟨rfl,rfl,rfl,.inr ⟨rfl,rfl,rfl,rfl⟩⟩ rfl;rw[<-aa];exact Sl.new (l:=xo::I) (hb 0 ⟨rfl,rfl⟩)
  ·refine⟨⟨by decide,by decide⟩,bre ss ?_⟩;refine dZ 8 (fun _=>.arr 56 2 [enc (6,0)] 1) ?_;intro b Q K hb;refine endFo (.ret (.va (.slice false 0 (b 0) 0 2 1 1))) Q rfl (Fz.t l1 K) (Fz.r Q) ⟨_,rfl,?_⟩ ⟨rfl,rfl,rfl,.inr ⟨rfl,rfl,rfl,rfl⟩⟩ rfl;rw[normS,<-e6,if_neg ss];exact Sl.new (l:=[(6,0)]) (hb 0 rfl)
theorem nZ{p:Int}(h:aN p l=true):∀s∈l,1<=s.1/\s.1<=6:=by
 intro s a;simp only[aN,qd]at h;have:=qp.1 h.2.2 s a;simp only[bA,qd,decide_eq_true_eq]at this;exact this.1
theorem lL{p:Int}(h:aN p l=true):l.length<=64:=by
 simp only[aN,qd,decide_eq_true_eq]at h;exact h.2.1
theorem yb2{F:Fz}{b c':Nat}{a:SA}(e:aW F a l)(h:F b=some (.arr 50 1 [[a]] c)):mZ F (.slice false 0 b 0 1 1 c') [l]:=
 SlR.new (l:=[l]) h rfl fun k x d=>by
  match k,d with
  |0,d=>simp at d;subst d;exact⟨[a],rfl,a,rfl,e⟩
theorem yb3{F:Fz}{b c':Nat}{a e:SA}{g:List Stp}(i:aW F a l)(f:aW F e g)(h:F b=some (.arr 50 1 [[a],[e]] c)):mZ F (.slice false 0 b 0 1 2 c') [l,g]:=
 SlR.new (l:=[l,g]) h rfl fun k x d=>by
  match k,d with
  |0,d=>simp at d;subst d;exact⟨[a],rfl,a,rfl,i⟩
  |1,d=>simp at d;subst d;exact⟨[e],rfl,e,rfl,f⟩
def normR(p:Int)(l:List Stp):List Stp×Int:=if aN p l=true then(normS l,0)else([],70)
def compR(p:Int)(a b:List Stp):List Stp×Int:=if aN p a=true/\aN p b=true then(normS (a++b),0)else([],70)
theorem vG(l:List Stp):(normS l).length<=100:=by
 unfold normS;split
 ·have:=n8 (sel 1 l) (sel 2 l) (sel 3 l) (sel 4 l) (sel 5 l) 7;exact this
 ·simp
theorem ybb(F:Fz)(b:Nat)(a:SA)(l:List Stp)(c c':Nat)(g:aW F a l)(h:F b=some (.arr 50 1 [[a]] c)){p:Int}(d:aN p l=true):
  Fo prog F 132 [.va (.slice false 0 b 0 1 1 c')] (fun o f=>∃e,o=.ret (.va e)/\aW f e (normS l)):=by
 have i:=lL d;have:=vH F _ [l] (yb2 (c':=c') g h) ss (by simp;omega) (by simpa using nZ d);rw[jm,qaj,qy]at this;exact this
theorem ybc(F:Fz)(b:Nat)(a g:SA)(l e:List Stp)(c c':Nat)(m:aW F a l)(f:aW F g e)(h:F b=some (.arr 50 1 [[a],[g]] c)){p:Int}(i:aN p l=true)(d:aN p e=true):
  Fo prog F 132 [.va (.slice false 0 b 0 1 2 c')] (fun o k=>∃j,o=.ret (.va j)/\aW k j (normS (l++e))):=by
 have q:=lL i;have n:=lL d
 have:=vH F _ [l,e] (yb3 (c':=c') m f h) ss (by simp;omega) (by
  intro s hs;simp only[jm,qaj,qy,yf]at hs;rcases hs with hs | hs
  ·exact nZ i s hs
  ·exact nZ d s hs)
 rw[jm,jm,qaj,qy]at this;exact this
theorem ur(F:Fz)(m:SA)(l:List Stp)(p:Int)(d:aW F m l)(K:l.length < 1000000):
  Fo prog F 62 [.va (.int .i64 p),.va m] (fun o u=>∃n,o=.ret (.tup [.va n,.va (.int .i64 (normR p l).2)])/\aW u n (normR p l).1):=by
 have M:=lT F m l p d K;have f:=d;obtain⟨k,h,j,i,G,I,rfl,A,B,D,E⟩:=d;refine foS func62 ?_;refine usePs (M) ?_;refine br (fun g=>?_) (fun g=>?_)
 ·have c:aN p l=false:=not_t g;have e:normR p l=([],70):=by simp[normR,c]
  exact endFo (.ret (.tup [.va (.slice true 0 0 0 2 0 0),.va (.int .i64 70)])) F rfl (Fz.r F) (Fz.r F) ⟨_,by rw[e],by rw[e];exact Sl.nil⟩ ⟨⟨rfl,rfl,rfl⟩,rfl,tv⟩ rfl
 ·have c:aN p l=true:=by simpa using g
  have e:normR p l=(normS l,0):=by simp[normR,c]
  refine bS 1 (fun _=>.arr 50 1 [[.slice k 0 h j 2 l.length i]] 1) ?_;intro b F1 s J;refine useFs (ybb F1 (b 0) _ l 1 1 (f.mono s) (J 0 rfl) c) ?_;rintro _ q O ⟨n,rfl,a⟩;conv=>whnf
  have L:=a;obtain⟨Q,w,y,x,R,S,rfl,_⟩:=L;exact endFo (.ret (.tup [.va (.slice Q 0 w y 2 (normS l).length x),.va (.int .i64 0)])) q rfl (Fz.t s O) (Fz.r q) ⟨_,by rw[e],by rw[e];exact a⟩ ⟨⟨rfl,rfl,rfl,.inr ⟨rfl,rfl,rfl,rfl⟩⟩,rfl,tv⟩ rfl
theorem Dr(F:Fz)(E G:SA)(a b:List Stp)(p:Int)(i:aW F E a)(q:aW F G b)(la:a.length < 1000000)(lb:b.length < 1000000):
  Fo prog F 134 [.va (.int .i64 p),.va E,.va G] (fun o K=>∃I,o=.ret (.tup [.va I,.va (.int .i64 (compR p a b).2)])/\aW K I (compR p a b).1):=by
 have A:=lT F E a p i la;have B:=lT F G b p q lb;have j:=i;have s:=q;obtain⟨n,k,m,l,V,W,rfl,R,S,T,U⟩:=i;obtain⟨y,u,x,w,aa,ab,rfl,c,X,Y,Z⟩:=q;refine foS func134 ?_;refine usePs (A) ?_;refine⟨fun g=>?_,fun g=>?_⟩
 ·have f:aN p a=true:=by simpa using g
  refine usePs (B) ?_;refine br (fun g=>?_) (fun g=>?_)
  ·have h:aN p b=false:=not_t g;have e:compR p a b=([],70):=by simp[compR,h]
   exact endFo (.ret (.tup [.va (.slice true 0 0 0 2 0 0),.va (.int .i64 70)])) F rfl (Fz.r F) (Fz.r F) ⟨_,by rw[e],by rw[e];exact Sl.nil⟩ ⟨⟨rfl,rfl,rfl⟩,rfl,tv⟩ rfl
  ·have h:aN p b=true:=by simpa using g
   have e:compR p a b=(normS (a++b),0):=by simp[compR,f,h]
   refine bS 1 (fun _=>.arr 50 1 [[.slice n 0 k m 2 a.length l],[.slice y 0 u x 2 b.length w]] 2) ?_;intro L F1 D c;refine useFs (ybc F1 (L 0) _ _ a b 2 2 (j.mono D) (s.mono D) (c 0 rfl) f h) ?_;rintro _ J l2 ⟨I,rfl,d⟩;conv=>whnf
   have hs:=d;obtain⟨n2,M,Q,O,L2,r2,rfl,_⟩:=hs;exact endFo (.ret (.tup [.va (.slice n2 0 M Q 2 (normS (a++b)).length O),.va (.int .i64 0)])) J rfl (Fz.t D l2) (Fz.r J) ⟨_,by rw[e],by rw[e];exact d⟩ ⟨⟨rfl,rfl,rfl,.inr ⟨rfl,rfl,rfl,rfl⟩⟩,rfl,tv⟩ rfl
 ·have f:aN p a=false:=not_t g;have e:compR p a b=([],70):=by simp[compR,f]
  exact endFo (.ret (.tup [.va (.slice true 0 0 0 2 0 0),.va (.int .i64 70)])) F rfl (Fz.r F) (Fz.r F) ⟨_,by rw[e],by rw[e];exact Sl.nil⟩ ⟨⟨rfl,rfl,rfl⟩,rfl,tv⟩ rfl
