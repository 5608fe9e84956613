import Derived.Test.YtfnkamphhpldcaaGreatDoorK14
import Derived.Test.YtfnkamphhpldcaaGreatDoorK09
set_option maxHeartbeats 64000000
namespace Go.Proofs.YtfnkamphhpldcaaGreatDoor
open Go Sx Tryz
set_option maxRecDepth 100000
def iA(i c:Nat):List Int->SA
 |[]=>.nilsl
 |_::r=>.slice false i 0 0 1 (r.length+1) c
def iE(c:Nat)(s:List Int):Ent:=.opt (!s.isEmpty) (.arr 3 1 (s.map encI) c)
def oA(i c:Nat):List Stp->SA
 |[]=>.nilsl
 |_::r=>.slice false i 0 0 2 (r.length+1) c
def oE(c:Nat)(s:List Stp):Ent:=.opt (!s.isEmpty) (.arr 56 2 (s.map enc) c)
variable {μ:Mu}
theorem cx{i j:Nat}(h:μ i 0=(j,0))(c:Nat)(s:List Int):(iA i c s).ren μ=iA j c s:=by
 cases s with
 |nil=>rfl
 |cons x r=>simp only[iA,SA.ren,h]
theorem jB{a b c d e f g h c' i e' j:SA}(h1:a=g)(k:b=h)(l:c=c')(m:d=i)(n:e=e')(o:f=j):
  SB.cells 265 [.nilsl,a,b,c,d,e,f]=SB.cells 265 [.nilsl,g,h,c',i,e',j]:=by subst h1 k l m n o;rfl
theorem yf9(μ:Mu)(c:Nat)(s:List Int):(iE c s).ren μ=iE c s:=by
 show Ent.opt _ (SB.ren μ _)=_;rw[es];rfl
variable {s:List Int}{c:Nat}
theorem aW{x:Option Ent}(h:subE x (iE c s)):subE x ((iE c s).ren μ):=by rw[yf9];exact h
theorem bA(c:Nat)(s:List Int):subE (some (iE c s)) (iE c s):=⟨rfl,rfl⟩
theorem i7(L:List (List SA))(h:L=s.map encI):subE (some (.one (.arr 3 1 L c))) (iE c s):=by rw[h];exact rfl
theorem bR(n c:Nat)(s:List Int):(iE c s).below n:=eq n s c
theorem BI{n i:Nat}(h:i < n)(c:Nat)(s:List Int):(iA i c s).below n:=by
 cases s with
 |nil=>trivial
 |cons x r=>exact .inr h
theorem rl(c d e f g h:Nat)(i j k l m n:List Int):(SB.cells 265 [.nilsl,iA 2 c i,iA 3 d j,iA 4 e k,iA 5 f l,iA 6 g m,iA 7 h n]).below 8:=by
 intro a b;simp only[qi,qp,or_false]at b;rcases b with rfl | rfl | rfl | rfl | rfl | rfl | rfl
 ·trivial
 all_goals exact BI oo _ _
theorem i6{i j:Nat}(h:μ i 0=(j,0))(c n:Nat)(s:List Int)(ν:Int)(a:n=s.length+1):SA.slice false j 0 0 1 n c=(iA i c (s++[ν])).ren μ:=by
 rw[cx h,a];cases s with
 |nil=>rfl
 |cons x r=>simp[iA]
variable {κ:Int}{l:List Stp}
theorem iJ{k:Nat}{ν:Int}(a:s=sel κ (l.take k))(g:k < l.length)(h:l[k]=(κ,ν)):s++[ν]=sel κ (l.take (k+1)):=by
 rw[yew κ l k g (by rw[h]),a,h]
theorem cC{b:Int}{k:Nat}{ν:Int}(c:s=sel κ (l.take k))(g:k < l.length)(h:l[k]=(b,ν))(a:b≠κ):s=sel κ (l.take (k+1)):=by
 rw[ygz κ l k g (by rw[h];exact a),c]
theorem qW{k:Nat}(a:s=sel κ (l.take k)):s.length<=k:=by
 rw[a];have:=ygy κ (l.take k);rw[qn]at this;omega
def piece(κ:Int)(s:List Int):List Stp:=if s=[]then []else if κ=3 then [(3,mx s)]else if κ=5 then(s.take 5).map (fun n=>(5,n))else [(κ,mn s)]
def pieces(a b c d e:List Int):List (List Stp):=[[],piece 1 a,piece 2 b,piece 3 c,piece 4 d,piece 5 e,[]]
def normS(l:List Stp):List Stp:=if sel 6 l=[]then(pieces (sel 1 l) (sel 2 l) (sel 3 l) (sel 4 l) (sel 5 l)).flatten else [(6,0)]
theorem ir{a b c d e:List Int}{k:Nat}{out:List Stp}(p:List Stp)(h:out=((pieces a b c d e).take k).flatten)(f:(pieces a b c d e)[k]? =some p):out++p=((pieces a b c d e).take (k+1)).flatten:=by
 have i:=(qh.1 f).1;have g:=(qh.1 f).2;rw[k8 i,g,h]
theorem kd(κ:Int)(s:List Int):(piece κ s).length<=5:=by
 unfold piece;split
 ·simp
 ·split
  ·simp
  ·split
   ·simp;omega
   ·simp
theorem oM(a b c d e:List Int)(k:Nat):((pieces a b c d e).take k).flatten.length<=100:=by
 refine jm (jF _ k) ?_;have h1:=kd 1 a;have f:=kd 2 b;have g:=kd 3 c;have h:=kd 4 d;have i:=kd 5 e;simp only[pieces,jw,y6,qb,qv];omega
theorem D3(x:Int)(r:List Int):piece 5 (x::r)=((x::r).take 5).map (fun n=>(5,n)):=by simp[piece]
theorem pg{x:Int}{r:List Int}(a:κ≠3)(b:κ≠5):piece κ (x::r)=[(κ,mn (x::r))]:=by simp[piece,a,b]
theorem nH{i j:Nat}(h:μ i 0=(j,0))(c n:Nat)(s:List Stp)(t:Stp)(a:n=s.length+1):atomE ((oA i c (s++[t])).ren μ) (SA.slice false j 0 0 2 n c):=by
 subst a;cases s with
 |nil=>simp only[oA,qw,SA.ren,h];exact⟨rfl,rfl,rfl,.inr ⟨rfl,rfl,rfl,rfl⟩⟩
 |cons x r=>simp only[oA,jz,SA.ren,h];exact⟨rfl,by simp,rfl,.inr ⟨rfl,rfl,rfl,rfl⟩⟩
theorem ygq(μ:Mu)(c:Nat)(s:List Stp):(oE c s).ren μ=oE c s:=by
 show Ent.opt _ (SB.ren μ _)=_;rw[iL];rfl
theorem gC{x:Option Ent}{s:List Stp}(h:subE x (oE c s)):subE x ((oE c s).ren μ):=by rw[ygq];exact h
theorem nU{s:List Stp}(L:List (List SA))(h:L=s.map enc):subE (some (.one (.arr 56 2 L c))) (oE c s):=by rw[h];exact rfl
theorem kI(c:Nat)(s:List Stp):subE (some (oE c s)) (oE c s):=⟨rfl,rfl⟩
theorem fK(n c:Nat)(s:List Stp):(oE c s).below n:=gM n s c
structure N1(l:List Stp)(k:Nat)(s1 s2 s3 s4 s5 s6:List Int)(c5:Nat):Prop where
 hk:k<=l.length
 h1:s1=sel 1 (l.take k)
 h2:s2=sel 2 (l.take k)
 h3:s3=sel 3 (l.take k)
 h4:s4=sel 4 (l.take k)
 h5:s5=sel 5 (l.take k)
 h6:s6=sel 6 (l.take k)
 h7:s5.length<=c5
abbrev LC:=List Int×Nat
abbrev X1(l:List Stp):={ x:Nat×LC×LC×LC×LC×LC×LC // N1 l x.1 x.2.1.1 x.2.2.1.1 x.2.2.2.1.1 x.2.2.2.2.1.1 x.2.2.2.2.2.1.1 x.2.2.2.2.2.2.1 x.2.2.2.2.2.1.2 }
theorem brF{b:Bool}{x y:Prop}(h:b=false)(k:y):Br b x y:=br (fun g=>absurd (h.symm.trans g) dd) fun _=>k
theorem brT{b:Bool}{x y:Prop}(h:b=true)(k:x):Br b x y:=br (fun _=>k) fun g=>absurd (h.symm.trans g) dd
theorem cs7(k:Nat)(h:k < 7)(b c d e f:List Int):(k=0\/(k=1/\b=[])\/(k=2/\c=[])\/(k=3/\d=[])\/(k=4/\e=[])\/(k=5/\f=[])\/k=6)\/
  ((k=1/\∃x r,b=x::r)\/(k=2/\∃x r,c=x::r)\/(k=3/\∃x r,d=x::r)\/(k=4/\∃x r,e=x::r))\/(k=5/\∃x r,f=x::r):=by
 have a:∀s:List Int,s=[]\/∃x r,s=x::r:=fun s=>by cases s<;>simp
 have i:=a b;have j:=a c;have l:=a d;have m:=a e;have n:=a f;have g:k=0\/k=1\/k=2\/k=3\/k=4\/k=5\/k=6:=by omega
 clear a
 grind
theorem v7(F:Fz)(sl:SA)(ls:List (List Stp))(hs:nu F sl ls)(hn:ls.length < 1000)(hl:ls.flatten.length < 100000)(R:∀s∈ls.flatten,1<=s.1/\s.1<=6):
  Fo prog F 132 [.va sl] (fun o Q=>∃sc,o=.ret (.va sc)/\bD Q sc (normS ls.flatten)):=by
 have hc:=zE F sl ls hs hn oo;obtain⟨l,au⟩:∃l,l=ls.flatten:=⟨_,rfl⟩
 rw[<-au]at hl R hc ⊢;obtain⟨sn,sb,se,a9,sL,sr,rfl,A,B,D,E⟩:=hs;refine foS func132 ?_;refine useFs (hc) ?_;rintro _ F1 l1 ⟨sa,rfl,ha⟩;conv=>whnf
 obtain⟨a0,ay,aq,az,ap,a7,rfl,aj,an,ax,ao⟩:=ha
 conv=>whnf
 refine aI hΘ (X:=X1 l) (fun x=>[(14,.va (.int .i64 x.1.1))]) (5::jr 15 15 [])
  (fun x=>[(0,.frz F1),(1,.one (.cells 265 [.nilsl,iA 2 x.1.2.1.2 x.1.2.1.1,iA 3 x.1.2.2.1.2 x.1.2.2.1.1,iA 4 x.1.2.2.2.1.2 x.1.2.2.2.1.1,iA 5 x.1.2.2.2.2.1.2 x.1.2.2.2.2.1.1,iA 6 x.1.2.2.2.2.2.1.2 x.1.2.2.2.2.2.1.1,iA 7 x.1.2.2.2.2.2.2.2 x.1.2.2.2.2.2.2.1])),
   (2,iE x.1.2.1.2 x.1.2.1.1),(3,iE x.1.2.2.1.2 x.1.2.2.1.1),(4,iE x.1.2.2.2.1.2 x.1.2.2.2.1.1),(5,iE x.1.2.2.2.2.1.2 x.1.2.2.2.2.1.1),(6,iE x.1.2.2.2.2.2.1.2 x.1.2.2.2.2.2.1.1),(7,iE x.1.2.2.2.2.2.2.2 x.1.2.2.2.2.2.2.1)]) 8 (fun x=>l.length - x.1.1)
  ⟨(0,([],0),([],0),([],0),([],0),([],0),([],0)),⟨by simp,rfl,rfl,rfl,rfl,rfl,rfl,qj 0⟩⟩
  (fun w y=>leI [(2,2),(3,3),(4,4),(5,5),(6,6),(7,7)] w y rfl ?_ ⟨rfl,tv⟩ ⟨Fz.r F1,rfl,rfl,rfl,rfl,rfl,rfl,rfl,tv⟩) ?_
 ·exact⟨tv,rl _ _ _ _ _ _ _ _ _ _ _ _,bR _ _ _,bR _ _ _,bR _ _ _,bR _ _ _,bR _ _ _,bR _ _ _,tv⟩
 rintro⟨⟨k,⟨A,c1⟩,⟨B,c2⟩,⟨D,c3⟩,⟨E,c4⟩,⟨J,c5⟩,⟨V,c6⟩⟩,hk,h1,O,Y,Z,U,h6,h7⟩ w y;refine br (fun gb=>?_) (fun gb=>?_)
 ·have c:k < l.length:=by simpa using gb
  clear gb;have hκ:=R l[k] (qt c);have d:∃κ ν,l[k]=(κ,ν):=⟨_,_,rfl⟩
  obtain⟨κ,ν,d⟩:=d;rw[d]at hκ;replace hκ:1<=κ/\κ<=6:=hκ;refine⟨Sl.lt aj c,⟨by simp,by simpa using c⟩,_,an (Sl.lt aj c),?_⟩;conv=>whnf
  have ak:ap[aq+(k:Int).toNat]? =some (enc (κ,ν)):=(Sl.at ao c).trans (by rw[d]);refine⟨_,ak,?_⟩
  have hN:∀(κ:Int) (s:List Int),s=sel κ (l.take k)->s=[]\/∃x r,s=x::r/\r.length+1<=k:=fun κ s h=>by
   have O:=qW h;rcases s with _ | ⟨x,r⟩
   ·exact .inl rfl
   ·exact .inr ⟨x,r,rfl,O⟩
  have ae:(κ=1/\A=[])\/(κ=1/\∃x r,A=x::r/\r.length+1<=k)\/(κ=2/\B=[])\/(κ=2/\∃x r,B=x::r/\r.length+1<=k)\/(κ=3/\D=[])\/(κ=3/\∃x r,D=x::r/\r.length+1<=k)\/(κ=4/\E=[])\/(κ=4/\∃x r,E=x::r/\r.length+1<=k)\/(κ=5/\J=[])\/(κ=5/\∃x r,J=x::r/\r.length+1<=k)\/(κ=6/\V=[])\/(κ=6/\∃x r,V=x::r/\r.length+1<=k):=by
   have a8:κ=1\/κ=2\/κ=3\/κ=4\/κ=5\/κ=6:=by omega
   have n1:=hN 1 A h1;have n2:=hN 2 B O;have n3:=hN 3 D Y;have n4:=hN 4 E Z;have n5:=hN 5 J U;have n6:=hN 6 V h6;clear hN ak d h1 O Y Z U h6 h7;simp only[<-and_or_left,<-or_assoc]at*
   grind
  have p:l.length - (k+1) < l.length - k:=by omega
  have u:k < 4611686018427387904:=by omega
  have m:∀a1 a2 a3 a4 a5 a6 b1 b2 b3 b4 b5 b6,bH 8 [(0,.frz F1),(1,.one (.cells 265 [.nilsl,iA 2 a1 b1,iA 3 a2 b2,iA 4 a3 b3,iA 5 a4 b4,iA 6 a5 b5,iA 7 a6 b6])),(2,iE a1 b1),(3,iE a2 b2),(4,iE a3 b3),(5,iE a4 b4),(6,iE a5 b5),(7,iE a6 b6)]:=
   fun _ _ _ _ _ _ _ _ _ _ _ _=>⟨tv,rl _ _ _ _ _ _ _ _ _ _ _ _,bR _ _ _,bR _ _ _,bR _ _ _,bR _ _ _,bR _ _ _,bR _ _ _,tv⟩
  clear hN;rcases ae with⟨rfl,rfl⟩ | ⟨rfl,x,r,rfl,G⟩ | ⟨rfl,rfl⟩ | ⟨rfl,x,r,rfl,G⟩ | ⟨rfl,rfl⟩ | ⟨rfl,x,r,rfl,G⟩ | ⟨rfl,rfl⟩ | ⟨rfl,x,r,rfl,G⟩ | ⟨rfl,rfl⟩ | ⟨rfl,x,r,rfl,G⟩ | ⟨rfl,rfl⟩ | ⟨rfl,x,r,rfl,G⟩
  all_goals
   refine dwS (lk [0,1,2,3,4,5,6,7] (.alt 8 (.alt 9 (.look 10 (.last 11 .done)) .nil) .nil)) [1,8] ?_;conv=>whnf
   repeat' ((conv=>whnf);first
    |refine⟨rfl,?_⟩
    |refine⟨Fz.r _,rfl,?_⟩
    |refine⟨Fz.r _,rfl,rfl,?_⟩
    |refine⟨⟨by simp,by simp⟩,?_⟩
    |fail)
   refine⟨qj 1,[encI ν],rfl,?_⟩;conv=>whnf
   first
   |refine⟨rfl,rfl,by show 1*8<=140737488355328;omega,fun c' hc=>?_⟩
   |refine⟨rfl,rfl,by simp,rfl,by show(r.length+1+1)*8<=140737488355328;omega,fun c' hc=>?_⟩
   repeat' ((conv=>whnf);first
    |refine⟨rfl,?_⟩
    |refine⟨Fz.r _,rfl,?_⟩
    |refine⟨Fz.r _,rfl,rfl,?_⟩
    |refine⟨⟨by simp,by simp⟩,?_⟩
    |fail)
   conv=>whnf
   first
   |exact⟨⟨(k+1,(_++[ν],c'),(B,c2),(D,c3),(E,c4),(J,c5),(V,c6)),⟨c,iJ h1 c d,cC O c d dd,cC Y c d dd,cC Z c d dd,cC U c d dd,cC h6 c d dd,h7⟩⟩,p,leR [(2,10),(3,3),(4,4),(5,5),(6,6),(7,7)] w y rfl (m _ _ _ _ _ _ _ _ _ _ _ _) ⟨cnt u,tv⟩ ⟨Fz.r F1,jB (i6 (μ:=sig [(2,10),(3,3),(4,4),(5,5),(6,6),(7,7)]) (i:=2) (j:=10) rfl c' _ _ ν rfl) (cx (μ:=sig [(2,10),(3,3),(4,4),(5,5),(6,6),(7,7)]) (i:=3) (j:=3) rfl _ _).symm (cx (μ:=sig [(2,10),(3,3),(4,4),(5,5),(6,6),(7,7)]) (i:=4) (j:=4) rfl _ _).symm (cx (μ:=sig [(2,10),(3,3),(4,4),(5,5),(6,6),(7,7)]) (i:=5) (j:=5) rfl _ _).symm (cx (μ:=sig [(2,10),(3,3),(4,4),(5,5),(6,6),(7,7)]) (i:=6) (j:=6) rfl _ _).symm (cx (μ:=sig [(2,10),(3,3),(4,4),(5,5),(6,6),(7,7)]) (i:=7) (j:=7) rfl _ _).symm,aW (i7 _ ss),aW (bA _ _),aW (bA _ _),aW (bA _ _),aW (bA _ _),aW (bA _ _),tv⟩⟩
   |exact⟨⟨(k+1,(A,c1),(_++[ν],c'),(D,c3),(E,c4),(J,c5),(V,c6)),⟨c,cC h1 c d dd,iJ O c d,cC Y c d dd,cC Z c d dd,cC U c d dd,cC h6 c d dd,h7⟩⟩,p,leR [(2,2),(3,10),(4,4),(5,5),(6,6),(7,7)] w y rfl (m _ _ _ _ _ _ _ _ _ _ _ _) ⟨cnt u,tv⟩ ⟨Fz.r F1,jB (cx (μ:=sig [(2,2),(3,10),(4,4),(5,5),(6,6),(7,7)]) (i:=2) (j:=2) rfl _ _).symm (i6 (μ:=sig [(2,2),(3,10),(4,4),(5,5),(6,6),(7,7)]) (i:=3) (j:=10) rfl c' _ _ ν rfl) (cx (μ:=sig [(2,2),(3,10),(4,4),(5,5),(6,6),(7,7)]) (i:=4) (j:=4) rfl _ _).symm (cx (μ:=sig [(2,2),(3,10),(4,4),(5,5),(6,6),(7,7)]) (i:=5) (j:=5) rfl _ _).symm (cx (μ:=sig [(2,2),(3,10),(4,4),(5,5),(6,6),(7,7)]) (i:=6) (j:=6) rfl _ _).symm (cx (μ:=sig [(2,2),(3,10),(4,4),(5,5),(6,6),(7,7)]) (i:=7) (j:=7) rfl _ _).symm,aW (bA _ _),aW (i7 _ ss),aW (bA _ _),aW (bA _ _),aW (bA _ _),aW (bA _ _),tv⟩⟩
   |exact⟨⟨(k+1,(A,c1),(B,c2),(_++[ν],c'),(E,c4),(J,c5),(V,c6)),⟨c,cC h1 c d dd,cC O c d dd,iJ Y c d,cC Z c d dd,cC U c d dd,cC h6 c d dd,h7⟩⟩,p,leR [(2,2),(3,3),(4,10),(5,5),(6,6),(7,7)] w y rfl (m _ _ _ _ _ _ _ _ _ _ _ _) ⟨cnt u,tv⟩ ⟨Fz.r F1,jB (cx (μ:=sig [(2,2),(3,3),(4,10),(5,5),(6,6),(7,7)]) (i:=2) (j:=2) rfl _ _).symm (cx (μ:=sig [(2,2),(3,3),(4,10),(5,5),(6,6),(7,7)]) (i:=3) (j:=3) rfl _ _).symm (i6 (μ:=sig [(2,2),(3,3),(4,10),(5,5),(6,6),(7,7)]) (i:=4) (j:=10) rfl c' _ _ ν rfl) (cx (μ:=sig [(2,2),(3,3),(4,10),(5,5),(6,6),(7,7)]) (i:=5) (j:=5) rfl _ _).symm (cx (μ:=sig [(2,2),(3,3),(4,10),(5,5),(6,6),(7,7)]) (i:=6) (j:=6) rfl _ _).symm (cx (μ:=sig [(2,2),(3,3),(4,10),(5,5),(6,6),(7,7)]) (i:=7) (j:=7) rfl _ _).symm,aW (bA _ _),aW (bA _ _),aW (i7 _ ss),aW (bA _ _),aW (bA _ _),aW (bA _ _),tv⟩⟩
   |exact⟨⟨(k+1,(A,c1),(B,c2),(D,c3),(_++[ν],c'),(J,c5),(V,c6)),⟨c,cC h1 c d dd,cC O c d dd,cC Y c d dd,iJ Z c d,cC U c d dd,cC h6 c d dd,h7⟩⟩,p,leR [(2,2),(3,3),(4,4),(5,10),(6,6),(7,7)] w y rfl (m _ _ _ _ _ _ _ _ _ _ _ _) ⟨cnt u,tv⟩ ⟨Fz.r F1,jB (cx (μ:=sig [(2,2),(3,3),(4,4),(5,10),(6,6),(7,7)]) (i:=2) (j:=2) rfl _ _).symm (cx (μ:=sig [(2,2),(3,3),(4,4),(5,10),(6,6),(7,7)]) (i:=3) (j:=3) rfl _ _).symm (cx (μ:=sig [(2,2),(3,3),(4,4),(5,10),(6,6),(7,7)]) (i:=4) (j:=4) rfl _ _).symm (i6 (μ:=sig [(2,2),(3,3),(4,4),(5,10),(6,6),(7,7)]) (i:=5) (j:=10) rfl c' _ _ ν rfl) (cx (μ:=sig [(2,2),(3,3),(4,4),(5,10),(6,6),(7,7)]) (i:=6) (j:=6) rfl _ _).symm (cx (μ:=sig [(2,2),(3,3),(4,4),(5,10),(6,6),(7,7)]) (i:=7) (j:=7) rfl _ _).symm,aW (bA _ _),aW (bA _ _),aW (bA _ _),aW (i7 _ ss),aW (bA _ _),aW (bA _ _),tv⟩⟩
   |exact⟨⟨(k+1,(A,c1),(B,c2),(D,c3),(E,c4),(_++[ν],c'),(V,c6)),⟨c,cC h1 c d dd,cC O c d dd,cC Y c d dd,cC Z c d dd,iJ U c d,cC h6 c d dd,by simpa using hc⟩⟩,p,leR [(2,2),(3,3),(4,4),(5,5),(6,10),(7,7)] w y rfl (m _ _ _ _ _ _ _ _ _ _ _ _) ⟨cnt u,tv⟩ ⟨Fz.r F1,jB (cx (μ:=sig [(2,2),(3,3),(4,4),(5,5),(6,10),(7,7)]) (i:=2) (j:=2) rfl _ _).symm (cx (μ:=sig [(2,2),(3,3),(4,4),(5,5),(6,10),(7,7)]) (i:=3) (j:=3) rfl _ _).symm (cx (μ:=sig [(2,2),(3,3),(4,4),(5,5),(6,10),(7,7)]) (i:=4) (j:=4) rfl _ _).symm (cx (μ:=sig [(2,2),(3,3),(4,4),(5,5),(6,10),(7,7)]) (i:=5) (j:=5) rfl _ _).symm (i6 (μ:=sig [(2,2),(3,3),(4,4),(5,5),(6,10),(7,7)]) (i:=6) (j:=10) rfl c' _ _ ν rfl) (cx (μ:=sig [(2,2),(3,3),(4,4),(5,5),(6,10),(7,7)]) (i:=7) (j:=7) rfl _ _).symm,aW (bA _ _),aW (bA _ _),aW (bA _ _),aW (bA _ _),aW (i7 _ ss),aW (bA _ _),tv⟩⟩
   |exact⟨⟨(k+1,(A,c1),(B,c2),(D,c3),(E,c4),(J,c5),(_++[ν],c')),⟨c,cC h1 c d dd,cC O c d dd,cC Y c d dd,cC Z c d dd,cC U c d dd,iJ h6 c d,h7⟩⟩,p,leR [(2,2),(3,3),(4,4),(5,5),(6,6),(7,10)] w y rfl (m _ _ _ _ _ _ _ _ _ _ _ _) ⟨cnt u,tv⟩ ⟨Fz.r F1,jB (cx (μ:=sig [(2,2),(3,3),(4,4),(5,5),(6,6),(7,10)]) (i:=2) (j:=2) rfl _ _).symm (cx (μ:=sig [(2,2),(3,3),(4,4),(5,5),(6,6),(7,10)]) (i:=3) (j:=3) rfl _ _).symm (cx (μ:=sig [(2,2),(3,3),(4,4),(5,5),(6,6),(7,10)]) (i:=4) (j:=4) rfl _ _).symm (cx (μ:=sig [(2,2),(3,3),(4,4),(5,5),(6,6),(7,10)]) (i:=5) (j:=5) rfl _ _).symm (cx (μ:=sig [(2,2),(3,3),(4,4),(5,5),(6,6),(7,10)]) (i:=6) (j:=6) rfl _ _).symm (i6 (μ:=sig [(2,2),(3,3),(4,4),(5,5),(6,6),(7,10)]) (i:=7) (j:=10) rfl c' _ _ ν rfl),aW (bA _ _),aW (bA _ _),aW (bA _ _),aW (bA _ _),aW (bA _ _),aW (i7 _ ss),tv⟩⟩
 ·have c:k=l.length:=by have g1:¬k < l.length:=by simpa using gb
                        have:=hk;omega
  have e1:A=sel 1 l:=by have:=h1;rw[c,yv]at this;exact this
  have e2:B=sel 2 l:=by have:=O;rw[c,yv]at this;exact this
  have e3:D=sel 3 l:=by have:=Y;rw[c,yv]at this;exact this
  have e4:E=sel 4 l:=by have:=Z;rw[c,yv]at this;exact this
  have e5:J=sel 5 l:=by have:=U;rw[c,yv]at this;exact this
  have e6:V=sel 6 l:=by have:=h6;rw[c,yv]at this;exact this
  rcases V with _ | ⟨x6,r6⟩
  ·refine⟨⟨by decide,by decide⟩,brd dd ?_⟩;conv=>whnf
   refine aI hΘ (X:={ x:Nat×List Stp×Nat // x.1<=7/\x.2.1=((pieces A B D E J).take x.1).flatten }) (fun x=>[(6,.va (oA 8 x.1.2.2 x.1.2.1)),(37,.va (.int .i64 x.1.1))]) (7::8::10::jr 38 38 [])
    (fun x=>[(0,.frz F1),(2,iE c1 A),(3,iE c2 B),(4,iE c3 D),(5,iE c4 E),(6,iE c5 J),(8,oE x.1.2.2 x.1.2.1)]) 9 (fun x=>7 - x.1.1) ⟨(0,[],0),by simp⟩
    (fun w y=>leI [(8,8)] w y rfl ⟨tv,bR _ _ _,bR _ _ _,bR _ _ _,bR _ _ _,bR _ _ _,fK _ _ _,tv⟩ ⟨rfl,rfl,tv⟩ ⟨Fz.r F1,aW (bA _ _),aW (bA _ _),aW (bA _ _),aW (bA _ _),aW (bA _ _),rfl,tv⟩) ?_
   rintro⟨⟨k2,out,co⟩,al,f⟩ w y;replace al:k2<=7:=al;replace f:out=((pieces A B D E J).take k2).flatten:=f;refine br (fun W=>?_) (fun W=>?_)
   ·have ad:k2 < 7:=by have:(k2:Int) < 7:=by simpa using W
                       omega
    clear W
    have same:∀k,(pieces A B D E J)[k]? =some []->out=((pieces A B D E J).take k).flatten->out=((pieces A B D E J).take (k+1)).flatten:=fun k h1 O=>by
     have:=ir [] O h1;rwa[qx]at this
    have ar:=cs7 k2 ad A B D E J;have af:out.length<=100:=by rw[f];exact oM _ _ _ _ _ _
    rcases ar with h | h | h
    ·rcases h with rfl | ⟨rfl,rfl⟩ | ⟨rfl,rfl⟩ | ⟨rfl,rfl⟩ | ⟨rfl,rfl⟩ | ⟨rfl,rfl⟩ | rfl
     all_goals
      have hs:=same _ rfl f;rcases out with _ | ⟨xo,I⟩
      all_goals
       refine⟨⟨by simp,by simp⟩,_,rfl,bre dd ?_⟩;exact⟨⟨(_,_,co),by simp,hs⟩,by simp,leR [(8,8)] w y rfl ⟨tv,bR _ _ _,bR _ _ _,bR _ _ _,bR _ _ _,bR _ _ _,fK _ _ _,tv⟩ ⟨(by first | exact rfl | exact⟨rfl,rfl,rfl,.inr ⟨rfl,rfl,rfl,rfl⟩⟩),rfl,tv⟩ ⟨Fz.r F1,aW (bA _ _),aW (bA _ _),aW (bA _ _),aW (bA _ _),aW (bA _ _),gC (kI _ _),tv⟩⟩
    ·rcases h with⟨rfl,x,r,rfl⟩ | ⟨rfl,x,r,rfl⟩ | ⟨rfl,x,r,rfl⟩ | ⟨rfl,x,r,rfl⟩
     all_goals
      have K:r.length+1<=k:=qW (s:=x::r) (by assumption)
      have L:=by first
       |exact ir [(1,mn (x::r))] f (congrArg some (pg dd dd))
       |exact ir [(2,mn (x::r))] f (congrArg some (pg dd dd))
       |exact ir [(3,mx (x::r))] f rfl
       |exact ir [(4,mn (x::r))] f (congrArg some (pg dd dd))
      rcases out with _ | ⟨xo,I⟩
      all_goals
       refine⟨⟨by simp,by simp⟩,_,rfl,?_⟩;refine br (fun g=>absurd g (by simp;omega)) (fun _=>?_);conv=>whnf
       first | refine brF rfl ?_ | refine brT rfl ?_
       conv=>whnf
       try refine brF rfl ?_
       conv=>whnf
       first
       |refine borrow 2 (fun _=>.arr 3 1 ((x::r).map encI) c1) rfl rfl rfl (fun _ _=>es _ (x::r) _) (fun _ _=>eq _ _ _) ?_
       |refine borrow 3 (fun _=>.arr 3 1 ((x::r).map encI) c2) rfl rfl rfl (fun _ _=>es _ (x::r) _) (fun _ _=>eq _ _ _) ?_
       |refine borrow 4 (fun _=>.arr 3 1 ((x::r).map encI) c3) rfl rfl rfl (fun _ _=>es _ (x::r) _) (fun _ _=>eq _ _ _) ?_
       |refine borrow 5 (fun _=>.arr 3 1 ((x::r).map encI) c4) rfl rfl rfl (fun _ _=>es _ (x::r) _) (fun _ _=>eq _ _ _) ?_
       intro b Q aw hb
       first
       |refine usePt (ygj Q _ (x::r) (Sl.new (hb 0 ⟨rfl,rfl⟩)) (by simp;omega) ss) ?_
       |refine usePt (ygi Q _ (x::r) (Sl.new (hb 0 ⟨rfl,rfl⟩)) (by simp;omega) ss) ?_
       refine⟨Q,rfl,Fz.r _,rfl,fun _ _ _ _ _ _ h=>h,?_⟩;conv=>whnf
       refine rounds hΘ 2 ?_;refine bre dd ⟨rfl,⟨by decide,by decide⟩,_,rfl,?_⟩;conv=>whnf
       first
       |refine⟨qj 1,[enc (1,mn (x::r))],rfl,?_⟩
       |refine⟨qj 1,[enc (2,mn (x::r))],rfl,?_⟩
       |refine⟨qj 1,[enc (3,mx (x::r))],rfl,?_⟩
       |refine⟨qj 1,[enc (4,mn (x::r))],rfl,?_⟩
       conv=>whnf
       first
       |refine⟨rfl,rfl,by show 1*16<=140737488355328;omega,fun c' hc=>?_⟩
       |refine⟨rfl,rfl,by simp,rfl,by replace af:I.length+1<=100:=af
                                      show(I.length+1+1)*16<=140737488355328;omega,fun c' hc=>?_⟩
       refine brd dd ?_;exact⟨⟨(_,_,c'),by simp,L⟩,by simp,leR [(8,11)] w y rfl ⟨tv,bR _ _ _,bR _ _ _,bR _ _ _,bR _ _ _,bR _ _ _,fK _ _ _,tv⟩ ⟨by first | exact nH (μ:=sig [(8,11)]) (i:=8) (j:=11) rfl c' _ [] (0,0) rfl | exact nH (μ:=sig [(8,11)]) (i:=8) (j:=11) rfl c' _ (xo::I) _ rfl,rfl,tv⟩ ⟨Fz.r F1,aW (bA _ _),aW (bA _ _),aW (bA _ _),aW (bA _ _),aW (bA _ _),gC (nU _ ss),tv⟩⟩
    ·obtain⟨rfl,x,r,rfl⟩:=h;have K:=qW U;replace K:r.length+1<=k:=K;have av:r.length+1<=c5:=h7;have L:=ir ((x::r).take 5 |>.map (fun n=>(5,n))) f (congrArg some (D3 x r));have af:out.length<=100:=by rw[f];exact oM _ _ _ _ _ _
     refine⟨⟨by simp,by simp⟩,_,rfl,?_⟩;refine br (fun g=>absurd g (by simp;omega)) (fun _=>?_);refine brd ss ?_;refine bre ss ⟨⟨by split<;>omega,by dsimp only;split<;>omega⟩,?_⟩;conv=>whnf
     refine aI hΘ (X:={ q:Nat×List Stp×Nat // q.1<=min (r.length+1) 5/\q.2.1=out++((x::r).take q.1).map (fun n=>(5,n)) }) (fun x=>[(6,.va (oA 9 x.1.2.2 x.1.2.1)),(64,.va (.int .i64 x.1.1))]) (10::jr 65 10 [])
      (fun x=>[(0,.frz F1),(8,.gone),(9,oE x.1.2.2 x.1.2.1)]) 10 (fun x=>min (r.length+1) 5 - x.1.1) ⟨(0,out,co),by simp⟩ ?_ ?_
     ·intro w y;rcases out with _ | ⟨xo,I⟩
      ·exact leI [(9,8)] w y rfl ⟨tv,tv,fK _ _ _,tv⟩ ⟨rfl,rfl,tv⟩ ⟨Fz.r F1,gC (kI _ _),tv⟩
      ·exact leI [(9,8)] w y rfl ⟨tv,tv,fK _ _ _,tv⟩ ⟨⟨rfl,rfl,rfl,.inr ⟨rfl,rfl,rfl,rfl⟩⟩,rfl,tv⟩ ⟨Fz.r F1,gC (kI _ _),tv⟩
     rintro⟨⟨j,oi,ci⟩,hj,S⟩ ah ai;replace hj:j<=min (r.length+1) 5:=hj;replace S:oi=out++((x::r).take j).map (fun n=>(5,n)):=S;have ac:oi.length<=200:=by rw[S,qb,qa,qn];omega
     refine br (fun M=>?_) (fun M=>?_)
     ·have gj:j < min (r.length+1) 5:=by
       simp only[decide_eq_true_eq]at M;split at M<;>omega
      clear M;have ag:j < (x::r).length:=by simp;omega
      have ab:oi++[(5,(x::r)[j])]=out++((x::r).take (j+1)).map (fun n=>(5,n)):=by
       rw[qe ag,qq,<-ql,S];rfl
      have T:∀e:Nat,e=0->((x::r).map encI)[e+(j:Int).toNat]? =some (encI (x::r)[j]):=by
       intro e he;subst he;rw[qz,qg,qu,qc ag];rfl
      rcases oi with _ | ⟨yo,I⟩
      ·refine⟨rfl,⟨by simp,?_⟩,?_⟩
       ·dsimp only;split<;>omega
       refine⟨rfl,_,T _ (by dsimp only;split<;>rfl),qj 1,[enc (5,(x::r)[j])],rfl,rfl,rfl,by show 1*16<=140737488355328;omega,fun c' hc=>?_⟩;exact⟨⟨(j+1,[]++[(5,(x::r)[j])],c'),gj,ab⟩,by show min (r.length+1) 5 - (j+1) < min (r.length+1) 5 - j;omega,leR [(9,11)] ah ai rfl ⟨tv,tv,fK _ _ _,tv⟩ ⟨(nH (μ:=sig [(9,11)]) (i:=9) (j:=11) rfl c' _ ([]) (5,(x::r)[j]) rfl),cnt oo,tv⟩ ⟨Fz.r F1,gC (nU [enc (5,(x::r)[j])] rfl),tv⟩⟩
      ·replace ac:I.length+1<=200:=ac;refine⟨rfl,⟨by simp,?_⟩,?_⟩
       ·dsimp only;split<;>omega
       refine⟨rfl,_,T _ (by dsimp only;split<;>rfl),qj 1,[enc (5,(x::r)[j])],rfl,rfl,rfl,by simp,rfl,by show(I.length+1+1)*16<=140737488355328;omega,fun c' hc=>?_⟩;exact⟨⟨(j+1,yo::I++[(5,(x::r)[j])],c'),gj,ab⟩,by show min (r.length+1) 5 - (j+1) < min (r.length+1) 5 - j;omega,leR [(9,11)] ah ai rfl ⟨tv,tv,fK _ _ _,tv⟩ ⟨(nH (μ:=sig [(9,11)]) (i:=9) (j:=11) rfl c' _ (yo::I) (5,(x::r)[j]) rfl),cnt oo,tv⟩ ⟨Fz.r F1,gC (nU _ ss),tv⟩⟩
     ·have gj:j=min (r.length+1) 5:=by
       simp only[decide_eq_false_iff_not]at M;split at M<;>omega
      have am:oi=((pieces A B D E (x::r)).take 6).flatten:=by
       rw[S,<-L,gj]
       congr 2
       rw[Nat.min_comm,<-qf (a:=x),<-qbl,yv]
      rcases oi with _ | ⟨yo,I⟩
      ·exact⟨⟨(6,[],ci),by simp,am⟩,by show 7 - 6 < 7 - 5;omega,leRn [_,_,_] [_,_] [(8,9)] w y rfl ⟨tv,bR _ _ _,bR _ _ _,bR _ _ _,bR _ _ _,bR _ _ _,fK _ _ _,tv⟩ ⟨rfl,rfl,tv⟩ ⟨Fz.r F1,aW (bA _ _),aW (bA _ _),aW (bA _ _),aW (bA _ _),aW (bA _ _),gC (kI _ _),tv⟩⟩
      ·exact⟨⟨(6,yo::I,ci),by simp,am⟩,by show 7 - 6 < 7 - 5;omega,leRn [_,_,_] [_,_] [(8,9)] w y rfl ⟨tv,bR _ _ _,bR _ _ _,bR _ _ _,bR _ _ _,bR _ _ _,fK _ _ _,tv⟩ ⟨⟨rfl,rfl,rfl,.inr ⟨rfl,rfl,rfl,rfl⟩⟩,rfl,tv⟩ ⟨Fz.r F1,aW (bA _ _),aW (bA _ _),aW (bA _ _),aW (bA _ _),aW (bA _ _),gC (kI _ _),tv⟩⟩
   ·have ad:k2=7:=by have:¬(k2:Int) < 7:=by simpa using W
                     omega
    subst ad
    have aa:out=normS l:=by
     rw[normS,<-e6,if_pos rfl,<-e1,<-e2,<-e3,<-e4,<-e5];exact f
    rcases out with _ | ⟨xo,I⟩
    ·exact endFo (.ret (.va (.slice true 0 0 0 2 0 0))) F1 rfl l1 (Fz.r F1) ⟨_,rfl,by rw[<-aa];exact Sl.nil⟩ ⟨rfl,rfl,rfl⟩ rfl
    ·refine cu 8 (fun _=>.arr 56 2 ((xo::I).map enc) co) rfl rfl rfl (fun _ _=>?_) (fun _ _=>gM _ _ _) ?_
     ·exact iL _ (xo::I) co
     intro b Q K hb;refine endFo (.ret (.va (.slice false 0 (b 0) 0 2 (I.length+1) co))) Q rfl (Fz.t l1 K) (Fz.r Q) ⟨_,rfl,?_⟩ ⟨rfl,rfl,rfl,.inr ⟨rfl,rfl,rfl,rfl⟩⟩ rfl;rw[<-aa];exact Sl.new (l:=xo::I) (hb 0 ⟨rfl,rfl⟩)
  ·refine⟨⟨by decide,by decide⟩,bre ss ?_⟩;refine eB 8 (fun _=>.arr 56 2 [enc (6,0)] 1) ?_;intro b Q K hb;refine endFo (.ret (.va (.slice false 0 (b 0) 0 2 1 1))) Q rfl (Fz.t l1 K) (Fz.r Q) ⟨_,rfl,?_⟩ ⟨rfl,rfl,rfl,.inr ⟨rfl,rfl,rfl,rfl⟩⟩ rfl;rw[normS,<-e6,if_neg ss];exact Sl.new (l:=[(6,0)]) (hb 0 rfl)
variable {p:Int}
theorem oG(h:aM p l=true):∀s∈l,1<=s.1/\s.1<=6:=by
 intro s a;simp only[aM,qd]at h;have:=qo.1 h.2.2 s a;simp only[aS,qd,decide_eq_true_eq]at this;exact this.1
theorem lT(h:aM p l=true):l.length<=64:=by
 simp only[aM,qd,decide_eq_true_eq]at h;exact h.2.1
variable {F:Fz}
theorem yez{b c':Nat}{a:SA}(e:bD F a l)(h:F b=some (.arr 50 1 [[a]] c)):nu F (.slice false 0 b 0 1 1 c') [l]:=
 SlR.new (l:=[l]) h rfl fun k x d=>by
  match k,d with
  |0,d=>simp at d;subst d;exact⟨[a],rfl,a,rfl,e⟩
theorem ye0{b c':Nat}{a e:SA}{g:List Stp}(i:bD F a l)(f:bD F e g)(h:F b=some (.arr 50 1 [[a],[e]] c)):nu F (.slice false 0 b 0 1 2 c') [l,g]:=
 SlR.new (l:=[l,g]) h rfl fun k x d=>by
  match k,d with
  |0,d=>simp at d;subst d;exact⟨[a],rfl,a,rfl,i⟩
  |1,d=>simp at d;subst d;exact⟨[e],rfl,e,rfl,f⟩
def normR(p:Int)(l:List Stp):List Stp×Int:=if aM p l=true then(normS l,0)else([],70)
def compR(p:Int)(a b:List Stp):List Stp×Int:=if aM p a=true/\aM p b=true then(normS (a++b),0)else([],70)
theorem pb(l:List Stp):(normS l).length<=100:=by
 unfold normS;split
 ·have:=oM (sel 1 l) (sel 2 l) (sel 3 l) (sel 4 l) (sel 5 l) 7;exact this
 ·simp
theorem yd2(F:Fz)(b:Nat)(a:SA)(l:List Stp)(c c':Nat)(g:bD F a l)(h:F b=some (.arr 50 1 [[a]] c))(d:aM p l=true):
  Fo prog F 132 [.va (.slice false 0 b 0 1 1 c')] (fun o f=>∃e,o=.ret (.va e)/\bD f e (normS l)):=by
 have i:=lT d;have:=v7 F _ [l] (yez (c':=c') g h) ss (by simp;omega) (by simpa using oG d);rw[jw,y6,qx]at this;exact this
theorem yd3(F:Fz)(b:Nat)(a g:SA)(l e:List Stp)(c c':Nat)(m:bD F a l)(f:bD F g e)(h:F b=some (.arr 50 1 [[a],[g]] c))(i:aM p l=true)(d:aM p e=true):
  Fo prog F 132 [.va (.slice false 0 b 0 1 2 c')] (fun o k=>∃j,o=.ret (.va j)/\bD k j (normS (l++e))):=by
 have q:=lT i;have n:=lT d
 have:=v7 F _ [l,e] (ye0 (c':=c') m f h) ss (by simp;omega) (by
  intro s hs;simp only[jw,y6,qx,yd]at hs;rcases hs with hs | hs
  ·exact oG i s hs
  ·exact oG d s hs)
 rw[jw,jw,y6,qx]at this;exact this
theorem uC(F:Fz)(m:SA)(l:List Stp)(p:Int)(d:bD F m l)(J:l.length < 1000000):
  Fo prog F 62 [.va (.int .i64 p),.va m] (fun o u=>∃n,o=.ret (.tup [.va n,.va (.int .i64 (normR p l).2)])/\bD u n (normR p l).1):=by
 have L:=mA F m l p d J;have f:=d;obtain⟨k,h,j,i,G,I,rfl,A,B,D,E⟩:=d;refine foS func62 ?_;refine usePs (L) ?_;refine br (fun g=>?_) (fun g=>?_)
 ·have c:aM p l=false:=not_t g;have e:normR p l=([],70):=by simp[normR,c]
  exact endFo (.ret (.tup [.va (.slice true 0 0 0 2 0 0),.va (.int .i64 70)])) F rfl (Fz.r F) (Fz.r F) ⟨_,by rw[e],by rw[e];exact Sl.nil⟩ ⟨⟨rfl,rfl,rfl⟩,rfl,tv⟩ rfl
 ·have c:aM p l=true:=by simpa using g
  have e:normR p l=(normS l,0):=by simp[normR,c]
  refine bM 1 (fun _=>.arr 50 1 [[.slice k 0 h j 2 l.length i]] 1) ?_;intro b F1 s hb;refine useFs (yd2 F1 (b 0) _ l 1 1 (f.mono s) (hb 0 rfl) c) ?_;rintro _ q M ⟨n,rfl,a⟩;conv=>whnf
  have K:=a;obtain⟨O,w,y,x,Q,R,rfl,_⟩:=K;exact endFo (.ret (.tup [.va (.slice O 0 w y 2 (normS l).length x),.va (.int .i64 0)])) q rfl (Fz.t s M) (Fz.r q) ⟨_,by rw[e],by rw[e];exact a⟩ ⟨⟨rfl,rfl,rfl,.inr ⟨rfl,rfl,rfl,rfl⟩⟩,rfl,tv⟩ rfl
theorem Dl(F:Fz)(D E:SA)(a b:List Stp)(p:Int)(i:bD F D a)(hb:bD F E b)(la:a.length < 1000000)(lb:b.length < 1000000):
  Fo prog F 134 [.va (.int .i64 p),.va D,.va E] (fun o J=>∃G,o=.ret (.tup [.va G,.va (.int .i64 (compR p a b).2)])/\bD J G (compR p a b).1):=by
 have y:=mA F D a p i la;have A:=mA F E b p hb lb;have j:=i;have q:=hb;obtain⟨n,k,m,l,U,V,rfl,Q,R,S,T⟩:=i;obtain⟨x,s,w,u,Y,Z,rfl,c,W,X,hb4⟩:=hb;refine foS func134 ?_;refine usePs (y) ?_;refine⟨fun g=>?_,fun g=>?_⟩
 ·have f:aM p a=true:=by simpa using g
  refine usePs (A) ?_;refine br (fun g=>?_) (fun g=>?_)
  ·have h:aM p b=false:=not_t g;have e:compR p a b=([],70):=by simp[compR,h]
   exact endFo (.ret (.tup [.va (.slice true 0 0 0 2 0 0),.va (.int .i64 70)])) F rfl (Fz.r F) (Fz.r F) ⟨_,by rw[e],by rw[e];exact Sl.nil⟩ ⟨⟨rfl,rfl,rfl⟩,rfl,tv⟩ rfl
  ·have h:aM p b=true:=by simpa using g
   have e:compR p a b=(normS (a++b),0):=by simp[compR,f,h]
   refine bM 1 (fun _=>.arr 50 1 [[.slice n 0 k m 2 a.length l],[.slice x 0 s w 2 b.length u]] 2) ?_;intro K F1 B c;refine useFs (yd3 F1 (K 0) _ _ a b 2 2 (j.mono B) (q.mono B) (c 0 rfl) f h) ?_;rintro _ I l2 ⟨G,rfl,d⟩;conv=>whnf
   have hs:=d;obtain⟨n2,L,O,M,L2,r2,rfl,_⟩:=hs;exact endFo (.ret (.tup [.va (.slice n2 0 L O 2 (normS (a++b)).length M),.va (.int .i64 0)])) I rfl (Fz.t B l2) (Fz.r I) ⟨_,by rw[e],by rw[e];exact d⟩ ⟨⟨rfl,rfl,rfl,.inr ⟨rfl,rfl,rfl,rfl⟩⟩,rfl,tv⟩ rfl
 ·have f:aM p a=false:=not_t g;have e:compR p a b=([],70):=by simp[compR,f]
  exact endFo (.ret (.tup [.va (.slice true 0 0 0 2 0 0),.va (.int .i64 70)])) F rfl (Fz.r F) (Fz.r F) ⟨_,by rw[e],by rw[e];exact Sl.nil⟩ ⟨⟨rfl,rfl,rfl⟩,rfl,tv⟩ rfl
abbrev Kp:=Int×List Stp
def KpR(F:Fz)(y:List SA)(x:Kp):Prop:=∃a,y=[.int .i64 x.1,a]/\bD F a x.2
theorem KpR.mono{b:Fz}{y:List SA}{x:Kp}(h:KpR F y x)(a:Fz.le F b):KpR b y x:=by
 obtain⟨d,h1,c⟩:=h;exact⟨d,h1,c.mono a⟩
abbrev KpsAt(F:Fz)(a:SA)(l:List Kp):Prop:=SlR F 96 2 (KpR F) a l
abbrev ClsAt(F:Fz)(a:SA)(l:List Kp):Prop:=SlR F 52 2 (KpR F) a l
theorem KpsAt.open{t:Nat}{i:SA}{c:List Kp}(h:SlR F t 2 (KpR F) i c):∃(nil:Bool) (b e cap:Nat) (L:List (List SA)) (d:Nat) (j:Nat->SA),i=.slice nil 0 b e 2 c.length cap/\(nil=true->c=[])/\(nil=false->F b=some (.arr t 2 L d))/\e+c.length<=L.length/\
  ∀(k:Nat) (h:k < c.length),L[e+k]? =some [.int .i64 (c[k]'h).1,j k]/\bD F (j k) (c[k]'h).2:=by
 obtain⟨nil,b,e,cap,L,d,h1,l,m,n,o⟩:=h
 have g:∀k:Nat,∃a:SA,∀h:k < c.length,L[e+k]? =some [.int .i64 (c[k]'h).1,a]/\bD F a (c[k]'h).2:=by
  intro k;by_cases f:k < c.length
  ·obtain⟨y,q,a,rfl,p⟩:=o k c[k] (by simp[f]);exact⟨a,fun _=>⟨q,p⟩⟩
  ·exact⟨.nilsl,fun h=>absurd h f⟩
 exact⟨nil,b,e,cap,L,d,fun k=>Classical.choose (g k),h1,l,m,n,fun k f=>Classical.choose_spec (g k) f⟩
def nameK(p:Int):Bool:=decide (p=1)||decide (p=2)||decide (p=3)||decide (p=4)||decide (p=7)
def aZ(k:Kp):Bool:=nameK k.1&&(decide (0 < k.2.length)&&(aM k.1 k.2&&(decide (normS k.2=k.2)&&(!decide (k.1=4)||decide (k.2=[(6,0)])))))
def nameM:List MapEntry:=[⟨.int .i64 1,.string ⟨[116,101,120,116].toArray⟩,0⟩,⟨.int .i64 2,.string ⟨[109,97,114,107,115].toArray⟩,1⟩,⟨.int .i64 3,.string ⟨[99,111,110,115,116,97,110,116,115].toArray⟩,2⟩,⟨.int .i64 4,.string ⟨[102,111,114,109,117,108,97,115].toArray⟩,3⟩,⟨.int .i64 7,.string ⟨[98,105,116,115].toArray⟩,4⟩]
theorem CF(F:Fz):Ct prog 171 [] F [] 1 (fun o a b n0=>F=a/\n0=2/\o=.ret (.va (.map 1 0))/\b=[(1,.one (.obj (.map ⟨nameM⟩ 5)))]):=by
 refine ctS func171 ?_;exact clean [(1,1)] (.ret (.va (.map 1 0))) F [(1,.one (.obj (.map ⟨nameM⟩ 5)))] 2 ⟨Fz.r F,rfl,rfl,rfl,rfl⟩ rfl rfl rfl (Out.bB_ok (o:=.ret (.va (.map 1 0))) rfl) ⟨tv,tv⟩ ⟨Fz.r F,rfl,tv⟩
theorem CD(F:Fz):Fo prog F 111 [] (fun o a=>∃e,o=.ret (.va e)/\bD a e [(6,0)]):=by
 refine foS func111 ?_;refine eB 1 (fun _=>.arr 56 2 ([(6,0)].map enc) 1) ?_;intro b a d c;exact endFo (.ret (.va (.slice false 0 (b 0) 0 2 1 1))) a rfl d (Fz.r a) ⟨_,rfl,Sl.new (l:=[(6,0)]) (c 0 rfl)⟩ ⟨rfl,rfl,rfl,.inr ⟨rfl,rfl,rfl,rfl⟩⟩ rfl
theorem vi(F:Fz)(c:SA)(l:List Stp)(e:bD F c l)(I:l.length < 1000000):
  Fo prog F 150 [.va c] (fun o _=>o=.ret (.va (.bool (decide (l=[(6,0)]))))):=by
 have b:=fun F1 (a:Fz.le F F1) d hb=>ki F1 c d l [(6,0)] (e.mono a) hb I
 obtain⟨p,k,n,m,j,q,rfl,f,g,h,i⟩:=e;refine foS func150 ?_;refine useFs (CD F) ?_;rintro _ F1 a ⟨d,rfl,hb⟩;have G:=b F1 a d hb;obtain⟨D,y,B,A,x,E,rfl,s,u,w,hb4⟩:=hb;refine usePs (G) ?_;exact endFs (.ret (.va (.bool (decide (l=[(6,0)]))))) a rfl
theorem pY{P:Program}{f:FuncId}{args:List SV}{Q c:Out->Fz->Prop}(h:Fo P F f args Q)(k:∀o b,Q o b->c o b):Fo P F f args c:=by
 unfold Fo at*;refine ow h fun o h n i=>?_
 unfold Cln at*;intro C ρ w e j S l hb;obtain⟨a,d,g,n0,x,⟨m,p,q,s,u⟩,r⟩:=i C ρ w e j S l hb;exact⟨a,d,g,n0,x,⟨m,p,q,s,k _ _ u⟩,r⟩
def capS:SA->Prop
 |.slice _ _ _ _ _ n c=>n<=c
 |_=>True
theorem uj(F:Fz)(y:SA)(l:List Stp)(B:bD F y l)(w:l.length < 1000000):
  Fo prog F 73 [.va y] (fun o e=>∃u,o=.ret (.va u)/\bD e u l/\capS u):=by
 obtain⟨A,D,G,E,L,d,rfl,k,m,i,hb4⟩:=B;rcases A with _ | _
 ·have a:=m rfl;rcases l with _ | ⟨x,r⟩
  ·refine foS func73 ?_;refine brd dd ⟨56,L,d,a,i,[],hb4,rfl,rfl,rfl,by decide,fun c j=>?_⟩;clear j;refine eB 2 (fun _=>.arr 56 2 [] c) ?_;intro b e g f;exact endFo (.ret (.va (.slice false 0 (b 0) 0 2 0 c))) e rfl g (Fz.r e) ⟨_,rfl,Sl.new (l:=[]) (f 0 rfl),js c⟩ ⟨rfl,rfl,rfl,.inr ⟨rfl,rfl,rfl,rfl⟩⟩ rfl
  ·replace w:r.length+1 < 1000000:=w;have s:(0+((x::r).map enc).length)*16<=140737488355328:=by rw[qa,qf];omega
   have p:∀{c:Nat},0+((x::r).map enc).length<=c->(x::r).length<=c:=fun h=>by rw[qa,qz]at h;exact h
   have I:∀c,(∀μ:Mu,(SB.arr 56 2 ((x::r).map enc) c).ren μ=SB.arr 56 2 ((x::r).map enc) c):=fun c μ=>iL μ _ c
   refine foS func73 ?_;refine brd dd ⟨56,L,d,a,i,(x::r).map enc,hb4,rfl,rfl,rfl,s,fun c' j=>?_⟩;have n:=p j;clear j;refine cu 2 (fun _=>.arr 56 2 ((x::r).map enc) c') rfl rfl rfl (fun _ _=>iL _ _ _) (fun _ _=>gM _ _ _) ?_;intro b e g f;exact endFo (.ret (.va (.slice false 0 (b 0) 0 2 (x::r).length c'))) e rfl g (Fz.r e) ⟨_,rfl,Sl.new (l:=x::r) (f 0 rfl),n⟩ ⟨rfl,(by first | rfl | (rw[qa];omega)),(by first | rfl | (rw[qa];omega)),.inr ⟨rfl,rfl,rfl,rfl⟩⟩ rfl
 ·have q:=k rfl;subst q;refine foS func73 ?_;refine bre dd ?_;exact endFo (.ret (.va (.slice true 0 0 0 2 0 0))) F rfl (Fz.r F) (Fz.r F) ⟨_,rfl,Sl.nil,qj 0⟩ ⟨rfl,rfl,rfl⟩ rfl
theorem zB(F:Fz)(b:SA)(l:List Stp)(e:bD F b l)(f:l.length < 1000000):
  Fo prog F 73 [.va b] (fun o c=>∃a,o=.ret (.va a)/\bD c a l):=
 pY (uj F b l e f) fun _ _ ⟨a,h1,d,_⟩=>⟨a,h1,d⟩
theorem D0(p:Int):(p=1/\nameK p=true)\/(p=2/\nameK p=true)\/(p=3/\nameK p=true)\/(p=4/\nameK p=true)\/(p=7/\nameK p=true)\/((p≠1/\p≠2/\p≠3/\p≠4/\p≠7)/\nameK p=false):=by
 unfold nameK;by_cases h1:p=1
 ·left;simp[h1]
 by_cases a:p=2
 ·right;left;simp[a]
 by_cases b:p=3
 ·right;right;left;simp[b]
 by_cases c:p=4
 ·right;right;right;left;simp[c]
 by_cases d:p=7
 ·right;right;right;right;left;simp[d]
 ·right;right;right;right;right;simp[h1,a,b,c,d]
theorem kF0(h:nameK p=false):aZ (p,l)=false:=by simp only[aZ,h,jv]
theorem kF1(h:decide ((0:Int) < (l.length:Int))=false):aZ (p,l)=false:=by
 have a:decide (0 < l.length)=false:=by simp at h ⊢;omega
 simp only[aZ,a,jv,yk]
theorem kF2(h:decide ((normR p l).2=0)=false):aZ (p,l)=false:=by
 have a:aM p l=false:=by
  cases b:aM p l with
  |false=>rfl
  |true=>rw[normR,if_pos b]at h;cases h
 simp only[aZ,a,jv,yk]
theorem mh(h:decide ((normR p l).2=0)=true):aM p l=true/\(normR p l).1=normS l:=by
 cases a:aM p l with
 |false=>rw[normR,if_neg (by rw[a];simp)]at h;cases h
 |true=>exact⟨rfl,by rw[normR,if_pos a]⟩
theorem kF3(b:decide ((normR p l).2=0)=true)(h:decide ((normR p l).1=l)=false):aZ (p,l)=false:=by
 have a:=mh b;rw[a.2]at h;simp only[aZ,a.1,h,jv,yk]
theorem kT(e:nameK p=true)(d:decide ((0:Int) < (l.length:Int))=true)(b:decide ((normR p l).2=0)=true)(h:decide ((normR p l).1=l)=true):aZ (p,l)=(!decide (p=4)||decide (l=[(6,0)])):=by
 have a:=mh b;have c:decide (0 < l.length)=true:=by simp at d ⊢;omega
 rw[a.2]at h;simp only[aZ,e,c,a.1,h,yz]
theorem uB(p:Int)(l:List Stp):(normR p l).1.length < 1000000:=by
 unfold normR;split
 ·have:=pb l;show(normS l).length < _;omega
 ·simp
theorem zT(F:Fz)(n:SA)(p:Int)(l:List Stp)(s:bD F n l)(A:l.length < 1000000):
  Fo prog F 107 [.agg [.int .i64 p,n]] (fun o _=>o=.ret (.va (.bool (aZ (p,l))))):=by
 have i:=uC F n l p s A;have w:=fun F1 (a:Fz.le F F1) sb hb=>ki F1 sb n (normR p l).1 l hb (s.mono a) (uB p l)
 have f:=fun F1 (a:Fz.le F F1)=>vi F1 n l (s.mono a) A
 have fin:∀(b:Bool) (F1:Fz) (h:Hp) (nx:Nat),aZ (p,l)=b->lget h 0=some (.frz F1)->Fz.le F F1->Cln 1 (FoK F fun o y=>o=.ret (.va (.bool (aZ (p,l))))) (.ret (.va (.bool b))) h nx:=by
  intro b F1 h nx hb q d;exact endFo (.ret (.va (.bool b))) F1 q d (Fz.r F1) (by rw[hb]) rfl rfl
 have finL:∀(b:Bool) (F1:Fz) (h:Hp) (nx:Nat),aZ (p,l)=b->lget h 0=some (.frz F1)->Fz.le F F1->Cln 1 (FoK F fun o y=>o=.ret (.va (.bool (aZ (p,l))))) (.ret (.va (.lit b))) h nx:=by
  intro b F1 h nx hb q d;exact endFo (.ret (.va (.bool b))) F1 q d (Fz.r F1) (by rw[hb]) rfl rfl
 have hc:=D0 p;obtain⟨aa,X,Z,Y,W,ab,rfl,S,T,U,V⟩:=s;rcases hc with⟨rfl,c⟩ | ⟨rfl,c⟩ | ⟨rfl,c⟩ | ⟨rfl,c⟩ | ⟨rfl,c⟩ | ⟨hp,c⟩
 all_goals
  refine foS func107 ?_;refine dwS (.look 1 (.look 2 (.alt 0 (.alt 3 (lk [4,5,6,7,8] .done) .nil) .nil))) [1] ?_;refine⟨rfl,?_⟩;refine use (CF F) [] rfl trivial rfl trivial ss trivial ?_;rintro Q F0 q n0 d ⟨rfl,rfl,rfl,rfl⟩;refine⟨Fz.r F,rfl,?_⟩;conv=>whnf
  repeat
   refine br (fun g=>absurd (od g) oo) (fun _=>?_);conv=>whnf
  try (refine bri rfl ?_;(conv=>whnf))
  refine⟨Fz.r F,rfl,?_⟩;refine useFs i ?_;rintro _ F1 a ⟨sc,rfl,m⟩;have u:=w F1 a sc m;have x:=f F1 a;obtain⟨M,J,L,K,I,O,rfl,B,D,E,G⟩:=m
  conv=>whnf
  first
   |exact fin false F1 _ _ (kF0 c) rfl a
   |exact finL false F1 _ _ (kF0 c) rfl a
   |refine⟨fun j=>?_,fun j=>?_⟩
    ·refine⟨fun e=>?_,fun e=>?_⟩
     ·refine usePs (u) ?_;refine⟨fun k=>?_,fun k=>?_⟩
      ·conv=>whnf
       first
        |refine gaf dd ?_
         conv=>whnf
         repeat
          refine gaf dd ?_;conv=>whnf
         first
          |exact fin true F1 _ _ (kT c j e k) rfl a
          |exact finL true F1 _ _ (kT c j e k) rfl a
        |refine gae dd ?_
         conv=>whnf
         repeat
          refine gae dd ?_;conv=>whnf
         refine useFs x ?_;rintro _ R l2 rfl;conv=>whnf
         repeat
          refine gae dd ?_;conv=>whnf
         exact fin _ R _ _ (kT c j e k) rfl (Fz.t a l2)
      ·conv=>whnf
       first
        |exact fin false F1 _ _ (kF3 e k) rfl a
        |exact finL false F1 _ _ (kF3 e k) rfl a
     ·conv=>whnf
      first
       |exact fin false F1 _ _ (kF2 e) rfl a
       |exact finL false F1 _ _ (kF2 e) rfl a
    ·conv=>whnf
     first
      |exact fin false F1 _ _ (kF1 j) rfl a
      |exact finL false F1 _ _ (kF1 j) rfl a
def idxN{α:Type}(q:α->Bool):List α->Nat->Int
 |[],_=>-1
 |x::r,n=>if q x=false then n else idxN q r (n+1)
theorem vP{α:Type}(q:α->Bool)(l:List α)(k:Nat)(h:k < l.length):idxN q (l.drop k) k=if q l[k]=false then(k:Int)else idxN q (l.drop (k+1)) (k+1):=by
 rw[ji h];rfl
theorem xy{α:Type}(q:α->Bool):∀(l:List α) (n:Nat),(0<=idxN q l n)↔l.all q=false
 |[],n=>by simp[idxN]
 |x::r,n=>by
  simp only[idxN,qbr];split
  ·rename_i h;simp[h]
  ·rename_i h;have:q x=true:=by simpa using h
   rw[xy q r (n+1),this];simp
theorem xx{α:Type}(q:α->Bool)(l:List α):decide (0<=idxN q l 0)= !l.all q:=by
 have:=xy q l 0;cases h:l.all q with
 |true=>rw[h]at this;simp only[Bool.not_true,decide_eq_false_iff_not];intro a;exact absurd (this.1 a) ss
 |false=>rw[h]at this;simp only[Bool.not_false,decide_eq_true_eq];exact this.2 rfl
theorem DZ(F:Fz)(a:SA)(p:Int)(l:List Stp)(b:bD F a l)(q:l.length < 1000000):
  Fo prog F 106 [.agg [.int .i64 p,a]] (fun o _=>o=.ret (.va (.bool (!aZ (p,l))))):=by
 have h:=zT F a p l b q;obtain⟨m,i,k,j,g,n,rfl,c,d,e,f⟩:=b;refine foS func106 ?_;refine useFs h ?_;rintro _ F1 s rfl;exact endFs (.ret (.va (.bool (!aZ (p,l))))) s rfl
def short(a:List Kp):Prop:=∀x∈a,x.2.length < 1000000
theorem ydj(F:Fz)(sk:SA)(b:List Kp)(V:KpsAt F sk b)(W:short b)(hl:b.length < 1000000):
  Fo prog F 172 [.va sk,.va (.fn (.func 106) [])] (fun o _=>o=.ret (.va (.int .i64 (idxN aZ b 0)))):=by
 obtain⟨kn,kb,ke,kc,kL,kr,rfl,B,k2,k3,k4⟩:=V
 have fin:∀(x:Int) (F1:Fz) (h:Hp) (nx:Nat),idxN aZ b 0=x->lget h 0=some (.frz F1)->Fz.le F F1->
   Cln 1 (FoK F fun o E=>o=.ret (.va (.int .i64 (idxN aZ b 0)))) (.ret (.va (.int .i64 x))) h nx:=by
  intro x F1 h nx Y I w;exact endFo (.ret (.va (.int .i64 x))) F1 I w (Fz.r F1) (by rw[Y]) rfl rfl
 refine foS func172 ?_;conv=>whnf
 refine aI hΘ (X:={ x:Nat×Fz // Fz.le F x.2/\x.1<=b.length/\idxN aZ b 0=idxN aZ (b.drop x.1) x.1 }) (fun x=>[(8,.va (.int .i64 x.1.1))]) (4::5::jr 9 10 []) (fz fun x=>x.1.2) 1 (fun x=>b.length - x.1.1) ⟨(0,F),Fz.r F,by simp,by simp⟩
  (fun s u=>leI [] s u rfl ⟨tv,tv⟩ ⟨rfl,tv⟩ ⟨Fz.r F,tv⟩) ?_
 rintro⟨⟨k,G⟩,c,l,e⟩ s u;replace c:Fz.le F G:=c;replace l:k<=b.length:=l;replace e:idxN aZ b 0=idxN aZ (b.drop k) k:=e;by_cases g:k < b.length
 ·have m:(k:Int) < (b.length:Int):=by omega
  have i:b.length - (k+1) < b.length - k:=by omega
  have j:k < 4611686018427387904:=by omega
  have Z:=W b[k] (qt g);rw[vP aZ b k g]at e;have f:=SlR.at k4 g;obtain⟨y,hy,a,rfl,A⟩:=f;have d:=DZ G a b[k].1 b[k].2 (A.mono c) Z;obtain⟨T,Q,S,R,O,U,rfl,J,K,L,M⟩:=A;refine bri m ⟨SlR.lt B g,⟨by simp,m⟩,_,c _ _ (k2 (SlR.lt B g)),_,hy,?_⟩;refine useFs d ?_;rintro _ n D rfl;refine br (fun p=>?_) (fun p=>?_)
  ·exact fin _ n _ _ (e.trans (if_pos (by have q:(!aZ b[k])=true:=p;simpa using q))) rfl (Fz.t c D)
  ·conv=>whnf
   have q:(!aZ b[k])=false:=p;exact⟨⟨(k+1,n),Fz.t c D,g,e.trans (if_neg (by rw[show aZ b[k]=true by simpa using q];simp))⟩,i,leR [] s u rfl ⟨tv,tv⟩ ⟨cnt j,tv⟩ ⟨Fz.r n,tv⟩⟩
 ·have m:¬(k:Int) < (b.length:Int):=by omega
  rw[yg oo]at e;refine brj m ?_;exact fin _ G _ _ e rfl c
theorem Cm(F:Fz)(sk:SA)(a:List Kp)(b:KpsAt F sk a)(d:short a)(c:a.length < 1000000):
  Fo prog F 109 [.va sk,.va (.fn (.func 106) [])] (fun o _=>o=.ret (.va (.bool (!a.all aZ)))):=by
 have h:=ydj F sk a b d c;obtain⟨q,m,p,n,l,s,rfl,g,i,j,k⟩:=b;refine foS func109 ?_;refine useFs h ?_;rintro _ F1 e rfl;exact endFo (.ret (.va (.bool (!a.all aZ)))) F1 rfl e (Fz.r F1) rfl (ob (xx aZ a).symm) rfl
