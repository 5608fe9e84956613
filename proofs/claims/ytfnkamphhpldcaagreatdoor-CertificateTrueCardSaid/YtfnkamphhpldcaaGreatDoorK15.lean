import Derived.Test.YtfnkamphhpldcaaGreatDoorK14
import Derived.Test.YtfnkamphhpldcaaGreatDoorK09
set_option maxHeartbeats 64000000
namespace Go.Proofs.YtfnkamphhpldcaaGreatDoor
open Go Sx
set_option maxRecDepth 100000
def iA(i c:Nat):List Int->SA
 |[]=>.nilsl
 |_::r=>.slice false i 0 0 1 (r.length+1) c
def iE(c:Nat)(s:List Int):Ent:=.opt (!s.isEmpty) (.arr 3 1 (s.map encI) c)
def oA(i c:Nat):List Stp->SA
 |[]=>.nilsl
 |_::r=>.slice false i 0 0 2 (r.length+1) c
def oE(c:Nat)(s:List Stp):Ent:=.opt (!s.isEmpty) (.arr 56 2 (s.map enc) c)
theorem zcr{μ:Mu}{i j:Nat}(h:μ i 0=(j,0))(c:Nat)(s:List Int):(iA i c s).ren μ=iA j c s:=by
 cases s with
 |nil=>rfl
 |cons x r=>simp only[iA,SA.ren,h]
theorem zms{a b c d e f g h c' i e' j:SA}(h1:a=g)(k:b=h)(l:c=c')(m:d=i)(n:e=e')(o:f=j):
  SB.cells 265 [.nilsl,a,b,c,d,e,f]=SB.cells 265 [.nilsl,g,h,c',i,e',j]:=by subst h1 k l m n o;rfl
theorem yct(μ:Mu)(c:Nat)(s:List Int):(iE c s).ren μ=iE c s:=by
 show Ent.opt _ (SB.ren μ _)=_;rw[zcx];rfl
theorem zba{x:Option Ent}{μ:Mu}{c:Nat}{s:List Int}(h:subE x (iE c s)):subE x ((iE c s).ren μ):=by rw[yct];exact h
theorem zav(c:Nat)(s:List Int):subE (some (iE c s)) (iE c s):=⟨rfl,rfl⟩
theorem zm7{c:Nat}{s:List Int}(L:List (List SA))(h:L=s.map encI):subE (some (.one (.arr 3 1 L c))) (iE c s):=by rw[h];exact rfl
theorem za4(n c:Nat)(s:List Int):(iE c s).below n:=zb7 n s c
theorem z5m{n i:Nat}(h:i < n)(c:Nat)(s:List Int):(iA i c s).below n:=by
 cases s with
 |nil=>trivial
 |cons x r=>exact .inr h
theorem zys(c d e f g h:Nat)(i j k l m n:List Int):(SB.cells 265 [.nilsl,iA 2 c i,iA 3 d j,iA 4 e k,iA 5 f l,iA 6 g m,iA 7 h n]).below 8:=by
 intro a b;simp only[qn,qy,or_false]at b;rcases b with rfl | rfl | rfl | rfl | rfl | rfl | rfl
 ·trivial
 all_goals exact z5m (by omega) _ _
theorem zm6{μ:Mu}{i j:Nat}(h:μ i 0=(j,0))(c n:Nat)(s:List Int)(ν:Int)(a:n=s.length+1):SA.slice false j 0 0 1 n c=(iA i c (s++[ν])).ren μ:=by
 rw[zcr h,a];cases s with
 |nil=>rfl
 |cons x r=>simp[iA]
theorem zhx{κ:Int}{l:List Stp}{k:Nat}{s:List Int}{ν:Int}(a:s=sel κ (l.take k))(g:k < l.length)(h:l[k]=(κ,ν)):s++[ν]=sel κ (l.take (k+1)):=by
 rw[ybe κ l k g (by rw[h]),a,h]
theorem zb6{κ b:Int}{l:List Stp}{k:Nat}{s:List Int}{ν:Int}(c:s=sel κ (l.take k))(g:k < l.length)(h:l[k]=(b,ν))(a:b≠κ):s=sel κ (l.take (k+1)):=by
 rw[ydd κ l k g (by rw[h];exact a),c]
theorem ztk{κ:Int}{l:List Stp}{k:Nat}{s:List Int}(a:s=sel κ (l.take k)):s.length<=k:=by
 rw[a];have:=ydc κ (l.take k);rw[qo]at this;omega
def piece(κ:Int)(s:List Int):List Stp:=if s=[]then []else if κ=3 then [(3,mx s)]else if κ=5 then(s.take 5).map (fun n=>(5,n))else [(κ,mn s)]
def pieces(a b c d e:List Int):List (List Stp):=[[],piece 1 a,piece 2 b,piece 3 c,piece 4 d,piece 5 e,[]]
def normS(l:List Stp):List Stp:=if sel 6 l=[]then(pieces (sel 1 l) (sel 2 l) (sel 3 l) (sel 4 l) (sel 5 l)).flatten else [(6,0)]
theorem zet{a b c d e:List Int}{k:Nat}{out:List Stp}(p:List Stp)(h:out=((pieces a b c d e).take k).flatten)(f:(pieces a b c d e)[k]? =some p):out++p=((pieces a b c d e).take (k+1)).flatten:=by
 have i:=(ql.1 f).1;have g:=(ql.1 f).2;rw[zds i,g,h]
theorem zhc(κ:Int)(s:List Int):(piece κ s).length<=5:=by
 unfold piece;split
 ·simp
 ·split
  ·simp
  ·split
   ·simp;omega
   ·simp
theorem zju(a b c d e:List Int)(k:Nat):((pieces a b c d e).take k).flatten.length<=100:=by
 refine q8 (zdm _ k) ?_;have h1:=zhc 1 a;have f:=zhc 2 b;have g:=zhc 3 c;have h:=zhc 4 d;have i:=zhc 5 e;simp only[pieces,jy,qah,qd,qu];omega
theorem zw4(x:Int)(r:List Int):piece 5 (x::r)=((x::r).take 5).map (fun n=>(5,n)):=by simp[piece]
theorem zls{κ:Int}{x:Int}{r:List Int}(a:κ≠3)(b:κ≠5):piece κ (x::r)=[(κ,mn (x::r))]:=by simp[piece,a,b]
theorem zvd{μ:Mu}{i j:Nat}(h:μ i 0=(j,0))(c n:Nat)(s:List Stp)(t:Stp)(a:n=s.length+1):atomE ((oA i c (s++[t])).ren μ) (SA.slice false j 0 0 2 n c):=by
 subst a;cases s with
 |nil=>simp only[oA,qv,SA.ren,h];exact⟨rfl,rfl,rfl,.inr ⟨rfl,rfl,rfl,rfl⟩⟩
 |cons x r=>simp only[oA,jt,SA.ren,h];exact⟨rfl,by simp,rfl,.inr ⟨rfl,rfl,rfl,rfl⟩⟩
theorem yc5(μ:Mu)(c:Nat)(s:List Stp):(oE c s).ren μ=oE c s:=by
 show Ent.opt _ (SB.ren μ _)=_;rw[zhp];rfl
theorem zkg{x:Option Ent}{μ:Mu}{c:Nat}{s:List Stp}(h:subE x (oE c s)):subE x ((oE c s).ren μ):=by rw[yc5];exact h
theorem z04{c:Nat}{s:List Stp}(L:List (List SA))(h:L=s.map enc):subE (some (.one (.arr 56 2 L c))) (oE c s):=by rw[h];exact rfl
theorem zlq(c:Nat)(s:List Stp):subE (some (oE c s)) (oE c s):=⟨rfl,rfl⟩
theorem zfa(n c:Nat)(s:List Stp):(oE c s).below n:=zeq n s c
structure N1(l:List Stp)(k:Nat)(s1 s2 s3 s4 s5 s6:List Int)(c5:Nat):Prop where
 hk:k<=l.length
 h1:s1=sel 1 (l.take k)
 h2:s2=sel 2 (l.take k)
 h3:s3=sel 3 (l.take k)
 h4:s4=sel 4 (l.take k)
 h5:s5=sel 5 (l.take k)
 h6:s6=sel 6 (l.take k)
 h7:s5.length<=c5
abbrev LC:=List Int×Nat
abbrev X1(l:List Stp):={ x:Nat×LC×LC×LC×LC×LC×LC // N1 l x.1 x.2.1.1 x.2.2.1.1 x.2.2.2.1.1 x.2.2.2.2.1.1 x.2.2.2.2.2.1.1 x.2.2.2.2.2.2.1 x.2.2.2.2.2.1.2 }
theorem brF{b:Bool}{x y:Prop}(h:b=false)(k:y):Br b x y:=br (fun g=>absurd (h.symm.trans g) (by decide)) fun _=>k
theorem brT{b:Bool}{x y:Prop}(h:b=true)(k:x):Br b x y:=br (fun _=>k) fun g=>absurd (h.symm.trans g) (by decide)
theorem cs7(k:Nat)(h:k < 7)(b c d e f:List Int):(k=0\/(k=1/\b=[])\/(k=2/\c=[])\/(k=3/\d=[])\/(k=4/\e=[])\/(k=5/\f=[])\/k=6)\/
  ((k=1/\∃x r,b=x::r)\/(k=2/\∃x r,c=x::r)\/(k=3/\∃x r,d=x::r)\/(k=4/\∃x r,e=x::r))\/(k=5/\∃x r,f=x::r):=by
 have a:∀s:List Int,s=[]\/∃x r,s=x::r:=fun s=>by cases s<;>simp
 have i:=a b;have j:=a c;have l:=a d;have m:=a e;have n:=a f;have g:k=0\/k=1\/k=2\/k=3\/k=4\/k=5\/k=6:=by omega
 clear a
 grind
theorem zq3(F:Fz)(sl:SA)(ls:List (List Stp))(hs:zts F sl ls)(hn:ls.length < 1000)(hl:ls.flatten.length < 100000)(R:∀s∈ls.flatten,1<=s.1/\s.1<=6):
  Fo Tryz.prog F 132 [.va sl] (fun o Q=>∃sc,o=.ret (.va sc)/\zay Q sc (normS ls.flatten)):=by
 have hc:=zy6 F sl ls hs hn (by omega);obtain⟨l,au⟩:∃l,l=ls.flatten:=⟨_,rfl⟩
 rw[<-au]at hl R hc ⊢;obtain⟨sn,sb,se,a9,sL,sr,rfl,A,B,D,E⟩:=hs;refine foS Tryz.func132 ?_;refine useFs (hc) ?_;rintro _ F1 l1 ⟨sa,rfl,ha⟩;conv=>whnf
 obtain⟨a0,ay,aq,az,ap,a7,rfl,aj,an,ax,ao⟩:=ha
 conv=>whnf
 refine zak hΘ (X:=X1 l) (fun x=>[(14,.va (.int .i64 x.1.1))]) (5::jr 15 15 [])
  (fun x=>[(0,.frz F1),(1,.one (.cells 265 [.nilsl,iA 2 x.1.2.1.2 x.1.2.1.1,iA 3 x.1.2.2.1.2 x.1.2.2.1.1,iA 4 x.1.2.2.2.1.2 x.1.2.2.2.1.1,iA 5 x.1.2.2.2.2.1.2 x.1.2.2.2.2.1.1,iA 6 x.1.2.2.2.2.2.1.2 x.1.2.2.2.2.2.1.1,iA 7 x.1.2.2.2.2.2.2.2 x.1.2.2.2.2.2.2.1])),
   (2,iE x.1.2.1.2 x.1.2.1.1),(3,iE x.1.2.2.1.2 x.1.2.2.1.1),(4,iE x.1.2.2.2.1.2 x.1.2.2.2.1.1),(5,iE x.1.2.2.2.2.1.2 x.1.2.2.2.2.1.1),(6,iE x.1.2.2.2.2.2.1.2 x.1.2.2.2.2.2.1.1),(7,iE x.1.2.2.2.2.2.2.2 x.1.2.2.2.2.2.2.1)]) 8 (fun x=>l.length - x.1.1)
  ⟨(0,([],0),([],0),([],0),([],0),([],0),([],0)),⟨by simp,rfl,rfl,rfl,rfl,rfl,rfl,qi 0⟩⟩
  (fun w y=>leI [(2,2),(3,3),(4,4),(5,5),(6,6),(7,7)] w y rfl ?_ ⟨rfl,tv⟩ ⟨Fz.r F1,rfl,rfl,rfl,rfl,rfl,rfl,rfl,tv⟩) ?_
 ·exact⟨tv,zys _ _ _ _ _ _ _ _ _ _ _ _,za4 _ _ _,za4 _ _ _,za4 _ _ _,za4 _ _ _,za4 _ _ _,za4 _ _ _,tv⟩
 rintro⟨⟨k,⟨A,c1⟩,⟨B,c2⟩,⟨D,c3⟩,⟨E,c4⟩,⟨J,c5⟩,⟨V,c6⟩⟩,hk,h1,O,Y,Z,U,h6,h7⟩ w y;refine br (fun gb=>?_) (fun gb=>?_)
 ·have c:k < l.length:=by simpa using gb
  clear gb;have hκ:=R l[k] (qw c);have d:∃κ ν,l[k]=(κ,ν):=⟨_,_,rfl⟩
  obtain⟨κ,ν,d⟩:=d;rw[d]at hκ;replace hκ:1<=κ/\κ<=6:=hκ;refine⟨Sl.lt aj c,⟨by simp,by simpa using c⟩,_,an (Sl.lt aj c),?_⟩;conv=>whnf
  have ak:ap[aq+(k:Int).toNat]? =some (enc (κ,ν)):=(Sl.at ao c).trans (by rw[d]);refine⟨_,ak,?_⟩
  have hN:∀(κ:Int) (s:List Int),s=sel κ (l.take k)->s=[]\/∃x r,s=x::r/\r.length+1<=k:=fun κ s h=>by
   have O:=ztk h;rcases s with _ | ⟨x,r⟩
   ·exact .inl rfl
   ·exact .inr ⟨x,r,rfl,O⟩
  have ae:(κ=1/\A=[])\/(κ=1/\∃x r,A=x::r/\r.length+1<=k)\/(κ=2/\B=[])\/(κ=2/\∃x r,B=x::r/\r.length+1<=k)\/(κ=3/\D=[])\/(κ=3/\∃x r,D=x::r/\r.length+1<=k)\/(κ=4/\E=[])\/(κ=4/\∃x r,E=x::r/\r.length+1<=k)\/(κ=5/\J=[])\/(κ=5/\∃x r,J=x::r/\r.length+1<=k)\/(κ=6/\V=[])\/(κ=6/\∃x r,V=x::r/\r.length+1<=k):=by
   have a8:κ=1\/κ=2\/κ=3\/κ=4\/κ=5\/κ=6:=by omega
   have n1:=hN 1 A h1;have n2:=hN 2 B O;have n3:=hN 3 D Y;have n4:=hN 4 E Z;have n5:=hN 5 J U;have n6:=hN 6 V h6;clear hN ak d h1 O Y Z U h6 h7;simp only[<-and_or_left,<-or_assoc]at*
   grind
  have p:l.length - (k+1) < l.length - k:=by omega
  have u:k < 4611686018427387904:=by omega
  have m:∀a1 a2 a3 a4 a5 a6 b1 b2 b3 b4 b5 b6,bH 8 [(0,.frz F1),(1,.one (.cells 265 [.nilsl,iA 2 a1 b1,iA 3 a2 b2,iA 4 a3 b3,iA 5 a4 b4,iA 6 a5 b5,iA 7 a6 b6])),(2,iE a1 b1),(3,iE a2 b2),(4,iE a3 b3),(5,iE a4 b4),(6,iE a5 b5),(7,iE a6 b6)]:=
   fun _ _ _ _ _ _ _ _ _ _ _ _=>⟨tv,zys _ _ _ _ _ _ _ _ _ _ _ _,za4 _ _ _,za4 _ _ _,za4 _ _ _,za4 _ _ _,za4 _ _ _,za4 _ _ _,tv⟩
  clear hN;rcases ae with⟨rfl,rfl⟩ | ⟨rfl,x,r,rfl,G⟩ | ⟨rfl,rfl⟩ | ⟨rfl,x,r,rfl,G⟩ | ⟨rfl,rfl⟩ | ⟨rfl,x,r,rfl,G⟩ | ⟨rfl,rfl⟩ | ⟨rfl,x,r,rfl,G⟩ | ⟨rfl,rfl⟩ | ⟨rfl,x,r,rfl,G⟩ | ⟨rfl,rfl⟩ | ⟨rfl,x,r,rfl,G⟩
  all_goals
   refine dwS (lk [0,1,2,3,4,5,6,7] (.alt 8 (.alt 9 (.look 10 (.last 11 .done)) .nil) .nil)) [1,8] ?_;conv=>whnf
   repeat' ((conv=>whnf);first
    |refine⟨rfl,?_⟩
    |refine⟨Fz.r _,rfl,?_⟩
    |refine⟨Fz.r _,rfl,rfl,?_⟩
    |refine⟨⟨by simp,by simp⟩,?_⟩
    |fail)
   refine⟨qi 1,[encI ν],rfl,?_⟩;conv=>whnf
   first
   |refine⟨rfl,rfl,by show 1*8<=140737488355328;omega,fun c' hc=>?_⟩
   |refine⟨rfl,rfl,by simp,rfl,by show(r.length+1+1)*8<=140737488355328;omega,fun c' hc=>?_⟩
   repeat' ((conv=>whnf);first
    |refine⟨rfl,?_⟩
    |refine⟨Fz.r _,rfl,?_⟩
    |refine⟨Fz.r _,rfl,rfl,?_⟩
    |refine⟨⟨by simp,by simp⟩,?_⟩
    |fail)
   conv=>whnf
   first
   |exact⟨⟨(k+1,(_++[ν],c'),(B,c2),(D,c3),(E,c4),(J,c5),(V,c6)),⟨c,zhx h1 c d,zb6 O c d (by decide),zb6 Y c d (by decide),zb6 Z c d (by decide),zb6 U c d (by decide),zb6 h6 c d (by decide),h7⟩⟩,p,leR [(2,10),(3,3),(4,4),(5,5),(6,6),(7,7)] w y rfl (m _ _ _ _ _ _ _ _ _ _ _ _) ⟨cnt u,tv⟩ ⟨Fz.r F1,zms (zm6 (μ:=sig [(2,10),(3,3),(4,4),(5,5),(6,6),(7,7)]) (i:=2) (j:=10) rfl c' _ _ ν rfl) (zcr (μ:=sig [(2,10),(3,3),(4,4),(5,5),(6,6),(7,7)]) (i:=3) (j:=3) rfl _ _).symm (zcr (μ:=sig [(2,10),(3,3),(4,4),(5,5),(6,6),(7,7)]) (i:=4) (j:=4) rfl _ _).symm (zcr (μ:=sig [(2,10),(3,3),(4,4),(5,5),(6,6),(7,7)]) (i:=5) (j:=5) rfl _ _).symm (zcr (μ:=sig [(2,10),(3,3),(4,4),(5,5),(6,6),(7,7)]) (i:=6) (j:=6) rfl _ _).symm (zcr (μ:=sig [(2,10),(3,3),(4,4),(5,5),(6,6),(7,7)]) (i:=7) (j:=7) rfl _ _).symm,zba (zm7 _ (by simp)),zba (zav _ _),zba (zav _ _),zba (zav _ _),zba (zav _ _),zba (zav _ _),tv⟩⟩
   |exact⟨⟨(k+1,(A,c1),(_++[ν],c'),(D,c3),(E,c4),(J,c5),(V,c6)),⟨c,zb6 h1 c d (by decide),zhx O c d,zb6 Y c d (by decide),zb6 Z c d (by decide),zb6 U c d (by decide),zb6 h6 c d (by decide),h7⟩⟩,p,leR [(2,2),(3,10),(4,4),(5,5),(6,6),(7,7)] w y rfl (m _ _ _ _ _ _ _ _ _ _ _ _) ⟨cnt u,tv⟩ ⟨Fz.r F1,zms (zcr (μ:=sig [(2,2),(3,10),(4,4),(5,5),(6,6),(7,7)]) (i:=2) (j:=2) rfl _ _).symm (zm6 (μ:=sig [(2,2),(3,10),(4,4),(5,5),(6,6),(7,7)]) (i:=3) (j:=10) rfl c' _ _ ν rfl) (zcr (μ:=sig [(2,2),(3,10),(4,4),(5,5),(6,6),(7,7)]) (i:=4) (j:=4) rfl _ _).symm (zcr (μ:=sig [(2,2),(3,10),(4,4),(5,5),(6,6),(7,7)]) (i:=5) (j:=5) rfl _ _).symm (zcr (μ:=sig [(2,2),(3,10),(4,4),(5,5),(6,6),(7,7)]) (i:=6) (j:=6) rfl _ _).symm (zcr (μ:=sig [(2,2),(3,10),(4,4),(5,5),(6,6),(7,7)]) (i:=7) (j:=7) rfl _ _).symm,zba (zav _ _),zba (zm7 _ (by simp)),zba (zav _ _),zba (zav _ _),zba (zav _ _),zba (zav _ _),tv⟩⟩
   |exact⟨⟨(k+1,(A,c1),(B,c2),(_++[ν],c'),(E,c4),(J,c5),(V,c6)),⟨c,zb6 h1 c d (by decide),zb6 O c d (by decide),zhx Y c d,zb6 Z c d (by decide),zb6 U c d (by decide),zb6 h6 c d (by decide),h7⟩⟩,p,leR [(2,2),(3,3),(4,10),(5,5),(6,6),(7,7)] w y rfl (m _ _ _ _ _ _ _ _ _ _ _ _) ⟨cnt u,tv⟩ ⟨Fz.r F1,zms (zcr (μ:=sig [(2,2),(3,3),(4,10),(5,5),(6,6),(7,7)]) (i:=2) (j:=2) rfl _ _).symm (zcr (μ:=sig [(2,2),(3,3),(4,10),(5,5),(6,6),(7,7)]) (i:=3) (j:=3) rfl _ _).symm (zm6 (μ:=sig [(2,2),(3,3),(4,10),(5,5),(6,6),(7,7)]) (i:=4) (j:=10) rfl c' _ _ ν rfl) (zcr (μ:=sig [(2,2),(3,3),(4,10),(5,5),(6,6),(7,7)]) (i:=5) (j:=5) rfl _ _).symm (zcr (μ:=sig [(2,2),(3,3),(4,10),(5,5),(6,6),(7,7)]) (i:=6) (j:=6) rfl _ _).symm (zcr (μ:=sig [(2,2),(3,3),(4,10),(5,5),(6,6),(7,7)]) (i:=7) (j:=7) rfl _ _).symm,zba (zav _ _),zba (zav _ _),zba (zm7 _ (by simp)),zba (zav _ _),zba (zav _ _),zba (zav _ _),tv⟩⟩
   |exact⟨⟨(k+1,(A,c1),(B,c2),(D,c3),(_++[ν],c'),(J,c5),(V,c6)),⟨c,zb6 h1 c d (by decide),zb6 O c d (by decide),zb6 Y c d (by decide),zhx Z c d,zb6 U c d (by decide),zb6 h6 c d (by decide),h7⟩⟩,p,leR [(2,2),(3,3),(4,4),(5,10),(6,6),(7,7)] w y rfl (m _ _ _ _ _ _ _ _ _ _ _ _) ⟨cnt u,tv⟩ ⟨Fz.r F1,zms (zcr (μ:=sig [(2,2),(3,3),(4,4),(5,10),(6,6),(7,7)]) (i:=2) (j:=2) rfl _ _).symm (zcr (μ:=sig [(2,2),(3,3),(4,4),(5,10),(6,6),(7,7)]) (i:=3) (j:=3) rfl _ _).symm (zcr (μ:=sig [(2,2),(3,3),(4,4),(5,10),(6,6),(7,7)]) (i:=4) (j:=4) rfl _ _).symm (zm6 (μ:=sig [(2,2),(3,3),(4,4),(5,10),(6,6),(7,7)]) (i:=5) (j:=10) rfl c' _ _ ν rfl) (zcr (μ:=sig [(2,2),(3,3),(4,4),(5,10),(6,6),(7,7)]) (i:=6) (j:=6) rfl _ _).symm (zcr (μ:=sig [(2,2),(3,3),(4,4),(5,10),(6,6),(7,7)]) (i:=7) (j:=7) rfl _ _).symm,zba (zav _ _),zba (zav _ _),zba (zav _ _),zba (zm7 _ (by simp)),zba (zav _ _),zba (zav _ _),tv⟩⟩
   |exact⟨⟨(k+1,(A,c1),(B,c2),(D,c3),(E,c4),(_++[ν],c'),(V,c6)),⟨c,zb6 h1 c d (by decide),zb6 O c d (by decide),zb6 Y c d (by decide),zb6 Z c d (by decide),zhx U c d,zb6 h6 c d (by decide),by simpa using hc⟩⟩,p,leR [(2,2),(3,3),(4,4),(5,5),(6,10),(7,7)] w y rfl (m _ _ _ _ _ _ _ _ _ _ _ _) ⟨cnt u,tv⟩ ⟨Fz.r F1,zms (zcr (μ:=sig [(2,2),(3,3),(4,4),(5,5),(6,10),(7,7)]) (i:=2) (j:=2) rfl _ _).symm (zcr (μ:=sig [(2,2),(3,3),(4,4),(5,5),(6,10),(7,7)]) (i:=3) (j:=3) rfl _ _).symm (zcr (μ:=sig [(2,2),(3,3),(4,4),(5,5),(6,10),(7,7)]) (i:=4) (j:=4) rfl _ _).symm (zcr (μ:=sig [(2,2),(3,3),(4,4),(5,5),(6,10),(7,7)]) (i:=5) (j:=5) rfl _ _).symm (zm6 (μ:=sig [(2,2),(3,3),(4,4),(5,5),(6,10),(7,7)]) (i:=6) (j:=10) rfl c' _ _ ν rfl) (zcr (μ:=sig [(2,2),(3,3),(4,4),(5,5),(6,10),(7,7)]) (i:=7) (j:=7) rfl _ _).symm,zba (zav _ _),zba (zav _ _),zba (zav _ _),zba (zav _ _),zba (zm7 _ (by simp)),zba (zav _ _),tv⟩⟩
   |exact⟨⟨(k+1,(A,c1),(B,c2),(D,c3),(E,c4),(J,c5),(_++[ν],c')),⟨c,zb6 h1 c d (by decide),zb6 O c d (by decide),zb6 Y c d (by decide),zb6 Z c d (by decide),zb6 U c d (by decide),zhx h6 c d,h7⟩⟩,p,leR [(2,2),(3,3),(4,4),(5,5),(6,6),(7,10)] w y rfl (m _ _ _ _ _ _ _ _ _ _ _ _) ⟨cnt u,tv⟩ ⟨Fz.r F1,zms (zcr (μ:=sig [(2,2),(3,3),(4,4),(5,5),(6,6),(7,10)]) (i:=2) (j:=2) rfl _ _).symm (zcr (μ:=sig [(2,2),(3,3),(4,4),(5,5),(6,6),(7,10)]) (i:=3) (j:=3) rfl _ _).symm (zcr (μ:=sig [(2,2),(3,3),(4,4),(5,5),(6,6),(7,10)]) (i:=4) (j:=4) rfl _ _).symm (zcr (μ:=sig [(2,2),(3,3),(4,4),(5,5),(6,6),(7,10)]) (i:=5) (j:=5) rfl _ _).symm (zcr (μ:=sig [(2,2),(3,3),(4,4),(5,5),(6,6),(7,10)]) (i:=6) (j:=6) rfl _ _).symm (zm6 (μ:=sig [(2,2),(3,3),(4,4),(5,5),(6,6),(7,10)]) (i:=7) (j:=10) rfl c' _ _ ν rfl),zba (zav _ _),zba (zav _ _),zba (zav _ _),zba (zav _ _),zba (zav _ _),zba (zm7 _ (by simp)),tv⟩⟩
 ·have c:k=l.length:=by have g1:¬k < l.length:=by simpa using gb
                        have:=hk;omega
  have e1:A=sel 1 l:=by have:=h1;rw[c,yv]at this;exact this
  have e2:B=sel 2 l:=by have:=O;rw[c,yv]at this;exact this
  have e3:D=sel 3 l:=by have:=Y;rw[c,yv]at this;exact this
  have e4:E=sel 4 l:=by have:=Z;rw[c,yv]at this;exact this
  have e5:J=sel 5 l:=by have:=U;rw[c,yv]at this;exact this
  have e6:V=sel 6 l:=by have:=h6;rw[c,yv]at this;exact this
  rcases V with _ | ⟨x6,r6⟩
  ·refine⟨⟨by decide,by decide⟩,brd (by decide) ?_⟩;conv=>whnf
   refine zak hΘ (X:={ x:Nat×List Stp×Nat // x.1<=7/\x.2.1=((pieces A B D E J).take x.1).flatten }) (fun x=>[(6,.va (oA 8 x.1.2.2 x.1.2.1)),(37,.va (.int .i64 x.1.1))]) (7::8::10::jr 38 38 [])
    (fun x=>[(0,.frz F1),(2,iE c1 A),(3,iE c2 B),(4,iE c3 D),(5,iE c4 E),(6,iE c5 J),(8,oE x.1.2.2 x.1.2.1)]) 9 (fun x=>7 - x.1.1) ⟨(0,[],0),by simp⟩
    (fun w y=>leI [(8,8)] w y rfl ⟨tv,za4 _ _ _,za4 _ _ _,za4 _ _ _,za4 _ _ _,za4 _ _ _,zfa _ _ _,tv⟩ ⟨rfl,rfl,tv⟩ ⟨Fz.r F1,zba (zav _ _),zba (zav _ _),zba (zav _ _),zba (zav _ _),zba (zav _ _),rfl,tv⟩) ?_
   rintro⟨⟨k2,out,co⟩,al,f⟩ w y;replace al:k2<=7:=al;replace f:out=((pieces A B D E J).take k2).flatten:=f;refine br (fun W=>?_) (fun W=>?_)
   ·have ad:k2 < 7:=by have:(k2:Int) < 7:=by simpa using W
                       omega
    clear W
    have same:∀k,(pieces A B D E J)[k]? =some []->out=((pieces A B D E J).take k).flatten->out=((pieces A B D E J).take (k+1)).flatten:=fun k h1 O=>by
     have:=zet [] O h1;rwa[q5]at this
    have ar:=cs7 k2 ad A B D E J;have af:out.length<=100:=by rw[f];exact zju _ _ _ _ _ _
    rcases ar with h | h | h
    ·rcases h with rfl | ⟨rfl,rfl⟩ | ⟨rfl,rfl⟩ | ⟨rfl,rfl⟩ | ⟨rfl,rfl⟩ | ⟨rfl,rfl⟩ | rfl
     all_goals
      have hs:=same _ rfl f;rcases out with _ | ⟨xo,I⟩
      all_goals
       refine⟨⟨by simp,by simp⟩,_,rfl,bre (by decide) ?_⟩;exact⟨⟨(_,_,co),by simp,hs⟩,by simp,leR [(8,8)] w y rfl ⟨tv,za4 _ _ _,za4 _ _ _,za4 _ _ _,za4 _ _ _,za4 _ _ _,zfa _ _ _,tv⟩ ⟨(by first | exact rfl | exact⟨rfl,rfl,rfl,.inr ⟨rfl,rfl,rfl,rfl⟩⟩),rfl,tv⟩ ⟨Fz.r F1,zba (zav _ _),zba (zav _ _),zba (zav _ _),zba (zav _ _),zba (zav _ _),zkg (zlq _ _),tv⟩⟩
    ·rcases h with⟨rfl,x,r,rfl⟩ | ⟨rfl,x,r,rfl⟩ | ⟨rfl,x,r,rfl⟩ | ⟨rfl,x,r,rfl⟩
     all_goals
      have K:r.length+1<=k:=ztk (s:=x::r) (by assumption)
      have L:=by first
       |exact zet [(1,mn (x::r))] f (congrArg some (zls (by decide) (by decide)))
       |exact zet [(2,mn (x::r))] f (congrArg some (zls (by decide) (by decide)))
       |exact zet [(3,mx (x::r))] f rfl
       |exact zet [(4,mn (x::r))] f (congrArg some (zls (by decide) (by decide)))
      rcases out with _ | ⟨xo,I⟩
      all_goals
       refine⟨⟨by simp,by simp⟩,_,rfl,?_⟩;refine br (fun g=>absurd g (by simp;omega)) (fun _=>?_);conv=>whnf
       first | refine brF rfl ?_ | refine brT rfl ?_
       conv=>whnf
       try refine brF rfl ?_
       conv=>whnf
       first
       |refine borrow 2 (fun _=>.arr 3 1 ((x::r).map encI) c1) rfl rfl rfl (fun _ _=>zcx _ (x::r) _) (fun _ _=>zb7 _ _ _) ?_
       |refine borrow 3 (fun _=>.arr 3 1 ((x::r).map encI) c2) rfl rfl rfl (fun _ _=>zcx _ (x::r) _) (fun _ _=>zb7 _ _ _) ?_
       |refine borrow 4 (fun _=>.arr 3 1 ((x::r).map encI) c3) rfl rfl rfl (fun _ _=>zcx _ (x::r) _) (fun _ _=>zb7 _ _ _) ?_
       |refine borrow 5 (fun _=>.arr 3 1 ((x::r).map encI) c4) rfl rfl rfl (fun _ _=>zcx _ (x::r) _) (fun _ _=>zb7 _ _ _) ?_
       intro b Q aw hb
       first
       |refine usePt (yc0 Q _ (x::r) (Sl.new (hb 0 ⟨rfl,rfl⟩)) (by simp;omega) (by simp)) ?_
       |refine usePt (ycz Q _ (x::r) (Sl.new (hb 0 ⟨rfl,rfl⟩)) (by simp;omega) (by simp)) ?_
       refine⟨Q,rfl,Fz.r _,rfl,fun _ _ _ _ _ _ h=>h,?_⟩;conv=>whnf
       refine rounds hΘ 2 ?_;refine bre (by decide) ⟨rfl,⟨by decide,by decide⟩,_,rfl,?_⟩;conv=>whnf
       first
       |refine⟨qi 1,[enc (1,mn (x::r))],rfl,?_⟩
       |refine⟨qi 1,[enc (2,mn (x::r))],rfl,?_⟩
       |refine⟨qi 1,[enc (3,mx (x::r))],rfl,?_⟩
       |refine⟨qi 1,[enc (4,mn (x::r))],rfl,?_⟩
       conv=>whnf
       first
       |refine⟨rfl,rfl,by show 1*16<=140737488355328;omega,fun c' hc=>?_⟩
       |refine⟨rfl,rfl,by simp,rfl,by replace af:I.length+1<=100:=af
                                      show(I.length+1+1)*16<=140737488355328;omega,fun c' hc=>?_⟩
       refine brd (by decide) ?_;exact⟨⟨(_,_,c'),by simp,L⟩,by simp,leR [(8,11)] w y rfl ⟨tv,za4 _ _ _,za4 _ _ _,za4 _ _ _,za4 _ _ _,za4 _ _ _,zfa _ _ _,tv⟩ ⟨by first | exact zvd (μ:=sig [(8,11)]) (i:=8) (j:=11) rfl c' _ [] (0,0) rfl | exact zvd (μ:=sig [(8,11)]) (i:=8) (j:=11) rfl c' _ (xo::I) _ rfl,rfl,tv⟩ ⟨Fz.r F1,zba (zav _ _),zba (zav _ _),zba (zav _ _),zba (zav _ _),zba (zav _ _),zkg (z04 _ (by simp)),tv⟩⟩
    ·obtain⟨rfl,x,r,rfl⟩:=h;have K:=ztk U;replace K:r.length+1<=k:=K;have av:r.length+1<=c5:=h7;have L:=zet ((x::r).take 5 |>.map (fun n=>(5,n))) f (congrArg some (zw4 x r));have af:out.length<=100:=by rw[f];exact zju _ _ _ _ _ _
     refine⟨⟨by simp,by simp⟩,_,rfl,?_⟩;refine br (fun g=>absurd g (by simp;omega)) (fun _=>?_);refine brd (by simp) ?_;refine bre (by simp) ⟨⟨by split<;>omega,by dsimp only;split<;>omega⟩,?_⟩;conv=>whnf
     refine zak hΘ (X:={ q:Nat×List Stp×Nat // q.1<=min (r.length+1) 5/\q.2.1=out++((x::r).take q.1).map (fun n=>(5,n)) }) (fun x=>[(6,.va (oA 9 x.1.2.2 x.1.2.1)),(64,.va (.int .i64 x.1.1))]) (10::jr 65 10 [])
      (fun x=>[(0,.frz F1),(8,.gone),(9,oE x.1.2.2 x.1.2.1)]) 10 (fun x=>min (r.length+1) 5 - x.1.1) ⟨(0,out,co),by simp⟩ ?_ ?_
     ·intro w y;rcases out with _ | ⟨xo,I⟩
      ·exact leI [(9,8)] w y rfl ⟨tv,tv,zfa _ _ _,tv⟩ ⟨rfl,rfl,tv⟩ ⟨Fz.r F1,zkg (zlq _ _),tv⟩
      ·exact leI [(9,8)] w y rfl ⟨tv,tv,zfa _ _ _,tv⟩ ⟨⟨rfl,rfl,rfl,.inr ⟨rfl,rfl,rfl,rfl⟩⟩,rfl,tv⟩ ⟨Fz.r F1,zkg (zlq _ _),tv⟩
     rintro⟨⟨j,oi,ci⟩,hj,S⟩ ah ai;replace hj:j<=min (r.length+1) 5:=hj;replace S:oi=out++((x::r).take j).map (fun n=>(5,n)):=S;have ac:oi.length<=200:=by rw[S,qd,qe,qo];omega
     refine br (fun M=>?_) (fun M=>?_)
     ·have gj:j < min (r.length+1) 5:=by
       simp only[decide_eq_true_eq]at M;split at M<;>omega
      clear M;have ag:j < (x::r).length:=by simp;omega
      have ab:oi++[(5,(x::r)[j])]=out++((x::r).take (j+1)).map (fun n=>(5,n)):=by
       rw[qf ag,qs,<-qp,S];rfl
      have T:∀e:Nat,e=0->((x::r).map encI)[e+(j:Int).toNat]? =some (encI (x::r)[j]):=by
       intro e he;subst he;rw[qx,qk,qt,qa ag];rfl
      rcases oi with _ | ⟨yo,I⟩
      ·refine⟨rfl,⟨by simp,?_⟩,?_⟩
       ·dsimp only;split<;>omega
       refine⟨rfl,_,T _ (by dsimp only;split<;>rfl),qi 1,[enc (5,(x::r)[j])],rfl,rfl,rfl,by show 1*16<=140737488355328;omega,fun c' hc=>?_⟩;exact⟨⟨(j+1,[]++[(5,(x::r)[j])],c'),gj,ab⟩,by show min (r.length+1) 5 - (j+1) < min (r.length+1) 5 - j;omega,leR [(9,11)] ah ai rfl ⟨tv,tv,zfa _ _ _,tv⟩ ⟨(zvd (μ:=sig [(9,11)]) (i:=9) (j:=11) rfl c' _ ([]) (5,(x::r)[j]) rfl),cnt (by omega),tv⟩ ⟨Fz.r F1,zkg (z04 [enc (5,(x::r)[j])] rfl),tv⟩⟩
      ·replace ac:I.length+1<=200:=ac;refine⟨rfl,⟨by simp,?_⟩,?_⟩
       ·dsimp only;split<;>omega
       refine⟨rfl,_,T _ (by dsimp only;split<;>rfl),qi 1,[enc (5,(x::r)[j])],rfl,rfl,rfl,by simp,rfl,by show(I.length+1+1)*16<=140737488355328;omega,fun c' hc=>?_⟩;exact⟨⟨(j+1,yo::I++[(5,(x::r)[j])],c'),gj,ab⟩,by show min (r.length+1) 5 - (j+1) < min (r.length+1) 5 - j;omega,leR [(9,11)] ah ai rfl ⟨tv,tv,zfa _ _ _,tv⟩ ⟨(zvd (μ:=sig [(9,11)]) (i:=9) (j:=11) rfl c' _ (yo::I) (5,(x::r)[j]) rfl),cnt (by omega),tv⟩ ⟨Fz.r F1,zkg (z04 _ (by simp)),tv⟩⟩
     ·have gj:j=min (r.length+1) 5:=by
       simp only[decide_eq_false_iff_not]at M;split at M<;>omega
      have am:oi=((pieces A B D E (x::r)).take 6).flatten:=by
       rw[S,<-L,gj]
       congr 2
       rw[Nat.min_comm,<-qj (a:=x),<-qbj,yv]
      rcases oi with _ | ⟨yo,I⟩
      ·exact⟨⟨(6,[],ci),by simp,am⟩,by show 7 - 6 < 7 - 5;omega,leRn [_,_,_] [_,_] [(8,9)] w y rfl ⟨tv,za4 _ _ _,za4 _ _ _,za4 _ _ _,za4 _ _ _,za4 _ _ _,zfa _ _ _,tv⟩ ⟨rfl,rfl,tv⟩ ⟨Fz.r F1,zba (zav _ _),zba (zav _ _),zba (zav _ _),zba (zav _ _),zba (zav _ _),zkg (zlq _ _),tv⟩⟩
      ·exact⟨⟨(6,yo::I,ci),by simp,am⟩,by show 7 - 6 < 7 - 5;omega,leRn [_,_,_] [_,_] [(8,9)] w y rfl ⟨tv,za4 _ _ _,za4 _ _ _,za4 _ _ _,za4 _ _ _,za4 _ _ _,zfa _ _ _,tv⟩ ⟨⟨rfl,rfl,rfl,.inr ⟨rfl,rfl,rfl,rfl⟩⟩,rfl,tv⟩ ⟨Fz.r F1,zba (zav _ _),zba (zav _ _),zba (zav _ _),zba (zav _ _),zba (zav _ _),zkg (zlq _ _),tv⟩⟩
   ·have ad:k2=7:=by have:¬(k2:Int) < 7:=by simpa using W
                     omega
    subst ad
    have aa:out=normS l:=by
     rw[normS,<-e6,if_pos rfl,<-e1,<-e2,<-e3,<-e4,<-e5];exact f
    rcases out with _ | ⟨xo,I⟩
    ·exact endFo (.ret (.va (.slice true 0 0 0 2 0 0))) F1 rfl l1 (Fz.r F1) ⟨_,rfl,by rw[<-aa];exact Sl.nil⟩ ⟨rfl,rfl,rfl⟩ rfl
    ·refine zck 8 (fun _=>.arr 56 2 ((xo::I).map enc) co) rfl rfl rfl (fun _ _=>?_) (fun _ _=>zeq _ _ _) ?_
     ·exact zhp _ (xo::I) co
     intro b Q K hb;refine endFo (.ret (.va (.slice false 0 (b 0) 0 2 (I.length+1) co))) Q rfl (Fz.t l1 K) (Fz.r Q) ⟨_,rfl,?_⟩ ⟨rfl,rfl,rfl,.inr ⟨rfl,rfl,rfl,rfl⟩⟩ rfl;rw[<-aa];exact Sl.new (l:=xo::I) (hb 0 ⟨rfl,rfl⟩)
  ·refine⟨⟨by decide,by decide⟩,bre (by simp) ?_⟩;refine zdp 8 (fun _=>.arr 56 2 [enc (6,0)] 1) ?_;intro b Q K hb;refine endFo (.ret (.va (.slice false 0 (b 0) 0 2 1 1))) Q rfl (Fz.t l1 K) (Fz.r Q) ⟨_,rfl,?_⟩ ⟨rfl,rfl,rfl,.inr ⟨rfl,rfl,rfl,rfl⟩⟩ rfl;rw[normS,<-e6,if_neg (by simp)];exact Sl.new (l:=[(6,0)]) (hb 0 rfl)
theorem zik{p:Int}{l:List Stp}(h:za2 p l=true):∀s∈l,1<=s.1/\s.1<=6:=by
 intro s a;simp only[za2,qg]at h;have:=qq.1 h.2.2 s a;simp only[zbl,qg,decide_eq_true_eq]at this;exact this.1
theorem zje{p:Int}{l:List Stp}(h:za2 p l=true):l.length<=64:=by
 simp only[za2,qg,decide_eq_true_eq]at h;exact h.2.1
theorem ybh{F:Fz}{b c c':Nat}{a:SA}{l:List Stp}(e:zay F a l)(h:F b=some (.arr 50 1 [[a]] c)):zts F (.slice false 0 b 0 1 1 c') [l]:=
 SlR.new (l:=[l]) h rfl fun k x d=>by
  match k,d with
  |0,d=>simp at d;subst d;exact⟨[a],rfl,a,rfl,e⟩
theorem ybi{F:Fz}{b c c':Nat}{a e:SA}{l g:List Stp}(i:zay F a l)(f:zay F e g)(h:F b=some (.arr 50 1 [[a],[e]] c)):zts F (.slice false 0 b 0 1 2 c') [l,g]:=
 SlR.new (l:=[l,g]) h rfl fun k x d=>by
  match k,d with
  |0,d=>simp at d;subst d;exact⟨[a],rfl,a,rfl,i⟩
  |1,d=>simp at d;subst d;exact⟨[e],rfl,e,rfl,f⟩
def normR(p:Int)(l:List Stp):List Stp×Int:=if za2 p l=true then(normS l,0)else([],70)
def compR(p:Int)(a b:List Stp):List Stp×Int:=if za2 p a=true/\za2 p b=true then(normS (a++b),0)else([],70)
theorem zq2(l:List Stp):(normS l).length<=100:=by
 unfold normS;split
 ·have:=zju (sel 1 l) (sel 2 l) (sel 3 l) (sel 4 l) (sel 5 l) 7;exact this
 ·simp
theorem yar(F:Fz)(b:Nat)(a:SA)(l:List Stp)(c c':Nat)(g:zay F a l)(h:F b=some (.arr 50 1 [[a]] c)){p:Int}(d:za2 p l=true):
  Fo Tryz.prog F 132 [.va (.slice false 0 b 0 1 1 c')] (fun o f=>∃e,o=.ret (.va e)/\zay f e (normS l)):=by
 have i:=zje d;have:=zq3 F _ [l] (ybh (c':=c') g h) (by simp) (by simp;omega) (by simpa using zik d);rw[jy,qah,q5]at this;exact this
theorem yas(F:Fz)(b:Nat)(a g:SA)(l e:List Stp)(c c':Nat)(m:zay F a l)(f:zay F g e)(h:F b=some (.arr 50 1 [[a],[g]] c)){p:Int}(i:za2 p l=true)(d:za2 p e=true):
  Fo Tryz.prog F 132 [.va (.slice false 0 b 0 1 2 c')] (fun o k=>∃j,o=.ret (.va j)/\zay k j (normS (l++e))):=by
 have q:=zje i;have n:=zje d
 have:=zq3 F _ [l,e] (ybi (c':=c') m f h) (by simp) (by simp;omega) (by
  intro s hs;simp only[jy,qah,q5,yk]at hs;rcases hs with hs | hs
  ·exact zik i s hs
  ·exact zik d s hs)
 rw[jy,jy,qah,q5]at this;exact this
theorem znk(F:Fz)(m:SA)(l:List Stp)(p:Int)(d:zay F m l)(J:l.length < 1000000):
  Fo Tryz.prog F 62 [.va (.int .i64 p),.va m] (fun o u=>∃n,o=.ret (.tup [.va n,.va (.int .i64 (normR p l).2)])/\zay u n (normR p l).1):=by
 have L:=zkv F m l p d J;have f:=d;obtain⟨k,h,j,i,G,I,rfl,A,B,D,E⟩:=d;refine foS Tryz.func62 ?_;refine usePs (L) ?_;refine br (fun g=>?_) (fun g=>?_)
 ·have c:za2 p l=false:=not_t g;have e:normR p l=([],70):=by simp[normR,c]
  exact endFo (.ret (.tup [.va (.slice true 0 0 0 2 0 0),.va (.int .i64 70)])) F rfl (Fz.r F) (Fz.r F) ⟨_,by rw[e],by rw[e];exact Sl.nil⟩ ⟨⟨rfl,rfl,rfl⟩,rfl,tv⟩ rfl
 ·have c:za2 p l=true:=by simpa using g
  have e:normR p l=(normS l,0):=by simp[normR,c]
  refine zat 1 (fun _=>.arr 50 1 [[.slice k 0 h j 2 l.length i]] 1) ?_;intro b F1 s hb;refine useFs (yar F1 (b 0) _ l 1 1 (f.mono s) (hb 0 rfl) c) ?_;rintro _ q M ⟨n,rfl,a⟩;conv=>whnf
  have K:=a;obtain⟨O,w,y,x,Q,R,rfl,_⟩:=K;exact endFo (.ret (.tup [.va (.slice O 0 w y 2 (normS l).length x),.va (.int .i64 0)])) q rfl (Fz.t s M) (Fz.r q) ⟨_,by rw[e],by rw[e];exact a⟩ ⟨⟨rfl,rfl,rfl,.inr ⟨rfl,rfl,rfl,rfl⟩⟩,rfl,tv⟩ rfl
theorem zsl(F:Fz)(D E:SA)(a b:List Stp)(p:Int)(i:zay F D a)(hb:zay F E b)(la:a.length < 1000000)(lb:b.length < 1000000):
  Fo Tryz.prog F 134 [.va (.int .i64 p),.va D,.va E] (fun o J=>∃G,o=.ret (.tup [.va G,.va (.int .i64 (compR p a b).2)])/\zay J G (compR p a b).1):=by
 have y:=zkv F D a p i la;have A:=zkv F E b p hb lb;have j:=i;have q:=hb;obtain⟨n,k,m,l,U,V,rfl,Q,R,S,T⟩:=i;obtain⟨x,s,w,u,Y,Z,rfl,c,W,X,hb4⟩:=hb;refine foS Tryz.func134 ?_;refine usePs (y) ?_;refine⟨fun g=>?_,fun g=>?_⟩
 ·have f:za2 p a=true:=by simpa using g
  refine usePs (A) ?_;refine br (fun g=>?_) (fun g=>?_)
  ·have h:za2 p b=false:=not_t g;have e:compR p a b=([],70):=by simp[compR,h]
   exact endFo (.ret (.tup [.va (.slice true 0 0 0 2 0 0),.va (.int .i64 70)])) F rfl (Fz.r F) (Fz.r F) ⟨_,by rw[e],by rw[e];exact Sl.nil⟩ ⟨⟨rfl,rfl,rfl⟩,rfl,tv⟩ rfl
  ·have h:za2 p b=true:=by simpa using g
   have e:compR p a b=(normS (a++b),0):=by simp[compR,f,h]
   refine zat 1 (fun _=>.arr 50 1 [[.slice n 0 k m 2 a.length l],[.slice x 0 s w 2 b.length u]] 2) ?_;intro K F1 B c;refine useFs (yas F1 (K 0) _ _ a b 2 2 (j.mono B) (q.mono B) (c 0 rfl) f h) ?_;rintro _ I l2 ⟨G,rfl,d⟩;conv=>whnf
   have hs:=d;obtain⟨n2,L,O,M,L2,r2,rfl,_⟩:=hs;exact endFo (.ret (.tup [.va (.slice n2 0 L O 2 (normS (a++b)).length M),.va (.int .i64 0)])) I rfl (Fz.t B l2) (Fz.r I) ⟨_,by rw[e],by rw[e];exact d⟩ ⟨⟨rfl,rfl,rfl,.inr ⟨rfl,rfl,rfl,rfl⟩⟩,rfl,tv⟩ rfl
 ·have f:za2 p a=false:=not_t g;have e:compR p a b=([],70):=by simp[compR,f]
  exact endFo (.ret (.tup [.va (.slice true 0 0 0 2 0 0),.va (.int .i64 70)])) F rfl (Fz.r F) (Fz.r F) ⟨_,by rw[e],by rw[e];exact Sl.nil⟩ ⟨⟨rfl,rfl,rfl⟩,rfl,tv⟩ rfl
abbrev Kp:=Int×List Stp
def KpR(F:Fz)(y:List SA)(x:Kp):Prop:=∃a,y=[.int .i64 x.1,a]/\zay F a x.2
theorem KpR.mono{F b:Fz}{y:List SA}{x:Kp}(h:KpR F y x)(a:Fz.le F b):KpR b y x:=by
 obtain⟨d,h1,c⟩:=h;exact⟨d,h1,c.mono a⟩
abbrev KpsAt(F:Fz)(a:SA)(l:List Kp):Prop:=SlR F 96 2 (KpR F) a l
abbrev ClsAt(F:Fz)(a:SA)(l:List Kp):Prop:=SlR F 52 2 (KpR F) a l
theorem KpsAt.open{F:Fz}{t:Nat}{g:SA}{ks:List Kp}(h:SlR F t 2 (KpR F) g ks):∃(nil:Bool) (b e cap:Nat) (L:List (List SA)) (c:Nat) (i:Nat->SA),g=.slice nil 0 b e 2 ks.length cap/\(nil=true->ks=[])/\(nil=false->F b=some (.arr t 2 L c))/\e+ks.length<=L.length/\
  ∀(k:Nat) (h:k < ks.length),L[e+k]? =some [.int .i64 (ks[k]'h).1,i k]/\zay F (i k) (ks[k]'h).2:=by
 obtain⟨nil,b,e,cap,L,c,h1,j,l,m,n⟩:=h
 have f:∀k:Nat,∃a:SA,∀h:k < ks.length,L[e+k]? =some [.int .i64 (ks[k]'h).1,a]/\zay F a (ks[k]'h).2:=by
  intro k;by_cases d:k < ks.length
  ·obtain⟨y,p,a,rfl,o⟩:=n k ks[k] (by simp[d]);exact⟨a,fun _=>⟨p,o⟩⟩
  ·exact⟨.nilsl,fun h=>absurd h d⟩
 exact⟨nil,b,e,cap,L,c,fun k=>Classical.choose (f k),h1,j,l,m,fun k d=>Classical.choose_spec (f k) d⟩
def nameK(p:Int):Bool:=decide (p=1)||decide (p=2)||decide (p=3)||decide (p=4)||decide (p=7)
def zbo(k:Kp):Bool:=nameK k.1&&(decide (0 < k.2.length)&&(za2 k.1 k.2&&(decide (normS k.2=k.2)&&(!decide (k.1=4)||decide (k.2=[(6,0)])))))
def nameM:List MapEntry:=[⟨.int .i64 1,.string ⟨[116,101,120,116].toArray⟩,0⟩,⟨.int .i64 2,.string ⟨[109,97,114,107,115].toArray⟩,1⟩,⟨.int .i64 3,.string ⟨[99,111,110,115,116,97,110,116,115].toArray⟩,2⟩,⟨.int .i64 4,.string ⟨[102,111,114,109,117,108,97,115].toArray⟩,3⟩,⟨.int .i64 7,.string ⟨[98,105,116,115].toArray⟩,4⟩]
theorem z6f(F:Fz):Ct Tryz.prog 171 [] F [] 1 (fun o a b n0=>F=a/\n0=2/\o=.ret (.va (.map 1 0))/\b=[(1,.one (.obj (.map ⟨nameM⟩ 5)))]):=by
 refine ctS Tryz.func171 ?_;exact clean [(1,1)] (.ret (.va (.map 1 0))) F [(1,.one (.obj (.map ⟨nameM⟩ 5)))] 2 ⟨Fz.r F,rfl,rfl,rfl,rfl⟩ rfl rfl rfl (Out.bB_ok (o:=.ret (.va (.map 1 0))) rfl) ⟨tv,tv⟩ ⟨Fz.r F,rfl,tv⟩
theorem z6d(F:Fz):Fo Tryz.prog F 111 [] (fun o a=>∃e,o=.ret (.va e)/\zay a e [(6,0)]):=by
 refine foS Tryz.func111 ?_;refine zdp 1 (fun _=>.arr 56 2 ([(6,0)].map enc) 1) ?_;intro b a d c;exact endFo (.ret (.va (.slice false 0 (b 0) 0 2 1 1))) a rfl d (Fz.r a) ⟨_,rfl,Sl.new (l:=[(6,0)]) (c 0 rfl)⟩ ⟨rfl,rfl,rfl,.inr ⟨rfl,rfl,rfl,rfl⟩⟩ rfl
theorem z0a(F:Fz)(c:SA)(l:List Stp)(e:zay F c l)(I:l.length < 1000000):
  Fo Tryz.prog F 150 [.va c] (fun o _=>o=.ret (.va (.bool (decide (l=[(6,0)]))))):=by
 have b:=fun F1 (a:Fz.le F F1) d hb=>zir F1 c d l [(6,0)] (e.mono a) hb I
 obtain⟨p,k,n,m,j,q,rfl,f,g,h,i⟩:=e;refine foS Tryz.func150 ?_;refine useFs (z6d F) ?_;rintro _ F1 a ⟨d,rfl,hb⟩;have G:=b F1 a d hb;obtain⟨D,y,B,A,x,E,rfl,s,u,w,hb4⟩:=hb;refine usePs (G) ?_;exact endFs (.ret (.va (.bool (decide (l=[(6,0)]))))) a rfl
theorem zr9{P:Program}{F:Fz}{f:FuncId}{args:List SV}{Q c:Out->Fz->Prop}(h:Fo P F f args Q)(k:∀o b,Q o b->c o b):Fo P F f args c:=by
 unfold Fo at*;refine zh6 h fun o h n i=>?_
 unfold Cln at*;intro C ρ w e j S l hb;obtain⟨a,d,g,n0,x,⟨m,p,q,s,u⟩,r⟩:=i C ρ w e j S l hb;exact⟨a,d,g,n0,x,⟨m,p,q,s,k _ _ u⟩,r⟩
def capS:SA->Prop
 |.slice _ _ _ _ _ n c=>n<=c
 |_=>True
theorem zmv(F:Fz)(y:SA)(l:List Stp)(B:zay F y l)(w:l.length < 1000000):
  Fo Tryz.prog F 73 [.va y] (fun o e=>∃u,o=.ret (.va u)/\zay e u l/\capS u):=by
 obtain⟨A,D,G,E,L,d,rfl,k,m,i,hb4⟩:=B;rcases A with _ | _
 ·have a:=m rfl;rcases l with _ | ⟨x,r⟩
  ·refine foS Tryz.func73 ?_;refine brd (by decide) ⟨56,L,d,a,i,[],hb4,rfl,rfl,rfl,by decide,fun c j=>?_⟩;clear j;refine zdp 2 (fun _=>.arr 56 2 [] c) ?_;intro b e g f;exact endFo (.ret (.va (.slice false 0 (b 0) 0 2 0 c))) e rfl g (Fz.r e) ⟨_,rfl,Sl.new (l:=[]) (f 0 rfl),yh c⟩ ⟨rfl,rfl,rfl,.inr ⟨rfl,rfl,rfl,rfl⟩⟩ rfl
  ·replace w:r.length+1 < 1000000:=w;have s:(0+((x::r).map enc).length)*16<=140737488355328:=by rw[qe,qj];omega
   have p:∀{c:Nat},0+((x::r).map enc).length<=c->(x::r).length<=c:=fun h=>by rw[qe,qx]at h;exact h
   have I:∀c,(∀μ:Mu,(SB.arr 56 2 ((x::r).map enc) c).ren μ=SB.arr 56 2 ((x::r).map enc) c):=fun c μ=>zhp μ _ c
   refine foS Tryz.func73 ?_;refine brd (by decide) ⟨56,L,d,a,i,(x::r).map enc,hb4,rfl,rfl,rfl,s,fun c' j=>?_⟩;have n:=p j;clear j;refine zck 2 (fun _=>.arr 56 2 ((x::r).map enc) c') rfl rfl rfl (fun _ _=>zhp _ _ _) (fun _ _=>zeq _ _ _) ?_;intro b e g f;exact endFo (.ret (.va (.slice false 0 (b 0) 0 2 (x::r).length c'))) e rfl g (Fz.r e) ⟨_,rfl,Sl.new (l:=x::r) (f 0 rfl),n⟩ ⟨rfl,(by first | rfl | (rw[qe];omega)),(by first | rfl | (rw[qe];omega)),.inr ⟨rfl,rfl,rfl,rfl⟩⟩ rfl
 ·have q:=k rfl;subst q;refine foS Tryz.func73 ?_;refine bre (by decide) ?_;exact endFo (.ret (.va (.slice true 0 0 0 2 0 0))) F rfl (Fz.r F) (Fz.r F) ⟨_,rfl,Sl.nil,qi 0⟩ ⟨rfl,rfl,rfl⟩ rfl
theorem zy4(F:Fz)(b:SA)(l:List Stp)(e:zay F b l)(f:l.length < 1000000):
  Fo Tryz.prog F 73 [.va b] (fun o c=>∃a,o=.ret (.va a)/\zay c a l):=
 zr9 (zmv F b l e f) fun _ _ ⟨a,h1,d,_⟩=>⟨a,h1,d⟩
theorem zw2(p:Int):(p=1/\nameK p=true)\/(p=2/\nameK p=true)\/(p=3/\nameK p=true)\/(p=4/\nameK p=true)\/(p=7/\nameK p=true)\/((p≠1/\p≠2/\p≠3/\p≠4/\p≠7)/\nameK p=false):=by
 unfold nameK;by_cases h1:p=1
 ·left;simp[h1]
 by_cases a:p=2
 ·right;left;simp[a]
 by_cases b:p=3
 ·right;right;left;simp[b]
 by_cases c:p=4
 ·right;right;right;left;simp[c]
 by_cases d:p=7
 ·right;right;right;right;left;simp[d]
 ·right;right;right;right;right;simp[h1,a,b,c,d]
theorem kF0{p:Int}{l:List Stp}(h:nameK p=false):zbo (p,l)=false:=by simp only[zbo,h,q9]
theorem kF1{p:Int}{l:List Stp}(h:decide ((0:Int) < (l.length:Int))=false):zbo (p,l)=false:=by
 have a:decide (0 < l.length)=false:=by simp at h ⊢;omega
 simp only[zbo,a,q9,jz]
theorem kF2{p:Int}{l:List Stp}(h:decide ((normR p l).2=0)=false):zbo (p,l)=false:=by
 have a:za2 p l=false:=by
  cases b:za2 p l with
  |false=>rfl
  |true=>rw[normR,if_pos b]at h;cases h
 simp only[zbo,a,q9,jz]
theorem zkn{p:Int}{l:List Stp}(h:decide ((normR p l).2=0)=true):za2 p l=true/\(normR p l).1=normS l:=by
 cases a:za2 p l with
 |false=>rw[normR,if_neg (by rw[a];simp)]at h;cases h
 |true=>exact⟨rfl,by rw[normR,if_pos a]⟩
theorem kF3{p:Int}{l:List Stp}(b:decide ((normR p l).2=0)=true)(h:decide ((normR p l).1=l)=false):zbo (p,l)=false:=by
 have a:=zkn b;rw[a.2]at h;simp only[zbo,a.1,h,q9,jz]
theorem kT{p:Int}{l:List Stp}(e:nameK p=true)(d:decide ((0:Int) < (l.length:Int))=true)(b:decide ((normR p l).2=0)=true)(h:decide ((normR p l).1=l)=true):zbo (p,l)=(!decide (p=4)||decide (l=[(6,0)])):=by
 have a:=zkn b;have c:decide (0 < l.length)=true:=by simp at d ⊢;omega
 rw[a.2]at h;simp only[zbo,e,c,a.1,h,yq]
theorem znj(p:Int)(l:List Stp):(normR p l).1.length < 1000000:=by
 unfold normR;split
 ·have:=zq2 l;show(normS l).length < _;omega
 ·simp
theorem zz8(F:Fz)(q:SA)(p:Int)(l:List Stp)(u:zay F q l)(B:l.length < 1000000):
  Fo Tryz.prog F 107 [.agg [.int .i64 p,q]] (fun o _=>o=.ret (.va (.bool (zbo (p,l))))):=by
 have j:=znk F q l p u B;have x:=fun F1 (a:Fz.le F F1) sb hb=>zir F1 sb q (normR p l).1 l hb (u.mono a) (znj p l)
 have i:=fun F1 (a:Fz.le F F1)=>z0a F1 q l (u.mono a) B
 have c:∀(b:Bool) (F1:Fz) (h:Hp) (nx:Nat),zbo (p,l)=b->lget h 0=some (.frz F1)->Fz.le F F1->Cln 1 (FoK F fun o A=>o=.ret (.va (.bool (zbo (p,l))))) (.ret (.va (.bool b))) h nx:=by
  intro b F1 h nx hb s e;exact endFo (.ret (.va (.bool b))) F1 s e (Fz.r F1) (by rw[hb]) rfl rfl
 have finL:∀(b:Bool) (F1:Fz) (h:Hp) (nx:Nat),zbo (p,l)=b->lget h 0=some (.frz F1)->Fz.le F F1->Cln 1 (FoK F fun o A=>o=.ret (.va (.bool (zbo (p,l))))) (.ret (.va (.lit b))) h nx:=by
  intro b F1 h nx hb s e;exact endFo (.ret (.va (.bool b))) F1 s e (Fz.r F1) (by rw[hb]) rfl rfl
 have hc:=zw2 p;obtain⟨ab,Y,aa,Z,X,ac,rfl,T,U,V,W⟩:=u;rcases hc with⟨rfl,d⟩ | ⟨rfl,d⟩ | ⟨rfl,d⟩ | ⟨rfl,d⟩ | ⟨rfl,d⟩ | ⟨hp,d⟩
 all_goals
  refine foS Tryz.func107 ?_;refine dwS (.look 1 (.look 2 (.alt 0 (.alt 3 (lk [4,5,6,7,8] .done) .nil) .nil))) [1] ?_;refine⟨rfl,?_⟩;refine use (z6f F) [] rfl trivial rfl trivial (by simp) trivial ?_;rintro R F0 s n0 e ⟨rfl,rfl,rfl,rfl⟩;refine⟨Fz.r F,rfl,?_⟩;conv=>whnf
  repeat
   refine br (fun g=>absurd (od g) (by omega)) (fun _=>?_);conv=>whnf
  try (refine bri rfl ?_;(conv=>whnf))
  refine⟨Fz.r F,rfl,?_⟩;refine useFs j ?_;rintro _ F1 a ⟨sc,rfl,n⟩;have w:=x F1 a sc n;have y:=i F1 a;obtain⟨O,K,M,L,J,Q,rfl,D,E,G,I⟩:=n
  conv=>whnf
  first
   |exact c false F1 _ _ (kF0 d) rfl a
   |exact finL false F1 _ _ (kF0 d) rfl a
   |refine⟨fun k=>?_,fun k=>?_⟩
    ·refine⟨fun f=>?_,fun f=>?_⟩
     ·refine usePs (w) ?_;refine⟨fun m=>?_,fun m=>?_⟩
      ·conv=>whnf
       first
        |refine gaf (by decide) ?_
         conv=>whnf
         repeat
          refine gaf (by decide) ?_;conv=>whnf
         first
          |exact c true F1 _ _ (kT d k f m) rfl a
          |exact finL true F1 _ _ (kT d k f m) rfl a
        |refine gae (by decide) ?_
         conv=>whnf
         repeat
          refine gae (by decide) ?_;conv=>whnf
         refine useFs y ?_;rintro _ S l2 rfl;conv=>whnf
         repeat
          refine gae (by decide) ?_;conv=>whnf
         exact c _ S _ _ (kT d k f m) rfl (Fz.t a l2)
      ·conv=>whnf
       first
        |exact c false F1 _ _ (kF3 f m) rfl a
        |exact finL false F1 _ _ (kF3 f m) rfl a
     ·conv=>whnf
      first
       |exact c false F1 _ _ (kF2 f) rfl a
       |exact finL false F1 _ _ (kF2 f) rfl a
    ·conv=>whnf
     first
      |exact c false F1 _ _ (kF1 k) rfl a
      |exact finL false F1 _ _ (kF1 k) rfl a
def idxN{α:Type}(q:α->Bool):List α->Nat->Int
 |[],_=>-1
 |x::r,n=>if q x=false then n else idxN q r (n+1)
theorem zqg{α:Type}(q:α->Bool)(l:List α)(k:Nat)(h:k < l.length):idxN q (l.drop k) k=if q l[k]=false then(k:Int)else idxN q (l.drop (k+1)) (k+1):=by
 rw[jk h];rfl
theorem zuw{α:Type}(q:α->Bool):∀(l:List α) (n:Nat),(0<=idxN q l n)↔l.all q=false
 |[],n=>by simp[idxN]
 |x::r,n=>by
  simp only[idxN,qbq];split
  ·rename_i h;simp[h]
  ·rename_i h;have:q x=true:=by simpa using h
   rw[zuw q r (n+1),this];simp
theorem zuv{α:Type}(q:α->Bool)(l:List α):decide (0<=idxN q l 0)= !l.all q:=by
 have:=zuw q l 0;cases h:l.all q with
 |true=>rw[h]at this;simp only[Bool.not_true,decide_eq_false_iff_not];intro a;exact absurd (this.1 a) (by simp)
 |false=>rw[h]at this;simp only[Bool.not_false,decide_eq_true_eq];exact this.2 rfl
theorem zw1(F:Fz)(a:SA)(p:Int)(l:List Stp)(b:zay F a l)(q:l.length < 1000000):
  Fo Tryz.prog F 106 [.agg [.int .i64 p,a]] (fun o _=>o=.ret (.va (.bool (!zbo (p,l))))):=by
 have h:=zz8 F a p l b q;obtain⟨m,i,k,j,g,n,rfl,c,d,e,f⟩:=b;refine foS Tryz.func106 ?_;refine useFs h ?_;rintro _ F1 s rfl;exact endFs (.ret (.va (.bool (!zbo (p,l))))) s rfl
def short(ks:List Kp):Prop:=∀x∈ks,x.2.length < 1000000
theorem yae(F:Fz)(sk:SA)(ks:List Kp)(V:KpsAt F sk ks)(W:short ks)(hl:ks.length < 1000000):
  Fo Tryz.prog F 172 [.va sk,.va (.fn (.func 106) [])] (fun o _=>o=.ret (.va (.int .i64 (idxN zbo ks 0)))):=by
 obtain⟨kn,kb,ke,kc,kL,kr,rfl,B,k2,k3,k4⟩:=V
 have e:∀(x:Int) (F1:Fz) (h:Hp) (nx:Nat),idxN zbo ks 0=x->lget h 0=some (.frz F1)->Fz.le F F1->
   Cln 1 (FoK F fun o E=>o=.ret (.va (.int .i64 (idxN zbo ks 0)))) (.ret (.va (.int .i64 x))) h nx:=by
  intro x F1 h nx Y I w;exact endFo (.ret (.va (.int .i64 x))) F1 I w (Fz.r F1) (by rw[Y]) rfl rfl
 refine foS Tryz.func172 ?_;conv=>whnf
 refine zak hΘ (X:={ x:Nat×Fz // Fz.le F x.2/\x.1<=ks.length/\idxN zbo ks 0=idxN zbo (ks.drop x.1) x.1 }) (fun x=>[(8,.va (.int .i64 x.1.1))]) (4::5::jr 9 10 []) (fz fun x=>x.1.2) 1 (fun x=>ks.length - x.1.1) ⟨(0,F),Fz.r F,by simp,by simp⟩
  (fun s u=>leI [] s u rfl ⟨tv,tv⟩ ⟨rfl,tv⟩ ⟨Fz.r F,tv⟩) ?_
 rintro⟨⟨k,G⟩,b,l,d⟩ s u;replace b:Fz.le F G:=b;replace l:k<=ks.length:=l;replace d:idxN zbo ks 0=idxN zbo (ks.drop k) k:=d;by_cases g:k < ks.length
 ·have m:(k:Int) < (ks.length:Int):=by omega
  have i:ks.length - (k+1) < ks.length - k:=by omega
  have j:k < 4611686018427387904:=by omega
  have Z:=W ks[k] (qw g);rw[zqg zbo ks k g]at d;have f:=SlR.at k4 g;obtain⟨y,hy,a,rfl,A⟩:=f;have c:=zw1 G a ks[k].1 ks[k].2 (A.mono b) Z;obtain⟨T,Q,S,R,O,U,rfl,J,K,L,M⟩:=A;refine bri m ⟨SlR.lt B g,⟨by simp,m⟩,_,b _ _ (k2 (SlR.lt B g)),_,hy,?_⟩;refine useFs c ?_;rintro _ n D rfl;refine br (fun p=>?_) (fun p=>?_)
  ·exact e _ n _ _ (d.trans (if_pos (by have q:(!zbo ks[k])=true:=p;simpa using q))) rfl (Fz.t b D)
  ·conv=>whnf
   have q:(!zbo ks[k])=false:=p;exact⟨⟨(k+1,n),Fz.t b D,g,d.trans (if_neg (by rw[show zbo ks[k]=true by simpa using q];simp))⟩,i,leR [] s u rfl ⟨tv,tv⟩ ⟨cnt j,tv⟩ ⟨Fz.r n,tv⟩⟩
 ·have m:¬(k:Int) < (ks.length:Int):=by omega
  rw[yf (by omega)]at d;refine brj m ?_;exact e _ G _ _ d rfl b
theorem z5q(F:Fz)(sk:SA)(ks:List Kp)(a:KpsAt F sk ks)(c:short ks)(b:ks.length < 1000000):
  Fo Tryz.prog F 109 [.va sk,.va (.fn (.func 106) [])] (fun o _=>o=.ret (.va (.bool (!ks.all zbo)))):=by
 have h:=yae F sk ks a c b;obtain⟨p,l,n,m,k,q,rfl,f,g,i,j⟩:=a;refine foS Tryz.func109 ?_;refine useFs h ?_;rintro _ F1 d rfl;exact endFo (.ret (.va (.bool (!ks.all zbo)))) F1 rfl d (Fz.r F1) rfl (ob (zuv zbo ks).symm) rfl
