import Derived.Test.YtfnkamphhpldcaaGreatDoorK14
import Derived.Test.YtfnkamphhpldcaaGreatDoorK09
set_option maxHeartbeats 64000000
namespace Go.Proofs.YtfnkamphhpldcaaGreatDoor
open Go Sx
set_option maxRecDepth 100000
def iA(i c:Nat):List Int->SA
 |[]=>.nilsl
 |_::r=>.slice false i 0 0 1 (r.length+1) c
def iE(c:Nat)(s:List Int):Ent:=.opt (!s.isEmpty) (.arr 3 1 (s.map encI) c)
def oA(i c:Nat):List Stp->SA
 |[]=>.nilsl
 |_::r=>.slice false i 0 0 2 (r.length+1) c
def oE(c:Nat)(s:List Stp):Ent:=.opt (!s.isEmpty) (.arr 56 2 (s.map enc) c)
theorem zcj{μ:Mu}{i j:Nat}(h:μ i 0=(j,0))(c:Nat)(s:List Int):(iA i c s).ren μ=iA j c s:=by
 cases s with
 |nil=>rfl
 |cons x r=>simp only[iA,SA.ren,h]
theorem zmo{a b c d e f g h c' i e' j:SA}(h1:a=g)(k:b=h)(l:c=c')(m:d=i)(n:e=e')(o:f=j):
  SB.cells 265 [.nilsl,a,b,c,d,e,f]=SB.cells 265 [.nilsl,g,h,c',i,e',j]:=by subst h1 k l m n o;rfl
theorem ybf(μ:Mu)(c:Nat)(s:List Int):(iE c s).ren μ=iE c s:=by
 show Ent.opt _ (SB.ren μ _)=_;rw[zcp];rfl
theorem zba{x:Option Ent}{μ:Mu}{c:Nat}{s:List Int}(h:subE x (iE c s)):subE x ((iE c s).ren μ):=by rw[ybf];exact h
theorem za0(c:Nat)(s:List Int):subE (some (iE c s)) (iE c s):=⟨rfl,rfl⟩
theorem zm0{c:Nat}{s:List Int}(L:List (List SA))(h:L=s.map encI):subE (some (.one (.arr 3 1 L c))) (iE c s):=by rw[h];exact rfl
theorem za5(n c:Nat)(s:List Int):(iE c s).below n:=zb2 n s c
theorem z3s{n i:Nat}(h:i < n)(c:Nat)(s:List Int):(iA i c s).below n:=by
 cases s with
 |nil=>trivial
 |cons x r=>exact .inr h
theorem zx8(c d e f g h:Nat)(i j k l m n:List Int):(SB.cells 265 [.nilsl,iA 2 c i,iA 3 d j,iA 4 e k,iA 5 f l,iA 6 g m,iA 7 h n]).below 8:=by
 intro a b;simp only[ql,qt,or_false]at b;rcases b with rfl | rfl | rfl | rfl | rfl | rfl | rfl
 ·trivial
 all_goals exact z3s (by omega) _ _
theorem zmz{μ:Mu}{i j:Nat}(h:μ i 0=(j,0))(c n:Nat)(s:List Int)(ν:Int)(a:n=s.length+1):SA.slice false j 0 0 1 n c=(iA i c (s++[ν])).ren μ:=by
 rw[zcj h,a];cases s with
 |nil=>rfl
 |cons x r=>simp[iA]
theorem zhi{κ:Int}{l:List Stp}{k:Nat}{s:List Int}{ν:Int}(a:s=sel κ (l.take k))(g:k < l.length)(h:l[k]=(κ,ν)):s++[ν]=sel κ (l.take (k+1)):=by
 rw[z9z κ l k g (by rw[h]),a,h]
theorem zb1{κ b:Int}{l:List Stp}{k:Nat}{s:List Int}{ν:Int}(c:s=sel κ (l.take k))(g:k < l.length)(h:l[k]=(b,ν))(a:b≠κ):s=sel κ (l.take (k+1)):=by
 rw[yb2 κ l k g (by rw[h];exact a),c]
theorem ztn{κ:Int}{l:List Stp}{k:Nat}{s:List Int}(a:s=sel κ (l.take k)):s.length<=k:=by
 rw[a];have:=yb1 κ (l.take k);rw[qj]at this;omega
def piece(κ:Int)(s:List Int):List Stp:=if s=[]then []else if κ=3 then [(3,mx s)]else if κ=5 then(s.take 5).map (fun n=>(5,n))else [(κ,mn s)]
def pieces(a b c d e:List Int):List (List Stp):=[[],piece 1 a,piece 2 b,piece 3 c,piece 4 d,piece 5 e,[]]
def normS(l:List Stp):List Stp:=if sel 6 l=[]then(pieces (sel 1 l) (sel 2 l) (sel 3 l) (sel 4 l) (sel 5 l)).flatten else [(6,0)]
theorem zeh{a b c d e:List Int}{k:Nat}{out:List Stp}(p:List Stp)(h:out=((pieces a b c d e).take k).flatten)(f:(pieces a b c d e)[k]? =some p):out++p=((pieces a b c d e).take (k+1)).flatten:=by
 have i:=(qh.1 f).1;have g:=(qh.1 f).2;rw[zde i,g,h]
theorem zg2(κ:Int)(s:List Int):(piece κ s).length<=5:=by
 unfold piece;split
 ·simp
 ·split
  ·simp
  ·split
   ·simp;omega
   ·simp
theorem zjj(a b c d e:List Int)(k:Nat):((pieces a b c d e).take k).flatten.length<=100:=by
 refine q5 (zda _ k) ?_;have h1:=zg2 1 a;have f:=zg2 2 b;have g:=zg2 3 c;have h:=zg2 4 d;have i:=zg2 5 e;simp only[pieces,jy,qas,qb,qu];omega
theorem zw6(x:Int)(r:List Int):piece 5 (x::r)=((x::r).take 5).map (fun n=>(5,n)):=by simp[piece]
theorem zln{κ:Int}{x:Int}{r:List Int}(a:κ≠3)(b:κ≠5):piece κ (x::r)=[(κ,mn (x::r))]:=by simp[piece,a,b]
theorem zvn{μ:Mu}{i j:Nat}(h:μ i 0=(j,0))(c n:Nat)(s:List Stp)(t:Stp)(a:n=s.length+1):atomE ((oA i c (s++[t])).ren μ) (SA.slice false j 0 0 2 n c):=by
 subst a;cases s with
 |nil=>simp only[oA,qx,SA.ren,h];exact⟨rfl,rfl,rfl,.inr ⟨rfl,rfl,rfl,rfl⟩⟩
 |cons x r=>simp only[oA,yk,SA.ren,h];exact⟨rfl,by simp,rfl,.inr ⟨rfl,rfl,rfl,rfl⟩⟩
theorem ybs(μ:Mu)(c:Nat)(s:List Stp):(oE c s).ren μ=oE c s:=by
 show Ent.opt _ (SB.ren μ _)=_;rw[zha];rfl
theorem zj4{x:Option Ent}{μ:Mu}{c:Nat}{s:List Stp}(h:subE x (oE c s)):subE x ((oE c s).ren μ):=by rw[ybs];exact h
theorem z0f{c:Nat}{s:List Stp}(L:List (List SA))(h:L=s.map enc):subE (some (.one (.arr 56 2 L c))) (oE c s):=by rw[h];exact rfl
theorem zll(c:Nat)(s:List Stp):subE (some (oE c s)) (oE c s):=⟨rfl,rfl⟩
theorem zew(n c:Nat)(s:List Stp):(oE c s).below n:=zef n s c
structure N1(l:List Stp)(k:Nat)(s1 s2 s3 s4 s5 s6:List Int)(c5:Nat):Prop where
 hk:k<=l.length
 h1:s1=sel 1 (l.take k)
 h2:s2=sel 2 (l.take k)
 h3:s3=sel 3 (l.take k)
 h4:s4=sel 4 (l.take k)
 h5:s5=sel 5 (l.take k)
 h6:s6=sel 6 (l.take k)
 h7:s5.length<=c5
abbrev LC:=List Int×Nat
abbrev X1(l:List Stp):={ x:Nat×LC×LC×LC×LC×LC×LC // N1 l x.1 x.2.1.1 x.2.2.1.1 x.2.2.2.1.1 x.2.2.2.2.1.1 x.2.2.2.2.2.1.1 x.2.2.2.2.2.2.1 x.2.2.2.2.2.1.2 }
theorem brF{b:Bool}{x y:Prop}(h:b=false)(k:y):Br b x y:=br (fun g=>absurd (h.symm.trans g) (by decide)) fun _=>k
theorem brT{b:Bool}{x y:Prop}(h:b=true)(k:x):Br b x y:=br (fun _=>k) fun g=>absurd (h.symm.trans g) (by decide)
theorem cs7(k:Nat)(h:k < 7)(b c d e f:List Int):(k=0\/(k=1/\b=[])\/(k=2/\c=[])\/(k=3/\d=[])\/(k=4/\e=[])\/(k=5/\f=[])\/k=6)\/
  ((k=1/\∃x r,b=x::r)\/(k=2/\∃x r,c=x::r)\/(k=3/\∃x r,d=x::r)\/(k=4/\∃x r,e=x::r))\/(k=5/\∃x r,f=x::r):=by
 have a:∀s:List Int,s=[]\/∃x r,s=x::r:=fun s=>by cases s<;>simp
 have i:=a b;have j:=a c;have l:=a d;have m:=a e;have n:=a f;have g:k=0\/k=1\/k=2\/k=3\/k=4\/k=5\/k=6:=by omega
 clear a
 grind
theorem zq7(F:Fz)(sl:SA)(ls:List (List Stp))(hs:zt0 F sl ls)(hn:ls.length < 1000)(hl:ls.flatten.length < 100000)(R:∀s∈ls.flatten,1<=s.1/\s.1<=6):
  Fo Tryz.prog F 132 [.va sl] (fun o Q=>∃sc,o=.ret (.va sc)/\zbb Q sc (normS ls.flatten)):=by
 have hc:=zyl F sl ls hs hn (by omega);obtain⟨l,au⟩:∃l,l=ls.flatten:=⟨_,rfl⟩
 rw[<-au]at hl R hc ⊢;obtain⟨sn,sb,se,a9,sL,sr,rfl,A,B,D,E⟩:=hs;refine fo_of hΘ Tryz.func132 rfl (by decide) _ _ rfl rfl rfl ?_;refine useFo (hc) rfl (zaa _) rfl ?_;rintro _ F1 l1 ⟨sa,rfl,ha⟩;conv=>whnf
 obtain⟨a0,ay,aq,az,ap,a7,rfl,aj,an,ax,ao⟩:=ha
 conv=>whnf
 refine zam hΘ (X:=X1 l) (fun x=>[(14,.va (.int .i64 x.1.1))]) (5::jr 15 15 [])
  (fun x=>[(0,.frz F1),(1,.one (.cells 265 [.nilsl,iA 2 x.1.2.1.2 x.1.2.1.1,iA 3 x.1.2.2.1.2 x.1.2.2.1.1,iA 4 x.1.2.2.2.1.2 x.1.2.2.2.1.1,iA 5 x.1.2.2.2.2.1.2 x.1.2.2.2.2.1.1,iA 6 x.1.2.2.2.2.2.1.2 x.1.2.2.2.2.2.1.1,iA 7 x.1.2.2.2.2.2.2.2 x.1.2.2.2.2.2.2.1])),
   (2,iE x.1.2.1.2 x.1.2.1.1),(3,iE x.1.2.2.1.2 x.1.2.2.1.1),(4,iE x.1.2.2.2.1.2 x.1.2.2.2.1.1),(5,iE x.1.2.2.2.2.1.2 x.1.2.2.2.2.1.1),(6,iE x.1.2.2.2.2.2.1.2 x.1.2.2.2.2.2.1.1),(7,iE x.1.2.2.2.2.2.2.2 x.1.2.2.2.2.2.2.1)]) 8 (fun x=>l.length - x.1.1)
  ⟨(0,([],0),([],0),([],0),([],0),([],0),([],0)),⟨by simp,rfl,rfl,rfl,rfl,rfl,rfl,qg 0⟩⟩
  (fun w y=>leI [(2,2),(3,3),(4,4),(5,5),(6,6),(7,7)] w y rfl ?_ ⟨rfl,tv⟩ ⟨Fz.r F1,rfl,rfl,rfl,rfl,rfl,rfl,rfl,tv⟩) ?_
 ·exact⟨tv,zx8 _ _ _ _ _ _ _ _ _ _ _ _,za5 _ _ _,za5 _ _ _,za5 _ _ _,za5 _ _ _,za5 _ _ _,za5 _ _ _,tv⟩
 rintro⟨⟨k,⟨A,c1⟩,⟨B,c2⟩,⟨D,c3⟩,⟨E,c4⟩,⟨J,c5⟩,⟨V,c6⟩⟩,hk,h1,O,Y,Z,U,h6,h7⟩ w y;refine br (fun gb=>?_) (fun gb=>?_)
 ·have c:k < l.length:=by simpa using gb
  clear gb;have hκ:=R l[k] (qz c);have d:∃κ ν,l[k]=(κ,ν):=⟨_,_,rfl⟩
  obtain⟨κ,ν,d⟩:=d;rw[d]at hκ;replace hκ:1<=κ/\κ<=6:=hκ;refine⟨Sl.lt aj c,⟨by simp,by simpa using c⟩,_,an (Sl.lt aj c),?_⟩;conv=>whnf
  have ak:ap[aq+(k:Int).toNat]? =some (enc (κ,ν)):=(Sl.at ao c).trans (by rw[d]);refine⟨_,ak,?_⟩
  have hN:∀(κ:Int) (s:List Int),s=sel κ (l.take k)->s=[]\/∃x r,s=x::r/\r.length+1<=k:=fun κ s h=>by
   have O:=ztn h;rcases s with _ | ⟨x,r⟩
   ·exact .inl rfl
   ·exact .inr ⟨x,r,rfl,O⟩
  have ae:(κ=1/\A=[])\/(κ=1/\∃x r,A=x::r/\r.length+1<=k)\/(κ=2/\B=[])\/(κ=2/\∃x r,B=x::r/\r.length+1<=k)\/(κ=3/\D=[])\/(κ=3/\∃x r,D=x::r/\r.length+1<=k)\/(κ=4/\E=[])\/(κ=4/\∃x r,E=x::r/\r.length+1<=k)\/(κ=5/\J=[])\/(κ=5/\∃x r,J=x::r/\r.length+1<=k)\/(κ=6/\V=[])\/(κ=6/\∃x r,V=x::r/\r.length+1<=k):=by
   have a8:κ=1\/κ=2\/κ=3\/κ=4\/κ=5\/κ=6:=by omega
   have n1:=hN 1 A h1;have n2:=hN 2 B O;have n3:=hN 3 D Y;have n4:=hN 4 E Z;have n5:=hN 5 J U;have n6:=hN 6 V h6;clear hN ak d h1 O Y Z U h6 h7;simp only[<-and_or_left,<-or_assoc]at*
   grind
  have p:l.length - (k+1) < l.length - k:=by omega
  have u:k < 4611686018427387904:=by omega
  have m:∀a1 a2 a3 a4 a5 a6 b1 b2 b3 b4 b5 b6,bH 8 [(0,.frz F1),(1,.one (.cells 265 [.nilsl,iA 2 a1 b1,iA 3 a2 b2,iA 4 a3 b3,iA 5 a4 b4,iA 6 a5 b5,iA 7 a6 b6])),(2,iE a1 b1),(3,iE a2 b2),(4,iE a3 b3),(5,iE a4 b4),(6,iE a5 b5),(7,iE a6 b6)]:=
   fun _ _ _ _ _ _ _ _ _ _ _ _=>⟨tv,zx8 _ _ _ _ _ _ _ _ _ _ _ _,za5 _ _ _,za5 _ _ _,za5 _ _ _,za5 _ _ _,za5 _ _ _,za5 _ _ _,tv⟩
  clear hN;rcases ae with⟨rfl,rfl⟩ | ⟨rfl,x,r,rfl,G⟩ | ⟨rfl,rfl⟩ | ⟨rfl,x,r,rfl,G⟩ | ⟨rfl,rfl⟩ | ⟨rfl,x,r,rfl,G⟩ | ⟨rfl,rfl⟩ | ⟨rfl,x,r,rfl,G⟩ | ⟨rfl,rfl⟩ | ⟨rfl,x,r,rfl,G⟩ | ⟨rfl,rfl⟩ | ⟨rfl,x,r,rfl,G⟩
  all_goals
   refine drawP hΘ mixed (lk [0,1,2,3,4,5,6,7] (.alt 8 (.alt 9 (.look 10 (.last 11 .done)) .nil) .nil)) [1,8] (by kernel_rfl) ?_;conv=>whnf
   repeat' ((conv=>whnf);first
    |refine⟨rfl,?_⟩
    |refine⟨Fz.r _,rfl,?_⟩
    |refine⟨Fz.r _,rfl,rfl,?_⟩
    |refine⟨⟨by simp,by simp⟩,?_⟩
    |fail)
   refine⟨qg 1,[encI ν],rfl,?_⟩;conv=>whnf
   first
   |refine⟨rfl,rfl,by show 1*8<=140737488355328;omega,fun c' hc=>?_⟩
   |refine⟨rfl,rfl,by simp,rfl,by show(r.length+1+1)*8<=140737488355328;omega,fun c' hc=>?_⟩
   repeat' ((conv=>whnf);first
    |refine⟨rfl,?_⟩
    |refine⟨Fz.r _,rfl,?_⟩
    |refine⟨Fz.r _,rfl,rfl,?_⟩
    |refine⟨⟨by simp,by simp⟩,?_⟩
    |fail)
   conv=>whnf
   first
   |exact⟨⟨(k+1,(_++[ν],c'),(B,c2),(D,c3),(E,c4),(J,c5),(V,c6)),⟨c,zhi h1 c d,zb1 O c d (by decide),zb1 Y c d (by decide),zb1 Z c d (by decide),zb1 U c d (by decide),zb1 h6 c d (by decide),h7⟩⟩,p,leR [(2,10),(3,3),(4,4),(5,5),(6,6),(7,7)] w y rfl (m _ _ _ _ _ _ _ _ _ _ _ _) ⟨cnt u,tv⟩ ⟨Fz.r F1,zmo (zmz (μ:=sig [(2,10),(3,3),(4,4),(5,5),(6,6),(7,7)]) (i:=2) (j:=10) rfl c' _ _ ν rfl) (zcj (μ:=sig [(2,10),(3,3),(4,4),(5,5),(6,6),(7,7)]) (i:=3) (j:=3) rfl _ _).symm (zcj (μ:=sig [(2,10),(3,3),(4,4),(5,5),(6,6),(7,7)]) (i:=4) (j:=4) rfl _ _).symm (zcj (μ:=sig [(2,10),(3,3),(4,4),(5,5),(6,6),(7,7)]) (i:=5) (j:=5) rfl _ _).symm (zcj (μ:=sig [(2,10),(3,3),(4,4),(5,5),(6,6),(7,7)]) (i:=6) (j:=6) rfl _ _).symm (zcj (μ:=sig [(2,10),(3,3),(4,4),(5,5),(6,6),(7,7)]) (i:=7) (j:=7) rfl _ _).symm,zba (zm0 _ (by simp)),zba (za0 _ _),zba (za0 _ _),zba (za0 _ _),zba (za0 _ _),zba (za0 _ _),tv⟩⟩
   |exact⟨⟨(k+1,(A,c1),(_++[ν],c'),(D,c3),(E,c4),(J,c5),(V,c6)),⟨c,zb1 h1 c d (by decide),zhi O c d,zb1 Y c d (by decide),zb1 Z c d (by decide),zb1 U c d (by decide),zb1 h6 c d (by decide),h7⟩⟩,p,leR [(2,2),(3,10),(4,4),(5,5),(6,6),(7,7)] w y rfl (m _ _ _ _ _ _ _ _ _ _ _ _) ⟨cnt u,tv⟩ ⟨Fz.r F1,zmo (zcj (μ:=sig [(2,2),(3,10),(4,4),(5,5),(6,6),(7,7)]) (i:=2) (j:=2) rfl _ _).symm (zmz (μ:=sig [(2,2),(3,10),(4,4),(5,5),(6,6),(7,7)]) (i:=3) (j:=10) rfl c' _ _ ν rfl) (zcj (μ:=sig [(2,2),(3,10),(4,4),(5,5),(6,6),(7,7)]) (i:=4) (j:=4) rfl _ _).symm (zcj (μ:=sig [(2,2),(3,10),(4,4),(5,5),(6,6),(7,7)]) (i:=5) (j:=5) rfl _ _).symm (zcj (μ:=sig [(2,2),(3,10),(4,4),(5,5),(6,6),(7,7)]) (i:=6) (j:=6) rfl _ _).symm (zcj (μ:=sig [(2,2),(3,10),(4,4),(5,5),(6,6),(7,7)]) (i:=7) (j:=7) rfl _ _).symm,zba (za0 _ _),zba (zm0 _ (by simp)),zba (za0 _ _),zba (za0 _ _),zba (za0 _ _),zba (za0 _ _),tv⟩⟩
   |exact⟨⟨(k+1,(A,c1),(B,c2),(_++[ν],c'),(E,c4),(J,c5),(V,c6)),⟨c,zb1 h1 c d (by decide),zb1 O c d (by decide),zhi Y c d,zb1 Z c d (by decide),zb1 U c d (by decide),zb1 h6 c d (by decide),h7⟩⟩,p,leR [(2,2),(3,3),(4,10),(5,5),(6,6),(7,7)] w y rfl (m _ _ _ _ _ _ _ _ _ _ _ _) ⟨cnt u,tv⟩ ⟨Fz.r F1,zmo (zcj (μ:=sig [(2,2),(3,3),(4,10),(5,5),(6,6),(7,7)]) (i:=2) (j:=2) rfl _ _).symm (zcj (μ:=sig [(2,2),(3,3),(4,10),(5,5),(6,6),(7,7)]) (i:=3) (j:=3) rfl _ _).symm (zmz (μ:=sig [(2,2),(3,3),(4,10),(5,5),(6,6),(7,7)]) (i:=4) (j:=10) rfl c' _ _ ν rfl) (zcj (μ:=sig [(2,2),(3,3),(4,10),(5,5),(6,6),(7,7)]) (i:=5) (j:=5) rfl _ _).symm (zcj (μ:=sig [(2,2),(3,3),(4,10),(5,5),(6,6),(7,7)]) (i:=6) (j:=6) rfl _ _).symm (zcj (μ:=sig [(2,2),(3,3),(4,10),(5,5),(6,6),(7,7)]) (i:=7) (j:=7) rfl _ _).symm,zba (za0 _ _),zba (za0 _ _),zba (zm0 _ (by simp)),zba (za0 _ _),zba (za0 _ _),zba (za0 _ _),tv⟩⟩
   |exact⟨⟨(k+1,(A,c1),(B,c2),(D,c3),(_++[ν],c'),(J,c5),(V,c6)),⟨c,zb1 h1 c d (by decide),zb1 O c d (by decide),zb1 Y c d (by decide),zhi Z c d,zb1 U c d (by decide),zb1 h6 c d (by decide),h7⟩⟩,p,leR [(2,2),(3,3),(4,4),(5,10),(6,6),(7,7)] w y rfl (m _ _ _ _ _ _ _ _ _ _ _ _) ⟨cnt u,tv⟩ ⟨Fz.r F1,zmo (zcj (μ:=sig [(2,2),(3,3),(4,4),(5,10),(6,6),(7,7)]) (i:=2) (j:=2) rfl _ _).symm (zcj (μ:=sig [(2,2),(3,3),(4,4),(5,10),(6,6),(7,7)]) (i:=3) (j:=3) rfl _ _).symm (zcj (μ:=sig [(2,2),(3,3),(4,4),(5,10),(6,6),(7,7)]) (i:=4) (j:=4) rfl _ _).symm (zmz (μ:=sig [(2,2),(3,3),(4,4),(5,10),(6,6),(7,7)]) (i:=5) (j:=10) rfl c' _ _ ν rfl) (zcj (μ:=sig [(2,2),(3,3),(4,4),(5,10),(6,6),(7,7)]) (i:=6) (j:=6) rfl _ _).symm (zcj (μ:=sig [(2,2),(3,3),(4,4),(5,10),(6,6),(7,7)]) (i:=7) (j:=7) rfl _ _).symm,zba (za0 _ _),zba (za0 _ _),zba (za0 _ _),zba (zm0 _ (by simp)),zba (za0 _ _),zba (za0 _ _),tv⟩⟩
   |exact⟨⟨(k+1,(A,c1),(B,c2),(D,c3),(E,c4),(_++[ν],c'),(V,c6)),⟨c,zb1 h1 c d (by decide),zb1 O c d (by decide),zb1 Y c d (by decide),zb1 Z c d (by decide),zhi U c d,zb1 h6 c d (by decide),by simpa using hc⟩⟩,p,leR [(2,2),(3,3),(4,4),(5,5),(6,10),(7,7)] w y rfl (m _ _ _ _ _ _ _ _ _ _ _ _) ⟨cnt u,tv⟩ ⟨Fz.r F1,zmo (zcj (μ:=sig [(2,2),(3,3),(4,4),(5,5),(6,10),(7,7)]) (i:=2) (j:=2) rfl _ _).symm (zcj (μ:=sig [(2,2),(3,3),(4,4),(5,5),(6,10),(7,7)]) (i:=3) (j:=3) rfl _ _).symm (zcj (μ:=sig [(2,2),(3,3),(4,4),(5,5),(6,10),(7,7)]) (i:=4) (j:=4) rfl _ _).symm (zcj (μ:=sig [(2,2),(3,3),(4,4),(5,5),(6,10),(7,7)]) (i:=5) (j:=5) rfl _ _).symm (zmz (μ:=sig [(2,2),(3,3),(4,4),(5,5),(6,10),(7,7)]) (i:=6) (j:=10) rfl c' _ _ ν rfl) (zcj (μ:=sig [(2,2),(3,3),(4,4),(5,5),(6,10),(7,7)]) (i:=7) (j:=7) rfl _ _).symm,zba (za0 _ _),zba (za0 _ _),zba (za0 _ _),zba (za0 _ _),zba (zm0 _ (by simp)),zba (za0 _ _),tv⟩⟩
   |exact⟨⟨(k+1,(A,c1),(B,c2),(D,c3),(E,c4),(J,c5),(_++[ν],c')),⟨c,zb1 h1 c d (by decide),zb1 O c d (by decide),zb1 Y c d (by decide),zb1 Z c d (by decide),zb1 U c d (by decide),zhi h6 c d,h7⟩⟩,p,leR [(2,2),(3,3),(4,4),(5,5),(6,6),(7,10)] w y rfl (m _ _ _ _ _ _ _ _ _ _ _ _) ⟨cnt u,tv⟩ ⟨Fz.r F1,zmo (zcj (μ:=sig [(2,2),(3,3),(4,4),(5,5),(6,6),(7,10)]) (i:=2) (j:=2) rfl _ _).symm (zcj (μ:=sig [(2,2),(3,3),(4,4),(5,5),(6,6),(7,10)]) (i:=3) (j:=3) rfl _ _).symm (zcj (μ:=sig [(2,2),(3,3),(4,4),(5,5),(6,6),(7,10)]) (i:=4) (j:=4) rfl _ _).symm (zcj (μ:=sig [(2,2),(3,3),(4,4),(5,5),(6,6),(7,10)]) (i:=5) (j:=5) rfl _ _).symm (zcj (μ:=sig [(2,2),(3,3),(4,4),(5,5),(6,6),(7,10)]) (i:=6) (j:=6) rfl _ _).symm (zmz (μ:=sig [(2,2),(3,3),(4,4),(5,5),(6,6),(7,10)]) (i:=7) (j:=10) rfl c' _ _ ν rfl),zba (za0 _ _),zba (za0 _ _),zba (za0 _ _),zba (za0 _ _),zba (za0 _ _),zba (zm0 _ (by simp)),tv⟩⟩
 ·have c:k=l.length:=by have g1:¬k < l.length:=by simpa using gb
                        have:=hk;omega
  have e1:A=sel 1 l:=by have:=h1;rw[c,yw]at this;exact this
  have e2:B=sel 2 l:=by have:=O;rw[c,yw]at this;exact this
  have e3:D=sel 3 l:=by have:=Y;rw[c,yw]at this;exact this
  have e4:E=sel 4 l:=by have:=Z;rw[c,yw]at this;exact this
  have e5:J=sel 5 l:=by have:=U;rw[c,yw]at this;exact this
  have e6:V=sel 6 l:=by have:=h6;rw[c,yw]at this;exact this
  rcases V with _ | ⟨x6,r6⟩
  ·refine⟨⟨by decide,by decide⟩,brd (by decide) ?_⟩;conv=>whnf
   refine zam hΘ (X:={ x:Nat×List Stp×Nat // x.1<=7/\x.2.1=((pieces A B D E J).take x.1).flatten }) (fun x=>[(6,.va (oA 8 x.1.2.2 x.1.2.1)),(37,.va (.int .i64 x.1.1))]) (7::8::10::jr 38 38 [])
    (fun x=>[(0,.frz F1),(2,iE c1 A),(3,iE c2 B),(4,iE c3 D),(5,iE c4 E),(6,iE c5 J),(8,oE x.1.2.2 x.1.2.1)]) 9 (fun x=>7 - x.1.1) ⟨(0,[],0),by simp⟩
    (fun w y=>leI [(8,8)] w y rfl ⟨tv,za5 _ _ _,za5 _ _ _,za5 _ _ _,za5 _ _ _,za5 _ _ _,zew _ _ _,tv⟩ ⟨rfl,rfl,tv⟩ ⟨Fz.r F1,zba (za0 _ _),zba (za0 _ _),zba (za0 _ _),zba (za0 _ _),zba (za0 _ _),rfl,tv⟩) ?_
   rintro⟨⟨k2,out,co⟩,al,f⟩ w y;replace al:k2<=7:=al;replace f:out=((pieces A B D E J).take k2).flatten:=f;refine br (fun W=>?_) (fun W=>?_)
   ·have ad:k2 < 7:=by have:(k2:Int) < 7:=by simpa using W
                       omega
    clear W
    have same:∀k,(pieces A B D E J)[k]? =some []->out=((pieces A B D E J).take k).flatten->out=((pieces A B D E J).take (k+1)).flatten:=fun k h1 O=>by
     have:=zeh [] O h1;rwa[jp]at this
    have ar:=cs7 k2 ad A B D E J;have af:out.length<=100:=by rw[f];exact zjj _ _ _ _ _ _
    rcases ar with h | h | h
    ·rcases h with rfl | ⟨rfl,rfl⟩ | ⟨rfl,rfl⟩ | ⟨rfl,rfl⟩ | ⟨rfl,rfl⟩ | ⟨rfl,rfl⟩ | rfl
     all_goals
      have hs:=same _ rfl f;rcases out with _ | ⟨xo,I⟩
      all_goals
       refine⟨⟨by simp,by simp⟩,_,rfl,bre (by decide) ?_⟩;exact⟨⟨(_,_,co),by simp,hs⟩,by simp,leR [(8,8)] w y rfl ⟨tv,za5 _ _ _,za5 _ _ _,za5 _ _ _,za5 _ _ _,za5 _ _ _,zew _ _ _,tv⟩ ⟨(by first | exact rfl | exact⟨rfl,rfl,rfl,.inr ⟨rfl,rfl,rfl,rfl⟩⟩),rfl,tv⟩ ⟨Fz.r F1,zba (za0 _ _),zba (za0 _ _),zba (za0 _ _),zba (za0 _ _),zba (za0 _ _),zj4 (zll _ _),tv⟩⟩
    ·rcases h with⟨rfl,x,r,rfl⟩ | ⟨rfl,x,r,rfl⟩ | ⟨rfl,x,r,rfl⟩ | ⟨rfl,x,r,rfl⟩
     all_goals
      have K:r.length+1<=k:=ztn (s:=x::r) (by assumption)
      have L:=by first
       |exact zeh [(1,mn (x::r))] f (congrArg some (zln (by decide) (by decide)))
       |exact zeh [(2,mn (x::r))] f (congrArg some (zln (by decide) (by decide)))
       |exact zeh [(3,mx (x::r))] f rfl
       |exact zeh [(4,mn (x::r))] f (congrArg some (zln (by decide) (by decide)))
      rcases out with _ | ⟨xo,I⟩
      all_goals
       refine⟨⟨by simp,by simp⟩,_,rfl,?_⟩;refine br (fun g=>absurd g (by simp;omega)) (fun _=>?_);conv=>whnf
       first | refine brF rfl ?_ | refine brT rfl ?_
       conv=>whnf
       try refine brF rfl ?_
       conv=>whnf
       first
       |refine borrow 2 (fun _=>.arr 3 1 ((x::r).map encI) c1) rfl rfl rfl (fun _ _=>zcp _ (x::r) _) (fun _ _=>zb2 _ _ _) ?_
       |refine borrow 3 (fun _=>.arr 3 1 ((x::r).map encI) c2) rfl rfl rfl (fun _ _=>zcp _ (x::r) _) (fun _ _=>zb2 _ _ _) ?_
       |refine borrow 4 (fun _=>.arr 3 1 ((x::r).map encI) c3) rfl rfl rfl (fun _ _=>zcp _ (x::r) _) (fun _ _=>zb2 _ _ _) ?_
       |refine borrow 5 (fun _=>.arr 3 1 ((x::r).map encI) c4) rfl rfl rfl (fun _ _=>zcp _ (x::r) _) (fun _ _=>zb2 _ _ _) ?_
       intro b Q aw hb
       first
       |refine usePu (ybm Q _ (x::r) (Sl.new (hb 0 ⟨rfl,rfl⟩)) (by simp;omega) (by simp)) rfl ⟨⟨rfl,rfl,rfl,.inr ⟨rfl,rfl,rfl,rfl⟩⟩,tv⟩ rfl ?_
       |refine usePu (ybl Q _ (x::r) (Sl.new (hb 0 ⟨rfl,rfl⟩)) (by simp;omega) (by simp)) rfl ⟨⟨rfl,rfl,rfl,.inr ⟨rfl,rfl,rfl,rfl⟩⟩,tv⟩ rfl ?_
       refine⟨Q,rfl,Fz.r _,rfl,fun _ _ _ _ _ _ h=>h,?_⟩;conv=>whnf
       refine rounds hΘ 2 ?_;refine bre (by decide) ⟨rfl,⟨by decide,by decide⟩,_,rfl,?_⟩;conv=>whnf
       first
       |refine⟨qg 1,[enc (1,mn (x::r))],rfl,?_⟩
       |refine⟨qg 1,[enc (2,mn (x::r))],rfl,?_⟩
       |refine⟨qg 1,[enc (3,mx (x::r))],rfl,?_⟩
       |refine⟨qg 1,[enc (4,mn (x::r))],rfl,?_⟩
       conv=>whnf
       first
       |refine⟨rfl,rfl,by show 1*16<=140737488355328;omega,fun c' hc=>?_⟩
       |refine⟨rfl,rfl,by simp,rfl,by replace af:I.length+1<=100:=af
                                      show(I.length+1+1)*16<=140737488355328;omega,fun c' hc=>?_⟩
       refine brd (by decide) ?_;exact⟨⟨(_,_,c'),by simp,L⟩,by simp,leR [(8,11)] w y rfl ⟨tv,za5 _ _ _,za5 _ _ _,za5 _ _ _,za5 _ _ _,za5 _ _ _,zew _ _ _,tv⟩ ⟨by first | exact zvn (μ:=sig [(8,11)]) (i:=8) (j:=11) rfl c' _ [] (0,0) rfl | exact zvn (μ:=sig [(8,11)]) (i:=8) (j:=11) rfl c' _ (xo::I) _ rfl,rfl,tv⟩ ⟨Fz.r F1,zba (za0 _ _),zba (za0 _ _),zba (za0 _ _),zba (za0 _ _),zba (za0 _ _),zj4 (z0f _ (by simp)),tv⟩⟩
    ·obtain⟨rfl,x,r,rfl⟩:=h;have K:=ztn U;replace K:r.length+1<=k:=K;have av:r.length+1<=c5:=h7;have L:=zeh ((x::r).take 5 |>.map (fun n=>(5,n))) f (congrArg some (zw6 x r));have af:out.length<=100:=by rw[f];exact zjj _ _ _ _ _ _
     refine⟨⟨by simp,by simp⟩,_,rfl,?_⟩;refine br (fun g=>absurd g (by simp;omega)) (fun _=>?_);refine brd (by simp) ?_;refine bre (by simp) ⟨⟨by split<;>omega,by dsimp only;split<;>omega⟩,?_⟩;conv=>whnf
     refine zam hΘ (X:={ q:Nat×List Stp×Nat // q.1<=min (r.length+1) 5/\q.2.1=out++((x::r).take q.1).map (fun n=>(5,n)) }) (fun x=>[(6,.va (oA 9 x.1.2.2 x.1.2.1)),(64,.va (.int .i64 x.1.1))]) (10::jr 65 10 [])
      (fun x=>[(0,.frz F1),(8,.gone),(9,oE x.1.2.2 x.1.2.1)]) 10 (fun x=>min (r.length+1) 5 - x.1.1) ⟨(0,out,co),by simp⟩ ?_ ?_
     ·intro w y;rcases out with _ | ⟨xo,I⟩
      ·exact leI [(9,8)] w y rfl ⟨tv,tv,zew _ _ _,tv⟩ ⟨rfl,rfl,tv⟩ ⟨Fz.r F1,zj4 (zll _ _),tv⟩
      ·exact leI [(9,8)] w y rfl ⟨tv,tv,zew _ _ _,tv⟩ ⟨⟨rfl,rfl,rfl,.inr ⟨rfl,rfl,rfl,rfl⟩⟩,rfl,tv⟩ ⟨Fz.r F1,zj4 (zll _ _),tv⟩
     rintro⟨⟨j,oi,ci⟩,hj,S⟩ ah ai;replace hj:j<=min (r.length+1) 5:=hj;replace S:oi=out++((x::r).take j).map (fun n=>(5,n)):=S;have ac:oi.length<=200:=by rw[S,qb,qa,qj];omega
     refine br (fun M=>?_) (fun M=>?_)
     ·have gj:j < min (r.length+1) 5:=by
       simp only[decide_eq_true_eq]at M;split at M<;>omega
      clear M;have ag:j < (x::r).length:=by simp;omega
      have ab:oi++[(5,(x::r)[j])]=out++((x::r).take (j+1)).map (fun n=>(5,n)):=by
       rw[qe ag,qq,<-qn,S];rfl
      have T:∀e:Nat,e=0->((x::r).map encI)[e+(j:Int).toNat]? =some (encI (x::r)[j]):=by
       intro e he;subst he;rw[qv,qk,qs,qc ag];rfl
      rcases oi with _ | ⟨yo,I⟩
      ·refine⟨rfl,⟨by simp,?_⟩,?_⟩
       ·dsimp only;split<;>omega
       refine⟨rfl,_,T _ (by dsimp only;split<;>rfl),qg 1,[enc (5,(x::r)[j])],rfl,rfl,rfl,by show 1*16<=140737488355328;omega,fun c' hc=>?_⟩;exact⟨⟨(j+1,[]++[(5,(x::r)[j])],c'),gj,ab⟩,by show min (r.length+1) 5 - (j+1) < min (r.length+1) 5 - j;omega,leR [(9,11)] ah ai rfl ⟨tv,tv,zew _ _ _,tv⟩ ⟨(zvn (μ:=sig [(9,11)]) (i:=9) (j:=11) rfl c' _ ([]) (5,(x::r)[j]) rfl),cnt (by omega),tv⟩ ⟨Fz.r F1,zj4 (z0f [enc (5,(x::r)[j])] rfl),tv⟩⟩
      ·replace ac:I.length+1<=200:=ac;refine⟨rfl,⟨by simp,?_⟩,?_⟩
       ·dsimp only;split<;>omega
       refine⟨rfl,_,T _ (by dsimp only;split<;>rfl),qg 1,[enc (5,(x::r)[j])],rfl,rfl,rfl,by simp,rfl,by show(I.length+1+1)*16<=140737488355328;omega,fun c' hc=>?_⟩;exact⟨⟨(j+1,yo::I++[(5,(x::r)[j])],c'),gj,ab⟩,by show min (r.length+1) 5 - (j+1) < min (r.length+1) 5 - j;omega,leR [(9,11)] ah ai rfl ⟨tv,tv,zew _ _ _,tv⟩ ⟨(zvn (μ:=sig [(9,11)]) (i:=9) (j:=11) rfl c' _ (yo::I) (5,(x::r)[j]) rfl),cnt (by omega),tv⟩ ⟨Fz.r F1,zj4 (z0f _ (by simp)),tv⟩⟩
     ·have gj:j=min (r.length+1) 5:=by
       simp only[decide_eq_false_iff_not]at M;split at M<;>omega
      have am:oi=((pieces A B D E (x::r)).take 6).flatten:=by
       rw[S,<-L,gj]
       congr 2
       rw[Nat.min_comm,<-qf (a:=x),<-qa1,yw]
      rcases oi with _ | ⟨yo,I⟩
      ·exact⟨⟨(6,[],ci),by simp,am⟩,by show 7 - 6 < 7 - 5;omega,leRn [_,_,_] [_,_] [(8,9)] w y rfl ⟨tv,za5 _ _ _,za5 _ _ _,za5 _ _ _,za5 _ _ _,za5 _ _ _,zew _ _ _,tv⟩ ⟨rfl,rfl,tv⟩ ⟨Fz.r F1,zba (za0 _ _),zba (za0 _ _),zba (za0 _ _),zba (za0 _ _),zba (za0 _ _),zj4 (zll _ _),tv⟩⟩
      ·exact⟨⟨(6,yo::I,ci),by simp,am⟩,by show 7 - 6 < 7 - 5;omega,leRn [_,_,_] [_,_] [(8,9)] w y rfl ⟨tv,za5 _ _ _,za5 _ _ _,za5 _ _ _,za5 _ _ _,za5 _ _ _,zew _ _ _,tv⟩ ⟨⟨rfl,rfl,rfl,.inr ⟨rfl,rfl,rfl,rfl⟩⟩,rfl,tv⟩ ⟨Fz.r F1,zba (za0 _ _),zba (za0 _ _),zba (za0 _ _),zba (za0 _ _),zba (za0 _ _),zj4 (zll _ _),tv⟩⟩
   ·have ad:k2=7:=by have:¬(k2:Int) < 7:=by simpa using W
                     omega
    subst ad
    have aa:out=normS l:=by
     rw[normS,<-e6,if_pos rfl,<-e1,<-e2,<-e3,<-e4,<-e5];exact f
    rcases out with _ | ⟨xo,I⟩
    ·exact endFo (.ret (.va (.slice true 0 0 0 2 0 0))) F1 rfl l1 (Fz.r F1) ⟨_,rfl,by rw[<-aa];exact Sl.nil⟩ ⟨rfl,rfl,rfl⟩ rfl
    ·refine zbc 8 (fun _=>.arr 56 2 ((xo::I).map enc) co) rfl rfl rfl (fun _ _=>?_) (fun _ _=>zef _ _ _) ?_
     ·exact zha _ (xo::I) co
     intro b Q K hb;refine endFo (.ret (.va (.slice false 0 (b 0) 0 2 (I.length+1) co))) Q rfl (Fz.t l1 K) (Fz.r Q) ⟨_,rfl,?_⟩ ⟨rfl,rfl,rfl,.inr ⟨rfl,rfl,rfl,rfl⟩⟩ rfl;rw[<-aa];exact Sl.new (l:=xo::I) (hb 0 ⟨rfl,rfl⟩)
  ·refine⟨⟨by decide,by decide⟩,bre (by simp) ?_⟩;refine zbc 8 (fun _=>.arr 56 2 [enc (6,0)] 1) rfl rfl rfl (fun _ _=>rfl) (fun _ _=>SB.bB_ok rfl) ?_;intro b Q K hb;refine endFo (.ret (.va (.slice false 0 (b 0) 0 2 1 1))) Q rfl (Fz.t l1 K) (Fz.r Q) ⟨_,rfl,?_⟩ ⟨rfl,rfl,rfl,.inr ⟨rfl,rfl,rfl,rfl⟩⟩ rfl;rw[normS,<-e6,if_neg (by simp)];exact Sl.new (l:=[(6,0)]) (hb 0 rfl)
theorem zh2{p:Int}{l:List Stp}(h:za8 p l=true):∀s∈l,1<=s.1/\s.1<=6:=by
 intro s a;simp only[za8,qd]at h;have:=qo.1 h.2.2 s a;simp only[zbt,qd,decide_eq_true_eq]at this;exact this.1
theorem zi0{p:Int}{l:List Stp}(h:za8 p l=true):l.length<=64:=by
 simp only[za8,qd,decide_eq_true_eq]at h;exact h.2.1
theorem z96{F:Fz}{b c c':Nat}{a:SA}{l:List Stp}(e:zbb F a l)(h:F b=some (.arr 50 1 [[a]] c)):zt0 F (.slice false 0 b 0 1 1 c') [l]:=
 SlR.new (l:=[l]) h rfl fun k x d=>by
  match k,d with
  |0,d=>simp at d;subst d;exact⟨[a],rfl,a,rfl,e⟩
theorem z97{F:Fz}{b c c':Nat}{a e:SA}{l g:List Stp}(i:zbb F a l)(f:zbb F e g)(h:F b=some (.arr 50 1 [[a],[e]] c)):zt0 F (.slice false 0 b 0 1 2 c') [l,g]:=
 SlR.new (l:=[l,g]) h rfl fun k x d=>by
  match k,d with
  |0,d=>simp at d;subst d;exact⟨[a],rfl,a,rfl,i⟩
  |1,d=>simp at d;subst d;exact⟨[e],rfl,e,rfl,f⟩
def normR(p:Int)(l:List Stp):List Stp×Int:=if za8 p l=true then(normS l,0)else([],70)
def compR(p:Int)(a b:List Stp):List Stp×Int:=if za8 p a=true/\za8 p b=true then(normS (a++b),0)else([],70)
theorem zq6(l:List Stp):(normS l).length<=100:=by
 unfold normS;split
 ·have:=zjj (sel 1 l) (sel 2 l) (sel 3 l) (sel 4 l) (sel 5 l) 7;exact this
 ·simp
theorem z9c(F:Fz)(b:Nat)(a:SA)(l:List Stp)(c c':Nat)(g:zbb F a l)(h:F b=some (.arr 50 1 [[a]] c)){p:Int}(d:za8 p l=true):
  Fo Tryz.prog F 132 [.va (.slice false 0 b 0 1 1 c')] (fun o f=>∃e,o=.ret (.va e)/\zbb f e (normS l)):=by
 have i:=zi0 d;have:=zq7 F _ [l] (z96 (c':=c') g h) (by simp) (by simp;omega) (by simpa using zh2 d);rw[jy,qas,jp]at this;exact this
theorem z9d(F:Fz)(b:Nat)(a g:SA)(l e:List Stp)(c c':Nat)(m:zbb F a l)(f:zbb F g e)(h:F b=some (.arr 50 1 [[a],[g]] c)){p:Int}(i:za8 p l=true)(d:za8 p e=true):
  Fo Tryz.prog F 132 [.va (.slice false 0 b 0 1 2 c')] (fun o k=>∃j,o=.ret (.va j)/\zbb k j (normS (l++e))):=by
 have q:=zi0 i;have n:=zi0 d
 have:=zq7 F _ [l,e] (z97 (c':=c') m f h) (by simp) (by simp;omega) (by
  intro s hs;simp only[jy,qas,jp,yj]at hs;rcases hs with hs | hs
  ·exact zh2 i s hs
  ·exact zh2 d s hs)
 rw[jy,jy,qas,jp]at this;exact this
theorem znd(F:Fz)(m:SA)(l:List Stp)(p:Int)(d:zbb F m l)(K:l.length < 1000000):
  Fo Tryz.prog F 62 [.va (.int .i64 p),.va m] (fun o u=>∃n,o=.ret (.tup [.va n,.va (.int .i64 (normR p l).2)])/\zbb u n (normR p l).1):=by
 have M:=zko F m l p d K;have f:=d;obtain⟨k,h,j,i,G,I,rfl,A,B,D,E⟩:=d;refine fo_of hΘ Tryz.func62 rfl (by decide) _ _ rfl rfl rfl ?_;refine usePu (M) rfl (zaa _) rfl ?_;refine br (fun g=>?_) (fun g=>?_)
 ·have c:za8 p l=false:=not_t g;have e:normR p l=([],70):=by simp[normR,c]
  exact endFo (.ret (.tup [.va (.slice true 0 0 0 2 0 0),.va (.int .i64 70)])) F rfl (Fz.r F) (Fz.r F) ⟨_,by rw[e],by rw[e];exact Sl.nil⟩ ⟨⟨rfl,rfl,rfl⟩,rfl,tv⟩ rfl
 ·have c:za8 p l=true:=by simpa using g
  have e:normR p l=(normS l,0):=by simp[normR,c]
  refine zaz 1 (fun _=>.arr 50 1 [[.slice k 0 h j 2 l.length i]] 1) rfl rfl rfl (fun _ _=>rfl) (fun _ _=>SB.bB_ok rfl) ?_;intro b F1 s J;refine useFo (z9c F1 (b 0) _ l 1 1 (f.mono s) (J 0 rfl) c) rfl (zaa _) rfl ?_;rintro _ q O ⟨n,rfl,a⟩;conv=>whnf
  have L:=a;obtain⟨Q,w,y,x,R,S,rfl,_⟩:=L;exact endFo (.ret (.tup [.va (.slice Q 0 w y 2 (normS l).length x),.va (.int .i64 0)])) q rfl (Fz.t s O) (Fz.r q) ⟨_,by rw[e],by rw[e];exact a⟩ ⟨⟨rfl,rfl,rfl,.inr ⟨rfl,rfl,rfl,rfl⟩⟩,rfl,tv⟩ rfl
theorem zsn(F:Fz)(E G:SA)(a b:List Stp)(p:Int)(i:zbb F E a)(q:zbb F G b)(la:a.length < 1000000)(lb:b.length < 1000000):
  Fo Tryz.prog F 134 [.va (.int .i64 p),.va E,.va G] (fun o K=>∃I,o=.ret (.tup [.va I,.va (.int .i64 (compR p a b).2)])/\zbb K I (compR p a b).1):=by
 have A:=zko F E a p i la;have B:=zko F G b p q lb;have j:=i;have s:=q;obtain⟨n,k,m,l,V,W,rfl,R,S,T,U⟩:=i;obtain⟨y,u,x,w,aa,ab,rfl,c,X,Y,Z⟩:=q;refine fo_of hΘ Tryz.func134 rfl (by decide) _ _ rfl rfl rfl ?_;refine usePu (A) rfl (zaa _) rfl ⟨fun g=>?_,fun g=>?_⟩
 ·have f:za8 p a=true:=by simpa using g
  refine usePu (B) rfl (zaa _) rfl ?_;refine br (fun g=>?_) (fun g=>?_)
  ·have h:za8 p b=false:=not_t g;have e:compR p a b=([],70):=by simp[compR,h]
   exact endFo (.ret (.tup [.va (.slice true 0 0 0 2 0 0),.va (.int .i64 70)])) F rfl (Fz.r F) (Fz.r F) ⟨_,by rw[e],by rw[e];exact Sl.nil⟩ ⟨⟨rfl,rfl,rfl⟩,rfl,tv⟩ rfl
  ·have h:za8 p b=true:=by simpa using g
   have e:compR p a b=(normS (a++b),0):=by simp[compR,f,h]
   refine zaz 1 (fun _=>.arr 50 1 [[.slice n 0 k m 2 a.length l],[.slice y 0 u x 2 b.length w]] 2) rfl rfl rfl (fun _ _=>rfl) (fun _ _=>SB.bB_ok rfl) ?_;intro L F1 D c;refine useFo (z9d F1 (L 0) _ _ a b 2 2 (j.mono D) (s.mono D) (c 0 rfl) f h) rfl (zaa _) rfl ?_;rintro _ J l2 ⟨I,rfl,d⟩;conv=>whnf
   have hs:=d;obtain⟨n2,M,Q,O,L2,r2,rfl,_⟩:=hs;exact endFo (.ret (.tup [.va (.slice n2 0 M Q 2 (normS (a++b)).length O),.va (.int .i64 0)])) J rfl (Fz.t D l2) (Fz.r J) ⟨_,by rw[e],by rw[e];exact d⟩ ⟨⟨rfl,rfl,rfl,.inr ⟨rfl,rfl,rfl,rfl⟩⟩,rfl,tv⟩ rfl
 ·have f:za8 p a=false:=not_t g;have e:compR p a b=([],70):=by simp[compR,f]
  exact endFo (.ret (.tup [.va (.slice true 0 0 0 2 0 0),.va (.int .i64 70)])) F rfl (Fz.r F) (Fz.r F) ⟨_,by rw[e],by rw[e];exact Sl.nil⟩ ⟨⟨rfl,rfl,rfl⟩,rfl,tv⟩ rfl
abbrev Kp:=Int×List Stp
def KpR(F:Fz)(y:List SA)(x:Kp):Prop:=∃a,y=[.int .i64 x.1,a]/\zbb F a x.2
theorem KpR.mono{F b:Fz}{y:List SA}{x:Kp}(h:KpR F y x)(a:Fz.le F b):KpR b y x:=by
 obtain⟨d,h1,c⟩:=h;exact⟨d,h1,c.mono a⟩
abbrev KpsAt(F:Fz)(a:SA)(l:List Kp):Prop:=SlR F 96 2 (KpR F) a l
abbrev ClsAt(F:Fz)(a:SA)(l:List Kp):Prop:=SlR F 52 2 (KpR F) a l
theorem KpsAt.open{F:Fz}{t:Nat}{i:SA}{c:List Kp}(h:SlR F t 2 (KpR F) i c):∃(nil:Bool) (b e cap:Nat) (L:List (List SA)) (d:Nat) (j:Nat->SA),i=.slice nil 0 b e 2 c.length cap/\(nil=true->c=[])/\(nil=false->F b=some (.arr t 2 L d))/\e+c.length<=L.length/\
  ∀(k:Nat) (h:k < c.length),L[e+k]? =some [.int .i64 (c[k]'h).1,j k]/\zbb F (j k) (c[k]'h).2:=by
 obtain⟨nil,b,e,cap,L,d,h1,l,m,n,o⟩:=h
 have g:∀k:Nat,∃a:SA,∀h:k < c.length,L[e+k]? =some [.int .i64 (c[k]'h).1,a]/\zbb F a (c[k]'h).2:=by
  intro k;by_cases f:k < c.length
  ·obtain⟨y,q,a,rfl,p⟩:=o k c[k] (by simp[f]);exact⟨a,fun _=>⟨q,p⟩⟩
  ·exact⟨.nilsl,fun h=>absurd h f⟩
 exact⟨nil,b,e,cap,L,d,fun k=>Classical.choose (g k),h1,l,m,n,fun k f=>Classical.choose_spec (g k) f⟩
def nameK(p:Int):Bool:=decide (p=1)||decide (p=2)||decide (p=3)||decide (p=4)||decide (p=7)
def zbf(k:Kp):Bool:=nameK k.1&&(decide (0 < k.2.length)&&(za8 k.1 k.2&&(decide (normS k.2=k.2)&&(!decide (k.1=4)||decide (k.2=[(6,0)])))))
def nameM:List MapEntry:=[⟨.int .i64 1,.string ⟨[116,101,120,116].toArray⟩,0⟩,⟨.int .i64 2,.string ⟨[109,97,114,107,115].toArray⟩,1⟩,⟨.int .i64 3,.string ⟨[99,111,110,115,116,97,110,116,115].toArray⟩,2⟩,⟨.int .i64 4,.string ⟨[102,111,114,109,117,108,97,115].toArray⟩,3⟩,⟨.int .i64 7,.string ⟨[98,105,116,115].toArray⟩,4⟩]
theorem z4k(F:Fz):Ct Tryz.prog 171 [] F [] 1 (fun o a b n0=>F=a/\n0=2/\o=.ret (.va (.map 1 0))/\b=[(1,.one (.obj (.map ⟨nameM⟩ 5)))]):=by
 refine ct_of hΘ Tryz.func171 rfl (by decide) _ _ rfl rfl rfl ?_;exact clean [(1,1)] (.ret (.va (.map 1 0))) F [(1,.one (.obj (.map ⟨nameM⟩ 5)))] 2 ⟨Fz.r F,rfl,rfl,rfl,rfl⟩ rfl rfl rfl (Out.bB_ok (o:=.ret (.va (.map 1 0))) rfl) ⟨tv,tv⟩ ⟨Fz.r F,rfl,tv⟩
theorem zon(F:Fz):Fo Tryz.prog F 111 [] (fun o a=>∃e,o=.ret (.va e)/\zbb a e [(6,0)]):=by
 refine fo_of hΘ Tryz.func111 rfl (by decide) _ _ rfl rfl rfl ?_;refine zbc 1 (fun _=>.arr 56 2 ([(6,0)].map enc) 1) rfl rfl rfl (fun _ _=>rfl) (fun _ _=>SB.bB_ok rfl) ?_;intro b a d c;exact endFo (.ret (.va (.slice false 0 (b 0) 0 2 1 1))) a rfl d (Fz.r a) ⟨_,rfl,Sl.new (l:=[(6,0)]) (c 0 rfl)⟩ ⟨rfl,rfl,rfl,.inr ⟨rfl,rfl,rfl,rfl⟩⟩ rfl
theorem zqo(F:Fz)(d:SA)(l:List Stp)(f:zbb F d l)(K:l.length < 1000000):
  Fo Tryz.prog F 150 [.va d] (fun o _=>o=.ret (.va (.bool (decide (l=[(6,0)]))))):=by
 have c:=fun F1 (b:Fz.le F F1) e a=>zia F1 d e l [(6,0)] (f.mono b) a K
 obtain⟨q,m,p,n,k,s,rfl,g,h,i,j⟩:=f;refine fo_of hΘ Tryz.func150 rfl (by decide) _ _ rfl rfl rfl ?_;refine useFo (zon F) rfl (zaa _) rfl ?_;rintro _ F1 b ⟨e,rfl,a⟩;have J:=c F1 b e a;obtain⟨G,B,E,D,A,I,rfl,u,w,x,y⟩:=a;refine usePu (J) rfl (zaa _) rfl ?_;exact endFo (.ret (.va (.bool (decide (l=[(6,0)]))))) F1 rfl b (Fz.r F1) rfl (zah _) rfl
theorem zp4(F:Fz)(s:SA)(l:List Stp)(y:zbb F s l)(q:l.length < 1000000):
  Fo Tryz.prog F 73 [.va s] (fun o e=>∃u,o=.ret (.va u)/\zbb e u l):=by
 obtain⟨w,A,D,B,L,d,rfl,j,k,h,i⟩:=y;rcases w with _ | _
 ·have a:=k rfl;rcases l with _ | ⟨x,r⟩
  ·refine fo_of hΘ Tryz.func73 rfl (by decide) _ _ rfl rfl rfl ?_;refine brd (by decide) ⟨56,L,d,a,h,[],i,rfl,rfl,rfl,by decide,fun c m=>?_⟩;clear m;refine zbc 2 (fun _=>.arr 56 2 [] c) rfl rfl rfl (fun _ _=>rfl) (fun _ _=>SB.bB_ok rfl) ?_;intro b e g f;exact endFo (.ret (.va (.slice false 0 (b 0) 0 2 0 c))) e rfl g (Fz.r e) ⟨_,rfl,Sl.new (l:=[]) (f 0 rfl)⟩ ⟨rfl,rfl,rfl,.inr ⟨rfl,rfl,rfl,rfl⟩⟩ rfl
  ·replace q:r.length+1 < 1000000:=q;have p:(0+((x::r).map enc).length)*16<=140737488355328:=by rw[qa,qf];omega
   have E:∀c,(∀μ:Mu,(SB.arr 56 2 ((x::r).map enc) c).ren μ=SB.arr 56 2 ((x::r).map enc) c):=fun c μ=>zha μ _ c
   refine fo_of hΘ Tryz.func73 rfl (by decide) _ _ rfl rfl rfl ?_;refine brd (by decide) ⟨56,L,d,a,h,(x::r).map enc,i,rfl,rfl,rfl,p,fun c' m=>?_⟩;clear m;refine zbc 2 (fun _=>.arr 56 2 ((x::r).map enc) c') rfl rfl rfl (fun _ _=>zha _ _ _) (fun _ _=>zef _ _ _) ?_;intro b e g f;exact endFo (.ret (.va (.slice false 0 (b 0) 0 2 (x::r).length c'))) e rfl g (Fz.r e) ⟨_,rfl,Sl.new (l:=x::r) (f 0 rfl)⟩ ⟨rfl,(by first | rfl | (rw[qa];omega)),(by first | rfl | (rw[qa];omega)),.inr ⟨rfl,rfl,rfl,rfl⟩⟩ rfl
 ·have n:=j rfl;subst n;refine fo_of hΘ Tryz.func73 rfl (by decide) _ _ rfl rfl rfl ?_;refine bre (by decide) ?_;exact endFo (.ret (.va (.slice true 0 0 0 2 0 0))) F rfl (Fz.r F) (Fz.r F) ⟨_,rfl,Sl.nil⟩ ⟨rfl,rfl,rfl⟩ rfl
theorem zw4(p:Int):(p=1/\nameK p=true)\/(p=2/\nameK p=true)\/(p=3/\nameK p=true)\/(p=4/\nameK p=true)\/(p=7/\nameK p=true)\/((p≠1/\p≠2/\p≠3/\p≠4/\p≠7)/\nameK p=false):=by
 unfold nameK;by_cases h1:p=1
 ·left;simp[h1]
 by_cases a:p=2
 ·right;left;simp[a]
 by_cases b:p=3
 ·right;right;left;simp[b]
 by_cases c:p=4
 ·right;right;right;left;simp[c]
 by_cases d:p=7
 ·right;right;right;right;left;simp[d]
 ·right;right;right;right;right;simp[h1,a,b,c,d]
theorem kF0{p:Int}{l:List Stp}(h:nameK p=false):zbf (p,l)=false:=by simp only[zbf,h,jm]
theorem kF1{p:Int}{l:List Stp}(h:decide ((0:Int) < (l.length:Int))=false):zbf (p,l)=false:=by
 have a:decide (0 < l.length)=false:=by simp at h ⊢;omega
 simp only[zbf,a,jm,jz]
theorem kF2{p:Int}{l:List Stp}(h:decide ((normR p l).2=0)=false):zbf (p,l)=false:=by
 have a:za8 p l=false:=by
  cases b:za8 p l with
  |false=>rfl
  |true=>rw[normR,if_pos b]at h;cases h
 simp only[zbf,a,jm,jz]
theorem zkh{p:Int}{l:List Stp}(h:decide ((normR p l).2=0)=true):za8 p l=true/\(normR p l).1=normS l:=by
 cases a:za8 p l with
 |false=>rw[normR,if_neg (by rw[a];simp)]at h;cases h
 |true=>exact⟨rfl,by rw[normR,if_pos a]⟩
theorem kF3{p:Int}{l:List Stp}(b:decide ((normR p l).2=0)=true)(h:decide ((normR p l).1=l)=false):zbf (p,l)=false:=by
 have a:=zkh b;rw[a.2]at h;simp only[zbf,a.1,h,jm,jz]
theorem kT{p:Int}{l:List Stp}(e:nameK p=true)(d:decide ((0:Int) < (l.length:Int))=true)(b:decide ((normR p l).2=0)=true)(h:decide ((normR p l).1=l)=true):zbf (p,l)=(!decide (p=4)||decide (l=[(6,0)])):=by
 have a:=zkh b;have c:decide (0 < l.length)=true:=by simp at d ⊢;omega
 rw[a.2]at h;simp only[zbf,e,c,a.1,h,qac]
theorem znc(p:Int)(l:List Stp):(normR p l).1.length < 1000000:=by
 unfold normR;split
 ·have:=zq6 l;show(normS l).length < _;omega
 ·simp
theorem zzh(F:Fz)(q:SA)(p:Int)(l:List Stp)(u:zbb F q l)(B:l.length < 1000000):
  Fo Tryz.prog F 107 [.agg [.int .i64 p,q]] (fun o _=>o=.ret (.va (.bool (zbf (p,l))))):=by
 have i:=znd F q l p u B;have x:=fun F1 (a:Fz.le F F1) sb m=>zia F1 sb q (normR p l).1 l m (u.mono a) (znc p l)
 have f:=fun F1 (a:Fz.le F F1)=>zqo F1 q l (u.mono a) B
 have fin:∀(b:Bool) (F1:Fz) (h:Hp) (nx:Nat),zbf (p,l)=b->lget h 0=some (.frz F1)->Fz.le F F1->Cln 1 (FoK F fun o A=>o=.ret (.va (.bool (zbf (p,l))))) (.ret (.va (.bool b))) h nx:=by
  intro b F1 h nx m s d;exact endFo (.ret (.va (.bool b))) F1 s d (Fz.r F1) (by rw[m]) rfl rfl
 have finL:∀(b:Bool) (F1:Fz) (h:Hp) (nx:Nat),zbf (p,l)=b->lget h 0=some (.frz F1)->Fz.le F F1->Cln 1 (FoK F fun o A=>o=.ret (.va (.bool (zbf (p,l))))) (.ret (.va (.lit b))) h nx:=by
  intro b F1 h nx m s d;exact endFo (.ret (.va (.bool b))) F1 s d (Fz.r F1) (by rw[m]) rfl rfl
 have hc:=zw4 p;obtain⟨ab,Y,aa,Z,X,ac,rfl,T,U,V,W⟩:=u;rcases hc with⟨rfl,c⟩ | ⟨rfl,c⟩ | ⟨rfl,c⟩ | ⟨rfl,c⟩ | ⟨rfl,c⟩ | ⟨hp,c⟩
 all_goals
  refine fo_of hΘ Tryz.func107 rfl (by decide) _ _ rfl rfl rfl ?_;refine drawP hΘ mixed (.look 1 (.look 2 (.alt 0 (.alt 3 (lk [4,5,6,7,8] .done) .nil) .nil))) [1] (by kernel_rfl) ⟨rfl,?_⟩;refine use (z4k F) [] rfl trivial rfl trivial (by simp) trivial ?_;rintro R F0 s n0 d ⟨rfl,rfl,rfl,rfl⟩;refine⟨Fz.r F,rfl,?_⟩;conv=>whnf
  repeat
   refine br (fun g=>absurd (od g) (by omega)) (fun _=>?_);conv=>whnf
  try (refine bri rfl ?_;(conv=>whnf))
  refine⟨Fz.r F,rfl,?_⟩;refine useFo i rfl (zaa _) rfl ?_;rintro _ F1 a ⟨sc,rfl,n⟩;have w:=x F1 a sc n;have y:=f F1 a;obtain⟨O,K,M,L,J,Q,rfl,D,E,G,I⟩:=n
  conv=>whnf
  first
   |exact fin false F1 _ _ (kF0 c) rfl a
   |exact finL false F1 _ _ (kF0 c) rfl a
   |refine⟨fun j=>?_,fun j=>?_⟩
    ·refine⟨fun e=>?_,fun e=>?_⟩
     ·refine usePu (w) rfl (zaa _) rfl ⟨fun k=>?_,fun k=>?_⟩
      ·conv=>whnf
       first
        |refine gaf (by decide) ?_
         conv=>whnf
         repeat
          refine gaf (by decide) ?_;conv=>whnf
         first
          |exact fin true F1 _ _ (kT c j e k) rfl a
          |exact finL true F1 _ _ (kT c j e k) rfl a
        |refine gae (by decide) ?_
         conv=>whnf
         repeat
          refine gae (by decide) ?_;conv=>whnf
         refine useFo y rfl (zaa _) rfl ?_;rintro _ S l2 rfl;conv=>whnf
         repeat
          refine gae (by decide) ?_;conv=>whnf
         exact fin _ S _ _ (kT c j e k) rfl (Fz.t a l2)
      ·conv=>whnf
       first
        |exact fin false F1 _ _ (kF3 e k) rfl a
        |exact finL false F1 _ _ (kF3 e k) rfl a
     ·conv=>whnf
      first
       |exact fin false F1 _ _ (kF2 e) rfl a
       |exact finL false F1 _ _ (kF2 e) rfl a
    ·conv=>whnf
     first
      |exact fin false F1 _ _ (kF1 j) rfl a
      |exact finL false F1 _ _ (kF1 j) rfl a
def idxN{α:Type}(q:α->Bool):List α->Nat->Int
 |[],_=>-1
 |x::r,n=>if q x=false then n else idxN q r (n+1)
theorem zqi{α:Type}(q:α->Bool)(l:List α)(k:Nat)(h:k < l.length):idxN q (l.drop k) k=if q l[k]=false then(k:Int)else idxN q (l.drop (k+1)) (k+1):=by
 rw[qy h];rfl
theorem zu4{α:Type}(q:α->Bool):∀(l:List α) (n:Nat),(0<=idxN q l n)↔l.all q=false
 |[],n=>by simp[idxN]
 |x::r,n=>by
  simp only[idxN,qb1];split
  ·rename_i h;simp[h]
  ·rename_i h;have:q x=true:=by simpa using h
   rw[zu4 q r (n+1),this];simp
theorem zu3{α:Type}(q:α->Bool)(l:List α):decide (0<=idxN q l 0)= !l.all q:=by
 have:=zu4 q l 0;cases h:l.all q with
 |true=>rw[h]at this;simp only[Bool.not_true,decide_eq_false_iff_not];intro a;exact absurd (this.1 a) (by simp)
 |false=>rw[h]at this;simp only[Bool.not_false,decide_eq_true_eq];exact this.2 rfl
theorem zw3(F:Fz)(a:SA)(p:Int)(l:List Stp)(b:zbb F a l)(q:l.length < 1000000):
  Fo Tryz.prog F 106 [.agg [.int .i64 p,a]] (fun o _=>o=.ret (.va (.bool (!zbf (p,l))))):=by
 have h:=zzh F a p l b q;obtain⟨m,i,k,j,g,n,rfl,c,d,e,f⟩:=b;refine fo_of hΘ Tryz.func106 rfl (by decide) _ _ rfl rfl rfl ?_;refine useFo h rfl (zaa _) rfl ?_;rintro _ F1 s rfl;exact endFo (.ret (.va (.bool (!zbf (p,l))))) F1 rfl s (Fz.r F1) rfl (zah _) rfl
def short(a:List Kp):Prop:=∀x∈a,x.2.length < 1000000
theorem z8o(F:Fz)(sk:SA)(b:List Kp)(V:KpsAt F sk b)(W:short b)(hl:b.length < 1000000):
  Fo Tryz.prog F 172 [.va sk,.va (.fn (.func 106) [])] (fun o _=>o=.ret (.va (.int .i64 (idxN zbf b 0)))):=by
 obtain⟨kn,kb,ke,kc,kL,kr,rfl,B,k2,k3,k4⟩:=V
 have fin:∀(x:Int) (F1:Fz) (h:Hp) (nx:Nat),idxN zbf b 0=x->lget h 0=some (.frz F1)->Fz.le F F1->
   Cln 1 (FoK F fun o E=>o=.ret (.va (.int .i64 (idxN zbf b 0)))) (.ret (.va (.int .i64 x))) h nx:=by
  intro x F1 h nx Y I w;exact endFo (.ret (.va (.int .i64 x))) F1 I w (Fz.r F1) (by rw[Y]) rfl rfl
 refine fo_of hΘ Tryz.func172 rfl (by decide) _ _ rfl rfl rfl ?_;conv=>whnf
 refine zam hΘ (X:={ x:Nat×Fz // Fz.le F x.2/\x.1<=b.length/\idxN zbf b 0=idxN zbf (b.drop x.1) x.1 }) (fun x=>[(8,.va (.int .i64 x.1.1))]) (4::5::jr 9 10 []) (fz fun x=>x.1.2) 1 (fun x=>b.length - x.1.1) ⟨(0,F),Fz.r F,by simp,by simp⟩
  (fun s u=>leI [] s u rfl ⟨tv,tv⟩ ⟨rfl,tv⟩ ⟨Fz.r F,tv⟩) ?_
 rintro⟨⟨k,G⟩,c,l,e⟩ s u;replace c:Fz.le F G:=c;replace l:k<=b.length:=l;replace e:idxN zbf b 0=idxN zbf (b.drop k) k:=e;by_cases g:k < b.length
 ·have m:(k:Int) < (b.length:Int):=by omega
  have i:b.length - (k+1) < b.length - k:=by omega
  have j:k < 4611686018427387904:=by omega
  have Z:=W b[k] (qz g);rw[zqi zbf b k g]at e;have f:=SlR.at k4 g;obtain⟨y,hy,a,rfl,A⟩:=f;have d:=zw3 G a b[k].1 b[k].2 (A.mono c) Z;obtain⟨T,Q,S,R,O,U,rfl,J,K,L,M⟩:=A;refine bri m ⟨SlR.lt B g,⟨by simp,m⟩,_,c _ _ (k2 (SlR.lt B g)),_,hy,?_⟩;refine useFo d rfl (zaa _) rfl ?_;rintro _ n D rfl;refine br (fun p=>?_) (fun p=>?_)
  ·exact fin _ n _ _ (e.trans (if_pos (by have q:(!zbf b[k])=true:=p;simpa using q))) rfl (Fz.t c D)
  ·conv=>whnf
   have q:(!zbf b[k])=false:=p;exact⟨⟨(k+1,n),Fz.t c D,g,e.trans (if_neg (by rw[show zbf b[k]=true by simpa using q];simp))⟩,i,leR [] s u rfl ⟨tv,tv⟩ ⟨cnt j,tv⟩ ⟨Fz.r n,tv⟩⟩
 ·have m:¬(k:Int) < (b.length:Int):=by omega
  rw[yi (by omega)]at e;refine brj m ?_;exact fin _ G _ _ e rfl c
theorem z3w(F:Fz)(sk:SA)(a:List Kp)(b:KpsAt F sk a)(d:short a)(c:a.length < 1000000):
  Fo Tryz.prog F 109 [.va sk,.va (.fn (.func 106) [])] (fun o _=>o=.ret (.va (.bool (!a.all zbf)))):=by
 have h:=z8o F sk a b d c;obtain⟨q,m,p,n,l,s,rfl,g,i,j,k⟩:=b;refine fo_of hΘ Tryz.func109 rfl (by decide) _ _ rfl rfl rfl ?_;refine useFo h rfl (zaa _) rfl ?_;rintro _ F1 e rfl;exact endFo (.ret (.va (.bool (!a.all zbf)))) F1 rfl e (Fz.r F1) rfl (ob (zu3 zbf a).symm) rfl
