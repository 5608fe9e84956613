import Derived.Test.YtfnkamphhpldcaaGreatDoorK21
import Derived.Test.YtfnkamphhpldcaaGreatDoorK08
import Derived.Test.YtfnkamphhpldcaaGreatDoorK14
set_option maxHeartbeats 64000000
namespace Go.Proofs.YtfnkamphhpldcaaGreatDoor
open Go Sx Tryz
set_option maxRecDepth 100000
theorem dE{p k n:Int}(d:1<=p/\p<=8)(h:aS p (k,n)=true):
  (k=1/\p=1/\n=0)\/(k=2/\p=1/\n=0)\/(k=3/\(p=3\/p=5)/\(n=10\/n=100\/n=1000))\/(k=4/\p=2/\(0<=n/\n<=6))\/(k=5/\(p=6\/p=7)/\n=0)\/(k=6/\n=0):=by
 have c:1<=k/\k<=6:=by
  unfold aS at h;simp only[qd,decide_eq_true_eq]at h;exact h.1
 have a:k=1\/k=2\/k=3\/k=4\/k=5\/k=6:=by omega
 have b:p=1\/p=2\/p=3\/p=4\/p=5\/p=6\/p=7\/p=8:=by omega
 rcases a with rfl | rfl | rfl | rfl | rfl | rfl<;>rcases b with rfl | rfl | rfl | rfl | rfl | rfl | rfl | rfl<;>simp[aS,props,numOk,idx]at h ⊢<;>omega
def foldL(x:Ln):Ln:=(Lib.toLowerA x.1,x.2)
def cU(x:Ln):Ln:=(spS x.1.length x.1,x.2)
def eW(n:Int)(x:Ln):Ln:=(x.1,rndN n x.2)
def limL(n:Int)(x:Ln):Ln:=(x.1,limN n x.2)
def halV(v:Val):Val:=⟨false,[],(v.w+1) / 2,(v.h+1) / 2,if v.bits=[]then []else halB v.w.toNat 0 v.bits (List.replicate ((v.w.toNat+1) / 2*((v.h.toNat+1) / 2)) 48)⟩
def stepS(s:Stp)(v:Val):Val:=
 if s.1=1 then{ v with lines:=v.lines.map foldL } else if s.1=2 then{ v with lines:=v.lines.map cU } else if s.1=3 then{ v with lines:=v.lines.map (eW s.2) }
 else if s.1=4 then{ v with lines:=v.lines.map (limL s.2) } else if s.1=5 then halV v else loseV
theorem iC{p:Int}:∀{acc l:List Ln},lnsOk p acc l->∀x∈l,∃b,lnOk p b x
 |_,[],_,x,hx=>absurd hx ss
 |acc,y::r,h,x,hx=>by
  rcases qi.1 hx with rfl | hx
  ·exact⟨acc,h.1⟩
  ·exact iC h.2 x hx
theorem fV{p:Int}{v:Val}(h:VOK p v)(a:v.lost=false)(b:p<=5):v.w=0/\v.h=0/\v.bits=[]/\v.lines.length<=64/\lnsOk p [] v.lines:=by
 rcases h with rfl | ⟨_,h⟩
 ·cases a
 ·rw[if_neg oo,if_neg oo]at h;exact h
theorem fY{p:Int}{v:Val}(h:VOK p v)(a:v.lost=false)(c:p=6\/p=7):v.lines=[]/\(0<=v.w/\v.w<=32)/\(min v.w 1<=v.h/\v.h<=min v.w 1*32)/\(if p=7 then(v.bits.length:Int)=v.w*v.h/\v.bits.all (fun b=>b==48||b==49)=true else v.bits=[]):=by
 rcases h with rfl | ⟨_,h⟩
 ·cases a
 ·rw[if_neg oo,if_pos oo]at h;exact h
theorem ycl{s:List UInt8}(h:s.any badC=false):∀b∈s,32<=b.toNat/\b.toNat<=126:=by
 intro b hb;have h1:=qbd.1 h b hb;simpa[badC]using h1
theorem BS(F:Fz)(g b:Nat)(w h:Int)(bits:List UInt8)(d:Bool)(a:Int)(c:Nat)(caps:Nat->Nat)(_:F b=some (eF g)):
  Ct prog 246 [.va (.ptr ⟨1,0,0,0,0⟩),.va (.int .i64 a),.va (.ptr (fp b))] F (valM ⟨d,[],w,h,bits⟩ c caps) 4 (stepV F ⟨d,[],w,h,bits⟩):=by
 refine ctS func246 ?_;conv=>whnf
 refine rounds hΘ 1 ?_;refine brd dd ?_;refine clean [] (.ret (.tup [])) F (valM ⟨d,[],w,h,bits⟩ c caps) 4 ⟨Fz.r F,rfl,rfl,rfl,c,caps,rfl⟩ (aO _) rfl rfl (by simp[Out.below,SV.below]) (iY _ _ _) ⟨Fz.r F,rfl,tv⟩
theorem lY(F:Fz)(g b:Nat)(f:Ln->Ln)(w h:Int)(bits:List UInt8)(d:Bool)(L:List Ln)(a:Int)(c:Nat)(caps:Nat->Nat)(hb:F b=some (eF g))(j:L.length<=1000000)(i:∀x∈L,ybk g F c caps a f x):
  Ct prog 246 [.va (.ptr ⟨1,0,0,0,0⟩),.va (.int .i64 a),.va (.ptr (fp b))] F (valM ⟨d,L,w,h,bits⟩ c caps) 4 (stepV F ⟨d,L.map f,w,h,bits⟩):=by
 by_cases e:L=[]
 ·subst e;exact BS F g b w h bits d a c caps hb
 ·exact BT F g b f w h bits d L a c caps hb e j i
def doG(k:Int):Nat:=if k=5 then 194 else if k=6 then 195 else 246
def doC(b:Nat->Nat)(k:Int):List Pl:=if k=1 then [fp (b 6)]else if k=2 then [fp (b 7)]else if k=3 then [fp (b 8)]else if k=4 then [fp (b 9)]else []
theorem do_fn(F:Fz)(b:Nat->Nat)(I:KindsAt F b)(Y:MLF F)(p k n:Int)(v:Val)(q:1<=p/\p<=8)(O:aS p (k,n)=true)(A:VOK p v)(l:v.lost=false)(c:Nat)(caps:Nat->Nat):
  Ct prog (doG k) ([.va (.ptr ⟨1,0,0,0,0⟩),.va (.int .i64 n)]++(doC b k).map fun p=>SV.va (.ptr p)) F (valM v c caps) 4 (stepV F (stepS (k,n) v)):=by
 have Q:=dE q O;obtain⟨B,L,w,h,bits⟩:=v;replace l:B=false:=l;subst l;rcases Q with⟨rfl,rfl,rfl⟩ | ⟨rfl,rfl,rfl⟩ | ⟨rfl,q,Z⟩ | ⟨rfl,rfl,Z⟩ | ⟨rfl,q,rfl⟩ | ⟨rfl,rfl⟩
 ·obtain⟨_,_,_,f,o⟩:=fV A rfl oo;replace f:L.length<=64:=f;refine lY F 188 (b 6) foldL w h bits false L 0 c caps I.h6 oo fun x s g i d=>?_
  obtain⟨bf,a⟩:=iC o x s;rw[lnOk,if_pos rfl]at a;obtain⟨t,m⟩:=x;exact yc9 lfun F g i c caps t m 0 d (by have X:t.length<=80:=a.2.1;omega) (fun b hb=>by have:=ycl a.2.2 b hb;omega)
 ·obtain⟨_,_,_,f,o⟩:=fV A rfl oo;replace f:L.length<=64:=f;refine lY F 189 (b 7) cU w h bits false L 0 c caps I.h7 oo fun x s g i d=>?_
  obtain⟨bf,a⟩:=iC o x s;rw[lnOk,if_pos rfl]at a;obtain⟨t,m⟩:=x;exact A2 dfun afun F Y g i c caps t m 0 d (by have X:t.length<=80:=a.2.1;omega)
 ·obtain⟨_,_,_,f,o⟩:=fV A rfl oo;replace f:L.length<=64:=f;refine lY F 191 (b 8) (eW n) w h bits false L n c caps I.h8 oo fun x s g i d=>?_
  obtain⟨bf,a⟩:=iC o x s;rw[lnOk,if_neg oo]at a;obtain⟨t,m⟩:=x;obtain⟨_,D,E,_⟩:=a
  have J:m.length=3:=by
   rw[show cols p=3 by rcases q with rfl | rfl<;>rfl]at D;exact D
  match m,J,E,d with
  |[x,y,z],_,E,d=>
   have hz:-1000000000000<=z/\z<=1000000000000:=by
    have G:=E.2.2.1;rcases q with rfl | rfl
    ·have e:bnd 3 (([]++[x])++[y])=(-1000000,1000000):=rfl;rw[e]at G;dsimp only at G;omega
    ·have e:bnd 5 (([]++[x])++[y])=(-1000000000000,1000000000000):=rfl;rw[e]at G;exact G
   exact yah F g i c caps t x y z n [] d oo oo oo oo
 ·obtain⟨_,_,_,f,o⟩:=fV A rfl oo;replace f:L.length<=64:=f;refine lY F 193 (b 9) (limL n) w h bits false L n c caps I.h9 oo fun x s g i d=>?_
  obtain⟨bf,a⟩:=iC o x s;rw[lnOk,if_neg oo]at a;obtain⟨t,m⟩:=x;obtain⟨_,D,E,_⟩:=a
  match m,(D:m.length=1),d with
  |[x],_,d=>exact Cr F g i c caps t x n [] d
 ·obtain⟨K,T,hh,hb⟩:=fY A rfl q;replace K:L=[]:=K;subst K;replace T:0<=w/\w<=32:=T;replace hh:min w 1<=h/\h<=min w 1*32:=hh;by_cases j:bits=[]
  ·subst j;exact C7 F w h 0 c caps oo oo
  ·have V:p=7:=by
    rcases q with rfl | rfl
    ·exact absurd hb j
    ·rfl
   rw[if_pos V]at hb;replace hb:(bits.length:Int)=w*h/\_:=hb;rcases bits with _ | ⟨U,br⟩
   ·exact absurd rfl j
   have S:0 < w/\0 < h:=by
    have u:(0:Int) < w*h:=by rw[<-hb.1];simp only[qf];omega
    have h0:0<=h:=by omega
    by_cases R:w=0
    ·rw[R,qdj]at u;omega
    ·by_cases M:h=0
     ·rw[M,Int.mul_zero]at u;omega
     ·omega
   obtain⟨W,rfl⟩:∃W:Nat,w=W:=⟨w.toNat,by omega⟩
   obtain⟨H,rfl⟩:∃H:Nat,h=H:=⟨h.toNat,by omega⟩
   have:=C6 nfun F W H U br 0 c caps oo oo (by have:=hb.1;rw[<-qa5]at this;omega);exact this
 ·exact yds F ⟨false,L,w,h,bits⟩ 0 c caps
end Go.Proofs.YtfnkamphhpldcaaGreatDoor
namespace Go.Proofs.YtfnkamphhpldcaaGreatDoor
open Go Sx Tryz
theorem getLast?_map'{α β:Type}(f:α->β)(l:List α):(l.map f).getLast? =l.getLast?.map f:=by
 simp
theorem vV{p:Int}{f:Ln->Ln}(a:∀acc x,lnOk p acc x->lnOk p (acc.map f) (f x)):∀(l acc:List Ln),lnsOk p acc l->lnsOk p (acc.map f) (l.map f)
 |[],_,_=>trivial
 |x::r,acc,h=>by
  refine⟨a _ _ h.1,?_⟩;have:=vV a r (acc++[x]) h.2;rw[qq]at this;exact this
theorem ygg:∀b:UInt8,badC b=false->badC (Lib.lowerB b)=false:=by
 intro b;have:∀n:Fin 256,badC (UInt8.ofNat n.1)=false->badC (Lib.lowerB (UInt8.ofNat n.1))=false:=by decide+kernel
 have h:=this ⟨b.toNat,b.toNat_lt⟩;simpa using h
theorem Dt{s:List UInt8}(h:s.any badC=false):(Lib.toLowerA s).any badC=false:=by
 refine qbd.2 fun b hb=>?_
 obtain⟨a,c,rfl⟩:=jk.1 hb;rw[ygg a (by simpa using qbd.1 h a c)];simp
theorem pM:∀{s:List UInt8} {b:UInt8},b∈repD s->b∈s
 |[],_,h=>h
 |[a],_,h=>h
 |a::c::r,b,h=>by
  rw[repD]at h;split at h
  ·rename_i d;simp only[qd,beq_iff_eq]at d;rcases qi.1 h with rfl | h
   ·rw[d.1];simp
   ·exact yj _ (yj _ (pM h))
  ·rcases qi.1 h with rfl | h
   ·simp
   ·exact yj _ (pM h)
theorem sF:∀{f:Nat} {s:List UInt8} {b:UInt8},b∈spS f s->b∈s
 |0,_,_,h=>h
 |f+1,s,b,h=>by
  rw[spS]at h;split at h
  ·exact pM (sF h)
  ·exact h
theorem yb8:∀(f:Nat) (s:List UInt8),(spS f s).length<=s.length
 |0,_=>qj _
 |f+1,s=>by
  rw[spS];split
  ·exact jm (yb8 f _) (m9 s)
  ·exact qj _
variable {p:Int}
theorem rt(a:p=1)(acc:List Ln)(x:Ln)(h:lnOk p acc x):lnOk p (acc.map foldL) (foldL x):=by
 unfold lnOk at*;rw[if_pos a]at*;exact⟨h.1,by show(Lib.toLowerA x.1).length<=80;unfold Lib.toLowerA;rw[qa];exact h.2.1,Dt h.2.2⟩
theorem xF(a:p=1)(acc:List Ln)(x:Ln)(h:lnOk p acc x):lnOk p (acc.map cU) (cU x):=by
 unfold lnOk at*;rw[if_pos a]at*;refine⟨h.1,jm (yb8 _ _) h.2.1,qbd.2 fun b hb=>?_⟩;exact qbd.1 h.2.2 b (sF hb)
theorem pN(n:Int):∀l:List Int,(rndN n l).take 2=l.take 2
 |[]=>rfl
 |[_]=>rfl
 |[_,_]=>rfl
 |_::_::_::_=>rfl
theorem wK{z n:Int}(c:0 < n)(a:0<=z):z % n<=z:=by
 have h1:=Int.emod_add_mul_ediv z n;have b:0<=n*(z / n):=qcg oo (Int.ediv_nonneg a oo);omega
theorem sq{z n:Int}(c:0 < n){b:Int}(h:-b<=z/\z<=b):-b<=z - z.tmod n/\z - z.tmod n<=b:=by
 by_cases a:0<=z
 ·have h1:0<=z.tmod n:=qcw _ a;have d:z.tmod n<=z:=by rw[y4 a];exact wK c a
  omega
 ·have e:z.tmod n= -((-z).tmod n):=by rw[qd7];omega
  have h1:0<=(-z).tmod n:=qcw _ oo;have d:(-z).tmod n<= -z:=by rw[y4 oo];exact wK c oo
  omega
theorem three{α:Type}{l:List α}(h:l.length=3):∃a b c,l=[a,b,c]:=by
 match l,h with
 |[a,b,c],_=>exact⟨a,b,c,rfl⟩
theorem x8{n:Int}(k:p=3\/p=5)(j:0 < n)(acc:List Ln)(x:Ln)(h:lnOk p acc x):lnOk p (acc.map (eW n)) (eW n x):=by
 unfold lnOk at*;rw[if_neg oo]at*;obtain⟨h1,g,e,l⟩:=h;have d:x.2.length=3:=by rw[g];rcases k with rfl | rfl<;>rfl
 obtain⟨t,m⟩:=x;obtain⟨a,b,z,rfl⟩:=three d;refine⟨h1,g,⟨e.1,e.2.1,?_,tv⟩,fun h y c=>?_⟩
 ·have i:=e.2.2.1;rcases k with rfl | rfl
  ·exact sq j i
  ·exact sq j i
 ·rw[getLast?_map']at c;cases f:acc.getLast? with
  |none=>rw[f]at c;cases c
  |some y0=>
   rw[f]at c;cases c
   have:=l h y0 f;show cmpL ((rndN n y0.2).take 2) ((rndN n [a,b,z]).take 2) < 0;rw[pN,pN];exact this
theorem wV{n:Int}(f:p=2)(acc:List Ln)(x:Ln)(h:lnOk p acc x):lnOk p (acc.map (limL n)) (limL n x):=by
 subst f;unfold lnOk at*;rw[if_neg oo]at*;obtain⟨h1,d,b,g⟩:=h;obtain⟨t,m⟩:=x
 match m,(d:m.length=1),b with
 |[a],_,b=>
  refine⟨h1,rfl,⟨?_,tv⟩,fun h=>absurd rfl h⟩;have c:=b.1;have e:bnd 2 []=(0,7):=rfl;rw[e]at c ⊢;dsimp only at c ⊢;split<;>omega
theorem xm(w:Nat):∀(l:List UInt8) (k:Nat) (o:List UInt8),o.all (fun b=>b==48||b==49)=true->(halB w k l o).all (fun b=>b==48||b==49)=true
 |[],_,_,h=>h
 |b::r,k,o,h=>by
  rw[halB];refine xm w r (k+1) _ ?_;split
  ·refine qo.2 fun x a=>?_
   rcases qb7 a with a | rfl
   ·exact qo.1 h x a
   ·rfl
  ·exact h
theorem iP{v:Val}(d:p=6\/p=7)(j:VOK p v)(g:v.lost=false):VOK p (halV v):=by
 obtain⟨m,n,hh,hb⟩:=fY j g d;right;refine⟨rfl,?_⟩;rw[if_neg oo,if_pos oo];refine⟨rfl,⟨by show 0<=(v.w+1) / 2;omega,by show(v.w+1) / 2<=32;omega⟩,⟨by show min ((v.w+1) / 2) 1<=(v.h+1) / 2;omega,by show(v.h+1) / 2<=min ((v.w+1) / 2) 1*32;omega⟩,?_⟩;rcases d with l | h7
 ·rw[if_neg oo]at hb ⊢;show(if v.bits=[]then []else _)=[];rw[if_pos hb]
 ·rw[if_pos h7]at hb ⊢;show(((if v.bits=[]then([]:List UInt8)else halB v.w.toNat 0 v.bits (List.replicate ((v.w.toNat+1) / 2*((v.h.toNat+1) / 2)) 48)).length:Nat):Int)=(v.w+1) / 2*((v.h+1) / 2)/\(if v.bits=[]then([]:List UInt8)else halB v.w.toNat 0 v.bits (List.replicate ((v.w.toNat+1) / 2*((v.h.toNat+1) / 2)) 48)).all (fun b=>b==48||b==49)=true;split
  ·rename_i i;have e:=hb.1;rw[i]at e;have c:v.w*v.h=0:=e.symm
   have k:v.w=0:=by
    rcases Int.mul_eq_zero.1 c with h | h
    ·exact h
    ·omega
   have a:(v.w+1) / 2=0:=by omega
   rw[a];simp
  ·refine⟨?_,xm _ _ _ _ ss⟩;rw[pE,qaz];have a:(((v.w.toNat+1) / 2:Nat):Int)=(v.w+1) / 2:=by omega
   have f:(((v.h.toNat+1) / 2:Nat):Int)=(v.h+1) / 2:=by omega
   rw[qa5,a,f]
theorem po{s:Stp}{v:Val}(o:1<=p/\p<=8)(b:aS p s=true)(c:VOK p v)(a:v.lost=false):VOK p (stepS s v):=by
 obtain⟨k,n⟩:=s
 have lines:∀f:Ln->Ln,p<=5->(∀acc x,lnOk p acc x->lnOk p (acc.map f) (f x))->VOK p { v with lines:=v.lines.map f }:=fun f i l=>by
  obtain⟨h1,d,e,g,j⟩:=fV c a i;right;refine⟨a,?_⟩;rw[if_neg oo,if_neg oo];exact⟨h1,d,e,by show(v.lines.map f).length<=64;rw[qa];exact g,vV l v.lines [] j⟩
 rcases dE o b with⟨rfl,h,rfl⟩ | ⟨rfl,h,rfl⟩ | ⟨rfl,h,m⟩ | ⟨rfl,h,m⟩ | ⟨rfl,h,rfl⟩ | ⟨rfl,rfl⟩
 ·exact lines _ oo (rt h)
 ·exact lines _ oo (xF h)
 ·exact lines _ oo (x8 h oo)
 ·exact lines _ oo (wV h)
 ·exact iP h c a
 ·exact .inl rfl
def runS(l:List Stp)(v:Val):Val:=l.foldl (fun v s=>if v.lost=true then v else stepS s v) v
theorem kE{p:Int}(a:1<=p/\p<=8):∀(l:List Stp) (v:Val),(∀s∈l,aS p s=true)->VOK p v->VOK p (runS l v)
 |[],_,_,h=>h
 |s::r,v,hok,h=>by
  refine kE a r _ (fun x c=>hok x (by simp[c])) ?_;show VOK p (if v.lost=true then v else stepS s v);split
  ·exact h
  ·rename_i b;exact po a (hok s ss) h (by simpa using b)
theorem rr{v:Val}(_:1<=p/\p<=8)(a:VOK p v):Fits v:=by
 rcases a with rfl | ⟨f,a⟩
 ·exact⟨by show 0<=1000;omega,fun x c=>absurd c (by simp[loseV]),by show 0<=70000;omega⟩
 ·split at a
  ·exact⟨by rw[a.1];simp,fun x c=>by rw[a.1]at c;simp at c,by rw[a.2.1];simp⟩
  ·split at a
   ·refine⟨by rw[a.1];simp,fun x c=>by rw[a.1]at c;simp at c,?_⟩;have d:=a.2.2.2;split at d
    ·have e:v.w*v.h<=32*32:=by
      have:v.w*v.h<=32*v.h:=qcn a.2.1.2 oo;omega
     omega
    ·rw[d];simp
   ·refine⟨by omega,fun x c=>?_,by rw[a.2.2.1];simp⟩;obtain⟨b,hb⟩:=iC a.2.2.2.2 x c;unfold lnOk at hb;split at hb
    ·exact⟨by omega,by rw[hb.1];simp⟩
    ·refine⟨by rw[hb.1];simp,?_⟩;rw[hb.2.1];unfold cols;split<;>(try split)<;>(try split)<;>(try split)<;>omega
def cQ(p:Int)(l:List Stp)(s:List UInt8):List UInt8×Int:=
 if aM p l=true then match readS p s with
  |none=>([],70)
  |some v=>(bE p (runS l v),0)
 else([],70)
end Go.Proofs.YtfnkamphhpldcaaGreatDoor
namespace Sx
open Go
def dB(n:Nat)(d:List (Dk×List SA)):Bool:=d.all fun x=>x.2.all fun a=>a.bB n
variable {d:List (Dk×List SA)}
theorem dB_ok{n:Nat}(h:dB n d=true):∀x∈d,∀a∈x.2,a.below n:=fun x c a b=>
 SA.bB_ok (qo.1 (qo.1 h x c) a b)
theorem leId{T:List (List (Nat×SV))}{upd jl:List (Nat×SV)}{H:Hp}{hup:List (Nat×Ent)}{n0 nt N0 N:Nat}(s:List (Nat×Mv))(j:WfH H N0)(k:WfT T N0)
  (a:(ckI s upd jl hup n0 nt N0 N&&dB N0 d)=true)(m:bH N hup)(l:leT s T upd)(hh:leH s H hup):Le ⟨T,H,N0,n0,nt,d⟩ ⟨upd::jl::T,hup::H,N,n0,nt,d⟩:=by
 simp only[ckI,qd]at a;obtain⟨⟨⟨⟨⟨⟨b,c⟩,e⟩,f⟩,g⟩,h⟩,i⟩:=a;exact qP N s j k f e (dB_ok i) b c h (bT_of g) m l hh
theorem leRd{T:List (List (Nat×SV))}{b upd jl:List (Nat×SV)}{H:Hp}{a hup:List (Nat×Ent)}{nx1 n0 nt N0 N:Nat}(s:List (Nat×Mv))(n:WfH H N0)(o:WfT T N0)
  (c:(ckI s upd jl hup n0 nt N0 N&&(b.all fun p=>(aget upd p.1).isSome||(aget jl p.1).isSome)&&(a.all fun p=>(aget hup p.1).isSome||Nat.ble N0 p.1)&&dB N0 d)=true)
  (u:bH N hup)(q:leT s (b::jl::T) upd)(hh:leH s (a::H) hup):Le ⟨b::jl::T,a::H,nx1,n0,nt,d⟩ ⟨upd::jl::T,hup::H,N,n0,nt,d⟩:=by
 simp only[ckI,qd]at c;obtain⟨⟨⟨⟨⟨⟨⟨⟨e,f⟩,g⟩,h⟩,i⟩,j⟩,k⟩,l⟩,m⟩:=c;exact pG N0 N s n o h g (dB_ok m) e f k l j (bT_of i) u q hh
end Sx
namespace Go.Proofs.YtfnkamphhpldcaaGreatDoor
open Go Sx Tryz
set_option maxRecDepth 100000
def valN(v:Val)(c:Nat)(caps:Nat->Nat):List (Nat×Ent):=[(1,valE v 2 c),(2,bF 3 caps c v.lines),(3,famE caps v.lines)]
theorem sO(v:Val)(c:Nat)(caps:Nat->Nat):bH 4 (valN v c caps):=⟨gK oo _,cV oo _ _ _,cW _ _ _,tv⟩
theorem r9(e:Ent):e.ren (sig [])=e:=by
 have h:∀a:SA,a.ren (sig [])=a:=fun a=>SA.ren_id (.inr fun _ _=>rfl) (fun _=>rfl)
 have hb:∀b:SB,b.ren (sig [])=b:=fun b=>by
  cases b with
  |cells t l=>simp[SB.ren,fF fun a _=>h a]
  |arr t sz L room=>
   simp only[SB.ren];congr 1;exact fF fun x _=>fF fun a _=>h a
  |obj o=>rfl
 cases e<;>simp[Ent.ren,hb]
theorem wz(v:Val)(c:Nat):subE (some (valE v 2 c)) ((valE v 2 c).ren (sig [])):=by
 rw[r9];exact rfl
variable {caps:Nat->Nat}
theorem ygw{C:Ctx}{ρ:Rho}{F:Fz}{v:Val}{c:Nat}{w:World}(S:Sat C ρ [(0,.frz F)::valM v c caps] 4 w):Sat C ρ [(0,.frz F)::valN v c caps] 4 w:=by
 obtain⟨a,L,d,h,bits⟩:=v;cases L with
 |cons x r=>exact S
 |nil=>exact qV (s:=[]) S (N0:=4) (N:=4) rfl S.n0 (qj _) ⟨tv,sO _ _ _⟩ ⟨Fz.r F,wz _ _,rfl,tv,tv⟩ (fun i b=>match i,b with | 0,_=>rfl | 1,_=>rfl | 2,_=>rfl | 3,_=>rfl)
theorem ygx{C:Ctx}{ρ:Rho}{F:Fz}{v:Val}{c:Nat}{w:World}(S:Sat C ρ [(0,.frz F)::valN v c caps] 4 w):Sat C ρ [(0,.frz F)::valM v c caps] 4 w:=by
 obtain⟨a,L,d,h,bits⟩:=v;cases L with
 |cons x r=>exact S
 |nil=>exact qV (s:=[]) S (N0:=4) (N:=4) rfl S.n0 (qj _) ⟨tv,iY _ _ _⟩ ⟨Fz.r F,wz _ _,tv⟩ (fun i b=>match i,b with | 0,_=>rfl | 1,_=>rfl | 2,_=>rfl | 3,_=>rfl)
def stepN(F:Fz)(v:Val):Out->Fz->List (Nat×Ent)->Nat->Prop:=fun o a b n0=>a=F/\n0=4/\o=.ret (.tup [])/\∃c caps,b=valN v c caps
theorem ycz{f:FuncId}{args:List SV}{F:Fz}{v l:Val}{c:Nat}(h:Ct prog f args F (valM v c caps) 4 (stepV F l)):Ct prog f args F (valN v c caps) 4 (stepN F l):=by
 unfold Ct za7 at*;intro C ρ w vs S y hb;obtain⟨s,q⟩:=h C ρ w vs (ygx S) y hb;refine⟨s,q.mono ?_⟩;rintro e O ⟨out,p,i,J,u,b⟩;refine⟨out,p,i,J,?_,b⟩;unfold Cln at*;intro m k j e' x o g d;obtain⟨a,n,L,n0,K,⟨A,B,rfl,D,c',caps',rfl⟩,E,G,I,M⟩:=u m k j e' x o g d;exact⟨a,n,_,4,K,⟨A,B,rfl,D,c',caps',rfl⟩,E,G,ygw I,rfl⟩
end Go.Proofs.YtfnkamphhpldcaaGreatDoor
namespace Go.Proofs.YtfnkamphhpldcaaGreatDoor
open Go Sx Tryz
set_option maxRecDepth 100000
theorem rx{α:Type}{τ μ:Mu}{i j m:Nat}(h1:τ i 0=(m,0))(a:μ j 0=(m,0))(sz c:Nat)(l:List α):(gA sz i c l).ren τ=(gA sz j c l).ren μ:=by
 cases l with
 |nil=>rfl
 |cons x r=>simp only[gA,SA.ren,h1,a]
theorem pU{τ μ:Mu}{i j m:Nat}(h1:τ i 0=(m,0))(a:μ j 0=(m,0))(v:Val)(c:Nat):subE (some ((valE v i c).ren τ)) ((valE v j c).ren μ):=by
 show SB.ren τ _=SB.ren μ _;simp only[SB.ren,q9,yu,rx h1 a];rfl
theorem wA{μ:Mu}{j m:Nat}(a:μ j 0=(m,0))(v:Val)(c:Nat):subE (some (valE v m c)) ((valE v j c).ren μ):=by
 have:=pU (τ:=sig []) (μ:=μ) (i:=m) (j:=j) (m:=m) rfl a v c;rw[r9]at this;exact this
theorem ybd{τ μ:Mu}{i j m:Nat}(h1:τ i 0=(m,0))(a:μ j 0=(m,0))(v:Val)(c:Nat):
  [SA.lit v.lost,gA 2 i c v.lines,.int .i64 v.w,.int .i64 v.h,.str v.bits].map (SA.ren τ)=[SA.lit v.lost,gA 2 j c v.lines,.int .i64 v.w,.int .i64 v.h,.str v.bits].map (SA.ren μ):=by
 simp only[q9,yu,rx h1 a];rfl
theorem C1(v:Val)(c:Nat)(p:Int):∀s∈[valV v 1 c,.va (.int .i64 p)],SV.below 3 s:=by
 intro s d;simp only[qi,qp,or_false]at d;rcases d with rfl | rfl
 ·intro a b;simp only[qi,qp,or_false]at b;rcases b with rfl | rfl | rfl | rfl | rfl
  ·trivial
  ·exact fE oo _ _ _
  ·trivial
  ·trivial
  ·trivial
 ·trivial
theorem AR{l:List Stp}{k:Nat}(v:Val)(a:k < l.length):runS (l.take (k+1)) v=if(runS (l.take k) v).lost=true then runS (l.take k) v else stepS l[k] (runS (l.take k) v):=by
 rw[qe a];unfold runS;rw[qas];rfl
theorem DL{p:Int}{s:List UInt8}{o:Out}{a:List (Nat×Ent)}{n0:Nat}(h:readS p s=none)(b:match readS p s with
 |some v=>∃c caps,n0=3/\o=.ret (valV v 1 c)/\a=[(1,bF 2 caps c v.lines),(2,famE caps v.lines)]
 |none=>n0=1/\o=.panic perr/\a=[]):n0=1/\o=.panic perr/\a=[]:=by rw[h]at b;exact b
theorem DM{p:Int}{s:List UInt8}{o:Out}{a:List (Nat×Ent)}{n0:Nat}{v:Val}(h:readS p s=some v)(b:match readS p s with
 |some v=>∃c caps,n0=3/\o=.ret (valV v 1 c)/\a=[(1,bF 2 caps c v.lines),(2,famE caps v.lines)]
 |none=>n0=1/\o=.panic perr/\a=[]):∃c caps,n0=3/\o=.ret (valV v 1 c)/\a=[(1,bF 2 caps c v.lines),(2,famE caps v.lines)]:=by rw[h]at b;exact b
theorem tH{p:Int}{l:List Stp}(h:aM p l=true):(1<=p/\p<=8)/\l.length<=64/\∀s∈l,aS p s=true:=by
 unfold aM at h;simp only[qd,decide_eq_true_eq,qo]at h;exact⟨h.1,h.2.1,h.2.2⟩
theorem wN(F:Fz)(hM:MLF F)(sa:SA)(l:List Stp)(p:Int)(s:List UInt8)(ha:bD F sa l)(hl:l.length < 1000000)(R:s.length<=1000000000000000000):
  Fo prog F 59 [.va (.int .i64 p),.va sa,.va (.str s)] (fun o _=>o=.ret (.tup [.va (.str (cQ p l s).1),.va (.int .i64 (cQ p l s).2)])):=by
 have A:=mA F sa l p ha hl;have ai:=ha
 have fin:∀(x:List UInt8) (e:Int) (F1:Fz) (h:Hp) (nx:Nat),cQ p l s=(x,e)->lget h 0=some (.frz F1)->Fz.le F F1->
   Cln 1 (FoK F fun o F'=>o=.ret (.tup [.va (.str (cQ p l s).1),.va (.int .i64 (cQ p l s).2)])) (.ret (.tup [.va (.str x),.va (.int .i64 e)])) h nx:=by
  intro x e F1 h nx hx I n;exact endFo (.ret (.tup [.va (.str x),.va (.int .i64 e)])) F1 I n (Fz.r F1) (by rw[hx]) (aO _) rfl
 have Q:readS p s=none\/∃v,readS p s=some v:=by
  cases readS p s with
  |none=>exact .inl rfl
  |some v=>exact .inr ⟨v,rfl⟩
 obtain⟨am,ak,ad,al,ac,an,rfl,q,M,aj,ab⟩:=ha;unfold Fo;refine Bt hΘ func59 rfl dd 41 _ rfl rfl rfl (ef hΘ _ _ _ ?_);refine Bf rfl rfl rfl rfl ?_;refine usePs (A) ?_;refine useFt (dC F (aM p l)) ?_;rintro _ _ l1 ⟨rfl,⟨S,rfl⟩ | ⟨S,rfl⟩⟩
 ·have b:=tH S;refine useS (yeh cfun tfun F s p R) [] trivial trivial ?_;rintro D Z I n0 n ⟨rfl,a⟩;rcases Q with f | ⟨v,f⟩
  ·replace a:=DL f a;obtain⟨rfl,rfl,rfl⟩:=a;refine⟨rfl,tB 1 2 [] 0 rfl rfl dd ?_⟩;exact fin [] 70 F _ _ (by rw[cQ,if_pos S,f]) rfl (Fz.r F)
  ·replace a:=DM f a;obtain⟨c,caps,rfl,rfl,rfl⟩:=a;refine useFs (wS F) ?_;rintro _ F1 Y ⟨bk,rfl,hK⟩;conv=>whnf
   refine aI hΘ (X:={ x:Nat×Val×Nat×(Nat->Nat) // x.1<=l.length/\x.2.1=runS (l.take x.1) v }) (fun x=>[(22,.va (.int .i64 x.1.1))]) (11::jr 23 15 [])
    (fun x=>[(0,.frz F1),(3,bF 4 x.1.2.2.2 x.1.2.2.1 x.1.2.1.lines),(4,famE x.1.2.2.2 x.1.2.1.lines),(5,valE x.1.2.1 3 x.1.2.2.1)]) 7 (fun x=>l.length - x.1.1) ⟨(0,v,c,caps),by simp,rfl⟩
    (fun V W=>leId [] V W rfl ⟨tv,cV oo _ _ _,cW _ _ _,gK oo _,tv⟩ ⟨rfl,tv⟩ ⟨Fz.r F1,oz (fun k=>rfl) (fun k=>rfl) rfl,o6 rfl,pU (τ:=tau [] 1 3) (μ:=sig []) (i:=1) (j:=3) (m:=3) rfl rfl v c,tv⟩) ?_
   rintro⟨⟨k,u,U,E⟩,hk,J⟩ V W;replace hk:k<=l.length:=hk;replace J:u=runS (l.take k) v:=J;refine br (fun K=>?_) (fun K=>?_)
   ·have g:k < l.length:=by
     have I:(k:Int) < (l.length:Int):=od K;omega
    clear K;have d:=AR v g;rw[<-J]at d;have ag:∃κ ν,l[k]=(κ,ν):=⟨_,_,rfl⟩
    obtain⟨κ,ν,y⟩:=ag;have O:ac[ad+(k:Int).toNat]? =some (enc (κ,ν)):=by rw[<-y];exact Sl.at ab g
    have G:aS p (κ,ν)=true:=by rw[<-y];exact b.2.2 _ (qt g)
    have B:VOK p u:=by
     rw[J];exact kE b.1 _ _ (fun s R=>b.2.2 s (yf R)) (mq f).2
    rw[y]at d;obtain⟨T,L,w,h,bits⟩:=u;rcases T with _ | _
    ·replace d:runS (l.take (k+1)) v=stepS (κ,ν) ⟨false,L,w,h,bits⟩:=d;have af:=fun c caps=>ycz (do_fn F1 bk hK (hM.mono Y) p κ ν ⟨false,L,w,h,bits⟩ b.1 G B rfl c caps)
     have hκ:κ=1\/κ=2\/κ=3\/κ=4\/κ=5\/κ=6:=by
      have:=dE b.1 G;omega
     clear G y B;rcases hκ with rfl | rfl | rfl | rfl | rfl | rfl
     all_goals
      refine⟨Sl.lt q g,⟨by simp,by simpa using g⟩,_,Y _ _ (M (Sl.lt q g)),_,O,?_⟩;refine dwS (lk [0,1,2,3,4,5,6] (.alt 7 .done .nil)) [6,7] ?_;conv=>whnf
      repeat' ((conv=>whnf);first
       |refine⟨rfl,?_⟩
       |refine⟨Fz.r _,rfl,?_⟩
       |refine⟨Fz.r _,rfl,rfl,?_⟩
       |refine⟨⟨by simp,by simp⟩,?_⟩
       |fail)
      refine use (af U E) [(1,5),(2,3),(3,4)] rfl (by first | exact⟨rfl,rfl,rfl,tv⟩ | exact⟨rfl,rfl,tv⟩) rfl (sO _ _ _) (by simp[SV.below,SA.below,fp,doC]) ⟨wA (μ:=sig [(1,5),(2,3),(3,4)]) (j:=2) (m:=3) rfl _ _,er (fun k=>rfl),dX,tv⟩ ?_;rintro D Z I n1 n ⟨rfl,rfl,rfl,c2,aa,rfl⟩;refine⟨Fz.r _,rfl,rfl,?_⟩
      exact⟨⟨(k+1,stepS (_,ν) ⟨false,L,w,h,bits⟩,c2,aa),by show k+1<=l.length;omega,d.symm⟩,by show l.length - (k+1) < l.length - k;omega,
       leRd [] V W rfl ⟨tv,cV oo _ _ _,cW _ _ _,gK oo _,tv⟩ ⟨cnt oo,tv⟩
       ⟨Fz.r _,oz (fun k=>rfl) (fun k=>rfl) rfl,(by first | exact o6 rfl | exact trivial),pU (τ:=tau [(1,5),(2,3),(3,4)] 4 8) (μ:=sig []) (i:=2) (j:=3) (m:=3) rfl rfl _ _,tv⟩⟩
    ·replace d:runS (l.take (k+1)) v=⟨true,L,w,h,bits⟩:=d;refine⟨Sl.lt q g,⟨by simp,by simpa using g⟩,_,Y _ _ (M (Sl.lt q g)),_,O,?_⟩
     exact⟨⟨(k+1,⟨true,L,w,h,bits⟩,U,E),by show k+1<=l.length;omega,d.symm⟩,by show l.length - (k+1) < l.length - k;omega,
      leRd [] V W rfl ⟨tv,cV oo _ _ _,cW _ _ _,gK oo _,tv⟩ ⟨cnt oo,tv⟩
      ⟨Fz.r _,er (fun k=>rfl),dX,wA (μ:=sig []) (j:=3) (m:=3) rfl _ _,tv⟩⟩
   ·have g:k=l.length:=by
     have I:¬(k:Int) < (l.length:Int):=oe K;omega
    clear K
    have B:VOK p u:=by
     rw[J];exact kE b.1 _ _ (fun s R=>b.2.2 s (yf R)) (mq f).2
    have ae:cQ p l s=(bE p u,0):=by
     rw[cQ,if_pos S,f,J,g,yv]
    have ah:=ybi pfun F1 u U E p (rr b.1 B) b.1.2;refine use ah [(1,3),(2,4)] rfl ⟨congrArg SV.agg (ybd (i:=1) (j:=3) (m:=3) ?_ ?_ u U),rfl,tv⟩ rfl (sN _ _ _) (C1 _ _ _) ⟨er (fun k=>rfl),dX,tv⟩ ?_
    ·rfl
    ·rfl
    rintro D Z I n1 n ⟨rfl,rfl,rfl⟩;refine⟨rfl,Dv 1 2 ?_⟩;exact fin _ 0 Z _ _ ae rfl (Fz.t Y n)
 ·refine⟨rfl,tB 1 2 [] 0 rfl rfl dd ?_⟩;exact fin [] 70 F _ _ (by rw[cQ,if_neg (by rw[S];simp)]) rfl (Fz.r F)
end Go.Proofs.YtfnkamphhpldcaaGreatDoor
namespace Sx
open Go Go.RowKit
section
variable {P:Program} {Θ:Tys} {st:St} {Q:SE->St->Prop} {body:Code}
@[irreducible] def SR (P:Program) (body:Code) (Q:SE->St->Prop) (n:Nat) (st:St):Prop:=
 ∀(C:Ctx) (ρ:Rho) (a:Act) (w:World),Den C ρ st a w->Code.rounds P body (Up C Q) n a w
theorem sr_go(hΘ:Θ.Ok P){n:Nat}(h:sx P Θ body st fun e b=>(match e with
  |.normal=>SR P body Q n b
  |.ret=>Q .ret b
  |.exit id=>Q (.exit id) b
  |.panic v=>Q (.panic v) b)):SR P body Q (n+1) st:=by
 unfold SR;intro C ρ a w D;have h1:=ef hΘ body st _ h;unfold WP at h1;refine wp_mono (h1 C ρ a w D) ?_;rintro e g j ⟨i,b,f,c,rfl,d⟩;cases i with
 |normal=>
  dsimp only at c;unfold SR at c;exact c C f g j d
 |ret=>exact⟨.ret,b,f,c,rfl,d⟩
 |exit id=>exact⟨.exit id,b,f,c,rfl,d⟩
 |panic v=>exact⟨.panic v,b,f,c,rfl,d⟩
theorem cR(hΘ:Θ.Ok P)(n:Nat)(h:sx P Θ body st fun e b=>(match e with
  |.normal=>SR P body Q n b
  |.ret=>Q .ret b
  |.exit id=>Q (.exit id) b
  |.panic v=>Q (.panic v) b)):WP P (.loop body) st Q:=by
 have c:=sr_go hΘ h;unfold SR at c;unfold WP;intro C ρ a w D;exact wp_loop_rounds (n+1) (c C ρ a w D)
end
end Sx
namespace Sx
open Go
theorem Sat.reshape{C:Ctx}{ρ:Rho}{h:Hp}{nx:Nat}{w:World}(s:Sat C ρ h nx w){i:Nat}{b a:SB}(d:lget h i=some (.one b))(f:∀ρ o,b.ok ρ o->a.ok ρ o)(c:b.below nx->a.below nx):Sat C ρ (lput h i (.one a)) nx w:=by
 obtain⟨o,j,g⟩:=s.blk i _ d 0 rfl;exact s.upd 0 d rfl rfl rfl (fun k=>Iff.rfl) o (fun k e h=>absurd h e) (f _ _ g) (c (s.wf i _ d 0 rfl)) rfl rfl rfl rfl j (fun _ _=>rfl)
section
variable {P:Program} {h:Hp} {nx:Nat}
theorem nZ{c:Code}{d:St}{Q:SE->St->Prop}(i:Nat)(e:SB){b:SB}(j:lget d.h i=some (.one b))(g:∀ρ o,b.ok ρ o->e.ok ρ o)(f:∀n,b.below n->e.below n)
  (k:WP P c { d with h:=lput d.h i (.one e) } Q):WP P c d Q:=by
 unfold WP at*;intro C ρ a w D;exact k C ρ a w { sat:=D.sat.reshape j g (f d.nx),nt:=D.nt,tm:=D.tm,tw:=D.tw,n0:=D.n0,df:=D.df,dw:=D.dw }
end
abbrev sing(l:List SA):List (List SA):=l.map fun a=>[a]
theorem A1(l:List SA):(sing l).flatten=l:=by
 induction l with
 |nil=>rfl
 |cons a r ih=>simpa[sing]using ih
theorem pT{t:TypeId}{l:List SA}{L:List (List SA)}{n:Nat}(b:L=sing l)(c:n=l.length):∀ρ o,(SB.cells t l).ok ρ o->(SB.arr t 1 L n).ok ρ o:=by
 subst b c;intro ρ o h;refine⟨fun x d=>?_,by simp,[],by simp,?_⟩
 ·obtain⟨a,_,rfl⟩:=jk.1 d;rfl
 ·rw[A1,qx];exact h
theorem oF{t:TypeId}{l:List SA}{L:List (List SA)}{m:Nat}(b:L=sing l):∀n,(SB.cells t l).below n->(SB.arr t 1 L m).below n:=by
 subst b;intro n h x d a c;obtain⟨y,e,rfl⟩:=jk.1 d;rcases qs.1 c with rfl;exact h _ e
end Sx
namespace Go.Proofs.YtfnkamphhpldcaaGreatDoor
open Go Sx Tryz
set_option maxRecDepth 100000
def rot(x n:Nat):Nat:=x*2^(32 - n) % 4294967296|||x / 2^n
def mix(x:Nat):List Nat->Nat->Nat
 |[],o=>o
 |n::r,o=>mix x r (o^^^rot x n)
def konst:List Nat:=[
 0x428a2f98,0x71374491,0xb5c0fbcf,0xe9b5dba5,0x3956c25b,0x59f111f1,0x923f82a4,0xab1c5ed5,
 0xd807aa98,0x12835b01,0x243185be,0x550c7dc3,0x72be5d74,0x80deb1fe,0x9bdc06a7,0xc19bf174,
 0xe49b69c1,0xefbe4786,0x0fc19dc6,0x240ca1cc,0x2de92c6f,0x4a7484aa,0x5cb0a9dc,0x76f988da,
 0x983e5152,0xa831c66d,0xb00327c8,0xbf597fc7,0xc6e00bf3,0xd5a79147,0x06ca6351,0x14292967,
 0x27b70a85,0x2e1b2138,0x4d2c6dfc,0x53380d13,0x650a7354,0x766a0abb,0x81c2c92e,0x92722c85,
 0xa2bfe8a1,0xa81a664b,0xc24b8b70,0xc76c51a3,0xd192e819,0xd6990624,0xf40e3585,0x106aa070,
 0x19a4c116,0x1e376c08,0x2748774c,0x34b0bcb5,0x391c0cb3,0x4ed8aa4a,0x5b9cca4f,0x682e6ff3,
 0x748f82ee,0x78a5636f,0x84c87814,0x8cc70208,0x90befffa,0xa4506ceb,0xbef9a3f7,0xc67178f2]
def at0(w:List Nat)(i:Nat):Nat:=w[i]?.getD 0
def nxt(w:List Nat):Nat:=
 (at0 w (w.length - 16)+(mix (at0 w (w.length - 15)) [7,18] 0^^^at0 w (w.length - 15) / 8)+at0 w (w.length - 7)+(mix (at0 w (w.length - 2)) [17,19] 0^^^at0 w (w.length - 2) / 1024)) % 4294967296
def grow:Nat->List Nat->List Nat
 |0,w=>w
 |n+1,w=>grow n (w++[nxt w])
def word(b:List UInt8)(i:Nat):Nat:=(b[4*i]?.getD 0).toNat*16777216+(b[4*i+1]?.getD 0).toNat*65536+(b[4*i+2]?.getD 0).toNat*256+(b[4*i+3]?.getD 0).toNat
def sched(b:List UInt8):List Nat:=grow 48 ((List.range 16).map (word b))
structure W8 where
 a:Nat
 b:Nat
 c:Nat
 d:Nat
 e:Nat
 f:Nat
 g:Nat
 h:Nat
def step8(k w:Nat)(v:W8):W8:=
 let t:=(v.h+mix v.e [6,11,25] 0+((v.e&&&v.f)^^^((4294967295 - v.e)&&&v.g))+k+w) % 4294967296
 let u:=(mix v.a [2,13,22] 0+((v.a&&&v.b)^^^(v.a&&&v.c)^^^(v.b&&&v.c))) % 4294967296
 ⟨(t+u) % 4294967296,v.a,v.b,v.c,(v.d+t) % 4294967296,v.e,v.f,v.g⟩
def fg(l:List (Nat×Nat))(v:W8):W8:=l.foldl (fun v x=>step8 x.1 x.2 v) v
def add8(v u:W8):W8:=⟨(v.a+u.a) % 4294967296,(v.b+u.b) % 4294967296,(v.c+u.c) % 4294967296,(v.d+u.d) % 4294967296,(v.e+u.e) % 4294967296,(v.f+u.f) % 4294967296,(v.g+u.g) % 4294967296,(v.h+u.h) % 4294967296⟩
def fQ(b:List UInt8)(v:W8):W8:=add8 v (fg (konst.zip (sched b)) v)
def init8:W8:=⟨0x6a09e667,0xbb67ae85,0x3c6ef372,0xa54ff53a,0x510e527f,0x9b05688c,0x1f83d9ab,0x5be0cd19⟩
def be4(n:Nat):List UInt8:=[UInt8.ofNat (n / 16777216),UInt8.ofNat (n / 65536),UInt8.ofNat (n / 256),UInt8.ofNat n]
def fd(v:W8):List UInt8:=be4 v.a++be4 v.b++be4 v.c++be4 v.d++be4 v.e++be4 v.f++be4 v.g++be4 v.h
def padZ(n:Nat):Nat:=(119 - n % 64) % 64
def len8(n:Nat):List UInt8:=[UInt8.ofNat (8*n / 72057594037927936),UInt8.ofNat (8*n / 281474976710656),UInt8.ofNat (8*n / 1099511627776),UInt8.ofNat (8*n / 4294967296),UInt8.ofNat (8*n / 16777216),UInt8.ofNat (8*n / 65536),UInt8.ofNat (8*n / 256),UInt8.ofNat (8*n)]
def padded(s:List UInt8):List UInt8:=s++[128]++List.replicate (padZ s.length) 0++len8 s.length
def bY(n:Nat)(b:List UInt8)(v:W8):W8:=(List.range n).foldl (fun v k=>fQ ((b.drop (64*k)).take 64) v) v
def sumS(s:List UInt8):List UInt8:=fd (bY ((padded s).length / 64) (padded s) init8)
def leafS(s:List UInt8):List UInt8:=sumS (0::s)
def nodeS(a b:List UInt8):List UInt8:=sumS (1::(a++b))
theorem Ea(v:W8):(fd v).length=32:=rfl
def root8(l:List (List UInt8)):List UInt8:=
 let x (i:Nat):=leafS (l[i]?.getD [])
 nodeS (nodeS (nodeS (x 0) (x 1)) (nodeS (x 2) (x 3))) (nodeS (nodeS (x 4) (x 5)) (nodeS (x 6) (x 7)))
theorem iF(l:List (List UInt8)):(root8 l).length=32:=rfl
theorem w32(n:Int):IntKind.u32.wrap n=n % 4294967296:=by simp[IntKind.wrap,IntKind.bits,IntKind.signed]
theorem w32n(n:Nat):IntKind.u32.wrap (n:Int)=((n % 4294967296:Nat):Int):=by rw[w32];omega
variable {a:Nat}
theorem ofI32(h:a < 4294967296):(BitVec.ofInt 32 (a:Int)).toNat=a:=by
 rw[BitVec.ofInt_natCast,BitVec.toNat_ofNat];omega
theorem xor32{b:Nat}(c:a < 4294967296)(hb:b < 4294967296):bXor .u32 (a:Int) (b:Int)=((a^^^b:Nat):Int):=by
 have h:a^^^b < 2^32:=qc4 c hb;show IntKind.u32.wrap (((BitVec.ofInt 32 (a:Int)^^^BitVec.ofInt 32 (b:Int)).toNat:Nat):Int)=_;rw[BitVec.toNat_xor,ofI32 c,ofI32 hb,w32n,ju h]
theorem and32{b:Nat}(c:a < 4294967296)(hb:b < 4294967296):bAnd .u32 (a:Int) (b:Int)=((a&&&b:Nat):Int):=by
 have h:a&&&b < 2^32:=Nat.and_lt_two_pow _ hb;show IntKind.u32.wrap (((BitVec.ofInt 32 (a:Int)&&&BitVec.ofInt 32 (b:Int)).toNat:Nat):Int)=_;rw[BitVec.toNat_and,ofI32 c,ofI32 hb,w32n,ju h]
theorem or32{b:Nat}(c:a < 4294967296)(hb:b < 4294967296):bOr .u32 (a:Int) (b:Int)=((a|||b:Nat):Int):=by
 have h:a|||b < 2^32:=Nat.or_lt_two_pow c hb
 show IntKind.u32.wrap (((BitVec.ofInt 32 (a:Int)|||BitVec.ofInt 32 (b:Int)).toNat:Nat):Int)=_;rw[BitVec.toNat_or,ofI32 c,ofI32 hb,w32n,ju h]
theorem not32(b:a < 4294967296):bXor .u32 4294967295 (a:Int)=((4294967295 - a:Nat):Int):=by
 rw[show(4294967295:Int)=((4294967295:Nat):Int)from rfl,xor32 oo b]
 congr 1
 have h:=BitVec.toNat_not (x:=BitVec.ofNat 32 a);rw[BitVec.not_def,BitVec.toNat_xor,BitVec.toNat_allOnes,BitVec.toNat_ofNat,ju b]at h;exact h
theorem shl32(a n:Nat)(h:n<=32):shlI .u32 (a:Int) (n:Int)=((a*2^n % 4294967296:Nat):Int):=by
 unfold shlI;rw[qg,show IntKind.u32.bits=32 from rfl,qao h,<-w32n]
 congr 1
theorem shr32(a n:Nat)(h:n<=32):shrI .u32 (a:Int) (n:Int)=((a / 2^n:Nat):Int):=by
 unfold shrI;rw[qg,show IntKind.u32.bits=32 from rfl,qao h,qba _ (by have:=qd9 (n:=2) (m:=n) oo;omega)]
 push_cast;rfl
theorem yb3(x n:Nat)(h:x < 4294967296):rot x n < 4294967296:=Nat.or_lt_two_pow (n:=32) (qa1 _ oo) (yq (qcb _ _) h)
theorem ny(x:Nat)(h:x < 4294967296):∀(l:List Nat) (o:Nat),o < 4294967296->mix x l o < 4294967296
 |[],_,ho=>ho
 |n::r,_,ho=>ny x h r _ (qc4 (n:=32) ho (yb3 x n h))
theorem sAmt:∀n:Fin 32,n.val=0\/(bAnd .u64 (IntKind.u64.wrap (IntKind.i64.wrap (0 - (n.val:Int)))) 31=((32 - n.val:Nat):Int)/\IntKind.u64.wrap (32 - ((32 - n.val:Nat):Int))=(n.val:Int)):=by decide+kernel
theorem rotI{x n:Nat}(c:x < 4294967296)(d:1<=n)(h1:n < 32):bOr .u32 (shlI .u32 (x:Int) (bAnd .u64 (IntKind.u64.wrap (IntKind.i64.wrap (0 - (n:Int)))) 31)) (shrI .u32 (x:Int) (IntKind.u64.wrap (32 - bAnd .u64 (IntKind.u64.wrap (IntKind.i64.wrap (0 - (n:Int)))) 31)))=((rot x n:Nat):Int):=by
 obtain⟨a,b⟩:=(sAmt ⟨n,h1⟩).resolve_left (by simp;omega);simp only at a b;rw[a,b,shl32 x _ oo,shr32 x n oo,or32 (qa1 _ oo) (yq (qcb _ _) c)];rfl
def mixH(l:List Nat):List (Nat×Ent):=[(1,.one (.arr 3 1 ((l.map fun n:Nat=>(n:Int)).map encI) l.length))]
abbrev wd(n:Nat):SA:=.int .u32 (n:Int)
theorem wX(x:Nat):∀(l:List Nat) (n o:Nat),mix x (l++[n]) o=mix x l o^^^rot x n
 |[],_,_=>rfl
 |_::r,n,_=>wX x r n _
theorem rotS{n:Nat}(c:1<=n)(h1:n < 32):0<=bAnd .u64 (IntKind.u64.wrap (IntKind.i64.wrap (0 - (n:Int)))) 31/\0<=IntKind.u64.wrap (32 - bAnd .u64 (IntKind.u64.wrap (IntKind.i64.wrap (0 - (n:Int)))) 31):=by
 obtain⟨a,b⟩:=(sAmt ⟨n,h1⟩).resolve_left (by simp;omega);simp only at a b;rw[a,b];omega
theorem eu{k:IntKind}{a b:Int}(h:a=b):SA.int k a=SA.int k b:=by rw[h]
theorem yel(F:Fz)(x n:Nat)(c:x < 4294967296)(a:1<=n)(h1:n < 32):Fo prog F 258 [.va (wd x),.va (.int .i64 (IntKind.i64.wrap (0 - (n:Int))))] (fun o b=>o=.ret (.va (wd (rot x n)))/\b=F):=by
 have e:=rotI c a h1;have s:=rotS a h1;refine foS func258 ?_;refine⟨s.1,s.2,?_⟩;exact endPu rfl (Fz.r F) (eu e.symm) rfl
theorem CA(F:Fz)(x:Nat)(l:List Nat)(e:x < 4294967296)(m:∀n∈l,1<=n/\n < 32)(q:l.length < 1000):
  Ct prog 231 [.va (wd x),.va (.slice false 1 0 0 1 l.length l.length)] F (mixH l) 2 (fun o i h n=>o=.ret (.va (wd (mix x l 0)))/\i=F/\h=[(1,.gone)]/\n=2):=by
 refine ctS func231 ?_;conv=>whnf
 refine aI hΘ (X:={ k:Nat // k<=l.length }) (fun k=>[(5,.va (wd (mix x (l.take k.1) 0))),(10,.va (.int .i64 k.1))]) (7::jr 11 10 []) (fun _=>[(0,.frz F),(1,.one (.arr 3 1 ((l.map fun n:Nat=>(n:Int)).map encI) l.length))]) 2 (fun k=>l.length - k.1) ⟨0,by simp⟩
  (fun c d=>leI [] c d rfl ⟨tv,eq 2 (l.map fun n:Nat=>(n:Int)) l.length,tv⟩ ⟨rfl,rfl,tv⟩ ⟨Fz.r F,(es _ _ _).symm,tv⟩) ?_
 rintro⟨k,p⟩ c d;by_cases g:k < l.length
 ·have a:=m l[k] (qt g);have f:=ny x e (l.take k) 0 dd
  have b:bXor .u32 (mix x (l.take k) 0:Nat) (rot x l[k]:Nat)=((mix x (l.take (k+1)) 0:Nat):Int):=by
   rw[xor32 f (yb3 x _ e),qe g,wX]
  refine br (fun _=>?_) (fun h=>absurd h (by simp;omega));refine⟨rfl,⟨by simp,by simpa using g⟩,[.int .i64 ((l[k]:Nat):Int)],by simp[encI,qc g],?_⟩;refine usePs (yel F x l[k] e a.1 a.2) ?_;conv=>whnf
  exact⟨⟨k+1,by omega⟩,by show l.length - (k+1) < l.length - k;omega,leR [] c d rfl ⟨tv,eq 2 (l.map fun n:Nat=>(n:Int)) l.length,tv⟩ ⟨eu b.symm,cnt oo,tv⟩ ⟨Fz.r F,(es _ _ _).symm,tv⟩⟩
 ·have j:mix x l 0=mix x (l.take k) 0:=by rw[qk oo]
  refine br (fun h=>absurd h (by simp;omega)) (fun _=>?_);refine clean [] (.ret (.va (wd (mix x l 0)))) F [(1,.gone)] 2 ⟨Fz.r F,rfl,rfl,rfl,rfl⟩ (eu (by rw[j])) rfl rfl trivial ⟨tv,tv⟩ ⟨Fz.r F,tv⟩
theorem mixU{F:Fz}{x:Nat}(l:List Nat)(h:x < 4294967296)(f:∀n∈l,1<=n/\n < 32)(g:l.length < 1000){H:Hp}{b:Nat}{K:Out->Hp->Nat->Prop}(i:Nat)(d:lget H 0=some (.frz F))
  (c:lget H i=some (.one (.arr 3 1 ((l.map fun n:Nat=>(n:Int)).map encI) l.length)))(a:chkU [(1,.to i)] (mixH l) 2 b=true)
  (e:K (.ret (.va (wd (mix x l 0)))) (lput (lput H i .gone) 0 (.frz F)) b):za7 prog 231 [.va (wd x),.va (.slice false i 0 0 1 l.length l.length)] H b K:=by
 refine use (CA F x l h f g) [(1,.to i)] d ⟨rfl,⟨rfl,rfl,rfl,.inr ⟨?_,?_,rfl,rfl⟩⟩,tv⟩ a ⟨eq 2 (l.map fun n:Nat=>(n:Int)) l.length,tv⟩ (by simp[SV.below,SA.below]) ⟨?_,tv⟩ ?_
 ·show i=(resP H i 0).1;simp[resP,c]
 ·show 0=(resP H i 0).2;simp[resP,c]
 ·show subE (lget H i) (.one ((SB.arr 3 1 ((l.map fun n:Nat=>(n:Int)).map encI) l.length).ren _));rw[c];exact(es _ _ _).symm
 ·rintro _ _ _ _ _ ⟨rfl,rfl,rfl,rfl⟩;exact e
