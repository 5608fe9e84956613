import Derived.Test.YtfnkamphhpldcaaGreatDoorK33
import Derived.Test.YtfnkamphhpldcaaGreatDoorK26
import Derived.Test.YtfnkamphhpldcaaGreatDoorK23
set_option maxHeartbeats 64000000
namespace Go.Proofs.YtfnkamphhpldcaaGreatDoor
open Go Sx
set_option maxRecDepth 100000
def exCl:List Kp:=[(1,[(1,0),(2,0)]),(2,[(6,0)]),(3,[]),(4,[]),(5,[]),(6,[]),(7,[]),(8,[])]
theorem D7:∀x∈exCl,x.2.length<=2:=by decide
theorem wH{c:Crt}(b:crtOk c=true):(encC c).length<=200000:=by
 have a:=jO b;simp only[crtOk,qd,decide_eq_true_eq]at b;have k:=b.2.2.2.2.1
 have d:∀l:List Kp,(∀x∈l,x.2.length<=64)->((l.map dq).flatten).length<=1161*l.length:=by
  intro l
  induction l with
  |nil=>intro _;simp
  |cons y r ih=>
   intro h;have g:=oq y (h y ss);have i:=ih fun x e=>h x (by simp[e])
   rw[qw,jm,qb,qe];omega
 have j:=d c.cl a;have m:=ek c.src;have n:=ek c.dst;have f:=du [c.len];simp only[qe,qu]at f;rw[encC];simp only[qb];omega
def crt0:Crt:=⟨[],[],0,[]⟩
def dSt(s:List UInt8)(K:List Stp->Int->Crt×Int):Nat->List Stp->Int->Crt×Int
 |0,acc,p=>K acc p
 |n+1,acc,p=>
  if(getI s p).2.2=0 then
   if(getI s (getI s p).2.1).2.2=0 then dSt s K n (acc++[((getI s p).1,(getI s (getI s p).2.1).1)]) (getI s (getI s p).2.1).2.1
   else(crt0,10)
  else(crt0,10)
def dCl(s:List UInt8)(K:List Kp->Int->Crt×Int):Nat->List Kp->Int->Crt×Int
 |0,acc,p=>K acc p
 |n+1,acc,p=>
  if(getI s p).2.2=0 then
   if 0<=(getI s p).1/\(getI s p).1<=64 then
    dSt s (fun a q=>dCl s K n (acc++[((acc.length:Int)+1,a)]) q) (getI s p).1.toNat [] (getI s p).2.1
   else(crt0,100)
  else(crt0,10)
def dEnd(s src a:List UInt8)(len:Int)(l:List Kp)(p:Int):Crt×Int:=
 if p=s.length then if crtOk ⟨src,a,len,l⟩=true then(⟨src,a,len,l⟩,0)else(crt0,100)else(crt0,10)
def decC(s:List UInt8):Crt×Int:=
 if(getS s 0).2.2=0 then
  if(getS s (getS s 0).2.1).2.2=0 then
   if(getI s (getS s (getS s 0).2.1).2.1).2.2=0 then
    dCl s (dEnd s (getS s 0).1 (getS s (getS s 0).2.1).1 (getI s (getS s (getS s 0).2.1).2.1).1) 8 [] (getI s (getS s (getS s 0).2.1).2.1).2.1
   else(crt0,10)
  else(crt0,10)
 else(crt0,10)
def AtB(s:List UInt8)(p q:Int)(t:List UInt8):Prop:=0<=p/\p<=q/\q<=s.length/\s.drop p.toNat=t++s.drop q.toNat
variable {p:Int}{s:List UInt8}
theorem AtB.nil(h:0<=p/\p<=s.length):AtB s p p []:=⟨h.1,qd2 _,h.2,rfl⟩
variable {q:Int}{t:List UInt8}
theorem AtB.trans{u:List UInt8}{r:Int}(h1:AtB s p q t)(e:AtB s q r u):AtB s p r (t++u):=by
 obtain⟨a,f,g,b⟩:=h1;obtain⟨h,i,c,d⟩:=e;exact⟨a,by omega,c,by rw[b,d,qj]⟩
theorem AtB.len(h:AtB s p q t):q=p+t.length:=by
 obtain⟨b,c,d,a⟩:=h;have:=congrArg List.length a;rw[qb,yj,yj]at this;omega
theorem AtB.split{u:List UInt8}{r:Int}(h:AtB s p r (t++u)):∃q,AtB s p q t/\AtB s q r u:=by
 have e:=h.len;obtain⟨c,f,d,a⟩:=h;rw[qb]at e
 have b:s.drop (p+t.length).toNat=u++s.drop r.toNat:=by
  rw[show(p+t.length).toNat=p.toNat+t.length by omega,<-qbg,a,qj,qbs]
 exact⟨p+t.length,⟨c,by omega,by omega,by rw[a,b,qj]⟩,by omega,by omega,d,b⟩
theorem AtB.pre(h:AtB s p q t):s=s.take p.toNat++(t++s.drop q.toNat)/\p=((s.take p.toNat).length:Int)/\q=((s.take p.toNat++t).length:Int):=by
 have e:=h.len;obtain⟨b,c,d,a⟩:=h;have h1:(s.take p.toNat).length=p.toNat:=by rw[qk];omega
 refine⟨?_,by omega,by rw[qb];omega⟩;rw[<-a,yl]
theorem mF{n:Int}(h:AtB s p q (putI n))(c:okI n):getI s p=(n,q,0):=by
 obtain⟨h1,a,b⟩:=h.pre;have:=dJ (s.take p.toNat) (s.drop q.toNat) c
 rwa[<-h1,<-a,<-b]at this
theorem qW(h:AtB s p q (putSR t).1)(c:t.length<=65536):getS s p=(t,q,0):=by
 obtain⟨h1,a,b⟩:=h.pre;have:=kq (s.take p.toNat) (s.drop q.toNat) t c
 rwa[<-h1,<-a,<-b]at this
theorem uX:∀(l:List UInt8) (f i z:Nat) {c i':Nat} {b:UInt8},decZ l f i z=some (c,i',b)->
  ∃pre r,l=pre++b::r/\i'=i+pre.length/\(∀x∈pre,128<=x.toNat)/\b.toNat < 128/\c=z+vals (pre++[b])*128^i
 |_,0,_,_,_,_,_,h=>by simp[decZ]at h
 |[],_+1,_,_,_,_,_,h=>by simp[decZ]at h
 |x::r,f+1,i,z,c,i',b,h=>by
  rw[decZ]at h;split at h
  ·rename_i e;obtain⟨pre,k,rfl,d,a,g,j⟩:=uX r f (i+1) _ h;refine⟨x::pre,k,rfl,by simp only[qe];omega,?_,g,?_⟩
   ·intro y hy;rcases qh.1 hy with rfl | hy
    ·exact e
    ·exact a y hy
   ·rw[j,yd,vals,qbx,qbi,qar 128,qb5,qar 128,qbf]
  ·rename_i e;simp only[Option.some.injEq,Prod.mk.injEq]at h;obtain⟨h1,d,a⟩:=h;subst d a;refine⟨[],r,rfl,rfl,by simp,by omega,?_⟩;rw[<-h1,qv,vals,vals,ju oo];rfl
theorem ez{s:List UInt8}{p:Int}(h:(getI s p).2.2=0):AtB s p (getI s p).2.1 (putIR (getI s p).1).1:=by
 have a:=eL h;rw[getI]at h a ⊢;split at h
 ·cases h
 ·rename_i m;rw[if_neg m]at a ⊢;split at h
  ·cases h
  ·rename_i z i b d;rw[d]at a;dsimp only at a ⊢;split at h
   ·cases h
   ·rename_i g;simp only[if_neg g]at a ⊢;have w:=pS _ _ _ _ d ss;obtain⟨-,-,u,-⟩:=oM _ _ _ _ d;obtain⟨pre,r,h1,n,j,k,l⟩:=uX _ _ _ _ d;have o:(128:Nat)^(i+1)<=128^9:=qau oo oo;have q:(128:Nat)^9=9223372036854775808:=by decide
    obtain rfl:z=vals (pre++[b]):=by rw[l];simp
    have c:=(vM pre b j k).2 (fun f=>g (.inl ⟨f.1,by omega⟩));refine⟨a.1,by omega,a.2.2.1,?_⟩;rw[oI (fun f=>g (.inr f)) oo,h1];show _=putZ _++_;have e:(p+i+1).toNat=p.toNat+(pre++[b]).length:=by rw[qb,yi];omega
    rw[c,e,<-qbg,h1,show pre++b::r=(pre++[b])++r by simp,qbs]
theorem iT{s:List UInt8}{p:Int}(h:(getS s p).2.2=0):AtB s p (getS s p).2.1 (putSR (getS s p).1).1:=by
 have d:=@ez s p;have b:=@eL s p;rw[getS]at h ⊢;split at h
 ·rename_i c;exact absurd h c
 ·rename_i c;rw[if_neg c];split at h
  ·cases h
  ·rename_i g;rw[if_neg g];have f:(getI s p).2.2=0:=Decidable.byContradiction c;replace d:=d f;replace b:=b f;generalize(getI s p).1=n at*;generalize(getI s p).2.1=x at*;have a:((s.take (x+n).toNat).drop x.toNat).length=n.toNat:=by rw[yj,qk];omega
   have e:(putSR ((s.take (x+n).toNat).drop x.toNat)).1=(putIR n).1++(s.take (x+n).toNat).drop x.toNat:=by
    rw[putSR,if_neg oo,a,eb (by unfold okI;omega),show((n.toNat:Nat):Int)=n by omega]
   show AtB s p (x+n) (putSR ((s.take (x+n).toNat).drop x.toNat)).1;rw[e];refine d.trans ⟨by omega,by omega,by omega,?_⟩;rw[show(x+n).toNat=x.toNat+n.toNat by omega,qdt,qag,<-qbg,yl]
theorem rC(x:Stp):stpN x=(putIR x.1).1++(putIR x.2).1:=by simp[stpN,aA]
theorem uU(x:Kp):dq x=(putIR (x.2.length:Int)).1++(x.2.map stpN).flatten:=by simp[dq,aA]
theorem no0{x c:Crt}{e:Int}{P:Prop}(a:¬e=0)(h:(x,e)=(c,(0:Int))):P:=absurd (congrArg Prod.snd h) a
theorem yM{s:List UInt8}{K:List Stp->Int->Crt×Int}{c:Crt}:∀(n:Nat) (acc:List Stp) (p:Int),0<=p/\p<=s.length->dSt s K n acc p=(c,0)->∃a q,K (acc++a) q=(c,0)/\a.length=n/\AtB s p q (a.map stpN).flatten
 |0,acc,p,hp,h=>⟨[],p,by rw[qy];exact h,rfl,.nil hp⟩
 |n+1,acc,p,hp,h=>by
  rw[dSt]at h;split at h
  ·rename_i h1;split at h
   ·rename_i f;have e:=ez h1;have b:=ez f;obtain⟨a,q,d,g,i⟩:=yM n _ _ ⟨by have:=b.1;have:=b.2.1;omega,b.2.2.1⟩ h;refine⟨_::a,q,by rw[qj]at d;exact d,by rw[qe,g],?_⟩;rw[qw,jm,rC];exact(e.trans b).trans i
   ·exact no0 dd h
  ·exact no0 dd h
theorem yJ{s:List UInt8}{K:List Kp->Int->Crt×Int}{c:Crt}:∀(n:Nat) (acc:List Kp) (p:Int),0<=p/\p<=s.length->dCl s K n acc p=(c,0)->∃l q,K (acc++l) q=(c,0)/\AtB s p q (l.map dq).flatten
 |0,acc,p,hp,h=>⟨[],p,by rw[qy];exact h,.nil hp⟩
 |n+1,acc,p,hp,h=>by
  rw[dCl]at h;split at h
  ·rename_i h1;split at h
   ·rename_i i;have a:=ez h1;obtain⟨j,m,f,g,b⟩:=yM _ _ _ ⟨by have:=a.1;have:=a.2.1;omega,a.2.2.1⟩ h;obtain⟨l,q,d,e⟩:=yJ n _ _ ⟨by have:=b.1;have:=b.2.1;omega,b.2.2.1⟩ f;refine⟨_::l,q,by rw[qj]at d;exact d,?_⟩;rw[qw,jm,uU];have z:=(a.trans b).trans e;rw[<-show(((getI s p).1.toNat:Nat):Int)=(getI s p).1 by omega,<-g]at z;exact z
   ·exact no0 dd h
  ·exact no0 dd h
theorem AS{c:Crt}(h:decC s=(c,0)):crtOk c=true/\encC c=s:=by
 rw[decC]at h;split at h
 ·rename_i h1;split at h
  ·rename_i j;split at h
   ·rename_i k;have g:=iT h1;have i:=iT j;have b:=ez k;obtain⟨l,q,a,o⟩:=yJ _ _ _ ⟨by have:=b.1;have:=b.2.1;omega,b.2.2.1⟩ h;rw[dEnd]at a;split at a
    ·rename_i m;split at a
     ·rename_i d;have f:=congrArg Prod.fst a;dsimp only at f;subst f;refine⟨d,?_⟩;obtain⟨-,-,-,e⟩:=((g.trans i).trans b).trans o;rw[m,qn,qdd,qy]at e;show _++_++aA [_]++((([]++l):List Kp).map dq).flatten=s;rw[qv,show∀n,aA [n]=(putIR n).1 from fun n=>by simp[aA],<-e];rfl
     ·exact no0 dd a
    ·exact no0 dd a
   ·exact no0 dd h
  ·exact no0 dd h
 ·exact no0 dd h
theorem Et{x:Stp}(h:bA p x=true):okI x.1/\okI x.2:=by
 simp only[bA,qd,decide_eq_true_eq]at h;obtain⟨⟨h1,b⟩,-,a⟩:=h;refine⟨by unfold okI;omega,?_⟩;unfold numOk at a;split at a
 ·simp only[qah,decide_eq_true_eq]at a;unfold okI;omega
 ·split at a
  ·simp only[qd,decide_eq_true_eq]at a;unfold okI;omega
  ·simp only[decide_eq_true_eq]at a;unfold okI;omega
theorem yN{s:List UInt8}{K:List Stp->Int->Crt×Int}:∀(b acc:List Stp) (p q:Int),(∀x∈b,okI x.1/\okI x.2)->AtB s p q (b.map stpN).flatten->dSt s K b.length acc p=K (acc++b) q
 |[],acc,p,q,_,h=>by rw[h.len,qy];simp[dSt]
 |x::r,acc,p,q,hx,h=>by
  have a:=hx x ss;rw[qw,jm,rC,eb a.1,eb a.2]at h;obtain⟨m,h1,c⟩:=h.split;obtain⟨k,d,e⟩:=h1.split;rw[qe,dSt,mF d a.1];dsimp only;rw[mF e a.2,if_pos rfl,if_pos rfl,yN r _ _ _ (fun y f=>hx y (by simp[f])) c,qj];rfl
theorem yK{s:List UInt8}{K:List Kp->Int->Crt×Int}:∀(l acc:List Kp) (p q:Int),(∀x∈l,x.2.length<=64/\∀y∈x.2,okI y.1/\okI y.2)->(∀(k:Nat) (h:k < l.length),(l[k]'h).1=(acc.length:Int)+k+1)->AtB s p q (l.map dq).flatten->dCl s K l.length acc p=K (acc++l) q
 |[],acc,p,q,_,_,h=>by rw[h.len,qy];simp[dCl]
 |x::r,acc,p,q,hx,hk,h=>by
  have c:=hx x ss;have b:=hk 0 ss;have a:okI (x.2.length:Int):=by unfold okI;omega
  rw[qw,jm,uU,eb a]at h;obtain⟨m,h1,d⟩:=h.split;obtain⟨k,f,g⟩:=h1.split;rw[qe,dCl,mF f a];dsimp only
  rw[if_pos rfl,if_pos oo,qn,yN x.2 [] _ _ c.2 g,qv,yK r _ _ _ (fun y i=>hx y (by simp[i])) (fun k h=>by
   have:=hk (k+1) (by simp only[qe];omega);rw[qb,yi];simp only[qdh]at this;rw[this];omega) d,qj]
  have e:((acc.length:Int)+1,x.2)=x:=Prod.ext (by rw[List.getElem_cons_zero]at b;show(acc.length:Int)+1=x.1;omega) rfl;rw[e];rfl
theorem yE:∀(l:List Kp) (i:Int) (k:Nat) (h:k < l.length),clOk l i=true->clAt (l[k]'h) (i+k)=true
 |x::r,i,0,h,hc=>by
  rw[clOk,qd]at hc;simpa using hc.1
 |x::r,i,k+1,h,hc=>by
  rw[clOk,qd]at hc;have:=yE r (i+1) k (by simpa using h) hc.2;rw[qdh,show i+((k+1:Nat):Int)=i+1+k by omega];exact this
theorem wD{c:Crt}(i:crtOk c=true):decC (encC c)=(c,0):=by
 have d:=jO i;have f:=i;simp only[crtOk,qd,decide_eq_true_eq]at f;obtain⟨h1,B,D,E,m,n⟩:=f;obtain⟨src,a,len,l⟩:=c;dsimp only at h1 B D E m n d;have e:=fun k h=>yE l 1 k h n
 have g:okI len:=by unfold okI;omega
 have b:AtB (encC ⟨src,a,len,l⟩) 0 (encC ⟨src,a,len,l⟩).length ((putSR src).1++(putSR a).1++putI len++(l.map dq).flatten):=by
  refine⟨qd2 _,by omega,qd2 _,?_⟩;rw[qn,qdd,qy];show(putSR src).1++(putSR a).1++aA [len]++(l.map dq).flatten=_;rw[show aA [len]=(putIR len).1 by simp[aA],eb g]
 generalize J:encC ⟨src,a,len,l⟩=s at b ⊢;obtain⟨I,b,A⟩:=b.split;obtain⟨M,b,w⟩:=b.split;obtain⟨L,q,u⟩:=b.split;rw[decC,qW q oo];dsimp only;rw[qW u oo];dsimp only;rw[mF w g,if_pos rfl,if_pos rfl,if_pos rfl];dsimp only
 have o:=yK (K:=dEnd s src a len) l [] I _ (fun x p=>⟨d x p,fun y G=>by
  obtain⟨k,j,rfl⟩:=qcn.1 p;have:=e k j;simp only[clAt,qd,decide_eq_true_eq]at this;exact Et ((n7 this.2.1).2.2 y G)⟩) (fun k j=>by
  have:=e k j;simp only[clAt,qd,decide_eq_true_eq]at this;rw[this.1,qu];omega) A
 rw[m]at o;rw[o,qv,dEnd,if_pos rfl,if_pos i]
theorem D6(s:List UInt8):(∃c,decC s=(c,0)/\crtOk c=true/\encC c=s)\/decC s=(crt0,10)\/decC s=(crt0,100):=by
 have g:∀(K:List Stp->Int->Crt×Int) (P:Crt×Int->Prop),P (crt0,10)->(∀a q,P (K a q))->∀n acc p,P (dSt s K n acc p):=by
  intro K P b d n
  induction n with
  |zero=>exact fun acc p=>d acc p
  |succ n ih=>
   intro acc p;rw[dSt]
   repeat' split
   ·exact ih _ _
   ·exact b
   ·exact b
 have f:∀(K:List Kp->Int->Crt×Int) (P:Crt×Int->Prop),P (crt0,10)->P (crt0,100)->(∀a q,P (K a q))->∀n acc p,P (dCl s K n acc p):=by
  intro K P b e d n
  induction n with
  |zero=>exact fun acc p=>d acc p
  |succ n ih=>
   intro acc p;rw[dCl]
   repeat' split
   ·exact g _ P b (fun a q=>ih _ _) _ _ _
   ·exact e
   ·exact b
 have h:(∃c,decC s=(c,0))\/decC s=(crt0,10)\/decC s=(crt0,100):=by
  rw[decC]
  repeat' split
  ·refine f _ (fun y=>(∃c,y=(c,0))\/y=(crt0,10)\/y=(crt0,100)) (.inr (.inl rfl)) (.inr (.inr rfl)) (fun a q=>?_) _ _ _;rw[dEnd]
   repeat' split
   ·exact .inl ⟨_,rfl⟩
   ·exact .inr (.inr rfl)
   ·exact .inr (.inl rfl)
  ·exact .inr (.inl rfl)
  ·exact .inr (.inl rfl)
  ·exact .inr (.inl rfl)
 rcases h with⟨c,i⟩ | h | h
 ·exact .inl ⟨c,i,AS i⟩
 ·exact .inr (.inl h)
 ·exact .inr (.inr h)
