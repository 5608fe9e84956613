import Derived.Test.YtfnkamphhpldcaaGreatDoorK26
set_option maxHeartbeats 64000000
namespace Go.Proofs.YtfnkamphhpldcaaGreatDoor
open Go Sx Tryz
set_option maxRecDepth 100000
def idxG{α:Type}(q:α->Bool):List α->Nat->Int
 |[],_=>-1
 |x::r,n=>if q x=false then n else idxG q r (n+1)
theorem oS{α:Type}(q:α->Bool)(l:List α)(k:Nat)(h:k < l.length):idxG q (l.drop k) k=if q l[k]=false then(k:Int)else idxG q (l.drop (k+1)) (k+1):=by
 rw[jj h];rfl
theorem wV{α:Type}(q:α->Bool):∀(l:List α) (n:Nat),(0<=idxG q l n)↔l.all q=false
 |[],n=>by simp[idxG]
 |x::r,n=>by
  simp only[idxG,qb4];split
  ·rename_i h;simp[h]
  ·rename_i h;have:q x=true:=by simpa using h
   rw[wV q r (n+1),this];simp
theorem wU{α:Type}(q:α->Bool)(l:List α):(!decide (0<=idxG q l 0))=l.all q:=by
 have:=wV q l 0;cases h:l.all q with
 |true=>
  rw[h]at this;have a:¬(0<=idxG q l 0):=fun b=>by have:=this.1 b;cases this
  rw[decide_eq_false a];rfl
 |false=>rw[h]at this;rw[decide_eq_true (this.2 rfl)];rfl
theorem al1N(F:Fz)(x:DLn)(a:Nat)(_:True)(c:F a=some (.cells 224 [.fn (.func 146) []])):Fo prog F 214 [.agg (encN x),.va (.ptr (fp a))] (fun o b=>o=.ret (.va (.bool (!dlnOk x)))/\b=F):=by
 have d:=za F x;refine foS func214 ?_;refine⟨_,c,?_⟩;refine usePs d ?_;exact endPu rfl (Fz.r F) rfl rfl
theorem al2N(F:Fz)(O:SA)(l:List DLn)(p:Nat)(S:Sl F 148 2 encN O l)(hl:l.length < 1000000)(M:∀x∈l,True)(R:F p=some (.cells 224 [.fn (.func 146) []])):
  Fo prog F 254 [.va O,.va (.fn (.func 214) [fp p])] (fun o n=>o=.ret (.va (.int .i64 (idxG dlnOk l 0)))/\n=F):=by
 have fin:∀(x:Int) (h:Hp) (nx:Nat),idxG dlnOk l 0=x->lget h 0=some (.frz F)->
   Cln 1 (FoK F fun o n=>o=.ret (.va (.int .i64 (idxG dlnOk l 0)))/\n=F) (.ret (.va (.int .i64 x))) h nx:=by
  intro x h nx Z Q;exact endPu Q (Fz.r F) (oi Z) rfl
 obtain⟨W,U,B,V,A,Y,rfl,f,w,T,y⟩:=S;refine foS func254 ?_;conv=>whnf
 refine aH hΘ (X:={ k:Nat // k<=l.length/\idxG dlnOk l 0=idxG dlnOk (l.drop k) k }) (fun k=>[(8,.va (.int .i64 k.1))]) (4::5::jr 9 10 []) (fz fun _=>F) 1 (fun k=>l.length - k.1) ⟨0,by simp⟩
  (fun s u=>le0 s u rfl (Fz.r F) rfl ⟨rfl,tv⟩) ?_
 rintro⟨k,L,c⟩ s u;replace L:k<=l.length:=L;replace c:idxG dlnOk l 0=idxG dlnOk (l.drop k) k:=c;by_cases g:k < l.length
 ·have J:(k:Int) < (l.length:Nat):=by omega
  have j:0<=(k:Int)/\(k:Int) < (l.length:Nat):=by omega
  have E:∃x,l[k]=x:=⟨_,rfl⟩
  obtain⟨x,d⟩:=E;have D:A[B+(k:Int).toNat]? =some (encN x):=by rw[<-d];exact Sl.at y g
  have K:=M _ (qx g)
  try rw[d]at K
  have a:=al1N F x p (trivial) R;rw[oS _ l k g,d]at c;have I:k+1<=l.length:=g;have i:l.length - (k+1) < l.length - k:=by omega
  have m:k < 4611686018427387904:=by omega
  have e:∃b,dlnOk x=b:=⟨_,rfl⟩
  obtain⟨b,e⟩:=e;rw[e]at c a;clear M K d;refine bri J ⟨Sl.lt f g,j,_,w (Sl.lt f g),_,D,?_⟩;refine usePs a ?_;rcases b with _ | _
  ·refine br (fun _=>?_) (fun q=>absurd q dd);exact fin _ _ _ (c.trans (if_pos rfl)) rfl
  ·refine br (fun q=>absurd q dd) (fun _=>?_);rw[if_neg dd]at c;exact⟨⟨k+1,I,c⟩,i,lr0 s u rfl (Fz.r F) rfl ⟨cnt m,tv⟩⟩
 ·have G:¬(k:Int) < (l.length:Nat):=by omega
  rw[yg oo]at c;refine brj G ?_;exact fin _ _ _ c rfl
theorem al3N(F:Fz)(b:SA)(l:List DLn)(a:Nat)(c:Sl F 148 2 encN b l)(u:l.length < 1000000)(w:∀x∈l,True)(e:F a=some (.cells 224 [.fn (.func 146) []])):
  Fo prog F 213 [.va b,.va (.fn (.func 214) [fp a])] (fun o d=>o=.ret (.va (.bool (decide (0<=idxG dlnOk l 0))))/\d=F):=by
 have h:=al2N F b l a c u w e;obtain⟨q,m,p,n,k,s,rfl,f,g,i,j⟩:=c;refine foS func213 ?_;refine usePs h ?_;exact endPu rfl (Fz.r F) (ob rfl) rfl
theorem allN(F:Fz)(d:SA)(l:List DLn)(f:Sl F 148 2 encN d l)(B:l.length < 1000000)(D:∀x∈l,True):
  Fo prog F 145 [.va d,.va (.fn (.func 146) [])] (fun o a=>o=.ret (.va (.bool (l.all dlnOk)))/\a=F):=by
 have h:=fun a (c:Fz.le F a) b=>al3N a d l b (f.mono c) B D
 have e:=wU dlnOk l;obtain⟨y,s,w,u,q,A,rfl,k,m,n,p⟩:=f;refine foS func145 ?_;refine bS 1 (fun _=>.cells 224 [.fn (.func 146) []]) ?_;intro b i g j;refine usePs (h i g (b 0) (j 0 rfl)) ?_;exact endPu rfl g (ob e.symm) rfl
theorem al1K(F:Fz)(x:Cel)(a:Nat)(_:True)(c:F a=some (.cells 226 [.fn (.func 148) []])):Fo prog F 219 [.agg (encK x),.va (.ptr (fp a))] (fun o b=>o=.ret (.va (.bool (!celOk x)))/\b=F):=by
 have d:=yY F x;refine foS func219 ?_;refine⟨_,c,?_⟩;refine usePs d ?_;exact endPu rfl (Fz.r F) rfl rfl
theorem al2K(F:Fz)(O:SA)(l:List Cel)(p:Nat)(S:Sl F 151 6 encK O l)(hl:l.length < 1000000)(M:∀x∈l,True)(R:F p=some (.cells 226 [.fn (.func 148) []])):
  Fo prog F 220 [.va O,.va (.fn (.func 219) [fp p])] (fun o n=>o=.ret (.va (.int .i64 (idxG celOk l 0)))/\n=F):=by
 have fin:∀(x:Int) (h:Hp) (nx:Nat),idxG celOk l 0=x->lget h 0=some (.frz F)->
   Cln 1 (FoK F fun o n=>o=.ret (.va (.int .i64 (idxG celOk l 0)))/\n=F) (.ret (.va (.int .i64 x))) h nx:=by
  intro x h nx Z Q;exact endPu Q (Fz.r F) (oi Z) rfl
 obtain⟨W,U,B,V,A,Y,rfl,f,w,T,y⟩:=S;refine foS func220 ?_;conv=>whnf
 refine aH hΘ (X:={ k:Nat // k<=l.length/\idxG celOk l 0=idxG celOk (l.drop k) k }) (fun k=>[(8,.va (.int .i64 k.1))]) (4::5::jr 9 10 []) (fz fun _=>F) 1 (fun k=>l.length - k.1) ⟨0,by simp⟩
  (fun s u=>le0 s u rfl (Fz.r F) rfl ⟨rfl,tv⟩) ?_
 rintro⟨k,L,c⟩ s u;replace L:k<=l.length:=L;replace c:idxG celOk l 0=idxG celOk (l.drop k) k:=c;by_cases g:k < l.length
 ·have J:(k:Int) < (l.length:Nat):=by omega
  have j:0<=(k:Int)/\(k:Int) < (l.length:Nat):=by omega
  have E:∃x,l[k]=x:=⟨_,rfl⟩
  obtain⟨x,d⟩:=E;have D:A[B+(k:Int).toNat]? =some (encK x):=by rw[<-d];exact Sl.at y g
  have K:=M _ (qx g)
  try rw[d]at K
  have a:=al1K F x p (trivial) R;rw[oS _ l k g,d]at c;have I:k+1<=l.length:=g;have i:l.length - (k+1) < l.length - k:=by omega
  have m:k < 4611686018427387904:=by omega
  have e:∃b,celOk x=b:=⟨_,rfl⟩
  obtain⟨b,e⟩:=e;rw[e]at c a;clear M K d;refine bri J ⟨Sl.lt f g,j,_,w (Sl.lt f g),_,D,?_⟩;refine usePs a ?_;rcases b with _ | _
  ·refine br (fun _=>?_) (fun q=>absurd q dd);exact fin _ _ _ (c.trans (if_pos rfl)) rfl
  ·refine br (fun q=>absurd q dd) (fun _=>?_);rw[if_neg dd]at c;exact⟨⟨k+1,I,c⟩,i,lr0 s u rfl (Fz.r F) rfl ⟨cnt m,tv⟩⟩
 ·have G:¬(k:Int) < (l.length:Nat):=by omega
  rw[yg oo]at c;refine brj G ?_;exact fin _ _ _ c rfl
theorem al3K(F:Fz)(b:SA)(l:List Cel)(a:Nat)(c:Sl F 151 6 encK b l)(u:l.length < 1000000)(w:∀x∈l,True)(e:F a=some (.cells 226 [.fn (.func 148) []])):
  Fo prog F 218 [.va b,.va (.fn (.func 219) [fp a])] (fun o d=>o=.ret (.va (.bool (decide (0<=idxG celOk l 0))))/\d=F):=by
 have h:=al2K F b l a c u w e;obtain⟨q,m,p,n,k,s,rfl,f,g,i,j⟩:=c;refine foS func218 ?_;refine usePs h ?_;exact endPu rfl (Fz.r F) (ob rfl) rfl
theorem allK(F:Fz)(d:SA)(l:List Cel)(f:Sl F 151 6 encK d l)(B:l.length < 1000000)(D:∀x∈l,True):
  Fo prog F 147 [.va d,.va (.fn (.func 148) [])] (fun o a=>o=.ret (.va (.bool (l.all celOk)))/\a=F):=by
 have h:=fun a (c:Fz.le F a) b=>al3K a d l b (f.mono c) B D
 have e:=wU celOk l;obtain⟨y,s,w,u,q,A,rfl,k,m,n,p⟩:=f;refine foS func147 ?_;refine bS 1 (fun _=>.cells 226 [.fn (.func 148) []]) ?_;intro b i g j;refine usePs (h i g (b 0) (j 0 rfl)) ?_;exact endPu rfl g (ob e.symm) rfl
def ltC(a b:Cel):Bool:=decide (a.row < b.row)||(decide (a.row=b.row)&&decide (a.col < b.col))
def ascF:List Cel->Bool
 |a::b::r=>ltC a b&&ascF (b::r)
 |_=>true
theorem oJ:∀(l:List Cel) (a b:Cel),ascF (l++[a,b])=(ascF (l++[a])&&ltC a b)
 |[],a,b=>by simp[ascF]
 |[x],a,b=>by simp[ascF]
 |x::y::r,a,b=>by
  have ih:=oJ (y::r) a b;show(ltC x y&&ascF ((y::r)++[a,b]))=((ltC x y&&ascF ((y::r)++[a]))&&ltC a b);rw[ih,Bool.and_assoc]
theorem EB{l:List Cel}{k:Nat}(h1:1<=k)(g:k < l.length){a b:Cel}(c:l[k - 1]=a)(d:l[k]=b):ascF (l.take (k+1))=(ascF (l.take k)&&ltC a b):=by
 obtain⟨m,rfl⟩:∃m,k=m+1:=⟨k - 1,by omega⟩
 rw[qf g,qf (show m < l.length by omega),qj,d];have e:l[m]=a:=c;rw[e];exact oJ _ _ _
structure Dc where
 lines:List DLn
 cells:List Cel
 w:Int
 bits:List UInt8
def docOk(d:Dc):Bool:=((((decide (d.lines.length<=64)&&decide (d.cells.length<=64))&&ascF d.cells)&&d.lines.all dlnOk)&&d.cells.all celOk)&&rasOk d.w d.bits
def docE(a b:SA)(w:Int)(s:List UInt8):Ent:=.one (.cells 41 (docS a b w s))
theorem gy{n:Nat}{a b:SA}{w:Int}{s:List UInt8}(d:a.below n)(e:b.below n):(docE a b w s).below n:=by
 show∀x∈_,SA.below n x;intro x c;simp only[qh,qq,or_false]at c;rcases c with rfl | rfl | rfl | rfl
 ·exact d
 ·exact e
 ·trivial
 ·trivial
theorem oh(F:Fz)(sa sb:SA)(d:Dc)(R:Sl F 148 2 encN sa d.lines)(hb:Sl F 151 6 encK sb d.cells)(hl:d.lines.length<=1000)(hc:d.cells.length<=1000)(hs:d.bits.length<=70000):
  Fo prog F 85 [.agg (docS sa sb d.w d.bits)] (fun o F'=>o=.ret (.va (.bool (docOk d)))/\F'=F):=by
 obtain⟨L,K,w,s⟩:=d;replace R:Sl F 148 2 encN sa L:=R;replace hb:Sl F 151 6 encK sb K:=hb;replace hl:L.length<=1000:=hl;replace hc:K.length<=1000:=hc;have aL:=allN F sa L R oo (fun _ _=>trivial);have aK:=allK F sb K hb oo (fun _ _=>trivial);obtain⟨V,S,U,T,ap,aq,rfl,al,am,an,ao⟩:=R;obtain⟨ae,ab,u,ad,n,av,rfl,q,Z,au,aa⟩:=hb;have iR:=Dw F (.slice V 0 S U 2 L.length T) (.slice ae 0 ab u 6 K.length ad) w s hs rfl rfl
 have fin:∀(z:Bool) (a:SA) (h:Hp) (nx:Nat),docOk ⟨L,K,w,s⟩=z->atomE (.bool z) (a.ren (resP h))->lget h 0=some (.frz F)->Cln 1 (FoK F fun o F'=>o=.ret (.va (.bool (docOk ⟨L,K,w,s⟩)))/\F'=F) (.ret (.va a)) h nx:=by
  intro z a h nx hz R h0;subst hz;exact endPu h0 (Fz.r F) R rfl
 have D:ascF (K.take 1)=true:=by
  cases K with
  |nil=>rfl
  |cons x r=>rfl
 refine foS func85 ?_;conv=>whnf
 refine aH hΘ (X:={ y:Nat×Bool // 1<=y.1/\(y.1=1\/y.1<=K.length)/\y.2=ascF (K.take y.1) }) (fun y=>[(3,.va (.bool y.1.2)),(4,.va (.int .i64 y.1.1))]) (jr 5 42 [])
  (fun _=>[(0,.frz F),(1,docE (.slice V 0 S U 2 L.length T) (.slice ae 0 ab u 6 K.length ad) w s)]) 2 (fun y=>K.length - y.1.1) ⟨(1,true),by omega,by omega,D.symm⟩
  (fun O Q=>leI [] O Q rfl ⟨tv,gy (.inr oo) (.inr oo),tv⟩ ⟨rfl,rfl,tv⟩ ⟨Fz.r F,rfl,tv⟩) ?_
 rintro⟨⟨k,asc⟩,E,hk,f⟩ O Q;replace E:1<=k:=E;replace hk:k=1\/k<=K.length:=hk;replace f:asc=ascF (K.take k):=f;by_cases g:k < K.length
 ·have g0:k < K.length:=g;have gp:k - 1 < K.length:=by omega
  have aj:(k:Int) < (K.length:Nat):=by omega
  have af:∃a b,K[k - 1]=a/\K[k]=b:=⟨_,_,rfl,rfl⟩
  obtain⟨a,b,G,I⟩:=af
  have W:n[u+(IntKind.i64.wrap ((k:Int) - 1)).toNat]? =some (encK a):=by
   rw[aI oo oo,show((k:Int) - 1).toNat=((k - 1:Nat):Int).toNat by omega,<-G];exact Sl.at aa gp
  have Y:n[u+(k:Int).toNat]? =some (encK b):=by rw[<-I];exact Sl.at aa g
  have ah:0<=IntKind.i64.wrap ((k:Int) - 1)/\IntKind.i64.wrap ((k:Int) - 1) < (K.length:Nat):=by rw[aI oo oo];omega
  have ai:0<=(k:Int)/\(k:Int) < (K.length:Nat):=by omega
  have j:=EB E g G I;rw[<-f]at j;have i:1<=k+1/\(k+1=1\/k+1<=K.length):=by omega
  have l:K.length - (k+1) < K.length - k:=by omega
  have m:k < 4611686018427387904:=by omega
  obtain⟨ar,ac,a2,a3,a4,a5⟩:=a;obtain⟨p,bc,b2,b3,b4,b5⟩:=b;replace j:ascF (K.take (k+1))=(asc&&(decide (ar < p)||(decide (ar=p)&&decide (ac < bc)))):=j;clear f G I;refine bri aj ?_;refine dwS (lk [0,1,2,3,4,5,6,7,8,9,10] (.alt 11 (.alt 12 (.alt 13 (.last 14 .done) .nil) .nil) (.alt 12 (.alt 11 (.alt 13 (.last 14 .done) .nil) .nil) .nil))) [1] ?_;refine⟨rfl,Sl.lt q g0,ah,rfl,_,Z (Sl.lt q g0),_,W,rfl,Sl.lt q g0,ai,rfl,_,Z (Sl.lt q g0),_,Y,?_,?_⟩
  all_goals
   refine⟨Fz.r F,rfl,Fz.r F,rfl,Fz.r F,rfl,?_⟩;rcases asc with _ | _
   ·refine⟨fun c=>absurd c (by show¬false=true;decide),fun _=>?_⟩;exact⟨⟨(k+1,false),i.1,i.2,by rw[j];rfl⟩,l,leR [] O Q rfl ⟨tv,gy (.inr oo) (.inr oo),tv⟩ ⟨rfl,cnt m,tv⟩ ⟨Fz.r F,rfl,tv⟩⟩
   ·refine⟨fun _=>?_,fun c=>absurd c (by show¬true=false;decide)⟩;conv=>whnf
    by_cases h1:ar < p
    ·refine⟨fun c=>absurd h1 (oe c),fun _=>?_⟩;exact⟨⟨(k+1,true),i.1,i.2,by rw[j,decide_eq_true h1];rfl⟩,l,leR [] O Q rfl ⟨tv,gy (.inr oo) (.inr oo),tv⟩ ⟨rfl,cnt m,tv⟩ ⟨Fz.r F,rfl,tv⟩⟩
    ·refine⟨fun _=>?_,fun c=>absurd (od c) h1⟩;conv=>whnf
     by_cases h2:ar=p
     ·refine⟨fun _=>?_,fun c=>absurd h2 (oe c)⟩;exact⟨⟨(k+1,decide (ac < bc)),i.1,i.2,by rw[j,decide_eq_false h1,decide_eq_true h2];simp⟩,l,leR [] O Q rfl ⟨tv,gy (.inr oo) (.inr oo),tv⟩ ⟨rfl,cnt m,tv⟩ ⟨Fz.r F,rfl,tv⟩⟩
     ·refine⟨fun c=>absurd (od c) h2,fun _=>?_⟩;exact⟨⟨(k+1,false),i.1,i.2,by rw[j,decide_eq_false h1,decide_eq_false h2];rfl⟩,l,leR [] O Q rfl ⟨tv,gy (.inr oo) (.inr oo),tv⟩ ⟨rfl,cnt m,tv⟩ ⟨Fz.r F,rfl,tv⟩⟩
 ·have ag:¬(k:Int) < (K.length:Nat):=by omega
  have A:asc=ascF K:=by
   rw[f,ql oo]
  have e:docOk ⟨L,K,w,s⟩=(((((decide (L.length<=64)&&decide (K.length<=64))&&asc)&&L.all dlnOk)&&K.all celOk)&&rasOk w s):=by rw[A];rfl
  clear f A;have ak:∃bL bK,L.all dlnOk=bL/\K.all celOk=bK:=⟨_,_,rfl,rfl⟩
  obtain⟨bL,bK,n,B⟩:=ak;rw[n,B]at e;rw[n]at aL;rw[B]at aK;clear n B;refine brj ag ?_;conv=>whnf
  by_cases l1:L.length<=64
  ·have J:(L.length:Int)<=64:=by omega
   rw[decide_eq_true l1,qab]at e;refine⟨fun _=>?_,fun c=>absurd J (oe c)⟩;conv=>whnf
   by_cases l2:K.length<=64
   ·have M:(K.length:Int)<=64:=by omega
    rw[decide_eq_true l2,qab]at e;refine⟨fun _=>?_,fun c=>absurd M (oe c)⟩;conv=>whnf
    rcases asc with _ | _
    ·refine⟨fun c=>absurd c (by show¬false=true;decide),fun _=>?_⟩;exact fin false _ _ _ e rfl rfl
    ·refine⟨fun _=>?_,fun c=>absurd c (by show¬true=false;decide)⟩;refine usePt aL ?_;rcases bL with _ | _
     ·refine⟨fun c=>absurd c dd,fun _=>?_⟩;exact fin false _ _ _ e rfl rfl
     ·refine⟨fun _=>?_,fun c=>absurd c dd⟩;refine usePt aK ?_;rcases bK with _ | _
      ·refine⟨fun c=>absurd c dd,fun _=>?_⟩;exact fin false _ _ _ e rfl rfl
      ·refine⟨fun _=>?_,fun c=>absurd c dd⟩;refine usePt iR ?_;exact fin _ _ _ _ e rfl rfl
   ·have M:¬(K.length:Int)<=64:=by omega
    rw[decide_eq_false l2]at e;refine⟨fun c=>absurd (od c) M,fun _=>?_⟩;exact fin false _ _ _ (by rw[e];simp) rfl rfl
  ·have J:¬(L.length:Int)<=64:=by omega
   rw[decide_eq_false l1]at e;refine⟨fun c=>absurd (od c) J,fun _=>?_⟩;exact fin false _ _ _ (by rw[e];simp) rfl rfl
def dM(n:Int):Int:=if 1000000000000 < (if -1000000000000>n then -1000000000000 else n)then 1000000000000 else(if -1000000000000>n then -1000000000000 else n)
def kG(c e:Cel):Bool:=inR e.row c.top c.row&&inR e.col c.left c.col
def sumF(c:Cel):List (Cel×Int)->Int->Int
 |[],n=>n
 |(e,v)::r,n=>sumF c r (if kG c e=true then IntKind.i64.wrap (n+v)else n)
theorem vT(c:Cel):∀(l:List (Cel×Int)) (e:Cel) (v n:Int),sumF c (l++[(e,v)]) n=if kG c e=true then IntKind.i64.wrap (sumF c l n+v)else sumF c l n
 |[],_,_,_=>rfl
 |(_,_)::r,e,v,_=>vT c r e v _
def valF(done:List Cel)(o:List Int)(c:Cel):Int:=dM (if c.sum=true then sumF c (done.zip o) c.value else c.value)
def valsA:List Cel->List Cel->List Int->List Int
 |[],_,o=>o
 |c::r,done,o=>valsA r (done++[c]) (o++[valF done o c])
def valsF(l:List Cel):List Int:=valsA l [] []
theorem Ev{l:List Cel}{k:Nat}{o:List Int}{c:Cel}(g:k < l.length)(a:l[k]=c):valsA (l.drop k) (l.take k) o=valsA (l.drop (k+1)) (l.take (k+1)) (o++[valF (l.take k) o c]):=by
 rw[jj g,qf g,a];rfl
theorem Cl{l:List Cel}{o:List Int}{k j:Nat}{e:Cel}{v:Int}(h:k<=l.length)(d:o.length=k)(c:j < k)(b:l[j]? =some e)(f:o[j]? =some v):
  ((l.take k).zip o).take (j+1)=((l.take k).zip o).take j++[(e,v)]:=by
 have g:((l.take k).zip o).length=k:=by rw[qao,qk,d];omega
 rw[qf (by rw[g];exact c),qde]
 have h1:(l.take k)[j]'(by rw[qk];omega)=e:=by
  rw[List.getElem_take];exact(qg.1 b).2
 have a:o[j]'oo=v:=(qg.1 f).2;rw[h1,a]
def docE4(a b:SA)(w:Int)(s:List UInt8):Ent:=.one (.cells 176 (docS a b w s))
theorem dY{n:Nat}{a b:SA}{w:Int}{s:List UInt8}(c:a.below n)(d:b.below n):(docE4 a b w s).below n:=gy (w:=w) (s:=s) c d
def celE(c:Cel):Ent:=.one (.cells 151 (encK c))
theorem lh{n:Nat}(c:Cel):(celE c).below n:=(SB.bB_ok rfl:SB.below n (.cells 151 (encK c)))
theorem yd6{F a:Fz}{o:List Int}{co b:Nat}{h:Hp}{nx:Nat}(d:Fz.le F a)(f:a b=some (.arr 3 1 (o.map encI) co))(e:lget h 0=some (.frz a)){K:List Cel}(i:valsF K=o){u:Out}(g:u.ren (resP h)=.ret (.va (.slice false 0 b 0 1 o.length co))):
  Cln 1 (FoK F fun o a=>∃r,o=.ret (.va r)/\((K=[]/\r=.nilsl)\/(dX a r (valsF K)/\∃b c,r=.slice false 0 b 0 1 (valsF K).length c))) u h nx:=by
 subst i;exact endFo (.ret (.va (.slice false 0 b 0 1 (valsF K).length co))) a e d (Fz.r a) ⟨_,rfl,.inr ⟨Sl.new (l:=valsF K) f,_,_,rfl⟩⟩ (by rw[g];exact aP _) rfl
theorem Ai(F:Fz)(an:Bool)(ab ae al ac:Nat)(bn:Bool)(bb u E:Nat)(K:List Cel)(w:Int)(s:List UInt8)(hb:Sl F 151 6 encK (.slice bn 0 bb u 6 K.length E) K)(hl:K.length<=1000)(a4:K.length<=E):
  Fo prog F 166 [.agg (docS (.slice an 0 ab ae 2 al ac) (.slice bn 0 bb u 6 K.length E) w s)] (fun o F'=>∃r,o=.ret (.va r)/\((K=[]/\r=.nilsl)\/(dX F' r (valsF K)/\∃b c,r=.slice false 0 b 0 1 (valsF K).length c))):=by
 obtain⟨a9,a6,a8,a7,ad,ba,ar,A,Z,a5,aa⟩:=hb;cases ar
 refine foS func166 ?_;conv=>whnf
 refine aH hΘ (X:={ y:Nat×List Int×Nat // y.1<=K.length/\y.2.1.length=y.1/\valsF K=valsA (K.drop y.1) (K.take y.1) y.2.1 }) (fun y=>[(3,.va (gA 1 2 y.1.2.2 y.1.2.1)),(13,.va (.int .i64 y.1.1))]) (4::5::6::7::8::jr 14 49 [])
  (fun y=>[(0,.frz F),(1,docE4 (.slice an 0 ab ae 2 al ac) (.slice bn 0 bb u 6 K.length E) w s),(2,gE 3 1 encI y.1.2.2 y.1.2.1)]) 3 (fun y=>K.length - y.1.1) ⟨(0,[],0),jx _,rfl,rfl⟩
  (fun G I=>leI [(2,2)] G I rfl ⟨tv,dY (.inr oo) (.inr oo),aF cS _ _ _ _ _,tv⟩ ⟨rfl,rfl,tv⟩ ⟨Fz.r F,rfl,rfl,tv⟩) ?_
 rintro⟨⟨k,o,co⟩,hk,q,d⟩ G I;replace hk:k<=K.length:=hk;replace q:o.length=k:=q;replace d:valsF K=valsA (K.drop k) (K.take k) o:=d;by_cases g:k < K.length
 ·have a0:(k:Int) < (K.length:Nat):=by omega
  have ak:0<=(k:Int)/\(k:Int) < (K.length:Nat):=by omega
  have au:∃c,K[k]=c:=⟨_,rfl⟩
  obtain⟨c,hc⟩:=au;have ap:ad[u+(k:Int).toNat]? =some (encK c):=by rw[<-hc];exact Sl.at aa g
  rw[Ev g hc]at d;have B:k+1<=K.length:=g;have f:K.length - (k+1) < K.length - k:=by omega
  have h:k < 4611686018427387904:=by omega
  refine bri a0 ⟨Sl.lt A g,ak,_,Z (Sl.lt A g),_,ap,?_⟩;conv=>whnf
  by_cases hs:c.sum=true
  ·refine br (fun _=>?_) (fun g2=>absurd hs (by rw[g2];simp));have W:valF (K.take k) o c=dM (sumF c ((K.take k).zip o) c.value):=by rw[valF,if_pos hs]
   have af:0<=(k:Int)/\(k:Int)<=(E:Nat):=by omega
   refine⟨af,?_⟩;conv=>whnf
   refine aH hΘ (X:={ y:Nat×Int // y.1<=k/\y.2=sumF c (((K.take k).zip o).take y.1) c.value }) (fun y=>[(6,.va (.int .i64 y.1.2)),(28,.va (.int .i64 y.1.1))]) (7::8::jr 29 27 [])
    (fun _=>[(0,.frz F),(1,docE4 (.slice an 0 ab ae 2 al ac) (.slice bn 0 bb u 6 K.length E) w s),(2,gE 3 1 encI co o),(3,celE c)]) 4 (fun y=>k - y.1.1) ⟨(0,c.value),jx _,rfl⟩
    (fun G I=>leI [] G I rfl ⟨tv,dY (.inr oo) (.inr oo),aF cS _ _ _ _ _,lh _,tv⟩ ⟨rfl,rfl,tv⟩ ⟨Fz.r F,rfl,aQ cS (bF _ _ _ _),rfl,tv⟩) ?_
   rintro⟨⟨j,n⟩,hj,hn⟩ M Q;replace hj:j<=k:=hj;replace hn:n=sumF c (((K.take k).zip o).take j) c.value:=hn;by_cases gj:j < k
   ·have az:(j:Int) < (k:Nat):=by omega
    have av:0<=(j:Int)/\(j:Int) < (k:Nat):=by omega
    have x:j < K.length:=by omega
    have L:j < o.length:=by omega
    have ag:∃e v,K[j]=e/\o[j]=v:=⟨_,_,rfl,rfl⟩
    obtain⟨e,v,O,U⟩:=ag
    have Y:ad[(if E=0 then u else u+0)+(j:Int).toNat]? =some (encK e):=by
     rw[<-O,show(if E=0 then u else u+0)=u by split<;>rfl];exact Sl.at aa x
    have a1:(o.map encI)[0+(j:Int).toNat]? =some (encI v):=by rw[q9,qn,qt,qc L,U];rfl
    have ao:=Cl (e:=e) (v:=v) hk q gj (by rw[qc x,O]) (by rw[qc L,U])
    have D:sumF c (((K.take k).zip o).take (j+1)) c.value=if kG c e=true then IntKind.i64.wrap (n+v)else n:=by
     rw[ao,vT,<-hn]
    have aw:0<=(j:Int)/\(j:Int) < (o.length:Nat):=by omega
    have a2:∃b1 b2,inR e.row c.top c.row=b1/\inR e.col c.left c.col=b2:=⟨_,_,rfl,rfl⟩
    obtain⟨b1,b2,l,m⟩:=a2;have w1:=fg l F;have w2:=fg m F;have aj:kG c e=(b1&&b2):=by unfold kG;rw[l,m]
    rw[aj]at D;have T:j+1<=k:=gj;have S:k - (j+1) < k - j:=by omega
    have p:j < 4611686018427387904:=by omega
    clear ao O U l m aj;rcases o with _ | ⟨J,a⟩
    ·exact absurd L ss
    ·refine bri az ⟨Sl.lt A x,av,_,Z (Sl.lt A x),_,Y,?_⟩;refine usePt w1 ?_;rcases b1 with _ | _
     ·exact⟨⟨(j+1,n),T,by rw[D];rfl⟩,S,leR [] M Q rfl ⟨tv,dY (.inr oo) (.inr oo),aF cS _ _ _ _ _,lh _,tv⟩ ⟨rfl,cnt p,tv⟩ ⟨Fz.r F,rfl,aQ cS (bF _ _ _ _),rfl,tv⟩⟩
     ·refine usePt w2 ?_;rcases b2 with _ | _
      ·exact⟨⟨(j+1,n),T,by rw[D];rfl⟩,S,leR [] M Q rfl ⟨tv,dY (.inr oo) (.inr oo),aF cS _ _ _ _ _,lh _,tv⟩ ⟨rfl,cnt p,tv⟩ ⟨Fz.r F,rfl,aQ cS (bF _ _ _ _),rfl,tv⟩⟩
      ·refine⟨rfl,aw,rfl,_,a1,?_⟩;exact⟨⟨(j+1,IntKind.i64.wrap (n+v)),T,by rw[D];rfl⟩,S,leR [] M Q rfl ⟨tv,dY (.inr oo) (.inr oo),aF cS _ _ _ _ _,lh _,tv⟩ ⟨rfl,cnt p,tv⟩ ⟨Fz.r F,rfl,aQ cS (bF _ _ _ _),rfl,tv⟩⟩
   ·have ai:¬(j:Int) < (k:Nat):=by omega
    have ax:j=k:=by omega
    have a3:((K.take k).zip o).length=k:=by rw[qao,qk,q];omega
    rw[ax,ql (qcx a3)]at hn;rw[<-hn]at W;rcases o with _ | ⟨J,a⟩
    ·refine brj ai ⟨nb rfl,[encI (dM (n))],rfl,rfl,rfl,by show 1*8<=140737488355328;omega,fun c' R=>?_⟩;exact⟨⟨(k+1,([])++[dM (n)],c'),B,by rw[qb,yi,q],by rw[W]at d;exact d⟩,f,leRn [_,_,_] [_,_] [(2,5)] G I rfl ⟨tv,dY (.inr oo) (.inr oo),aF cS _ _ _ _ _,tv⟩ ⟨by(conv=>whnf);exact⟨rfl,rfl,rfl,.inr ⟨rfl,rfl,rfl,rfl⟩⟩,cnt h,tv⟩ ⟨Fz.r F,rfl,aQ cS (aZ _ ss),tv⟩⟩
    ·have V:(a.length+1+1)*8<=140737488355328:=by
      have h9:a.length+1=k:=q;omega
     refine brj ai ⟨nb rfl,[encI (dM (n))],rfl,rfl,rfl,by simp,rfl,V,fun c' R=>?_⟩;exact⟨⟨(k+1,(J::a)++[dM (n)],c'),B,by rw[qb,yi,q],by rw[W]at d;exact d⟩,f,leRn [_,_,_] [_,_] [(2,5)] G I rfl ⟨tv,dY (.inr oo) (.inr oo),aF cS _ _ _ _ _,tv⟩ ⟨ed (μ:=sig [(2,5)]) (i:=2) (j:=5) rfl 1 c' _ (J::a) (dM n) rfl,cnt h,tv⟩ ⟨Fz.r F,rfl,aQ cS (aZ _ ss),tv⟩⟩
  ·refine br (fun g2=>absurd g2 hs) (fun _=>?_);have W:valF (K.take k) o c=dM c.value:=by rw[valF,if_neg hs]
   rcases o with _ | ⟨J,a⟩
   ·refine⟨nb rfl,[encI (dM (c.value))],rfl,rfl,rfl,by show 1*8<=140737488355328;omega,fun c' R=>?_⟩;exact⟨⟨(k+1,([])++[dM (c.value)],c'),B,by rw[qb,yi,q],by rw[W]at d;exact d⟩,f,leR [(2,5)] G I rfl ⟨tv,dY (.inr oo) (.inr oo),aF cS _ _ _ _ _,tv⟩ ⟨by(conv=>whnf);exact⟨rfl,rfl,rfl,.inr ⟨rfl,rfl,rfl,rfl⟩⟩,cnt h,tv⟩ ⟨Fz.r F,rfl,aQ cS (aZ _ ss),tv⟩⟩
   ·have V:(a.length+1+1)*8<=140737488355328:=by
     have h9:a.length+1=k:=q;omega
    refine⟨nb rfl,[encI (dM (c.value))],rfl,rfl,rfl,by simp,rfl,V,fun c' R=>?_⟩;exact⟨⟨(k+1,(J::a)++[dM (c.value)],c'),B,by rw[qb,yi,q],by rw[W]at d;exact d⟩,f,leR [(2,5)] G I rfl ⟨tv,dY (.inr oo) (.inr oo),aF cS _ _ _ _ _,tv⟩ ⟨ed (μ:=sig [(2,5)]) (i:=2) (j:=5) rfl 1 c' _ (J::a) (dM c.value) rfl,cnt h,tv⟩ ⟨Fz.r F,rfl,aQ cS (aZ _ ss),tv⟩⟩
 ·have ah:¬(k:Int) < (K.length:Nat):=by omega
  have am:k=K.length:=by omega
  rw[am,yg (qi _)]at d;replace d:valsF K=o:=d;rcases o with _ | ⟨J,a⟩
  ·have hK:K=[]:=ji (by rw[<-am,<-q];rfl);refine brj ah ?_;exact endFs (.ret (.va .nilsl)) (Fz.r F) ⟨_,rfl,.inl ⟨hK,rfl⟩⟩
  ·refine brj ah ?_;refine cD 2 (fun _=>.arr 3 1 ((J::a).map encI) co) rfl rfl rfl (fun _ _=>by exact cY cS rfl _ _ _ _) (fun _ _=>cF cS _ _ _ _ _) ?_;intro b' F' ay aq;exact yd6 ay (aq 0 ⟨rfl,rfl⟩) rfl d rfl
