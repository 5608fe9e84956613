import Derived.Test.YtfnkamphhpldcaaGreatDoorK26
set_option maxHeartbeats 64000000
namespace Go.Proofs.YtfnkamphhpldcaaGreatDoor
open Go Sx
set_option maxRecDepth 100000
abbrev DLn:=List UInt8×Int
def encN(l:DLn):List SA:=[.str l.1,.int .i64 l.2]
def dlnOk(l:DLn):Bool:=(decide (l.1.length<=80)&& !l.1.any badC)&&inR l.2 0 7
theorem zz9(F:Fz)(l:DLn):Fo Tryz.prog F 146 [.agg (encN l)] (fun o j=>o=.ret (.va (.bool (dlnOk l)))/\j=F):=by
 obtain⟨t,m⟩:=l;have w:∃k n,t.any badC=k/\inR m 0 7=n:=⟨_,_,rfl,rfl⟩
 obtain⟨k,n,h1,q⟩:=w;have x:=zex q F;have e:dlnOk (t,m)=((decide (t.length<=80)&& !k)&&n):=by rw[<-h1,<-q];rfl
 have i:=fun b:t.length<=80=>ifun F t (q8 b (by decide))
 rw[h1]at i
 have d:∀(z:Bool) (a:SA) (h:Hp) (nx:Nat),dlnOk (t,m)=z->atomE (.bool z) (a.ren (resP h))->lget h 0=some (.frz F)->Cln 1 (FoK F fun o j=>o=.ret (.va (.bool (dlnOk (t,m))))/\j=F) (.ret (.va a)) h nx:=by
  intro z a h nx p u s;subst p;exact endPu s (Fz.r F) u rfl
 clear h1 q;by_cases b:t.length<=80
 ·have c:(t.length:Int)<=80:=by omega
  refine foS Tryz.func146 ?_;refine⟨fun _=>?_,fun g=>absurd c (oe g)⟩;refine useFt (i b) ?_;rintro _ j _ ⟨⟨z,rfl,p⟩,rfl⟩;rcases k with _ | _
  ·have f:z < 0:=by
    have:=oe p;omega
   refine⟨fun _=>?_,fun g=>absurd f (oe g)⟩;refine usePt x ?_;exact d n _ _ _ (by rw[e,decide_eq_true b];simp) rfl rfl
  ·have f:¬z < 0:=by
    have:=od p;omega
   refine⟨fun g=>absurd (od g) f,fun _=>?_⟩;exact d false _ _ _ (by rw[e];simp) rfl rfl
 ·have c:¬(t.length:Int)<=80:=by omega
  refine foS Tryz.func146 ?_;refine⟨fun g=>absurd (od g) c,fun _=>?_⟩;exact d false _ _ _ (by rw[e,decide_eq_false b];simp) rfl rfl
theorem z5o{n b a:Int}:inR n b a=true↔b<=n/\n<=a:=by
 unfold inR;simp
def bitK(b:UInt8):Bool:=b==48||b==49
theorem zagg{l:List SA}{μ:Mu}(h:l.all SA.z=true)(a:∀k,μ 0 k=(0,k)):svE (.agg l) (SV.ren μ (.agg l)):=by
 have b:(SV.agg l).z=true:=h;rw[SV.ren_id (.inl b) a];exact zhz _
def rasOk(w:Int)(s:List UInt8):Bool:=(inR w 0 32&&s.all bitK)&&((decide (w=0)&&(s==[]))||((decide (0 < w)&&decide ((s.length:Int)=w*hgt w s))&&inR (hgt w s) 1 32))
theorem zsx(F:Fz)(a b:SA)(w:Int)(s:List UInt8)(U:s.length<=70000)(Y:a.z=true)(Z:b.z=true):Fo Tryz.prog F 149 [.agg (docS a b w s)] (fun o B=>o=.ret (.va (.bool (rasOk w s)))/\B=F):=by
 have y:(docS a b w s).all SA.z=true:=by
  show(a.z&&(b.z&&(true&&(true&&true))))=true;rw[Y,Z];rfl
 have A:([SV.agg (docS a b w s)].all SV.z)=true:=by
  show((docS a b w s).all SA.z&&true)=true;rw[y];rfl
 have K:=tfun F s U;have p:=zlc F a b w s (by omega);have W:∃m D n,inR w 0 32=m/\s.all bitK=D/\inR (hgt w s) 1 32=n:=⟨_,_,_,rfl,rfl,rfl⟩
 obtain⟨m,D,n,h1,G,I⟩:=W;have O:=zex h1 F;have X:=zex I F
 have e:rasOk w s=((m&&D)&&((decide (w=0)&&(s==[]))||((decide (0 < w)&&decide ((s.length:Int)=w*hgt w s))&&n))):=by
  unfold rasOk;rw[h1,G,I]
 have T:m=true->0<=w/\w<=32:=fun h=>z5o.1 (h1.trans h)
 have c:∀(z:Bool) (a:SA) (h:Hp) (nx:Nat),rasOk w s=z->atomE (.bool z) (a.ren (resP h))->lget h 0=some (.frz F)->Cln 1 (FoK F fun o B=>o=.ret (.va (.bool (rasOk w s)))/\B=F) (.ret (.va a)) h nx:=by
  intro z a h nx y S Q;subst y;exact endPu Q (Fz.r F) S rfl
 clear h1 I;rcases m with _ | _
 ·refine foS Tryz.func149 ?_;refine usePt O ?_;exact c false _ _ _ (by rw[e];simp) rfl rfl
 have V:=T rfl;refine foS Tryz.func149 ?_;refine usePt O ?_;refine useFt K ?_;rintro _ B _ ⟨rfl,r,rfl,u⟩;rcases D with _ | _
 ·have l:(!(r==[]))=true:=by
   have J:¬r=[]:=fun h=>by
    have L:s.all bitK=true:=u.1 h;rw[G]at L;cases L
   simpa using J
  refine br (fun _=>?_) (fun g=>absurd l (by rw[g];simp));exact c false _ _ _ (by rw[e];simp) rfl rfl
 have l:(!(r==[]))=false:=by
  have J:r=[]:=u.2 G;rw[J];rfl
 refine br (fun g=>absurd g (by rw[l];simp)) (fun _=>?_);refine dwS (lk [0,1,2,3,4,5,6,7,8,9,10,11,12,13,14,15,16,17,18,19,20,21,22,23] (.alt 24 (lk [25,26,27,28,29] (.alt 30 (.alt 31 (lk [32,33,34] .done) .nil) .nil)) .nil)) [1] ?_;refine⟨rfl,?_⟩;conv=>whnf
 by_cases f:w=0
 ·refine⟨fun _=>?_,fun g=>absurd f (oe g)⟩;refine⟨rfl,?_⟩;conv=>whnf
  by_cases x:s=[]
  ·have d:(s==[])=true:=by rw[x];rfl
   refine⟨fun g=>absurd g (by rw[d];simp),fun _=>?_⟩;exact c true _ _ _ (by rw[e,d,decide_eq_true f];rfl) rfl rfl
  ·have d:(s==[])=false:=by simpa using x
   have q:¬0 < w:=by omega
   refine⟨fun _=>?_,fun g=>absurd g (by rw[d];simp)⟩;refine⟨rfl,fun g=>absurd (od g) q,fun _=>?_⟩;exact c false _ _ _ (by rw[e,d,decide_eq_false q];simp) rfl rfl
 ·have j:0 < w:=by omega
  have i:IntKind.i64.wrap (w*hgt w s)=w*hgt w s:=by
   have M:0<=hgt w s:=by
    unfold hgt;split
    ·omega
    ·exact Int.tdiv_nonneg (by omega) (by omega)
   have R:hgt w s<=70000:=by
    unfold hgt;split
    ·omega
    ·rw[ji (by omega)];exact qa6 (Int.ediv_le_self _ (by omega)) (by omega)
   have h8:w*hgt w s<=32*70000:=qbh V.2 R M (by omega);have h9:0<=w*hgt w s:=qcd (by omega) M;exact zah (by omega) (by omega)
  have e':rasOk w s=(decide ((s.length:Int)=IntKind.i64.wrap (w*hgt w s))&&n):=by
   rw[e,i,decide_eq_true j,decide_eq_false f];simp
  clear i;refine⟨fun g=>absurd (od g) f,fun _=>?_⟩;refine⟨rfl,fun _=>?_,fun g=>absurd j (oe g)⟩;refine⟨rfl,rfl,rfl,?_⟩;refine usePu p rfl ⟨zagg y (fun k=>rfl),tv⟩ A ⟨Fz.r F,rfl,?_⟩;conv=>whnf
  by_cases E:(s.length:Int)=IntKind.i64.wrap (w*hgt w s)
  ·refine⟨fun _=>?_,fun g=>absurd E (oe g)⟩;rw[decide_eq_true E,yq]at e';refine⟨rfl,?_⟩;refine usePu p rfl ⟨zagg y (fun k=>rfl),tv⟩ A ⟨Fz.r F,rfl,?_⟩;refine usePt X ?_;refine⟨Fz.r F,rfl,?_⟩;exact c n _ _ _ e' rfl rfl
  ·refine⟨fun g=>absurd (od g) E,fun _=>?_⟩;rw[decide_eq_false E,q9]at e';exact c false _ _ _ e' rfl rfl
def idxG{α:Type}(q:α->Bool):List α->Nat->Int
 |[],_=>-1
 |x::r,n=>if q x=false then n else idxG q r (n+1)
theorem zld{α:Type}(q:α->Bool)(l:List α)(k:Nat)(h:k < l.length):idxG q (l.drop k) k=if q l[k]=false then(k:Int)else idxG q (l.drop (k+1)) (k+1):=by
 rw[jk h];rfl
theorem zuu{α:Type}(q:α->Bool):∀(l:List α) (n:Nat),(0<=idxG q l n)↔l.all q=false
 |[],n=>by simp[idxG]
 |x::r,n=>by
  simp only[idxG,qbq];split
  ·rename_i h;simp[h]
  ·rename_i h;have:q x=true:=by simpa using h
   rw[zuu q r (n+1),this];simp
theorem zut{α:Type}(q:α->Bool)(l:List α):(!decide (0<=idxG q l 0))=l.all q:=by
 have:=zuu q l 0;cases h:l.all q with
 |true=>
  rw[h]at this;have a:¬(0<=idxG q l 0):=fun b=>by have:=this.1 b;cases this
  rw[decide_eq_false a];rfl
 |false=>rw[h]at this;rw[decide_eq_true (this.2 rfl)];rfl
theorem al1N(F:Fz)(x:DLn)(a:Nat)(_:True)(c:F a=some (.cells 224 [.fn (.func 146) []])):Fo Tryz.prog F 214 [.agg (encN x),.va (.ptr (fp a))] (fun o b=>o=.ret (.va (.bool (!dlnOk x)))/\b=F):=by
 have d:=zz9 F x;refine foS Tryz.func214 ?_;refine⟨_,c,?_⟩;refine usePs d ?_;exact endPu rfl (Fz.r F) rfl rfl
theorem al2N(F:Fz)(Q:SA)(l:List DLn)(q:Nat)(T:Sl F 148 2 encN Q l)(hl:l.length < 1000000)(O:∀x∈l,True)(S:F q=some (.cells 224 [.fn (.func 146) []])):
  Fo Tryz.prog F 254 [.va Q,.va (.fn (.func 214) [fp q])] (fun o p=>o=.ret (.va (.int .i64 (idxG dlnOk l 0)))/\p=F):=by
 have f:∀(x:Int) (h:Hp) (nx:Nat),idxG dlnOk l 0=x->lget h 0=some (.frz F)->
   Cln 1 (FoK F fun o p=>o=.ret (.va (.int .i64 (idxG dlnOk l 0)))/\p=F) (.ret (.va (.int .i64 x))) h nx:=by
  intro x h nx hv R;exact endPu R (Fz.r F) (oi hv) rfl
 obtain⟨Y,V,D,W,B,Z,rfl,i,y,U,A⟩:=T;refine foS Tryz.func254 ?_;conv=>whnf
 refine zak hΘ (X:={ k:Nat // k<=l.length/\idxG dlnOk l 0=idxG dlnOk (l.drop k) k }) (fun k=>[(8,.va (.int .i64 k.1))]) (4::5::jr 9 10 []) (fz fun _=>F) 1 (fun k=>l.length - k.1) ⟨0,by simp⟩
  (fun u w=>le0 u w rfl (Fz.r F) rfl ⟨rfl,tv⟩) ?_
 rintro⟨k,M,c⟩ u w;replace M:k<=l.length:=M;replace c:idxG dlnOk l 0=idxG dlnOk (l.drop k) k:=c;by_cases g:k < l.length
 ·have K:(k:Int) < (l.length:Nat):=by omega
  have m:0<=(k:Int)/\(k:Int) < (l.length:Nat):=by omega
  have G:∃x,l[k]=x:=⟨_,rfl⟩
  obtain⟨x,d⟩:=G;have E:B[D+(k:Int).toNat]? =some (encN x):=by rw[<-d];exact Sl.at A g
  have L:=O _ (qw g)
  try rw[d]at L
  have a:=al1N F x q (trivial) S;rw[zld _ l k g,d]at c;have J:k+1<=l.length:=g;have j:l.length - (k+1) < l.length - k:=by omega
  have n:k < 4611686018427387904:=by omega
  have e:∃b,dlnOk x=b:=⟨_,rfl⟩
  obtain⟨b,e⟩:=e;rw[e]at c a;clear O L d;refine bri K ⟨Sl.lt i g,m,_,y (Sl.lt i g),_,E,?_⟩;refine usePs a ?_;rcases b with _ | _
  ·refine br (fun _=>?_) (fun s=>absurd s (by decide));exact f _ _ _ (c.trans (if_pos rfl)) rfl
  ·refine br (fun s=>absurd s (by decide)) (fun _=>?_);rw[if_neg (by decide)]at c;exact⟨⟨k+1,J,c⟩,j,lr0 u w rfl (Fz.r F) rfl ⟨cnt n,tv⟩⟩
 ·have I:¬(k:Int) < (l.length:Nat):=by omega
  rw[yf (by omega)]at c;refine brj I ?_;exact f _ _ _ c rfl
theorem al3N(F:Fz)(b:SA)(l:List DLn)(a:Nat)(c:Sl F 148 2 encN b l)(u:l.length < 1000000)(w:∀x∈l,True)(e:F a=some (.cells 224 [.fn (.func 146) []])):
  Fo Tryz.prog F 213 [.va b,.va (.fn (.func 214) [fp a])] (fun o d=>o=.ret (.va (.bool (decide (0<=idxG dlnOk l 0))))/\d=F):=by
 have h:=al2N F b l a c u w e;obtain⟨q,m,p,n,k,s,rfl,f,g,i,j⟩:=c;refine foS Tryz.func213 ?_;refine usePs h ?_;exact endPu rfl (Fz.r F) (ob rfl) rfl
theorem allN(F:Fz)(d:SA)(l:List DLn)(f:Sl F 148 2 encN d l)(B:l.length < 1000000)(D:∀x∈l,True):
  Fo Tryz.prog F 145 [.va d,.va (.fn (.func 146) [])] (fun o a=>o=.ret (.va (.bool (l.all dlnOk)))/\a=F):=by
 have h:=fun a (c:Fz.le F a) b=>al3N a d l b (f.mono c) B D
 have e:=zut dlnOk l;obtain⟨y,s,w,u,q,A,rfl,k,m,n,p⟩:=f;refine foS Tryz.func145 ?_;refine zat 1 (fun _=>.cells 224 [.fn (.func 146) []]) ?_;intro b i g j;refine usePs (h i g (b 0) (j 0 rfl)) ?_;exact endPu rfl g (ob e.symm) rfl
theorem al1K(F:Fz)(x:Cel)(a:Nat)(_:True)(c:F a=some (.cells 226 [.fn (.func 148) []])):Fo Tryz.prog F 219 [.agg (encK x),.va (.ptr (fp a))] (fun o b=>o=.ret (.va (.bool (!celOk x)))/\b=F):=by
 have d:=zz7 F x;refine foS Tryz.func219 ?_;refine⟨_,c,?_⟩;refine usePs d ?_;exact endPu rfl (Fz.r F) rfl rfl
theorem al2K(F:Fz)(Q:SA)(l:List Cel)(q:Nat)(T:Sl F 151 6 encK Q l)(hl:l.length < 1000000)(O:∀x∈l,True)(S:F q=some (.cells 226 [.fn (.func 148) []])):
  Fo Tryz.prog F 220 [.va Q,.va (.fn (.func 219) [fp q])] (fun o p=>o=.ret (.va (.int .i64 (idxG celOk l 0)))/\p=F):=by
 have f:∀(x:Int) (h:Hp) (nx:Nat),idxG celOk l 0=x->lget h 0=some (.frz F)->
   Cln 1 (FoK F fun o p=>o=.ret (.va (.int .i64 (idxG celOk l 0)))/\p=F) (.ret (.va (.int .i64 x))) h nx:=by
  intro x h nx hv R;exact endPu R (Fz.r F) (oi hv) rfl
 obtain⟨Y,V,D,W,B,Z,rfl,i,y,U,A⟩:=T;refine foS Tryz.func220 ?_;conv=>whnf
 refine zak hΘ (X:={ k:Nat // k<=l.length/\idxG celOk l 0=idxG celOk (l.drop k) k }) (fun k=>[(8,.va (.int .i64 k.1))]) (4::5::jr 9 10 []) (fz fun _=>F) 1 (fun k=>l.length - k.1) ⟨0,by simp⟩
  (fun u w=>le0 u w rfl (Fz.r F) rfl ⟨rfl,tv⟩) ?_
 rintro⟨k,M,c⟩ u w;replace M:k<=l.length:=M;replace c:idxG celOk l 0=idxG celOk (l.drop k) k:=c;by_cases g:k < l.length
 ·have K:(k:Int) < (l.length:Nat):=by omega
  have m:0<=(k:Int)/\(k:Int) < (l.length:Nat):=by omega
  have G:∃x,l[k]=x:=⟨_,rfl⟩
  obtain⟨x,d⟩:=G;have E:B[D+(k:Int).toNat]? =some (encK x):=by rw[<-d];exact Sl.at A g
  have L:=O _ (qw g)
  try rw[d]at L
  have a:=al1K F x q (trivial) S;rw[zld _ l k g,d]at c;have J:k+1<=l.length:=g;have j:l.length - (k+1) < l.length - k:=by omega
  have n:k < 4611686018427387904:=by omega
  have e:∃b,celOk x=b:=⟨_,rfl⟩
  obtain⟨b,e⟩:=e;rw[e]at c a;clear O L d;refine bri K ⟨Sl.lt i g,m,_,y (Sl.lt i g),_,E,?_⟩;refine usePs a ?_;rcases b with _ | _
  ·refine br (fun _=>?_) (fun s=>absurd s (by decide));exact f _ _ _ (c.trans (if_pos rfl)) rfl
  ·refine br (fun s=>absurd s (by decide)) (fun _=>?_);rw[if_neg (by decide)]at c;exact⟨⟨k+1,J,c⟩,j,lr0 u w rfl (Fz.r F) rfl ⟨cnt n,tv⟩⟩
 ·have I:¬(k:Int) < (l.length:Nat):=by omega
  rw[yf (by omega)]at c;refine brj I ?_;exact f _ _ _ c rfl
theorem al3K(F:Fz)(b:SA)(l:List Cel)(a:Nat)(c:Sl F 151 6 encK b l)(u:l.length < 1000000)(w:∀x∈l,True)(e:F a=some (.cells 226 [.fn (.func 148) []])):
  Fo Tryz.prog F 218 [.va b,.va (.fn (.func 219) [fp a])] (fun o d=>o=.ret (.va (.bool (decide (0<=idxG celOk l 0))))/\d=F):=by
 have h:=al2K F b l a c u w e;obtain⟨q,m,p,n,k,s,rfl,f,g,i,j⟩:=c;refine foS Tryz.func218 ?_;refine usePs h ?_;exact endPu rfl (Fz.r F) (ob rfl) rfl
theorem allK(F:Fz)(d:SA)(l:List Cel)(f:Sl F 151 6 encK d l)(B:l.length < 1000000)(D:∀x∈l,True):
  Fo Tryz.prog F 147 [.va d,.va (.fn (.func 148) [])] (fun o a=>o=.ret (.va (.bool (l.all celOk)))/\a=F):=by
 have h:=fun a (c:Fz.le F a) b=>al3K a d l b (f.mono c) B D
 have e:=zut celOk l;obtain⟨y,s,w,u,q,A,rfl,k,m,n,p⟩:=f;refine foS Tryz.func147 ?_;refine zat 1 (fun _=>.cells 226 [.fn (.func 148) []]) ?_;intro b i g j;refine usePs (h i g (b 0) (j 0 rfl)) ?_;exact endPu rfl g (ob e.symm) rfl
def ltC(a b:Cel):Bool:=decide (a.row < b.row)||(decide (a.row=b.row)&&decide (a.col < b.col))
def ascF:List Cel->Bool
 |a::b::r=>ltC a b&&ascF (b::r)
 |_=>true
theorem zky:∀(l:List Cel) (a b:Cel),ascF (l++[a,b])=(ascF (l++[a])&&ltC a b)
 |[],a,b=>by simp[ascF]
 |[x],a,b=>by simp[ascF]
 |x::y::r,a,b=>by
  have ih:=zky (y::r) a b;show(ltC x y&&ascF ((y::r)++[a,b]))=((ltC x y&&ascF ((y::r)++[a]))&&ltC a b);rw[ih,Bool.and_assoc]
theorem zyi{l:List Cel}{k:Nat}(h1:1<=k)(g:k < l.length){a b:Cel}(c:l[k - 1]=a)(hb:l[k]=b):ascF (l.take (k+1))=(ascF (l.take k)&&ltC a b):=by
 obtain⟨m,rfl⟩:∃m,k=m+1:=⟨k - 1,by omega⟩
 rw[qf g,qf (show m < l.length by omega),qp,hb];have e:l[m]=a:=c;rw[e];exact zky _ _ _
structure Dc where
 lines:List DLn
 cells:List Cel
 w:Int
 bits:List UInt8
def docOk(d:Dc):Bool:=((((decide (d.lines.length<=64)&&decide (d.cells.length<=64))&&ascF d.cells)&&d.lines.all dlnOk)&&d.cells.all celOk)&&rasOk d.w d.bits
def docE(a b:SA)(w:Int)(s:List UInt8):Ent:=.one (.cells 41 (docS a b w s))
theorem zep{n:Nat}{a b:SA}{w:Int}{s:List UInt8}(d:a.below n)(hb:b.below n):(docE a b w s).below n:=by
 show∀x∈_,SA.below n x;intro x c;simp only[qn,qy,or_false]at c;rcases c with rfl | rfl | rfl | rfl
 ·exact d
 ·exact hb
 ·trivial
 ·trivial
theorem zd9(F:Fz)(sa sb:SA)(d:Dc)(S:Sl F 148 2 encN sa d.lines)(hb:Sl F 151 6 encK sb d.cells)(hl:d.lines.length<=1000)(hc:d.cells.length<=1000)(hs:d.bits.length<=70000):
  Fo Tryz.prog F 85 [.agg (docS sa sb d.w d.bits)] (fun o F'=>o=.ret (.va (.bool (docOk d)))/\F'=F):=by
 obtain⟨L,K,w,s⟩:=d;replace S:Sl F 148 2 encN sa L:=S;replace hb:Sl F 151 6 encK sb K:=hb;replace hl:L.length<=1000:=hl;replace hc:K.length<=1000:=hc;have aL:=allN F sa L S (by omega) (fun _ _=>trivial);have aK:=allK F sb K hb (by omega) (fun _ _=>trivial);obtain⟨W,T,V,U,ap,aq,rfl,al,am,an,ao⟩:=S;obtain⟨ae,ab,A,ad,p,av,rfl,u,aa,au,hb4⟩:=hb;have iR:=zsx F (.slice W 0 T V 2 L.length U) (.slice ae 0 ab A 6 K.length ad) w s hs rfl rfl
 have n:∀(z:Bool) (a:SA) (h:Hp) (nx:Nat),docOk ⟨L,K,w,s⟩=z->atomE (.bool z) (a.ren (resP h))->lget h 0=some (.frz F)->Cln 1 (FoK F fun o F'=>o=.ret (.va (.bool (docOk ⟨L,K,w,s⟩)))/\F'=F) (.ret (.va a)) h nx:=by
  intro z a h nx hz S h0;subst hz;exact endPu h0 (Fz.r F) S rfl
 have E:ascF (K.take 1)=true:=by
  cases K with
  |nil=>rfl
  |cons x r=>rfl
 refine foS Tryz.func85 ?_;conv=>whnf
 refine zak hΘ (X:={ y:Nat×Bool // 1<=y.1/\(y.1=1\/y.1<=K.length)/\y.2=ascF (K.take y.1) }) (fun y=>[(3,.va (.bool y.1.2)),(4,.va (.int .i64 y.1.1))]) (jr 5 42 [])
  (fun _=>[(0,.frz F),(1,docE (.slice W 0 T V 2 L.length U) (.slice ae 0 ab A 6 K.length ad) w s)]) 2 (fun y=>K.length - y.1.1) ⟨(1,true),by omega,by omega,E.symm⟩
  (fun Q R=>leI [] Q R rfl ⟨tv,zep (.inr (by omega)) (.inr (by omega)),tv⟩ ⟨rfl,rfl,tv⟩ ⟨Fz.r F,rfl,tv⟩) ?_
 rintro⟨⟨k,asc⟩,G,hk,f⟩ Q R;replace G:1<=k:=G;replace hk:k=1\/k<=K.length:=hk;replace f:asc=ascF (K.take k):=f;by_cases g:k < K.length
 ·have g0:k < K.length:=g;have gp:k - 1 < K.length:=by omega
  have aj:(k:Int) < (K.length:Nat):=by omega
  have af:∃a b,K[k - 1]=a/\K[k]=b:=⟨_,_,rfl,rfl⟩
  obtain⟨a,b,I,J⟩:=af
  have Y:p[A+(IntKind.i64.wrap ((k:Int) - 1)).toNat]? =some (encK a):=by
   rw[zah (by omega) (by omega),show((k:Int) - 1).toNat=((k - 1:Nat):Int).toNat by omega,<-I];exact Sl.at hb4 gp
  have Z:p[A+(k:Int).toNat]? =some (encK b):=by rw[<-J];exact Sl.at hb4 g
  have ah:0<=IntKind.i64.wrap ((k:Int) - 1)/\IntKind.i64.wrap ((k:Int) - 1) < (K.length:Nat):=by rw[zah (by omega) (by omega)];omega
  have ai:0<=(k:Int)/\(k:Int) < (K.length:Nat):=by omega
  have j:=zyi G g I J;rw[<-f]at j;have i:1<=k+1/\(k+1=1\/k+1<=K.length):=by omega
  have l:K.length - (k+1) < K.length - k:=by omega
  have m:k < 4611686018427387904:=by omega
  obtain⟨ar,ac,a2,a3,a4,a5⟩:=a;obtain⟨q,bc,b2,b3,b4,b5⟩:=b;replace j:ascF (K.take (k+1))=(asc&&(decide (ar < q)||(decide (ar=q)&&decide (ac < bc)))):=j;clear f I J;refine bri aj ?_;refine dwS (lk [0,1,2,3,4,5,6,7,8,9,10] (.alt 11 (.alt 12 (.alt 13 (.last 14 .done) .nil) .nil) (.alt 12 (.alt 11 (.alt 13 (.last 14 .done) .nil) .nil) .nil))) [1] ?_;refine⟨rfl,Sl.lt u g0,ah,rfl,_,aa (Sl.lt u g0),_,Y,rfl,Sl.lt u g0,ai,rfl,_,aa (Sl.lt u g0),_,Z,?_,?_⟩
  all_goals
   refine⟨Fz.r F,rfl,Fz.r F,rfl,Fz.r F,rfl,?_⟩;rcases asc with _ | _
   ·refine⟨fun c=>absurd c (by show¬false=true;decide),fun _=>?_⟩;exact⟨⟨(k+1,false),i.1,i.2,by rw[j];rfl⟩,l,leR [] Q R rfl ⟨tv,zep (.inr (by omega)) (.inr (by omega)),tv⟩ ⟨rfl,cnt m,tv⟩ ⟨Fz.r F,rfl,tv⟩⟩
   ·refine⟨fun _=>?_,fun c=>absurd c (by show¬true=false;decide)⟩;conv=>whnf
    by_cases h1:ar < q
    ·refine⟨fun c=>absurd h1 (oe c),fun _=>?_⟩;exact⟨⟨(k+1,true),i.1,i.2,by rw[j,decide_eq_true h1];rfl⟩,l,leR [] Q R rfl ⟨tv,zep (.inr (by omega)) (.inr (by omega)),tv⟩ ⟨rfl,cnt m,tv⟩ ⟨Fz.r F,rfl,tv⟩⟩
    ·refine⟨fun _=>?_,fun c=>absurd (od c) h1⟩;conv=>whnf
     by_cases h2:ar=q
     ·refine⟨fun _=>?_,fun c=>absurd h2 (oe c)⟩;exact⟨⟨(k+1,decide (ac < bc)),i.1,i.2,by rw[j,decide_eq_false h1,decide_eq_true h2];simp⟩,l,leR [] Q R rfl ⟨tv,zep (.inr (by omega)) (.inr (by omega)),tv⟩ ⟨rfl,cnt m,tv⟩ ⟨Fz.r F,rfl,tv⟩⟩
     ·refine⟨fun c=>absurd (od c) h2,fun _=>?_⟩;exact⟨⟨(k+1,false),i.1,i.2,by rw[j,decide_eq_false h1,decide_eq_false h2];rfl⟩,l,leR [] Q R rfl ⟨tv,zep (.inr (by omega)) (.inr (by omega)),tv⟩ ⟨rfl,cnt m,tv⟩ ⟨Fz.r F,rfl,tv⟩⟩
 ·have ag:¬(k:Int) < (K.length:Nat):=by omega
  have B:asc=ascF K:=by
   rw[f,qh (by omega)]
  have e:docOk ⟨L,K,w,s⟩=(((((decide (L.length<=64)&&decide (K.length<=64))&&asc)&&L.all dlnOk)&&K.all celOk)&&rasOk w s):=by rw[B];rfl
  clear f B;have ak:∃bL bK,L.all dlnOk=bL/\K.all celOk=bK:=⟨_,_,rfl,rfl⟩
  obtain⟨bL,bK,p,D⟩:=ak;rw[p,D]at e;rw[p]at aL;rw[D]at aK;clear p D;refine brj ag ?_;conv=>whnf
  by_cases l1:L.length<=64
  ·have M:(L.length:Int)<=64:=by omega
   rw[decide_eq_true l1,yq]at e;refine⟨fun _=>?_,fun c=>absurd M (oe c)⟩;conv=>whnf
   by_cases l2:K.length<=64
   ·have O:(K.length:Int)<=64:=by omega
    rw[decide_eq_true l2,yq]at e;refine⟨fun _=>?_,fun c=>absurd O (oe c)⟩;conv=>whnf
    rcases asc with _ | _
    ·refine⟨fun c=>absurd c (by show¬false=true;decide),fun _=>?_⟩;exact n false _ _ _ e rfl rfl
    ·refine⟨fun _=>?_,fun c=>absurd c (by show¬true=false;decide)⟩;refine usePt aL ?_;rcases bL with _ | _
     ·refine⟨fun c=>absurd c (by decide),fun _=>?_⟩;exact n false _ _ _ e rfl rfl
     ·refine⟨fun _=>?_,fun c=>absurd c (by decide)⟩;refine usePt aK ?_;rcases bK with _ | _
      ·refine⟨fun c=>absurd c (by decide),fun _=>?_⟩;exact n false _ _ _ e rfl rfl
      ·refine⟨fun _=>?_,fun c=>absurd c (by decide)⟩;refine usePt iR ?_;exact n _ _ _ _ e rfl rfl
   ·have O:¬(K.length:Int)<=64:=by omega
    rw[decide_eq_false l2]at e;refine⟨fun c=>absurd (od c) O,fun _=>?_⟩;exact n false _ _ _ (by rw[e];simp) rfl rfl
  ·have M:¬(L.length:Int)<=64:=by omega
   rw[decide_eq_false l1]at e;refine⟨fun c=>absurd (od c) M,fun _=>?_⟩;exact n false _ _ _ (by rw[e];simp) rfl rfl
def ze6(n:Int):Int:=if 1000000000000 < (if -1000000000000>n then -1000000000000 else n)then 1000000000000 else(if -1000000000000>n then -1000000000000 else n)
def zqh(c e:Cel):Bool:=inR e.row c.top c.row&&inR e.col c.left c.col
def sumF(c:Cel):List (Cel×Int)->Int->Int
 |[],n=>n
 |(e,v)::r,n=>sumF c r (if zqh c e=true then IntKind.i64.wrap (n+v)else n)
theorem zr2(c:Cel):∀(l:List (Cel×Int)) (e:Cel) (v n:Int),sumF c (l++[(e,v)]) n=if zqh c e=true then IntKind.i64.wrap (sumF c l n+v)else sumF c l n
 |[],_,_,_=>rfl
 |(_,_)::r,e,v,_=>zr2 c r e v _
def valF(done:List Cel)(o:List Int)(c:Cel):Int:=ze6 (if c.sum=true then sumF c (done.zip o) c.value else c.value)
def valsA:List Cel->List Cel->List Int->List Int
 |[],_,o=>o
 |c::r,done,o=>valsA r (done++[c]) (o++[valF done o c])
def valsF(l:List Cel):List Int:=valsA l [] []
theorem zx1{l:List Cel}{k:Nat}{o:List Int}{c:Cel}(g:k < l.length)(a:l[k]=c):valsA (l.drop k) (l.take k) o=valsA (l.drop (k+1)) (l.take (k+1)) (o++[valF (l.take k) o c]):=by
 rw[jk g,qf g,a];rfl
theorem z8h{l:List Cel}{o:List Int}{k j:Nat}{e:Cel}{v:Int}(h:k<=l.length)(d:o.length=k)(c:j < k)(b:l[j]? =some e)(f:o[j]? =some v):
  ((l.take k).zip o).take (j+1)=((l.take k).zip o).take j++[(e,v)]:=by
 have g:((l.take k).zip o).length=k:=by rw[qbo,qo,d];omega
 rw[qf (by rw[g];exact c),qc8]
 have h1:(l.take k)[j]'(by rw[qo];omega)=e:=by
  rw[List.getElem_take];exact(ql.1 b).2
 have a:o[j]'(by omega)=v:=(ql.1 f).2;rw[h1,a]
def docE4(a b:SA)(w:Int)(s:List UInt8):Ent:=.one (.cells 176 (docS a b w s))
theorem zb4{n:Nat}{a b:SA}{w:Int}{s:List UInt8}(c:a.below n)(hb:b.below n):(docE4 a b w s).below n:=zep (w:=w) (s:=s) c hb
def celE(c:Cel):Ent:=.one (.cells 151 (encK c))
theorem zhl{n:Nat}(c:Cel):(celE c).below n:=(SB.bB_ok rfl:SB.below n (.cells 151 (encK c)))
theorem ydn{F a:Fz}{o:List Int}{co b:Nat}{h:Hp}{nx:Nat}(d:Fz.le F a)(hb:a b=some (.arr 3 1 (o.map encI) co))(e:lget h 0=some (.frz a)){K:List Cel}(g:valsF K=o){u:Out}(f:u.ren (resP h)=.ret (.va (.slice false 0 b 0 1 o.length co))):
  Cln 1 (FoK F fun o a=>∃r,o=.ret (.va r)/\((K=[]/\r=.nilsl)\/(ze5 a r (valsF K)/\∃b c,r=.slice false 0 b 0 1 (valsF K).length c))) u h nx:=by
 subst g;exact endFo (.ret (.va (.slice false 0 b 0 1 (valsF K).length co))) a e d (Fz.r a) ⟨_,rfl,.inr ⟨Sl.new (l:=valsF K) hb,_,_,rfl⟩⟩ (by rw[f];exact zal _) rfl
theorem z3n(F:Fz)(an:Bool)(ab ae al ac:Nat)(bn:Bool)(bb u E:Nat)(K:List Cel)(w:Int)(s:List UInt8)(hb:Sl F 151 6 encK (.slice bn 0 bb u 6 K.length E) K)(hl:K.length<=1000)(a3:K.length<=E):
  Fo Tryz.prog F 166 [.agg (docS (.slice an 0 ab ae 2 al ac) (.slice bn 0 bb u 6 K.length E) w s)] (fun o F'=>∃r,o=.ret (.va r)/\((K=[]/\r=.nilsl)\/(ze5 F' r (valsF K)/\∃b c,r=.slice false 0 b 0 1 (valsF K).length c))):=by
 obtain⟨a8,a5,a7,a6,aa,a9,aq,A,Z,a4,hb4⟩:=hb;cases aq
 refine foS Tryz.func166 ?_;conv=>whnf
 refine zak hΘ (X:={ y:Nat×List Int×Nat // y.1<=K.length/\y.2.1.length=y.1/\valsF K=valsA (K.drop y.1) (K.take y.1) y.2.1 }) (fun y=>[(3,.va (gA 1 2 y.1.2.2 y.1.2.1)),(13,.va (.int .i64 y.1.1))]) (4::5::6::7::8::jr 14 49 [])
  (fun y=>[(0,.frz F),(1,docE4 (.slice an 0 ab ae 2 al ac) (.slice bn 0 bb u 6 K.length E) w s),(2,gE 3 1 encI y.1.2.2 y.1.2.1)]) 3 (fun y=>K.length - y.1.1) ⟨(0,[],0),yh _,rfl,rfl⟩
  (fun G I=>leI [(2,2)] G I rfl ⟨tv,zb4 (.inr (by omega)) (.inr (by omega)),zab za1 _ _ _ _ _,tv⟩ ⟨rfl,rfl,tv⟩ ⟨Fz.r F,rfl,rfl,tv⟩) ?_
 rintro⟨⟨k,o,co⟩,hk,q,d⟩ G I;replace hk:k<=K.length:=hk;replace q:o.length=k:=q;replace d:valsF K=valsA (K.drop k) (K.take k) o:=d;by_cases g:k < K.length
 ·have az:(k:Int) < (K.length:Nat):=by omega
  have aj:0<=(k:Int)/\(k:Int) < (K.length:Nat):=by omega
  have ar:∃c,K[k]=c:=⟨_,rfl⟩
  obtain⟨c,hc⟩:=ar;have ao:aa[u+(k:Int).toNat]? =some (encK c):=by rw[<-hc];exact Sl.at hb4 g
  rw[zx1 g hc]at d;have B:k+1<=K.length:=g;have f:K.length - (k+1) < K.length - k:=by omega
  have h:k < 4611686018427387904:=by omega
  refine bri az ⟨Sl.lt A g,aj,_,Z (Sl.lt A g),_,ao,?_⟩;conv=>whnf
  by_cases hs:c.sum=true
  ·refine br (fun _=>?_) (fun g2=>absurd hs (by rw[g2];simp));have W:valF (K.take k) o c=ze6 (sumF c ((K.take k).zip o) c.value):=by rw[valF,if_pos hs]
   have ad:0<=(k:Int)/\(k:Int)<=(E:Nat):=by omega
   refine⟨ad,?_⟩;conv=>whnf
   refine zak hΘ (X:={ y:Nat×Int // y.1<=k/\y.2=sumF c (((K.take k).zip o).take y.1) c.value }) (fun y=>[(6,.va (.int .i64 y.1.2)),(28,.va (.int .i64 y.1.1))]) (7::8::jr 29 27 [])
    (fun _=>[(0,.frz F),(1,docE4 (.slice an 0 ab ae 2 al ac) (.slice bn 0 bb u 6 K.length E) w s),(2,gE 3 1 encI co o),(3,celE c)]) 4 (fun y=>k - y.1.1) ⟨(0,c.value),yh _,rfl⟩
    (fun G I=>leI [] G I rfl ⟨tv,zb4 (.inr (by omega)) (.inr (by omega)),zab za1 _ _ _ _ _,zhl _,tv⟩ ⟨rfl,rfl,tv⟩ ⟨Fz.r F,rfl,zaj za1 (zao _ _ _ _),rfl,tv⟩) ?_
   rintro⟨⟨j,n⟩,hj,hn⟩ M Q;replace hj:j<=k:=hj;replace hn:n=sumF c (((K.take k).zip o).take j) c.value:=hn;by_cases gj:j < k
   ·have ay:(j:Int) < (k:Nat):=by omega
    have au:0<=(j:Int)/\(j:Int) < (k:Nat):=by omega
    have x:j < K.length:=by omega
    have L:j < o.length:=by omega
    have af:∃e v,K[j]=e/\o[j]=v:=⟨_,_,rfl,rfl⟩
    obtain⟨e,v,O,U⟩:=af
    have Y:aa[(if E=0 then u else u+0)+(j:Int).toNat]? =some (encK e):=by
     rw[<-O,show(if E=0 then u else u+0)=u by split<;>rfl];exact Sl.at hb4 x
    have a0:(o.map encI)[0+(j:Int).toNat]? =some (encI v):=by rw[qx,qk,qt,qa L,U];rfl
    have am:=z8h (e:=e) (v:=v) hk q gj (by rw[qa x,O]) (by rw[qa L,U])
    have D:sumF c (((K.take k).zip o).take (j+1)) c.value=if zqh c e=true then IntKind.i64.wrap (n+v)else n:=by
     rw[am,zr2,<-hn]
    have av:0<=(j:Int)/\(j:Int) < (o.length:Nat):=by omega
    have a1:∃b1 b2,inR e.row c.top c.row=b1/\inR e.col c.left c.col=b2:=⟨_,_,rfl,rfl⟩
    obtain⟨b1,b2,l,m⟩:=a1;have w1:=zex l F;have w2:=zex m F;have ai:zqh c e=(b1&&b2):=by unfold zqh;rw[l,m]
    rw[ai]at D;have T:j+1<=k:=gj;have S:k - (j+1) < k - j:=by omega
    have p:j < 4611686018427387904:=by omega
    clear am O U l m ai;rcases o with _ | ⟨J,a⟩
    ·exact absurd L (by simp)
    ·refine bri ay ⟨Sl.lt A x,au,_,Z (Sl.lt A x),_,Y,?_⟩;refine usePt w1 ?_;rcases b1 with _ | _
     ·exact⟨⟨(j+1,n),T,by rw[D];rfl⟩,S,leR [] M Q rfl ⟨tv,zb4 (.inr (by omega)) (.inr (by omega)),zab za1 _ _ _ _ _,zhl _,tv⟩ ⟨rfl,cnt p,tv⟩ ⟨Fz.r F,rfl,zaj za1 (zao _ _ _ _),rfl,tv⟩⟩
     ·refine usePt w2 ?_;rcases b2 with _ | _
      ·exact⟨⟨(j+1,n),T,by rw[D];rfl⟩,S,leR [] M Q rfl ⟨tv,zb4 (.inr (by omega)) (.inr (by omega)),zab za1 _ _ _ _ _,zhl _,tv⟩ ⟨rfl,cnt p,tv⟩ ⟨Fz.r F,rfl,zaj za1 (zao _ _ _ _),rfl,tv⟩⟩
      ·refine⟨rfl,av,rfl,_,a0,?_⟩;exact⟨⟨(j+1,IntKind.i64.wrap (n+v)),T,by rw[D];rfl⟩,S,leR [] M Q rfl ⟨tv,zb4 (.inr (by omega)) (.inr (by omega)),zab za1 _ _ _ _ _,zhl _,tv⟩ ⟨rfl,cnt p,tv⟩ ⟨Fz.r F,rfl,zaj za1 (zao _ _ _ _),rfl,tv⟩⟩
   ·have ah:¬(j:Int) < (k:Nat):=by omega
    have aw:j=k:=by omega
    have a2:((K.take k).zip o).length=k:=by rw[qbo,qo,q];omega
    rw[aw,qh (qaa a2)]at hn;rw[<-hn]at W;rcases o with _ | ⟨J,a⟩
    ·refine brj ah ⟨nb rfl,[encI (ze6 (n))],rfl,rfl,rfl,by show 1*8<=140737488355328;omega,fun c' R=>?_⟩;exact⟨⟨(k+1,([])++[ze6 (n)],c'),B,by rw[qd,jv,q],by rw[W]at d;exact d⟩,f,leRn [_,_,_] [_,_] [(2,5)] G I rfl ⟨tv,zb4 (.inr (by omega)) (.inr (by omega)),zab za1 _ _ _ _ _,tv⟩ ⟨by(conv=>whnf);exact⟨rfl,rfl,rfl,.inr ⟨rfl,rfl,rfl,rfl⟩⟩,cnt h,tv⟩ ⟨Fz.r F,rfl,zaj za1 (za3 _ (by simp)),tv⟩⟩
    ·have V:(a.length+1+1)*8<=140737488355328:=by
      have h9:a.length+1=k:=q;omega
     refine brj ah ⟨nb rfl,[encI (ze6 (n))],rfl,rfl,rfl,by simp,rfl,V,fun c' R=>?_⟩;exact⟨⟨(k+1,(J::a)++[ze6 (n)],c'),B,by rw[qd,jv,q],by rw[W]at d;exact d⟩,f,leRn [_,_,_] [_,_] [(2,5)] G I rfl ⟨tv,zb4 (.inr (by omega)) (.inr (by omega)),zab za1 _ _ _ _ _,tv⟩ ⟨zdh (μ:=sig [(2,5)]) (i:=2) (j:=5) rfl 1 c' _ (J::a) (ze6 n) rfl,cnt h,tv⟩ ⟨Fz.r F,rfl,zaj za1 (za3 _ (by simp)),tv⟩⟩
  ·refine br (fun g2=>absurd g2 hs) (fun _=>?_);have W:valF (K.take k) o c=ze6 c.value:=by rw[valF,if_neg hs]
   rcases o with _ | ⟨J,a⟩
   ·refine⟨nb rfl,[encI (ze6 (c.value))],rfl,rfl,rfl,by show 1*8<=140737488355328;omega,fun c' R=>?_⟩;exact⟨⟨(k+1,([])++[ze6 (c.value)],c'),B,by rw[qd,jv,q],by rw[W]at d;exact d⟩,f,leR [(2,5)] G I rfl ⟨tv,zb4 (.inr (by omega)) (.inr (by omega)),zab za1 _ _ _ _ _,tv⟩ ⟨by(conv=>whnf);exact⟨rfl,rfl,rfl,.inr ⟨rfl,rfl,rfl,rfl⟩⟩,cnt h,tv⟩ ⟨Fz.r F,rfl,zaj za1 (za3 _ (by simp)),tv⟩⟩
   ·have V:(a.length+1+1)*8<=140737488355328:=by
     have h9:a.length+1=k:=q;omega
    refine⟨nb rfl,[encI (ze6 (c.value))],rfl,rfl,rfl,by simp,rfl,V,fun c' R=>?_⟩;exact⟨⟨(k+1,(J::a)++[ze6 (c.value)],c'),B,by rw[qd,jv,q],by rw[W]at d;exact d⟩,f,leR [(2,5)] G I rfl ⟨tv,zb4 (.inr (by omega)) (.inr (by omega)),zab za1 _ _ _ _ _,tv⟩ ⟨zdh (μ:=sig [(2,5)]) (i:=2) (j:=5) rfl 1 c' _ (J::a) (ze6 c.value) rfl,cnt h,tv⟩ ⟨Fz.r F,rfl,zaj za1 (za3 _ (by simp)),tv⟩⟩
 ·have ag:¬(k:Int) < (K.length:Nat):=by omega
  have ak:k=K.length:=by omega
  rw[ak,yf (qi _)]at d;replace d:valsF K=o:=d;rcases o with _ | ⟨J,a⟩
  ·have hK:K=[]:=yw (by rw[<-ak,<-q];rfl);refine brj ag ?_;exact endFs (.ret (.va .nilsl)) (Fz.r F) ⟨_,rfl,.inl ⟨hK,rfl⟩⟩
  ·refine brj ag ?_;refine zck 2 (fun _=>.arr 3 1 ((J::a).map encI) co) rfl rfl rfl (fun _ _=>by exact zcy za1 rfl _ _ _ _) (fun _ _=>zbj za1 _ _ _ _ _) ?_;intro b' F' ax ap;exact ydn ax (ap 0 ⟨rfl,rfl⟩) rfl d rfl
