import Derived.Test.YtfnkamphhpldcaaGreatDoorK14
set_option maxHeartbeats 64000000
namespace Go.Proofs.YtfnkamphhpldcaaGreatDoor
open Go Sx Tryz
set_option maxRecDepth 100000
def encB(b:UInt8):List SA:=[.int .u8 b.toNat]
theorem aB:Plain encB:=fun x=>⟨fun _=>rfl,fun a b=>by simp only[encB,qs]at b;subst b;trivial⟩
def putZ(z:Nat):List UInt8:=if z < 128 then [UInt8.ofNat z]else UInt8.ofNat (z % 128+128)::putZ (z / 128)
termination_by z
decreasing_by omega
variable {z:Nat}
theorem fj(h:z < 128):putZ z=[UInt8.ofNat z]:=by rw[putZ,if_pos h]
theorem fT(h:¬z < 128):putZ z=UInt8.ofNat (z % 128+128)::putZ (z / 128):=by rw[putZ,if_neg h]
def cO(n:Int):Nat:=if n < 0 then((-n)*2 - 1).toNat else(n*2).toNat
def putI(n:Int):List UInt8:=putZ (cO n)
def putIR(n:Int):List UInt8×Int:=if n < -4611686018427387903\/4611686018427387903 < n then([],10)else(putI n,0)
def putSR(s:List UInt8):List UInt8×Int:=if 65536 < s.length then([],10)else(putI s.length++s,0)
theorem eo{n:Int}(h1:0<=n)(a:n<=18446744073709551615):IntKind.u64.wrap n=n:=IntWalk.u64_in _ ⟨h1,a⟩
theorem sH{n:Int}(h1:0<=n)(a:n<=255):IntKind.u8.wrap n=n:=IntWalk.u8_in _ ⟨h1,a⟩
theorem Ak(n:Int)(h:-4611686018427387903<=n/\n<=4611686018427387903):Pu prog 140 [.va (.int .i64 n)] (.va (.int .u64 (cO n))):=by
 intro F;refine foS func140 ?_;refine br (fun g=>?_) (fun g=>?_)
 ·have a:n < 0:=by simpa using g
  refine endPu rfl (Fz.r F) (oi ?_) rfl;rw[aI (n:=0 - n) oo oo,eo (n:=0 - n) oo oo,eo (n:=(0 - n)*2) oo oo,eo oo oo,cO,if_pos a];omega
 ·have a:¬n < 0:=by simpa using g
  refine endPu rfl (Fz.r F) (oi ?_) rfl;rw[eo (n:=n) oo oo,eo oo oo,cO,if_neg a];omega
theorem nJ(n:Int)(h:-4611686018427387903<=n/\n<=4611686018427387903):cO n < 9223372036854775808:=by
 unfold cO;split<;>omega
theorem pD(m:Nat)(h:m < 256):SA.int .u8 (IntKind.u8.wrap (m:Int))=SA.int .u8 ((UInt8.ofNat m).toNat:Int):=by
 rw[sH oo oo];simp[ju h]
variable {m:Nat}
theorem few7{len:Nat}(h1:1<=z)(h:z*128^len<=m)(d:m < 9223372036854775808):len < 10:=by
 apply Classical.byContradiction;intro c;have a:128^10<=128^len:=qau oo oo;have b:1*128^len<=z*128^len:=qat _ h1;omega
theorem next7{len:Nat}(h:z*128^len<=m):z / 128*128^(len+1)<=m:=by
 have h1:z / 128*128^(len+1)=(z / 128*128)*128^len:=by rw[qbx,qar (128^len) 128,qb5]
 have a:z / 128*128<=z:=qdz z 128;rw[h1];exact q8 (qat _ a) h
theorem ip(F:Fz)(n:Int):Fo prog F 81 [.va (.int .i64 n)] (fun o J=>o=.ret (.tup [.va (.str (putIR n).1),.va (.int .i64 (putIR n).2)])/\J=F):=by
 have k:n < -4611686018427387903\/4611686018427387903 < n->putIR n=([],10):=fun h=>by rw[putIR,if_pos h]
 refine foS func81 ?_;refine⟨fun g=>?_,fun g=>?_⟩
 ·have B:¬n < -4611686018427387903:=by simpa using g
  refine br (fun g=>?_) (fun g=>?_)
  ·have D:4611686018427387903 < n:=by simpa using g
   exact endFs (.ret (.tup [.va (.str []),.va (.int .i64 10)])) (Fz.r F) ⟨by rw[k (.inr D)],rfl⟩
  ·have D:¬4611686018427387903 < n:=by simpa using g
   have E:-4611686018427387903<=n/\n<=4611686018427387903:=by omega
   have I:=nJ n E;have e:putIR n=(putZ (cO n),0):=by rw[putIR,if_neg oo,putI]
   refine usePs (Ak n E F) ?_;conv=>whnf
   refine aH hΘ (X:={ x:Nat×List UInt8×Nat // x.1 < 9223372036854775808/\putZ (cO n)=x.2.1++putZ x.1/\x.1*128^x.2.1.length<=cO n/\x.2.1.length<=10 }) (fun x=>[(4,.va (.int .u64 x.1.1)),(5,.va (gA 1 1 x.1.2.2 x.1.2.1))]) (jr 14 11 [])
    (fun x=>[(0,.frz F),(1,gE 5 1 encB x.1.2.2 x.1.2.1)]) 2 (fun x=>x.1.1) ⟨(cO n,[],0),I,rfl,by show cO n*128^0<=cO n;omega,by simp⟩
    (fun u w=>leI [(1,1)] u w rfl ⟨tv,aF aB _ _ _ _ _,tv⟩ ⟨rfl,rfl,tv⟩ ⟨Fz.r F,rfl,tv⟩) ?_
   rintro⟨⟨z,out,c⟩,s,a,b,d⟩ u w;replace d:out.length<=10:=d;replace s:z < 9223372036854775808:=s;replace a:putZ (cO n)=out++putZ z:=a;replace b:z*128^out.length<=cO n:=b;refine br (fun l=>?_) (fun l=>?_)
   ·have y:¬z < 128:=by
     have K:(128:Int)<=z:=by simpa using l
     omega
    clear l;have f:=few7 oo b I;have q:z / 128*128^(out++[UInt8.ofNat (z % 128+128)]).length<=cO n:=by rw[qb];exact next7 b
    have p:putZ (cO n)=(out++[UInt8.ofNat (z % 128+128)])++putZ (z / 128):=by rw[a,fT y,qj];rfl
    have m:SA.int .u8 (IntKind.u8.wrap (IntKind.u64.wrap ((z:Int).tmod 128+128)))=SA.int .u8 ((UInt8.ofNat (z % 128+128)).toNat:Int):=by
     have h1:(z:Int).tmod 128=((z % 128:Nat):Int):=rfl;rw[h1,eo oo oo];exact pD (z % 128+128) oo
    have G:IntKind.u64.wrap ((z:Int).tdiv 128)=((z / 128:Nat):Int):=by
     have h1:(z:Int).tdiv 128=((z / 128:Nat):Int):=rfl;rw[h1,eo oo oo]
    have L:([]++[UInt8.ofNat (z % 128+128)]:List UInt8).length=1:=rfl;rcases out with _ | ⟨x,r⟩
    ·refine⟨by decide,nb rfl,[encB (UInt8.ofNat (z % 128+128))],by show[[SA.int .u8 _]]=_;rw[m];rfl,rfl,rfl,nb rfl,fun c' A=>?_⟩;refine⟨by decide,?_⟩
     exact⟨⟨(z / 128,[]++[UInt8.ofNat (z % 128+128)],c'),by show z / 128 < 9223372036854775808;omega,p,q,by simp<;>omega⟩,by show z / 128 < z;omega,
      leR [(1,3)] u w rfl ⟨tv,aF aB _ _ _ _ _,tv⟩ ⟨by show SA.int .u64 _=SA.int .u64 _;rw[G],ed (μ:=sig [(1,3)]) (i:=1) (j:=3) rfl 1 c' _ [] (UInt8.ofNat (z % 128+128)) rfl,tv⟩ ⟨Fz.r F,aQ aB (aZ [encB (UInt8.ofNat (z % 128+128))] rfl),tv⟩⟩
    ·replace f:r.length+1 < 10:=f;refine⟨by decide,nb rfl,[encB (UInt8.ofNat (z % 128+128))],by show[[SA.int .u8 _]]=_;rw[m];rfl,rfl,rfl,by simp,rfl,by show(r.length+1+1)*1<=140737488355328;omega,fun c' A=>?_⟩;refine⟨by decide,?_⟩
     exact⟨⟨(z / 128,(x::r)++[UInt8.ofNat (z % 128+128)],c'),by show z / 128 < 9223372036854775808;omega,p,q,by simp<;>omega⟩,by show z / 128 < z;omega,
      leR [(1,3)] u w rfl ⟨tv,aF aB _ _ _ _ _,tv⟩ ⟨by show SA.int .u64 _=SA.int .u64 _;rw[G],ed (μ:=sig [(1,3)]) (i:=1) (j:=3) rfl 1 c' _ (x::r) (UInt8.ofNat (z % 128+128)) rfl,tv⟩ ⟨Fz.r F,aQ aB (aZ _ ss),tv⟩⟩
   ·have y:z < 128:=by
     have K:¬(128:Int)<=z:=by simpa using l
     omega
    clear l;rw[fj y]at a;rcases out with _ | ⟨x,r⟩
    ·refine⟨nb rfl,[encB (UInt8.ofNat z)],by show[[SA.int .u8 _]]=_;rw[pD z oo];rfl,rfl,rfl,nb rfl,fun c' A=>?_⟩;refine⟨nb rfl,_,rfl,[UInt8.ofNat z],rfl,?_⟩;exact endFs (.ret (.tup [.va (.str ([]++[UInt8.ofNat z])),.va (.int .i64 0)])) (Fz.r F) ⟨by rw[e,a],rfl⟩
    ·replace d:r.length+1<=10:=d;refine⟨nb rfl,[encB (UInt8.ofNat z)],by show[[SA.int .u8 _]]=_;rw[pD z oo];rfl,rfl,rfl,by simp,rfl,by show(r.length+1+1)*1<=140737488355328;omega,fun c' A=>?_⟩;refine⟨by show 0+(r.length+1+1)<=(((x::r).map encB)++[encB (UInt8.ofNat z)]).length;simp,((x::r)++[UInt8.ofNat z]).map encB,by show((((x::r).map encB)++[encB (UInt8.ofNat z)]).drop 0).take (r.length+1+1)=_;rw[y8,ql ss];simp,(x::r)++[UInt8.ofNat z],rfl,?_⟩;exact endFs (.ret (.tup [.va (.str ((x::r)++[UInt8.ofNat z])),.va (.int .i64 0)])) (Fz.r F) ⟨by rw[e,a],rfl⟩
 ·have B:n < -4611686018427387903:=by simpa using g
  exact endFs (.ret (.tup [.va (.str []),.va (.int .i64 10)])) (Fz.r F) ⟨by rw[k (.inl B)],rfl⟩
theorem xC:∀(k z:Nat),z < 128^(k+1)->(putZ z).length<=k+1
 |0,z,h=>by rw[fj (by simpa using h)];simp
 |k+1,z,h=>by
  by_cases a:z < 128
  ·rw[fj a];simp
  ·rw[fT a,qe];have:=xC k (z / 128) (by rw[Nat.div_lt_iff_lt_mul oo,<-qbx];exact h);omega
theorem kg(n:Int)(h:-4611686018427387903<=n/\n<=4611686018427387903):(putI n).length<=9:=
 xC 8 _ (y4 (nJ n h) dd)
theorem er(n:Int):(putIR n).1.length<=9:=by
 unfold putIR;split
 ·simp
 ·exact kg n oo
theorem sO(F:Fz)(s:List UInt8)(h:s.length<=9000000000000000000):Fo prog F 80 [.va (.str s)] (fun o b=>o=.ret (.tup [.va (.str (putSR s).1),.va (.int .i64 (putSR s).2)])/\b=F):=by
 refine foS func80 ?_;refine br (fun g=>?_) (fun g=>?_)
 ·have a:65536 < s.length:=by have e:(65536:Int) < s.length:=(by simpa using g);omega
  exact endFs (.ret (.tup [.va (.str []),.va (.int .i64 10)])) (Fz.r F) ⟨by rw[putSR,if_pos a],rfl⟩
 ·have a:¬65536 < s.length:=by have e:¬(65536:Int) < s.length:=(by simpa using g);omega
  have c:putIR s.length=(putI s.length,0):=by rw[putIR,if_neg oo]
  have d:putSR s=(putI s.length++s,0):=by rw[putSR,if_neg a]
  refine usePs (ip F s.length) ?_;conv=>whnf
  have f:=er s.length;refine⟨by omega,?_⟩;exact endFs (.ret (.tup [.va (.str ((putIR s.length).1++s)),.va (.int .i64 0)])) (Fz.r F) ⟨by rw[d,c],rfl⟩
def aA(l:List Int):List UInt8:=(l.map fun n=>(putIR n).1).flatten
def encS(s:List UInt8):List SA:=[.str s]
theorem eN{α β:Type}{f:α->List β}{l:List α}{k:Nat}(g:k < l.length):((l.take (k+1)).map f).flatten=((l.take k).map f).flatten++f l[k]:=by
 rw[qf g,qo,yu];simp
theorem gP{α β:Type}{f:α->List β}{m:Nat}(h:∀x,(f x).length<=m):∀l:List α,(l.map f).flatten.length<=m*l.length
 |[]=>by simp
 |x::r=>by
  have:=gP h r;have:=h x;simp only[qw,jm,qb,qe,qd4];omega
theorem ek(s:List UInt8):(putSR s).1.length<=65545:=by
 unfold putSR;split
 ·simp
 ·have:=kg s.length oo;rw[qb];omega
def decZ:List UInt8->Nat->Nat->Nat->Option (Nat×Nat×UInt8)
 |_,0,_,_=>none
 |[],_+1,_,_=>none
 |b::r,f+1,i,z=>if 128<=b.toNat then decZ r f (i+1) (z+b.toNat % 128*128^i)else some (z+b.toNat*128^i,i,b)
def unz(z:Nat):Int:=if z % 2=1 then -((z / 2:Nat):Int) - 1 else((z / 2:Nat):Int)
def getI(s:List UInt8)(a:Int):Int×Int×Int:=
 if a < 0\/(s.length:Int) < a then(0,0,2)else
 match decZ (s.drop a.toNat) 9 0 0 with
 |none=>(0,0,10)
 |some (z,i,b)=>if(b=0/\0 < i)\/unz z < -4611686018427387903 then(0,0,10)else(unz z,a+i+1,0)
theorem yci(b:UInt8):bAnd .u8 (b.toNat:Int) 127=((b.toNat % 128:Nat):Int):=by
 have a:=b.toNat_lt
 have h1:(BitVec.ofInt IntKind.u8.bits (b.toNat:Int)&&&BitVec.ofInt IntKind.u8.bits 127).toNat=b.toNat % 128:=by
  show(BitVec.ofInt 8 (b.toNat:Int)&&&BitVec.ofInt 8 127).toNat=_;rw[BitVec.toNat_and,BitVec.ofInt_natCast,BitVec.toNat_ofNat];show b.toNat % 256&&&127=_;rw[ju a];exact qcl b.toNat 7
 rw[bAnd,h1,sH oo oo]
variable {i:Nat}
theorem or_lt(a:z < 128^i):z|||(m*128^i)=z+m*128^i:=by
 have e:128^i=2^(7*i):=by rw[Nat.pow_mul]
 rw[e]at a ⊢;have:=qbq a m;rw[qar m,Nat.or_comm,<-this,qcw]
theorem pow9(h:i<=8):128^i<=72057594037927936:=by
 have:128^i<=128^8:=qau oo h;exact this
theorem shl7(m i:Nat)(d:m < 128)(b:i<=8):shlI .u64 (m:Int) (IntKind.i64.wrap (7*(i:Int)))=((m*128^i:Nat):Int):=by
 have c:=pow9 b;have h1:m*128^i<=127*72057594037927936:=qaw oo c;have e:(IntKind.i64.wrap (7*(i:Int))).toNat=7*i:=by rw[aI oo oo];omega
 rw[shlI,e,qaq (show 7*i<=IntKind.u64.bits by show 7*i<=64;omega)]
 have a:(m:Int)*2^(7*i)=((m*128^i:Nat):Int):=by
  rw[show(128:Nat)^i=2^(7*i)by rw[Nat.pow_mul]];simp
 rw[a,eo oo oo]
theorem or7(d:z < 128^i)(e:m < 128)(b:i<=8):bOr .u64 (z:Int) ((m*128^i:Nat):Int)=((z+m*128^i:Nat):Int):=by
 have c:=pow9 b;have h1:m*128^i<=127*72057594037927936:=qaw oo c
 have a:(BitVec.ofInt IntKind.u64.bits (z:Int)|||BitVec.ofInt IntKind.u64.bits ((m*128^i:Nat):Int)).toNat=z+m*128^i:=by
  show(BitVec.ofInt 64 (z:Int)|||BitVec.ofInt 64 ((m*128^i:Nat):Int)).toNat=_;rw[BitVec.toNat_or,BitVec.ofInt_natCast,BitVec.ofInt_natCast,BitVec.toNat_ofNat,BitVec.toNat_ofNat,ju oo,ju oo];exact or_lt d
 rw[bOr,a,eo oo oo]
theorem acc7(b:UInt8)(d:z < 128^i)(a:i<=8):bOr .u64 (z:Int) (shlI .u64 (IntKind.u64.wrap (bAnd .u8 (b.toNat:Int) 127)) (IntKind.i64.wrap (7*(i:Int))))=((z+b.toNat % 128*128^i:Nat):Int):=by
 have c:b.toNat % 128 < 128:=qba _ oo;rw[yci,eo oo oo,shl7 _ _ c a,or7 d c a]
theorem m8(b:z < 128^i)(a:m < 128):z+m*128^i < 128^(i+1):=by
 rw[qbx];have:m*128^i<=127*128^i:=qat _ oo;omega
theorem and1(z:Nat)(h:z < 18446744073709551616):bAnd .u64 (z:Int) 1=((z % 2:Nat):Int):=by
 have h1:(BitVec.ofInt IntKind.u64.bits (z:Int)&&&BitVec.ofInt IntKind.u64.bits 1).toNat=z % 2:=by
  show(BitVec.ofInt 64 (z:Int)&&&BitVec.ofInt 64 1).toNat=_;rw[BitVec.toNat_and,BitVec.ofInt_natCast,BitVec.toNat_ofNat,ju h];exact Nat.and_one_is_mod z
 rw[bAnd,h1,eo oo oo]
theorem yd5(z:Nat)(h:z < 9223372036854775808):bXor .i64 (IntKind.i64.wrap (shrI .u64 (z:Int) 1)) (IntKind.i64.wrap (0 - IntKind.i64.wrap (bAnd .u64 (z:Int) 1)))=unz z:=by
 have c:shrI .u64 (z:Int) 1=((z / 2:Nat):Int):=by
  show(z:Int).fdiv (2^1)=_;rw[qa9 _ dd];rfl
 rw[c,and1 z oo,aI (n:=((z / 2:Nat):Int)) oo oo,aI (n:=((z % 2:Nat):Int)) oo oo,aI (n:=0 - _) oo oo];by_cases b:z % 2=1
 ·rw[b,unz,if_pos b]
  have a:(BitVec.ofInt IntKind.i64.bits ((z / 2:Nat):Int)^^^BitVec.ofInt IntKind.i64.bits (0 - ((1:Nat):Int))).toNat=18446744073709551615 - z / 2:=by
   show(BitVec.ofInt 64 ((z / 2:Nat):Int)^^^BitVec.ofInt 64 (0 - ((1:Nat):Int))).toNat=_;have:BitVec.ofInt 64 (0 - ((1:Nat):Int))=BitVec.allOnes 64:=by decide
   rw[this,BitVec.xor_allOnes,BitVec.toNat_not,BitVec.ofInt_natCast,BitVec.toNat_ofNat,ju oo]
  rw[bXor,a,IntKind.wrap_i64];omega
 ·have d:z % 2=0:=by omega
  rw[d,unz,if_neg b]
  have a:(BitVec.ofInt IntKind.i64.bits ((z / 2:Nat):Int)^^^BitVec.ofInt IntKind.i64.bits (0 - ((0:Nat):Int))).toNat=z / 2:=by
   show(BitVec.ofInt 64 ((z / 2:Nat):Int)^^^BitVec.ofInt 64 (0 - ((0:Nat):Int))).toNat=_;have:BitVec.ofInt 64 (0 - ((0:Nat):Int))=0#64:=by decide
   rw[this,BitVec.xor_zero,BitVec.ofInt_natCast,BitVec.toNat_ofNat,ju oo]
  rw[bXor,a,aI oo oo]
theorem uY{f:Nat}:decZ [] f i z=none:=by cases f<;>rfl
theorem drop_at{s:List UInt8}{k:Nat}(h:k < s.length):s.drop k=s[k]::s.drop (k+1):=jj h
theorem nk(F:Fz)(s:List UInt8)(p:Int)(hs:s.length<=1000000000000000000)(hp:i64 p):
  Fo prog F 151 [.va (.str s),.va (.int .i64 p)] (fun o K=>o=.ret (.tup [.va (.int .i64 (getI s p).1),.va (.int .i64 (getI s p).2.1),.va (.int .i64 (getI s p).2.2)])/\K=F):=by
 have fin:∀(n x e:Int) (h:Hp) (nx:Nat),getI s p=(n,x,e)->lget h 0=some (.frz F)->
   Cln 1 (FoK F fun o K=>o=.ret (.tup [.va (.int .i64 (getI s p).1),.va (.int .i64 (getI s p).2.1),.va (.int .i64 (getI s p).2.2)])/\K=F) (.ret (.tup [.va (.int .i64 n),.va (.int .i64 x),.va (.int .i64 e)])) h nx:=by
  intro n x e h nx hv c;exact endFo (.ret (.tup [.va (.int .i64 n),.va (.int .i64 x),.va (.int .i64 e)])) F c (Fz.r F) (Fz.r F) ⟨by rw[hv],rfl⟩ (aP _) rfl
 refine foS func151 ?_;refine⟨fun g=>?_,fun g=>?_⟩
 ·have V:¬p < 0:=by simpa using g
  refine br (fun g=>?_) (fun g=>?_)
  ·have W:(s.length:Int) < p:=by simpa using g
   exact fin 0 0 2 _ _ (by rw[getI,if_pos (.inr W)]) rfl
  ·have W:¬(s.length:Int) < p:=by simpa using g
   have R:∃a:Nat,p=a/\a<=s.length:=⟨p.toNat,by omega,by omega⟩
   obtain⟨a,ea,aa⟩:=R;subst ea
   have Z:getI s a=match decZ (s.drop a) 9 0 0 with
    |none=>(0,0,10)
    |some (z,i,b)=>if(b=0/\0 < i)\/unz z < -4611686018427387903 then(0,0,10)else(unz z,a+i+1,0):=by
    rw[getI,if_neg oo];rfl
   have B:decZ (s.drop a) 9 0 0=none->getI s a=(0,0,10):=fun h=>by rw[Z,h]
   conv=>whnf
   refine aH hΘ (X:={ x:Nat×Nat // x.1<=9/\x.2 < 128^x.1/\decZ (s.drop a) 9 0 0=decZ (s.drop (a+x.1)) (9 - x.1) x.1 x.2 }) (fun x=>[(7,.va (.int .u64 x.1.2)),(19,.va (.int .i64 x.1.1))]) (4::5::6::8::9::10::jr 20 47 []) (fz fun _=>F) 1 (fun x=>9 - x.1.1) ⟨(0,0),by simp⟩
    (fun O Q=>le0 O Q rfl (Fz.r F) rfl ⟨rfl,rfl,tv⟩) ?_
   rintro⟨⟨i,z⟩,hi,J,y⟩ O Q;replace hi:i<=9:=hi;replace J:z < 128^i:=J;replace y:decZ (s.drop a) 9 0 0=decZ (s.drop (a+i)) (9 - i) i z:=y;refine br (fun E=>?_) (fun E=>?_)
   ·have Y:i < 9:=by
     have c:(i:Int) < 9:=by simpa using E
     omega
    clear E;have u:IntKind.i64.wrap ((a:Int)+i)=((a+i:Nat):Int):=by rw[aI oo oo];rfl
    have h9:9 - i=(9 - (i+1))+1:=by omega
    refine br (fun G=>?_) (fun G=>?_)
    ·have I:s.length<=a+i:=by
      have c:(s.length:Int)<=IntKind.i64.wrap ((a:Int)+i):=by simpa using G
      rw[u]at c;omega
     exact fin 0 0 10 _ _ (B (by rw[y,yg I,uY])) rfl
    ·have I:a+i < s.length:=by
      have c:¬(s.length:Int)<=IntKind.i64.wrap ((a:Int)+i):=by simpa using G
      rw[u]at c;omega
     clear G;have l:=y;rw[drop_at I,h9,decZ]at l;have k:=acc7 s[a+i] J oo;have hm:s[a+i].toNat % 128 < 128:=qba _ oo;have A:=m8 J hm;refine⟨by dsimp only;rw[u];omega,s[a+i],by dsimp only;rw[u,qn,qc I],by dsimp only;rw[aI oo oo];omega,?_⟩;refine br (fun w=>?_) (fun w=>?_)
     ·have j:128<=s[a+i].toNat:=by
       have c:(128:Int)<=s[a+i].toNat:=by simpa using w
       omega
      clear w;rw[if_pos j]at l;refine⟨⟨(i+1,z+s[a+i].toNat % 128*128^i),by show i+1<=9;omega,A,l⟩,by show 9 - (i+1) < 9 - i;omega,lr0 O Q rfl (Fz.r F) rfl ⟨?_,cnt oo,tv⟩⟩;exact congrArg (SA.int .u64) k.symm
     ·have j:¬128<=s[a+i].toNat:=by
       have c:¬(128:Int)<=s[a+i].toNat:=by simpa using w
       omega
      clear w;rw[if_neg j]at l;have S:s[a+i].toNat % 128=s[a+i].toNat:=ju oo;rw[S]at k A
      have ab:128^(i+1)<=9223372036854775808:=by
       have:128^(i+1)<=128^9:=qau oo oo;exact this
      have q:=yd5 (z+s[a+i].toNat*128^i) oo;rw[<-k]at q;have d:getI s a=if(s[a+i]=0/\0 < i)\/unz (z+s[a+i].toNat*128^i) < -4611686018427387903 then(0,0,10)else(unz (z+s[a+i].toNat*128^i),(a:Int)+i+1,0):=by rw[Z,l]
      have U:IntKind.i64.wrap (IntKind.i64.wrap ((a:Int)+i)+1)=(a:Int)+i+1:=by rw[u,aI oo oo];omega
      have T:(s[a+i].toNat:Int)=0↔s[a+i]=0:=by
       constructor
       ·intro h;exact qdp.1 (by simpa using h)
       ·intro h;rw[h];rfl
      refine⟨by decide,fun L=>?_,fun L=>?_⟩
      ·have M:s[a+i]=0:=T.1 (od L);refine⟨fun gp=>?_,fun gp=>?_⟩
       ·have D:¬(s[a+i]=0/\0 < i):=fun h=>by
         have c:¬(0:Int) < i:=oe gp;omega
        refine br (fun m=>?_) (fun m=>?_)
        ·have f:unz (z+s[a+i].toNat*128^i) < -4611686018427387903:=by
          have c:=od m;rw[<-q];exact c
         exact fin 0 0 10 _ _ (by rw[d,if_pos (.inr f)]) rfl
        ·have f:¬unz (z+s[a+i].toNat*128^i) < -4611686018427387903:=by
          have c:=oe m;rw[<-q];exact c
         exact fin _ _ 0 _ _ (by rw[d,if_neg (by rintro(h | h);exact D h;exact f h),<-q,<-U]) rfl
       ·have D:s[a+i]=0/\0 < i:=⟨M,by
         have c:(0:Int) < i:=od gp;omega⟩
        exact fin 0 0 10 _ _ (by rw[d,if_pos (.inl D)]) rfl
      ·have D:¬(s[a+i]=0/\0 < i):=fun h=>oe L (T.2 h.1)
       refine br (fun m=>?_) (fun m=>?_)
       ·have f:unz (z+s[a+i].toNat*128^i) < -4611686018427387903:=by
         have c:=od m;rw[<-q];exact c
        exact fin 0 0 10 _ _ (by rw[d,if_pos (.inr f)]) rfl
       ·have f:¬unz (z+s[a+i].toNat*128^i) < -4611686018427387903:=by
         have c:=oe m;rw[<-q];exact c
        exact fin _ _ 0 _ _ (by rw[d,if_neg (by rintro(h | h);exact D h;exact f h),<-q,<-U]) rfl
   ·have Y:i=9:=by
     have c:¬(i:Int) < 9:=by simpa using E
     omega
    subst Y;exact fin 0 0 10 _ _ (B (by rw[y];cases s.drop (a+9)<;>rfl)) rfl
 ·have V:p < 0:=by simpa using g
  exact fin 0 0 2 _ _ (by rw[getI,if_pos (.inl V)]) rfl
theorem oM:∀(l:List UInt8) (f i z:Nat) {d i':Nat} {b:UInt8},decZ l f i z=some (d,i',b)->i<=i'/\i' - i < l.length/\i' < i+f/\l[i' - i]? =some b
 |_,0,_,_,_,_,_,h=>by simp[decZ]at h
 |[],_+1,_,_,_,_,_,h=>by simp[decZ]at h
 |b::r,f+1,i,z,d,i',b',h=>by
  rw[decZ]at h;split at h
  ·obtain⟨h1,a,c,e⟩:=oM r f (i+1) _ h;refine⟨by omega,by simp;omega,by omega,?_⟩;have:i' - i=(i' - (i+1))+1:=by omega
   rw[this,qa2];exact e
  ·simp only[Option.some.injEq,Prod.mk.injEq]at h;obtain⟨_,a,c⟩:=h;subst a;subst c;exact⟨qi _,by simp,by omega,by simp⟩
theorem pS:∀(l:List UInt8) (f i z:Nat) {a i':Nat} {b:UInt8},decZ l f i z=some (a,i',b)->z < 128^i->a < 128^(i'+1)
 |_,0,_,_,_,_,_,h,_=>by simp[decZ]at h
 |[],_+1,_,_,_,_,_,h,_=>by simp[decZ]at h
 |b::r,f+1,i,z,a,i',b',h,hz=>by
  rw[decZ]at h;split at h
  ·exact pS r f (i+1) _ h (m8 hz (qba _ oo))
  ·rename_i d;simp only[Option.some.injEq,Prod.mk.injEq]at h;obtain⟨h1,c,_⟩:=h;subst h1;subst c;exact m8 hz oo
theorem eL{s:List UInt8}{p:Int}(h:(getI s p).2.2=0):0<=p/\p < (getI s p).2.1/\(getI s p).2.1<=s.length/\ -4611686018427387903<=(getI s p).1/\(getI s p).1<=4611686018427387903:=by
 rw[getI]at h ⊢;split at h
 ·simp at h
 ·rename_i d;rw[if_neg d];split at h
  ·simp at h
  ·rename_i z i b a;split at h
   ·simp at h
   ·rename_i e;simp only[if_neg e];obtain⟨h1,c,f,g⟩:=oM _ _ _ _ a;have j:=pS _ _ _ _ a ss;have k:128^(i+1)<=128^9:=qau oo oo;have l:(128:Nat)^9=9223372036854775808:=by decide
    rw[yj]at c;refine⟨by omega,by omega,by omega,by omega,?_⟩;unfold unz;split<;>omega
def getS(s:List UInt8)(p:Int):List UInt8×Int×Int:=
 if(getI s p).2.2≠0 then([],0,(getI s p).2.2)else
 if(getI s p).1 < 0\/65536 < (getI s p).1\/(s.length:Int) - (getI s p).2.1 < (getI s p).1 then([],0,10)else
 ((s.take ((getI s p).2.1+(getI s p).1).toNat).drop (getI s p).2.1.toNat,(getI s p).2.1+(getI s p).1,0)
theorem o5(F:Fz)(s:List UInt8)(p:Int)(E:s.length<=1000000000000000000)(D:i64 p):
  Fo prog F 152 [.va (.str s),.va (.int .i64 p)] (fun o m=>o=.ret (.tup [.va (.str (getS s p).1),.va (.int .i64 (getS s p).2.1),.va (.int .i64 (getS s p).2.2)])/\m=F):=by
 have fin:∀(n:List UInt8) (x e:Int) (h:Hp) (nx:Nat),getS s p=(n,x,e)->lget h 0=some (.frz F)->
   Cln 1 (FoK F fun o m=>o=.ret (.tup [.va (.str (getS s p).1),.va (.int .i64 (getS s p).2.1),.va (.int .i64 (getS s p).2.2)])/\m=F) (.ret (.tup [.va (.str n),.va (.int .i64 x),.va (.int .i64 e)])) h nx:=by
  intro n x e h nx G j;exact endFo (.ret (.tup [.va (.str n),.va (.int .i64 x),.va (.int .i64 e)])) F j (Fz.r F) (Fz.r F) ⟨by rw[G],rfl⟩ (aP _) rfl
 have B:=nk F s p E D;have c:=@eL s p;have b:∀n x e,getI s p=(n,x,e)->getS s p=if e≠0 then([],0,e)else if n < 0\/65536 < n\/(s.length:Int) - x < n then([],0,10)else((s.take (x+n).toNat).drop x.toNat,x+n,0):=fun n x e h=>by rw[getS,h]
 obtain⟨n,x,e,A⟩:∃n x e,getI s p=(n,x,e):=⟨_,_,_,rfl⟩
 have b:=b n x e A;rw[A]at B c;replace c:e=0->0<=p/\p < x/\x<=s.length/\ -4611686018427387903<=n/\n<=4611686018427387903:=c;refine foS func152 ?_;refine usePs (B) ?_;refine br (fun g=>?_) (fun g=>?_)
 ·have l:e≠0:=by simpa using g
  exact fin [] 0 e _ _ (by rw[b,if_pos l]) rfl
 ·have l:e=0:=by simpa using g
  have I:=c l;have a:getS s p=if n < 0\/65536 < n\/(s.length:Int) - x < n then([],0,10)else((s.take (x+n).toNat).drop x.toNat,x+n,0):=by rw[b,if_neg (by simp[l])]
  have y:IntKind.i64.wrap ((s.length:Int) - x)=s.length - x:=aI oo oo;refine⟨fun q=>?_,fun q=>?_⟩
  ·have d:¬n < 0:=oe q;refine⟨fun u=>?_,fun u=>?_⟩
   ·have f:¬65536 < n:=oe u;refine br (fun w=>?_) (fun w=>?_)
    ·have i:(s.length:Int) - x < n:=by have j:=od w;rw[<-y];exact j
     exact fin [] 0 10 _ _ (by rw[a,if_pos (.inr (.inr i))]) rfl
    ·have i:¬(s.length:Int) - x < n:=by have j:=oe w;rw[<-y];exact j
     have k:IntKind.i64.wrap (x+n)=x+n:=aI oo oo;refine⟨⟨by dsimp only;rw[k];omega,by dsimp only;rw[k];omega⟩,⟨by dsimp only;omega,by dsimp only;rw[k];omega⟩,?_⟩;refine fin _ _ 0 _ _ ?_ rfl;rw[a,if_neg oo,k]
   ·have f:65536 < n:=od u;exact fin [] 0 10 _ _ (by rw[a,if_pos (.inr (.inl f))]) rfl
  ·have d:n < 0:=od q;exact fin [] 0 10 _ _ (by rw[a,if_pos (.inl d)]) rfl
def perr:Value:=.iface 35 (.int .i64 70)
theorem dF(F:Fz)(b:Bool):Fo prog F 127 [.va (.bool b)] (fun o a=>F=a/\((b=true/\o=.ret (.tup []))\/(b=false/\o=.panic perr))):=by
 refine foS func127 ?_;refine br (fun g=>?_) (fun g=>?_)
 ·exact endFo (.panic perr) F rfl (Fz.r F) (Fz.r F) ⟨rfl,.inr ⟨not_t g,rfl⟩⟩ rfl rfl
 ·exact endFs (.ret (.tup [])) (Fz.r F) ⟨rfl,.inl ⟨by simpa using g,rfl⟩⟩
def rdr(s:List UInt8)(p:Int):Ent:=.one (.cells 257 [.str s,.int .i64 p])
theorem cJ{n:Nat}(s:List UInt8)(p:Int):(rdr s p).below n:=(SB.bB_ok rfl:SB.below n (.cells 257 [.str s,.int .i64 p]))
def bZ(s:List UInt8)(p b a:Int):Bool:=decide ((getI s p).2.2=0)&&(decide (b<=(getI s p).1)&&decide ((getI s p).1<=a))
theorem gL(F:Fz)(s:List UInt8)(p d c:Int)(u:s.length<=1000000000000000000)(q:i64 p):
  Ct prog 182 [.va (.ptr ⟨1,0,0,0,0⟩),.va (.int .i64 d),.va (.int .i64 c)] F [(1,rdr s p)] 2
   (fun o l k n0=>F=l/\n0=2/\(if bZ s p d c=true then o=.ret (.va (.int .i64 (getI s p).1))/\k=[(1,rdr s (getI s p).2.1)]else o=.panic perr/\k=[(1,rdr s p)])):=by
 have f:=nk F s p u q;obtain⟨n,x,e,h⟩:∃n x e,getI s p=(n,x,e):=⟨_,_,_,rfl⟩
 have a:bZ s p d c=(decide (e=0)&&(decide (d<=n)&&decide (n<=c))):=by rw[bZ,h]
 rw[h]at f;have j:(getI s p).2.1=x:=by rw[h]
 have i:(getI s p).1=n:=by rw[h]
 refine ctS func182 ?_;refine dwS (lk [0,1,2,3,4,5,6,7] (.alt 8 (lk [9,10,11,12,13,14,15] .done) .nil)) [1] ?_;conv=>whnf
 repeat' ((conv=>whnf);first
  |refine⟨rfl,?_⟩
  |refine⟨Fz.r _,rfl,?_⟩
  |refine⟨Fz.r _,rfl,rfl,?_⟩
  |refine⟨⟨by simp,by simp⟩,?_⟩
  |fail)
 refine usePs (f) ?_;refine⟨Fz.r F,rfl,fun g=>?_,fun g=>?_⟩
 ·have m:e=0:=od g;refine usePs (fv n d c F) ?_;refine useFt (dF F (decide (d<=n)&&decide (n<=c))) ?_;rintro _ _ w ⟨rfl,⟨b,rfl⟩ | ⟨b,rfl⟩⟩
  ·refine clean [] (.ret (.va (.int .i64 n))) F [(1,rdr s x)] 2 ⟨Fz.r F,rfl,rfl,?_⟩ (aP _) rfl rfl trivial ⟨cJ s _,tv⟩ ⟨Fz.r F,rfl,tv⟩;rw[a,if_pos (by rw[g,b];rfl),i,j];exact⟨rfl,rfl⟩
  ·refine clean [] (.panic perr) F [(1,rdr s p)] 2 ⟨Fz.r F,rfl,rfl,?_⟩ rfl rfl rfl trivial ⟨cJ s _,tv⟩ ⟨Fz.r F,rfl,tv⟩;rw[a,if_neg (by rw[b];simp)];exact⟨rfl,rfl⟩
 ·refine useFt (dF F false) ?_;rintro _ _ w ⟨rfl,⟨b,rfl⟩ | ⟨b,rfl⟩⟩
  ·cases b
  ·refine clean [] (.panic perr) F [(1,rdr s p)] 2 ⟨Fz.r F,rfl,rfl,?_⟩ rfl rfl rfl trivial ⟨cJ s _,tv⟩ ⟨Fz.r F,rfl,tv⟩;rw[a,if_neg (by rw[g];simp)];exact⟨rfl,rfl⟩
theorem xH(F:Fz)(s:List UInt8)(p:Int)(k:s.length<=1000000000000000000)(j:i64 p):
  Ct prog 183 [.va (.ptr ⟨1,0,0,0,0⟩)] F [(1,rdr s p)] 2
   (fun o i h n0=>F=i/\n0=2/\(if(getS s p).2.2=0 then o=.ret (.va (.str (getS s p).1))/\h=[(1,rdr s (getS s p).2.1)]else o=.panic perr/\h=[(1,rdr s p)])):=by
 have b:=o5 F s p k j;obtain⟨n,x,e,c⟩:∃n x e,getS s p=(n,x,e):=⟨_,_,_,rfl⟩
 rw[c]at b;have a:(getS s p).2.2=e:=by rw[c]
 have g:(getS s p).2.1=x:=by rw[c]
 have f:(getS s p).1=n:=by rw[c]
 refine ctS func183 ?_;refine dwS (lk [0,1,2,3,4,5,6,7] (.alt 8 (lk [9,10,11,12,13,14,15] .done) .nil)) [1] ?_;conv=>whnf
 repeat' ((conv=>whnf);first
  |refine⟨rfl,?_⟩
  |refine⟨Fz.r _,rfl,?_⟩
  |refine⟨Fz.r _,rfl,rfl,?_⟩
  |refine⟨⟨by simp,by simp⟩,?_⟩
  |fail)
 refine usePs (b) ?_;refine⟨Fz.r F,rfl,?_⟩;refine useFt (dF F (decide (e=0))) ?_;rintro _ _ l ⟨rfl,⟨d,rfl⟩ | ⟨d,rfl⟩⟩
 ·refine clean [] (.ret (.va (.str n))) F [(1,rdr s x)] 2 ⟨Fz.r F,rfl,rfl,?_⟩ (aP _) rfl rfl trivial ⟨cJ s _,tv⟩ ⟨Fz.r F,rfl,tv⟩;rw[a,if_pos (od d),f,g];exact⟨rfl,rfl⟩
 ·refine clean [] (.panic perr) F [(1,rdr s p)] 2 ⟨Fz.r F,rfl,rfl,?_⟩ rfl rfl rfl trivial ⟨cJ s _,tv⟩ ⟨Fz.r F,rfl,tv⟩;rw[a,if_neg (oe d)];exact⟨rfl,rfl⟩
theorem ww(n:Int):Pu prog 277 [.va (.int .i64 n)] (.va (.bool false)):=by
 intro F;refine foS func277 ?_;refine endPu rfl (Fz.r F) (ob ?_) rfl;simp
def cmpI(a b:Int):Int:=if a < b then -1 else if b < a then 1 else 0
theorem ycz(a b:Int):Pu prog 263 [.va (.int .i64 a),.va (.int .i64 b)] (.va (.int .i64 (cmpI a b))):=by
 intro F;refine foS func263 ?_;refine usePs (ww a F) ?_;refine usePs (ww b F) ?_;refine brd dd ?_;refine brd dd ?_;refine br (fun g=>?_) (fun g=>?_)
 ·refine endPu rfl (Fz.r F) (oi ?_) rfl;rw[cmpI,if_pos (od g)]
 ·have c:¬a < b:=oe g;refine br (fun g=>?_) (fun g=>?_)
  ·refine endPu rfl (Fz.r F) (oi ?_) rfl;rw[cmpI,if_neg c,if_pos (od g)]
  ·refine endPu rfl (Fz.r F) (oi ?_) rfl;rw[cmpI,if_neg c,if_neg (oe g)]
def cmpL:List Int->List Int->Int
 |[],[]=>0
 |[],_::_=>-1
 |_::_,[]=>1
 |x::r,y::t=>if cmpI x y=0 then cmpL r t else cmpI x y
theorem ET{a b:List Int}{k:Nat}(c:k < a.length)(d:k < b.length):cmpL (a.drop k) (b.drop k)=if cmpI a[k] b[k]=0 then cmpL (a.drop (k+1)) (b.drop (k+1))else cmpI a[k] b[k]:=by
 rw[jj c,jj d,cmpL]
theorem D0(F:Fz)(B D:SA)(a b:List Int)(E:dX F B a)(Q:dX F D b)(la:a.length < 1000000):
  Fo prog F 245 [.va B,.va D] (fun o n=>o=.ret (.va (.int .i64 (cmpL a b)))/\n=F):=by
 have fin:∀(v:Int) (h:Hp) (nx:Nat),cmpL a b=v->lget h 0=some (.frz F)->
   Cln 1 (FoK F fun o n=>o=.ret (.va (.int .i64 (cmpL a b)))/\n=F) (.ret (.va (.int .i64 v))) h nx:=by
  intro v h nx hv j;exact endPu j (Fz.r F) (oi hv) rfl
 obtain⟨M,J,L,K,I,O,rfl,l,u,G,w⟩:=E;obtain⟨W,T,V,U,S,Y,rfl,m,y,R,A⟩:=Q;refine foS func245 ?_;conv=>whnf
 refine aH hΘ (X:={ k:Nat // k<=a.length/\k<=b.length/\cmpL a b=cmpL (a.drop k) (b.drop k) }) (fun k=>[(11,.va (.int .i64 k.1))]) (4::5::6::7::8::jr 12 19 []) (fz fun _=>F) 1 (fun k=>a.length - k.1) ⟨0,by simp⟩
  (fun q s=>le0 q s rfl (Fz.r F) rfl ⟨rfl,tv⟩) ?_
 rintro⟨k,hk,Z,d⟩ q s;refine br (fun g=>?_) (fun g=>?_)
 ·have g:k < a.length:=by simpa using g
  refine⟨Sl.lt l g,⟨by simp,by simpa using g⟩,_,u (Sl.lt l g),_,Sl.at w g,?_⟩;refine br (fun e=>?_) (fun e=>?_)
  ·have c:b.length=k:=by have j:(b.length:Int)<=k:=(by simpa using e);omega
   conv=>whnf
   have i:b.drop k=[]:=yg oo;exact fin 1 _ _ (by rw[d,jj g,i,cmpL]) rfl
  ·have c:k < b.length:=by have j:¬(b.length:Int)<=k:=(by simpa using e);omega
   rw[ET g c]at d;refine⟨Sl.lt m c,⟨by simp,by simpa using c⟩,_,y (Sl.lt m c),_,Sl.at A c,?_⟩;refine usePs (ycz a[k] b[k] F) ?_;refine br (fun p=>?_) (fun p=>?_)
   ·have f:¬cmpI a[k] b[k]=0:=by simpa using p
    exact fin _ _ _ (by rw[d,if_neg f]) rfl
   ·have f:cmpI a[k] b[k]=0:=by simpa using p
    rw[if_pos f]at d;exact⟨⟨k+1,by omega,by omega,d⟩,by show a.length - (k+1) < a.length - k;omega,lr0 q s rfl (Fz.r F) rfl ⟨cnt oo,tv⟩⟩
 ·have g:¬k < a.length:=by simpa using g
  have x:a.drop k=[]:=yg oo;rw[x]at d;refine br (fun e=>?_) (fun e=>?_)
  ·have c:k < b.length:=by have j:(a.length:Int) < b.length:=(by simpa using e);omega
   exact fin (-1) _ _ (by rw[d,jj c,cmpL]) rfl
  ·have c:b.length<=k:=by have j:¬(a.length:Int) < b.length:=(by simpa using e);omega
   conv=>whnf
   have i:b.drop k=[]:=yg c;exact fin 0 _ _ (by rw[d,i,cmpL]) rfl
def cols(p:Int):Nat:=if p=2 then 1 else if p=3 then 3 else if p=4 then 4 else if p=5 then 3 else 0
theorem tG(p:Int)(b:1<=p/\p<=5):Pu prog 243 [.va (.int .i64 p)] (.va (.int .i64 (cols p))):=by
 intro F;have a:p=1\/p=2\/p=3\/p=4\/p=5:=by omega
 rcases a with rfl | rfl | rfl | rfl | rfl
 all_goals refine foS func243 ?_
 all_goals conv=>whnf
 all_goals refine⟨⟨by decide,by decide⟩,_,rfl,?_⟩
 all_goals conv=>whnf
 all_goals exact endPu rfl (Fz.r F) rfl rfl
def bnd(p:Int)(n:List Int):Int×Int:=
 if p=2 then(0,7)else if n.length < 2 then(0,31)else if p=4 then(0,n.getD (n.length - 2) 0)else if p=3 then(-1000000,1000000)else(-1000000000000,1000000000000)
theorem uP(F:Fz)(q:SA)(n:List Int)(p:Int)(s:dX F q n)(J:n.length < 1000000):
  Fo prog F 244 [.va (.int .i64 p),.va q] (fun o f=>o=.ret (.tup [.va (.int .i64 (bnd p n).1),.va (.int .i64 (bnd p n).2)])/\f=F):=by
 have fin:∀(x y:Int) (h:Hp) (nx:Nat),bnd p n=(x,y)->lget h 0=some (.frz F)->
   Cln 1 (FoK F fun o f=>o=.ret (.tup [.va (.int .i64 (bnd p n).1),.va (.int .i64 (bnd p n).2)])/\f=F) (.ret (.tup [.va (.int .i64 x),.va (.int .i64 y)])) h nx:=by
  intro x y h nx I k;exact endFo (.ret (.tup [.va (.int .i64 x),.va (.int .i64 y)])) F k (Fz.r F) (Fz.r F) ⟨by rw[I],rfl⟩ (aP _) rfl
 obtain⟨E,A,D,B,w,G,rfl,c,l,u,m⟩:=s;refine foS func244 ?_;refine br (fun g=>?_) (fun g=>?_)
 ·have a:p=2:=od g;exact fin 0 7 _ _ (by rw[bnd,if_pos a]) rfl
 ·have a:¬p=2:=oe g;refine br (fun g=>?_) (fun g=>?_)
  ·have b:n.length < 2:=by have k:(n.length:Int) < 2:=od g;omega
   exact fin 0 31 _ _ (by rw[bnd,if_neg a,if_pos b]) rfl
  ·have b:¬n.length < 2:=by have k:¬(n.length:Int) < 2:=oe g;omega
   refine br (fun g=>?_) (fun g=>?_)
   ·have d:p=4:=od g;have e:n.length - 2 < n.length:=by omega
    have i:IntKind.i64.wrap ((n.length:Int) - 2)=((n.length - 2:Nat):Int):=by rw[aI oo oo];omega
    refine dwS (lk [0,1,2,3,4,5,6] .done) [] ?_;refine⟨Sl.lt c e,⟨by rw[i];omega,by rw[i];omega⟩,rfl,_,l (Sl.lt c e),encI n[n.length - 2],by dsimp only;rw[i];exact Sl.at m e,?_⟩;refine fin 0 n[n.length - 2] _ _ ?_ rfl;rw[bnd,if_neg a,if_neg b,if_pos d,yr,qc e];rfl
   ·have d:¬p=4:=oe g;refine br (fun g=>?_) (fun g=>?_)
    ·have j:p=3:=od g;exact fin (-1000000) 1000000 _ _ (by rw[bnd,if_neg a,if_neg b,if_neg d,if_pos j]) rfl
    ·have j:¬p=3:=oe g;exact fin (-1000000000000) 1000000000000 _ _ (by rw[bnd,if_neg a,if_neg b,if_neg d,if_neg j]) rfl
