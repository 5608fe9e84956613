import Derived.Test.YtfnkamphhpldcaaGreatDoorK17
import Derived.Test.YtfnkamphhpldcaaGreatDoorK22
import Derived.Test.YtfnkamphhpldcaaGreatDoorK11
import Derived.Test.YtfnkamphhpldcaaGreatDoorK08
set_option maxHeartbeats 64000000
namespace Go.Proofs.YtfnkamphhpldcaaGreatDoor
open Go Sx Tryz
set_option maxRecDepth 100000
def encW(n:Nat):List SA:=[wd n]
def full(A:List Nat):List Nat:=A++List.replicate (64 - A.length) 0
variable {A:List Nat}
theorem B8(h:A.length<=64):(full A).length=64:=by simp[full];omega
theorem B9(x:Nat)(h:A.length < 64):(full A).set A.length x=full (A++[x]):=by
 unfold full;rw[qbu _ _ (qj _),qdo,ql,qb];obtain⟨m,a⟩:∃m,64 - A.length=m+1:=⟨63 - A.length,by omega⟩
 rw[a,qb9,qa0,yt,show 64 - (A.length+1)=m by omega];rfl
variable {i:Nat}
theorem B7(h:i < A.length):(full A)[i]? =some (at0 A i):=by
 unfold full at0;rw[jj h,qc h];rfl
theorem B6(h:A.length=64):full A=A:=by simp[full,h]
theorem qF(h:i < A.length):at0 A i∈A:=by
 unfold at0;rw[qc h];exact qt h
abbrev rowW(A:List Nat):Ent:=.one (.arr 287 1 ((full A).map encW) 64)
theorem gg(μ:Mu)(L:List Nat)(c:Nat):(SB.arr 287 1 (L.map encW) c).ren μ=SB.arr 287 1 (L.map encW) c:=by
 show SB.arr 287 1 ((L.map encW).map (List.map (SA.ren μ))) c=_;rw[q8];congr 1
theorem ge(n:Nat)(L:List Nat)(c:Nat):(SB.arr 287 1 (L.map encW) c).below n:=by
 intro x d a b;obtain⟨s,_,rfl⟩:=jk.1 d;rcases qs.1 b with rfl;trivial
theorem word_lt(b:List UInt8)(i:Nat):word b i < 4294967296:=by
 unfold word;have h:=fun j:Nat=>(b[j]?.getD 0).toNat_lt
 have a:=h (4*i);have h1:=h (4*i+1);have c:=h (4*i+2);have d:=h (4*i+3);omega
variable {k:Nat}
theorem qS{a b:Nat}(h:b < 2^k):(a*2^k)|||b=a*2^k+b:=by
 rw[qae,<-qbw h]
theorem wordI(_:List UInt8)(_:Nat)(a x1 x2 c:Nat)(j:a < 256)(h1:x1 < 256)(k:x2 < 256)(l:c < 256):
  bOr .u32 (bOr .u32 (bOr .u32 (shlI .u32 (IntKind.u32.wrap (a:Int)) 24) (shlI .u32 (IntKind.u32.wrap (x1:Int)) 16)) (shlI .u32 (IntKind.u32.wrap (x2:Int)) 8)) (IntKind.u32.wrap (c:Int))=((a*16777216+x1*65536+x2*256+c:Nat):Int):=by
 have s0:=shl32 a 24 oo;have d:=shl32 x1 16 oo;have f:=shl32 x2 8 oo;have e:∀x:Nat,x < 256->IntKind.u32.wrap (x:Int)=(x:Int):=fun x m=>by rw[w32n,ju oo]
 rw[e _ j,e _ h1,e _ k,e _ l];simp only[show((24:Nat):Int)=24 from rfl,show((16:Nat):Int)=16 from rfl,show((8:Nat):Int)=8 from rfl]at s0 d f;rw[s0,d,f,ju oo,ju oo,ju oo,or32 oo oo];have g:a*2^24|||x1*2^16=(a*256+x1)*2^16:=by rw[qS oo];omega
 rw[g,or32 oo oo];have h:(a*256+x1)*2^16|||x2*2^8=((a*256+x1)*256+x2)*2^8:=by rw[qS oo];omega
 rw[h,or32 oo oo,qS oo]
 congr 1;omega
theorem yb4(x:Nat)(h:A.length < 64):(∃a,((full A).map encW)[((A.length:Nat):Int).toNat]? =some (encW a))/\
  ∀z:Int,z=((x:Nat):Int)->SB.arr 287 1 (((full A).map encW).set ((A.length:Nat):Int).toNat [SA.int .u32 z]) 64=SB.arr 287 1 ((full (A++[x])).map encW) 64:=by
 have b:=B8 (A:=A) oo;refine⟨⟨(full A)[A.length],?_⟩,?_⟩
 ·rw[qg,qu,qc oo];rfl
 ·rintro z rfl;rw[qg,show[SA.int .u32 ((x:Nat):Int)]=encW x from rfl,<-qb4,B9 x h]
abbrev bP(b:List UInt8)(k:Nat):List Nat:=(List.range k).map (word b)
theorem pC:∀(n:Nat) (A:List Nat),(grow n A).length=A.length+n
 |0,A=>rfl
 |n+1,A=>by rw[grow,pC n,qb];simp;omega
theorem vM:∀(n:Nat) (A:List Nat),grow (n+1) A=grow n A++[nxt (grow n A)]
 |0,A=>rfl
 |n+1,A=>by rw[grow,vM n,grow]
theorem ygp(w:List Nat):nxt w < 4294967296:=qa1 _ oo
theorem qM:∀(n:Nat) (A:List Nat),(∀x∈A,x < 4294967296)->∀x∈grow n A,x < 4294967296
 |0,_,h=>h
 |n+1,A,h=>qM n _ fun x hx=>by
  rcases yd.1 hx with hx | hx
  ·exact h x hx
  ·rw[qs.1 hx];exact ygp A
theorem rE(l:List UInt8)(k:Nat):∀x∈bP l k,x < 4294967296:=fun x a=>by
 obtain⟨j,_,rfl⟩:=jk.1 a;exact word_lt l j
theorem nxtI(A:List Nat)(i:Nat)(g:A.length=i)(hb:∀j,j < i->at0 A j < 4294967296)(f:16<=i):
  IntKind.u32.wrap (IntKind.u32.wrap (IntKind.u32.wrap ((at0 A (i - 16):Nat)+bXor .u32 (mix (at0 A (i - 15)) [7,18] 0:Nat) (shrI .u32 (at0 A (i - 15):Nat) 3))+(at0 A (i - 7):Nat))+bXor .u32 (mix (at0 A (i - 2)) [17,19] 0:Nat) (shrI .u32 (at0 A (i - 2):Nat) 10))=((nxt A:Nat):Int):=by
 have a:=hb (i - 15) oo;have c:=hb (i - 2) oo;have h:=hb (i - 7) oo;have e:=hb (i - 16) oo;have d:=shr32 (at0 A (i - 15)) 3 oo;have b:=shr32 (at0 A (i - 2)) 10 oo;simp only[show((3:Nat):Int)=3 from rfl,show((10:Nat):Int)=10 from rfl,show(2:Nat)^3=8 from rfl,show(2:Nat)^10=1024 from rfl]at d b;rw[d,b,xor32 (ny _ a _ _ dd) (yq (qcb _ _) a),xor32 (ny _ c _ _ dd) (yq (qcb _ _) c)];unfold nxt;rw[g,w32,w32,w32];omega
variable {L:List Nat}
theorem ycj{n:Nat}(h:L.length=n):(List.range n).map (fun j=>at0 L j)=L:=by
 refine List.ext_getElem (by simp[h]) fun j h1 a=>?_
 simp only[yr,List.getElem_range];unfold at0;rw[qc a];rfl
theorem vF(L:List Nat):(L.map encW).flatten=L.map wd:=by
 induction L with
 |nil=>rfl
 |cons a r ih=>simpa[encW]using ih
theorem wx{α:Type}:∀(l:List α),takeN l.length l=some l
 |[]=>rfl
 |x::r=>by simp[takeN,wx r]
theorem yH{α:Type}:∀(l v:List α),l.length=v.length->setN l v=some v
 |[],[],_=>rfl
 |[],_::_,h=>by simp at h
 |_::_,[],h=>by simp at h
 |x::r,y::v,h=>by simp[setN,yH r v (by simpa using h)]
abbrev at64(L:List Nat):List SA:=(List.range 64).map fun j=>wd (at0 L j)
theorem iT(h:L.length=64):at64 L=L.map wd:=by
 have:=congrArg (List.map wd) (ycj h);rw[q8]at this;exact this
theorem oa(h:L.length=64):dm (L.map encW).flatten 0 64=some (at64 L):=by
 rw[iT h,vF];have:=wx (L.map wd);rw[qa,h]at this;unfold dm;cases b:L.map wd with
 |nil=>rw[b]at this;exact this
 |cons a r=>rw[b]at this;exact this
theorem set64(h:L.length=64):setAt (L.map encW).flatten 0 (at64 L)=some (L.map encW).flatten:=by
 rw[iT h,vF];have:=yH (L.map wd) (L.map wd) rfl;unfold setAt;cases b:L.map wd with
 |nil=>rw[b]at this;exact this
 |cons a r=>rw[b]at this;exact this
theorem DQ(F:Fz)(sa:SA)(l:List UInt8)(ha:Sl F 5 1 encB sa l)(hl:l.length=64):
  Fo prog F 230 [.va sa] (fun o F'=>o=.ret (.agg ((sched l).map wd))/\F'=F):=by
 obtain⟨ag,ad,af,ae,ac,ah,rfl,b,p,ab,q⟩:=ha;refine foS func230 ?_;refine nZ 1 (.arr 287 1 ((full []).map encW) 64) rfl (pT rfl rfl) (oF rfl) ?_
 refine aI hΘ (X:={ k:Nat // k<=16 }) (fun k=>[(7,.va (.int .i64 k.1))]) (3::jr 8 38 []) (fun k=>[(0,.frz F),(1,rowW (bP l k.1))]) 2 (fun k=>16 - k.1) ⟨0,by simp⟩
  (fun f m=>leI [] f m rfl ⟨tv,ge 2 (full (bP l 0)) 64,tv⟩ ⟨rfl,tv⟩ ⟨Fz.r F,(gg _ (full (bP l 0)) 64).symm,tv⟩) ?_
 rintro⟨k,hk⟩ f m;by_cases g:k < 16
 ·have I:IntKind.i64.wrap (4*(k:Int))=((4*k+0:Nat):Int):=by rw[aF oo oo];omega
  have S:IntKind.i64.wrap (IntKind.i64.wrap (4*(k:Int))+1)=((4*k+1:Nat):Int):=by rw[I,aF oo oo];omega
  have D:IntKind.i64.wrap (IntKind.i64.wrap (4*(k:Int))+2)=((4*k+2:Nat):Int):=by rw[I,aF oo oo];omega
  have T:IntKind.i64.wrap (IntKind.i64.wrap (4*(k:Int))+3)=((4*k+3:Nat):Int):=by rw[I,aF oo oo];omega
  have L:4*k+0 < l.length:=by omega
  have M:4*k+1 < l.length:=by omega
  have O:4*k+2 < l.length:=by omega
  have Q:4*k+3 < l.length:=by omega
  have hw:=wordI l k l[4*k+0].toNat l[4*k+1].toNat l[4*k+2].toNat l[4*k+3].toNat (qcl _) (qcl _) (qcl _) (qcl _)
  have Z:(l[4*k+0].toNat*16777216+l[4*k+1].toNat*65536+l[4*k+2].toNat*256+l[4*k+3].toNat:Nat)=word l k:=by
   unfold word;rw[qc M,qc O,qc Q,show l[4*k]? =some l[4*k+0]from qc L];rfl
  rw[Z]at hw;have a:=yb4 (A:=bP l k) (word l k) (by simp;omega);have E:bP l k++[word l k]=bP l (k+1):=by rw[bP,bP,qay,qq];rfl
  rw[show(bP l k).length=k by simp,E]at a;obtain⟨⟨K,e⟩,a⟩:=a;refine br (fun _=>?_) (fun h=>absurd h (by simp;omega));refine dwS (lk [0,1,2,3,4,5,6,7,8,9,10,11,12,13,14,15,16,17,18,19,20,21,22,23,24,25,26,27,28,29,30,31,32,33,34] (.last 35 .done)) [] ?_;refine⟨Sl.lt b L,⟨by rw[I];omega,by rw[I];omega⟩,rfl,_,p (Sl.lt b L),encB l[4*k+0],(by rw[I];exact Sl.at q L),by decide,Sl.lt b M,⟨by rw[S];omega,by rw[S];omega⟩,rfl,_,p (Sl.lt b M),encB l[4*k+1],(by rw[S];exact Sl.at q M),by decide,Sl.lt b O,⟨by rw[D];omega,by rw[D];omega⟩,rfl,_,p (Sl.lt b O),encB l[4*k+2],(by rw[D];exact Sl.at q O),by decide,Sl.lt b Q,⟨by rw[T];omega,by rw[T];omega⟩,rfl,_,p (Sl.lt b Q),encB l[4*k+3],(by rw[T];exact Sl.at q Q),?_⟩;conv=>whnf
  skip
  skip
  refine⟨⟨by simp,by show(k:Int) < 64;omega⟩,encW K,e,?_⟩;exact⟨⟨k+1,by omega⟩,by show 16 - (k+1) < 16 - k;omega,leR [] f m rfl ⟨tv,ge 2 (full (bP l (k+1))) 64,tv⟩ ⟨cnt oo,tv⟩ ⟨Fz.r F,(a _ hw).trans (gg _ (full (bP l (k+1))) 64).symm,tv⟩⟩
 ·have Y:k=16:=by omega
  subst Y;refine brd ss ?_;conv=>whnf
  refine aI hΘ (X:={ i:Nat // 16<=i/\i<=64 }) (fun i=>[(4,.va (.int .i64 i.1))]) (5::6::jr 46 37 []) (fun i=>[(0,.frz F),(1,rowW (grow (i.1 - 16) (bP l 16)))]) 2 (fun i=>64 - i.1) ⟨16,by simp⟩
   (fun f m=>leI [] f m rfl ⟨tv,ge 2 (full (bP l 16)) 64,tv⟩ ⟨rfl,tv⟩ ⟨Fz.r F,(gg _ (full (bP l 16)) 64).symm,tv⟩) ?_
  rintro⟨i,V,ai⟩ f m;have d:(grow (i - 16) (bP l 16)).length=i:=by rw[pC];simp;omega
  have hA:=qM (i - 16) (bP l 16) (rE l 16);by_cases g:i < 64
  ·have w:IntKind.i64.wrap ((i:Int) - 15)=((i - 15:Nat):Int):=by rw[aF oo oo];omega
   have D:IntKind.i64.wrap ((i:Int) - 2)=((i - 2:Nat):Int):=by rw[aF oo oo];omega
   have B:IntKind.i64.wrap ((i:Int) - 16)=((i - 16:Nat):Int):=by rw[aF oo oo];omega
   have U:IntKind.i64.wrap ((i:Int) - 7)=((i - 7:Nat):Int):=by rw[aF oo oo];omega
   have c:∀j:Nat,j < i->((full (grow (i - 16) (bP l 16))).map encW)[(j:Int).toNat]? =some (encW (at0 (grow (i - 16) (bP l 16)) j)):=fun j W=>by
    rw[qg,qu,B7 (by rw[d];exact W)];rfl
   have hb:∀j:Nat,j < i->at0 (grow (i - 16) (bP l 16)) j < 4294967296:=fun j W=>hA _ (qF (by rw[d];exact W))
   have u:i - 15 < i:=by omega
   have R:i - 2 < i:=by omega
   have aa:i - 16 < i:=by omega
   have q7:i - 7 < i:=by omega
   have a:=yb4 (A:=grow (i - 16) (bP l 16)) (nxt (grow (i - 16) (bP l 16))) oo;rw[<-vM,d,show i - 16+1=i+1 - 16 by omega]at a;obtain⟨⟨K,e⟩,a⟩:=a;have G:=nxtI (grow (i - 16) (bP l 16)) i d hb V;refine br (fun _=>?_) (fun h=>absurd h (by simp;omega));refine dwS (lk [0,1,2,3,4,5,6,7,8,9] .done) [1] ?_;refine⟨⟨by rw[w];omega,by rw[w];show((i - 15:Nat):Int) < 64;omega⟩,rfl,encW (at0 (grow (i - 16) (bP l 16)) (i - 15)),(by rw[w];exact c (i - 15) u),⟨by rw[D];omega,by rw[D];show((i - 2:Nat):Int) < 64;omega⟩,rfl,encW (at0 (grow (i - 16) (bP l 16)) (i - 2)),(by rw[D];exact c (i - 2) R),?_⟩;refine dwS (lk [0,1,2,3,4,5,8,9,12,13,14,15,17,20,21] (.alt 6 (.alt 7 (lk [10,11,16] (.alt 18 (.alt 19 (lk [22,23,24] (.last 25 .done)) .nil) .nil)) (.alt 18 (.alt 7 (lk [10,11,16] (.alt 19 (lk [22,23,24] (.last 25 .done)) .nil)) .nil) .nil)) (.alt 18 (.alt 6 (.alt 7 (lk [10,11,16] (.alt 19 (lk [22,23,24] (.last 25 .done)) .nil)) .nil) .nil) .nil))) [1] ?_;refine⟨⟨by rw[B];omega,by rw[B];show((i - 16:Nat):Int) < 64;omega⟩,rfl,encW (at0 (grow (i - 16) (bP l 16)) (i - 16)),(by rw[B];exact c (i - 16) aa),by decide,⟨by rw[U];omega,by rw[U];show((i - 7:Nat):Int) < 64;omega⟩,rfl,encW (at0 (grow (i - 16) (bP l 16)) (i - 7)),(by rw[U];exact c (i - 7) q7),by decide,?_⟩;conv=>whnf
   have m1:∀n∈[7,18],1<=n/\n < 32:=by decide
   have m2:∀n∈[17,19],1<=n/\n < 32:=by decide
   refine⟨?_,?_⟩
   ·refine⟨Fz.r F,rfl,?_,?_⟩
    ·refine mixU [7,18] (hb _ u) m1 dd 2 rfl rfl rfl ?_;refine⟨Fz.r F,rfl,Fz.r F,rfl,?_⟩;refine mixU [17,19] (hb _ R) m2 dd 3 rfl rfl rfl ?_;refine⟨Fz.r F,rfl,⟨by simp,by show(i:Int) < 64;omega⟩,encW K,e,?_⟩;exact⟨⟨i+1,by omega,by omega⟩,by show 64 - (i+1) < 64 - i;omega,leR [] f m rfl ⟨tv,ge 2 (full (grow (i+1 - 16) (bP l 16))) 64,tv⟩ ⟨cnt oo,tv⟩ ⟨Fz.r F,(a _ G).trans (gg _ (full (grow (i+1 - 16) (bP l 16))) 64).symm,tv⟩⟩
    ·refine⟨Fz.r F,rfl,?_⟩;refine mixU [7,18] (hb _ u) m1 dd 2 rfl rfl rfl ?_;refine⟨Fz.r F,rfl,?_⟩;refine mixU [17,19] (hb _ R) m2 dd 3 rfl rfl rfl ?_;refine⟨Fz.r F,rfl,⟨by simp,by show(i:Int) < 64;omega⟩,encW K,e,?_⟩;exact⟨⟨i+1,by omega,by omega⟩,by show 64 - (i+1) < 64 - i;omega,leR [] f m rfl ⟨tv,ge 2 (full (grow (i+1 - 16) (bP l 16))) 64,tv⟩ ⟨cnt oo,tv⟩ ⟨Fz.r F,(a _ G).trans (gg _ (full (grow (i+1 - 16) (bP l 16))) 64).symm,tv⟩⟩
   ·refine⟨Fz.r F,rfl,Fz.r F,rfl,?_⟩;refine mixU [7,18] (hb _ u) m1 dd 3 rfl rfl rfl ?_;refine⟨Fz.r F,rfl,?_⟩;refine mixU [17,19] (hb _ R) m2 dd 2 rfl rfl rfl ?_;refine⟨Fz.r F,rfl,⟨by simp,by show(i:Int) < 64;omega⟩,encW K,e,?_⟩;exact⟨⟨i+1,by omega,by omega⟩,by show 64 - (i+1) < 64 - i;omega,leR [] f m rfl ⟨tv,ge 2 (full (grow (i+1 - 16) (bP l 16))) 64,tv⟩ ⟨cnt oo,tv⟩ ⟨Fz.r F,(a _ G).trans (gg _ (full (grow (i+1 - 16) (bP l 16))) 64).symm,tv⟩⟩
  ·have hi:i=64:=by omega
   subst hi;have hf:full (grow 48 (bP l 16))=sched l:=B6 d;have s:(full (grow 48 (bP l 16))).length=64:=by rw[hf];exact d
   have J:∀μ:Mu,(at64 (full (grow 48 (bP l 16)))).map (SA.ren μ)=(sched l).map wd:=fun μ=>by
    rw[iT s,hf,q8];rfl
   refine brd ss ⟨at64 (full (grow 48 (bP l 16))),oa s,(full (grow 48 (bP l 16))).map encW,?_,rfl,set64 s,?_⟩
   ·intro x hx;obtain⟨y,_,rfl⟩:=jk.1 hx;rfl
   refine⟨at64 (full (grow 48 (bP l 16))),oa s,?_⟩;exact endPu rfl (Fz.r F) (congrArg SV.agg (J _).symm) (by simp[SV.z,SA.z])
def RNDF(F:Fz):Prop:=F 0=some (.arr 287 1 (konst.map encW) 64)
theorem RNDF.mono{F b:Fz}(h:RNDF F)(a:Fz.le F b):RNDF b:=a _ _ h
theorem gS:konst.length=64:=rfl
theorem Cn:∀x∈konst,x < 4294967296:=by decide+kernel
theorem wu(l:List UInt8):(sched l).length=64:=by rw[sched,pC];simp
theorem ya0(l:List UInt8):∀x∈sched l,x < 4294967296:=qM _ _ (rE l 16)
theorem DP{F:Fz}{a:SA}{l:List UInt8}(c:Sl F 5 1 encB a l)(d:l.length=64):
  Fo prog F 230 [.va a] (fun o b=>o=.ret (.agg (at64 (sched l)))/\b=F):=by
 have:=DQ F a l c d;rw[<-iT (wu l)]at this;exact this
theorem vd(h:L.length=64):L.map encW=sing (at64 L):=by
 rw[iT h,sing,q8];rfl
theorem Bm{x:SA}(h:(L.map wd)[k]? =some x)(a:L.length=64:=by exact gS):(at64 L)[((k:Nat):Int).toNat]? =some x:=by
 rw[iT a,qg];exact h
def w8(v:W8):List SA:=[wd v.a,wd v.b,wd v.c,wd v.d,wd v.e,wd v.f,wd v.g,wd v.h]
structure W8.Ok(v:W8):Prop where
 a:v.a < 4294967296
 b:v.b < 4294967296
 c:v.c < 4294967296
 d:v.d < 4294967296
 e:v.e < 4294967296
 f:v.f < 4294967296
 g:v.g < 4294967296
 h:v.h < 4294967296
theorem m32(x:Nat):x % 4294967296 < 4294967296:=qa1 x (yy ym (Nat.le_add_left 1 4294967295))
variable {v:W8}
theorem ya4{w:Nat}(h:v.Ok):(step8 k w v).Ok:=⟨m32 _,h.a,h.b,h.c,m32 _,h.e,h.f,h.g⟩
theorem yce(v u:W8):(add8 v u).Ok:=⟨m32 _,m32 _,m32 _,m32 _,m32 _,m32 _,m32 _,m32 _⟩
theorem DT(l:List (Nat×Nat))(x:Nat×Nat)(v:W8):fg (l++[x]) v=step8 x.1 x.2 (fg l v):=by
 unfold fg;rw[qas,qaj,qbx]
theorem wC8{t:Nat}{a b c d e f g h:Int}(i:a=v.a)(hb:b=v.b)(j:c=v.c)(k:d=v.d)(l:e=v.e)(m:f=v.f)(n:g=v.g)(hh:h=v.h):
  SB.cells t [.int .u32 a,.int .u32 b,.int .u32 c,.int .u32 d,.int .u32 e,.int .u32 f,.int .u32 g,.int .u32 h]=SB.cells t (w8 v):=by
 subst i hb j k l m n hh;rfl
theorem stepI{w:Nat}(h:v.Ok)(_:k < 4294967296)(_:w < 4294967296):
  IntKind.u32.wrap (IntKind.u32.wrap (IntKind.u32.wrap (IntKind.u32.wrap ((v.h:Nat)+(mix v.e [6,11,25] 0:Nat))+bXor .u32 (bAnd .u32 (v.e:Nat) (v.f:Nat)) (bAnd .u32 (bXor .u32 4294967295 (v.e:Nat)) (v.g:Nat)))+(k:Nat))+(w:Nat))=
   (((v.h+mix v.e [6,11,25] 0+((v.e&&&v.f)^^^((4294967295 - v.e)&&&v.g))+k+w) % 4294967296:Nat):Int):=by
 rw[not32 h.e,and32 h.e h.f,and32 oo h.g,xor32 (yq qcy h.e) (yq Nat.and_le_right h.g),w32,w32,w32,w32];omega
theorem stepJ(h:v.Ok):
  IntKind.u32.wrap ((mix v.a [2,13,22] 0:Nat)+bXor .u32 (bXor .u32 (bAnd .u32 (v.a:Nat) (v.b:Nat)) (bAnd .u32 (v.a:Nat) (v.c:Nat))) (bAnd .u32 (v.b:Nat) (v.c:Nat)))=
   (((mix v.a [2,13,22] 0+((v.a&&&v.b)^^^(v.a&&&v.c)^^^(v.b&&&v.c))) % 4294967296:Nat):Int):=by
 have d:v.a&&&v.b < 4294967296:=yq qcy h.a;have e:v.a&&&v.c < 4294967296:=yq qcy h.a;have f:v.b&&&v.c < 4294967296:=yq qcy h.b;rw[and32 h.a h.b,and32 h.a h.c,and32 h.b h.c,xor32 d e,xor32 (qc4 (n:=32) d e) f,w32];omega
theorem stepA{w:Nat}(h:v.Ok)(d:k < 4294967296)(i:w < 4294967296):
  IntKind.u32.wrap (IntKind.u32.wrap (IntKind.u32.wrap (IntKind.u32.wrap (IntKind.u32.wrap ((v.h:Nat)+(mix v.e [6,11,25] 0:Nat))+bXor .u32 (bAnd .u32 (v.e:Nat) (v.f:Nat)) (bAnd .u32 (bXor .u32 4294967295 (v.e:Nat)) (v.g:Nat)))+(k:Nat))+(w:Nat))+
   IntKind.u32.wrap ((mix v.a [2,13,22] 0:Nat)+bXor .u32 (bXor .u32 (bAnd .u32 (v.a:Nat) (v.b:Nat)) (bAnd .u32 (v.a:Nat) (v.c:Nat))) (bAnd .u32 (v.b:Nat) (v.c:Nat))))=(((step8 k w v).a:Nat):Int):=by
 rw[stepI h d i,stepJ h,<-qcv,w32n];rfl
theorem stepE{w:Nat}(h:v.Ok)(a:k < 4294967296)(b:w < 4294967296):
  IntKind.u32.wrap ((v.d:Nat)+IntKind.u32.wrap (IntKind.u32.wrap (IntKind.u32.wrap (IntKind.u32.wrap ((v.h:Nat)+(mix v.e [6,11,25] 0:Nat))+bXor .u32 (bAnd .u32 (v.e:Nat) (v.f:Nat)) (bAnd .u32 (bXor .u32 4294967295 (v.e:Nat)) (v.g:Nat)))+(k:Nat))+(w:Nat)))=(((step8 k w v).e:Nat):Int):=by
 rw[stepI h a b,<-qcv,w32n];rfl
theorem add32(x y:Nat):IntKind.u32.wrap ((x:Int)+(y:Int))=(((x+y) % 4294967296:Nat):Int):=by rw[<-qcv,w32n]
abbrev rowS(A:List Nat):Ent:=.one (.arr 287 1 (A.map encW) 64)
theorem fw(n t:Nat)(v:W8):(SB.cells t (w8 v)).below n:=by
 intro a b;simp only[w8,qi,qp,or_false]at b;rcases b with rfl | rfl | rfl | rfl | rfl | rfl | rfl | rfl<;>trivial
theorem yfb(F:Fz)(V:RNDF F)(M:SA)(l:List UInt8)(v:W8)(K:Sl F 5 1 encB M l)(hl:l.length=64)(hv:v.Ok):
  Ct prog 175 [.va (.ptr ⟨1,0,0,0,0⟩),.va M] F [(1,.one (.cells 246 (w8 v)))] 2 (fun o O h n=>o=.ret (.tup [])/\O=F/\h=[(1,.one (.cells 246 (w8 (fQ l v))))]/\n=2):=by
 have I:=DP K hl;obtain⟨W,J,i,A⟩:∃W,sched l=W/\W.length=64/\∀x∈W,x < 4294967296:=⟨_,rfl,wu l,ya0 l⟩
 rw[J]at I;have D:fQ l v=add8 v (fg (konst.zip W) v):=by rw[fQ,J]
 obtain⟨ag,ad,af,ae,ac,ah,rfl,Y,Z,aa,ab⟩:=K;refine ctS func175 ?_;refine usePs (I) ?_;conv=>whnf
 refine⟨_,V,at64 konst,oa gS,?_⟩;refine nZ 2 (.arr 287 1 (W.map encW) 64) rfl (pT (vd i) rfl) (oF (vd i)) ?_
 refine aI hΘ (X:={ x:Nat×W8 // x.1<=64/\x.2=fg ((konst.zip W).take x.1) v/\x.2.Ok }) (fun x=>[(19,.va (.int .i64 x.1.1))]) (jr 6 6 (jr 20 62 [])) (fun x=>[(0,.frz F),(1,.one (.cells 246 (w8 v))),(2,rowS W),(3,.one (.cells 246 (w8 x.1.2)))]) 4 (fun x=>64 - x.1.1) ⟨(0,v),by simp,by rw[List.take_zero];rfl,hv⟩
  (fun u w=>leI [] u w rfl ⟨tv,fw 4 246 v,ge 4 W 64,fw 4 246 v,tv⟩ ⟨rfl,tv⟩ ⟨Fz.r F,rfl,(gg _ W 64).symm,rfl,tv⟩) ?_
 rintro⟨⟨k,a,b,c,d,e,f,g,hh⟩,L,y,m⟩ u w;replace L:k<=64:=L;by_cases Q:k < 64
 ·have U:(konst.map wd)[k]? =some (wd (at0 konst k)):=by
   rw[qu];unfold at0;rw[qc (by rw[gS];omega)];rfl
  have B:(W.map encW)[((k:Nat):Int).toNat]? =some (encW (at0 W k)):=by
   rw[qg,qu];unfold at0;rw[qc oo];rfl
  have q:at0 konst k < 4294967296:=Cn _ (qF (by rw[gS];omega));have s:at0 W k < 4294967296:=A _ (qF oo);have R:=stepA m q s;have T:=stepE m q s
  have j:step8 (at0 konst k) (at0 W k) ⟨a,b,c,d,e,f,g,hh⟩=fg ((konst.zip W).take (k+1)) v:=by
   have G:k < (konst.zip W).length:=by rw[qan,gS,i];omega
   rw[qe G,DT,qdh,<-y];unfold at0;rw[qc (by rw[gS];omega),qc oo];rfl
  refine br (fun _=>?_) (fun h=>absurd h (by simp;omega));refine⟨⟨by simp,by show(k:Int) < 64;omega⟩,[wd (at0 konst k)],?_,?_⟩
  ·exact oQ (Bm U)
  refine dwS (lk [0,1,2,3,4,5] .done) [3] ?_;conv=>whnf
  repeat' ((conv=>whnf);first
   |refine⟨rfl,?_⟩
   |refine⟨Fz.r _,rfl,?_⟩
   |refine⟨Fz.r _,rfl,rfl,?_⟩
   |refine⟨⟨by simp,by simp⟩,?_⟩
   |fail)
  refine dwS (lk [0,1,2,6,7,8,9,10,11,12,13,14,15,17,19,20,21] (.alt 3 (.alt 4 (lk [5,16,18,22,23] .done) .nil) .nil)) [2,3] ?_;conv=>whnf
  repeat' ((conv=>whnf);first
   |refine⟨rfl,?_⟩
   |refine⟨encW (at0 W k),B,?_⟩
   |refine⟨⟨jy k,Int.ofNat_lt.2 Q⟩,?_⟩
   |refine⟨⟨by decide,by decide⟩,?_⟩
   |fail)
  refine⟨Fz.r F,rfl,rfl,?_⟩;refine mixU [6,11,25] m.e dd dd 4 rfl rfl rfl ?_;refine⟨Fz.r F,rfl,rfl,?_⟩
  repeat' ((conv=>whnf);first
   |refine⟨rfl,?_⟩
   |refine⟨Fz.r _,rfl,?_⟩
   |refine⟨Fz.r _,rfl,rfl,?_⟩
   |refine⟨⟨by simp,by simp⟩,?_⟩
   |fail)
  refine dwS (lk [0,3,4,5,6,7,8,9,10,11,12,13,14,15,16,17] (.alt 1 (.alt 2 (.look 18 (.look 19 .done)) .nil) .nil)) [3] ?_;conv=>whnf
  repeat' ((conv=>whnf);first
   |refine⟨rfl,?_⟩
   |refine⟨Fz.r _,rfl,?_⟩
   |refine⟨Fz.r _,rfl,rfl,?_⟩
   |refine⟨⟨by simp,by simp⟩,?_⟩
   |fail)
  refine mixU [2,13,22] m.a dd dd 5 rfl rfl rfl ?_;refine⟨Fz.r F,rfl,?_⟩
  repeat' ((conv=>whnf);first
   |refine⟨rfl,?_⟩
   |refine⟨Fz.r _,rfl,?_⟩
   |refine⟨Fz.r _,rfl,rfl,?_⟩
   |refine⟨⟨by simp,by simp⟩,?_⟩
   |fail)
  refine dwS (.look 0 (.look 1 (.last 2 .done))) [3] ?_;conv=>whnf
  repeat' ((conv=>whnf);first
   |refine⟨⟨by decide,by decide⟩,?_⟩
   |refine⟨rfl,?_⟩
   |fail)
  exact⟨⟨(k+1,step8 (at0 konst k) (at0 W k) ⟨a,b,c,d,e,f,g,hh⟩),by show k+1<=64;omega,j,ya4 m⟩,by show 64 - (k+1) < 64 - k;omega,
   leR [] u w rfl ⟨tv,fw 4 246 v,ge 4 W 64,fw 4 246 (step8 (at0 konst k) (at0 W k) ⟨a,b,c,d,e,f,g,hh⟩),tv⟩ ⟨cnt oo,tv⟩ ⟨Fz.r F,rfl,(gg _ W 64).symm,wC8 R rfl rfl rfl T rfl rfl rfl,tv⟩⟩
 ·have E:k=64:=by omega
  subst E
  have p:(⟨a,b,c,d,e,f,g,hh⟩:W8)=fg (konst.zip W) v:=by
   rw[qk (by rw[qan,gS,i];omega)]at y;exact y
  have S:fQ l v=add8 v ⟨a,b,c,d,e,f,g,hh⟩:=by rw[D,p]
  refine brd ss ?_;conv=>whnf
  refine cR hΘ 8 ?_;refine bre dd ?_;refine dwS (lk [0,1,2,3,5,6,7,9] (.alt 4 (.look 8 (.look 10 (.alt 11 .done .nil))) .nil)) [3] ?_;conv=>whnf
  repeat' ((conv=>whnf);first
   |refine⟨Fz.r F,rfl,?_⟩
   |refine⟨rfl,?_⟩
   |refine⟨⟨by decide,by decide⟩,?_⟩
   |fail)
  conv=>whnf
  refine sr_go hΘ ?_;refine bre dd ?_;refine dwS (lk [0,1,2,3,5,6,7,9] (.alt 4 (.look 8 (.look 10 (.alt 11 .done .nil))) .nil)) [3] ?_;conv=>whnf
  repeat' ((conv=>whnf);first
   |refine⟨Fz.r F,rfl,?_⟩
   |refine⟨rfl,?_⟩
   |refine⟨⟨by decide,by decide⟩,?_⟩
   |fail)
  conv=>whnf
  refine sr_go hΘ ?_;refine bre dd ?_;refine dwS (lk [0,1,2,3,5,6,7,9] (.alt 4 (.look 8 (.look 10 (.alt 11 .done .nil))) .nil)) [3] ?_;conv=>whnf
  repeat' ((conv=>whnf);first
   |refine⟨Fz.r F,rfl,?_⟩
   |refine⟨rfl,?_⟩
   |refine⟨⟨by decide,by decide⟩,?_⟩
   |fail)
  conv=>whnf
  refine sr_go hΘ ?_;refine bre dd ?_;refine dwS (lk [0,1,2,3,5,6,7,9] (.alt 4 (.look 8 (.look 10 (.alt 11 .done .nil))) .nil)) [3] ?_;conv=>whnf
  repeat' ((conv=>whnf);first
   |refine⟨Fz.r F,rfl,?_⟩
   |refine⟨rfl,?_⟩
   |refine⟨⟨by decide,by decide⟩,?_⟩
   |fail)
  conv=>whnf
  refine sr_go hΘ ?_;refine bre dd ?_;refine dwS (lk [0,1,2,3,5,6,7,9] (.alt 4 (.look 8 (.look 10 (.alt 11 .done .nil))) .nil)) [3] ?_;conv=>whnf
  repeat' ((conv=>whnf);first
   |refine⟨Fz.r F,rfl,?_⟩
   |refine⟨rfl,?_⟩
   |refine⟨⟨by decide,by decide⟩,?_⟩
   |fail)
  conv=>whnf
  refine sr_go hΘ ?_;refine bre dd ?_;refine dwS (lk [0,1,2,3,5,6,7,9] (.alt 4 (.look 8 (.look 10 (.alt 11 .done .nil))) .nil)) [3] ?_;conv=>whnf
  repeat' ((conv=>whnf);first
   |refine⟨Fz.r F,rfl,?_⟩
   |refine⟨rfl,?_⟩
   |refine⟨⟨by decide,by decide⟩,?_⟩
   |fail)
  conv=>whnf
  refine sr_go hΘ ?_;refine bre dd ?_;refine dwS (lk [0,1,2,3,5,6,7,9] (.alt 4 (.look 8 (.look 10 (.alt 11 .done .nil))) .nil)) [3] ?_;conv=>whnf
  repeat' ((conv=>whnf);first
   |refine⟨Fz.r F,rfl,?_⟩
   |refine⟨rfl,?_⟩
   |refine⟨⟨by decide,by decide⟩,?_⟩
   |fail)
  conv=>whnf
  refine sr_go hΘ ?_;refine bre dd ?_;refine dwS (lk [0,1,2,3,5,6,7,9] (.alt 4 (.look 8 (.look 10 (.alt 11 .done .nil))) .nil)) [3] ?_;conv=>whnf
  repeat' ((conv=>whnf);first
   |refine⟨Fz.r F,rfl,?_⟩
   |refine⟨rfl,?_⟩
   |refine⟨⟨by decide,by decide⟩,?_⟩
   |fail)
  conv=>whnf
  refine sr_go hΘ ?_;refine brd dd ?_
  exact clean [] (.ret (.tup [])) F [(1,.one (.cells 246 (w8 (add8 v ⟨a,b,c,d,e,f,g,hh⟩))))] 2 ⟨Fz.r F,rfl,rfl,by rw[S],rfl⟩ trivial rfl rfl (Out.bB_ok (o:=.ret (.tup [])) rfl) ⟨fw 2 246 (add8 v ⟨a,b,c,d,e,f,g,hh⟩),tv⟩
   ⟨Fz.r F,wC8 (add32 v.a a) (add32 v.b b) (add32 v.c c) (add32 v.d d) (add32 v.e e) (add32 v.f f) (add32 v.g g) (add32 v.h hh),tv⟩
def fullB(A:List UInt8):List UInt8:=A++List.replicate (32 - A.length) 0
theorem zN{A:List UInt8}(x:UInt8)(h:A.length < 32):(fullB A).set A.length x=fullB (A++[x]):=by
 unfold fullB;rw[qbu _ _ (qj _),qdo,ql,qb];obtain⟨m,a⟩:∃m,32 - A.length=m+1:=⟨31 - A.length,by omega⟩
 rw[a,qb9,qa0,yt,show 32 - (A.length+1)=m by omega];rfl
theorem vJ{A:List UInt8}(h:A.length<=32):(fullB A).length=32:=by simp[fullB];omega
theorem set1B{A:List UInt8}{j:Nat}{z:Int}(x:UInt8)(a:j=A.length)(h:A.length < 32)(b:z=(x.toNat:Int)):((fullB A).map encB).set j [SA.int .u8 z]=(fullB (A++[x])).map encB:=by
 subst a b;rw[show[SA.int .u8 (x.toNat:Int)]=encB x from rfl,<-qb4,zN x h]
theorem set4B{A:List UInt8}{a b c d:Nat}{e f g i:Int}(x:Nat)(h:A.length+4<=32)(n:a=A.length)(h1:b=A.length+1)(o:c=A.length+2)(p:d=A.length+3)
  (j:e=((UInt8.ofNat (x / 16777216)).toNat:Int))(k:f=((UInt8.ofNat (x / 65536)).toNat:Int))(l:g=((UInt8.ofNat (x / 256)).toNat:Int))(m:i=((UInt8.ofNat x).toNat:Int)):
  (((((fullB A).map encB).set a [SA.int .u8 e]).set b [SA.int .u8 f]).set c [SA.int .u8 g]).set d [SA.int .u8 i]=(fullB (A++be4 x)).map encB:=by
 rw[set1B _ n oo j,set1B _ (by rw[h1];simp) (by simp;omega) k,set1B _ (by rw[o];simp) (by simp;omega) l,set1B _ (by rw[p];simp) (by simp;omega) m]
 congr 2
 simp[be4]
theorem byteI(x n:Nat)(h:n<=32):IntKind.u8.wrap (shrI .u32 (x:Int) (n:Int))=((UInt8.ofNat (x / 2^n)).toNat:Int):=by
 rw[shr32 x n h];show((x / 2^n:Nat):Int) % 256=_;rw[qap];omega
abbrev rowB(A:List UInt8):Ent:=.one (.arr 290 1 ((fullB A).map encB) 32)
theorem x9(μ:Mu)(L:List UInt8)(c:Nat):(SB.arr 290 1 (L.map encB) c).ren μ=SB.arr 290 1 (L.map encB) c:=by
 show SB.arr 290 1 ((L.map encB).map (List.map (SA.ren μ))) c=_;rw[q8];congr 1
theorem uI(n:Nat)(L:List UInt8)(c:Nat):(SB.arr 290 1 (L.map encB) c).below n:=by
 intro x d a b;obtain⟨s,_,rfl⟩:=jk.1 d;rcases qs.1 b with rfl;trivial
theorem jC{l:List (List SA)}{j:Nat}{y x:List SA}(h:i≠j)(a:l[j]? =some x):(l.set i y)[j]? =some x:=by
 rw[qby h];exact a
def fb(A:List UInt8)(j:Nat):UInt8:=(fullB A)[j]?.getD 0
theorem getB{A:List UInt8}{j n:Nat}(b:j=n)(h:n < 32)(a:A.length<=32):((fullB A).map encB)[j]? =some (encB (fb A n)):=by
 have c:=vJ a;subst b;unfold fb;rw[qu,qc oo];rfl
def wl(v:W8):List Nat:=[v.a,v.b,v.c,v.d,v.e,v.f,v.g,v.h]
def preB(v:W8)(i:Nat):List UInt8:=((wl v).take i).flatMap be4
theorem xT(v:W8)(h:i<=8):(preB v i).length=4*i:=by
 have a:i=0\/i=1\/i=2\/i=3\/i=4\/i=5\/i=6\/i=7\/i=8:=by omega
 rcases a with rfl | rfl | rfl | rfl | rfl | rfl | rfl | rfl | rfl<;>rfl
theorem AC(v:W8)(h:i < 8):preB v (i+1)=preB v i++be4 (at0 (wl v) i):=by
 unfold preB at0;rw[qe (show i < (wl v).length from h),List.flatMap_append,qc (show i < (wl v).length from h)];simp
theorem Cd(v:W8):preB v 8=fd v:=by
 simp[preB,wl,fd,List.take,List.flatMap_cons]
theorem setI(v:W8){e f g h:Nat}{t0 t1 t2 t3:Int}(n:i < 8)(o:e=4*i+0)(h1:f=4*i+1)(p:g=4*i+2)(q:h=4*i+3)(j:t0=((24:Nat):Int))(k:t1=((16:Nat):Int))(l:t2=((8:Nat):Int))(m:t3=((0:Nat):Int)):
  (((((fullB (preB v i)).map encB).set e [SA.int .u8 (IntKind.u8.wrap (shrI .u32 ((at0 (wl v) i:Nat):Int) t0))]).set f [SA.int .u8 (IntKind.u8.wrap (shrI .u32 ((at0 (wl v) i:Nat):Int) t1))]).set g [SA.int .u8 (IntKind.u8.wrap (shrI .u32 ((at0 (wl v) i:Nat):Int) t2))]).set h [SA.int .u8 (IntKind.u8.wrap (shrI .u32 ((at0 (wl v) i:Nat):Int) t3))]=(fullB (preB v (i+1))).map encB:=by
 have s:=xT v (show i<=8 by omega);subst j k l m;have a:=byteI (at0 (wl v) i) 24 oo;have b:=byteI (at0 (wl v) i) 16 oo;have c:=byteI (at0 (wl v) i) 8 oo;have d:=byteI (at0 (wl v) i) 0 oo;rw[show 2^24=16777216 from rfl]at a;rw[show 2^16=65536 from rfl]at b;rw[show 2^8=256 from rfl]at c;rw[Nat.pow_zero,Nat.div_one]at d;rw[set4B (A:=preB v i) (at0 (wl v) i) oo oo oo oo oo a b c d,AC v n]
theorem s24:IntKind.i64.wrap (24 - IntKind.i64.wrap (8*0))=((24:Nat):Int):=by decide
theorem s16:IntKind.i64.wrap (24 - IntKind.i64.wrap (8*1))=((16:Nat):Int):=by decide
theorem s8:IntKind.i64.wrap (24 - IntKind.i64.wrap (8*2))=((8:Nat):Int):=by decide
theorem s0:IntKind.i64.wrap (24 - IntKind.i64.wrap (8*3))=((0:Nat):Int):=by decide
theorem za(F:Fz)(v:W8)(_:v.Ok):Fo prog F 176 [.agg (w8 v)] (fun o K=>o=.ret (.va (.str (fd v)))/\K=F):=by
 refine foS func176 ?_;refine nZ 2 (.arr 290 1 ((fullB []).map encB) 32) rfl (pT rfl rfl) (oF rfl) ?_
 refine aI hΘ (X:={ i:Nat // i<=8 }) (fun i=>[(8,.va (.int .i64 i.1))]) (4::5::6::jr 9 19 []) (fun i=>[(0,.frz F),(2,rowB (preB v i.1))]) 3 (fun i=>8 - i.1) ⟨0,by simp⟩
  (fun s u=>leI [] s u rfl ⟨tv,uI 3 (fullB []) 32,tv⟩ ⟨rfl,tv⟩ ⟨Fz.r F,(x9 _ (fullB []) 32).symm,tv⟩) ?_
 rintro⟨i,O⟩ s u;by_cases g:i < 8
 ·have Q:dm (w8 v) (((i:Nat):Int).toNat*1) 1=some [wd (at0 (wl v) i)]:=oQ (by
   rw[qg,show w8 v=(wl v).map wd from rfl,qu];unfold at0;rw[qc (show i < (wl v).length from g)];rfl)
  have l:IntKind.i64.wrap (IntKind.i64.wrap (4*(i:Int))+0)=((4*i+0:Nat):Int):=by rw[aF (n:=4*(i:Int)) oo oo,aF oo oo];omega
  have m:IntKind.i64.wrap (IntKind.i64.wrap (4*(i:Int))+1)=((4*i+1:Nat):Int):=by rw[aF (n:=4*(i:Int)) oo oo,aF oo oo];omega
  have p:IntKind.i64.wrap (IntKind.i64.wrap (4*(i:Int))+2)=((4*i+2:Nat):Int):=by rw[aF (n:=4*(i:Int)) oo oo,aF oo oo];omega
  have q:IntKind.i64.wrap (IntKind.i64.wrap (4*(i:Int))+3)=((4*i+3:Nat):Int):=by rw[aF (n:=4*(i:Int)) oo oo,aF oo oo];omega
  have e:(IntKind.i64.wrap (IntKind.i64.wrap (4*(i:Int))+0)).toNat=4*i+0:=by rw[l];exact qg _
  have f:(IntKind.i64.wrap (IntKind.i64.wrap (4*(i:Int))+1)).toNat=4*i+1:=by rw[m];exact qg _
  have j:(IntKind.i64.wrap (IntKind.i64.wrap (4*(i:Int))+2)).toNat=4*i+2:=by rw[p];exact qg _
  have k:(IntKind.i64.wrap (IntKind.i64.wrap (4*(i:Int))+3)).toNat=4*i+3:=by rw[q];exact qg _
  have R:=xT v O;have M:=vJ (A:=preB v i) oo;have w:=getB (A:=preB v i) e oo oo;have x:=getB (A:=preB v i) f oo oo;have y:=getB (A:=preB v i) j oo oo;have B:=getB (A:=preB v i) k oo oo;have G:(IntKind.i64.wrap (IntKind.i64.wrap (4*(i:Int))+0)).toNat≠(IntKind.i64.wrap (IntKind.i64.wrap (4*(i:Int))+1)).toNat:=by rw[e,f];omega
  have I:(IntKind.i64.wrap (IntKind.i64.wrap (4*(i:Int))+0)).toNat≠(IntKind.i64.wrap (IntKind.i64.wrap (4*(i:Int))+2)).toNat:=by rw[e,j];omega
  have J:(IntKind.i64.wrap (IntKind.i64.wrap (4*(i:Int))+0)).toNat≠(IntKind.i64.wrap (IntKind.i64.wrap (4*(i:Int))+3)).toNat:=by rw[e,k];omega
  have n12:(IntKind.i64.wrap (IntKind.i64.wrap (4*(i:Int))+1)).toNat≠(IntKind.i64.wrap (IntKind.i64.wrap (4*(i:Int))+2)).toNat:=by rw[f,j];omega
  have n13:(IntKind.i64.wrap (IntKind.i64.wrap (4*(i:Int))+1)).toNat≠(IntKind.i64.wrap (IntKind.i64.wrap (4*(i:Int))+3)).toNat:=by rw[f,k];omega
  have n23:(IntKind.i64.wrap (IntKind.i64.wrap (4*(i:Int))+2)).toNat≠(IntKind.i64.wrap (IntKind.i64.wrap (4*(i:Int))+3)).toNat:=by rw[j,k];omega
  have d:=setI v g e f j k s24 s16 s8 s0;refine br (fun _=>?_) (fun h=>absurd h (by simp;omega));refine⟨⟨by simp,by show(i:Int) < 8;omega⟩,[wd (at0 (wl v) i)],Q,?_⟩;conv=>whnf
  refine cR hΘ 4 ?_;refine bre dd ⟨by decide,⟨by show 0<=IntKind.i64.wrap (IntKind.i64.wrap (4*(i:Int))+0);rw[l];omega,by show IntKind.i64.wrap (IntKind.i64.wrap (4*(i:Int))+0) < 32;rw[l];omega⟩,encB (fb (preB v i) (4*i+0)),w,?_⟩;conv=>whnf
  refine sr_go hΘ ?_;refine bre dd ⟨by decide,⟨by show 0<=IntKind.i64.wrap (IntKind.i64.wrap (4*(i:Int))+1);rw[m];omega,by show IntKind.i64.wrap (IntKind.i64.wrap (4*(i:Int))+1) < 32;rw[m];omega⟩,encB (fb (preB v i) (4*i+1)),jC G x,?_⟩;conv=>whnf
  refine sr_go hΘ ?_;refine bre dd ⟨by decide,⟨by show 0<=IntKind.i64.wrap (IntKind.i64.wrap (4*(i:Int))+2);rw[p];omega,by show IntKind.i64.wrap (IntKind.i64.wrap (4*(i:Int))+2) < 32;rw[p];omega⟩,encB (fb (preB v i) (4*i+2)),jC n12 (jC I y),?_⟩;conv=>whnf
  refine sr_go hΘ ?_;refine bre dd ⟨by decide,⟨by show 0<=IntKind.i64.wrap (IntKind.i64.wrap (4*(i:Int))+3);rw[q];omega,by show IntKind.i64.wrap (IntKind.i64.wrap (4*(i:Int))+3) < 32;rw[q];omega⟩,encB (fb (preB v i) (4*i+3)),jC n23 (jC n13 (jC J B)),?_⟩;conv=>whnf
  refine sr_go hΘ ?_;refine brd dd ?_;exact⟨⟨i+1,by omega⟩,by show 8 - (i+1) < 8 - i;omega,leR [] s u rfl ⟨tv,uI 3 (fullB (preB v (i+1))) 32,tv⟩ ⟨cnt oo,tv⟩ ⟨Fz.r F,(congrArg (fun L=>SB.arr 290 1 L 32) d).trans (x9 _ (fullB (preB v (i+1))) 32).symm,tv⟩⟩
 ·have E:i=8:=by omega
  subst E;have a:fullB (preB v 8)=fd v:=by rw[Cd];unfold fullB;rw[Ea];simp
  have c:(fullB (preB v 8)).length=32:=by rw[a];rfl
  have D:List.take 32 (List.drop 0 ((fullB (preB v 8)).map encB))=(fd v).map fun b=>[SA.int .u8 b.toNat]:=by
   rw[y5,qk (by rw[qa,c];exact qj _),a];rfl
  refine brd ss ⟨(by show 0+32<=_;rw[qa,c];exact qj 32),_,rfl,fd v,D,?_⟩;exact endPu rfl (Fz.r F) rfl rfl
end Go.Proofs.YtfnkamphhpldcaaGreatDoor
namespace Sx
open Go Go.RowKit
variable {P:Program} {C:Ctx} {ρ:Rho} {h:Hp} {nx:Nat} {w:World}
theorem Sat.putObj(s:Sat C ρ h nx w){l:Nat}{o:Obj}(f:∀i k,St.owns h i k->ρ i k≠l)(n:C.w0.heap.size<=l):Sat C ρ h nx (w.putObj l o)where
 lt:=s.lt
 blk:=fun i e c k d=>by
  obtain⟨m,j,a⟩:=s.blk i e c k d;exact⟨m,(World.putObj_heap_other (f i k ⟨e,c,d⟩)).trans j,a⟩
 wf:=s.wf
 inj:=s.inj
 anch:=s.anch
 n0:=s.n0
 n1:=s.n1
 os:=s.os
 tape:=s.tape
 output:=s.output
 size:=by have:=s.size;simpa[World.putObj]using this
 fr:=fun b hb g=>(World.putObj_heap_other oo).trans (s.fr b hb g)
 own:=s.own
 fz:=s.fz
 id0:=s.id0
 only:=s.only
 lnk:=s.lnk
theorem Eb{f:FuncId}{args:List SV}{K:Out->Hp->Nat->Prop}{vs:List Value}(A:za7 P f args h nx K)(S:Sat C ρ h nx w)(I:relL ρ args vs)(hb:∀s∈args,s.below nx):
  Calls P f vs.toArray w fun e x=>∃out p g o,K out p g/\out.rel o e/\Sat C o p g x/\(∀i,i < nx->o i=ρ i)/\nx<=g/\(∀b,b < w.heap.size->(∀i k,i≠0->St.owns h i k->ρ i k≠b)->x.heap[b]? =w.heap[b]?):=by
 unfold za7 at A
 let q:Ctx:={ w0:=w,ρ0:=ρ,n0:=nx,B:=fun b=>∃i k,i≠0/\St.owns h i k/\ρ i k=b,R:=fun k=>St.owns h 0 k }
 have E:Sat q ρ h nx w:={ S with
  anch:=fun _ _ _=>rfl
  n0:=qj _
  n1:=S.pos
  os:=rfl
  tape:=rfl
  output:=rfl
  size:=qj _
  fr:=fun _ _ _=>rfl
  own:=fun i k ho=>by
   by_cases hi:i=0
   ·subst hi;exact .inl ⟨rfl,ho⟩
   ·exact .inr (.inl ⟨i,k,hi,ho,rfl⟩) }
 refine(A q ρ w vs E I hb).2.mono ?_;rintro e x ⟨out,p,g,o,G,ho,l,m,n,_⟩
 have u:∀b,b < C.w0.heap.size->¬C.B b->¬q.B b:=by
  rintro b c d ⟨i,k,hi,a,rfl⟩;rcases S.own i k a with h1 | h1 | h1
  ·exact hi h1.1
  ·exact d h1
  ·omega
 refine⟨out,p,g,o,G,ho,?_,m,n,fun b c d=>l.fr b c ?_⟩
 ·exact{ l with
   anch:=fun i hi k=>by rw[m i (yy hi S.n0)];exact S.anch i hi k
   n0:=jm S.n0 n
   n1:=S.n1
   os:=l.os.trans S.os
   tape:=l.tape.trans S.tape
   output:=l.output.trans S.output
   size:=jm S.size l.size
   fr:=fun b c d=>(l.fr b (yy c S.size) (u b c d)).trans (S.fr b c d)
   own:=fun i k a=>by
    rcases l.own i k a with⟨rfl,h1⟩ | ⟨j,k',hj,hown',D⟩ | h1
    ·have y:=S.own 0 k h1;rw[S.id0]at y;rw[l.id0];exact y
    ·rcases S.own j k' hown' with h3 | h3 | h3
     ·exact absurd h3.1 hj
     ·exact .inr (.inl (D▸h3))
     ·exact .inr (.inr (D▸h3))
    ·exact .inr (.inr (jm S.size h1)) }
 ·rintro⟨i,k,hi,a,rfl⟩;exact d i k hi a rfl
end Sx
namespace Sx
open Go Go.RowKit
section
variable {P:Program} {Θ:Tys}
theorem Sat.trashC{C:Ctx}{ρ:Rho}{h:Hp}{nx:Nat}{w a:World}(s:Sat C ρ h nx w){i:Nat}{e:Ent}(g:lget h i=some e)(u:e.plain=true)(p:e.has 0)(q:∀k,e.has k->k=0){f:Obj}(m:a.os=w.os)(B:a.tape=w.tape)(A:a.output=w.output)(n:a.heap.size=w.heap.size)
  (c:a.heap[ρ i 0]? =some f)(d:∀b,b≠ρ i 0->a.heap[b]? =w.heap[b]?):Sat C ρ (lput (lput h i (.one (.obj f))) i .gone) nx a:=by
 have y:=s.lt i _ g;have j:=s.ne0 g u;refine Sat.forget (s.upd (e':=.one (.obj f)) 0 g u rfl p ?_ f ?_ rfl trivial m B A n c d) y j
 ·intro o;constructor
  ·rintro rfl;exact p
  ·intro h;exact q o h
 ·intro o l x;exact absurd (q o x) l
abbrev colH(h:Hp)(i:Nat):Hp:=lput (lput h i (.one (.obj (.deferred none)))) i .gone
def colQ(Θ:Tys)(b:List ResultVar)(K:Out->Hp->Nat->Prop)(a:St):Prop:=
 match a.d with
 |[]=>sres Θ a b fun v=>K (.ret v) a.h a.nx
 |[(.col,[.iter i k])]=>k=0/\lget a.h i=some (.one (.obj (.deferred (some []))))/\sres Θ { a with h:=colH a.h i } b fun v=>K (.ret v) (colH a.h i) a.nx
 |_=>False
def endQC(Θ:Tys)(a:List ResultVar)(K:Out->Hp->Nat->Prop):SE->St->Prop:=fun e b=>
 match e with
 |.normal=>colQ Θ a K b
 |.ret=>colQ Θ a K b
 |_=>False
theorem Bq(hΘ:Θ.Ok P){f:FuncId}{fn:Func}{c:Code}{args:List SV}{h:Hp}{nx:Nat}{K:Out->Hp->Nat->Prop}(hf:P.funcs[f]? =some fn)(hb:fn.body=some c)(hn:(fn.name== "runtime.NumGoroutine")=false)
  (nt:Nat)(rs:List ResultVar)(ac:fn.ntmps=nt)(I:fn.results.toList=rs)(hl:Nat.ble args.length nt=true)
  (hx:WP P c ⟨[dV 0 args],h,nx,nx,nt,[]⟩ (endQC Θ rs K)):za7 P f args h nx K:=by
 unfold za7;intro C ρ w vs S j O;refine⟨enters_of hf hb hn,?_⟩;unfold WP at hx
 let A:Ctx:={ C with ρ0:=ρ,n0:=nx }
 have S1:Sat A ρ h nx w:={ S with anch:=fun _ _ _=>rfl,n0:=qj _,n1:=S.pos }
 have aa:=ky j;have ab:=nb hl
 have D:Den A ρ ⟨[dV 0 args],h,nx,nx,nt,[]⟩ { tmps:=vs.toArray++Array.replicate (fn.ntmps - vs.toArray.size) undef,defers:=[] } w:=by
  refine{ sat:=S1,nt:=?_,tm:=?_,tw:=?_,n0:=rfl,df:=rfl,dw:=by simp }
  ·simp;omega
  ·intro n s p;simp only[lget]at p;split at p
   ·rename_i v V;cases p
    obtain⟨u,_,E,h3,_⟩:=fD (nx:=nx) args vs 0 n s j V;simp only[qa7]at E;refine⟨u,?_,h3⟩;rw[qa9 (by simpa using(qh.1 E).1)];simpa using E
   ·simp at p
  ·intro n s p;simp only[lget]at p;split at p
   ·rename_i v V;cases p
    obtain⟨u,_,_,_,h4⟩:=fD (nx:=nx) args vs 0 n s j V;exact O s h4
   ·simp at p
 refine callsIn_wide.1 (callsIn_of_wp_marks (F:=Fence.wide) (n:=0) hf hb trivial (wpIn_wide.2 (wp_mono (hx A ρ _ w D) ?_)) rfl);rintro e M J ⟨se,a,g,L,rfl,d⟩
 have x:∀{E:Hp} {w2:World},Sat A g E a.nx w2->Sat C g E a.nx w2:=fun B=>{ B with
  anch:=fun i y k=>by rw[B.anch i (yy y S.n0) k];exact S.anch i y k
  n0:=jm S.n0 B.n0
  n1:=S.n1 }
 have G:∀i,i < nx->g i=ρ i:=fun i y=>funext fun k=>d.sat.anch i y k
 have ret:colQ Θ rs K a->LeavesInM Fence.wide 0 P fn M.tmps (fun e J=>∃out h' q g,K out h' q/\out.rel g e/\Sat C g h' q J/\(∀i,i < nx->g i=ρ i)/\nx<=q/\(match out with | .ret s=>s.below q | .panic _=>True)) M.defers .returning J:=by
  intro m;unfold colQ at m;have l:=d.df;split at m
  ·rename_i Q;rw[Q]at l;rw[l];rw[<-I]at m;obtain⟨v,sv,W,X,Y,Z⟩:=jV hΘ d m;exact⟨v,W,.ret sv,a.h,a.nx,g,Z,⟨v,rfl,X⟩,x d.sat,G,d.sat.n0,Y⟩
  ·rename_i i k Q;obtain⟨rfl,y,m⟩:=m;rw[Q]at l;rw[l];obtain⟨o,ho,T⟩:=d.sat.blk i _ y 0 rfl;have U:o=.deferred (some []):=T;subst U;have R:=(jp.1 ho).1
   have B:Sat A g (colH a.h i) a.nx (J.putObj (g i 0) (.deferred none)):=
    d.sat.trashC y rfl rfl (fun _ h=>h) rfl rfl rfl (by simp[World.putObj]) (World.putObj_heap_same R) (fun b hb=>World.putObj_heap_other hb)
   have D2:Den A g { a with h:=colH a.h i } M (J.putObj (g i 0) (.deferred none)):={ sat:=B,nt:=d.nt,tm:=d.tm,tw:=d.tw,n0:=d.n0,df:=d.df,dw:=d.dw }
   rw[<-I]at m;obtain⟨v,sv,W,X,Y,Z⟩:=jV hΘ D2 m;refine⟨by simp,.inl ⟨_,_,rfl,run_takeDeferred ho,?_⟩⟩;exact⟨v,W,.ret sv,_,a.nx,g,Z,⟨v,rfl,X⟩,x B,G,d.sat.n0,Y⟩
  ·exact m.elim
 cases se with
 |normal=>exact ret L
 |ret=>exact ret L
 |exit id=>exact L.elim
 |panic v=>exact L.elim
end
variable {P:Program} {C:Ctx} {ρ:Rho} {h:Hp} {nx:Nat} {w:World}
theorem Sat.same{d:Hp}(s:Sat C ρ h nx w)(a:∀i,lget d i=lget h i):Sat C ρ d nx w where
 lt:=fun i e h1=>s.lt i e (by rw[<-a];exact h1)
 blk:=fun i e h1=>s.blk i e (by rw[<-a];exact h1)
 wf:=fun i e h1=>s.wf i e (by rw[<-a];exact h1)
 inj:=fun i k i' j ⟨e,h1,c⟩ ⟨e',f,g⟩=>s.inj i k i' j ⟨e,by rw[<-a];exact h1,c⟩ ⟨e',by rw[<-a];exact f,g⟩
 anch:=s.anch
 n0:=s.n0
 n1:=s.n1
 os:=s.os
 tape:=s.tape
 output:=s.output
 size:=s.size
 fr:=s.fr
 own:=fun i k ⟨e,h1,c⟩=>s.own i k ⟨e,by rw[<-a];exact h1,c⟩
 fz:=by rw[a];exact s.fz
 id0:=s.id0
 only:=fun i F h1=>s.only i F (by rw[<-a];exact h1)
 lnk:=fun i b h1=>s.lnk i b (by rw[<-a];exact h1)
theorem Sat.adopt(s:Sat C ρ h nx w){D:Nat}{o:Obj}(E:w.heap[D]? =some o)(u:C.w0.heap.size<=D)(p:∀i k,St.owns h i k->ρ i k≠D):Sat C (rext ρ nx D) (lput h nx (.one (.obj o))) (nx+1) w:=by
 have a:∀i,i < nx->rext ρ nx D i=ρ i:=fun i b=>eK b
 have c:∀i k,St.owns h i k->i < nx:=fun i k ⟨e,d,_⟩=>s.lt i e d
 refine{ lt:=?_,blk:=?_,wf:=?_,inj:=?_,anch:=?_,n0:=qbg s.n0,n1:=s.n1,os:=s.os,tape:=s.tape,output:=s.output,size:=s.size,fr:=s.fr,own:=?_,fz:=by rw[aN _ _ _ _ (qcz s.pos)];exact s.fz,id0:=fun k=>by rw[a 0 s.pos];exact s.id0 k,only:=?_,lnk:=?_ }
 ·intro i e d;by_cases b:i=nx
  ·omega
  ·rw[aN _ _ _ _ b]at d;have:=s.lt i e d;omega
 ·intro i e d k j;by_cases b:i=nx
  ·subst b;rw[aR]at d;cases d
   exact⟨o,by rw[dg];exact E,rfl⟩
  ·rw[aN _ _ _ _ b]at d;have y:=s.lt i e d;obtain⟨I,g,n⟩:=s.blk i e d k j;exact⟨I,by rw[a i y];exact g,SB.ok_congr a (s.wf i e d k j) n⟩
 ·intro i e d k j;by_cases b:i=nx
  ·subst b;rw[aR]at d;cases d;trivial
  ·rw[aN _ _ _ _ b]at d;exact SB.below_mono (qac _) (s.wf i e d k j)
 ·intro i k i' J h1 B f;rcases eR h1 with⟨rfl,j⟩ | ⟨b,l⟩<;>rcases eR B with⟨rfl,x⟩ | ⟨G,g⟩
  ·simp only[Ent.has]at j x;exact⟨rfl,by omega⟩
  ·rw[dg,a i' (c _ _ g)]at f;exact absurd f.symm (p _ _ g)
  ·rw[dg,a i (c _ _ l)]at f;exact absurd f (p _ _ l)
  ·rw[a i (c _ _ l),a i' (c _ _ g)]at f;exact s.inj _ _ _ _ l g f
 ·intro i b k;have:=s.n0;rw[a i oo];exact s.anch i b k
 ·intro i k h1;rcases eR h1 with⟨rfl,j⟩ | ⟨b,l⟩
  ·right;right;rw[dg];exact u
  ·rw[a i (c _ _ l)];exact s.own _ _ l
 ·intro i F q;by_cases b:i=nx
  ·subst b;rw[aR]at q;cases q
  ·rw[aN _ _ _ _ b]at q;exact s.only i F q
 ·intro i A m k;by_cases b:i=nx
  ·subst b;rw[aR]at m;cases m
  ·rw[aN _ _ _ _ b]at m;rw[a i (s.lt i _ m)];exact s.lnk i A m k
section
variable {n l:Nat} {a:Act} {ops:Array Oper} {Q:Exit->Act->World->Prop} {rest:List Oper} {o:Oper}
theorem sZ{F:Fence}{x:Operand}{v:Value}(ho:o.op=.move x\/o.op=.assign x)(m:o.guard=none)(j:a.eval x=v)(h:wpListIn F n P ops Q rest (a.put o.dst v) w):wpListIn F n P ops Q (o::rest) a w:=by
 have b:Region.wanted o (yielded ops a.tmps)=true:=by simp[Region.wanted,m]
 simp only[wpListIn,b,if_true];have g:∀c,o.op≠.defer c:=by rintro c e;rcases ho with ho | ho<;>rw[ho]at e<;>cases e
 refine⟨fun f k=>?_,?_⟩
 ·rcases ho with ho | ho<;>simp[Oper.about,ho]at k
 ·rw[Oper.semAt_eq _ _ _ g];obtain⟨i,p,type,pos,d,guard⟩:=o;subst j;rcases ho with ho | ho<;>simp only at ho<;>subst ho
  ·simpa[execOp,Oper.uponIn]using h
  ·simpa[execOp,Oper.uponIn]using h
theorem C3{f:FuncId}{args:Array Operand}{ts:Array TypeId}{vs:Array Value}{R:Ending->World->Prop}(p:o.op=.call ⟨.value (.func f),args,ts⟩)(A:o.guard=none)(q:Enters P f)(B:args.map a.eval=vs)(x:Calls P f vs w R)
  (h:∀e i,R e i->∃v,e=.returned v/\wpListIn (Fence.wide.inRound l) n P ops Q rest (a.put o.dst v) i):wpListIn (Fence.wide.inRound l) n P ops Q (o::rest) a w:=by
 have d:Region.wanted o (yielded ops a.tmps)=true:=by simp[Region.wanted,A]
 simp only[wpListIn,d,if_true];have m:∀c,o.op≠.defer c:=by rintro c e;rw[p]at e;cases e
 refine⟨fun _ _=>trivial,?_⟩;rw[Oper.semAt_eq _ _ _ m];obtain⟨j,D,type,pos,b,guard⟩:=o;simp only at p;subst p;unfold Enters at q
 have g:(execOp a.eval ⟨j,.call ⟨.value (.func f),args,ts⟩,type,pos,b,guard⟩).run P w=.ok (.enter f vs) w:=by
  simp[execOp,resolve,Act.eval,Deferred.ofValue,invoke,B,q]
 simp only[g,Oper.uponIn];refine⟨fun y=>by simp[Fence.wide]at y,?_⟩;have k:CallsIn Fence.wide (n - 1) P f vs w R:=callsIn_wide.2 x;refine CallsIn.mono (F:=Fence.wide) k ?_;intro e i u;obtain⟨v,rfl,s⟩:=h e i u;exact s
end
end Sx
