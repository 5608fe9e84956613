import Derived.Test.YtfnkamphhpldcaaGreatDoorK25
import Derived.Test.YtfnkamphhpldcaaGreatDoorK10
import Derived.Test.YtfnkamphhpldcaaGreatDoorK21
set_option maxHeartbeats 64000000
namespace Go.Proofs.YtfnkamphhpldcaaGreatDoor
open Go Sx
set_option maxRecDepth 100000
theorem zx3{p:Int}{v:Val}(a:Fits v):(zbp p v).length<=100000000000:=by
 unfold zbp;split
 ·simp
 split
 ·have h1:=za7 [v.w,v.h];have b:=zcl v.bits;rw[qd];simp only[qj,qu]at h1;split
  ·omega
  ·simp only[qu];omega
 ·have h1:=za7 [(v.lines.length:Int)];have b:=zjt (p:=p) v.lines (fun x d=>(a.h2 x d).2);have c:=a.h1;rw[qd];simp only[qj,qu]at h1;have e:74545*v.lines.length<=74545*1000:=qb7 _ c;omega
def foldB(b:UInt8):UInt8:=if 65<=b.toNat/\b.toNat<=90 then UInt8.ofNat (b.toNat+32)else b
theorem zss(b:UInt8):foldB b=Lib.lowerB b:=by
 unfold foldB Lib.lowerB Lib.isUpperB;by_cases h:65<=b.toNat/\b.toNat<=90
 ·have h1:(65:UInt8)<=b:=qbt.2 h.1;have c:b<=(90:UInt8):=qbt.2 h.2;rw[if_pos h,if_pos (by simp[h1,c])];apply qbp.1;rw[UInt8.toNat_add,qan];rfl
 ·rw[if_neg h,if_neg];intro a;simp only[qg,decide_eq_true_eq]at a;exact h ⟨qbt.1 a.1,qbt.1 a.2⟩
theorem zwt(s:List UInt8):s.map foldB=Lib.toLowerA s:=by
 unfold Lib.toLowerA;exact ju fun b _=>zss b
theorem z7c(F:Fz)(s:List UInt8)(K:s.length < 1000000):Fo Tryz.prog F 123 [.va (.str s)] (fun o I=>o=.ret (.va (.str (s.map foldB)))/\I=F):=by
 refine foS Tryz.func123 ?_;conv=>whnf
 refine zak hΘ (X:={ x:Nat×List UInt8×Nat // x.1<=s.length/\x.2.1=(s.take x.1).map foldB }) (fun x=>[(3,.va (gA 1 1 x.1.2.2 x.1.2.1)),(4,.va (.int .i64 x.1.1))]) (jr 5 23 [])
  (fun x=>[(0,.frz F),(1,gE 5 1 encB x.1.2.2 x.1.2.1)]) 2 (fun x=>s.length - x.1.1) ⟨(0,[],0),by simp⟩
  (fun g l=>leI [(1,1)] g l rfl ⟨tv,zab zaa _ _ _ _ _,tv⟩ ⟨rfl,rfl,tv⟩ ⟨Fz.r F,rfl,tv⟩) ?_
 rintro⟨⟨k,out,c⟩,G,D⟩ g l;replace G:k<=s.length:=G;replace D:out=(s.take k).map foldB:=D;have d:out.length=k:=by rw[D,qe,qo];omega
 refine br (fun y=>?_) (fun y=>?_)
 ·have E:k < s.length:=by
   have B:(k:Int) < (s.length:Int):=od y;omega
  clear y;have a:(s.take (k+1)).map foldB=out++[foldB s[k]]:=by rw[qf E,qs,D];rfl
  have J:=qcf s[k];refine⟨by dsimp only;omega,s[k],by dsimp only;rw[qk,qa E],fun w=>?_,fun w=>?_⟩
  ·have q:65<=s[k].toNat:=by
    have B:(65:Int)<=s[k].toNat:=od w;omega
   clear w;refine br (fun A=>?_) (fun A=>?_)
   ·have u:s[k].toNat<=90:=by
     have B:(s[k].toNat:Int)<=90:=od A;omega
    clear A
    have m:SA.int .u8 (IntKind.u8.wrap (IntKind.u8.wrap ((s[k].toNat:Int) - 65)+97))=SA.int .u8 ((foldB s[k]).toNat:Int):=by
     have h1:=z3p (n:=(s[k].toNat:Int) - 65) (by omega) (by omega);rw[foldB,if_pos ⟨q,u⟩,h1,show(s[k].toNat:Int) - 65+97=((s[k].toNat+32:Nat):Int)by omega];exact zn6 _ (by omega)
    rcases out with _ | ⟨e,b⟩
    ·refine⟨nb rfl,[encB (foldB s[k])],by show[[SA.int .u8 _]]=_;rw[m];rfl,rfl,rfl,nb rfl,fun c' f=>?_⟩;clear f;exact⟨⟨(k+1,([]:List UInt8)++[foldB s[k]],c'),by show k+1<=s.length;omega,a.symm⟩,by show s.length - (k+1) < s.length - k;omega,leR [(1,3)] g l rfl ⟨tv,zab zaa _ _ _ _ _,tv⟩ ⟨zdh (μ:=sig [(1,3)]) (i:=1) (j:=3) rfl 1 c' _ ([]) (foldB s[k]) rfl,cnt (by omega),tv⟩ ⟨Fz.r F,zaj zaa (za3 [encB (foldB s[k])] rfl),tv⟩⟩
    ·skip
     replace d:b.length+1=k:=d;refine⟨nb rfl,[encB (foldB s[k])],by show[[SA.int .u8 _]]=_;rw[m];rfl,rfl,rfl,by simp,rfl,by show(b.length+1+1)*1<=140737488355328;omega,fun c' f=>?_⟩;clear f;exact⟨⟨(k+1,(e::b:List UInt8)++[foldB s[k]],c'),by show k+1<=s.length;omega,a.symm⟩,by show s.length - (k+1) < s.length - k;omega,leR [(1,3)] g l rfl ⟨tv,zab zaa _ _ _ _ _,tv⟩ ⟨zdh (μ:=sig [(1,3)]) (i:=1) (j:=3) rfl 1 c' _ (e::b) (foldB s[k]) rfl,cnt (by omega),tv⟩ ⟨Fz.r F,zaj zaa (za3 _ (by simp)),tv⟩⟩
   ·have u:¬s[k].toNat<=90:=by
     have B:¬(s[k].toNat:Int)<=90:=oe A;omega
    clear A;have m:SA.int .u8 (s[k].toNat:Int)=SA.int .u8 ((foldB s[k]).toNat:Int):=by rw[foldB,if_neg (fun h=>u h.2)]
    rcases out with _ | ⟨e,b⟩
    ·refine⟨nb rfl,[encB (foldB s[k])],by show[[SA.int .u8 _]]=_;rw[m];rfl,rfl,rfl,nb rfl,fun c' f=>?_⟩;clear f;exact⟨⟨(k+1,([]:List UInt8)++[foldB s[k]],c'),by show k+1<=s.length;omega,a.symm⟩,by show s.length - (k+1) < s.length - k;omega,leR [(1,3)] g l rfl ⟨tv,zab zaa _ _ _ _ _,tv⟩ ⟨zdh (μ:=sig [(1,3)]) (i:=1) (j:=3) rfl 1 c' _ ([]) (foldB s[k]) rfl,cnt (by omega),tv⟩ ⟨Fz.r F,zaj zaa (za3 [encB (foldB s[k])] rfl),tv⟩⟩
    ·skip
     replace d:b.length+1=k:=d;refine⟨nb rfl,[encB (foldB s[k])],by show[[SA.int .u8 _]]=_;rw[m];rfl,rfl,rfl,by simp,rfl,by show(b.length+1+1)*1<=140737488355328;omega,fun c' f=>?_⟩;clear f;exact⟨⟨(k+1,(e::b:List UInt8)++[foldB s[k]],c'),by show k+1<=s.length;omega,a.symm⟩,by show s.length - (k+1) < s.length - k;omega,leR [(1,3)] g l rfl ⟨tv,zab zaa _ _ _ _ _,tv⟩ ⟨zdh (μ:=sig [(1,3)]) (i:=1) (j:=3) rfl 1 c' _ (e::b) (foldB s[k]) rfl,cnt (by omega),tv⟩ ⟨Fz.r F,zaj zaa (za3 _ (by simp)),tv⟩⟩
  ·have q:¬65<=s[k].toNat:=by
    have B:¬(65:Int)<=s[k].toNat:=oe w;omega
   clear w;have m:SA.int .u8 (s[k].toNat:Int)=SA.int .u8 ((foldB s[k]).toNat:Int):=by rw[foldB,if_neg (fun h=>q h.1)]
   rcases out with _ | ⟨e,b⟩
   ·refine⟨nb rfl,[encB (foldB s[k])],by show[[SA.int .u8 _]]=_;rw[m];rfl,rfl,rfl,nb rfl,fun c' f=>?_⟩;clear f;exact⟨⟨(k+1,([]:List UInt8)++[foldB s[k]],c'),by show k+1<=s.length;omega,a.symm⟩,by show s.length - (k+1) < s.length - k;omega,leR [(1,3)] g l rfl ⟨tv,zab zaa _ _ _ _ _,tv⟩ ⟨zdh (μ:=sig [(1,3)]) (i:=1) (j:=3) rfl 1 c' _ ([]) (foldB s[k]) rfl,cnt (by omega),tv⟩ ⟨Fz.r F,zaj zaa (za3 [encB (foldB s[k])] rfl),tv⟩⟩
   ·skip
    replace d:b.length+1=k:=d;refine⟨nb rfl,[encB (foldB s[k])],by show[[SA.int .u8 _]]=_;rw[m];rfl,rfl,rfl,by simp,rfl,by show(b.length+1+1)*1<=140737488355328;omega,fun c' f=>?_⟩;clear f;exact⟨⟨(k+1,(e::b:List UInt8)++[foldB s[k]],c'),by show k+1<=s.length;omega,a.symm⟩,by show s.length - (k+1) < s.length - k;omega,leR [(1,3)] g l rfl ⟨tv,zab zaa _ _ _ _ _,tv⟩ ⟨zdh (μ:=sig [(1,3)]) (i:=1) (j:=3) rfl 1 c' _ (e::b) (foldB s[k]) rfl,cnt (by omega),tv⟩ ⟨Fz.r F,zaj zaa (za3 _ (by simp)),tv⟩⟩
 ·have E:¬k < s.length:=by
   have B:¬(k:Int) < (s.length:Int):=oe y;omega
  clear y;have p:out=s.map foldB:=by rw[D,qh (by omega)]
  rcases out with _ | ⟨e,b⟩
  ·exact endFs (.ret (.va (.str []))) (Fz.r F) ⟨by rw[p],rfl⟩
  ·refine⟨rfl,by simp,(e::b).map encB,by simp[qh],e::b,rfl,?_⟩;exact endFs (.ret (.va (.str (e::b)))) (Fz.r F) ⟨by rw[p],rfl⟩
def spc:Bool->List UInt8->List UInt8
 |_,[]=>[]
 |p,b::r=>if b=32/\p=true then spc true r else b::spc (b==32) r
def lastS(p:Bool):List UInt8->Bool
 |[]=>p
 |b::r=>lastS (b==32) r
theorem zv0:∀(l:List UInt8) (p:Bool) (x:UInt8),spc p (l++[x])=spc p l++(if x=32/\lastS p l=true then []else [x])
 |[],p,x=>by
  by_cases h:x=32/\p=true
  ·simp[spc,lastS,h]
  ·simp[spc,lastS,h]
 |b::r,p,x=>by
  have ih:=zv0 r;by_cases h:b=32/\p=true
  ·obtain⟨rfl,rfl⟩:=h;simp[spc,lastS,ih]
  ·rw[jt,spc,if_neg h,spc,if_neg h,ih,jt];rfl
theorem zwy{s:List UInt8}{k:Nat}(h:k < s.length)(p:Bool):lastS p (s.take (k+1))=(s[k]==32):=by
 induction s generalizing k p with
 |nil=>simp at h
 |cons b r ih=>
  cases k with
  |zero=>simp[lastS]
  |succ k=>simp only[qdo,lastS,List.getElem_cons_succ];exact ih (by simpa using h) _
theorem z2x:∀(l:List UInt8) (p:Bool),(spc p l).length<=l.length
 |[],p=>by simp[spc]
 |b::r,p=>by
  rw[spc];split
  ·have:=z2x r true;simp only[qj];omega
  ·have:=z2x r (b==32);simp only[qj];omega
theorem zxk(F:Fz)(s:List UInt8)(V:s.length < 1000000):Fo Tryz.prog F 124 [.va (.str s)] (fun o Q=>o=.ret (.va (.str (spc false s)))/\Q=F):=by
 refine foS Tryz.func124 ?_;conv=>whnf
 refine zak hΘ (X:={ x:Nat×List UInt8×Nat // x.1<=s.length/\x.2.1=spc false (s.take x.1) }) (fun x=>[(3,.va (gA 1 1 x.1.2.2 x.1.2.1)),(4,.va (.int .i64 x.1.1))]) (jr 5 27 [])
  (fun x=>[(0,.frz F),(1,gE 5 1 encB x.1.2.2 x.1.2.1)]) 2 (fun x=>s.length - x.1.1) ⟨(0,[],0),by simp[spc]⟩
  (fun m n=>leI [(1,1)] m n rfl ⟨tv,zab zaa _ _ _ _ _,tv⟩ ⟨rfl,rfl,tv⟩ ⟨Fz.r F,rfl,tv⟩) ?_
 rintro⟨⟨k,out,c⟩,O,J⟩ m n;replace O:k<=s.length:=O;replace J:out=spc false (s.take k):=J
 have f:out.length<=k:=by
  have:=z2x (s.take k) false;rw[J];rw[qo]at this;omega
 refine br (fun E=>?_) (fun E=>?_)
 ·have p:k < s.length:=by
   have l:(k:Int) < (s.length:Int):=od E;omega
  clear E;have b:spc false (s.take (k+1))=out++(if s[k]=32/\lastS false (s.take k)=true then []else [s[k]]):=by rw[qf p,zv0,J]
  have A:(s[k].toNat:Int)=32↔s[k]=32:=by
   constructor
   ·intro h;exact qbp.1 (by (have:s[k].toNat=32:=by omega);simpa using this)
   ·intro h;rw[h];rfl
  have K:k - 1 < s.length:=by omega
  have I:¬k=0->lastS false (s.take k)=(s[k - 1]==32):=fun l=>by
   have:=zwy K false
   rwa[show k - 1+1=k by omega]at this
  have B:(!decide ((s[k - 1].toNat:Int)=32))=true↔¬s[k - 1]=32:=by
   rw[qar,decide_eq_false_iff_not];refine not_congr ⟨fun h=>qbp.1 ?_,fun h=>by rw[h];rfl⟩;have:s[k - 1].toNat=32:=by omega
   simpa using this
  have R:¬k=0->¬s[k - 1]=32->spc false (s.take (k+1))=out++[s[k]]:=fun l h=>by rw[b,I l,if_neg (fun L=>h (by simpa using L.2))]
  have S:s[k]=32->¬k=0->s[k - 1]=32->spc false (s.take (k+1))=out:=fun h1 l h=>by rw[b,I l,if_pos ⟨h1,by simpa using h⟩,q5]
  have T:k=0->spc false (s.take (k+1))=out++[s[k]]:=fun l=>by
   have I:lastS false (s.take k)=false:=by rw[l];rfl
   rw[b,I,if_neg (fun h=>by simp at h)]
  have U:¬s[k]=32->spc false (s.take (k+1))=out++[s[k]]:=fun h=>by rw[b,if_neg (fun L=>h L.1)]
  clear b I;refine⟨by dsimp only;omega,s[k],by dsimp only;rw[qk,qa p],fun D=>?_,fun D=>?_⟩
  ·have w:s[k]=32:=A.1 (by simpa using D);clear D;refine⟨fun G=>?_,fun G=>?_⟩
   ·have q:¬k=0:=by
     have l:¬(k:Int)=0:=oe G;omega
    clear G;conv=>whnf
    have M:IntKind.i64.wrap ((k:Int) - 1)=((k - 1:Nat):Int):=by rw[zah (by omega) (by omega)];omega
    refine⟨by dsimp only;rw[M];omega,s[k - 1],by dsimp only;rw[M,qk,qa (by omega)],?_⟩;refine br (fun y=>?_) (fun y=>?_)
    ·have a:=R q (B.1 y);clear y;rcases out with _ | ⟨e,d⟩
     ·refine⟨by dsimp only;omega,s[k],by dsimp only;rw[qk,qa p],nb rfl,[encB s[k]],rfl,rfl,rfl,nb rfl,fun c' g=>?_⟩;clear g;exact⟨⟨(k+1,([]:List UInt8)++[s[k]],c'),by show k+1<=s.length;omega,a.symm⟩,by show s.length - (k+1) < s.length - k;omega,leR [(1,3)] m n rfl ⟨tv,zab zaa _ _ _ _ _,tv⟩ ⟨zdh (μ:=sig [(1,3)]) (i:=1) (j:=3) rfl 1 c' _ ([]) s[k] rfl,cnt (by omega),tv⟩ ⟨Fz.r F,zaj zaa (za3 [encB s[k]] rfl),tv⟩⟩
     ·skip
      replace f:d.length+1<=k:=f;refine⟨by dsimp only;omega,s[k],by dsimp only;rw[qk,qa p],nb rfl,[encB s[k]],rfl,rfl,rfl,by simp,rfl,by show(d.length+1+1)*1<=140737488355328;omega,fun c' g=>?_⟩;clear g;exact⟨⟨(k+1,(e::d:List UInt8)++[s[k]],c'),by show k+1<=s.length;omega,a.symm⟩,by show s.length - (k+1) < s.length - k;omega,leR [(1,3)] m n rfl ⟨tv,zab zaa _ _ _ _ _,tv⟩ ⟨zdh (μ:=sig [(1,3)]) (i:=1) (j:=3) rfl 1 c' _ (e::d) s[k] rfl,cnt (by omega),tv⟩ ⟨Fz.r F,zaj zaa (za3 _ (by simp)),tv⟩⟩
    ·have a:=S w q (Decidable.byContradiction fun h=>by rw[B.2 h]at y;cases y);clear y;rcases out with _ | ⟨e,d⟩
     ·exact⟨⟨(k+1,([]:List UInt8),c),by show k+1<=s.length;omega,a.symm⟩,by show s.length - (k+1) < s.length - k;omega,leR [(1,1)] m n rfl ⟨tv,zab zaa _ _ _ _ _,tv⟩ ⟨rfl,cnt (by omega),tv⟩ ⟨Fz.r F,zaj zaa (zao _ _ _ _),tv⟩⟩
     ·exact⟨⟨(k+1,(e::d:List UInt8),c),by show k+1<=s.length;omega,a.symm⟩,by show s.length - (k+1) < s.length - k;omega,leR [(1,1)] m n rfl ⟨tv,zab zaa _ _ _ _ _,tv⟩ ⟨⟨rfl,rfl,rfl,.inr ⟨rfl,rfl,rfl,rfl⟩⟩,cnt (by omega),tv⟩ ⟨Fz.r F,zaj zaa (zao _ _ _ _),tv⟩⟩
   ·have q:k=0:=by
     have l:(k:Int)=0:=od G;omega
    clear G;have a:=T q;rcases out with _ | ⟨e,d⟩
    ·refine⟨by dsimp only;omega,s[k],by dsimp only;rw[qk,qa p],nb rfl,[encB s[k]],rfl,rfl,rfl,nb rfl,fun c' g=>?_⟩;clear g;exact⟨⟨(k+1,([]:List UInt8)++[s[k]],c'),by show k+1<=s.length;omega,a.symm⟩,by show s.length - (k+1) < s.length - k;omega,leR [(1,3)] m n rfl ⟨tv,zab zaa _ _ _ _ _,tv⟩ ⟨zdh (μ:=sig [(1,3)]) (i:=1) (j:=3) rfl 1 c' _ ([]) s[k] rfl,cnt (by omega),tv⟩ ⟨Fz.r F,zaj zaa (za3 [encB s[k]] rfl),tv⟩⟩
    ·skip
     replace f:d.length+1<=k:=f;refine⟨by dsimp only;omega,s[k],by dsimp only;rw[qk,qa p],nb rfl,[encB s[k]],rfl,rfl,rfl,by simp,rfl,by show(d.length+1+1)*1<=140737488355328;omega,fun c' g=>?_⟩;clear g;exact⟨⟨(k+1,(e::d:List UInt8)++[s[k]],c'),by show k+1<=s.length;omega,a.symm⟩,by show s.length - (k+1) < s.length - k;omega,leR [(1,3)] m n rfl ⟨tv,zab zaa _ _ _ _ _,tv⟩ ⟨zdh (μ:=sig [(1,3)]) (i:=1) (j:=3) rfl 1 c' _ (e::d) s[k] rfl,cnt (by omega),tv⟩ ⟨Fz.r F,zaj zaa (za3 _ (by simp)),tv⟩⟩
  ·have w:¬s[k]=32:=fun h=>by
    have:=A.2 h;simp[this]at D
   have a:=U w;clear D;rcases out with _ | ⟨e,d⟩
   ·refine⟨by dsimp only;omega,s[k],by dsimp only;rw[qk,qa p],nb rfl,[encB s[k]],rfl,rfl,rfl,nb rfl,fun c' g=>?_⟩;clear g;exact⟨⟨(k+1,([]:List UInt8)++[s[k]],c'),by show k+1<=s.length;omega,a.symm⟩,by show s.length - (k+1) < s.length - k;omega,leR [(1,3)] m n rfl ⟨tv,zab zaa _ _ _ _ _,tv⟩ ⟨zdh (μ:=sig [(1,3)]) (i:=1) (j:=3) rfl 1 c' _ ([]) s[k] rfl,cnt (by omega),tv⟩ ⟨Fz.r F,zaj zaa (za3 [encB s[k]] rfl),tv⟩⟩
   ·skip
    replace f:d.length+1<=k:=f;refine⟨by dsimp only;omega,s[k],by dsimp only;rw[qk,qa p],nb rfl,[encB s[k]],rfl,rfl,rfl,by simp,rfl,by show(d.length+1+1)*1<=140737488355328;omega,fun c' g=>?_⟩;clear g;exact⟨⟨(k+1,(e::d:List UInt8)++[s[k]],c'),by show k+1<=s.length;omega,a.symm⟩,by show s.length - (k+1) < s.length - k;omega,leR [(1,3)] m n rfl ⟨tv,zab zaa _ _ _ _ _,tv⟩ ⟨zdh (μ:=sig [(1,3)]) (i:=1) (j:=3) rfl 1 c' _ (e::d) s[k] rfl,cnt (by omega),tv⟩ ⟨Fz.r F,zaj zaa (za3 _ (by simp)),tv⟩⟩
 ·have p:¬k < s.length:=by
   have l:¬(k:Int) < (s.length:Int):=oe E;omega
  clear E;have u:out=spc false s:=by rw[J,qh (by omega)]
  rcases out with _ | ⟨e,d⟩
  ·exact endFs (.ret (.va (.str []))) (Fz.r F) ⟨by rw[u],rfl⟩
  ·refine⟨rfl,by simp,(e::d).map encB,by simp[qh],e::d,rfl,?_⟩;exact endFs (.ret (.va (.str (e::d)))) (Fz.r F) ⟨by rw[u],rfl⟩
def vals:List UInt8->Nat
 |[]=>0
 |b::r=>b.toNat % 128+128*vals r
theorem zmh:∀(l:List UInt8) (b:UInt8),vals (l++[b])=vals l+b.toNat % 128*128^l.length
 |[],b=>by simp[vals]
 |x::r,b=>by
  simp only[jt,vals,zmh r b,qj,qce,qdt]
  have:128*(b.toNat % 128*128^r.length)=b.toNat % 128*(128^r.length*128):=by
   rw[qab (128^r.length) 128,<-qcm,<-qcm,qab 128 (b.toNat % 128)]
  omega
theorem ya1(z:Nat):putZ z≠[]:=by
 by_cases h:z < 128
 ·rw[zf6 h];simp
 ·rw[zhd h];simp
theorem zrd:∀(a:List UInt8) (b:UInt8),(∀x∈a,128<=x.toNat)->b.toNat < 128->(a=[]\/b≠0)->putZ (vals (a++[b]))=a++[b]
 |[],b,_,hb,_=>by
  have e:vals ([]++[b])=b.toNat:=by simp[vals,jq hb]
  rw[e,zf6 hb];simp
 |x::r,b,hp,hb,hn=>by
  have c:b≠0:=by rcases hn with h | h;cases h;exact h
  have d:0 < b.toNat:=by
   refine Nat.pos_of_ne_zero fun h=>c (qbp.1 (by simpa using h))
  have ih:=zrd r b (fun y g=>hp y (yl _ g)) hb (.inr c)
  have i:1<=vals (r++[b]):=by
   rw[zmh,jq hb];have:1*1<=b.toNat*128^r.length:=qav d (Nat.pow_pos (by omega));omega
  have j:=hp x (qbm ..);have f:=x.toNat_lt;have e:vals ((x::r)++[b])=x.toNat % 128+128*vals (r++[b]):=rfl;rw[e,zhd (by omega),show(x.toNat % 128+128*vals (r++[b])) / 128=vals (r++[b])by omega,ih,show(x.toNat % 128+128*vals (r++[b])) % 128+128=x.toNat by omega];simp
theorem z1g(z:Nat):∀l:List UInt8,putZ z=l++[0]->l=[]:=by
 induction z using Nat.strongRecOn with
 |_ z ih=>
  intro l h;by_cases d:z < 128
  ·rw[zf6 d]at h;cases l with
   |nil=>rfl
   |cons y r=>cases r<;>simp at h
  ·rw[zhd d]at h;cases l with
   |nil=>rfl
   |cons y r=>
    simp only[jt,List.cons.injEq]at h;have e:=ih (z / 128) (by omega) r h.2;subst e;have a:=h.2;by_cases b:z / 128 < 128
    ·rw[zf6 b]at a;simp only[qv,List.cons.injEq,and_true]at a;have c:=congrArg UInt8.toNat a;rw[qan,jq (by omega)]at c;have f:z / 128=0:=c;omega
    ·rw[zhd b]at a;simp only[qv,List.cons.injEq]at a;exact absurd a.2 (ya1 _)
theorem ybw(z:Nat):zig (unz z)=z:=by
 unfold zig unz;split<;>split<;>omega
theorem zrc{z:Nat}(h:¬unz z < -4611686018427387903)(b:z < 9223372036854775808):putIR (unz z)=(putZ z,0):=by
 have a:unz z<=4611686018427387903:=by unfold unz;split<;>omega
 rw[putIR,if_neg (by omega),putI,ybw]
theorem znm{z:Nat}(h:unz z < -4611686018427387903):putIR (unz z)=([],10):=by
 rw[putIR,if_pos (.inl h)]
theorem z07(a:List UInt8)(b:UInt8)(f:∀x∈a,128<=x.toNat)(hb:b.toNat < 128):putZ (vals (a++[b]))=a++[b]↔¬(b=0/\0 < a.length):=by
 constructor
 ·rintro h ⟨rfl,e⟩;have:=z1g _ _ h;subst this;simp at e
 ·intro h;refine zrd a b f hb ?_;by_cases c:b=0
  ·exact .inl (yw (by
    have:¬0 < a.length:=fun d=>h ⟨c,d⟩
    omega))
  ·exact .inr c
theorem z1t(F:Fz)(s:List UInt8)(p:Int)(hs:s.length<=1000000000000000000)(hp:i64 p):
  Fo Tryz.prog F 84 [.va (.str s),.va (.int .i64 p)] (fun o F'=>o=.ret (.tup [.va (.int .i64 (getI s p).1),.va (.int .i64 (getI s p).2.1),.va (.int .i64 (getI s p).2.2)])/\F'=F):=by
 have d:∀(n x e:Int) (h:Hp) (nx:Nat),getI s p=(n,x,e)->lget h 0=some (.frz F)->
   Cln 1 (FoK F fun o F'=>o=.ret (.tup [.va (.int .i64 (getI s p).1),.va (.int .i64 (getI s p).2.1),.va (.int .i64 (getI s p).2.2)])/\F'=F) (.ret (.tup [.va (.int .i64 n),.va (.int .i64 x),.va (.int .i64 e)])) h nx:=by
  intro n x e h nx hv l;exact endFo (.ret (.tup [.va (.int .i64 n),.va (.int .i64 x),.va (.int .i64 e)])) F l (Fz.r F) (Fz.r F) ⟨by rw[hv],rfl⟩ (zal _) rfl
 refine foS Tryz.func84 ?_;refine⟨fun g=>?_,fun g=>?_⟩
 ·have g1:¬p < 0:=by simpa using g
  refine br (fun g=>?_) (fun g=>?_)
  ·have g2:(s.length:Int) < p:=by simpa using g
   exact d 0 0 2 _ _ (by rw[getI,if_pos (.inr g2)]) rfl
  ·have g2:¬(s.length:Int) < p:=by simpa using g
   have ag:∃a:Nat,p=a/\a<=s.length:=⟨p.toNat,by omega,by omega⟩
   obtain⟨a,ea,ad⟩:=ag;subst ea
   have hg:getI s a=match decZ (s.drop a) 9 0 0 with
    |none=>(0,0,10)
    |some (z,i,b)=>if(b=0/\0 < i)\/unz z < -4611686018427387903 then(0,0,10)else(unz z,a+i+1,0):=by
    rw[getI,if_neg (by omega)];rfl
   have ab:decZ (s.drop a) 9 0 0=none->getI s a=(0,0,10):=fun h=>by rw[hg,h]
   conv=>whnf
   refine zak hΘ (X:={ x:Nat×Nat // (x.1<=9/\a+x.1<=s.length)/\x.2 < 128^x.1/\decZ (s.drop a) 9 0 0=decZ (s.drop (a+x.1)) (9 - x.1) x.1 x.2/\(∀y∈(s.drop a).take x.1,128<=y.toNat)/\vals ((s.drop a).take x.1)=x.2 }) (fun x=>[(7,.va (.int .u64 x.1.2)),(8,.va (.int .i64 x.1.1))]) (4::5::6::9::10::11::12::jr 21 59 []) (fz fun _=>F) 1 (fun x=>9 - x.1.1) ⟨(0,0),by simp[ad],by simp,rfl,by simp,by simp[vals]⟩
    (fun hH hT=>le0 hH hT rfl (Fz.r F) rfl ⟨rfl,rfl,tv⟩) ?_
   rintro⟨⟨i,z⟩,hi,R,Y,u,hv⟩ hH hT;replace hi:i<=9/\a+i<=s.length:=hi;replace R:z < 128^i:=R;replace Y:decZ (s.drop a) 9 0 0=decZ (s.drop (a+i)) (9 - i) i z:=Y;replace u:∀y∈(s.drop a).take i,128<=y.toNat:=u;replace hv:vals ((s.drop a).take i)=z:=hv;have E:((s.drop a).take i).length=i:=by rw[qo,yp];omega
   have S:IntKind.i64.wrap ((a:Int)+i)=((a+i:Nat):Int):=by rw[zah (by omega) (by omega)];rfl
   refine⟨fun gb=>?_,fun gb=>?_⟩
   ·have gi:i < 9:=by
     have l:(i:Int) < 9:=by simpa using gb
     omega
    clear gb;have h9:9 - i=(9 - (i+1))+1:=by omega
    refine br (fun gc=>?_) (fun gc=>?_)
    ·have gl:a+i < s.length:=by
      have l:IntKind.i64.wrap ((a:Int)+i) < (s.length:Int):=by simpa using gc
      rw[S]at l;omega
     clear gc;have w:=Y;rw[drop_at gl,h9,decZ]at w;have hm:s[a+i].toNat % 128 < 128:=qa1 _ (by omega);have M:=ztt R hm;have ak:=shl7 (s[a+i].toNat % 128) i hm (by omega);have am:(s[a+i].toNat:Int).tmod 128=((s[a+i].toNat % 128:Nat):Int):=rfl
     have ao:128^(i+1)<=9223372036854775808:=by
      have:128^(i+1)<=128^9:=qa3 (by omega) (by omega);exact this
     have an:=s[a+i].toNat_lt;have A:IntKind.u64.wrap (s[a+i].toNat:Int)=(s[a+i].toNat:Int):=zej (by omega) (by omega)
     have k:IntKind.u64.wrap ((z:Int)+shlI .u64 ((IntKind.u64.wrap (s[a+i].toNat:Int)).tmod 128) (IntKind.i64.wrap (7*(i:Int))))=((z+s[a+i].toNat % 128*128^i:Nat):Int):=by
      rw[A,am,ak,zej (by omega) (by omega)];omega
     have j:(s.drop a).take (i+1)=(s.drop a).take i++[s[a+i]]:=by
      have h1:i < (s.drop a).length:=by rw[yp];omega
      rw[qf h1];simp
     have J:vals ((s.drop a).take (i+1))=z+s[a+i].toNat % 128*128^i:=by rw[j,zmh,hv,E]
     refine⟨by dsimp only;rw[S];omega,s[a+i],by dsimp only;rw[S,qk,qa gl],by decide,by dsimp only;rw[zah (by omega) (by omega)];omega,?_⟩;refine br (fun T=>?_) (fun T=>?_)
     ·have m:128<=s[a+i].toNat:=by
       have l:(128:Int)<=IntKind.u64.wrap (s[a+i].toNat:Int):=od T;rw[A]at l;omega
      clear T;rw[if_pos m]at w
      have aj:∀y∈(s.drop a).take (i+1),128<=y.toNat:=by
       intro y hy;rw[j]at hy;rcases yk.1 hy with h | h
       ·exact u y h
       ·rw[qz.1 h];exact m
      refine⟨⟨(i+1,z+s[a+i].toNat % 128*128^i),by show i+1<=9/\a+(i+1)<=s.length;omega,M,w,aj,J⟩,by show 9 - (i+1) < 9 - i;omega,lr0 hH hT rfl (Fz.r F) rfl ⟨?_,cnt (by omega),tv⟩⟩;exact congrArg (SA.int .u64) k.symm
     ·have m:¬128<=s[a+i].toNat:=by
       have l:¬(128:Int)<=IntKind.u64.wrap (s[a+i].toNat:Int):=oe T;rw[A]at l;omega
      clear T;rw[if_neg m]at w;have ah:s[a+i].toNat % 128=s[a+i].toNat:=jq (by omega);rw[ah]at k M J;have hZ:∃Z,Z=z+s[a+i].toNat*128^i:=⟨_,rfl⟩
      obtain⟨Z,hZ⟩:=hZ;rw[<-hZ]at k M J w;have U:Z < 9223372036854775808:=by omega
      have f:getI s a=if(s[a+i]=0/\0 < i)\/unz Z < -4611686018427387903 then(0,0,10)else(unz Z,(a:Int)+i+1,0):=by rw[hg,w]
      have ae:Z=vals ((s.drop a).take i++[s[a+i]]):=by rw[<-J,j]
      have L:=z07 ((s.drop a).take i) s[a+i] u (by omega);rw[<-ae,<-j,E]at L;have c:=zax F (unz Z);have hr:unz Z < -4611686018427387903\/¬unz Z < -4611686018427387903:=Decidable.em _;have al:(s.take (a+i+1)).drop a=(s.drop a).take (i+1):=by rw[List.drop_take];congr 1;omega
      have G:IntKind.i64.wrap (IntKind.i64.wrap ((a:Int)+i)+1)=((a+i+1:Nat):Int):=by rw[S,zah (by omega) (by omega)];omega
      have V:0<=IntKind.i64.wrap (IntKind.i64.wrap ((a:Int)+i)+1)/\IntKind.i64.wrap (IntKind.i64.wrap ((a:Int)+i)+1)<=(s.length:Int):=by rw[G];omega
      have W:0<=(a:Int)/\(a:Int)<=IntKind.i64.wrap (IntKind.i64.wrap ((a:Int)+i)+1):=by rw[G];omega
      have aa:IntKind.i64.wrap (IntKind.i64.wrap ((a:Int)+i)+1)=(a:Int)+i+1:=by rw[G];omega
      have B:(putZ Z==List.drop (a:Int).toNat (List.take (IntKind.i64.wrap (IntKind.i64.wrap ((a:Int)+i)+1)).toNat s))=decide (¬(s[a+i]=0/\0 < i)):=by
       rw[G,qk,qk,al,qcq,beq_iff_eq,decide_eq_true_iff];exact L
      have K:(!(putZ Z==List.drop (a:Int).toNat (List.take (IntKind.i64.wrap (IntKind.i64.wrap ((a:Int)+i)+1)).toNat s)))=true->s[a+i]=0/\0 < i:=fun h=>by
       rw[B]at h
       exact Decidable.byContradiction fun h'=>by
        rw[decide_eq_true h']at h;cases h
      have D:(!(putZ Z==List.drop (a:Int).toNat (List.take (IntKind.i64.wrap (IntKind.i64.wrap ((a:Int)+i)+1)).toNat s)))=false->¬(s[a+i]=0/\0 < i):=fun h=>by
       rw[B]at h
       exact od (by
        rw[Bool.not_eq_false']at h;exact h)
      clear B
      have I:IntKind.i64.wrap (IntKind.u64.wrap ((IntKind.u64.wrap ((z:Int)+shlI .u64 ((IntKind.u64.wrap (s[a+i].toNat:Int)).tmod 128) (IntKind.i64.wrap (7*(i:Int))))).tdiv 2))=((Z / 2:Nat):Int):=by
       have h1:(Z:Int).tdiv 2=((Z / 2:Nat):Int):=rfl;rw[k,h1,zej (by omega) (by omega),zah (by omega) (by omega)]
      have q:((IntKind.u64.wrap ((z:Int)+shlI .u64 ((IntKind.u64.wrap (s[a+i].toNat:Int)).tmod 128) (IntKind.i64.wrap (7*(i:Int))))).tmod 2)=((Z % 2:Nat):Int):=by
       rw[k];rfl
      refine⟨by decide,by decide,?_⟩;refine br (fun gp=>?_) (fun gp=>?_)
      ·have ac:Z % 2=1:=by
        have l:=od gp;rw[q]at l;omega
       have O:IntKind.i64.wrap (IntKind.i64.wrap (0 - IntKind.i64.wrap (IntKind.u64.wrap ((IntKind.u64.wrap ((z:Int)+shlI .u64 ((IntKind.u64.wrap (s[a+i].toNat:Int)).tmod 128) (IntKind.i64.wrap (7*(i:Int))))).tdiv 2))) - 1)=unz Z:=by
        have ai:IntKind.i64.wrap (0 - ((Z / 2:Nat):Int))= -((Z / 2:Nat):Int):=by rw[zah (by omega) (by omega)];omega
        rw[I,ai,zah (by omega) (by omega),unz,if_pos ac]
       clear gp I q;rcases hr with hr | hr
       ·rw[znm hr]at c;refine usePu c rfl ⟨congrArg (SA.int .i64) O.symm,tv⟩ rfl ?_;refine gaf (by simp) ?_;exact d 0 0 10 _ _ (by rw[f,if_pos (.inr hr)]) rfl
       ·rw[zrc hr U]at c;refine usePu c rfl ⟨congrArg (SA.int .i64) O.symm,tv⟩ rfl ?_;refine gae (by simp) ⟨V,W,?_⟩;refine br (fun gx=>?_) (fun gx=>?_)
        ·have Q:=K gx;exact d 0 0 10 _ _ (by rw[f,if_pos (.inl Q)]) rfl
        ·have Q:=D gx;exact d _ _ 0 _ _ (by rw[f,if_neg (by rintro(h | h);exact Q h;exact hr h),<-O,<-aa]) rfl
      ·have af:¬Z % 2=1:=by
        have l:=oe gp;rw[q]at l;omega
       have O:IntKind.i64.wrap (IntKind.u64.wrap ((IntKind.u64.wrap ((z:Int)+shlI .u64 ((IntKind.u64.wrap (s[a+i].toNat:Int)).tmod 128) (IntKind.i64.wrap (7*(i:Int))))).tdiv 2))=unz Z:=by
        rw[I,unz,if_neg af]
       clear gp I q;rcases hr with hr | hr
       ·rw[znm hr]at c;refine usePu c rfl ⟨congrArg (SA.int .i64) O.symm,tv⟩ rfl ?_;refine gaf (by simp) ?_;exact d 0 0 10 _ _ (by rw[f,if_pos (.inr hr)]) rfl
       ·rw[zrc hr U]at c;refine usePu c rfl ⟨congrArg (SA.int .i64) O.symm,tv⟩ rfl ?_;refine gae (by simp) ⟨V,W,?_⟩;refine br (fun gx=>?_) (fun gx=>?_)
        ·have Q:=K gx;exact d 0 0 10 _ _ (by rw[f,if_pos (.inl Q)]) rfl
        ·have Q:=D gx;exact d _ _ 0 _ _ (by rw[f,if_neg (by rintro(h | h);exact Q h;exact hr h),<-O,<-aa]) rfl
    ·have gl:s.length<=a+i:=by
      have l:¬IntKind.i64.wrap ((a:Int)+i) < (s.length:Int):=by simpa using gc
      rw[S]at l;omega
     have R:decZ (s.drop a) 9 0 0=none:=by rw[Y,yf gl,zp3]
     exact d 0 0 10 _ _ (ab R) rfl
   ·have gi:i=9:=by
     have l:¬(i:Int) < 9:=by simpa using gb
     omega
    subst gi;have R:decZ (s.drop a) 9 0 0=none:=by rw[Y];cases s.drop (a+9)<;>rfl
    exact d 0 0 10 _ _ (ab R) rfl
 ·have g1:p < 0:=by simpa using g
  exact d 0 0 2 _ _ (by rw[getI,if_pos (.inl g1)]) rfl
theorem zxt(F:Fz)(s:List UInt8)(p:Int)(G:s.length<=1000000000000000000)(E:i64 p):
  Fo Tryz.prog F 83 [.va (.str s),.va (.int .i64 p)] (fun o q=>o=.ret (.tup [.va (.str (getS s p).1),.va (.int .i64 (getS s p).2.1),.va (.int .i64 (getS s p).2.2)])/\q=F):=by
 have b:∀(n:List UInt8) (x e:Int) (h:Hp) (nx:Nat),getS s p=(n,x,e)->lget h 0=some (.frz F)->
   Cln 1 (FoK F fun o q=>o=.ret (.tup [.va (.str (getS s p).1),.va (.int .i64 (getS s p).2.1),.va (.int .i64 (getS s p).2.2)])/\q=F) (.ret (.tup [.va (.str n),.va (.int .i64 x),.va (.int .i64 e)])) h nx:=by
  intro n x e h nx I k;exact endFo (.ret (.tup [.va (.str n),.va (.int .i64 x),.va (.int .i64 e)])) F k (Fz.r F) (Fz.r F) ⟨by rw[I],rfl⟩ (zal _) rfl
 have D:=z1t F s p G E;have d:=@zfl s p;have c:∀n x e,getI s p=(n,x,e)->getS s p=if e≠0 then([],0,e)else if n < 0\/65536 < n\/(s.length:Int) - x < n then([],0,10)else((s.take (x+n).toNat).drop x.toNat,x+n,0):=fun n x e h=>by rw[getS,h]
 obtain⟨n,x,e,B⟩:∃n x e,getI s p=(n,x,e):=⟨_,_,_,rfl⟩
 have c:=c n x e B;rw[B]at D d;replace d:e=0->0<=p/\p < x/\x<=s.length/\ -4611686018427387903<=n/\n<=4611686018427387903:=d;refine foS Tryz.func83 ?_;refine usePs (D) ?_;refine br (fun g=>?_) (fun g=>?_)
 ·have m:e≠0:=by simpa using g
  exact b [] 0 e _ _ (by rw[c,if_pos m]) rfl
 ·have m:e=0:=by simpa using g
  have hb:=d m;have a:getS s p=if n < 0\/65536 < n\/(s.length:Int) - x < n then([],0,10)else((s.take (x+n).toNat).drop x.toNat,x+n,0):=by rw[c,if_neg (by simp[m])]
  have A:IntKind.i64.wrap ((s.length:Int) - x)=s.length - x:=zah (by omega) (by omega);refine⟨fun u=>?_,fun u=>?_⟩
  ·have f:¬n < 0:=oe u;refine⟨fun w=>?_,fun w=>?_⟩
   ·have i:¬65536 < n:=oe w;refine br (fun y=>?_) (fun y=>?_)
    ·have j:(s.length:Int) - x < n:=by have k:=od y;rw[<-A];exact k
     exact b [] 0 10 _ _ (by rw[a,if_pos (.inr (.inr j))]) rfl
    ·have j:¬(s.length:Int) - x < n:=by have k:=oe y;rw[<-A];exact k
     have l:IntKind.i64.wrap (x+n)=x+n:=zah (by omega) (by omega);refine⟨⟨by dsimp only;rw[l];omega,by dsimp only;rw[l];omega⟩,⟨by dsimp only;omega,by dsimp only;rw[l];omega⟩,?_⟩;refine b _ _ 0 _ _ ?_ rfl;rw[a,if_neg (by omega),l]
   ·have i:65536 < n:=od w;exact b [] 0 10 _ _ (by rw[a,if_pos (.inr (.inl i))]) rfl
  ·have f:n < 0:=od u;exact b [] 0 10 _ _ (by rw[a,if_pos (.inl f)]) rfl
def rrd(s:List UInt8)(p:Int)(b:Bool):Ent:=.one (.cells 189 [.str s,.int .i64 p,.lit b])
theorem zam{n:Nat}(s:List UInt8)(p:Int)(b:Bool):(rrd s p b).below n:=(SB.bB_ok rfl:SB.below n (.cells 189 [.str s,.int .i64 p,.lit b]))
def rdNum(s:List UInt8)(p:Int)(b:Bool):Int×Int×Bool:=if b=true\/(getI s p).2.2≠0 then(0,p,true)else((getI s p).1,(getI s p).2.1,false)
def rdTxt(s:List UInt8)(p:Int)(b:Bool):List UInt8×Int×Bool:=if b=true\/(getS s p).2.2≠0 then([],p,true)else((getS s p).1,(getS s p).2.1,false)
theorem zbi(F:Fz)(s:List UInt8)(p:Int)(b:Bool)(q:s.length<=1000000000000000000)(m:i64 p):
  Ct Tryz.prog 118 [.va (.ptr ⟨1,0,0,0,0⟩)] F [(1,rrd s p b)] 2
   (fun o j k n0=>F=j/\n0=2/\o=.ret (.va (.int .i64 (rdNum s p b).1))/\k=[(1,rrd s (rdNum s p b).2.1 (rdNum s p b).2.2)]):=by
 have f:=z1t F s p q m;obtain⟨n,x,e,i⟩:∃n x e,getI s p=(n,x,e):=⟨_,_,_,rfl⟩
 rw[i]at f;have a:b=true\/e≠0->rdNum s p b=(0,p,true):=fun h=>by rw[rdNum,i,if_pos h]
 have d:b=false->e=0->rdNum s p b=(n,x,false):=fun h1 l=>by rw[rdNum,i,if_neg (by rintro(h | h);rw[h1]at h;cases h;exact h l)]
 refine ctS Tryz.func118 ?_;refine dwS (lk [0,1,2,3,4,5,6,7] (.alt 8 (lk [9,10,11,12,13,14,15] .done) .nil)) [1] ?_;conv=>whnf
 repeat' ((conv=>whnf);first
  |refine⟨rfl,?_⟩
  |refine⟨Fz.r _,rfl,?_⟩
  |refine⟨Fz.r _,rfl,rfl,?_⟩
  |refine⟨⟨by simp,by simp⟩,?_⟩
  |fail)
 refine usePs (f) ?_;refine⟨Fz.r F,rfl,?_⟩;conv=>whnf
 rcases b with _ | _
 ·refine br (fun g=>?_) (fun g=>?_)
  ·have c:e≠0:=by simpa using g
   refine clean [] (.ret (.va (.int .i64 0))) F [(1,rrd s p true)] 2 ⟨Fz.r F,rfl,rfl,?_⟩ (zal _) rfl rfl trivial ⟨zam s _ _,tv⟩ ⟨Fz.r F,rfl,tv⟩;rw[a (.inr c)];exact⟨rfl,rfl⟩
  ·have c:e=0:=by simpa using g
   refine clean [] (.ret (.va (.int .i64 n))) F [(1,rrd s x false)] 2 ⟨Fz.r F,rfl,rfl,?_⟩ (zal _) rfl rfl trivial ⟨zam s _ _,tv⟩ ⟨Fz.r F,rfl,tv⟩;rw[d rfl c];exact⟨rfl,rfl⟩
 ·refine clean [] (.ret (.va (.int .i64 0))) F [(1,rrd s p true)] 2 ⟨Fz.r F,rfl,rfl,?_⟩ (zal _) rfl rfl trivial ⟨zam s _ _,tv⟩ ⟨Fz.r F,rfl,tv⟩;rw[a (.inl rfl)];exact⟨rfl,rfl⟩
theorem zrh(F:Fz)(s:List UInt8)(p:Int)(b:Bool)(q:s.length<=1000000000000000000)(m:i64 p):
  Ct Tryz.prog 119 [.va (.ptr ⟨1,0,0,0,0⟩)] F [(1,rrd s p b)] 2
   (fun o j k n0=>F=j/\n0=2/\o=.ret (.va (.str (rdTxt s p b).1))/\k=[(1,rrd s (rdTxt s p b).2.1 (rdTxt s p b).2.2)]):=by
 have f:=zxt F s p q m;obtain⟨n,x,e,i⟩:∃n x e,getS s p=(n,x,e):=⟨_,_,_,rfl⟩
 rw[i]at f;have a:b=true\/e≠0->rdTxt s p b=([],p,true):=fun h=>by rw[rdTxt,i,if_pos h]
 have d:b=false->e=0->rdTxt s p b=(n,x,false):=fun h1 l=>by rw[rdTxt,i,if_neg (by rintro(h | h);rw[h1]at h;cases h;exact h l)]
 refine ctS Tryz.func119 ?_;refine dwS (lk [0,1,2,3,4,5,6,7] (.alt 8 (lk [9,10,11,12,13,14,15] .done) .nil)) [1] ?_;conv=>whnf
 repeat' ((conv=>whnf);first
  |refine⟨rfl,?_⟩
  |refine⟨Fz.r _,rfl,?_⟩
  |refine⟨Fz.r _,rfl,rfl,?_⟩
  |refine⟨⟨by simp,by simp⟩,?_⟩
  |fail)
 refine usePs (f) ?_;refine⟨Fz.r F,rfl,?_⟩;conv=>whnf
 rcases b with _ | _
 ·refine br (fun g=>?_) (fun g=>?_)
  ·have c:e≠0:=by simpa using g
   refine clean [] (.ret (.va (.str []))) F [(1,rrd s p true)] 2 ⟨Fz.r F,rfl,rfl,?_⟩ (zal _) rfl rfl trivial ⟨zam s _ _,tv⟩ ⟨Fz.r F,rfl,tv⟩;rw[a (.inr c)];exact⟨rfl,rfl⟩
  ·have c:e=0:=by simpa using g
   refine clean [] (.ret (.va (.str n))) F [(1,rrd s x false)] 2 ⟨Fz.r F,rfl,rfl,?_⟩ (zal _) rfl rfl trivial ⟨zam s _ _,tv⟩ ⟨Fz.r F,rfl,tv⟩;rw[d rfl c];exact⟨rfl,rfl⟩
 ·refine clean [] (.ret (.va (.str []))) F [(1,rrd s p true)] 2 ⟨Fz.r F,rfl,rfl,?_⟩ (zal _) rfl rfl trivial ⟨zam s _ _,tv⟩ ⟨Fz.r F,rfl,tv⟩;rw[a (.inl rfl)];exact⟨rfl,rfl⟩
def colN(p:Int):Nat:=if p=2 then 1 else if p=3\/p=5 then 3 else if p=4 then 4 else 0
theorem zez(p:Int):Pu Tryz.prog 120 [.va (.int .i64 p)] (.va (.int .i64 (colN p:Nat))):=by
 intro F;have i:p=2->colN p=1:=fun h=>by rw[colN,if_pos h]
 have j:p=3\/p=5->colN p=3:=fun h=>by rw[colN,if_neg (by omega),if_pos h]
 have k:p=4->colN p=4:=fun h=>by rw[colN,if_neg (by omega),if_neg (by omega),if_pos h]
 have f:¬p=2->¬p=3->¬p=5->¬p=4->colN p=0:=fun a b c d=>by rw[colN,if_neg a,if_neg (by omega),if_neg d]
 have m:∀h:p=2,((colN p:Nat):Int)=1:=fun h=>by rw[i h];rfl
 have e:∀h:p=3\/p=5,((colN p:Nat):Int)=3:=fun h=>by rw[j h];rfl
 have n:∀h:p=4,((colN p:Nat):Int)=4:=fun h=>by rw[k h];rfl
 have l:¬p=2->¬p=3->¬p=5->¬p=4->((colN p:Nat):Int)=0:=fun a b c d=>by rw[f a b c d];rfl
 clear i j k f;refine foS Tryz.func120 ?_;refine br (fun g=>?_) (fun g=>?_)
 ·exact endPu rfl (Fz.r F) (congrArg (SA.int .i64) (m (od g))) rfl
 ·have q:¬p=2:=oe g;refine br (fun g=>?_) (fun g=>?_)
  ·refine br (fun _=>?_) (fun o=>absurd (od g) (oe o));exact endPu rfl (Fz.r F) (congrArg (SA.int .i64) (e (.inl (od g)))) rfl
  ·have s:¬p=3:=oe g;refine br (fun g=>?_) (fun g=>?_)
   ·exact endPu rfl (Fz.r F) (congrArg (SA.int .i64) (e (.inr (od g)))) rfl
   ·have w:¬p=5:=oe g;refine br (fun g=>?_) (fun g=>?_)
    ·exact endPu rfl (Fz.r F) (congrArg (SA.int .i64) (n (od g))) rfl
    ·have u:¬p=4:=oe g;exact endPu rfl (Fz.r F) (congrArg (SA.int .i64) (l q s w u)) rfl
abbrev RLn:=List UInt8×Int×Int×Int×Int
def encL(x:RLn):List SA:=[.str x.1,.int .i64 x.2.1,.int .i64 x.2.2.1,.int .i64 x.2.2.2.1,.int .i64 x.2.2.2.2]
theorem zaf:Plain encL:=fun x=>⟨fun μ=>rfl,fun a b=>by
 simp[encL]at b;rcases b with rfl | rfl | rfl | rfl | rfl<;>trivial⟩
def inR(n b a:Int):Bool:=decide (b<=n)&&decide (n<=a)
def zfw(l:List RLn)(x:RLn):Bool:=
 match l.getLast? with
 |none=>true
 |some y=>!(decide (x.2.1 < y.2.1)||(decide (y.2.1=x.2.1)&&decide (x.2.2.1<=y.2.2.1)))
def fitsR(p:Int)(l:List RLn)(x:RLn):Bool:=
 if p=1 then x.1.all (fun b=>decide (32<=b.toNat)&&decide (b.toNat<=126))&&decide (x.1.length<=80)
 else if p=2 then inR x.2.1 0 7
 else if inR x.2.1 0 31=true/\inR x.2.2.1 0 31=true/\zfw l x=true then
  if p=3 then inR x.2.2.2.1 (-1000000) 1000000 else if p=5 then inR x.2.2.2.1 (-1000000000000) 1000000000000 else inR x.2.2.2.1 0 x.2.1&&inR x.2.2.2.2 0 x.2.2.1
 else false
theorem zce{n c a:Int}{b:Bool}(h:inR n c a=b)(F:Fz):Fo Tryz.prog F 116 [.va (.int .i64 n),.va (.int .i64 c),.va (.int .i64 a)] (fun o d=>o=.ret (.va (.lit b))/\d=F):=by
 have h1:=zhw n c a F;rw[show(decide (c<=n)&&decide (n<=a))=b from h]at h1;exact zh0 h1
theorem zwh(x:RLn):zfw [] x=true:=rfl
theorem zok{p:Int}{l:List RLn}{x:RLn}(a:¬p=1)(b:¬p=2)(h:inR x.2.1 0 31=false\/inR x.2.2.1 0 31=false\/zfw l x=false):fitsR p l x=false:=by
 rw[fitsR,if_neg a,if_neg b,if_neg];rintro⟨h1,c,d⟩;rcases h with h | h | h
 ·rw[h1]at h;cases h
 ·rw[c]at h;cases h
 ·rw[d]at h;cases h
theorem zzo{p:Int}{l:List RLn}{x:RLn}(g:p=3)(h1:inR x.2.1 0 31=true)(a:inR x.2.2.1 0 31=true)(b:zfw l x=true):fitsR p l x=inR x.2.2.2.1 (-1000000) 1000000:=by
 rw[fitsR,if_neg (by omega),if_neg (by omega),if_pos ⟨h1,a,b⟩,if_pos g]
theorem zzq{p:Int}{l:List RLn}{x:RLn}(g:p=5)(h1:inR x.2.1 0 31=true)(a:inR x.2.2.1 0 31=true)(b:zfw l x=true):fitsR p l x=inR x.2.2.2.1 (-1000000000000) 1000000000000:=by
 rw[fitsR,if_neg (by omega),if_neg (by omega),if_pos ⟨h1,a,b⟩,if_neg (by omega),if_pos g]
theorem zzp{p:Int}{l:List RLn}{x:RLn}(a:¬p=1)(b:¬p=2)(c:¬p=3)(d:¬p=5)(h1:inR x.2.1 0 31=true)(e:inR x.2.2.1 0 31=true)(f:zfw l x=true):fitsR p l x=(inR x.2.2.2.1 0 x.2.1&&inR x.2.2.2.2 0 x.2.2.1):=by
 rw[fitsR,if_neg a,if_neg b,if_pos ⟨h1,e,f⟩,if_neg c,if_neg d]
theorem zws(n b a:Int):Pu Tryz.prog 217 [.va (.int .i64 n),.va (.int .i64 b),.va (.int .i64 a)] (.va (.bool (inR n b a))):=by
 intro F;refine foS Tryz.func217 ?_;refine⟨fun g=>?_,fun g=>?_⟩
 ·refine endPu rfl (Fz.r F) (ob ?_) rfl;unfold inR;rw[g,yq]
 ·refine endPu rfl (Fz.r F) (ob ?_) rfl;unfold inR;rw[g,q9]
theorem zex{n c a:Int}{b:Bool}(h:inR n c a=b)(F:Fz):Fo Tryz.prog F 217 [.va (.int .i64 n),.va (.int .i64 c),.va (.int .i64 a)] (fun o d=>o=.ret (.va (.lit b))/\d=F):=by
 have h1:=zws n c a F;rw[h]at h1;exact zh0 h1
abbrev docS(a b:SA)(w:Int)(s:List UInt8):List SA:=[a,b,.int .i64 w,.str s]
def hgt(w:Int)(s:List UInt8):Int:=if w < 1 then 0 else(s.length:Int).tdiv w
theorem zlc(F:Fz)(a b:SA)(w:Int)(s:List UInt8)(m:s.length<=1000000000000000000):Fo Tryz.prog F 168 [.agg (docS a b w s)] (fun o f=>o=.ret (.va (.int .i64 (hgt w s)))/\f=F):=by
 have c:∀(z:Int) (h:Hp) (nx:Nat),hgt w s=z->lget h 0=some (.frz F)->Cln 1 (FoK F fun o f=>o=.ret (.va (.int .i64 (hgt w s)))/\f=F) (.ret (.va (.int .i64 z))) h nx:=by
  intro z h nx k i;subst k;exact endPu i (Fz.r F) (zal _) rfl
 by_cases d:w < 1
 ·have e:hgt w s=0:=if_pos d;refine foS Tryz.func168 ?_;refine bri d ?_;exact c 0 _ _ e rfl
 ·have g:w≠0:=by omega
  have j:IntKind.i64.wrap ((s.length:Int).tdiv w)=(s.length:Int).tdiv w:=by
   have h1:0<=(s.length:Int).tdiv w:=Int.tdiv_nonneg (by omega) (by omega)
   have l:(s.length:Int).tdiv w<=s.length:=by
    rw[ji (by omega)];exact Int.ediv_le_self _ (by omega)
   exact zah (by omega) (by omega)
  have e:hgt w s=IntKind.i64.wrap ((s.length:Int).tdiv w):=by rw[j];exact if_neg d
  refine foS Tryz.func168 ?_;refine brj d ⟨g,?_⟩;exact c _ _ _ e rfl
structure Cel where
 row:Int
 col:Int
 sum:Bool
 value:Int
 top:Int
 left:Int
def encK(c:Cel):List SA:=[.int .i64 c.row,.int .i64 c.col,.bool c.sum,.int .i64 c.value,.int .i64 c.top,.int .i64 c.left]
def celOk(c:Cel):Bool:=(inR c.row 0 31&&inR c.col 0 31)&&(if c.sum=true then(decide (c.value=0)&&inR c.top 0 c.row)&&inR c.left 0 c.col else(inR c.value (-1000000) 1000000&&decide (c.top=0))&&decide (c.left=0))
theorem zz7(F:Fz)(c:Cel):Fo Tryz.prog F 148 [.agg (encK c)] (fun o w=>o=.ret (.va (.bool (celOk c)))/\w=F):=by
 obtain⟨j,i,k,b,f,left⟩:=c;have G:∃m n p q s,inR j 0 31=m/\inR i 0 31=n/\inR f 0 j=p/\inR left 0 i=q/\inR b (-1000000) 1000000=s:=⟨_,_,_,_,_,rfl,rfl,rfl,rfl,rfl⟩
 obtain⟨m,n,p,q,s,h1,x,y,A,B⟩:=G;have J:=zex h1 F;have K:=zex x F;have L:=zex y F;have M:=zex A F;have O:=zex B F
 have d:∀(z:Bool) (a:SA) (h:Hp) (nx:Nat),celOk ⟨j,i,k,b,f,left⟩=z->atomE (.bool z) (a.ren (resP h))->lget h 0=some (.frz F)->Cln 1 (FoK F fun o w=>o=.ret (.va (.bool (celOk ⟨j,i,k,b,f,left⟩)))/\w=F) (.ret (.va a)) h nx:=by
  intro z a h nx I E D;subst I;exact endPu D (Fz.r F) E rfl
 have e:celOk ⟨j,i,k,b,f,left⟩=((m&&n)&&(if k=true then(decide (b=0)&&p)&&q else(s&&decide (f=0))&&decide (left=0))):=by
  rw[<-h1,<-x,<-y,<-A,<-B];rfl
 clear h1 x y A B;refine foS Tryz.func148 ?_;refine usePt J ?_;rcases m with _ | _
 ·exact d false _ _ _ e rfl rfl
 ·refine usePt K ?_;rcases n with _ | _
  ·exact d false _ _ _ e rfl rfl
  ·rcases k with _ | _
   ·refine br (fun g=>absurd g (by show¬false=true;decide)) (fun _=>?_);refine usePt O ?_;rcases s with _ | _
    ·exact d false _ _ _ e rfl rfl
    ·conv=>whnf
     by_cases u:f=0
     ·refine⟨fun _=>?_,fun g=>absurd u (oe g)⟩;exact d (decide (left=0)) _ _ _ (by rw[e,decide_eq_true u];simp) rfl rfl
     ·refine⟨fun g=>absurd (od g) u,fun _=>?_⟩;exact d false _ _ _ (by rw[e,decide_eq_false u];simp) rfl rfl
   ·refine br (fun _=>?_) (fun g=>absurd g (by show¬true=false;decide));conv=>whnf
    by_cases l:b=0
    ·refine⟨fun _=>?_,fun g=>absurd l (oe g)⟩;refine usePt L ?_;rcases p with _ | _
     ·exact d false _ _ _ (by rw[e,decide_eq_true l];rfl) rfl rfl
     ·refine usePt M ?_;exact d q _ _ _ (by rw[e,decide_eq_true l];simp) rfl rfl
    ·refine⟨fun g=>absurd (od g) l,fun _=>?_⟩;exact d false _ _ _ (by rw[e,decide_eq_false l];simp) rfl rfl
end Go.Proofs.YtfnkamphhpldcaaGreatDoor
namespace Go.Proofs.YtfnkamphhpldcaaGreatDoor
open Go Go.RowKit Sx
theorem yax(w:World):PredAtRunes Tryz.prog 215 #[] badR w:=by
 intro W x hx hb;unfold FnGives
 go_enter Tryz.func215,Tryz.ntmps215
 by_cases h1:32<=x
 ·by_cases h2:x<=126
  ·go_wp2
   all_goals go_ret
   all_goals refine⟨?_,0,rfl⟩
   all_goals(simp[badR,h1,h2];try omega)
  ·go_wp2
   all_goals go_ret
   all_goals refine⟨?_,0,rfl⟩
   all_goals(simp[badR,h1,h2];try omega)
 ·go_wp2
  all_goals go_ret
  all_goals refine⟨?_,0,rfl⟩
  all_goals(simp[badR,h1];try omega)
theorem ifun(F:Fz)(s:List UInt8)(_:s.length<=1000000000000000000):Fo Tryz.prog F 216 [.va (.str s),.va (.fn (.func 215) [])] (fun o b=>(∃z,o=.ret (.va (.int .i64 z))/\decide (0<=z)=s.any badC)/\b=F):=by
 refine zcn (zg9 (F:=F) (args:=[.va (.str s),.va (.fn (.func 215) [])]) (out:=.ret (.va (.int .i64 (Lib.idxFunc badR true ⟨s.toArray⟩)))) (vs:=[.string ⟨s.toArray⟩,.func (.func 215) #[] #[]]) (Sx.enters_of Tryz.func216 rfl (by decide)) rfl (by
   rintro ρ a h
   match a,h with
   |[v,u],h=>rw[h.1,h.2.1];rfl) (.returned (.int .i64 (Lib.idxFunc badR true ⟨s.toArray⟩))) (fun ρ=>⟨_,rfl,rfl⟩) (fun C ρ w S=>by
   have h:=Any.strings_IndexFunc_runes { Tryz.laysGw17 with } 215 #[] (enters_of Tryz.func215 (by kernel_rfl) rfl) badR ⟨s.toArray⟩ w (yax w);refine h.mono fun e f ⟨h1,c⟩=>⟨?_,c⟩
   rw[h1])) fun o b h=>⟨⟨_,h.1,by rw[Lib.idxFunc,zsv s _ 0 (by show s.length<=0+s.toArray.size;simp),y8]⟩,h.2⟩
