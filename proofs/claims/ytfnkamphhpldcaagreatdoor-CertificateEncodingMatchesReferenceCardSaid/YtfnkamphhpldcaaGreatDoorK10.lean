import Derived.Test.YtfnkamphhpldcaaGreatDoorK09
import Derived.Below
import Derived.ProofKit
import Derived.WalkKit
import Derived.RowKit
import Derived.OwnWalk
import Derived.Laws.AppendOwn
import Derived.Test.YtfnkamphhpldcaaGreatDoorProg
set_option maxHeartbeats 64000000
namespace Go.Proofs.YtfnkamphhpldcaaGreatDoor
open Go Go.RowKit Sx
def Holds(F:Fz)(w:World):Prop:=∀b B,F b=some B->B.below 1/\∃o,w.heap[b]? =some o/\∀ρ:Rho,(∀k,ρ 0 k=k)->B.ok ρ o
theorem lget0{F:Fz}{i:Nat}{e:Ent}(h:lget [[(0,Ent.frz F)]] i=some e):i=0/\e=.frz F:=by
 cases i with
 |zero=>exact⟨rfl,by cases h;rfl⟩
 |succ i=>simp[lget,aget,Nat.beq]at h
def ctx0(W:World):Ctx:={ w0:=W,ρ0:=fun _ k=>k,n0:=1,B:=fun _=>False,R:=fun _=>True }
theorem satF{C:Ctx}{ρ:Rho}{F:Fz}{w:World}(m:Holds F w)(f:∀k,ρ 0 k=k)(y:C.n0=1)(u:∀k,ρ 0 k=C.ρ0 0 k)(q:w.os=C.w0.os)(d:w.tape=C.w0.tape)(g:w.output=C.w0.output)(s:C.w0.heap.size<=w.heap.size)
  (n:∀b,b < C.w0.heap.size->¬C.B b->w.heap[b]? =C.w0.heap[b]?)(j:∀k,(F k).isSome=true->C.R k\/C.B k\/C.w0.heap.size<=k):Sat C ρ [[(0,.frz F)]] 1 w where
 lt:=fun i e h=>by obtain⟨rfl,rfl⟩:=lget0 h;omega
 blk:=fun i e h k a=>by
  obtain⟨rfl,rfl⟩:=lget0 h;have a:(F k).isSome=true:=a;obtain⟨B,c⟩:=js.1 a;obtain⟨_,o,A,p⟩:=m k B c;exact⟨o,by rw[f];exact A,by simp only[Ent.at,c,yk];exact p ρ f⟩
 wf:=fun i e h k a=>by
  obtain⟨rfl,rfl⟩:=lget0 h;have a:(F k).isSome=true:=a;obtain⟨B,c⟩:=js.1 a;simp only[Ent.at,c,yk];exact(m k B c).1
 inj:=fun i k i' E h l e=>by
  obtain⟨_,h,_⟩:=h;obtain⟨_,l,_⟩:=l;obtain⟨rfl,_⟩:=lget0 h;obtain⟨rfl,_⟩:=lget0 l;rw[f,f]at e;exact⟨rfl,e⟩
 anch:=fun i x k=>by
  rw[y]at x;obtain rfl:i=0:=by omega
  exact u k
 n0:=by omega
 n1:=by omega
 os:=q
 tape:=d
 output:=g
 size:=s
 fr:=n
 own:=fun i k h=>by
  obtain⟨e,h,a⟩:=h;obtain⟨rfl,rfl⟩:=lget0 h;have a:(F k).isSome=true:=a;rw[f];rcases j k a with h | h | h
  ·exact .inl ⟨rfl,h⟩
  ·exact .inr (.inl h)
  ·exact .inr (.inr h)
 fz:=⟨F,rfl,fun b B c=>(m b B c).1⟩
 id0:=f
 only:=fun i D h=>(lget0 h).1
 lnk:=fun i b h=>by obtain⟨_,h⟩:=lget0 h;cases h
theorem C7{P:Program}{F:Fz}{f:FuncId}{args:List SV}{vs:List Value}{W:World}(h:Fo P F f args fun o _=>o=.ret (.va (.bool true))/\True)(l:Holds F W)(q:relL (fun _ k=>k) args vs)(n:∀s∈args,s.below 1):
  Calls P f vs.toArray W fun e i=>e=.returned (.bool true)/\Below W.heap.size W i:=by
 unfold Fo za6 at h;have a:Sat (ctx0 W) (fun _ k=>k) [[(0,.frz F)]] 1 W:=satF l (fun _=>rfl) rfl (fun _=>rfl) rfl rfl rfl (qi _) (fun _ _ _=>rfl) (fun _ _=>.inl trivial);have j:=(h (ctx0 W) _ W vs a q n).2;refine j.mono ?_;rintro e A ⟨out,E,x,B,c,b,S,m,p,d⟩;unfold Cln at c;obtain⟨g,D,G,n0,O,⟨I,J,K,L,w⟩,y,M,a,_⟩:=c (ctx0 W) B A e rfl S b (by cases out<;>first | exact d | trivial);obtain⟨rfl,-⟩:=w;obtain⟨v,rfl,u⟩:=y;refine⟨by rw[u];rfl,⟨a.os,a.tape,a.output,a.size,fun k c=>a.fr k c (fun h=>h.elim)⟩⟩
end Go.Proofs.YtfnkamphhpldcaaGreatDoor
namespace Go.Proofs.YtfnkamphhpldcaaGreatDoor
open Go Go.RowKit Sx
attribute [local go_sem] Oper.semAt_some
def RawB(B:SB)(i:Nat)(z:Int):Prop:=
 match B with
 |.obj (.cells cs _ _)=>cs[i]? =some (.int .i64 z)
 |.cells _ l=>l[i]? =some (.int .i64 z)
 |_=>False
def RawAt(F:Fz)(b off:Nat)(zs:List Int):Prop:=zs=[]\/∃B,F b=some B/\∀j (h:j < zs.length),RawB B (off+j) zs[j]
theorem RawAt.mono{F c:Fz}{b off:Nat}{zs:List Int}(h:RawAt F b off zs)(a:Fz.le F c):RawAt c b off zs:=by
 rcases h with h | ⟨B,h1,d⟩
 ·exact .inl h
 ·exact .inr ⟨B,a _ _ h1,d⟩
theorem tM:∀(l:List SA) (i:Nat) (x:SA),l[i]? =some x->dA l i 1=some [x]
 |[],i,x,h=>by simp at h
 |y::r,0,x,h=>by
  simp at h;subst h;cases r<;>rfl
 |y::r,i+1,x,h=>by
  simp at h;exact tM r i x h
def ints2(l:List Stp):List Int:=(l.map fun s=>[s.1,s.2]).flatten
theorem uI:∀l:List Stp,(ints2 l).length=l.length*2
 |[]=>rfl
 |s::r=>by
  have:=uI r;simp only[ints2,qw,jm,qb,qe,qu]at*;omega
end Go.Proofs.YtfnkamphhpldcaaGreatDoor
namespace Go.Proofs.YtfnkamphhpldcaaGreatDoor
open Go Go.RowKit Sx
