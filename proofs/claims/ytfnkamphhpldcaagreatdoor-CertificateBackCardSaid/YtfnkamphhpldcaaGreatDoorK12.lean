import Derived.Test.YtfnkamphhpldcaaGreatDoorK11
import Derived.Below
import Derived.ProofKit
import Derived.WalkKit
import Derived.RowKit
import Derived.OwnWalk
import Derived.Laws.AppendOwn
import Derived.Test.YtfnkamphhpldcaaGreatDoorProg
set_option maxHeartbeats 64000000
namespace Go.Proofs.YtfnkamphhpldcaaGreatDoor
open Go Go.RowKit Sx
def Holds (F:Fz) (w:World):Prop:=∀ b B,F b = some B → B.below 1 ∧ ∃ o,w.heap[b]? = some o ∧ ∀ ρ:Rho,(∀ k,ρ 0 k = k) → B.ok ρ o
theorem lget0 {F:Fz} {i:Nat} {e:Ent} (h:lget [[(0,Ent.frz F)]] i = some e):i = 0 ∧ e = .frz F:=by
 cases i with
 |zero=>exact ⟨rfl,by cases h; rfl⟩
 |succ i=>simp [lget,aget,Nat.beq] at h
def ctx0 (W:World):Ctx:={ w0:=W,ρ0:=fun _ k=>k,n0:=1,B:=fun _=>False,R:=fun _=>True }
theorem satF {C:Ctx} {ρ:Rho} {F:Fz} {w:World} (hF:Holds F w) (h0:∀ k,ρ 0 k = k) (hn:C.n0 = 1) (ha:∀ k,ρ 0 k = C.ρ0 0 k) (hos:w.os = C.w0.os) (htape:w.tape = C.w0.tape) (hout:w.output = C.w0.output) (hsz:C.w0.heap.size ≤ w.heap.size)
  (hfr:∀ b,b < C.w0.heap.size → ¬ C.B b → w.heap[b]? = C.w0.heap[b]?) (hown:∀ k,(F k).isSome = true → C.R k ∨ C.B k ∨ C.w0.heap.size ≤ k):Sat C ρ [[(0,.frz F)]] 1 w where
 lt:=fun i e h=>by obtain ⟨rfl,rfl⟩:=lget0 h; omega
 blk:=fun i e h k hk=>by
  obtain ⟨rfl,rfl⟩:=lget0 h
  have hk:(F k).isSome = true:=hk
  obtain ⟨B,hB⟩:=qw.1 hk
  obtain ⟨_,o,ho,hok⟩:=hF k B hB
  exact ⟨o,by rw [h0]; exact ho,by simp only [Ent.at,hB,ju]; exact hok ρ h0⟩
 wf:=fun i e h k hk=>by
  obtain ⟨rfl,rfl⟩:=lget0 h
  have hk:(F k).isSome = true:=hk
  obtain ⟨B,hB⟩:=qw.1 hk
  simp only [Ent.at,hB,ju]; exact (hF k B hB).1
 inj:=fun i k i' k' h h' e=>by
  obtain ⟨_,h,_⟩:=h; obtain ⟨_,h',_⟩:=h'
  obtain ⟨rfl,_⟩:=lget0 h; obtain ⟨rfl,_⟩:=lget0 h'
  rw [h0,h0] at e; exact ⟨rfl,e⟩
 anch:=fun i hi k=>by
  rw [hn] at hi
  obtain rfl:i = 0:=by omega
  exact ha k
 n0:=by omega
 n1:=by omega
 os:=hos
 tape:=htape
 output:=hout
 size:=hsz
 fr:=hfr
 own:=fun i k h=>by
  obtain ⟨e,h,hk⟩:=h
  obtain ⟨rfl,rfl⟩:=lget0 h
  have hk:(F k).isSome = true:=hk
  rw [h0]
  rcases hown k hk with h | h | h
  ·exact .inl ⟨rfl,h⟩
  ·exact .inr (.inl h)
  ·exact .inr (.inr h)
 fz:=⟨F,rfl,fun b B hB=>(hF b B hB).1⟩
 id0:=h0
 only:=fun i F' h=>(lget0 h).1
 lnk:=fun i b h=>by obtain ⟨_,h⟩:=lget0 h; cases h
theorem zpo {P:Program} {F:Fz} {f:FuncId} {args:List SV} {vs:List Value} {W:World} (h:Fo P F f args fun o _=>o = .ret (.va (.bool true)) ∧ True) (hF:Holds F W) (hr:relL (fun _ k=>k) args vs) (hb:∀ s ∈ args,s.below 1) :
  Calls P f vs.toArray W fun e W'=>e = .returned (.bool true) ∧ Below W.heap.size W W':=by
 unfold Fo za6 at h
 have S0:Sat (ctx0 W) (fun _ k=>k) [[(0,.frz F)]] 1 W:=satF hF (fun _=>rfl) rfl (fun _=>rfl) rfl rfl rfl (qf _) (fun _ _ _=>rfl) (fun _ _=>.inl trivial)
 have h2:=(h (ctx0 W) _ W vs S0 hr hb).2
 refine h2.mono ?_
 rintro e w' ⟨out,h',nx',ρ',hk,hrel,S,hag,hle,hbl⟩
 unfold Cln at hk
 obtain ⟨out0,F0,h0,n0,ρ0,⟨k1,k2,k3,k4,k5⟩,r1,r2,S0,_⟩:=hk (ctx0 W) ρ' w' e rfl S hrel (by cases out<;>first | exact hbl | trivial)
 obtain ⟨rfl,-⟩:=k5
 obtain ⟨v,rfl,hv⟩:=r1
 refine ⟨by rw [hv]; rfl,⟨S0.os,S0.tape,S0.output,S0.size,fun k hk=>S0.fr k hk (fun h=>h.elim)⟩⟩
end Go.Proofs.YtfnkamphhpldcaaGreatDoor
namespace Go.Proofs.YtfnkamphhpldcaaGreatDoor
open Go Go.RowKit Sx
attribute [local go_sem] Oper.semAt_some
def RawB (B:SB) (i:Nat) (z:Int):Prop:=
 match B with
 |.obj (.cells cs _ _)=>cs[i]? = some (.int .i64 z)
 |.cells _ l=>l[i]? = some (.int .i64 z)
 |_=>False
def RawAt (F:Fz) (b off:Nat) (zs:List Int):Prop:=zs = [] ∨ ∃ B,F b = some B ∧ ∀ j (h:j < zs.length),RawB B (off + j) zs[j]
theorem RawAt.mono {F F':Fz} {b off:Nat} {zs:List Int} (h:RawAt F b off zs) (hle:Fz.le F F'):RawAt F' b off zs:=by
 rcases h with h | ⟨B,h1,h2⟩
 ·exact .inl h
 ·exact .inr ⟨B,hle _ _ h1,h2⟩
theorem RawB.cell {B:SB} {i b:Nat} {z:Int} {o:Obj} {ρ:Rho} {w:World} (h:RawB B i z) (hok:B.ok ρ o) (ho:w.heap[b]? = some o):w.cell? ⟨b,i,none⟩ = some (.int .i64 z):=by
 cases B with
 |obj o'=>
  have hok:o = o':=hok
  subst hok
  cases o with
  |cells cs t fr=>
   have h:cs[i]? = some (.int .i64 z):=h
   simp [World.cell?,ho,h]
  |_=>exact h.elim
 |cells t l=>
  have h:l[i]? = some (.int .i64 z):=h
  obtain ⟨fr,_,rfl⟩:=hok
  simp [World.cell?,ho,h,SA.den]
 |arr t sz L room=>exact h.elim
theorem zkh:∀ (l:List SA) (i:Nat) (x:SA),l[i]? = some x → zd6 l i 1 = some [x]
 |[],i,x,h=>by simp at h
 |y :: r,0,x,h=>by
  simp at h; subst h
  cases r<;>rfl
 |y :: r,i + 1,x,h=>by
  simp at h
  exact zkh r i x h
def ints2 (l:List Stp):List Int:=(l.map fun s=>[s.1,s.2]).flatten
theorem zo8:∀ l:List Stp,(ints2 l).length = l.length * 2
 |[]=>rfl
 |s :: r=>by
  have:=zo8 r
  simp only [ints2,qx,jy,qa,qe,qp] at *
  omega
end Go.Proofs.YtfnkamphhpldcaaGreatDoor
namespace Go.Proofs.YtfnkamphhpldcaaGreatDoor
open Go Go.RowKit Sx
theorem RawAt.cells {F:Fz} {b off:Nat} {zs:List Int} {w:World} (h:RawAt F b off zs) (hH:Holds F w) (j:Nat) (hj:j < zs.length):w.cell? ⟨b,off + j,none⟩ = some (.int .i64 zs[j]):=by
 rcases h with h | ⟨B,h1,h2⟩
 ·subst h; simp at hj
 ·obtain ⟨_,o,ho,hok⟩:=hH _ _ h1
  exact (h2 j hj).cell (hok (fun _ k=>k) (fun _=>rfl)) ho
end Go.Proofs.YtfnkamphhpldcaaGreatDoor
