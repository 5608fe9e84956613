import Derived.Test.YtfnkamphhpldcaaGreatDoorK23
import Derived.Test.YtfnkamphhpldcaaGreatDoorK22
import Derived.Test.YtfnkamphhpldcaaGreatDoorK19
import Derived.Shelf.GgClosure.StringsRunes
import Derived.Shelf.Strings.SlTrimAscii
import Derived.Laws.RangeAny
import Derived.Laws.RangeString
import Derived.Defers
import Derived.Recover
set_option maxHeartbeats 64000000
namespace Go.Proofs.YtfnkamphhpldcaaGreatDoor
open Go Go.RowKit Go.Shelf Sx
attribute [local go_sem] Oper.semAt_some
theorem info5:(Tryz.prog.info? 5).map (fun i=>(i.zero,i.size,i.bytes)) = some (some (.int .u8 0),1,1):=by kernel_rfl
def byteOf (x:Nat × Bool):Nat:=if x.2 then x.1 else x.1 + 128
theorem zxh (x:G7):byteOf x.1 < 256:=by
 have:=x.2; unfold byteOf; split<;>omega
theorem zui (z:Nat):(grpL z).map (fun x=>UInt8.ofNat (byteOf x)) = putZ z:=by
 rw [grpL,putZ]
 split
 ·rfl
 ·rw [qx,zui (z / 128)]; rfl
termination_by z
decreasing_by omega
theorem z7l (n:Int) (h:-4611686018427387903 ≤ n ∧ n ≤ 4611686018427387903):bits BinOp.xor IntKind.u64 (IntKind.u64.wrap (IntKind.u64.wrap n * 2)) (IntKind.u64.wrap (n / 9223372036854775808)) = (zig n:Int):=by
 by_cases g:n < 0
 ·have e1:IntKind.u64.wrap n = n + 18446744073709551616:=by rw [IntKind.wrap_u64]; omega
  have e2:IntKind.u64.wrap ((n + 18446744073709551616) * 2) = ((n * 2 + 18446744073709551616).toNat:Int):=by rw [IntKind.wrap_u64]; omega
  have e3:n / 9223372036854775808 = -1:=by omega
  have e4:IntKind.u64.wrap (-1) = ((18446744073709551615:Nat):Int):=by decide
  rw [e1,e2,e3,e4,u64_xor_nat _ _ (by omega) (by omega),zig,if_pos g]
  have h2:∀ x:Nat,x < 18446744073709551616 → x ^^^ 18446744073709551615 = 18446744073709551615 - x:=by
   intro x hx
   have h3:(BitVec.ofNat 64 x ^^^ BitVec.allOnes 64).toNat = 18446744073709551615 - x:=by
    rw [BitVec.xor_allOnes,BitVec.toNat_not,BitVec.toNat_ofNat,jo (by omega)]
   rw [BitVec.toNat_xor,BitVec.toNat_ofNat,jo (by omega)] at h3
   exact h3
  rw [h2 _ (by omega)]
  omega
 ·have e1:IntKind.u64.wrap n = n:=by rw [IntKind.wrap_u64]; omega
  have e2:IntKind.u64.wrap (n * 2) = ((n * 2).toNat:Int):=by rw [IntKind.wrap_u64]; omega
  have e3:n / 9223372036854775808 = 0:=by omega
  have e4:IntKind.u64.wrap 0 = ((0:Nat):Int):=by decide
  rw [e1,e2,e3,e4,u64_xor_nat _ _ (by omega) (by omega),Nat.xor_zero,zig,if_neg g]
theorem zta (B:Nat) (t:TypeId):Own (fun (_:List G7) W=>∃ u,Boxed W B t u):=fun s W W' row ⟨u,h⟩ hg hr=>⟨u,h.kept hg (fun e=>by
 obtain ⟨o,ho,hc⟩:=hr _ e.symm
 rw [show W.heap[B]? = _ from h] at ho; cases ho; cases hc)⟩
set_option maxRecDepth 100000 in
theorem zxg (F:Fence) (k:Nat) (h80:F.fn 78) (h112:F.fn 139) (h147:F.fn 212) (hro:F.round = none) (hk:3 ≤ k) (n:Int) (hn:-4611686018427387903 ≤ n ∧ n ≤ 4611686018427387903) (w:World) :
  CallsIn F k Tryz.prog 78 #[.int .i64 n] w fun e w'=>e = .returned (.tuple #[.string ⟨(putI n).toArray⟩,.int .i64 0]) ∧ Below w.heap.size w w':=by
 have h1:1 ≤ k:=by omega
 have hz:=z2n n hn
 have hx:=z7l n hn
 obtain ⟨i0,hi,hz0,hz1,hz2⟩:=info_parts info5
 have hn1:¬ n < -4611686018427387903:=by omega
 have hn2:¬ 4611686018427387903 < n:=by omega
 refine callsIn_of_wp_marks Tryz.func78 rfl h80 ?_ hro
 simp only [Tryz.ntmps78,yv,qe,qp,Nat.reduceAdd,Nat.reduceSub,yx,yy,qaf,y9,qu,jt]
 gi_wp2_with (gi_at_call 139; refine (zwp F (k - 1) h112 hro _ _).mono ?_; rintro e w' ⟨rfl,rfl⟩)
 have bO:=Boxed.new w 81 (.slice none 0 0)
 have bN:=Boxed.new (w.alloc (.cells #[.slice none 0 0] 81)) 219 (.int .u64 (zig n))
 rw [World.size_alloc] at bN
 have hB0:Below w.heap.size w ((w.alloc (.cells #[.slice none 0 0] 81)).alloc (.cells #[.int .u64 (zig n)] 219)):=((Below.refl _ w).alloc (qf _) _).alloc (by simp) _
 refine ziu hro h1 (gf:=212) (lb:=#[.pointer (some ⟨w.heap.size + 1,0,none⟩)]) rfl h147 (enters_of Tryz.func212 (by kernel_rfl) rfl)
  (z8k F (k - 1) h147 hro (by omega) (w.heap.size + 1) (zig n) (by omega) _ bN) (by simp) (fun _=>rfl)
  (fun pre W=>((∃ v,Boxed W w.heap.size 81 v ∧ W.ownsRow w.heap.size 5 1 v pre.length (pre.map fun x=>.int .u8 (byteOf x.1)) ∧ True) ∧ (∃ u,Boxed W (w.heap.size + 1) 219 u)) ∧ Below w.heap.size w W)
  (OwnFrom.and (OwnFrom.and (Own.from (holdsRow_own w.heap.size w.heap.size 81 5 1 (fun pre=>pre.length) (fun pre:List G7=>pre.map fun x=>.int .u8 (byteOf x.1)) (fun _ _=>True)) _) (Own.from (zta _ _) _)) (ownFrom_below (qf _) (by simp; omega)))
  ?hIz ⟨⟨⟨_,bO.alloc _,World.ownsRow_nil _ _ _ _,tv⟩,⟨_,bN⟩⟩,hB0⟩
  (fun x=>{ tmps:=#[.int .i64 n,undef,.string ⟨#[]⟩,.int .i64 0,.pointer (some ⟨w.heap.size,0,none⟩),.int .u8 x.1.1,.bool x.1.2,.int .i64 n,.bool false,.bool false,.int .i64 n,.bool false,.bool false,.int .i64 n,.int .u64 (IntKind.u64.wrap n),.int .u64 (IntKind.u64.wrap (IntKind.u64.wrap n * 2)),.int .i64 n,.int .i64 (n / 9223372036854775808),.int .u64 (IntKind.u64.wrap (n / 9223372036854775808)),.int .u64 (zig n),.func (.func 212) #[] #[.pointer (some ⟨w.heap.size + 1,0,none⟩)],.int .u8 x.1.1,.bool x.1.2,undef,undef,undef,undef,undef,undef,undef,undef,undef,undef],defers:=[] }) ?assign ?body ?done
 case hIz=>
  rintro pre A v ⟨⟨⟨u,hv,hrow,-⟩,⟨q,hq⟩⟩,hB⟩
  exact ⟨⟨⟨u,hv.kept (grownBy_setCell' A (w.heap.size + 1) v) (by simp),hrow.kept (grownBy_setCell' A (w.heap.size + 1) v) (.inr (hq.not_row (by decide) hrow).symm),tv⟩,⟨v,hq.set v⟩⟩,hB.setCell (p:=⟨w.heap.size + 1,0,none⟩) (by simp) v⟩
 case assign=>
  intro l x W K hK
  gi_wp2
  exact hK
 case body=>
  rintro l pre x W ⟨⟨⟨v,hv,hrow,-⟩,⟨q,hq⟩⟩,hB⟩ hlt
  have hc:=hv.cell
  obtain ⟨⟨g,b⟩,hg⟩:=x
  have hg':g < 128:=hg
  have hor:bits .or .u8 (g:Int) 128 = ((g + 128:Nat):Int):=by
   rw [show (128:Int) = ((128:Nat):Int) from rfl,u8_or_nat g 128 (by omega) (by omega),Nat.or_comm]
   have:=qa7 (i:=7) (b:=g) (by omega) 1
   simp only [Nat.reducePow,qcj] at this
   rw [← this,qb4]
  cases b with
  |true=>
   gi_wp2_with (gi_at_builtin; refine wpListIn_append_own _ rfl _ _ 81 rfl w.heap.size 5 i0 (.int .u8 0) 1 1 Tryz.underlying81 hi hz0 hz1 hz2 rfl (by decide) _ _ _ rfl (hrow.alloc _) ⟨W.heap.size,0,none⟩ 1 1 [.int .u8 g] rfl rfl (cell_one_new _ _ _) (by simp [Value.oneCell']) (by simp [maxLen]; omega) (by omega) (by have:=hB.size; simp; omega) ?_; intro v' w1 hown' hgrow _; obtain ⟨g',cap',rfl⟩:=ownsRow_succ hown'; obtain ⟨hv1,hv2,hr2,hk2,hb2⟩:=hv.appended (by decide) hrow hB.size (qf _) hown' hgrow; have hc1:=hv1.cell; have hf1:=hv1.frozen)
   have e1:=(Below.heap_setCell w1 ⟨w.heap.size,0,none⟩ (.slice (some ⟨g',0,none⟩) (pre.length + 1) cap') (w.heap.size + 1) (by simp)).trans ((hq.alloc _).kept hgrow (hq.not_row (by decide) hrow))
   exact ⟨hk2.from _,e1.trans hq.symm,⟨⟨_,hv2,by simpa [byteOf] using hr2,tv⟩,⟨q,e1⟩⟩,hB.trans hb2⟩
  |false=>
   gi_wp2_with (gi_at_builtin; refine wpListIn_append_own _ rfl _ _ 81 rfl w.heap.size 5 i0 (.int .u8 0) 1 1 Tryz.underlying81 hi hz0 hz1 hz2 rfl (by decide) _ _ _ rfl (hrow.alloc _) ⟨W.heap.size,0,none⟩ 1 1 [.int .u8 ((g + 128:Nat):Int)] rfl rfl (cell_one_new _ _ _) (by simp [Value.oneCell']) (by simp [maxLen]; omega) (by omega) (by have:=hB.size; simp; omega) ?_; intro v' w1 hown' hgrow _; obtain ⟨g',cap',rfl⟩:=ownsRow_succ hown'; obtain ⟨hv1,hv2,hr2,hk2,hb2⟩:=hv.appended (by decide) hrow hB.size (qf _) hown' hgrow; have hc1:=hv1.cell; have hf1:=hv1.frozen)
   have e1:=(Below.heap_setCell w1 ⟨w.heap.size,0,none⟩ (.slice (some ⟨g',0,none⟩) (pre.length + 1) cap') (w.heap.size + 1) (by simp)).trans ((hq.alloc _).kept hgrow (hq.not_row (by decide) hrow))
   exact ⟨hk2.from _,e1.trans hq.symm,⟨⟨_,hv2,by simpa [byteOf] using hr2,tv⟩,⟨q,e1⟩⟩,hB.trans hb2⟩
 case done=>
  rintro D ys W hD hS ⟨⟨⟨v,hv,hrow,-⟩,⟨q,hq⟩⟩,hB⟩ hK
  have hc:=hv.cell
  have hgl:ys.map (fun x=>UInt8.ofNat (byteOf x.1)) = putI n:=by
   rw [putI,← zui,← hS,yd]; rfl
  have hlen:ys.length = (grpL (zig n)).length:=by rw [← hS,qb]
  obtain ⟨m,hm⟩:∃ m,ys.length = m + 1:=by
   rw [hlen,grpL]; split<;>exact ⟨_,rfl⟩
  rw [hm] at hrow
  obtain ⟨g,cap,rfl⟩:=ownsRow_succ hrow
  have hcv:=run_convert_bytes_back (P:=Tryz.prog) W 81 9 5 ⟨g,0,none⟩ cap (putI n) Tryz.underlying81 Tryz.underlying5 Tryz.underlying9 (fun j hj=>by
   refine hrow.cells rfl j _ ?_
   have hgj:=congrArg (fun l=>l[j]?) hgl
   simp only [qs] at hgj
   have hj':j < ys.length:=by have:=congrArg List.length hgl; rw [qb] at this; omega
   have hb:=zxh ys[j]
   rw [qc hj',qc hj,qct,Option.some.injEq] at hgj
   rw [qs,qc hj',qct,← hgj,qal,jo (by omega)])
  have hpl:(putI n).length = m + 1:=by rw [← hgl,qb,hm]
  rw [hpl] at hcv
  gi_wp2
  refine ⟨by simp,.inl ⟨_,_,rfl,run_takeDeferred hK,?_⟩⟩
  exact ⟨_,results_tmp2 rfl _ _ _,rfl,hB.trans (belowK_b (w:=w) (qf _) W D _ _ (by simp at hD; omega) hK rfl rfl)⟩
set_option maxRecDepth 100000 in
theorem ztu (n:Int) (hn:n < -4611686018427387903 ∨ 4611686018427387903 < n) (w:World) :
  Calls Tryz.prog 78 #[.int .i64 n] w fun e w'=>e = .returned (.tuple #[.string ⟨#[]⟩,.int .i64 10]) ∧ Below w.heap.size w w':=by
 go_enter Tryz.func78,Tryz.ntmps78
 by_cases g:n < -4611686018427387903
 ·go_wp2
  refine bodyPost_ret (results_tmp2 rfl _ _ _) rfl ⟨rfl,Below.refl _ _⟩
 ·have g2:4611686018427387903 < n:=hn.resolve_left g
  go_wp2
  refine bodyPost_ret (results_tmp2 rfl _ _ _) rfl ⟨rfl,Below.refl _ _⟩
theorem pfun:PFun:=by
 intro F n
 have hent:Sx.Enters Tryz.prog 78:=Sx.enters_of Tryz.func78 rfl (by decide)
 have key:∀ w:World,Calls Tryz.prog 78 #[.int .i64 n] w fun e w'=>e = .returned (.tuple #[.string ⟨(putIR n).1.toArray⟩,.int .i64 (putIR n).2]) ∧ Below w.heap.size w w':=by
  intro w
  by_cases hn:n < -4611686018427387903 ∨ 4611686018427387903 < n
  ·rw [putIR,if_pos hn]; exact ztu n hn w
  ·rw [putIR,if_neg hn]
   exact callsIn_wide.1 (zxg Fence.wide 3 trivial trivial trivial rfl (by omega) n (by omega) w)
 have hf:=zf5 (F:=F) (args:=[.va (.int .i64 n)]) (out:=.ret (.tup [.va (.str (putIR n).1),.va (.int .i64 (putIR n).2)])) (vs:=[.int .i64 n]) hent rfl (by
   rintro ρ vs' h
   match vs',h with
   |[v],h=>rw [h.1]; rfl) (.returned (.tuple #[.string ⟨(putIR n).1.toArray⟩,.int .i64 (putIR n).2])) (fun ρ=>⟨_,rfl,rfl⟩) (fun C ρ w _=>key w)
 exact hf
end Go.Proofs.YtfnkamphhpldcaaGreatDoor
namespace Go.Proofs.YtfnkamphhpldcaaGreatDoor
open Go Go.RowKit Sx
theorem zjz {C:Ctx} {ρ:Rho} {F:Fz} {w:World} {m:Int} (S:Sat C ρ [[(0,.frz F)]] 1 w) (h:F 4 = some (.cells 3 [.int .i64 m])):w.cell? ⟨4,0,none⟩ = some (.int .i64 m):=by
 obtain ⟨o,ho,hok⟩:=S.blk 0 (.frz F) rfl 4 (by simp [Ent.has,h])
 rw [S.id0] at ho
 simp only [Ent.at,h,ju,SB.ok] at hok
 obtain ⟨fr,_,rfl⟩:=hok
 simp [World.cell?,ho,SA.den]
theorem zb5 {P:Program} {F:Fz} {f:FuncId} {args:List SV} {Q Q':Out → Fz → Prop} (h:Fo P F f args Q) (hq:∀ o F',Q o F' → Q' o F'):Fo P F f args Q':=by
 unfold Fo at *
 refine zj7 h fun o h n hc=>?_
 unfold Cln at *
 intro C ρ w e hn S hr hb
 obtain ⟨out0,F0,h0,n0,ρ0,⟨k1,k2,k3,k4,k5⟩,r⟩:=hc C ρ w e hn S hr hb
 exact ⟨out0,F0,h0,n0,ρ0,⟨k1,k2,k3,k4,hq _ _ k5⟩,r⟩
theorem lfun:LFun Lib.toLowerA:=by
 intro F s hs h128
 refine zb5 (zf5 (F:=F) (args:=[.va (.str s)]) (out:=.ret (.va (.str (Lib.toLowerA s)))) (vs:=[.string ⟨s.toArray⟩]) (Sx.enters_of Tryz.func247 rfl (by decide)) rfl (by
   rintro ρ vs' h
   match vs',h with
   |[v],h=>rw [h.1]; rfl) (.returned (.string ⟨(Lib.toLowerA s).toArray⟩)) (fun ρ=>⟨_,rfl,rfl⟩) (fun C ρ w _=>by
   have h:=Tryz.strings_ToLower_ascii ⟨s.toArray⟩ w (by show s.toArray.size ≤ _; simp; omega) (fun j b hb=>h128 b (by
    have hb:s[j]? = some b:=by simpa using hb
    exact yi hb))
   simpa using h)) fun o F' h=>⟨h.2.symm,h.1⟩
theorem pre2 (a b:UInt8) (r:List UInt8):List.isPrefixOf [32,32] (a :: b :: r) = (a == 32 && b == 32):=by
 simp [List.isPrefixOf,Bool.beq_comm (a:=(32:UInt8))]
theorem zgi:∀ s:List UInt8,decide (0 ≤ Lib.index s [32,32]) = hasD s
 |[]=>by simp [Lib.index,hasD]
 |[a]=>by
  simp [Lib.index,hasD,List.isPrefixOf]
 |a :: b :: r=>by
  have ih:=zgi (b :: r)
  have hge:=Lib.index_ge (b :: r) [32,32]
  rw [Lib.index,pre2,hasD]
  by_cases hc:(a == 32 && b == 32) = true
  ·rw [hc]; simp
  ·rw [Bool.eq_false_iff.2 hc,qa4,← ih]
   by_cases hm:Lib.index (b :: r) [32,32] = -1
   ·rw [hm]; simp
   ·have:¬ (Lib.index (b :: r) [32,32] == -1) = true:=by simpa using hm
    simp only [jm,if_false,if_neg this]
    exact decide_eq_decide.2 (by omega)
theorem zm4 (s:List UInt8):Lib.contains s [32,32] = hasD s:=zgi s
theorem dfun:DFun:=by
 intro F s ⟨m,hm⟩ hs
 refine zb5 (zf5 (F:=F) (args:=[.va (.str s),.va (.str [32,32])]) (out:=.ret (.va (.bool (hasD s)))) (vs:=[.string ⟨s.toArray⟩,.string ⟨#[32,32]⟩]) (Sx.enters_of Tryz.func248 rfl (by decide)) rfl (by
   rintro ρ vs' h
   match vs',h with
   |[v,u],h=>rw [h.1,h.2.1]; rfl) (.returned (.bool (hasD s))) (fun ρ=>⟨_,rfl,rfl⟩) (fun C ρ w S=>by
   have h:=Tryz.strings_Contains ⟨s.toArray⟩ ⟨#[32,32]⟩ m w (by show s.toArray.size < _; simp; omega) (zjz S hm)
   refine h.mono fun e w' ⟨h1,h2⟩=>⟨?_,h2 ▸ Below.refl _ _⟩
   rw [h1,← zm4])) fun o F' h=>⟨h.2.symm,h.1⟩
theorem zvz:∀ {s:List UInt8},Lib.index s [32,32] = -1 → repD s = s
 |[],_=>rfl
 |[a],_=>rfl
 |a :: b :: r,h=>by
  have hd:=zgi (a :: b :: r)
  rw [h,hasD] at hd
  have hd':=hd.symm
  rw [show decide ((0:Int) ≤ -1) = false from rfl,Bool.or_eq_false_iff] at hd'
  have hge:=Lib.index_ge (b :: r) [32,32]
  have h2:Lib.index (b :: r) [32,32] = -1:=by
   have:=zgi (b :: r)
   rw [hd'.2] at this
   have:=oe this
   omega
  rw [repD,if_neg (by rw [hd'.1]; simp),zvz h2]
theorem zwu:∀ {s:List UInt8} {i:Nat},Lib.index s [32,32] = i → repD s = s.take i ++ [32] ++ repD (s.drop (i + 2))
 |[],i,h=>by simp [Lib.index] at h
 |[a],i,h=>by simp [Lib.index,List.isPrefixOf] at h
 |a :: b :: r,i,h=>by
  rw [Lib.index,pre2] at h
  rw [repD]
  by_cases hc:(a == 32 && b == 32) = true
  ·rw [hc] at h
   simp only [if_true] at h
   have:i = 0:=by omega
   subst this
   rw [if_pos hc]; rfl
  ·rw [Bool.eq_false_iff.2 hc] at h
   simp only [jm,if_false] at h
   have hge:=Lib.index_ge (b :: r) [32,32]
   by_cases hm:Lib.index (b :: r) [32,32] = -1
   ·rw [hm] at h; simp at h
   ·have hm':¬ (Lib.index (b :: r) [32,32] == -1) = true:=by simpa using hm
    rw [if_neg hm'] at h
    obtain ⟨j,rfl⟩:∃ j,i = j + 1:=⟨i - 1,by omega⟩
    rw [if_neg hc,zwu (s:=b :: r) (i:=j) (by omega)]
    rfl
theorem zd0:∀ (f:Nat) (s:List UInt8),s.length ≤ f → Lib.countFrom [32,32] f s = Lib.countFrom [32,32] s.length s
 |0,s,h=>by rw [qay (by omega:s.length = 0)]; rfl
 |f + 1,s,h=>by
  have hge:=Lib.index_ge s [32,32]
  rw [Lib.countFrom]
  by_cases hm:(Lib.index s [32,32] == -1) = true
  ·rw [if_pos hm]
   cases hl:s.length with
   |zero=>rfl
   |succ n=>rw [Lib.countFrom,if_pos hm]
  ·rw [if_neg hm]
   have hroom := Lib.index_room s [32, 32] (by have : ¬ Lib.index s [32, 32] = -1 := by simpa using hm
                                               omega)
   simp only [qe,qp] at hroom
   obtain ⟨n,hn⟩:∃ n,s.length = n + 1:=⟨s.length - 1,by omega⟩
   rw [hn,Lib.countFrom,if_neg hm,zd0 f _ (by rw [yj]; simp only [qe,qp]; omega),
    zd0 n _ (by rw [yj]; simp only [qe,qp]; omega)]
theorem zio:∀ (n:Nat) (s:List UInt8) (k:Nat),s.length ≤ n → Lib.countFrom [32,32] s.length s ≤ k → Lib.replaceK [32,32] [32] k s = repD s
 |n,s,k,hn,hk=>by
  have hge:=Lib.index_ge s [32,32]
  by_cases hm:Lib.index s [32,32] = -1
  ·rw [zvz hm]
   cases k with
   |zero=>rfl
   |succ k=>rw [Lib.replaceK,if_pos (by simpa using hm)]
  ·have hroom:=Lib.index_room s [32,32] (by omega)
   simp only [qe,qp] at hroom
   obtain ⟨l,hl⟩:∃ l,s.length = l + 1:=⟨s.length - 1,by omega⟩
   have hm':¬ (Lib.index s [32,32] == -1) = true:=by simpa using hm
   obtain ⟨i,hi⟩:∃ i:Nat,Lib.index s [32,32] = i:=⟨(Lib.index s [32,32]).toNat,by omega⟩
   rw [hl,Lib.countFrom,if_neg hm'] at hk
   cases k with
   |zero=>omega
   |succ k=>
    cases n with
    |zero=>omega
    |succ n=>
     rw [Lib.replaceK,if_neg hm',zwu hi,hi]
     simp only [qe,qp,Nat.reduceAdd,ql]
     rw [hi] at hk
     simp only [qe,qp,Nat.reduceAdd,ql] at hk
     rw [zio n (s.drop (i + 2)) k (by rw [yj]; omega) (by
      rw [zd0 l _ (by rw [yj]; omega)] at hk; omega)]
theorem zkk (s:List UInt8):Lib.replaceAll s [32,32] [32] = repD s:=by
 unfold Lib.replaceAll Lib.replace
 rw [if_neg (by decide)]
 refine zio s.length s _ (qf _) ?_
 rw [Lib.replaceNum,if_pos (.inl (by decide)),Lib.count,zd0 (s.length + 1) s (by omega)]
 exact qf _
theorem afun:AFun:=by
 intro F s ⟨m,hm⟩ hs
 refine zb5 (zf5 (F:=F) (args:=[.va (.str s),.va (.str [32,32]),.va (.str [32])]) (out:=.ret (.va (.str (repD s)))) (vs:=[.string ⟨s.toArray⟩,.string ⟨#[32,32]⟩,.string ⟨#[32]⟩]) (Sx.enters_of Tryz.func249 rfl (by decide)) rfl (by
   rintro ρ vs' h
   match vs',h with
   |[v,u,t],h=>rw [h.1,h.2.1,h.2.2.1]; rfl) (.returned (.string ⟨(repD s).toArray⟩)) (fun ρ=>⟨_,rfl,rfl⟩) (fun C ρ w S=>by
   have h:=Tryz.strings_ReplaceAll ⟨s.toArray⟩ ⟨#[32,32]⟩ ⟨#[32]⟩ m w (by show s.toArray.size < _; simp; omega) (zjz S hm) (by decide) (by
    have hcb:=Lib.countB_mul_le ⟨#[32,32]⟩ (by decide) _ ⟨s.toArray⟩ (qf _)
    have e1:(⟨#[32,32]⟩:ByteArray).size = 2:=rfl
    have e2:(⟨#[32]⟩:ByteArray).size = 1:=rfl
    have e3:(⟨s.toArray⟩:ByteArray).size = s.length:=by show s.toArray.size = _; simp
    rw [e1,e3] at hcb
    rw [e2,e3]
    omega)
   refine h.mono fun e w' ⟨h1,h2⟩=>⟨?_,h2⟩
   rw [h1,← zkk])) fun o F' h=>⟨h.2.symm,h.1⟩
theorem zkw:∀ n:Nat,Lib.repeatL [48] n = List.replicate n 48
 |0=>rfl
 |n + 1=>by rw [Lib.repeatL,zkw n,qbh]; rfl
theorem nfun:NFun:=by
 intro F n hn
 refine zb5 (zf5 (F:=F) (args:=[.va (.str [48]),.va (.int .i64 n)]) (out:=.ret (.va (.str (List.replicate n 48)))) (vs:=[.string ⟨#[48]⟩,.int .i64 n]) (Sx.enters_of Tryz.func250 rfl (by decide)) rfl (by
   rintro ρ vs' h
   match vs',h with
   |[v,u],h=>rw [h.1,h.2.1]; rfl) (.returned (.string ⟨(List.replicate n 48).toArray⟩)) (fun ρ=>⟨_,rfl,rfl⟩) (fun C ρ w S=>by
   have h:=Tryz.strings_Repeat ⟨#[48]⟩ n w (by omega) (by show 1 * n ≤ _; omega)
   refine h.mono fun e w' ⟨h1,h2⟩=>⟨?_,h2⟩
   rw [h1,← zkw])) fun o F' h=>⟨h.2.symm,h.1⟩
theorem zy4 (s:List UInt8):Lib.trimS s [48,49] = [] ↔ s.all (fun b=>b == 48 || b == 49) = true:=by
 have hc:∀ b:UInt8,[48,49].contains b = (b == 48 || b == 49):=fun b=>by
  simp [List.contains,List.elem]
  cases h1:(b == 48)<;>cases h2:(b == 49)<;>rfl
 have dw:∀ l:List UInt8,l.dropWhile ([48,49].contains ·) = [] ↔ l.all (fun b=>b == 48 || b == 49) = true:=by
  intro l
  induction l with
  |nil=>simp
  |cons a r ih=>
   rw [List.dropWhile_cons,qbw,hc]
   cases h:(a == 48 || a == 49) with
   |true=>simpa using ih
   |false=>simp
 unfold Lib.trimS Lib.trimLeftS Lib.trimRightS
 rw [dw,qcl]
 constructor
 ·intro h
  have h1:s.reverse.all (fun b=>b == 48 || b == 49) = true:=by
   rw [← List.takeWhile_append_dropWhile (p:=([48,49].contains ·)) (l:=s.reverse),List.all_append,h,qc5]
   refine qo.2 fun b hb=>?_
   have h2:=qo.1 (List.all_takeWhile (p:=([48,49].contains ·)) (l:=s.reverse)) b hb
   rw [← hc]; exact h2
  rwa [qcl] at h1
 ·intro h
  rw [(dw s.reverse).2 (by rw [qcl]; exact h)]; rfl
theorem tfun:TFun:=by
 intro F s hs
 refine zb5 (zf5 (F:=F) (args:=[.va (.str s),.va (.str [48,49])]) (out:=.ret (.va (.str (Lib.trimS s [48,49])))) (vs:=[.string ⟨s.toArray⟩,.string ⟨#[48,49]⟩]) (Sx.enters_of Tryz.func184 rfl (by decide)) rfl (by
   rintro ρ vs' h
   match vs',h with
   |[v,u],h=>rw [h.1,h.2.1]; rfl) (.returned (.string ⟨(Lib.trimS s [48,49]).toArray⟩)) (fun ρ=>⟨_,rfl,rfl⟩) (fun C ρ w S=>by
   have h:=Any.strings_Trim_laid Tryz.lays160 (by kernel_rfl) ⟨s.toArray⟩ ⟨#[48,49]⟩ w (by show s.toArray.size ≤ _; simp; omega) (by decide) (ascii_of_all (by decide))
   refine h.mono fun e w' ⟨h1,h2⟩=>⟨?_,h2⟩
   rw [h1])) fun o F' h=>⟨h.2.symm,_,h.1,zy4 s⟩
def badR (r:Nat):Bool:=!(decide (32 ≤ r) && decide (r ≤ 126))
theorem z3a (w:World):PredAtRunes Tryz.prog 242 #[] badR w:=by
 intro W x hx hb
 unfold FnGives
 have e:IntKind.i64.wrap (x:Int) = x:=by rw [IntKind.wrap_i64]; omega
 go_enter Tryz.func242,Tryz.ntmps242
 by_cases h1:32 ≤ x
 ·by_cases h2:x ≤ 126
  ·go_wp2
   all_goals go_ret
   all_goals refine ⟨?_,0,rfl⟩
   all_goals (simp [badR,h1,h2]; try omega)
  ·go_wp2
   all_goals go_ret
   all_goals refine ⟨?_,0,rfl⟩
   all_goals (simp [badR,h1,h2]; try omega)
 ·go_wp2
  all_goals go_ret
  all_goals refine ⟨?_,0,rfl⟩
  all_goals (simp [badR,h1]; try omega)
theorem zpn (s:List UInt8):∀ (f pos:Nat),s.length ≤ pos + f → decide (0 ≤ Lib.idxFuncFrom badR true ⟨s.toArray⟩ f pos) = (s.drop pos).any badC
 |0,pos,h=>by rw [qaz (by omega)]; rfl
 |f + 1,pos,h=>by
  have hsz:(⟨s.toArray⟩:ByteArray).size = s.length:=by show s.toArray.size = _; simp
  rw [Lib.idxFuncFrom,hsz]
  by_cases hp:pos < s.length
  ·rw [if_pos hp,qv hp,List.any_cons]
   have hge:((⟨s.toArray⟩:ByteArray)[pos]'(by rw [hsz]; exact hp)) = s[pos]:=by simp [ByteArray.getElem_eq_getElem_data]
   by_cases ha:(s[pos]).toNat < 128
   ·rw [decode_ascii ⟨s.toArray⟩ pos (by rw [hsz]; exact hp) (by rw [hge]; exact ha),hge]
    have e:badR (s[pos]).toNat = badC s[pos]:=rfl
    cases hbc:badC s[pos] with
    |true=>rw [if_pos (by rw [e,hbc])]; simp
    |false=>rw [if_neg (by rw [e,hbc]; simp),qa4]; exact zpn s f (pos + 1) (by omega)
   ·have hd:=decode_high ⟨s.toArray⟩ pos (by rw [hsz]; exact hp) (by rw [hge]; omega)
    have hb1:badR (Utf8.decode ⟨s.toArray⟩ pos).1 = true:=by
     unfold badR; have:¬ (Utf8.decode ⟨s.toArray⟩ pos).1 ≤ 126:=by omega
     simp [this]
    have hb2:badC s[pos] = true:=by
     unfold badC; have:¬ (s[pos]).toNat ≤ 126:=by omega
     simp [this]
    rw [if_pos hb1,hb2]; simp
  ·rw [if_neg hp,qaz (by omega)]; rfl
theorem cfun:CFun:=by
 intro F s hs
 refine zb5 (zf5 (F:=F) (args:=[.va (.str s),.va (.fn (.func 242) [])]) (out:=.ret (.va (.bool (s.any badC)))) (vs:=[.string ⟨s.toArray⟩,.func (.func 242) #[] #[]]) (Sx.enters_of Tryz.func241 rfl (by decide)) rfl (by
   rintro ρ vs' h
   match vs',h with
   |[v,u],h=>rw [h.1,h.2.1]; rfl) (.returned (.bool (s.any badC))) (fun ρ=>⟨_,rfl,rfl⟩) (fun C ρ w S=>by
   have h:=Any.strings_ContainsFunc_runes Tryz.laysGw17 242 #[] (enters_of Tryz.func242 (by kernel_rfl) rfl) badR ⟨s.toArray⟩ w (z3a w)
   refine h.mono fun e w' ⟨h1,h2⟩=>⟨?_,h2⟩
   rw [h1,Lib.idxFunc,zpn s _ 0 (by show s.length ≤ 0 + s.toArray.size; simp),qai])) fun o F' h=>⟨h.1,h.2⟩
theorem zpd (p q:Addr) (w:World) :
  CallsD Tryz.prog 126 #[.pointer (some p),.pointer (some q)] .returning w fun e u' w'=>e = .returned (.tuple #[]) ∧ u' = .returning ∧ w' = w:=by
 refine callsD_of_wpS Tryz.func126 rfl fun c₀ cs hu=>?_
 simp only [Tryz.ntmps126,yv,qe,qp,Nat.reduceAdd,Nat.reduceSub,yx,yy,qaf,y9,qu,jt]
 apply wpS_seq
 apply wpS_region
 simp [wpOpsS,go_sem,recoverD,hu,Exit.thenS]
 refine wpS_of_wp ?_
 go_wp2
 refine ⟨rfl,.returning,by cases c₀; simp_all,_,results_none rfl _ _ _,rfl,rfl,rfl⟩
theorem as29 (v:Value) (w:World):(Instr.typeAssert (.iface 35 v) 20 35 true).run Tryz.prog w = .ok (.tuple #[v,.bool true]) w:=by kernel_rfl
set_option maxRecDepth 100000 in
theorem zs6 (p q:Addr) (n:Int) (w:World) (u v:Value) (hp:w.cell? p = some u) (fp:w.frozen? p = false) (hq:(w.setCell p (.string ⟨#[]⟩)).cell? q = some v) (fq:(w.setCell p (.string ⟨#[]⟩)).frozen? q = false) :
  CallsD Tryz.prog 126 #[.pointer (some p),.pointer (some q)] (.panicking [{ v:=.iface 35 (.int .i64 n),recovered:=false }]) w fun e u' w'=>e = .returned (.tuple #[]) ∧ settle u' = .returning ∧ w' = (w.setCell p (.string ⟨#[]⟩)).setCell q (.int .i64 n):=by
 refine callsD_of_wpS Tryz.func126 rfl fun c₀ cs hu=>?_
 simp only [Tryz.ntmps126,yv,qe,qp,Nat.reduceAdd,Nat.reduceSub,yx,yy,qaf,y9,qu,jt]
 apply wpS_seq
 apply wpS_region
 simp [wpOpsS,go_sem,recoverD,hu,Exit.thenS]
 refine wpS_of_wp ?_
 have has:=as29 (.int .i64 n) w
 rw [World.frozen?_setCell] at fq
 go_wp2
 exact ⟨rfl,_,rfl,_,results_none rfl _ _ _,rfl,by simp [settle],rfl⟩
theorem one_cell {C:Ctx} {ρ:Rho} {h:Hp} {nx:Nat} {w:World} {i t:Nat} {a:SA} (S:Sat C ρ h nx w) (hi:lget h i = some (.one (.cells t [a]))):w.cell? ⟨ρ i 0,0,none⟩ = some (a.den ρ) ∧ w.frozen? ⟨ρ i 0,0,none⟩ = false:=by
 obtain ⟨o,ho,hok⟩:=S.blk i _ hi 0 rfl
 have hr:RowAt w (ρ i 0) t [a.den ρ]:=⟨o,ho,hok⟩
 exact ⟨by rw [hr.cell 0]; rfl,hr.free 0 (by simp)⟩
theorem zqp {h:Hp} {nx:Nat} {K:Hp → Nat → Prop} (i j:Nat) (hk:K h nx):DefWP Tryz.prog 126 [.ptr ⟨i,0,0,0,0⟩,.ptr ⟨j,0,0,0,0⟩] h nx none K:=by
 unfold DefWP
 intro C ρ w S hb
 refine ⟨Sx.enters_of Tryz.func126 rfl (by decide),?_⟩
 refine (zpd ⟨ρ i 0,0 * 0 + 0,none⟩ ⟨ρ j 0,0 * 0 + 0,none⟩ w).mono ?_
 rintro e u' w' ⟨rfl,rfl,rfl⟩
 exact ⟨_,h,nx,ρ,rfl,rfl,hk,S,fun _ _=>rfl,qf _⟩
theorem zjy {h:Hp} {nx:Nat} {K:Hp → Nat → Prop} (i j:Nat) (s0:List UInt8) (e0:Int) (hi:lget h i = some (.one (.cells 9 [.str s0]))) (hj:lget h j = some (.one (.cells 35 [.int .i64 e0]))) (hij:¬ i = j)
  (hs:zjf Θ 9 (.va (.ptr ⟨i,0,0,0,0⟩)) (.va (.str [])) h nx fun _ h1 _=>zjf Θ 35 (.va (.ptr ⟨j,0,0,0,0⟩)) (.va (.int .i64 70)) h1 nx fun _ h2 _=>K h2 nx) :
  DefWP Tryz.prog 126 [.ptr ⟨i,0,0,0,0⟩,.ptr ⟨j,0,0,0,0⟩] h nx (some perr) K:=by
 unfold DefWP
 intro C ρ w S hb
 refine ⟨Sx.enters_of Tryz.func126 rfl (by decide),?_⟩
 obtain ⟨p1,p2⟩:=one_cell S hi
 obtain ⟨q1,q2⟩:=one_cell S hj
 have hne:ρ i 0 ≠ ρ j 0:=fun e=>hij (S.inj i 0 j 0 ⟨_,hi,rfl⟩ ⟨_,hj,rfl⟩ e).1
 have q3:(w.setCell ⟨ρ i 0,0,none⟩ (.string ⟨#[]⟩)).cell? ⟨ρ j 0,0,none⟩ = some (.int .i64 e0):=by
  rw [World.cell?_setCell_other _ _ _ _ (by simp [hne])]; exact q1
 have q4:(w.setCell ⟨ρ i 0,0,none⟩ (.string ⟨#[]⟩)).frozen? ⟨ρ j 0,0,none⟩ = false:=by
  rw [World.frozen?_setCell]; exact q2
 obtain ⟨w1,h1,r1,k1,S1⟩:=zic hΘ hs S (v:=.pointer (some ⟨ρ i 0,0 * 0 + 0,none⟩)) (u:=.string ⟨#[]⟩) rfl rfl trivial
 obtain ⟨w2,h2,r2,k2,S2⟩:=zic hΘ k1 S1 (v:=.pointer (some ⟨ρ j 0,0 * 0 + 0,none⟩)) (u:=.int .i64 70) rfl rfl trivial
 have e1:(Instr.storeAt 9 (.pointer (some ⟨ρ i 0,0,none⟩)) (.string ⟨#[]⟩)).run Tryz.prog w = .ok () (w.setCell ⟨ρ i 0,0,none⟩ (.string ⟨#[]⟩)):=by
  simp [go_sem,p1,p2]
 have e2:(Instr.storeAt 35 (.pointer (some ⟨ρ j 0,0,none⟩)) (.int .i64 70)).run Tryz.prog (w.setCell ⟨ρ i 0,0,none⟩ (.string ⟨#[]⟩)) = .ok () ((w.setCell ⟨ρ i 0,0,none⟩ (.string ⟨#[]⟩)).setCell ⟨ρ j 0,0,none⟩ (.int .i64 70)):=by
  simp [go_sem,q2,q3]
 have w1e:w.setCell ⟨ρ i 0,0,none⟩ (.string ⟨#[]⟩) = w1:=by have:=e1.symm.trans r1; cases this; rfl
 rw [w1e] at e2
 have w2e:w1.setCell ⟨ρ j 0,0,none⟩ (.int .i64 70) = w2:=by have:=e2.symm.trans r2; cases this; rfl
 refine (zs6 ⟨ρ i 0,0 * 0 + 0,none⟩ ⟨ρ j 0,0 * 0 + 0,none⟩ 70 w _ _ p1 p2 q3 q4).mono ?_
 rintro e u' w' ⟨rfl,hu,rfl⟩
 refine ⟨_,h2,nx,ρ,rfl,hu,k2,?_,fun _ _=>rfl,qf _⟩
 show Sat C ρ h2 nx ((w.setCell ⟨ρ i 0,0,none⟩ (.string ⟨#[]⟩)).setCell ⟨ρ j 0,0,none⟩ (.int .i64 70))
 rw [w1e,w2e]; exact S2
end Go.Proofs.YtfnkamphhpldcaaGreatDoor
namespace Go.Proofs.YtfnkamphhpldcaaGreatDoor
open Go Sx
def zk7 (p:Int):List Int → List Int → Prop
 |_,[]=>True
 |acc,x :: r=>((bnd p acc).1 ≤ x ∧ x ≤ (bnd p acc).2) ∧ zk7 p (acc ++ [x]) r
def lnOk (p:Int) (before:List Ln) (x:Ln):Prop:=
 if p = 1 then x.2 = [] ∧ x.1.length ≤ 80 ∧ x.1.any badC = false
 else x.1 = [] ∧ x.2.length = cols p ∧ zk7 p [] x.2 ∧ (p ≠ 2 → ∀ y,before.getLast? = some y → cmpL (y.2.take 2) (x.2.take 2) < 0)
def lnsOk (p:Int):List Ln → List Ln → Prop
 |_,[]=>True
 |acc,x :: r=>lnOk p acc x ∧ lnsOk p (acc ++ [x]) r
def VOK (p:Int) (v:Val):Prop:=
 v = loseV ∨ (v.lost = false ∧
  if p = 8 then v.lines = [] ∧ v.bits = [] ∧ (0 ≤ v.w ∧ v.w ≤ 64) ∧ (0 ≤ v.h ∧ v.h ≤ 64)
  else if 6 ≤ p then v.lines = [] ∧ (0 ≤ v.w ∧ v.w ≤ 32) ∧ (min v.w 1 ≤ v.h ∧ v.h ≤ min v.w 1 * 32) ∧ (if p = 7 then (v.bits.length:Int) = v.w * v.h ∧ v.bits.all (fun b=>b == 48 || b == 49) = true else v.bits = [])
  else v.w = 0 ∧ v.h = 0 ∧ v.bits = [] ∧ v.lines.length ≤ 64 ∧ lnsOk p [] v.lines)
theorem zbs {s:List UInt8} {q lo hi:Int}:zb1 s q lo hi = true ↔ (getI s q).2.2 = 0 ∧ lo ≤ (getI s q).1 ∧ (getI s q).1 ≤ hi:=by
 unfold zb1; simp
theorem zop {s:List UInt8} {p:Int}:∀ (f:Nat) (acc:List Int) (q:Int) (n:List Int) (q':Int),numsS s p f acc q = some (n,q') → ∃ m,n = acc ++ m ∧ m.length = f ∧ zk7 p acc m
 |0,acc,q,n,q',h=>by
  simp only [numsS,Option.some.injEq,Prod.mk.injEq] at h
  exact ⟨[],by simp [h.1],rfl,tv⟩
 |f + 1,acc,q,n,q',h=>by
  rw [numsS] at h
  split at h
  ·rename_i hn
   obtain ⟨m,h1,h2,h3⟩:=zop f _ _ _ _ h
   exact ⟨(getI s q).1 :: m,by rw [h1]; simp,by rw [qe,h2],(zbs.1 hn).2,h3⟩
  ·cases h
theorem zxa {s:List UInt8} {p:Int} {acc:List Ln} {q q':Int} {x:Ln} (h:lineS s p acc q = some (x,q')):lnOk p acc x:=by
 unfold lineS at h
 unfold lnOk
 split at h
 ·rename_i hp
  rw [if_pos hp]
  split at h
  ·rename_i hc
   simp only [Option.some.injEq,Prod.mk.injEq] at h
   obtain ⟨rfl,_⟩:=h
   exact ⟨rfl,hc.2.1,hc.2.2⟩
  ·cases h
 ·rename_i hp
  rw [if_neg hp]
  split at h
  ·cases h
  ·rename_i n q2 hn
   obtain ⟨m,h1,h2,h3⟩:=zop _ _ _ _ _ hn
   rw [qu] at h1
   subst h1
   split at h
   ·rename_i hp2
    simp only [Option.some.injEq,Prod.mk.injEq] at h
    obtain ⟨rfl,_⟩:=h
    exact ⟨rfl,h2,h3,fun hc=>absurd hp2 hc⟩
   ·split at h
    ·rename_i hl
     simp only [Option.some.injEq,Prod.mk.injEq] at h
     obtain ⟨rfl,_⟩:=h
     exact ⟨rfl,h2,h3,fun _ y hy=>by rw [hl] at hy; cases hy⟩
    ·rename_i x hl
     split at h
     ·rename_i hc
      simp only [Option.some.injEq,Prod.mk.injEq] at h
      obtain ⟨rfl,_⟩:=h
      exact ⟨rfl,h2,h3,fun _ y hy=>by rw [hl] at hy; cases hy; exact hc⟩
     ·cases h
theorem zku {s:List UInt8} {p:Int}:∀ (f:Nat) (acc:List Ln) (q:Int) (l:List Ln) (q':Int),zca s p f acc q = some (l,q') → ∃ m,l = acc ++ m ∧ m.length = f ∧ lnsOk p acc m
 |0,acc,q,n,q',h=>by
  simp only [zca,Option.some.injEq,Prod.mk.injEq] at h
  exact ⟨[],by simp [h.1],rfl,tv⟩
 |f + 1,acc,q,n,q',h=>by
  rw [zca] at h
  split at h
  ·cases h
  ·rename_i x q2 hx
   obtain ⟨m,h1,h2,h3⟩:=zku f _ _ _ _ h
   exact ⟨x :: m,by rw [h1]; simp,by rw [qe,h2],zxa hx,h3⟩
theorem zsb {p:Int} {s:List UInt8} {v:Val} (h:readS p s = some v):(1 ≤ p ∧ p ≤ 8) ∧ VOK p v:=by
 unfold readS at h
 split at h
 ·cases h
 rename_i hp
 have hp:1 ≤ p ∧ p ≤ 8:=by simpa using hp
 refine ⟨hp,?_⟩
 split at h
 ·cases h; exact .inl rfl
 right
 split at h
 ·rename_i h8
  split at h
  ·rename_i hc
   cases h
   refine ⟨rfl,?_⟩
   rw [if_pos h8]
   exact ⟨rfl,rfl,(zbs.1 hc.1).2,(zbs.1 hc.2.1).2⟩
  ·cases h
 rename_i h8
 split at h
 ·rename_i h6
  dsimp only at h
  split at h
  ·rename_i hc
   split at h
   ·rename_i h7
    split at h
    ·rename_i hb
     cases h
     refine ⟨rfl,?_⟩
     rw [if_neg h8,if_pos h6]
     refine ⟨rfl,(zbs.1 hc.1).2,(zbs.1 hc.2).2,?_⟩
     rw [if_pos h7]
     exact ⟨hb.2.1,hb.2.2.1⟩
    ·cases h
   ·rename_i h7
    split at h
    ·cases h
     refine ⟨rfl,?_⟩
     rw [if_neg h8,if_pos h6]
     refine ⟨rfl,(zbs.1 hc.1).2,(zbs.1 hc.2).2,?_⟩
     rw [if_neg h7]
    ·cases h
  ·cases h
 ·rename_i h6
  split at h
  ·rename_i hc
   split at h
   ·cases h
   ·rename_i l q hl
    split at h
    ·cases h
     refine ⟨rfl,?_⟩
     rw [if_neg h8,if_neg h6]
     obtain ⟨m,h1,h2,h3⟩:=zku _ _ _ _ _ hl
     rw [qu] at h1
     subst h1
     have hr:=(zbs.1 hc).2
     exact ⟨rfl,rfl,rfl,by rw [h2]; omega,h3⟩
    ·cases h
  ·cases h
end Go.Proofs.YtfnkamphhpldcaaGreatDoor
namespace Go.Proofs.YtfnkamphhpldcaaGreatDoor
open Go Sx
set_option maxRecDepth 100000
theorem zf6 {p k n:Int} (hp:1 ≤ p ∧ p ≤ 8) (h:zbw p (k,n) = true) :
  (k = 1 ∧ p = 1 ∧ n = 0) ∨ (k = 2 ∧ p = 1 ∧ n = 0) ∨ (k = 3 ∧ (p = 3 ∨ p = 5) ∧ (n = 10 ∨ n = 100 ∨ n = 1000)) ∨ (k = 4 ∧ p = 2 ∧ (0 ≤ n ∧ n ≤ 6)) ∨ (k = 5 ∧ (p = 6 ∨ p = 7) ∧ n = 0) ∨ (k = 6 ∧ n = 0):=by
 have hk:1 ≤ k ∧ k ≤ 6:=by
  unfold zbw at h
  simp only [qd,decide_eq_true_eq] at h
  exact h.1
 have hkc:k = 1 ∨ k = 2 ∨ k = 3 ∨ k = 4 ∨ k = 5 ∨ k = 6:=by omega
 have hpc:p = 1 ∨ p = 2 ∨ p = 3 ∨ p = 4 ∨ p = 5 ∨ p = 6 ∨ p = 7 ∨ p = 8:=by omega
 rcases hkc with rfl | rfl | rfl | rfl | rfl | rfl<;>rcases hpc with rfl | rfl | rfl | rfl | rfl | rfl | rfl | rfl<;>simp [zbw,props,numOk,idx] at h ⊢<;>omega
def foldL (x:Ln):Ln:=(Lib.toLowerA x.1,x.2)
def zrc (x:Ln):Ln:=(spS x.1.length x.1,x.2)
def zsv (n:Int) (x:Ln):Ln:=(x.1,rndN n x.2)
def limL (n:Int) (x:Ln):Ln:=(x.1,limN n x.2)
def halV (v:Val):Val:=⟨false,[],(v.w + 1) / 2,(v.h + 1) / 2,if v.bits = [] then [] else halB v.w.toNat 0 v.bits (List.replicate ((v.w.toNat + 1) / 2 * ((v.h.toNat + 1) / 2)) 48)⟩
def stepS (s:Stp) (v:Val):Val:=
 if s.1 = 1 then { v with lines:=v.lines.map foldL } else if s.1 = 2 then { v with lines:=v.lines.map zrc } else if s.1 = 3 then { v with lines:=v.lines.map (zsv s.2) }
 else if s.1 = 4 then { v with lines:=v.lines.map (limL s.2) } else if s.1 = 5 then halV v else loseV
theorem ze7 {p:Int}:∀ {acc l:List Ln},lnsOk p acc l → ∀ x ∈ l,∃ b,lnOk p b x
 |_,[],_,x,hx=>absurd hx (by simp)
 |acc,y :: r,h,x,hx=>by
  rcases qj.1 hx with rfl | hx
  ·exact ⟨acc,h.1⟩
  ·exact ze7 h.2 x hx
theorem zf1 {p:Int} {v:Val} (h:VOK p v) (hl:v.lost = false) (hp:p ≤ 5):v.w = 0 ∧ v.h = 0 ∧ v.bits = [] ∧ v.lines.length ≤ 64 ∧ lnsOk p [] v.lines:=by
 rcases h with rfl | ⟨_,h⟩
 ·cases hl
 ·rw [if_neg (by omega),if_neg (by omega)] at h; exact h
theorem zkp {p:Int} {v:Val} (h:VOK p v) (hl:v.lost = false) (hp:p = 6 ∨ p = 7):v.lines = [] ∧ (0 ≤ v.w ∧ v.w ≤ 32) ∧ (min v.w 1 ≤ v.h ∧ v.h ≤ min v.w 1 * 32) ∧ (if p = 7 then (v.bits.length:Int) = v.w * v.h ∧ v.bits.all (fun b=>b == 48 || b == 49) = true else v.bits = []):=by
 rcases h with rfl | ⟨_,h⟩
 ·cases hl
 ·rw [if_neg (by omega),if_pos (by omega)] at h; exact h
theorem z3f {s:List UInt8} (h:s.any badC = false):∀ b ∈ s,32 ≤ b.toNat ∧ b.toNat ≤ 126:=by
 intro b hb
 have h1:=qa6.1 h b hb
 simpa [badC] using h1
theorem z05 (F:Fz) (g b:Nat) (w h:Int) (bits:List UInt8) (lost:Bool) (a:Int) (c:Nat) (caps:Nat → Nat) (hb:F b = some (eF g)) :
  Ct Tryz.prog 246 [.va (.ptr ⟨1,0,0,0,0⟩),.va (.int .i64 a),.va (.ptr (fp b))] F (valM ⟨lost,[],w,h,bits⟩ c caps) 4 (stepV F ⟨lost,[],w,h,bits⟩):=by
 refine ct_of hΘ Tryz.func246 rfl (by decide) _ _ rfl rfl rfl ?_;conv=>whnf
 refine rounds hΘ 1 ?_;conv=>whnf
 refine brd (by decide) ?_;conv=>whnf
 refine clean [] (.ret (.tup [])) F (valM ⟨lost,[],w,h,bits⟩ c caps) 4 ⟨Fz.r F,rfl,rfl,rfl,c,caps,rfl⟩ (zaj _) rfl rfl (by simp [Out.below,SV.below]) (zh9 _ _ _) ⟨Fz.r F,rfl,tv⟩
theorem zix (F:Fz) (g b:Nat) (f:Ln → Ln) (w h:Int) (bits:List UInt8) (lost:Bool) (L:List Ln) (a:Int) (c:Nat) (caps:Nat → Nat) (hb:F b = some (eF g)) (hl:L.length ≤ 1000000) (hG:∀ x ∈ L,z2c g F c caps a f x) :
  Ct Tryz.prog 246 [.va (.ptr ⟨1,0,0,0,0⟩),.va (.int .i64 a),.va (.ptr (fp b))] F (valM ⟨lost,L,w,h,bits⟩ c caps) 4 (stepV F ⟨lost,L.map f,w,h,bits⟩):=by
 by_cases hne:L = []
 ·subst hne; exact z05 F g b w h bits lost a c caps hb
 ·exact z1k F g b f w h bits lost L a c caps hb hne hl hG
def doG (k:Int):Nat:=if k = 5 then 194 else if k = 6 then 195 else 246
def doC (b:Nat → Nat) (k:Int):List Pl:=if k = 1 then [fp (b 6)] else if k = 2 then [fp (b 7)] else if k = 3 then [fp (b 8)] else if k = 4 then [fp (b 9)] else []
theorem do_fn (F:Fz) (b:Nat → Nat) (hK:KindsAt F b) (hM:MLF F) (p k n:Int) (v:Val) (hp:1 ≤ p ∧ p ≤ 8) (hok:zbw p (k,n) = true) (hv:VOK p v) (hnl:v.lost = false) (c:Nat) (caps:Nat → Nat) :
  Ct Tryz.prog (doG k) ([.va (.ptr ⟨1,0,0,0,0⟩),.va (.int .i64 n)] ++ (doC b k).map fun p=>SV.va (.ptr p)) F (valM v c caps) 4 (stepV F (stepS (k,n) v)):=by
 have hpc:=zf6 hp hok
 obtain ⟨lost,L,w,h,bits⟩:=v
 replace hnl:lost = false:=hnl
 subst hnl
 rcases hpc with ⟨rfl,rfl,rfl⟩ | ⟨rfl,rfl,rfl⟩ | ⟨rfl,hp,hn⟩ | ⟨rfl,rfl,hn⟩ | ⟨rfl,hp,rfl⟩ | ⟨rfl,rfl⟩
 ·obtain ⟨_,_,_,hl,ho⟩:=zf1 hv rfl (by omega)
  replace hl:L.length ≤ 64:=hl
  refine zix F 188 (b 6) foldL w h bits false L 0 c caps hK.h6 (by omega) fun x hx L' i hi=>?_
  obtain ⟨bf,hx'⟩:=ze7 ho x hx
  rw [lnOk,if_pos rfl] at hx'
  obtain ⟨t,m⟩:=x
  exact z6l lfun F L' i c caps t m 0 hi (by have h9:t.length ≤ 80:=hx'.2.1; omega) (fun b hb=>by have:=z3f hx'.2.2 b hb; omega)
 ·obtain ⟨_,_,_,hl,ho⟩:=zf1 hv rfl (by omega)
  replace hl:L.length ≤ 64:=hl
  refine zix F 189 (b 7) zrc w h bits false L 0 c caps hK.h7 (by omega) fun x hx L' i hi=>?_
  obtain ⟨bf,hx'⟩:=ze7 ho x hx
  rw [lnOk,if_pos rfl] at hx'
  obtain ⟨t,m⟩:=x
  exact zve dfun afun F hM L' i c caps t m 0 hi (by have h9:t.length ≤ 80:=hx'.2.1; omega)
 ·obtain ⟨_,_,_,hl,ho⟩:=zf1 hv rfl (by omega)
  replace hl:L.length ≤ 64:=hl
  refine zix F 191 (b 8) (zsv n) w h bits false L n c caps hK.h8 (by omega) fun x hx L' i hi=>?_
  obtain ⟨bf,hx'⟩:=ze7 ho x hx
  rw [lnOk,if_neg (by omega)] at hx'
  obtain ⟨t,m⟩:=x
  obtain ⟨_,h2,h3,_⟩:=hx'
  have h2':m.length = 3:=by
   rw [show cols p = 3 by rcases hp with rfl | rfl<;>rfl] at h2; exact h2
  match m,h2',h3,hi with
  |[x,y,z],_,h3,hi=>
   have hz:-1000000000000 ≤ z ∧ z ≤ 1000000000000:=by
    have h4:=h3.2.2.1
    rcases hp with rfl | rfl
    ·have e:bnd 3 (([] ++ [x]) ++ [y]) = (-1000000,1000000):=rfl
     rw [e] at h4; dsimp only at h4; omega
    ·have e:bnd 5 (([] ++ [x]) ++ [y]) = (-1000000000000,1000000000000):=rfl
     rw [e] at h4; exact h4
   exact z0x F L' i c caps t x y z n [] hi (by omega) (by omega) (by omega) (by omega)
 ·obtain ⟨_,_,_,hl,ho⟩:=zf1 hv rfl (by omega)
  replace hl:L.length ≤ 64:=hl
  refine zix F 193 (b 9) (limL n) w h bits false L n c caps hK.h9 (by omega) fun x hx L' i hi=>?_
  obtain ⟨bf,hx'⟩:=ze7 ho x hx
  rw [lnOk,if_neg (by omega)] at hx'
  obtain ⟨t,m⟩:=x
  obtain ⟨_,h2,h3,_⟩:=hx'
  match m,(h2:m.length = 1),hi with
  |[x],_,hi=>exact z1o F L' i c caps t x n [] hi
 ·obtain ⟨hL,hw,hh,hb⟩:=zkp hv rfl hp
  replace hL:L = []:=hL
  subst hL
  replace hw:0 ≤ w ∧ w ≤ 32:=hw
  replace hh:min w 1 ≤ h ∧ h ≤ min w 1 * 32:=hh
  by_cases hbn:bits = []
  ·subst hbn
   exact znf F w h 0 c caps (by omega) (by omega)
  ·have h7:p = 7:=by
    rcases hp with rfl | rfl
    ·exact absurd hb hbn
    ·rfl
   rw [if_pos h7] at hb
   replace hb:(bits.length:Int) = w * h ∧ _:=hb
   rcases bits with _ | ⟨b0,br⟩
   ·exact absurd rfl hbn
   have hpos:0 < w ∧ 0 < h:=by
    have hl0:(0:Int) < w * h:=by rw [← hb.1]; simp only [qe]; omega
    have h0:0 ≤ h:=by omega
    by_cases hw0:w = 0
    ·rw [hw0,Int.zero_mul] at hl0; omega
    ·by_cases hh0:h = 0
     ·rw [hh0,Int.mul_zero] at hl0; omega
     ·omega
   obtain ⟨W,rfl⟩:∃ W:Nat,w = W:=⟨w.toNat,by omega⟩
   obtain ⟨H,rfl⟩:∃ H:Nat,h = H:=⟨h.toNat,by omega⟩
   have:=zpa nfun F W H b0 br 0 c caps (by omega) (by omega) (by have:=hb.1; rw [← qbi] at this; omega)
   exact this
 ·exact z3o F ⟨false,L,w,h,bits⟩ 0 c caps
end Go.Proofs.YtfnkamphhpldcaaGreatDoor
