import Derived.Test.YtfnkamphhpldcaaGreatDoorK09
import Derived.WalkKit
import Derived.LaidEql
import Derived.Lib.IfaceEq
import Derived.Stop.Asserts
import Derived.RowKitTokens
set_option maxHeartbeats 64000000
namespace Go.Proofs.YtfnkamphhpldcaaGreatDoor
open Go Go.RowKit Go.Extern.Stop Go.Stop Go.Extern
set_option maxRecDepth 100000
theorem z94(v:Value)(w:World):(Extern.ReflectliteType.typeOf #[.iface 213 v]).run Tryz.prog w=.ok (.iface 309 (.agg #[.pointer (some ⟨5,213,none⟩)])) w:=by kernel_rfl
theorem zsr(w:World):((Extern.ReflectliteType.method fun t=>do Extern.Rtype.noPackHeld "Comparable" t;(fun a=>Value.bool a.comparable) <$>typeInfo t) #[.agg #[.pointer (some ⟨5,213,none⟩)]]).run Tryz.prog w=.ok (.bool true) w:=by kernel_rfl
theorem z92(n:Nat)(v:Value)(w:World):(Go.method (n+1) 309 v "Comparable").run Tryz.prog w=.ok (323,v) w:=by kernel_rfl
theorem fComp:(Tryz.prog.info? 213).map (·.comparable)=some true:=by kernel_rfl
theorem noIsF(v:Value)(a:TypeId)(w:World):(Instr.typeAssert (.iface 213 v) a 311 true).run Tryz.prog w=.ok (.tuple #[.nilIface,.bool false]) w:=run_typeAssert_lacksB Tryz.underlying311 (by kernel_rfl) (by kernel_rfl) v a w
theorem z0z(v:Value)(a:TypeId)(w:World):(Instr.typeAssert (.iface 213 v) a 314 true).run Tryz.prog w=.ok (.tuple #[.nilIface,.bool false]) w:=run_typeAssert_lacksB Tryz.underlying314 (by kernel_rfl) (by kernel_rfl) v a w
theorem zw3(v:Value)(a:TypeId)(w:World):(Instr.typeAssert (.iface 213 v) a 316 true).run Tryz.prog w=.ok (.tuple #[.nilIface,.bool false]) w:=run_typeAssert_lacksB Tryz.underlying316 (by kernel_rfl) (by kernel_rfl) v a w
theorem yac(v:Value)(w:World):Calls Tryz.prog 135 #[.nilIface,.iface 213 v] w fun e w'=>e=.returned (.bool false)/\w'=w:=by
 have hn:=run_eql_iface_nil_left (P:=Tryz.prog) w 213 v Tryz.underlying125
 go_enter Tryz.func135,Tryz.ntmps135
 go_wp2
 go_ret
 exact⟨rfl,rfl⟩
theorem is_F(a b:Int)(w:World):Calls Tryz.prog 135 #[.iface 213 (.int .i64 a),.iface 213 (.int .i64 b)] w fun e w'=>e=.returned (.bool (a==b))/\w'=w:=by
 have h8:=@run_callFunc_extern Tryz.prog 201 _ Extern.ReflectliteType.typeOf Tryz.func201 (by kernel_rfl) (by kernel_rfl) (by kernel_rfl) (by kernel_rfl);have h32:=@run_callFunc_extern Tryz.prog 323 _ (Extern.ReflectliteType.method fun t=>do Extern.Rtype.noPackHeld "Comparable" t;pure (.bool (<-typeInfo t).comparable)) Tryz.func323 (by kernel_rfl) (by kernel_rfl) (by kernel_rfl) (by kernel_rfl);have tT:=z94;have cT:=zsr;have mR:=z92;have nE:=noIsF;have uE:=z0z;have vE:=zw3;have heq:=Lib.run_eql_iface_int (P:=Tryz.prog) w (k:=.i64) a b Tryz.underlying125 fComp Tryz.underlying213;rcases hab:a==b with _ | _
 all_goals
  rw[hab]at heq
  go_enter Tryz.func135,Tryz.ntmps135
  go_wp2
  refine wp_loop_rounds 1 ?_;rw[rounds_succ]
  go_wp2
  go_ret
  exact⟨rfl,rfl⟩
