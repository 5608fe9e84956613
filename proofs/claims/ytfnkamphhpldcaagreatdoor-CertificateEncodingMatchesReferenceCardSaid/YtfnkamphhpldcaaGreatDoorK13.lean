import Derived.Test.YtfnkamphhpldcaaGreatDoorK09
import Derived.WalkKit
import Derived.LaidEql
import Derived.Lib.IfaceEq
import Derived.Stop.Asserts
import Derived.RowKitTokens
set_option maxHeartbeats 64000000
namespace Go.Proofs.YtfnkamphhpldcaaGreatDoor
open Go Go.RowKit Go.Extern.Stop Go.Stop Go.Extern Tryz
set_option maxRecDepth 100000
theorem yaj(v:Value)(w:World):(Extern.ReflectliteType.typeOf #[.iface 213 v]).run prog w=.ok (.iface 309 (.agg #[.pointer (some ⟨5,213,none⟩)])) w:=by kernel_rfl
theorem Dv(w:World):((Extern.ReflectliteType.method fun t=>do Extern.Rtype.noPackHeld "Comparable" t;(fun a=>Value.bool a.comparable) <$>typeInfo t) #[.agg #[.pointer (some ⟨5,213,none⟩)]]).run prog w=.ok (.bool true) w:=by kernel_rfl
theorem yai(n:Nat)(v:Value)(w:World):(Go.method (n+1) 309 v "Comparable").run prog w=.ok (323,v) w:=by kernel_rfl
theorem fComp:(prog.info? 213).map (·.comparable)=some true:=by kernel_rfl
theorem noIsF(v:Value)(a:TypeId)(w:World):(Instr.typeAssert (.iface 213 v) a 311 true).run prog w=.ok (.tuple #[.nilIface,.bool false]) w:=run_typeAssert_lacksB underlying311 (by kernel_rfl) (by kernel_rfl) v a w
theorem zu(v:Value)(a:TypeId)(w:World):(Instr.typeAssert (.iface 213 v) a 314 true).run prog w=.ok (.tuple #[.nilIface,.bool false]) w:=run_typeAssert_lacksB underlying314 (by kernel_rfl) (by kernel_rfl) v a w
theorem Ee(v:Value)(a:TypeId)(w:World):(Instr.typeAssert (.iface 213 v) a 316 true).run prog w=.ok (.tuple #[.nilIface,.bool false]) w:=run_typeAssert_lacksB underlying316 (by kernel_rfl) (by kernel_rfl) v a w
theorem yat(v:Value)(w:World):Calls prog 135 #[.nilIface,.iface 213 v] w fun e w'=>e=.returned (.bool false)/\w'=w:=by
 have hn:=run_eql_iface_nil_left (P:=prog) w 213 v underlying125
 go_enter func135,Tryz.ntmps135
 go_wp2
 go_ret
 exact⟨rfl,rfl⟩
theorem is_F(a b:Int)(w:World):Calls prog 135 #[.iface 213 (.int .i64 a),.iface 213 (.int .i64 b)] w fun e w'=>e=.returned (.bool (a==b))/\w'=w:=by
 have h8:=@run_callFunc_extern prog 201 _ Extern.ReflectliteType.typeOf func201 (by kernel_rfl) (by kernel_rfl) (by kernel_rfl) (by kernel_rfl);have h32:=@run_callFunc_extern prog 323 _ (Extern.ReflectliteType.method fun t=>do Extern.Rtype.noPackHeld "Comparable" t;pure (.bool (<-typeInfo t).comparable)) func323 (by kernel_rfl) (by kernel_rfl) (by kernel_rfl) (by kernel_rfl);have tT:=yaj;have cT:=Dv;have mR:=yai;have nE:=noIsF;have uE:=zu;have vE:=Ee;have heq:=Lib.run_eql_iface_int (P:=prog) w (k:=.i64) a b underlying125 fComp underlying213;rcases hab:a==b with _ | _
 all_goals
  rw[hab]at heq
  go_enter func135,Tryz.ntmps135
  go_wp2
  refine wp_loop_rounds 1 ?_;rw[rounds_succ]
  go_wp2
  go_ret
  exact⟨rfl,rfl⟩
