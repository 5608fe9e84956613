import Derived.Test.YtfnkamphhpldcaaGreatDoorK50
set_option maxHeartbeats 64000000
namespace Go.Proofs.YtfnkamphhpldcaaGreatDoor
open Go Go.RowKit Go.ChangeShapes Go.WideShapes Go.ChangeAt Sx
set_option maxRecDepth 100000
theorem yd6(f:FuncId)(fn:Func)(c:Tryz.pinned.checked.prog.funcNamed "evergreen/evergreenlaw10.CertificateChain" =some f)(b:Tryz.pinned.checked.prog.funcs[f]? =some fn):
  true=Tryz.pinned.checked.prog.looks []/\∀(j:Nat) t,fn.params[j]? =some t->Tryz.pinned.checked.prog.wantsStandIn t=false:=by
 obtain rfl:f=8:=Option.some.inj ((show Tryz.prog.funcNamed "evergreen/evergreenlaw10.CertificateChain" =some 8 by kernel_rfl).symm.trans c) |>.symm
 obtain rfl:fn=Tryz.f8:=(Option.some.inj (Tryz.func8.symm.trans b)).symm;refine⟨by kernel_rfl,fun j t a=>?_⟩;rw[Tryz.params8]at a
 have h:∀t∈([27]:List Nat),Tryz.prog.wantsStandIn t=false:=by
  intro t a;have:t=27:=(by decide:∀t∈([27]:List Nat),t=27) t a;rcases this with rfl
  ·exact(show Tryz.prog.wantsStandIn 27=false by kernel_rfl)
 exact h t (by simpa using Array.mem_of_getElem? a)
