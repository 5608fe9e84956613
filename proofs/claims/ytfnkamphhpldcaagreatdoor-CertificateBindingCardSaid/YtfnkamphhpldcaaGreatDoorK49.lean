import Derived.Test.YtfnkamphhpldcaaGreatDoorK48
set_option maxHeartbeats 64000000
namespace Go.Proofs.YtfnkamphhpldcaaGreatDoor
open Go Go.RowKit Go.ChangeShapes Go.WideShapes Go.ChangeAt Sx
set_option maxRecDepth 100000
theorem z9g(f:FuncId)(fn:Func)(c:Tryz.pinned.checked.prog.funcNamed "evergreen/evergreenlaw10.CertificateBinding" =some f)(b:Tryz.pinned.checked.prog.funcs[f]? =some fn):
  true=Tryz.pinned.checked.prog.looks []/\∀(j:Nat) t,fn.params[j]? =some t->Tryz.pinned.checked.prog.wantsStandIn t=false:=by
 obtain rfl:f=10:=Option.some.inj ((show Tryz.prog.funcNamed "evergreen/evergreenlaw10.CertificateBinding" =some 10 by kernel_rfl).symm.trans c) |>.symm
 obtain rfl:fn=Tryz.f10:=(Option.some.inj (Tryz.func10.symm.trans b)).symm;refine⟨by kernel_rfl,fun j t a=>?_⟩;rw[Tryz.params10]at a
 have h:∀t∈([27,34,3,9,4]:List Nat),Tryz.prog.wantsStandIn t=false:=by
  intro t a;have:t=3\/t=4\/t=9\/t=27\/t=34:=(by decide:∀t∈([27,34,3,9,4]:List Nat),t=3\/t=4\/t=9\/t=27\/t=34) t a;rcases this with rfl | rfl | rfl | rfl | rfl
  ·exact(show Tryz.prog.wantsStandIn 3=false by kernel_rfl)
  ·exact(show Tryz.prog.wantsStandIn 4=false by kernel_rfl)
  ·exact(show Tryz.prog.wantsStandIn 9=false by kernel_rfl)
  ·exact(show Tryz.prog.wantsStandIn 27=false by kernel_rfl)
  ·exact(show Tryz.prog.wantsStandIn 34=false by kernel_rfl)
 exact h t (by simpa using Array.mem_of_getElem? a)
