import Derived.Test.YtfnkamphhpldcaaGreatDoorK50
set_option maxHeartbeats 64000000
namespace Go.Proofs.YtfnkamphhpldcaaGreatDoor
open Go Go.RowKit Go.ChangeShapes Go.WideShapes Go.ChangeAt Sx
set_option maxRecDepth 100000
theorem ybg(f:FuncId)(fn:Func)(c:Tryz.pinned.checked.prog.funcNamed "evergreen/evergreenlaw10.CertificateEncodingMatchesReference" =some f)(b:Tryz.pinned.checked.prog.funcs[f]? =some fn):
  true=Tryz.pinned.checked.prog.looks []/\∀(j:Nat) t,fn.params[j]? =some t->Tryz.pinned.checked.prog.wantsStandIn t=false:=by
 obtain rfl:f=6:=Option.some.inj ((show Tryz.prog.funcNamed "evergreen/evergreenlaw10.CertificateEncodingMatchesReference" =some 6 by kernel_rfl).symm.trans c) |>.symm
 obtain rfl:fn=Tryz.f6:=(Option.some.inj (Tryz.func6.symm.trans b)).symm;refine⟨by kernel_rfl,fun j t a=>?_⟩;rw[Tryz.params6]at a
 have h:∀t∈([48,27,3,5,9]:List Nat),Tryz.prog.wantsStandIn t=false:=by
  intro t a;have:t=3\/t=5\/t=9\/t=27\/t=48:=(by decide:∀t∈([48,27,3,5,9]:List Nat),t=3\/t=5\/t=9\/t=27\/t=48) t a;rcases this with rfl | rfl | rfl | rfl | rfl
  ·exact(show Tryz.prog.wantsStandIn 3=false by kernel_rfl)
  ·exact(show Tryz.prog.wantsStandIn 5=false by kernel_rfl)
  ·exact(show Tryz.prog.wantsStandIn 9=false by kernel_rfl)
  ·exact(show Tryz.prog.wantsStandIn 27=false by kernel_rfl)
  ·exact(show Tryz.prog.wantsStandIn 48=false by kernel_rfl)
 exact h t (by simpa using Array.mem_of_getElem? a)
