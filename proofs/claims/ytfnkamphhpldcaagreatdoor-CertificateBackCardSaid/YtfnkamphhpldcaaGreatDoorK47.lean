import Derived.Test.YtfnkamphhpldcaaGreatDoorK46
set_option maxHeartbeats 64000000
namespace Go.Proofs.YtfnkamphhpldcaaGreatDoor
open Go Go.RowKit Go.ChangeShapes Go.WideShapes Go.ChangeAt Sx
set_option maxRecDepth 100000
theorem z2r (f:FuncId) (fn:Func) (hf:Tryz.pinned.checked.prog.funcNamed "evergreen/evergreenlaw10.CertificateBack" = some f) (hfn:Tryz.pinned.checked.prog.funcs[f]? = some fn) :
  true = Tryz.pinned.checked.prog.looks [] ∧ ∀ (j:Nat) t,fn.params[j]? = some t → Tryz.pinned.checked.prog.wantsStandIn t = false:=by
 obtain rfl:f = 11:=Option.some.inj ((show Tryz.prog.funcNamed "evergreen/evergreenlaw10.CertificateBack" = some 11 by kernel_rfl).symm.trans hf) |>.symm
 obtain rfl:fn = Tryz.f11:=(Option.some.inj (Tryz.func11.symm.trans hfn)).symm
 refine ⟨by kernel_rfl,fun j t ht=>?_⟩
 rw [Tryz.params11] at ht
 have h:∀ t ∈ ([27,3]:List Nat),Tryz.prog.wantsStandIn t = false:=by
  intro t ht
  have:t = 3 ∨ t = 27:=(by decide:∀ t ∈ ([27,3]:List Nat),t = 3 ∨ t = 27) t ht
  rcases this with rfl | rfl
  ·exact (show Tryz.prog.wantsStandIn 3 = false by kernel_rfl)
  ·exact (show Tryz.prog.wantsStandIn 27 = false by kernel_rfl)
 exact h t (by simpa using Array.mem_of_getElem? ht)
end Go.Proofs.YtfnkamphhpldcaaGreatDoor
