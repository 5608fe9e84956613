/- The properties of every valid document are values to which all valid steps can be applied, and without steps nothing changes; no condition beyond the row. -/
import Derived.Test.YtblllibdahkgfaaGreatDoorK38

namespace Go.Proofs.YtblllibdahkgfaaGreatDoor
open Go Go.RowKit Go.ChangeShapes Go.WideShapes Go.ChangeAt Sx
set_option maxRecDepth 100000
theorem plain08 (f : FuncId) (fn : Func) (hf : Tryz.pinned.checked.prog.funcNamed "evergreen/evergreenlaw07.AbstractionDocument" = some f) (hfn : Tryz.pinned.checked.prog.funcs[f]? = some fn) :
    true = Tryz.pinned.checked.prog.looks [] ∧ ∀ (j : Nat) t, fn.params[j]? = some t → Tryz.pinned.checked.prog.wantsStandIn t = false := by
  obtain rfl : f = 10 := Option.some.inj ((show Tryz.prog.funcNamed "evergreen/evergreenlaw07.AbstractionDocument" = some 10 by kernel_rfl).symm.trans hf) |>.symm
  obtain rfl : fn = Tryz.f10 := (Option.some.inj (Tryz.func10.symm.trans hfn)).symm
  refine ⟨by kernel_rfl, fun j t ht => ?_⟩
  rw [Tryz.params10] at ht
  have h : ∀ t ∈ ([65, 23] : List Nat), Tryz.prog.wantsStandIn t = false := by
    intro t ht
    have : t = 23 ∨ t = 65 := (by decide : ∀ t ∈ ([65, 23] : List Nat), t = 23 ∨ t = 65) t ht
    rcases this with rfl | rfl
    · exact (show Tryz.prog.wantsStandIn 23 = false by kernel_rfl)
    · exact (show Tryz.prog.wantsStandIn 65 = false by kernel_rfl)
  exact h t (by simpa using Array.mem_of_getElem? ht)
end Go.Proofs.YtblllibdahkgfaaGreatDoor

namespace Go.Proofs.YtblllibdahkgfaaGreatDoor
open Go Go.RowKit Go.ChangeShapes Go.WideShapes Go.ChangeAt Sx
set_option maxRecDepth 100000
/-- THE CARD. -/
theorem abstractionDocument_card : Rows.AbstractionDocumentCardSaid :=
  Claim7.holds_tied_plain_at .later [] _ _ _ _ said08 (fun _ h => by cases h) (by kernel_rfl) (fun _ h => by cases h) abstractionDocument_row_tie rfl ⟨rfl, rfl⟩ (by kernel_rfl) rfl plain08 (by kernel_rfl)
#print axioms abstractionDocument_card
end Go.Proofs.YtblllibdahkgfaaGreatDoor
