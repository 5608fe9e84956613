/- Whatever the arguments, the law of exactness says true: steps that are not coarser than others tell two values apart that the others do not; for every input that can be, without further conditions. -/
import Derived.Test.YtblllibdahkgfaaGreatDoorK33

namespace Go.Proofs.YtblllibdahkgfaaGreatDoor
open Go Go.RowKit Go.ChangeShapes Go.WideShapes Go.ChangeAt Sx
set_option maxRecDepth 100000
theorem plain6 (f : FuncId) (fn : Func) (hf : Tryz.pinned.checked.prog.funcNamed "evergreen/evergreenlaw07.AbstractionExactly" = some f) (hfn : Tryz.pinned.checked.prog.funcs[f]? = some fn) :
    true = Tryz.pinned.checked.prog.looks [] ∧ ∀ (j : Nat) t, fn.params[j]? = some t → Tryz.pinned.checked.prog.wantsStandIn t = false := by
  obtain rfl : f = 8 := Option.some.inj ((show Tryz.prog.funcNamed "evergreen/evergreenlaw07.AbstractionExactly" = some 8 by kernel_rfl).symm.trans hf) |>.symm
  obtain rfl : fn = Tryz.f8 := (Option.some.inj (Tryz.func8.symm.trans hfn)).symm
  refine ⟨by kernel_rfl, fun j t ht => ?_⟩
  rw [Tryz.params8] at ht
  have h : ∀ t ∈ ([3, 23, 23] : List Nat), Tryz.prog.wantsStandIn t = false := by
    intro t ht
    have : t = 3 ∨ t = 37 ∨ t = 23 := (by decide : ∀ t ∈ ([3, 23, 23] : List Nat), t = 3 ∨ t = 37 ∨ t = 23) t ht
    rcases this with rfl | rfl | rfl
    · exact (show Tryz.prog.wantsStandIn 3 = false by kernel_rfl)
    · exact (show Tryz.prog.wantsStandIn 37 = false by kernel_rfl)
    · exact (show Tryz.prog.wantsStandIn 23 = false by kernel_rfl)
  exact h t (by simpa using Array.mem_of_getElem? ht)
end Go.Proofs.YtblllibdahkgfaaGreatDoor

namespace Go.Proofs.YtblllibdahkgfaaGreatDoor
open Go Go.RowKit Go.ChangeShapes Go.WideShapes Go.ChangeAt Sx
set_option maxRecDepth 100000
/-- THE CARD. -/
theorem abstractionExactly_card : Rows.AbstractionExactlyCardSaid :=
  Claim7.holds_tied_plain_at .later [] _ _ _ _ said6 (fun _ h => by cases h) (by kernel_rfl) (fun _ h => by cases h) abstractionExactly_row_tie rfl ⟨rfl, rfl⟩ (by kernel_rfl) rfl plain6 (by kernel_rfl)
#print axioms abstractionExactly_card
end Go.Proofs.YtblllibdahkgfaaGreatDoor
