/- PROVED: for every input the first law of evergreenlaw07 (AbstractionMatchesReference) returns true and its arguments read afterwards as they read before; its conditions are those of the given row and card. -/
import Derived.Test.YtblllibdahkgfaaGreatDoorK33

namespace Go.Proofs.YtblllibdahkgfaaGreatDoor
open Go Go.RowKit Go.ChangeShapes Go.WideShapes Go.ChangeAt Sx
set_option maxRecDepth 100000

theorem plain1 (f : FuncId) (fn : Func) (hf : Tryz.pinned.checked.prog.funcNamed "evergreen/evergreenlaw07.AbstractionMatchesReference" = some f) (hfn : Tryz.pinned.checked.prog.funcs[f]? = some fn) :
    true = Tryz.pinned.checked.prog.looks [] ∧ ∀ (j : Nat) t, fn.params[j]? = some t → Tryz.pinned.checked.prog.wantsStandIn t = false := by
  obtain rfl : f = 3 := Option.some.inj ((show Tryz.prog.funcNamed "evergreen/evergreenlaw07.AbstractionMatchesReference" = some 3 by kernel_rfl).symm.trans hf) |>.symm
  obtain rfl : fn = Tryz.f3 := (Option.some.inj (Tryz.func3.symm.trans hfn)).symm
  refine ⟨by kernel_rfl, fun j t ht => ?_⟩
  rw [Tryz.params3] at ht
  have h : ∀ t ∈ ([3, 22, 22, 3, 23, 23] : List Nat), Tryz.prog.wantsStandIn t = false := by
    intro t ht
    have : t = 3 ∨ t = 22 ∨ t = 23 := (by decide : ∀ t ∈ ([3, 22, 22, 3, 23, 23] : List Nat), t = 3 ∨ t = 22 ∨ t = 23) t ht
    rcases this with rfl | rfl | rfl
    · exact (show Tryz.prog.wantsStandIn 3 = false by kernel_rfl)
    · exact (show Tryz.prog.wantsStandIn 22 = false by kernel_rfl)
    · exact (show Tryz.prog.wantsStandIn 23 = false by kernel_rfl)
  exact h t (by simpa using Array.mem_of_getElem? ht)

end Go.Proofs.YtblllibdahkgfaaGreatDoor

namespace Go.Proofs.YtblllibdahkgfaaGreatDoor
open Go Go.RowKit Go.ChangeShapes Go.WideShapes Go.ChangeAt Sx
set_option maxRecDepth 100000

/-- THE CARD. -/
theorem abstractionMatchesReference_card : Rows.AbstractionMatchesReferenceCardSaid :=
  Claim7.holds_tied_plain_at .later [] _ _ _ _ said1 (fun _ h => by cases h) (by kernel_rfl) (fun _ h => by cases h) abstractionMatchesReference_row_tie rfl ⟨rfl, rfl⟩ (by kernel_rfl) rfl plain1 (by kernel_rfl)
#print axioms abstractionMatchesReference_card
end Go.Proofs.YtblllibdahkgfaaGreatDoor
