/- Whatever the arguments, the law of normal forms says true: a list of steps does the same as its normal form, and lists with different normal forms do different things to a value; for every input that can be, without further conditions. -/
import Derived.Test.YtblllibdahkgfaaGreatDoorK38

namespace Go.Proofs.YtblllibdahkgfaaGreatDoor
open Go Go.RowKit Go.ChangeShapes Go.WideShapes Go.ChangeAt Sx
set_option maxRecDepth 100000
theorem plain4 (f : FuncId) (fn : Func) (hf : Tryz.pinned.checked.prog.funcNamed "evergreen/evergreenlaw07.AbstractionNormal" = some f) (hfn : Tryz.pinned.checked.prog.funcs[f]? = some fn) :
    true = Tryz.pinned.checked.prog.looks [] ∧ ∀ (j : Nat) t, fn.params[j]? = some t → Tryz.pinned.checked.prog.wantsStandIn t = false := by
  obtain rfl : f = 6 := Option.some.inj ((show Tryz.prog.funcNamed "evergreen/evergreenlaw07.AbstractionNormal" = some 6 by kernel_rfl).symm.trans hf) |>.symm
  obtain rfl : fn = Tryz.f6 := (Option.some.inj (Tryz.func6.symm.trans hfn)).symm
  refine ⟨by kernel_rfl, fun j t ht => ?_⟩
  rw [Tryz.params6] at ht
  have h : ∀ t ∈ ([3, 37, 23, 23] : List Nat), Tryz.prog.wantsStandIn t = false := by
    intro t ht
    have : t = 3 ∨ t = 37 ∨ t = 23 := (by decide : ∀ t ∈ ([3, 37, 23, 23] : List Nat), t = 3 ∨ t = 37 ∨ t = 23) t ht
    rcases this with rfl | rfl | rfl
    · exact (show Tryz.prog.wantsStandIn 3 = false by kernel_rfl)
    · exact (show Tryz.prog.wantsStandIn 37 = false by kernel_rfl)
    · exact (show Tryz.prog.wantsStandIn 23 = false by kernel_rfl)
  exact h t (by simpa using Array.mem_of_getElem? ht)
end Go.Proofs.YtblllibdahkgfaaGreatDoor

namespace Go.Proofs.YtblllibdahkgfaaGreatDoor
open Go Go.RowKit Go.ChangeShapes Go.WideShapes Go.ChangeAt Sx
set_option maxRecDepth 100000
/-- THE CARD. -/
theorem abstractionNormal_card : Rows.AbstractionNormalCardSaid :=
  Claim7.holds_tied_plain_at .later [] _ _ _ _ said4 (fun _ h => by cases h) (by kernel_rfl) (fun _ h => by cases h) abstractionNormal_row_tie rfl ⟨rfl, rfl⟩ (by kernel_rfl) rfl plain4 (by kernel_rfl)
#print axioms abstractionNormal_card
end Go.Proofs.YtblllibdahkgfaaGreatDoor
