/- Whatever the arguments, the law on Apply says true: Apply agrees with the reference implementation; for every input that can be, without further conditions. -/
import Derived.Test.YtblllibdahkgfaaGreatDoorK40

namespace Go.Proofs.YtblllibdahkgfaaGreatDoor
open Go Go.RowKit Go.ChangeShapes Go.WideShapes Go.ChangeAt Sx
set_option maxRecDepth 100000
theorem zw7 (f : FuncId) (fn : Func) (hf : Tryz.pinned.checked.prog.funcNamed "evergreen/evergreenlaw07.AbstractionApplyMatchesReference" = some f) (hfn : Tryz.pinned.checked.prog.funcs[f]? = some fn) :
  true = Tryz.pinned.checked.prog.looks [] ∧ ∀ (j : Nat) t, fn.params[j]? = some t → Tryz.pinned.checked.prog.wantsStandIn t = false := by
 obtain rfl : f = 4 := Option.some.inj ((show Tryz.prog.funcNamed "evergreen/evergreenlaw07.AbstractionApplyMatchesReference" = some 4 by kernel_rfl).symm.trans hf) |>.symm
 obtain rfl : fn = Tryz.f4 := (Option.some.inj (Tryz.func4.symm.trans hfn)).symm
 refine ⟨by kernel_rfl, fun j t ht => ?_⟩
 rw [Tryz.params4] at ht
 have h : ∀ t ∈ ([3, 22, 9, 3, 23, 37, 3, 5] : List Nat), Tryz.prog.wantsStandIn t = false := by
  intro t ht
  have : t = 3 ∨ t = 5 ∨ t = 9 ∨ t = 22 ∨ t = 23 ∨ t = 37 := (by decide : ∀ t ∈ ([3, 22, 9, 3, 23, 37, 3, 5] : List Nat), t = 3 ∨ t = 5 ∨ t = 9 ∨ t = 22 ∨ t = 23 ∨ t = 37) t ht
  rcases this with rfl | rfl | rfl | rfl | rfl | rfl
  ·exact (show Tryz.prog.wantsStandIn 3 = false by kernel_rfl)
  ·exact (show Tryz.prog.wantsStandIn 5 = false by kernel_rfl)
  ·exact (show Tryz.prog.wantsStandIn 9 = false by kernel_rfl)
  ·exact (show Tryz.prog.wantsStandIn 22 = false by kernel_rfl)
  ·exact (show Tryz.prog.wantsStandIn 23 = false by kernel_rfl)
  ·exact (show Tryz.prog.wantsStandIn 37 = false by kernel_rfl)
 exact h t (by simpa using Array.mem_of_getElem? ht)
end Go.Proofs.YtblllibdahkgfaaGreatDoor

namespace Go.Proofs.YtblllibdahkgfaaGreatDoor
open Go Go.RowKit Go.ChangeShapes Go.WideShapes Go.ChangeAt Sx
set_option maxRecDepth 100000
/-- THE CARD. -/
theorem abstractionApplyMatchesReference_card : Rows.AbstractionApplyMatchesReferenceCardSaid :=
 Claim7.holds_tied_plain_at .later [] _ _ _ _ zys (fun _ h => by cases h) (by kernel_rfl) (fun _ h => by cases h) abstractionApplyMatchesReference_row_tie rfl ⟨rfl, rfl⟩ (by kernel_rfl) rfl zw7 (by kernel_rfl)
#print axioms abstractionApplyMatchesReference_card
end Go.Proofs.YtblllibdahkgfaaGreatDoor
