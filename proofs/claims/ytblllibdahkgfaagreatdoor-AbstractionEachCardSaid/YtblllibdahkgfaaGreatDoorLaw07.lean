/- Whatever the arguments, the law on lines says true: steps do to each line, mark and number the same as if it were alone; for every input that can be, without further conditions. -/
import Derived.Test.YtblllibdahkgfaaGreatDoorK37

namespace Go.Proofs.YtblllibdahkgfaaGreatDoor
open Go Go.RowKit Go.ChangeShapes Go.WideShapes Go.ChangeAt Sx
set_option maxRecDepth 100000
theorem zwh (f : FuncId) (fn : Func) (hf : Tryz.pinned.checked.prog.funcNamed "evergreen/evergreenlaw07.AbstractionEach" = some f) (hfn : Tryz.pinned.checked.prog.funcs[f]? = some fn) :
  true = Tryz.pinned.checked.prog.looks [] ∧ ∀ (j : Nat) t, fn.params[j]? = some t → Tryz.pinned.checked.prog.wantsStandIn t = false := by
 obtain rfl : f = 9 := Option.some.inj ((show Tryz.prog.funcNamed "evergreen/evergreenlaw07.AbstractionEach" = some 9 by kernel_rfl).symm.trans hf) |>.symm
 obtain rfl : fn = Tryz.f9 := (Option.some.inj (Tryz.func9.symm.trans hfn)).symm
 refine ⟨by kernel_rfl, fun j t ht => ?_⟩
 rw [Tryz.params9] at ht
 have h : ∀ t ∈ ([3, 37, 23] : List Nat), Tryz.prog.wantsStandIn t = false := by
  intro t ht
  have : t = 3 ∨ t = 23 ∨ t = 37 := (by decide : ∀ t ∈ ([3, 37, 23] : List Nat), t = 3 ∨ t = 23 ∨ t = 37) t ht
  rcases this with rfl | rfl | rfl
  ·exact (show Tryz.prog.wantsStandIn 3 = false by kernel_rfl)
  ·exact (show Tryz.prog.wantsStandIn 23 = false by kernel_rfl)
  ·exact (show Tryz.prog.wantsStandIn 37 = false by kernel_rfl)
 exact h t (by simpa using Array.mem_of_getElem? ht)
end Go.Proofs.YtblllibdahkgfaaGreatDoor

namespace Go.Proofs.YtblllibdahkgfaaGreatDoor
open Go Go.RowKit Go.ChangeShapes Go.WideShapes Go.ChangeAt Sx
set_option maxRecDepth 100000
/-- THE CARD. -/
theorem abstractionEach_card : Rows.AbstractionEachCardSaid :=
 Claim7.holds_tied_plain_at .later [] _ _ _ _ zx0 (fun _ h => by cases h) (by kernel_rfl) (fun _ h => by cases h) abstractionEach_row_tie rfl ⟨rfl, rfl⟩ (by kernel_rfl) rfl zwh (by kernel_rfl)
#print axioms abstractionEach_card
end Go.Proofs.YtblllibdahkgfaaGreatDoor
