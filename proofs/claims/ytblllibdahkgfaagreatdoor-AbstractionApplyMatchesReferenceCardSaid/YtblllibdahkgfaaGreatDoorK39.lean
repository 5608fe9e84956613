import Derived.Test.YtblllibdahkgfaaGreatDoorK38

namespace Go.Proofs.YtblllibdahkgfaaGreatDoor
open Go Go.RowKit Go.ChangeShapes Go.WideShapes Go.ChangeAt Sx
set_option maxRecDepth 100000
abbrev zgy : Array Value := #[.int .i64 0, .slice none 0 0, .string ⟨#[]⟩, .int .i64 0, .slice none 0 0, .slice none 0 0, .int .i64 0, .int .u8 0]
theorem zwr (os : Os) {H : Type} (enc : TypeId × Value → H) : ∃ places, DataW.whole enc Tryz.prog ((zgq os).forCall (fun _ _ => 0) ⟨#[], zgy, []⟩).memory Tryz.f4.params.toList Rows.abstractionApplyMatchesReferenceSpec.vars false zgy.toList 8 = some ([.lit (.int .i64 0), .nil, .lit (.string []), .lit (.int .i64 0), .nil, .nil, .lit (.int .i64 0), .lit (.int .u8 0)], [], places) :=
 ⟨[], by kernel_rfl⟩
theorem zt0 (os : Os) : ((zgq os).forCall (fun _ _ => 0) ⟨#[], zgy, []⟩).Shaped Tryz.prog := World.shaped_of_ZipB (by kernel_rfl) (by kernel_rfl)
end Go.Proofs.YtblllibdahkgfaaGreatDoor

namespace Go.Proofs.YtblllibdahkgfaaGreatDoor
open Go Go.RowKit Go.ChangeShapes Go.WideShapes Go.ChangeAt Sx
set_option maxRecDepth 100000
theorem zn0 (os : Os) : Input.okWideB Tryz.prog ((zgq os).forCall (fun _ _ => 0) ⟨#[], zgy, []⟩) 4 ⟨#[], zgy, []⟩ = true := by kernel_rfl
theorem pre02 (os : Os) {H : Type} (enc : TypeId × Value → H) : (OpenSpec.ofChange Rows.abstractionApplyMatchesReferenceSpec).preRow enc Tryz.prog Tryz.f4 Rows.abstractionApplyMatchesReferenceRow.domain false Rows.abstractionApplyMatchesReferenceRow.laid ((zgq os).forCall (fun _ _ => 0) ⟨#[], zgy, []⟩).memory zgy := by
 obtain ⟨places, hx⟩ := zwr os enc
 exact OpenSpec.preRow_of_cond 8 hx (by kernel_rfl) (fun k hk => by cases hk) (by kernel_rfl) (zyz os _)
theorem ztg (os : Os) (started : os.Started) (H : Type) (enc : TypeId × Value → H) (F : Stop.Interp) :
  ReturnsInHanded {} Tryz.checked os 4 .any ((OpenSpec.ofChange Rows.abstractionApplyMatchesReferenceSpec).preRow enc Tryz.prog Tryz.f4 Rows.abstractionApplyMatchesReferenceRow.domain false Rows.abstractionApplyMatchesReferenceRow.laid) (((OpenSpec.ofChange Rows.abstractionApplyMatchesReferenceSpec).at F).post enc Tryz.prog Tryz.f4 false true false false) := by
 refine returnsInHanded_of_row (C := Tryz.checked) (s := OpenSpec.ofChange Rows.abstractionApplyMatchesReferenceSpec) own started (by kernel_rfl) Tryz.func4
  ⟨zgq os, fun _ _ => 0, ⟨#[], zgy, []⟩, World.laidAll_os _ _ _, zt0 os, (Input.okWide_of_okWideB (base := 0) (zn0 os)).1, (Input.okWide_of_okWideB (zn0 os)).2, pre02 os enc, by
   simp only [Assume.holds]
   exact ⟨by simp, by simp, fun _ => Modest.zero, by simp, by simp⟩⟩ ?_
 intro W base args ds gs before hval hW _ _ _ _ hS _
 exact zo3 H enc W base args ds gs before hval hW hS
end Go.Proofs.YtblllibdahkgfaaGreatDoor
