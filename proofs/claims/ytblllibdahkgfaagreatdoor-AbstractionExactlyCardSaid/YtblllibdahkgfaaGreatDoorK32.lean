import Derived.Test.YtblllibdahkgfaaGreatDoorK31

namespace Go.Proofs.YtblllibdahkgfaaGreatDoor
open Go Go.RowKit Go.ChangeShapes Go.WideShapes Go.ChangeAt Sx
set_option maxRecDepth 100000
abbrev args6 : Array Value := #[.int .i64 0, .slice none 0 0, .slice none 0 0]
theorem reads6 (os : Os) {H : Type} (enc : TypeId × Value → H) : ∃ places, DataW.whole enc Tryz.prog ((world6 os).forCall (fun _ _ => 0) ⟨#[], args6, []⟩).memory Tryz.f8.params.toList Rows.abstractionExactlySpec.vars false args6.toList 8 = some ([.lit (.int .i64 0), .nil, .nil], [], places) :=
  ⟨[], by kernel_rfl⟩
theorem shaped6 (os : Os) : ((world6 os).forCall (fun _ _ => 0) ⟨#[], args6, []⟩).Shaped Tryz.prog := World.shaped_of_ZipB (by kernel_rfl) (by kernel_rfl)
end Go.Proofs.YtblllibdahkgfaaGreatDoor

namespace Go.Proofs.YtblllibdahkgfaaGreatDoor
open Go Go.RowKit Go.ChangeShapes Go.WideShapes Go.ChangeAt Sx
set_option maxRecDepth 100000
theorem okWide6 (os : Os) : Input.okWideB Tryz.prog ((world6 os).forCall (fun _ _ => 0) ⟨#[], args6, []⟩) 8 ⟨#[], args6, []⟩ = true := by kernel_rfl
theorem pre6 (os : Os) {H : Type} (enc : TypeId × Value → H) : (OpenSpec.ofChange Rows.abstractionExactlySpec).preRow enc Tryz.prog Tryz.f8 Rows.abstractionExactlyRow.domain false Rows.abstractionExactlyRow.laid ((world6 os).forCall (fun _ _ => 0) ⟨#[], args6, []⟩).memory args6 := by
  obtain ⟨places, hx⟩ := reads6 os enc
  exact OpenSpec.preRow_of_cond 8 hx (by kernel_rfl) (fun k hk => by cases hk) (by kernel_rfl) (laid6 os _)
theorem lifted6 (os : Os) (started : os.Started) (H : Type) (enc : TypeId × Value → H) (F : Stop.Interp) :
    ReturnsInHanded {} Tryz.checked os 8 .any ((OpenSpec.ofChange Rows.abstractionExactlySpec).preRow enc Tryz.prog Tryz.f8 Rows.abstractionExactlyRow.domain false Rows.abstractionExactlyRow.laid) (((OpenSpec.ofChange Rows.abstractionExactlySpec).at F).post enc Tryz.prog Tryz.f8 false true false false) := by
  refine returnsInHanded_of_row (C := Tryz.checked) (s := OpenSpec.ofChange Rows.abstractionExactlySpec) own started (by kernel_rfl) Tryz.func8
    ⟨world6 os, fun _ _ => 0, ⟨#[], args6, []⟩, World.laidAll_os _ _ _, shaped6 os, (Input.okWide_of_okWideB (base := 0) (okWide6 os)).1, (Input.okWide_of_okWideB (okWide6 os)).2, pre6 os enc, by
      simp only [Assume.holds]
      exact ⟨by simp, by simp, fun _ => Modest.zero, by simp, by simp⟩⟩ ?_
  intro W base args ds gs before hval hW _ _ _ _ hS _
  exact contract6 H enc W base args ds gs before hval hW hS
end Go.Proofs.YtblllibdahkgfaaGreatDoor
