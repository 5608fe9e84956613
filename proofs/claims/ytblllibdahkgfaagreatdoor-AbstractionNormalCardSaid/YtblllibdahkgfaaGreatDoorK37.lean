import Derived.Test.YtblllibdahkgfaaGreatDoorK36

namespace Go.Proofs.YtblllibdahkgfaaGreatDoor
open Go Go.RowKit Go.ChangeShapes Go.WideShapes Go.ChangeAt Sx
set_option maxRecDepth 100000
abbrev args4 : Array Value := #[.int .i64 0, .slice none 0 0, .slice none 0 0, .slice none 0 0]
theorem reads4 (os : Os) {H : Type} (enc : TypeId × Value → H) : ∃ places, DataW.whole enc Tryz.prog ((world4 os).forCall (fun _ _ => 0) ⟨#[], args4, []⟩).memory Tryz.f6.params.toList Rows.abstractionNormalSpec.vars false args4.toList 8 = some ([.lit (.int .i64 0), .nil, .nil, .nil], [], places) :=
  ⟨[], by kernel_rfl⟩
theorem shaped4 (os : Os) : ((world4 os).forCall (fun _ _ => 0) ⟨#[], args4, []⟩).Shaped Tryz.prog := World.shaped_of_ZipB (by kernel_rfl) (by kernel_rfl)
end Go.Proofs.YtblllibdahkgfaaGreatDoor

namespace Go.Proofs.YtblllibdahkgfaaGreatDoor
open Go Go.RowKit Go.ChangeShapes Go.WideShapes Go.ChangeAt Sx
set_option maxRecDepth 100000
theorem okWide4 (os : Os) : Input.okWideB Tryz.prog ((world4 os).forCall (fun _ _ => 0) ⟨#[], args4, []⟩) 6 ⟨#[], args4, []⟩ = true := by kernel_rfl
theorem pre4 (os : Os) {H : Type} (enc : TypeId × Value → H) : (OpenSpec.ofChange Rows.abstractionNormalSpec).preRow enc Tryz.prog Tryz.f6 Rows.abstractionNormalRow.domain false Rows.abstractionNormalRow.laid ((world4 os).forCall (fun _ _ => 0) ⟨#[], args4, []⟩).memory args4 := by
  obtain ⟨places, hx⟩ := reads4 os enc
  exact OpenSpec.preRow_of_cond 8 hx (by kernel_rfl) (fun k hk => by cases hk) (by kernel_rfl) (laid4 os _)
theorem lifted4 (os : Os) (started : os.Started) (H : Type) (enc : TypeId × Value → H) (F : Stop.Interp) :
    ReturnsInHanded {} Tryz.checked os 6 .any ((OpenSpec.ofChange Rows.abstractionNormalSpec).preRow enc Tryz.prog Tryz.f6 Rows.abstractionNormalRow.domain false Rows.abstractionNormalRow.laid) (((OpenSpec.ofChange Rows.abstractionNormalSpec).at F).post enc Tryz.prog Tryz.f6 false true false false) := by
  refine returnsInHanded_of_row (C := Tryz.checked) (s := OpenSpec.ofChange Rows.abstractionNormalSpec) own started (by kernel_rfl) Tryz.func6
    ⟨world4 os, fun _ _ => 0, ⟨#[], args4, []⟩, World.laidAll_os _ _ _, shaped4 os, (Input.okWide_of_okWideB (base := 0) (okWide4 os)).1, (Input.okWide_of_okWideB (okWide4 os)).2, pre4 os enc, by
      simp only [Assume.holds]
      exact ⟨by simp, by simp, fun _ => Modest.zero, by simp, by simp⟩⟩ ?_
  intro W base args ds gs before hval hW _ _ _ _ hS _
  exact contract4 H enc W base args ds gs before hval hW hS
end Go.Proofs.YtblllibdahkgfaaGreatDoor
