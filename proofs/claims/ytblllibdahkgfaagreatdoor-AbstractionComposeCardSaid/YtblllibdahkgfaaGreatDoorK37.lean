import Derived.Test.YtblllibdahkgfaaGreatDoorK36

namespace Go.Proofs.YtblllibdahkgfaaGreatDoor
open Go Go.RowKit Go.ChangeShapes Go.WideShapes Go.ChangeAt Sx
set_option maxRecDepth 100000
abbrev args3 : Array Value := #[.int .i64 0, .slice none 0 0, .slice none 0 0, .slice none 0 0, .slice none 0 0]
theorem reads3 (os : Os) {H : Type} (enc : TypeId × Value → H) : ∃ places, DataW.whole enc Tryz.prog ((world3 os).forCall (fun _ _ => 0) ⟨#[], args3, []⟩).memory Tryz.f5.params.toList Rows.abstractionComposeSpec.vars false args3.toList 8 = some ([.lit (.int .i64 0), .nil, .nil, .nil, .nil], [], places) :=
  ⟨[], by kernel_rfl⟩
theorem shaped3 (os : Os) : ((world3 os).forCall (fun _ _ => 0) ⟨#[], args3, []⟩).Shaped Tryz.prog := World.shaped_of_ZipB (by kernel_rfl) (by kernel_rfl)
end Go.Proofs.YtblllibdahkgfaaGreatDoor

namespace Go.Proofs.YtblllibdahkgfaaGreatDoor
open Go Go.RowKit Go.ChangeShapes Go.WideShapes Go.ChangeAt Sx
set_option maxRecDepth 100000
theorem okWide3 (os : Os) : Input.okWideB Tryz.prog ((world3 os).forCall (fun _ _ => 0) ⟨#[], args3, []⟩) 5 ⟨#[], args3, []⟩ = true := by kernel_rfl
theorem pre3 (os : Os) {H : Type} (enc : TypeId × Value → H) : (OpenSpec.ofChange Rows.abstractionComposeSpec).preRow enc Tryz.prog Tryz.f5 Rows.abstractionComposeRow.domain false Rows.abstractionComposeRow.laid ((world3 os).forCall (fun _ _ => 0) ⟨#[], args3, []⟩).memory args3 := by
  obtain ⟨places, hx⟩ := reads3 os enc
  exact OpenSpec.preRow_of_cond 8 hx (by kernel_rfl) (fun k hk => by cases hk) (by kernel_rfl) (laid3 os _)
theorem lifted3 (os : Os) (started : os.Started) (H : Type) (enc : TypeId × Value → H) (F : Stop.Interp) :
    ReturnsInHanded {} Tryz.checked os 5 .any ((OpenSpec.ofChange Rows.abstractionComposeSpec).preRow enc Tryz.prog Tryz.f5 Rows.abstractionComposeRow.domain false Rows.abstractionComposeRow.laid) (((OpenSpec.ofChange Rows.abstractionComposeSpec).at F).post enc Tryz.prog Tryz.f5 false true false false) := by
  refine returnsInHanded_of_row (C := Tryz.checked) (s := OpenSpec.ofChange Rows.abstractionComposeSpec) own started (by kernel_rfl) Tryz.func5
    ⟨world3 os, fun _ _ => 0, ⟨#[], args3, []⟩, World.laidAll_os _ _ _, shaped3 os, (Input.okWide_of_okWideB (base := 0) (okWide3 os)).1, (Input.okWide_of_okWideB (okWide3 os)).2, pre3 os enc, by
      simp only [Assume.holds]
      exact ⟨by simp, by simp, fun _ => Modest.zero, by simp, by simp⟩⟩ ?_
  intro W base args ds gs before hval hW _ _ _ _ hS _
  exact contract3 H enc W base args ds gs before hval hW hS
end Go.Proofs.YtblllibdahkgfaaGreatDoor
