import Derived.Test.YtblllibdahkgfaaGreatDoorK35

namespace Go.Proofs.YtblllibdahkgfaaGreatDoor
open Go Go.RowKit Go.ChangeShapes Go.WideShapes Go.ChangeAt Sx
set_option maxRecDepth 100000
abbrev args5 : Array Value := #[.int .i64 0, .slice none 0 0, .slice none 0 0, .slice none 0 0, .slice none 0 0, .slice none 0 0]
theorem reads5 (os : Os) {H : Type} (enc : TypeId × Value → H) : ∃ places, DataW.whole enc Tryz.prog ((world5 os).forCall (fun _ _ => 0) ⟨#[], args5, []⟩).memory Tryz.f7.params.toList Rows.abstractionCoarserSpec.vars false args5.toList 8 = some ([.lit (.int .i64 0), .nil, .nil, .nil, .nil, .nil], [], places) :=
  ⟨[], by kernel_rfl⟩
theorem shaped5 (os : Os) : ((world5 os).forCall (fun _ _ => 0) ⟨#[], args5, []⟩).Shaped Tryz.prog := World.shaped_of_ZipB (by kernel_rfl) (by kernel_rfl)
end Go.Proofs.YtblllibdahkgfaaGreatDoor

namespace Go.Proofs.YtblllibdahkgfaaGreatDoor
open Go Go.RowKit Go.ChangeShapes Go.WideShapes Go.ChangeAt Sx
set_option maxRecDepth 100000
theorem okWide5 (os : Os) : Input.okWideB Tryz.prog ((world5 os).forCall (fun _ _ => 0) ⟨#[], args5, []⟩) 7 ⟨#[], args5, []⟩ = true := by kernel_rfl
theorem pre5 (os : Os) {H : Type} (enc : TypeId × Value → H) : (OpenSpec.ofChange Rows.abstractionCoarserSpec).preRow enc Tryz.prog Tryz.f7 Rows.abstractionCoarserRow.domain false Rows.abstractionCoarserRow.laid ((world5 os).forCall (fun _ _ => 0) ⟨#[], args5, []⟩).memory args5 := by
  obtain ⟨places, hx⟩ := reads5 os enc
  exact OpenSpec.preRow_of_cond 8 hx (by kernel_rfl) (fun k hk => by cases hk) (by kernel_rfl) (laid5 os _)
theorem lifted5 (os : Os) (started : os.Started) (H : Type) (enc : TypeId × Value → H) (F : Stop.Interp) :
    ReturnsInHanded {} Tryz.checked os 7 .any ((OpenSpec.ofChange Rows.abstractionCoarserSpec).preRow enc Tryz.prog Tryz.f7 Rows.abstractionCoarserRow.domain false Rows.abstractionCoarserRow.laid) (((OpenSpec.ofChange Rows.abstractionCoarserSpec).at F).post enc Tryz.prog Tryz.f7 false true false false) := by
  refine returnsInHanded_of_row (C := Tryz.checked) (s := OpenSpec.ofChange Rows.abstractionCoarserSpec) own started (by kernel_rfl) Tryz.func7
    ⟨world5 os, fun _ _ => 0, ⟨#[], args5, []⟩, World.laidAll_os _ _ _, shaped5 os, (Input.okWide_of_okWideB (base := 0) (okWide5 os)).1, (Input.okWide_of_okWideB (okWide5 os)).2, pre5 os enc, by
      simp only [Assume.holds]
      exact ⟨by simp, by simp, fun _ => Modest.zero, by simp, by simp⟩⟩ ?_
  intro W base args ds gs before hval hW _ _ _ _ hS _
  exact contract5 H enc W base args ds gs before hval hW hS
end Go.Proofs.YtblllibdahkgfaaGreatDoor
