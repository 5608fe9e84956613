import Derived.Test.YtblllibdahkgfaaGreatDoorK36

namespace Go.Proofs.YtblllibdahkgfaaGreatDoor
open Go Go.RowKit Go.ChangeShapes Go.WideShapes Go.ChangeAt Sx
set_option maxRecDepth 100000
abbrev args08 : Array Value := #[.agg #[.slice none 0 0, .slice none 0 0, .int .i64 0, .string ⟨#[]⟩], .slice none 0 0]
theorem reads08 (os : Os) {H : Type} (enc : TypeId × Value → H) : ∃ places, DataW.whole enc Tryz.prog ((world08 os).forCall (fun _ _ => 0) ⟨#[], args08, []⟩).memory Tryz.f10.params.toList Rows.abstractionDocumentSpec.vars false args08.toList 8 = some ([.agg [.nil, .nil, .lit (.int .i64 0), .lit (.string [])], .nil], [], places) :=
  ⟨[], by kernel_rfl⟩
theorem shaped08 (os : Os) : ((world08 os).forCall (fun _ _ => 0) ⟨#[], args08, []⟩).Shaped Tryz.prog := World.shaped_of_ZipB (by kernel_rfl) (by kernel_rfl)
end Go.Proofs.YtblllibdahkgfaaGreatDoor

namespace Go.Proofs.YtblllibdahkgfaaGreatDoor
open Go Go.RowKit Go.ChangeShapes Go.WideShapes Go.ChangeAt Sx
set_option maxRecDepth 100000
theorem okWide08 (os : Os) : Input.okWideB Tryz.prog ((world08 os).forCall (fun _ _ => 0) ⟨#[], args08, []⟩) 10 ⟨#[], args08, []⟩ = true := by kernel_rfl
theorem pre08 (os : Os) {H : Type} (enc : TypeId × Value → H) : (OpenSpec.ofChange Rows.abstractionDocumentSpec).preRow enc Tryz.prog Tryz.f10 Rows.abstractionDocumentRow.domain false Rows.abstractionDocumentRow.laid ((world08 os).forCall (fun _ _ => 0) ⟨#[], args08, []⟩).memory args08 := by
  obtain ⟨places, hx⟩ := reads08 os enc
  exact OpenSpec.preRow_of_cond 8 hx (by kernel_rfl) (fun k hk => by cases hk) (by kernel_rfl) (laid08 os _)
theorem lifted08 (os : Os) (started : os.Started) (H : Type) (enc : TypeId × Value → H) (F : Stop.Interp) :
    ReturnsInHanded {} Tryz.checked os 10 .any ((OpenSpec.ofChange Rows.abstractionDocumentSpec).preRow enc Tryz.prog Tryz.f10 Rows.abstractionDocumentRow.domain false Rows.abstractionDocumentRow.laid) (((OpenSpec.ofChange Rows.abstractionDocumentSpec).at F).post enc Tryz.prog Tryz.f10 false true false false) := by
  refine returnsInHanded_of_row (C := Tryz.checked) (s := OpenSpec.ofChange Rows.abstractionDocumentSpec) own started (by kernel_rfl) Tryz.func10
    ⟨world08 os, fun _ _ => 0, ⟨#[], args08, []⟩, World.laidAll_os _ _ _, shaped08 os, (Input.okWide_of_okWideB (base := 0) (okWide08 os)).1, (Input.okWide_of_okWideB (okWide08 os)).2, pre08 os enc, by
      simp only [Assume.holds]
      exact ⟨by simp, by simp, fun _ => Modest.zero, by simp, by simp⟩⟩ ?_
  intro W base args ds gs before hval hW _ _ _ _ hS _
  exact contract08 H enc W base args ds gs before hval hW hS
end Go.Proofs.YtblllibdahkgfaaGreatDoor
