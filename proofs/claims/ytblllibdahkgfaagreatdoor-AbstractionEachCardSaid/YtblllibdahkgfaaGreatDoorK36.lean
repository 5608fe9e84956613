import Derived.Test.YtblllibdahkgfaaGreatDoorK35

namespace Go.Proofs.YtblllibdahkgfaaGreatDoor
open Go Go.RowKit Go.ChangeShapes Go.WideShapes Go.ChangeAt Sx
set_option maxRecDepth 100000
abbrev zgo : Array Value := #[.int .i64 0, .slice none 0 0, .slice none 0 0]
theorem zvy (os : Os) {H : Type} (enc : TypeId × Value → H) : ∃ places, DataW.whole enc Tryz.prog ((zf5 os).forCall (fun _ _ => 0) ⟨#[], zgo, []⟩).memory Tryz.f9.params.toList Rows.abstractionEachSpec.vars false zgo.toList 8 = some ([.lit (.int .i64 0), .nil, .nil], [], places) :=
 ⟨[], by kernel_rfl⟩
theorem zrw (os : Os) : ((zf5 os).forCall (fun _ _ => 0) ⟨#[], zgo, []⟩).Shaped Tryz.prog := World.shaped_of_ZipB (by kernel_rfl) (by kernel_rfl)
end Go.Proofs.YtblllibdahkgfaaGreatDoor

namespace Go.Proofs.YtblllibdahkgfaaGreatDoor
open Go Go.RowKit Go.ChangeShapes Go.WideShapes Go.ChangeAt Sx
set_option maxRecDepth 100000
theorem zni (os : Os) : Input.okWideB Tryz.prog ((zf5 os).forCall (fun _ _ => 0) ⟨#[], zgo, []⟩) 9 ⟨#[], zgo, []⟩ = true := by kernel_rfl
theorem pre07 (os : Os) {H : Type} (enc : TypeId × Value → H) : (OpenSpec.ofChange Rows.abstractionEachSpec).preRow enc Tryz.prog Tryz.f9 Rows.abstractionEachRow.domain false Rows.abstractionEachRow.laid ((zf5 os).forCall (fun _ _ => 0) ⟨#[], zgo, []⟩).memory zgo := by
 obtain ⟨places, hx⟩ := zvy os enc
 exact OpenSpec.preRow_of_cond 8 hx (by kernel_rfl) (fun k hk => by cases hk) (by kernel_rfl) (zw0 os _)
theorem zsg (os : Os) (started : os.Started) (H : Type) (enc : TypeId × Value → H) (F : Stop.Interp) :
  ReturnsInHanded {} Tryz.checked os 9 .any ((OpenSpec.ofChange Rows.abstractionEachSpec).preRow enc Tryz.prog Tryz.f9 Rows.abstractionEachRow.domain false Rows.abstractionEachRow.laid) (((OpenSpec.ofChange Rows.abstractionEachSpec).at F).post enc Tryz.prog Tryz.f9 false true false false) := by
 refine returnsInHanded_of_row (C := Tryz.checked) (s := OpenSpec.ofChange Rows.abstractionEachSpec) own started (by kernel_rfl) Tryz.func9
  ⟨zf5 os, fun _ _ => 0, ⟨#[], zgo, []⟩, World.laidAll_os _ _ _, zrw os, (Input.okWide_of_okWideB (base := 0) (zni os)).1, (Input.okWide_of_okWideB (zni os)).2, pre07 os enc, by
   simp only [Assume.holds]
   exact ⟨by simp, by simp, fun _ => Modest.zero, by simp, by simp⟩⟩ ?_
 intro W base args ds gs before hval hW _ _ _ _ hS _
 exact zor H enc W base args ds gs before hval hW hS
end Go.Proofs.YtblllibdahkgfaaGreatDoor
