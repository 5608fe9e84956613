import Derived.Test.YtfnkamphhpldcaaGreatDoorK40
set_option maxHeartbeats 64000000
namespace Go.Proofs.YtfnkamphhpldcaaGreatDoor
open Go Go.RowKit Go.ChangeShapes Go.WideShapes Go.ChangeAt Sx
set_option maxRecDepth 100000
theorem ycu:false = Rows.certificateMigratedRow.goesBy Tryz.pinned.checked.prog:=by kernel_rfl
theorem wfCM:Rows.certificateMigratedRow.wfByText (OpenSpec.ofChange Rows.certificateMigratedSpec) = true:=by kernel_rfl
end Go.Proofs.YtfnkamphhpldcaaGreatDoor
