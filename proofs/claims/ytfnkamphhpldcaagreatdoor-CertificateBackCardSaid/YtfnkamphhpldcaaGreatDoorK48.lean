import Derived.Test.YtfnkamphhpldcaaGreatDoorK42
set_option maxHeartbeats 64000000
namespace Go.Proofs.YtfnkamphhpldcaaGreatDoor
open Go Go.RowKit Go.ChangeShapes Go.WideShapes Go.ChangeAt Sx
set_option maxRecDepth 100000
theorem z7g:false = Rows.certificateBackRow.goesBy Tryz.pinned.checked.prog:=by kernel_rfl
theorem wfBK:Rows.certificateBackRow.wfByText (OpenSpec.ofChange Rows.certificateBackSpec) = true:=by kernel_rfl
end Go.Proofs.YtfnkamphhpldcaaGreatDoor
