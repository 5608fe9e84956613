import Derived.Test.YtfnkamphhpldcaaGreatDoorK43
set_option maxHeartbeats 64000000
namespace Go.Proofs.YtfnkamphhpldcaaGreatDoor
open Go Go.RowKit Go.ChangeShapes Go.WideShapes Go.ChangeAt Sx
set_option maxRecDepth 100000
theorem ybs:false = Rows.certificateGroupedRow.goesBy Tryz.pinned.checked.prog:=by kernel_rfl
theorem wfGR:Rows.certificateGroupedRow.wfByText (OpenSpec.ofChange Rows.certificateGroupedSpec) = true:=by kernel_rfl
end Go.Proofs.YtfnkamphhpldcaaGreatDoor
