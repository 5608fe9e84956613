import Derived.Test.YtfnkamphhpldcaaGreatDoorK45
set_option maxHeartbeats 64000000
namespace Go.Proofs.YtfnkamphhpldcaaGreatDoor
open Go Go.RowKit Go.ChangeShapes Go.WideShapes Go.ChangeAt Sx
set_option maxRecDepth 100000
theorem ycq:false=Rows.certificateTrueRow.goesBy Tryz.pinned.checked.prog:=by kernel_rfl
theorem wfTR:Rows.certificateTrueRow.wfByText (OpenSpec.ofChange Rows.certificateTrueSpec)=true:=by kernel_rfl
