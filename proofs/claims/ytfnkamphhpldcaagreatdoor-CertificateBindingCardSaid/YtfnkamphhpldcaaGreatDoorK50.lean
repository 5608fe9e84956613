import Derived.Test.YtfnkamphhpldcaaGreatDoorK44
set_option maxHeartbeats 64000000
namespace Go.Proofs.YtfnkamphhpldcaaGreatDoor
open Go Go.RowKit Go.ChangeShapes Go.WideShapes Go.ChangeAt Sx
set_option maxRecDepth 100000
theorem ybb:false=Rows.certificateBindingRow.goesBy Tryz.pinned.checked.prog:=by kernel_rfl
theorem wfBD:Rows.certificateBindingRow.wfByText (OpenSpec.ofChange Rows.certificateBindingSpec)=true:=by kernel_rfl
