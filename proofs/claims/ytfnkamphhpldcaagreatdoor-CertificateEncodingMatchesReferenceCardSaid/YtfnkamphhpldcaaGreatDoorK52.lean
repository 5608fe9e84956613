import Derived.Test.YtfnkamphhpldcaaGreatDoorK46
set_option maxHeartbeats 64000000
namespace Go.Proofs.YtfnkamphhpldcaaGreatDoor
open Go Go.RowKit Go.ChangeShapes Go.WideShapes Go.ChangeAt Sx
set_option maxRecDepth 100000
theorem yc7:false=Rows.certificateEncodingMatchesReferenceRow.goesBy Tryz.pinned.checked.prog:=by kernel_rfl
theorem wfEN:Rows.certificateEncodingMatchesReferenceRow.wfByText (OpenSpec.ofChange Rows.certificateEncodingMatchesReferenceSpec)=true:=by kernel_rfl
