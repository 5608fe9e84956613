import Derived.Test.YtfnkamphhpldcaaGreatDoorK46
set_option maxHeartbeats 64000000
namespace Go.Proofs.YtfnkamphhpldcaaGreatDoor
open Go Go.RowKit Go.ChangeShapes Go.WideShapes Go.ChangeAt Sx
set_option maxRecDepth 100000
theorem yf4:false=Rows.certificateChainRow.goesBy Tryz.pinned.checked.prog:=by kernel_rfl
theorem wfCH:Rows.certificateChainRow.wfByText (OpenSpec.ofChange Rows.certificateChainSpec)=true:=by kernel_rfl
