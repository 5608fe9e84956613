/- For every document and at most six migrations that integers determine: composing parts of a chain of certificates first makes no difference, and chains that do not fit, or are too long, are refused; no conditions -/
import Derived.Test.YtfnkamphhpldcaaGreatDoorK48
import Derived.Test.YtfnkamphhpldcaaGreatDoorK49
set_option maxHeartbeats 64000000
namespace Go.Proofs.YtfnkamphhpldcaaGreatDoor
open Go Go.RowKit Go.ChangeShapes Go.WideShapes Go.ChangeAt Sx
set_option maxRecDepth 100000
/-- THE CARD. -/
theorem certificateGrouped_card : Rows.CertificateGroupedCardSaid :=
 Claim7.holds_tied_plain_at .later [] _ _ _ _ ych (fun _ h => by cases h) wfGR (fun _ h => by cases h) certificateGrouped_row_tie rfl ⟨rfl, rfl⟩ (by kernel_rfl) rfl z9z ybs
#print axioms certificateGrouped_card
end Go.Proofs.YtfnkamphhpldcaaGreatDoor
