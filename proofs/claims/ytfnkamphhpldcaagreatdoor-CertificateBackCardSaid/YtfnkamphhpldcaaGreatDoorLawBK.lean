/- A migration that can go back, and the one that goes back, have certificates without any steps, and together they lead from the version to itself, for every input. -/
import Derived.Test.YtfnkamphhpldcaaGreatDoorK47
import Derived.Test.YtfnkamphhpldcaaGreatDoorK48
set_option maxHeartbeats 64000000
namespace Go.Proofs.YtfnkamphhpldcaaGreatDoor
open Go Go.RowKit Go.ChangeShapes Go.WideShapes Go.ChangeAt Sx
set_option maxRecDepth 100000
/-- THE CARD. -/
theorem certificateBack_card : Rows.CertificateBackCardSaid :=
 Claim7.holds_tied_plain_at .later [] _ _ _ _ z8w (fun _ h => by cases h) wfBK (fun _ h => by cases h) certificateBack_row_tie rfl ⟨rfl, rfl⟩ (by kernel_rfl) rfl z2r z7g
#print axioms certificateBack_card
end Go.Proofs.YtfnkamphhpldcaaGreatDoor
