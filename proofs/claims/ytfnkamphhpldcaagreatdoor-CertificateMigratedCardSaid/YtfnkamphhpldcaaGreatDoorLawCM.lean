/- For every document and migration that integers determine: whatever the migration makes of the document, there is a right certificate for it, whose claims are those of the migration; no conditions -/
import Derived.Test.YtfnkamphhpldcaaGreatDoorK45
import Derived.Test.YtfnkamphhpldcaaGreatDoorK46
set_option maxHeartbeats 64000000
namespace Go.Proofs.YtfnkamphhpldcaaGreatDoor
open Go Go.RowKit Go.ChangeShapes Go.WideShapes Go.ChangeAt Sx
set_option maxRecDepth 100000
/-- THE CARD. -/
theorem certificateMigrated_card : Rows.CertificateMigratedCardSaid :=
 Claim7.holds_tied_plain_at .later [] _ _ _ _ ydh (fun _ h => by cases h) wfCM (fun _ h => by cases h) certificateMigrated_row_tie rfl ⟨rfl, rfl⟩ (by kernel_rfl) rfl yad ycu
#print axioms certificateMigrated_card
end Go.Proofs.YtfnkamphhpldcaaGreatDoor
