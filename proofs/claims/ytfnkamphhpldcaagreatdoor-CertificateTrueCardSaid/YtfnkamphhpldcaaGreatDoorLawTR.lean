/- The statement CertificateTrue holds of the given program: a certificate that names the roots of two versions is right exactly if each property that is not lost is what is claimed; claiming that a property is lost never makes a right certificate wrong; for all cases, every five integers and every integer, without further conditions. -/
import Derived.Test.YtfnkamphhpldcaaGreatDoorK50
import Derived.Test.YtfnkamphhpldcaaGreatDoorK51
set_option maxHeartbeats 64000000
namespace Go.Proofs.YtfnkamphhpldcaaGreatDoor
open Go Go.RowKit Go.ChangeShapes Go.WideShapes Go.ChangeAt Sx
set_option maxRecDepth 100000
theorem certificateTrue_card:Rows.CertificateTrueCardSaid:=
 Claim7.holds_tied_plain_at .later [] _ _ _ _ yc8 (fun _ h=>by cases h) wfTR (fun _ h=>by cases h) certificateTrue_row_tie rfl ⟨rfl,rfl⟩ (by kernel_rfl) rfl yav ycq
#print axioms certificateTrue_card
