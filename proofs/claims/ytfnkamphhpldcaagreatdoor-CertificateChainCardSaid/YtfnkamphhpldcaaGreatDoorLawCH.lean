/- The statement CertificateChain holds of the given program: the composition of the certificates of a chain is right for the first and the last version, and whatever is not lost is what the composed steps make of the first one; for all cases, without further conditions. -/
import Derived.Test.YtfnkamphhpldcaaGreatDoorK51
import Derived.Test.YtfnkamphhpldcaaGreatDoorK52
set_option maxHeartbeats 64000000
namespace Go.Proofs.YtfnkamphhpldcaaGreatDoor
open Go Go.RowKit Go.ChangeShapes Go.WideShapes Go.ChangeAt Sx
set_option maxRecDepth 100000
theorem certificateChain_card:Rows.CertificateChainCardSaid:=
 Claim7.holds_tied_plain_at .later [] _ _ _ _ ygu (fun _ h=>by cases h) wfCH (fun _ h=>by cases h) certificateChain_row_tie rfl ⟨rfl,rfl⟩ (by kernel_rfl) rfl yd6 yf4
#print axioms certificateChain_card
