/- Encode and Decode agree with the reference implementation; a valid certificate is decoded from its encoding, and what Decode accepts is the encoding of what it returns. -/
import Derived.Test.YtfnkamphhpldcaaGreatDoorK51
import Derived.Test.YtfnkamphhpldcaaGreatDoorK52
set_option maxHeartbeats 64000000
namespace Go.Proofs.YtfnkamphhpldcaaGreatDoor
open Go Go.RowKit Go.ChangeShapes Go.WideShapes Go.ChangeAt Sx
set_option maxRecDepth 100000
theorem certificateEncodingMatchesReference_card:Rows.CertificateEncodingMatchesReferenceCardSaid:=
 Claim7.holds_tied_plain_at .later [] _ _ _ _ yds (fun _ h=>by cases h) wfEN (fun _ h=>by cases h) certificateEncodingMatchesReference_row_tie rfl ⟨rfl,rfl⟩ (by kernel_rfl) rfl ybg yc7
#print axioms certificateEncodingMatchesReference_card
