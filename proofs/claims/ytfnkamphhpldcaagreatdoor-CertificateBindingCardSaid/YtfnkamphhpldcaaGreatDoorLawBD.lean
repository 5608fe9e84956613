/- If a certificate is right for two pairs of lists of values, they are the same, or two different strings that are hashed for their roots have the same digest: for every case, every list of strings, every integer, every text and either side. -/
import Derived.Test.YtfnkamphhpldcaaGreatDoorK49
import Derived.Test.YtfnkamphhpldcaaGreatDoorK50
set_option maxHeartbeats 64000000
namespace Go.Proofs.YtfnkamphhpldcaaGreatDoor
open Go Go.RowKit Go.ChangeShapes Go.WideShapes Go.ChangeAt Sx
set_option maxRecDepth 100000
theorem certificateBinding_card:Rows.CertificateBindingCardSaid:=
 Claim7.holds_tied_plain_at .later [] _ _ _ _ ybx (fun _ h=>by cases h) wfBD (fun _ h=>by cases h) certificateBinding_row_tie rfl ⟨rfl,rfl⟩ (by kernel_rfl) rfl z9g ybb
#print axioms certificateBinding_card
