import Derived.Test.YtfnkamphhpldcaaGreatDoorK43
import Derived.Test.YtfnkamphhpldcaaGreatDoorK44
set_option maxHeartbeats 64000000
namespace Go.Proofs.YtfnkamphhpldcaaGreatDoor
open Go Go.RowKit Go.ChangeShapes Go.WideShapes Go.ChangeAt Sx
set_option maxRecDepth 100000
theorem yb9:Rows.CertificateMigratedSaid:=
 OpenClaim.holds_of_cond 7 Tryz.f7 rfl rfl rfl rfl rfl rfl rfl ⟨rfl,rfl,rfl,rfl,rfl⟩ rfl rfl rfl rfl rfl (by kernel_rfl) Tryz.func7 z4y
  (od (by kernel_rfl)) (by unfold Func.isWrapper; first | (rw [if_pos (by decide +kernel)]; kernel_rfl) | (rw [if_neg (by decide +kernel)]; exact ⟨rfl,rfl⟩))
  (fun b a H enc _ F=>by rw [OpenClaim.pre_eq_preRow]; exact z4l b a H enc F)
end Go.Proofs.YtfnkamphhpldcaaGreatDoor
