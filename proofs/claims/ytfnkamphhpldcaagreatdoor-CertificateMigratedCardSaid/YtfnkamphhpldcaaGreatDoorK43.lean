import Derived.Test.YtfnkamphhpldcaaGreatDoorK42
set_option maxHeartbeats 64000000
namespace Go.Proofs.YtfnkamphhpldcaaGreatDoor
open Go Go.RowKit Go.ChangeShapes Go.WideShapes Go.ChangeAt Sx
set_option maxRecDepth 100000
abbrev zjm:Array Value:=#[.agg #[.slice none 0 0,.slice none 0 0,.int .i64 0,.int .i64 0,.slice none 0 0],.agg #[.int .i64 0,.int .i64 0,.int .i64 0,.int .i64 0,.int .i64 0]]
theorem yaa (a:Os) {H:Type} (enc:TypeId × Value → H):∃ places,DataW.whole enc Tryz.prog ((zjc a).forCall (fun _ _=>0) ⟨#[],zjm,[]⟩).memory Tryz.f7.params.toList Rows.certificateMigratedSpec.vars false zjm.toList 8 = some ([.agg [.nil,.nil,.agg [.lit (.int .i64 0),.lit (.int .i64 0)],.nil],.agg [.lit (.int .i64 0),.lit (.int .i64 0),.lit (.int .i64 0),.lit (.int .i64 0),.lit (.int .i64 0)]],[],places):=
 ⟨[],by kernel_rfl⟩
theorem z0y (a:Os):((zjc a).forCall (fun _ _=>0) ⟨#[],zjm,[]⟩).Shaped Tryz.prog:=World.shaped_of_ZipB (by kernel_rfl) (by kernel_rfl)
theorem zvb (a:Os):Input.okWideB Tryz.prog ((zjc a).forCall (fun _ _=>0) ⟨#[],zjm,[]⟩) 7 ⟨#[],zjm,[]⟩ = true:=by kernel_rfl
theorem preCM (a:Os) {H:Type} (enc:TypeId × Value → H):(OpenSpec.ofChange Rows.certificateMigratedSpec).preRow enc Tryz.prog Tryz.f7 Rows.certificateMigratedRow.domain false Rows.certificateMigratedRow.laid ((zjc a).forCall (fun _ _=>0) ⟨#[],zjm,[]⟩).memory zjm:=by
 obtain ⟨places,b⟩:=yaa a enc;exact OpenSpec.preRow_of_cond 8 b (by kernel_rfl) (fun k c=>by cases c) (by kernel_rfl) (ybz a _)
theorem z4l (c:Os) (a:c.Started) (H:Type) (enc:TypeId × Value → H) (F:Stop.Interp) :
  ReturnsInHanded {} Tryz.checked c 7 .any ((OpenSpec.ofChange Rows.certificateMigratedSpec).preRow enc Tryz.prog Tryz.f7 Rows.certificateMigratedRow.domain false Rows.certificateMigratedRow.laid) (((OpenSpec.ofChange Rows.certificateMigratedSpec).at F).post enc Tryz.prog Tryz.f7 false true false false):=by
 refine returnsInHanded_of_row (C:=Tryz.checked) (s:=OpenSpec.ofChange Rows.certificateMigratedSpec) own a (by kernel_rfl) Tryz.func7
  ⟨zjc c,fun _ _=>0,⟨#[],zjm,[]⟩,World.laidAll_os _ _ _,z0y c,(Input.okWide_of_okWideB (base:=0) (zvb c)).1,(Input.okWide_of_okWideB (zvb c)).2,preCM c enc,by
   simp only [Assume.holds];exact ⟨by simp,by simp,fun _=>Modest.zero,by simp,by simp⟩⟩ ?_
 intro W base args e i b d h _ _ _ g f _;exact zvh H enc W base args e i b d h g f
end Go.Proofs.YtfnkamphhpldcaaGreatDoor
