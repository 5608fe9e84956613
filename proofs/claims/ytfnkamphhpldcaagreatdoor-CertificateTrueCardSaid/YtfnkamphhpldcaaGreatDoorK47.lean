import Derived.Test.YtfnkamphhpldcaaGreatDoorK46
set_option maxHeartbeats 64000000
namespace Go.Proofs.YtfnkamphhpldcaaGreatDoor
open Go Go.RowKit Go.ChangeShapes Go.WideShapes Go.ChangeAt Sx
set_option maxRecDepth 100000
abbrev zj3:Array Value:=#[.agg #[.slice none 0 0,.slice none 0 0,.int .i64 0,.int .i64 0,.slice none 0 0],.agg #[.slice none 0 0,.slice none 0 0,.int .i64 0,.int .i64 0,.slice none 0 0],.agg #[.int .i64 0,.int .i64 0,.int .i64 0,.int .i64 0,.int .i64 0],.int .i64 0]
theorem ya7(a:Os){H:Type}(enc:TypeId×Value->H):∃places,DataW.whole enc Tryz.prog ((zj2 a).forCall (fun _ _=>0) ⟨#[],zj3,[]⟩).memory Tryz.f3.params.toList Rows.certificateTrueSpec.vars false zj3.toList 8=some ([.agg [.nil,.nil,.agg [.lit (.int .i64 0),.lit (.int .i64 0)],.nil],.agg [.nil,.nil,.agg [.lit (.int .i64 0),.lit (.int .i64 0)],.nil],.agg [.lit (.int .i64 0),.lit (.int .i64 0),.lit (.int .i64 0),.lit (.int .i64 0),.lit (.int .i64 0)],.lit (.int .i64 0)],[],places):=
 ⟨[],by kernel_rfl⟩
theorem z7o(a:Os):((zj2 a).forCall (fun _ _=>0) ⟨#[],zj3,[]⟩).Shaped Tryz.prog:=World.shaped_of_ZipB (by kernel_rfl) (by kernel_rfl)
theorem zve(a:Os):Input.okWideB Tryz.prog ((zj2 a).forCall (fun _ _=>0) ⟨#[],zj3,[]⟩) 3 ⟨#[],zj3,[]⟩=true:=by kernel_rfl
theorem preTR(a:Os){H:Type}(enc:TypeId×Value->H):(OpenSpec.ofChange Rows.certificateTrueSpec).preRow enc Tryz.prog Tryz.f3 Rows.certificateTrueRow.domain false Rows.certificateTrueRow.laid ((zj2 a).forCall (fun _ _=>0) ⟨#[],zj3,[]⟩).memory zj3:=by
 obtain⟨places,c⟩:=ya7 a enc;exact OpenSpec.preRow_of_cond 8 c (by kernel_rfl) (fun k b=>by cases b) (by kernel_rfl) (ycv a _)
theorem z5u(c:Os)(a:c.Started)(H:Type)(enc:TypeId×Value->H)(F:Stop.Interp):
  ReturnsInHanded {} Tryz.checked c 3 .any ((OpenSpec.ofChange Rows.certificateTrueSpec).preRow enc Tryz.prog Tryz.f3 Rows.certificateTrueRow.domain false Rows.certificateTrueRow.laid) (((OpenSpec.ofChange Rows.certificateTrueSpec).at F).post enc Tryz.prog Tryz.f3 false true false false):=by
 refine returnsInHanded_of_row (C:=Tryz.checked) (s:=OpenSpec.ofChange Rows.certificateTrueSpec) own a (by kernel_rfl) Tryz.func3
  ⟨zj2 c,fun _ _=>0,⟨#[],zj3,[]⟩,World.laidAll_os _ _ _,z7o c,(Input.okWide_of_okWideB (base:=0) (zve c)).1,(Input.okWide_of_okWideB (zve c)).2,preTR c enc,by
   simp only[Assume.holds];exact⟨by simp,by simp,fun _=>Modest.zero,by simp,by simp⟩⟩ ?_
 intro W base args e f b d i _ _ _ g h _;exact zwq H enc W base args e f b d i g h
