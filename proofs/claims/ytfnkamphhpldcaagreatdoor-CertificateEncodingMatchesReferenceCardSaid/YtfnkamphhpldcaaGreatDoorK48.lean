import Derived.Test.YtfnkamphhpldcaaGreatDoorK47
set_option maxHeartbeats 64000000
namespace Go.Proofs.YtfnkamphhpldcaaGreatDoor
open Go Go.RowKit Go.ChangeShapes Go.WideShapes Go.ChangeAt Sx
set_option maxRecDepth 100000
abbrev fY:Array Value:=#[.agg #[.string ⟨#[]⟩,.string ⟨#[]⟩,.int .i64 0,.slice none 0 0],.agg #[.slice none 0 0,.slice none 0 0,.int .i64 0,.int .i64 0,.slice none 0 0],.int .i64 0,.int .u8 0,.string ⟨#[]⟩]
theorem ybr(a:Os){H:Type}(enc:TypeId×Value->H):∃places,DataW.whole enc Tryz.prog ((iM a).forCall (fun _ _=>0) ⟨#[],fY,[]⟩).memory Tryz.f6.params.toList Rows.certificateEncodingMatchesReferenceSpec.vars false fY.toList 8=some ([.agg [.lit (.string []),.lit (.string []),.lit (.int .i64 0),.nil],.agg [.nil,.nil,.agg [.lit (.int .i64 0),.lit (.int .i64 0)],.nil],.lit (.int .i64 0),.lit (.int .u8 0),.lit (.string [])],[],places):=
 ⟨[],by kernel_rfl⟩
theorem B3(a:Os):((iM a).forCall (fun _ _=>0) ⟨#[],fY,[]⟩).Shaped Tryz.prog:=World.shaped_of_ZipB (by kernel_rfl) (by kernel_rfl)
theorem xy(a:Os):Input.okWideB Tryz.prog ((iM a).forCall (fun _ _=>0) ⟨#[],fY,[]⟩) 6 ⟨#[],fY,[]⟩=true:=by kernel_rfl
theorem preEN(a:Os){H:Type}(enc:TypeId×Value->H):(OpenSpec.ofChange Rows.certificateEncodingMatchesReferenceSpec).preRow enc Tryz.prog Tryz.f6 Rows.certificateEncodingMatchesReferenceRow.domain false Rows.certificateEncodingMatchesReferenceRow.laid ((iM a).forCall (fun _ _=>0) ⟨#[],fY,[]⟩).memory fY:=by
 obtain⟨places,c⟩:=ybr a enc;exact OpenSpec.preRow_of_cond 8 c (by kernel_rfl) (fun k b=>by cases b) (by kernel_rfl) (ydd a _)
theorem Bm(c:Os)(a:c.Started)(H:Type)(enc:TypeId×Value->H)(F:Stop.Interp):
  ReturnsInHanded {} Tryz.checked c 6 .any ((OpenSpec.ofChange Rows.certificateEncodingMatchesReferenceSpec).preRow enc Tryz.prog Tryz.f6 Rows.certificateEncodingMatchesReferenceRow.domain false Rows.certificateEncodingMatchesReferenceRow.laid) (((OpenSpec.ofChange Rows.certificateEncodingMatchesReferenceSpec).at F).post enc Tryz.prog Tryz.f6 false true false false):=by
 refine returnsInHanded_of_row (C:=Tryz.checked) (s:=OpenSpec.ofChange Rows.certificateEncodingMatchesReferenceSpec) own a (by kernel_rfl) Tryz.func6
  ⟨iM c,fun _ _=>0,⟨#[],fY,[]⟩,World.laidAll_os _ _ _,B3 c,(Input.okWide_of_okWideB (base:=0) (xy c)).1,(Input.okWide_of_okWideB (xy c)).2,preEN c enc,by
   simp only[Assume.holds];exact⟨by simp,by simp,fun _=>Modest.zero,by simp,by simp⟩⟩ ?_
 intro W base args ds e b d h _ _ _ f g _;exact D1 H enc W base args ds e b d h f g
