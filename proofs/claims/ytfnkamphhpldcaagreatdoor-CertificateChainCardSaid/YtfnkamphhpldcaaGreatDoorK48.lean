import Derived.Test.YtfnkamphhpldcaaGreatDoorK47
set_option maxHeartbeats 64000000
namespace Go.Proofs.YtfnkamphhpldcaaGreatDoor
open Go Go.RowKit Go.ChangeShapes Go.WideShapes Go.ChangeAt Sx
set_option maxRecDepth 100000
abbrev gu:Array Value:=#[.agg #[.slice none 0 0,.slice none 0 0,.int .i64 0,.int .i64 0,.slice none 0 0]]
theorem yei(a:Os){H:Type}(enc:TypeId×Value->H):∃places,DataW.whole enc Tryz.prog ((iZ a).forCall (fun _ _=>0) ⟨#[],gu,[]⟩).memory Tryz.f8.params.toList Rows.certificateChainSpec.vars false gu.toList 8=some ([.agg [.nil,.nil,.agg [.lit (.int .i64 0),.lit (.int .i64 0)],.nil]],[],places):=
 ⟨[],by kernel_rfl⟩
theorem ya1(a:Os):((iZ a).forCall (fun _ _=>0) ⟨#[],gu,[]⟩).Shaped Tryz.prog:=World.shaped_of_ZipB (by kernel_rfl) (by kernel_rfl)
theorem xQ(a:Os):Input.okWideB Tryz.prog ((iZ a).forCall (fun _ _=>0) ⟨#[],gu,[]⟩) 8 ⟨#[],gu,[]⟩=true:=by kernel_rfl
theorem preCH(a:Os){H:Type}(enc:TypeId×Value->H):(OpenSpec.ofChange Rows.certificateChainSpec).preRow enc Tryz.prog Tryz.f8 Rows.certificateChainRow.domain false Rows.certificateChainRow.laid ((iZ a).forCall (fun _ _=>0) ⟨#[],gu,[]⟩).memory gu:=by
 obtain⟨places,c⟩:=yei a enc;exact OpenSpec.preRow_of_cond 8 c (by kernel_rfl) (fun k b=>by cases b) (by kernel_rfl) (ygc a _)
theorem Cq(c:Os)(a:c.Started)(H:Type)(enc:TypeId×Value->H)(F:Stop.Interp):
  ReturnsInHanded {} Tryz.checked c 8 .any ((OpenSpec.ofChange Rows.certificateChainSpec).preRow enc Tryz.prog Tryz.f8 Rows.certificateChainRow.domain false Rows.certificateChainRow.laid) (((OpenSpec.ofChange Rows.certificateChainSpec).at F).post enc Tryz.prog Tryz.f8 false true false false):=by
 refine returnsInHanded_of_row (C:=Tryz.checked) (s:=OpenSpec.ofChange Rows.certificateChainSpec) own a (by kernel_rfl) Tryz.func8
  ⟨iZ c,fun _ _=>0,⟨#[],gu,[]⟩,World.laidAll_os _ _ _,ya1 c,(Input.okWide_of_okWideB (base:=0) (xQ c)).1,(Input.okWide_of_okWideB (xQ c)).2,preCH c enc,by
   simp only[Assume.holds];exact⟨by simp,by simp,fun _=>Modest.zero,by simp,by simp⟩⟩ ?_
 intro W base args e f b d i _ _ _ g h _;exact Ej H enc W base args e f b d i g h
