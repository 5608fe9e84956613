import Derived.Test.YtfnkamphhpldcaaGreatDoorK45
set_option maxHeartbeats 64000000
namespace Go.Proofs.YtfnkamphhpldcaaGreatDoor
open Go Go.RowKit Go.ChangeShapes Go.WideShapes Go.ChangeAt Sx
set_option maxRecDepth 100000
abbrev zju:Array Value:=#[.agg #[.slice none 0 0,.slice none 0 0,.int .i64 0,.int .i64 0,.slice none 0 0],.slice none 0 0,.int .i64 0,.string ⟨#[]⟩,.bool false]
theorem z9q(a:Os){H:Type}(enc:TypeId×Value->H):∃places,DataW.whole enc Tryz.prog ((zjs a).forCall (fun _ _=>0) ⟨#[],zju,[]⟩).memory Tryz.f10.params.toList Rows.certificateBindingSpec.vars false zju.toList 8=some ([.agg [.nil,.nil,.agg [.lit (.int .i64 0),.lit (.int .i64 0)],.nil],.nil,.lit (.int .i64 0),.lit (.string []),.lit (.bool false)],[],places):=
 ⟨[],by kernel_rfl⟩
theorem z5n(a:Os):((zjs a).forCall (fun _ _=>0) ⟨#[],zju,[]⟩).Shaped Tryz.prog:=World.shaped_of_ZipB (by kernel_rfl) (by kernel_rfl)
theorem zvo(a:Os):Input.okWideB Tryz.prog ((zjs a).forCall (fun _ _=>0) ⟨#[],zju,[]⟩) 10 ⟨#[],zju,[]⟩=true:=by kernel_rfl
theorem preBD(a:Os){H:Type}(enc:TypeId×Value->H):(OpenSpec.ofChange Rows.certificateBindingSpec).preRow enc Tryz.prog Tryz.f10 Rows.certificateBindingRow.domain false Rows.certificateBindingRow.laid ((zjs a).forCall (fun _ _=>0) ⟨#[],zju,[]⟩).memory zju:=by
 obtain⟨places,c⟩:=z9q a enc;exact OpenSpec.preRow_of_cond 8 c (by kernel_rfl) (fun k b=>by cases b) (by kernel_rfl) (ybi a _)
theorem z3y(c:Os)(a:c.Started)(H:Type)(enc:TypeId×Value->H)(F:Stop.Interp):
  ReturnsInHanded {} Tryz.checked c 10 .any ((OpenSpec.ofChange Rows.certificateBindingSpec).preRow enc Tryz.prog Tryz.f10 Rows.certificateBindingRow.domain false Rows.certificateBindingRow.laid) (((OpenSpec.ofChange Rows.certificateBindingSpec).at F).post enc Tryz.prog Tryz.f10 false true false false):=by
 refine returnsInHanded_of_row (C:=Tryz.checked) (s:=OpenSpec.ofChange Rows.certificateBindingSpec) own a (by kernel_rfl) Tryz.func10
  ⟨zjs c,fun _ _=>0,⟨#[],zju,[]⟩,World.laidAll_os _ _ _,z5n c,(Input.okWide_of_okWideB (base:=0) (zvo c)).1,(Input.okWide_of_okWideB (zvo c)).2,preBD c enc,by
   simp only[Assume.holds];exact⟨by simp,by simp,fun _=>Modest.zero,by simp,by simp⟩⟩ ?_
 intro W base args e f b d i _ _ _ g h _;exact zww H enc W base args e f b d i g h
