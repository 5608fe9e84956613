import Derived.Test.YtfnkamphhpldcaaGreatDoorK44
set_option maxHeartbeats 64000000
namespace Go.Proofs.YtfnkamphhpldcaaGreatDoor
open Go Go.RowKit Go.ChangeShapes Go.WideShapes Go.ChangeAt Sx
set_option maxRecDepth 100000
abbrev zjx:Array Value:=#[.agg #[.slice none 0 0,.slice none 0 0,.int .i64 0,.int .i64 0,.slice none 0 0],.int .i64 0,.int .i64 0]
theorem yab (a:Os) {H:Type} (enc:TypeId × Value → H):∃ places,DataW.whole enc Tryz.prog ((zjw a).forCall (fun _ _=>0) ⟨#[],zjx,[]⟩).memory Tryz.f9.params.toList Rows.certificateGroupedSpec.vars false zjx.toList 8 = some ([.agg [.nil,.nil,.agg [.lit (.int .i64 0),.lit (.int .i64 0)],.nil],.lit (.int .i64 0),.lit (.int .i64 0)],[],places):=
 ⟨[],by kernel_rfl⟩
theorem z6d (a:Os):((zjw a).forCall (fun _ _=>0) ⟨#[],zjx,[]⟩).Shaped Tryz.prog:=World.shaped_of_ZipB (by kernel_rfl) (by kernel_rfl)
theorem zvo (a:Os):Input.okWideB Tryz.prog ((zjw a).forCall (fun _ _=>0) ⟨#[],zjx,[]⟩) 9 ⟨#[],zjx,[]⟩ = true:=by kernel_rfl
theorem preGR (a:Os) {H:Type} (enc:TypeId × Value → H):(OpenSpec.ofChange Rows.certificateGroupedSpec).preRow enc Tryz.prog Tryz.f9 Rows.certificateGroupedRow.domain false Rows.certificateGroupedRow.laid ((zjw a).forCall (fun _ _=>0) ⟨#[],zjx,[]⟩).memory zjx:=by
 obtain ⟨places,c⟩:=yab a enc;exact OpenSpec.preRow_of_cond 8 c (by kernel_rfl) (fun k b=>by cases b) (by kernel_rfl) (ybz a _)
theorem z4j (c:Os) (a:c.Started) (H:Type) (enc:TypeId × Value → H) (F:Stop.Interp) :
  ReturnsInHanded {} Tryz.checked c 9 .any ((OpenSpec.ofChange Rows.certificateGroupedSpec).preRow enc Tryz.prog Tryz.f9 Rows.certificateGroupedRow.domain false Rows.certificateGroupedRow.laid) (((OpenSpec.ofChange Rows.certificateGroupedSpec).at F).post enc Tryz.prog Tryz.f9 false true false false):=by
 refine returnsInHanded_of_row (C:=Tryz.checked) (s:=OpenSpec.ofChange Rows.certificateGroupedSpec) own a (by kernel_rfl) Tryz.func9
  ⟨zjw c,fun _ _=>0,⟨#[],zjx,[]⟩,World.laidAll_os _ _ _,z6d c,(Input.okWide_of_okWideB (base:=0) (zvo c)).1,(Input.okWide_of_okWideB (zvo c)).2,preGR c enc,by
   simp only [Assume.holds];exact ⟨by simp,by simp,fun _=>Modest.zero,by simp,by simp⟩⟩ ?_
 intro W base args e f b d i _ _ _ g h _;exact zwx H enc W base args e f b d i g h
end Go.Proofs.YtfnkamphhpldcaaGreatDoor
