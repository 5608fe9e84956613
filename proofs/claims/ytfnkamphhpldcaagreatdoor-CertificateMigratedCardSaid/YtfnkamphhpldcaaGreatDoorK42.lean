import Derived.Test.YtfnkamphhpldcaaGreatDoorK41
set_option maxHeartbeats 64000000
namespace Go.Proofs.YtfnkamphhpldcaaGreatDoor
open Go Go.RowKit Go.ChangeShapes Go.WideShapes Go.ChangeAt Sx
set_option maxRecDepth 100000
abbrev zje:Array Value:=#[.agg #[.slice none 0 0,.slice none 0 0,.int .i64 0,.int .i64 0,.slice none 0 0],.agg #[.int .i64 0,.int .i64 0,.int .i64 0,.int .i64 0,.int .i64 0]]
theorem yan (a:Os) {H:Type} (enc:TypeId × Value → H):∃ places,DataW.whole enc Tryz.prog ((zjd a).forCall (fun _ _=>0) ⟨#[],zje,[]⟩).memory Tryz.f7.params.toList Rows.certificateMigratedSpec.vars false zje.toList 8 = some ([.agg [.nil,.nil,.agg [.lit (.int .i64 0),.lit (.int .i64 0)],.nil],.agg [.lit (.int .i64 0),.lit (.int .i64 0),.lit (.int .i64 0),.lit (.int .i64 0),.lit (.int .i64 0)]],[],places):=
 ⟨[],by kernel_rfl⟩
theorem z3t (a:Os):((zjd a).forCall (fun _ _=>0) ⟨#[],zje,[]⟩).Shaped Tryz.prog:=World.shaped_of_ZipB (by kernel_rfl) (by kernel_rfl)
theorem zui (a:Os):Input.okWideB Tryz.prog ((zjd a).forCall (fun _ _=>0) ⟨#[],zje,[]⟩) 7 ⟨#[],zje,[]⟩ = true:=by kernel_rfl
theorem preCM (a:Os) {H:Type} (enc:TypeId × Value → H):(OpenSpec.ofChange Rows.certificateMigratedSpec).preRow enc Tryz.prog Tryz.f7 Rows.certificateMigratedRow.domain false Rows.certificateMigratedRow.laid ((zjd a).forCall (fun _ _=>0) ⟨#[],zje,[]⟩).memory zje:=by
 obtain ⟨places,c⟩:=yan a enc;exact OpenSpec.preRow_of_cond 8 c (by kernel_rfl) (fun k b=>by cases b) (by kernel_rfl) (yc2 a _)
theorem z2f (c:Os) (a:c.Started) (H:Type) (enc:TypeId × Value → H) (F:Stop.Interp) :
  ReturnsInHanded {} Tryz.checked c 7 .any ((OpenSpec.ofChange Rows.certificateMigratedSpec).preRow enc Tryz.prog Tryz.f7 Rows.certificateMigratedRow.domain false Rows.certificateMigratedRow.laid) (((OpenSpec.ofChange Rows.certificateMigratedSpec).at F).post enc Tryz.prog Tryz.f7 false true false false):=by
 refine returnsInHanded_of_row (C:=Tryz.checked) (s:=OpenSpec.ofChange Rows.certificateMigratedSpec) own a (by kernel_rfl) Tryz.func7
  ⟨zjd c,fun _ _=>0,⟨#[],zje,[]⟩,World.laidAll_os _ _ _,z3t c,(Input.okWide_of_okWideB (base:=0) (zui c)).1,(Input.okWide_of_okWideB (zui c)).2,preCM c enc,by
   simp only [Assume.holds];exact ⟨by simp,by simp,fun _=>Modest.zero,by simp,by simp⟩⟩ ?_
 intro W base args e f b d i _ _ _ g h _;exact zvq H enc W base args e f b d i g h
end Go.Proofs.YtfnkamphhpldcaaGreatDoor
