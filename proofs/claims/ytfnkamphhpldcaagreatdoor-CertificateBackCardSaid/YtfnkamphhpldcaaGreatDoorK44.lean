import Derived.Test.YtfnkamphhpldcaaGreatDoorK43
set_option maxHeartbeats 64000000
namespace Go.Proofs.YtfnkamphhpldcaaGreatDoor
open Go Go.RowKit Go.ChangeShapes Go.WideShapes Go.ChangeAt Sx
set_option maxRecDepth 100000
abbrev zik:Array Value:=#[.agg #[.slice none 0 0,.slice none 0 0,.int .i64 0,.int .i64 0,.slice none 0 0],.int .i64 0]
theorem z4t (os:Os) {H:Type} (enc:TypeId × Value → H):∃ places,DataW.whole enc Tryz.prog ((zh1 os).forCall (fun _ _=>0) ⟨#[],zik,[]⟩).memory Tryz.f11.params.toList Rows.certificateBackSpec.vars false zik.toList 8 = some ([.agg [.nil,.nil,.agg [.lit (.int .i64 0),.lit (.int .i64 0)],.nil],.lit (.int .i64 0)],[],places):=
 ⟨[],by kernel_rfl⟩
theorem z0t (os:Os):((zh1 os).forCall (fun _ _=>0) ⟨#[],zik,[]⟩).Shaped Tryz.prog:=World.shaped_of_ZipB (by kernel_rfl) (by kernel_rfl)
theorem zrf (os:Os):Input.okWideB Tryz.prog ((zh1 os).forCall (fun _ _=>0) ⟨#[],zik,[]⟩) 11 ⟨#[],zik,[]⟩ = true:=by kernel_rfl
theorem preBK (os:Os) {H:Type} (enc:TypeId × Value → H):(OpenSpec.ofChange Rows.certificateBackSpec).preRow enc Tryz.prog Tryz.f11 Rows.certificateBackRow.domain false Rows.certificateBackRow.laid ((zh1 os).forCall (fun _ _=>0) ⟨#[],zik,[]⟩).memory zik:=by
 obtain ⟨places,hx⟩:=z4t os enc
 exact OpenSpec.preRow_of_cond 8 hx (by kernel_rfl) (fun k hk=>by cases hk) (by kernel_rfl) (z8m os _)
theorem z1e (os:Os) (started:os.Started) (H:Type) (enc:TypeId × Value → H) (F:Stop.Interp) :
  ReturnsInHanded {} Tryz.checked os 11 .any ((OpenSpec.ofChange Rows.certificateBackSpec).preRow enc Tryz.prog Tryz.f11 Rows.certificateBackRow.domain false Rows.certificateBackRow.laid) (((OpenSpec.ofChange Rows.certificateBackSpec).at F).post enc Tryz.prog Tryz.f11 false true false false):=by
 refine returnsInHanded_of_row (C:=Tryz.checked) (s:=OpenSpec.ofChange Rows.certificateBackSpec) own started (by kernel_rfl) Tryz.func11
  ⟨zh1 os,fun _ _=>0,⟨#[],zik,[]⟩,World.laidAll_os _ _ _,z0t os,(Input.okWide_of_okWideB (base:=0) (zrf os)).1,(Input.okWide_of_okWideB (zrf os)).2,preBK os enc,by
   simp only [Assume.holds]
   exact ⟨by simp,by simp,fun _=>Modest.zero,by simp,by simp⟩⟩ ?_
 intro W base args ds gs before hval hW _ _ _ hL hS _
 exact zts H enc W base args ds gs before hval hW hL hS
end Go.Proofs.YtfnkamphhpldcaaGreatDoor
