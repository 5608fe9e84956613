import Derived.Test.YtfnkamphhpldcaaGreatDoorK41
import Derived.Test.YtfnkamphhpldcaaGreatDoorK42
set_option maxHeartbeats 64000000
namespace Go.Proofs.YtfnkamphhpldcaaGreatDoor
open Go Go.RowKit Go.ChangeShapes Go.WideShapes Go.ChangeAt Sx
set_option maxRecDepth 100000
theorem zts (H:Type) (enc:TypeId × Value → H) (W:World) (base:Nat) (args:Array Value) (ds gs:List (DataW H)) (before:List MemPlace)
  (hval:∀ (j:Nat) t v,Tryz.f11.params[j]? = some t → args[j]? = some v → Value.okWide Tryz.prog W .any base t v)
  (hW:DataW.Whole enc Tryz.prog Tryz.f11.params.toList Rows.certificateBackSpec.vars false W args.toList ds gs before) (hL:laidMetH Tryz.prog Rows.certificateBackRow.laid W) (hS:W.ShapedOpen Tryz.prog) :
  Calls Tryz.prog 11 args W fun e W'=>∃ v,e = .returned v ∧ Rows.certificateBackSpec.post enc Tryz.prog Tryz.f11 false true false false W args v W':=by
 have hW':=hW
 obtain ⟨p,q,hA0,hV,rfl,_,_⟩:=hW
 have hA:DataW.TrodAll enc Tryz.prog W 0 (fun _=>true) true Tryz.f11.params.toList args.toList ds p:=hA0
 obtain ⟨rfl,rfl⟩:=trodVars_none hV
 rw [Tryz.params11] at hA hval
 obtain ⟨v0,vs0,d0,ds0,p0,q0,hargs,rfl,rfl,h0,r0⟩:=trodAll_cons hA
 obtain ⟨v1,vs1,d1,ds1,p1,q1,rfl,rfl,rfl,h1,r1⟩:=trodAll_cons r0
 obtain ⟨rfl,rfl,rfl⟩:=trodAll_nil r1
 obtain rfl:args = #[v0,v1]:=by cases args; simp_all
 obtain ⟨m,hm⟩:=zze hS hL (by rfl) (qaj _ (List.mem_cons_self ..))
 obtain ⟨na0,nb0,nc0,ba0,oa0,ca0,bb0,ob0,cb0,bc0,oc0,lc0,cc0,L0,X0,ra0,rb0,zs0,rfl,k0⟩:=zup hm (hval 0 27 v0 rfl rfl) h0
 obtain ⟨z1,rfl,_,_,w1⟩:=open_int Tryz.underlying3 (hval 1 3 v1 rfl rfl) h1
 have walk:=zpo (z3d (fz0 W m) (mlf0 W m) (rnd0 W m) na0 nb0 nc0 ba0 oa0 ca0 bb0 ob0 cb0 bc0 oc0 lc0 cc0 L0 X0 ra0 rb0 zs0 k0 z1 (z13 w1)) (holds0 hm)
  (vs:=[_,.int .i64 z1]) ⟨rfl,rfl,tv⟩ (by
   intro s hs
   simp at hs
   rcases hs with rfl | rfl
   ·exact zs3 _ _ _ _ _ _ _ _ _ _ _ _ _ _ _ _ _
   ·trivial)
 refine walk.mono fun e W' ⟨he,hbel⟩=>?_
 subst he
 refine ⟨_,rfl,zvn rfl rfl rfl hW' (fun sp hsp=>?_) hbel⟩
 refine z11 hbel _ _ _ _ ?_ (by simpa using hA0) (fun x hx=>hW'.lt x hx) hsp
 intro t ht
 rw [Tryz.params11] at ht
 have hc:=(by decide:∀ t ∈ ([27,3]:List Nat),t = 3 ∨ t = 27) t ht
 rcases hc with rfl | rfl
 ·exact ⟨(show Tryz.prog.readableRec 3 = true by kernel_rfl),od (by kernel_rfl)⟩
 ·exact ⟨(show Tryz.prog.readableRec 27 = true by kernel_rfl),od (by kernel_rfl)⟩
noncomputable def zh1 (os:Os):World:=World.laidAll Tryz.prog os Rows.certificateBackRow.laid
theorem z8m (os:Os) (args:Array Value):laidMet Tryz.prog Rows.certificateBackRow.laid ((zh1 os).forCall (fun _ _=>0) ⟨#[],args,[]⟩).memory:=
 laidMet_laidAll args (by kernel_rfl) (by kernel_rfl)
end Go.Proofs.YtfnkamphhpldcaaGreatDoor
