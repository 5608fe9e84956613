import Derived.Test.YtfnkamphhpldcaaGreatDoorK40
set_option maxHeartbeats 64000000
namespace Go.Proofs.YtfnkamphhpldcaaGreatDoor
open Go Go.RowKit Go.ChangeShapes Go.WideShapes Go.ChangeAt Sx
set_option maxRecDepth 100000
theorem zvq (H:Type) (enc:TypeId × Value → H) (W:World) (base:Nat) (args:Array Value) (U gs:List (DataW H)) (b:List MemPlace)
  (a:∀ (j:Nat) t v,Tryz.f7.params[j]? = some t → args[j]? = some v → Value.okWide Tryz.prog W .any base t v)
  (X:DataW.Whole enc Tryz.prog Tryz.f7.params.toList Rows.certificateMigratedSpec.vars false W args.toList U gs b) (hL:laidMetH Tryz.prog Rows.certificateMigratedRow.laid W) (hS:W.ShapedOpen Tryz.prog) :
  Calls Tryz.prog 7 args W fun e T=>∃ v,e = .returned v ∧ Rows.certificateMigratedSpec.post enc Tryz.prog Tryz.f7 false true false false W args v T:=by
 have f:=X;obtain ⟨p,q,d,hV,rfl,_,_⟩:=X;have V:DataW.TrodAll enc Tryz.prog W 0 (fun _=>true) true Tryz.f7.params.toList args.toList U p:=d;obtain ⟨rfl,rfl⟩:=trodVars_none hV;rw [Tryz.params7] at V a;obtain ⟨v0,ac,d0,aa,p0,q0,u,rfl,rfl,h0,r0⟩:=trodAll_cons V;obtain ⟨v1,ad,d1,ab,p1,q1,rfl,rfl,rfl,h1,r1⟩:=trodAll_cons r0;obtain ⟨rfl,rfl,rfl⟩:=trodAll_nil r1;obtain rfl:args = #[v0,v1]:=by cases args; simp_all
 obtain ⟨m,Y⟩:=z3w hS hL (by rfl) (yp _ (qb1 ..));obtain ⟨A,B,D,h,E,l,i,G,n,k,I,y,o,L0,X0,J,K,S,rfl,k0⟩:=zy8 Y (a 0 27 v0 rfl rfl) h0;obtain ⟨L,M,O,Q,R,rfl,w1⟩:=zy7 (a 1 28 v1 rfl rfl) h1
 have g:=zrf (zr4 (fz0 W m) (mlf0 W m) (rnd0 W m) A B D h E l i G n k I y o L0 X0 J K S k0 L M O Q R w1) (holds0 Y)
  (vs:=[_,_]) ⟨rfl,rfl,tv⟩ (by
   intro s Z;simp at Z;rcases Z with rfl | rfl
   ·exact zvk _ _ _ _ _ _ _ _ _ _ _ _ _ _ _ _ _
   ·exact zvg _ _ _ _ _)
 refine g.mono fun e T ⟨he,c⟩=>?_
 subst he;refine ⟨_,rfl,zzd rfl rfl rfl f (fun sp w=>?_) c⟩;refine z8g c _ _ _ _ ?_ (by simpa using d) (fun x hx=>f.lt x hx) w;intro t ht;rw [Tryz.params7] at ht;have hc:=(by decide:∀ t ∈ ([27,28]:List Nat),t = 27 ∨ t = 28) t ht;rcases hc with rfl | rfl
 ·exact ⟨(show Tryz.prog.readableRec 27 = true by kernel_rfl),od (by kernel_rfl)⟩
 ·exact ⟨(show Tryz.prog.readableRec 28 = true by kernel_rfl),od (by kernel_rfl)⟩
noncomputable def zjd (a:Os):World:=World.laidAll Tryz.prog a Rows.certificateMigratedRow.laid
theorem yc2 (a:Os) (args:Array Value):laidMet Tryz.prog Rows.certificateMigratedRow.laid ((zjd a).forCall (fun _ _=>0) ⟨#[],args,[]⟩).memory:=
 laidMet_laidAll args (by kernel_rfl) (by kernel_rfl)
end Go.Proofs.YtfnkamphhpldcaaGreatDoor
