import Derived.Test.YtfnkamphhpldcaaGreatDoorK41
set_option maxHeartbeats 64000000
namespace Go.Proofs.YtfnkamphhpldcaaGreatDoor
open Go Go.RowKit Go.ChangeShapes Go.WideShapes Go.ChangeAt Sx
set_option maxRecDepth 100000
theorem zvh (H:Type) (enc:TypeId × Value → H) (W:World) (base:Nat) (args:Array Value) (Y gs:List (DataW H)) (b:List MemPlace)
  (a:∀ (j:Nat) t v,Tryz.f7.params[j]? = some t → args[j]? = some v → Value.okWide Tryz.prog W .any base t v)
  (Z:DataW.Whole enc Tryz.prog Tryz.f7.params.toList Rows.certificateMigratedSpec.vars false W args.toList Y gs b) (hL:laidMetH Tryz.prog Rows.certificateMigratedRow.laid W) (hS:W.ShapedOpen Tryz.prog) :
  Calls Tryz.prog 7 args W fun e X=>∃ v,e = .returned v ∧ Rows.certificateMigratedSpec.post enc Tryz.prog Tryz.f7 false true false false W args v X:=by
 have g:=Z;obtain ⟨p,q,f,hV,rfl,_,_⟩:=Z;have U:DataW.TrodAll enc Tryz.prog W 0 (fun _=>true) true Tryz.f7.params.toList args.toList Y p:=f;obtain ⟨rfl,rfl⟩:=trodVars_none hV;rw [Tryz.params7] at U a;obtain ⟨v0,aa,d0,ab,p0,q0,R,rfl,rfl,h0,r0⟩:=trodAll_cons U;obtain ⟨v1,ad,d1,ac,p1,q1,rfl,rfl,rfl,h1,r1⟩:=trodAll_cons r0;obtain ⟨rfl,rfl,rfl⟩:=trodAll_nil r1;obtain rfl:args = #[v0,v1]:=by cases args; simp_all
 obtain ⟨m,hm⟩:=z2j hS hL (by rfl) (yp _ (qb2 ..));obtain ⟨k,D,K,y,Q,I,J,O,B,S,E,w,G,L0,X0,h,o,L,rfl,k0⟩:=zx6 hm (a 0 27 v0 rfl rfl) h0;obtain ⟨M,n,A,l,u,rfl,w1⟩:=zyk (a 1 28 v1 rfl rfl) h1
 have d:=zrg (zrr (fz0 W m) (mlf0 W m) (rnd0 W m) k D K y Q I J O B S E w G L0 X0 h o L k0 M n A l u w1) (holds0 hm)
  (vs:=[_,_]) ⟨rfl,rfl,tv⟩ (by
   intro s T;simp at T;rcases T with rfl | rfl
   ·exact zvg _ _ _ _ _ _ _ _ _ _ _ _ _ _ _ _ _
   ·exact zwd _ _ _ _ _)
 refine d.mono fun e X ⟨he,c⟩=>?_
 subst he;refine ⟨_,rfl,zxs rfl rfl rfl g (fun sp i=>?_) c⟩;refine z8c c _ _ _ _ ?_ (by simpa using f) (fun x hx=>g.lt x hx) i;intro t V;rw [Tryz.params7] at V;have hc:=(by decide:∀ t ∈ ([27,28]:List Nat),t = 27 ∨ t = 28) t V;rcases hc with rfl | rfl
 ·exact ⟨(show Tryz.prog.readableRec 27 = true by kernel_rfl),od (by kernel_rfl)⟩
 ·exact ⟨(show Tryz.prog.readableRec 28 = true by kernel_rfl),od (by kernel_rfl)⟩
noncomputable def zjc (a:Os):World:=World.laidAll Tryz.prog a Rows.certificateMigratedRow.laid
theorem ybz (a:Os) (args:Array Value):laidMet Tryz.prog Rows.certificateMigratedRow.laid ((zjc a).forCall (fun _ _=>0) ⟨#[],args,[]⟩).memory:=
 laidMet_laidAll args (by kernel_rfl) (by kernel_rfl)
end Go.Proofs.YtfnkamphhpldcaaGreatDoor
