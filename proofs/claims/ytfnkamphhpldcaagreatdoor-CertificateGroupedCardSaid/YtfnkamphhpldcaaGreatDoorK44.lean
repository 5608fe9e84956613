import Derived.Test.YtfnkamphhpldcaaGreatDoorK42
import Derived.Test.YtfnkamphhpldcaaGreatDoorK43
set_option maxHeartbeats 64000000
namespace Go.Proofs.YtfnkamphhpldcaaGreatDoor
open Go Go.RowKit Go.ChangeShapes Go.WideShapes Go.ChangeAt Sx
set_option maxRecDepth 100000
theorem zwx (H:Type) (enc:TypeId × Value → H) (W:World) (base:Nat) (args:Array Value) (O gs:List (DataW H)) (b:List MemPlace)
  (a:∀ (j:Nat) t v,Tryz.f9.params[j]? = some t → args[j]? = some v → Value.okWide Tryz.prog W .any base t v)
  (R:DataW.Whole enc Tryz.prog Tryz.f9.params.toList Rows.certificateGroupedSpec.vars false W args.toList O gs b) (hL:laidMetH Tryz.prog Rows.certificateGroupedRow.laid W) (hS:W.ShapedOpen Tryz.prog) :
  Calls Tryz.prog 9 args W fun e M=>∃ v,e = .returned v ∧ Rows.certificateGroupedSpec.post enc Tryz.prog Tryz.f9 false true false false W args v M:=by
 have f:=R;obtain ⟨p,q,d,hV,rfl,_,_⟩:=R;have Q:DataW.TrodAll enc Tryz.prog W 0 (fun _=>true) true Tryz.f9.params.toList args.toList O p:=d;obtain ⟨rfl,rfl⟩:=trodVars_none hV;rw [Tryz.params9] at Q a;obtain ⟨V,ad,d0,aa,p0,q0,u,rfl,rfl,h0,r0⟩:=trodAll_cons Q;obtain ⟨X,ae,d1,ab,p1,q1,rfl,rfl,rfl,h1,r1⟩:=trodAll_cons r0;obtain ⟨Y,af,d2,ac,p2,q2,rfl,rfl,rfl,h2,r2⟩:=trodAll_cons r1;obtain ⟨rfl,rfl,rfl⟩:=trodAll_nil r2;obtain rfl:args = #[V,X,Y]:=by cases args; simp_all
 obtain ⟨m,S⟩:=z6f hS hL (by rfl) (yk _ (qca ..));obtain ⟨A,B,D,h,E,l,i,G,n,k,I,y,o,L0,X0,J,K,L,rfl,k0⟩:=z0n S (a 0 27 V rfl rfl) h0;obtain ⟨Z,rfl,_,_,w1⟩:=open_int Tryz.underlying3 (a 1 3 X rfl rfl) h1;obtain ⟨z2,rfl,_,_,w2⟩:=open_int Tryz.underlying3 (a 2 3 Y rfl rfl) h2
 have g:=zsb (zst (fz0 W m) (mlf0 W m) (rnd0 W m) A B D h E l i G n k I y o L0 X0 J K L k0 Z (zzf w1) z2 (zzf w2)) (holds0 S)
  (vs:=[_,.int .i64 Z,.int .i64 z2]) ⟨rfl,rfl,rfl,tv⟩ (by
   intro s T;simp at T;rcases T with rfl | rfl | rfl
   ·exact zwq _ _ _ _ _ _ _ _ _ _ _ _ _ _ _ _ _
   ·trivial
   ·trivial)
 refine g.mono fun e M ⟨he,c⟩=>?_
 subst he;refine ⟨_,rfl,z0s rfl rfl rfl f (fun sp w=>?_) c⟩;refine z7r c _ _ _ _ ?_ (by simpa using d) (fun x hx=>f.lt x hx) w;intro t U;rw [Tryz.params9] at U;have hc:=(by decide:∀ t ∈ ([27,3,3]:List Nat),t = 3 ∨ t = 27) t U;rcases hc with rfl | rfl
 ·exact ⟨(show Tryz.prog.readableRec 3 = true by kernel_rfl),od (by kernel_rfl)⟩
 ·exact ⟨(show Tryz.prog.readableRec 27 = true by kernel_rfl),od (by kernel_rfl)⟩
noncomputable def zjw (a:Os):World:=World.laidAll Tryz.prog a Rows.certificateGroupedRow.laid
theorem ybz (a:Os) (args:Array Value):laidMet Tryz.prog Rows.certificateGroupedRow.laid ((zjw a).forCall (fun _ _=>0) ⟨#[],args,[]⟩).memory:=
 laidMet_laidAll args (by kernel_rfl) (by kernel_rfl)
end Go.Proofs.YtfnkamphhpldcaaGreatDoor
