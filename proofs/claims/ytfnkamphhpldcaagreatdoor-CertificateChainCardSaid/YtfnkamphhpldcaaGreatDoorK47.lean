import Derived.Test.YtfnkamphhpldcaaGreatDoorK45
import Derived.Test.YtfnkamphhpldcaaGreatDoorK46
set_option maxHeartbeats 64000000
namespace Go.Proofs.YtfnkamphhpldcaaGreatDoor
open Go Go.RowKit Go.ChangeShapes Go.WideShapes Go.ChangeAt Sx
set_option maxRecDepth 100000
theorem Ej(H:Type)(enc:TypeId×Value->H)(W:World)(base:Nat)(args:Array Value)(O gs:List (DataW H))(a:List MemPlace)
  (c:∀(j:Nat) t v,Tryz.f8.params[j]? =some t->args[j]? =some v->Value.okWide Tryz.prog W .any base t v)
  (R:DataW.Whole enc Tryz.prog Tryz.f8.params.toList Rows.certificateChainSpec.vars false W args.toList O gs a)(hL:laidMetH Tryz.prog Rows.certificateChainRow.laid W)(hS:W.ShapedOpen Tryz.prog):
  Calls Tryz.prog 8 args W fun e M=>∃v,e=.returned v/\Rows.certificateChainSpec.post enc Tryz.prog Tryz.f8 false true false false W args v M:=by
 have f:=R;obtain⟨p,q,d,hV,rfl,_,_⟩:=R;have Q:DataW.TrodAll enc Tryz.prog W 0 (fun _=>true) true Tryz.f8.params.toList args.toList O p:=d;obtain⟨rfl,rfl⟩:=trodVars_none hV;rw[Tryz.params8]at Q c;obtain⟨V,aa,d0,Z,p0,q0,u,rfl,rfl,h0,r0⟩:=trodAll_cons Q;obtain⟨rfl,rfl,rfl⟩:=trodAll_nil r0;obtain rfl:args= #[V]:=by cases args;simp_all
 obtain⟨m,S⟩:=ya3 hS hL (by rfl) (yj _ (qbn ..));obtain⟨A,B,D,h,E,l,i,G,n,k,I,y,o,X,Y,J,K,L,rfl,k0⟩:=Aw S (c 0 27 V rfl rfl) h0
 have g:=Du (zm (fz0 W m) (mlf0 W m) (rnd0 W m) A B D h E l i G n k I y o X Y J K L k0) (holds0 S)
  (vs:=[_]) ⟨rfl,tv⟩ (by
   intro s T;simp at T;rcases T with rfl
   ·exact Ec _ _ _ _ _ _ _ _ _ _ _ _ _ _ _ _ _)
 refine g.mono fun e M ⟨he,b⟩=>?_
 subst he;refine⟨_,rfl,AB rfl rfl rfl f (fun sp w=>?_) b⟩;refine yca b _ _ _ _ ?_ (by simpa using d) (fun x hx=>f.lt x hx) w;intro t U;rw[Tryz.params8]at U;have hc:=(by decide:∀t∈([27]:List Nat),t=27) t U;rcases hc with rfl
 ·exact⟨(show Tryz.prog.readableRec 27=true by kernel_rfl),od (by kernel_rfl)⟩
noncomputable def iZ(a:Os):World:=World.laidAll Tryz.prog a Rows.certificateChainRow.laid
theorem ygc(a:Os)(args:Array Value):laidMet Tryz.prog Rows.certificateChainRow.laid ((iZ a).forCall (fun _ _=>0) ⟨#[],args,[]⟩).memory:=
 laidMet_laidAll args (by kernel_rfl) (by kernel_rfl)
