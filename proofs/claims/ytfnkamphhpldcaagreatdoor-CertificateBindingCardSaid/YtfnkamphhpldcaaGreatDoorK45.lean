import Derived.Test.YtfnkamphhpldcaaGreatDoorK43
import Derived.Test.YtfnkamphhpldcaaGreatDoorK44
set_option maxHeartbeats 64000000
namespace Go.Proofs.YtfnkamphhpldcaaGreatDoor
open Go Go.RowKit Go.ChangeShapes Go.WideShapes Go.ChangeAt Sx
set_option maxRecDepth 100000
theorem zww(H:Type)(enc:TypeId×Value->H)(W:World)(base:Nat)(args:Array Value)(ds gs:List (DataW H))(b:List MemPlace)
  (a:∀(j:Nat) t v,Tryz.f10.params[j]? =some t->args[j]? =some v->Value.okWide Tryz.prog W .any base t v)
  (hW:DataW.Whole enc Tryz.prog Tryz.f10.params.toList Rows.certificateBindingSpec.vars false W args.toList ds gs b)(hL:laidMetH Tryz.prog Rows.certificateBindingRow.laid W)(hS:W.ShapedOpen Tryz.prog):
  Calls Tryz.prog 10 args W fun e W'=>∃v,e=.returned v/\Rows.certificateBindingSpec.post enc Tryz.prog Tryz.f10 false true false false W args v W':=by
 have h:=hW;obtain⟨p,q,g,hV,rfl,_,_⟩:=hW;have hA:DataW.TrodAll enc Tryz.prog W 0 (fun _=>true) true Tryz.f10.params.toList args.toList ds p:=g;obtain⟨rfl,rfl⟩:=trodVars_none hV;rw[Tryz.params10]at hA a;obtain⟨v0,af,d0,aa,p0,q0,y,rfl,rfl,h0,r0⟩:=trodAll_cons hA;obtain⟨v1,ag,d1,ab,p1,q1,rfl,rfl,rfl,h1,r1⟩:=trodAll_cons r0;obtain⟨v2,ah,d2,ac,p2,q2,rfl,rfl,rfl,h2,r2⟩:=trodAll_cons r1;obtain⟨v3,ai,d3,ad,p3,q3,rfl,rfl,rfl,h3,r3⟩:=trodAll_cons r2;obtain⟨v4,aj,d4,ae,p4,q4,rfl,rfl,rfl,h4,r4⟩:=trodAll_cons r3;obtain⟨rfl,rfl,rfl⟩:=trodAll_nil r4;obtain rfl:args= #[v0,v1,v2,v3,v4]:=by cases args;simp_all
 obtain⟨m,B⟩:=z5q hS hL (by rfl) (yu _ (qb7 ..));obtain⟨J,K,L,k,M,o,l,O,u,n,Q,I,w,L0,X0,R,S,Z,rfl,k0⟩:=z0h B (a 0 27 v0 rfl rfl) h0;obtain⟨V,T,X,U,Y,rfl,D,E,A⟩:=open_strs B (a 1 34 v1 rfl rfl) h1;obtain⟨z2,rfl,_,_,w2⟩:=open_int Tryz.underlying3 (a 2 3 v2 rfl rfl) h2;obtain⟨d,rfl⟩:=okWide_string Tryz.underlying9 (a 3 9 v3 rfl rfl);obtain⟨f,rfl⟩:=okWide_bool Tryz.underlying4 (a 4 4 v4 rfl rfl)
 have i:=zsf (zse (fz0 W m) (mlf0 W m) (rnd0 W m) J K L k M o l O u n Q I w L0 X0 R S Z k0 V T X U Y E D A z2 (z6q w2) d.data.toList f) (holds0 B)
  (vs:=[_,_,.int .i64 z2,.string d,.bool f]) ⟨rfl,rfl,rfl,rfl,rfl,tv⟩ (by
   intro s hs;simp at hs;rcases hs with rfl | rfl | rfl | rfl | rfl
   ·exact zwq _ _ _ _ _ _ _ _ _ _ _ _ _ _ _ _ _
   ·exact zxi _ _ _ _ _
   ·trivial
   ·trivial
   ·trivial)
 refine i.mono fun e W' ⟨he,c⟩=>?_
 subst he;refine⟨_,rfl,z0k rfl rfl rfl h (fun sp G=>?_) c⟩;refine z7a c _ _ _ _ ?_ (by simpa using g) (fun x hx=>h.lt x hx) G;intro t ht;rw[Tryz.params10]at ht;have hc:=(by decide:∀t∈([27,34,3,9,4]:List Nat),t=3\/t=4\/t=9\/t=27\/t=34) t ht;rcases hc with rfl | rfl | rfl | rfl | rfl
 ·exact⟨(show Tryz.prog.readableRec 3=true by kernel_rfl),od (by kernel_rfl)⟩
 ·exact⟨(show Tryz.prog.readableRec 4=true by kernel_rfl),od (by kernel_rfl)⟩
 ·exact⟨(show Tryz.prog.readableRec 9=true by kernel_rfl),od (by kernel_rfl)⟩
 ·exact⟨(show Tryz.prog.readableRec 27=true by kernel_rfl),od (by kernel_rfl)⟩
 ·exact⟨(show Tryz.prog.readableRec 34=true by kernel_rfl),od (by kernel_rfl)⟩
noncomputable def zjs(a:Os):World:=World.laidAll Tryz.prog a Rows.certificateBindingRow.laid
theorem ybi(a:Os)(args:Array Value):laidMet Tryz.prog Rows.certificateBindingRow.laid ((zjs a).forCall (fun _ _=>0) ⟨#[],args,[]⟩).memory:=
 laidMet_laidAll args (by kernel_rfl) (by kernel_rfl)
