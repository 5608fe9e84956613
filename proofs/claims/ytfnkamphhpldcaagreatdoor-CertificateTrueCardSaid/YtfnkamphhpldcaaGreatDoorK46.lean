import Derived.Test.YtfnkamphhpldcaaGreatDoorK44
import Derived.Test.YtfnkamphhpldcaaGreatDoorK45
set_option maxHeartbeats 64000000
namespace Go.Proofs.YtfnkamphhpldcaaGreatDoor
open Go Go.RowKit Go.ChangeShapes Go.WideShapes Go.ChangeAt Sx
set_option maxRecDepth 100000
theorem zwq(H:Type)(enc:TypeId×Value->H)(W:World)(base:Nat)(args:Array Value)(ds gs:List (DataW H))(b:List MemPlace)
  (a:∀(j:Nat) t v,Tryz.f3.params[j]? =some t->args[j]? =some v->Value.okWide Tryz.prog W .any base t v)
  (hW:DataW.Whole enc Tryz.prog Tryz.f3.params.toList Rows.certificateTrueSpec.vars false W args.toList ds gs b)(hL:laidMetH Tryz.prog Rows.certificateTrueRow.laid W)(hS:W.ShapedOpen Tryz.prog):
  Calls Tryz.prog 3 args W fun e W'=>∃v,e=.returned v/\Rows.certificateTrueSpec.post enc Tryz.prog Tryz.f3 false true false false W args v W':=by
 have f:=hW;obtain⟨p,q,d,hV,rfl,_,_⟩:=hW;have hA:DataW.TrodAll enc Tryz.prog W 0 (fun _=>true) true Tryz.f3.params.toList args.toList ds p:=d;obtain⟨rfl,rfl⟩:=trodVars_none hV;rw[Tryz.params3]at hA a;obtain⟨v0,ap,d0,al,p0,q0,E,rfl,rfl,h0,r0⟩:=trodAll_cons hA;obtain⟨v1,aq,d1,am,p1,q1,rfl,rfl,rfl,h1,r1⟩:=trodAll_cons r0;obtain⟨v2,ar,d2,an,p2,q2,rfl,rfl,rfl,h2,r2⟩:=trodAll_cons r1;obtain⟨v3,au,d3,ao,p3,q3,rfl,rfl,rfl,h3,r3⟩:=trodAll_cons r2;obtain⟨rfl,rfl,rfl⟩:=trodAll_nil r3;obtain rfl:args= #[v0,v1,v2,v3]:=by cases args;simp_all
 obtain⟨m,G⟩:=z7s hS hL (by rfl) (yl _ (qbm ..));obtain⟨L,O,R,h,T,u,k,V,y,n,Y,J,B,L0,X0,aa,ac,aj,rfl,k0⟩:=zq8 G (a 0 27 v0 rfl rfl) h0;obtain⟨M,Q,S,i,U,w,l,X,A,o,Z,K,D,L1,X1,ab,ad,ak,rfl,k1⟩:=zq8 G (a 1 27 v1 rfl rfl) h1;obtain⟨ae,af,ag,ah,ai,rfl,w2⟩:=z06 (a 2 28 v2 rfl rfl) h2;obtain⟨z3,rfl,_,_,w3⟩:=open_int Tryz.underlying3 (a 3 3 v3 rfl rfl) h3
 have g:=zsf (ybn (fz0 W m) (mlf0 W m) (rnd0 W m) L O R h T u k V y n Y J B L0 X0 aa ac aj k0 M Q S i U w l X A o Z K D L1 X1 ab ad ak k1 ae af ag ah ai w2 z3 (z8r w3)) (holds0 G)
  (vs:=[_,_,_,.int .i64 z3]) ⟨rfl,rfl,rfl,rfl,tv⟩ (by
   intro s hs;simp at hs;rcases hs with rfl | rfl | rfl | rfl
   ·exact zmr _ _ _ _ _ _ _ _ _ _ _ _ _ _ _ _ _
   ·exact zmr _ _ _ _ _ _ _ _ _ _ _ _ _ _ _ _ _
   ·exact zwi _ _ _ _ _
   ·trivial)
 refine g.mono fun e W' ⟨he,c⟩=>?_
 subst he;refine⟨_,rfl,z1c rfl rfl rfl f (fun sp I=>?_) c⟩;refine z8z c _ _ _ _ ?_ (by simpa using d) (fun x hx=>f.lt x hx) I;intro t ht;rw[Tryz.params3]at ht;have hc:=(by decide:∀t∈([27,27,28,3]:List Nat),t=3\/t=27\/t=28) t ht;rcases hc with rfl | rfl | rfl
 ·exact⟨(show Tryz.prog.readableRec 3=true by kernel_rfl),od (by kernel_rfl)⟩
 ·exact⟨(show Tryz.prog.readableRec 27=true by kernel_rfl),od (by kernel_rfl)⟩
 ·exact⟨(show Tryz.prog.readableRec 28=true by kernel_rfl),od (by kernel_rfl)⟩
noncomputable def zj2(a:Os):World:=World.laidAll Tryz.prog a Rows.certificateTrueRow.laid
theorem ycv(a:Os)(args:Array Value):laidMet Tryz.prog Rows.certificateTrueRow.laid ((zj2 a).forCall (fun _ _=>0) ⟨#[],args,[]⟩).memory:=
 laidMet_laidAll args (by kernel_rfl) (by kernel_rfl)
