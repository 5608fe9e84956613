import Derived.Test.YtfnkamphhpldcaaGreatDoorK45
import Derived.Test.YtfnkamphhpldcaaGreatDoorK46
set_option maxHeartbeats 64000000
namespace Go.Proofs.YtfnkamphhpldcaaGreatDoor
open Go Go.RowKit Go.ChangeShapes Go.WideShapes Go.ChangeAt Sx
set_option maxRecDepth 100000
theorem byte_of{n:Int}(h:(Lit.int .u8 n).wf=true):∃b:UInt8,n=(b.toNat:Int):=by
 have a:0<=n/\n<=255:=by simpa[Lit.wf,IntKind.min,IntKind.max,IntKind.signed,IntKind.bits]using h
 refine⟨UInt8.ofNat n.toNat,?_⟩;simp;omega
theorem D1(H:Type)(enc:TypeId×Value->H)(W:World)(base:Nat)(args:Array Value)(ds gs:List (DataW H))(b:List MemPlace)
  (a:∀(j:Nat) t v,Tryz.f6.params[j]? =some t->args[j]? =some v->Value.okWide Tryz.prog W .any base t v)
  (hW:DataW.Whole enc Tryz.prog Tryz.f6.params.toList Rows.certificateEncodingMatchesReferenceSpec.vars false W args.toList ds gs b)(hL:laidMetH Tryz.prog Rows.certificateEncodingMatchesReferenceRow.laid W)(hS:W.ShapedOpen Tryz.prog):
  Calls Tryz.prog 6 args W fun e W'=>∃v,e=.returned v/\Rows.certificateEncodingMatchesReferenceSpec.post enc Tryz.prog Tryz.f6 false true false false W args v W':=by
 have h:=hW;obtain⟨p,q,g,hV,rfl,_,_⟩:=hW;have hA:DataW.TrodAll enc Tryz.prog W 0 (fun _=>true) true Tryz.f6.params.toList args.toList ds p:=g;obtain⟨rfl,rfl⟩:=trodVars_none hV;rw[Tryz.params6]at hA a;obtain⟨v0,aj,d0,ae,p0,q0,D,rfl,rfl,h0,r0⟩:=trodAll_cons hA;obtain⟨v1,ak,d1,af,p1,q1,rfl,rfl,rfl,h1,r1⟩:=trodAll_cons r0;obtain⟨v2,al,d2,ag,p2,q2,rfl,rfl,rfl,h2,r2⟩:=trodAll_cons r1;obtain⟨v3,am,d3,ah,p3,q3,rfl,rfl,rfl,h3,r3⟩:=trodAll_cons r2;obtain⟨v4,an,d4,ai,p4,q4,rfl,rfl,rfl,h4,r4⟩:=trodAll_cons r3;obtain⟨rfl,rfl,rfl⟩:=trodAll_nil r4;obtain rfl:args= #[v0,v1,v2,v3,v4]:=by cases args;simp_all
 obtain⟨m,E⟩:=B6 hS hL (by rfl) (ym _ (qbk ..));obtain⟨Z,V,aa,X,B,y,A,ac,rfl,Y,ab,U,ao⟩:=BF E (a 0 48 v0 rfl rfl) h0;obtain⟨K,L,M,k,O,o,l,Q,u,n,R,J,w,L1,X1,S,T,ad,rfl,k1⟩:=zz E (a 1 27 v1 rfl rfl) h1;obtain⟨z2,rfl,_,_,w2⟩:=open_int Tryz.underlying3 (a 2 3 v2 rfl rfl) h2;obtain⟨z3,rfl,_,_,w3⟩:=open_int Tryz.underlying5 (a 3 5 v3 rfl rfl) h3;obtain⟨f,rfl⟩:=byte_of w3;obtain⟨d,rfl⟩:=okWide_string Tryz.underlying9 (a 4 9 v4 rfl rfl)
 have i:=C7 (C2 (fz0 W m) (mlf0 W m) (rnd0 W m) B y A Z V aa X ac Y ab (fun x I=>(U x I).1) K L M k O o l Q u n R J w L1 X1 S T ad k1 z2 (rP w2) f d.data.toList) (holds0 E)
  (vs:=[_,_,.int .i64 z2,.int .u8 (f.toNat:Int),.string d]) ⟨rfl,rfl,rfl,rfl,rfl,tv⟩ (by
   intro s hs;simp at hs;rcases hs with rfl | rfl | rfl | rfl | rfl
   ·exact EW _ _ _ _ _ _ _ _
   ·exact DV _ _ _ _ _ _ _ _ _ _ _ _ _ _ _ _ _
   ·trivial
   ·trivial
   ·trivial)
 refine i.mono fun e W' ⟨he,c⟩=>?_
 subst he;refine⟨_,rfl,zH rfl rfl rfl h (fun sp G=>?_) c⟩;refine sG c _ _ _ _ ?_ (by simpa using g) (fun x I=>h.lt x I) G;intro t ht;rw[Tryz.params6]at ht;have hc:=(by decide:∀t∈([48,27,3,5,9]:List Nat),t=3\/t=5\/t=9\/t=27\/t=48) t ht;rcases hc with rfl | rfl | rfl | rfl | rfl
 ·exact⟨(show Tryz.prog.readableRec 3=true by kernel_rfl),od (by kernel_rfl)⟩
 ·exact⟨(show Tryz.prog.readableRec 5=true by kernel_rfl),od (by kernel_rfl)⟩
 ·exact⟨(show Tryz.prog.readableRec 9=true by kernel_rfl),od (by kernel_rfl)⟩
 ·exact⟨(show Tryz.prog.readableRec 27=true by kernel_rfl),od (by kernel_rfl)⟩
 ·exact⟨(show Tryz.prog.readableRec 48=true by kernel_rfl),od (by kernel_rfl)⟩
noncomputable def iM(a:Os):World:=World.laidAll Tryz.prog a Rows.certificateEncodingMatchesReferenceRow.laid
theorem ydd(a:Os)(args:Array Value):laidMet Tryz.prog Rows.certificateEncodingMatchesReferenceRow.laid ((iM a).forCall (fun _ _=>0) ⟨#[],args,[]⟩).memory:=
 laidMet_laidAll args (by kernel_rfl) (by kernel_rfl)
