import Derived.Test.YtfnkamphhpldcaaGreatDoorK36
import Derived.Test.YtfnkamphhpldcaaGreatDoorK23
import Derived.Test.YtfnkamphhpldcaaGreatDoorCards
import Derived.Test.YtfnkamphhpldcaaGreatDoorTie
import Derived.WalkKit
import Derived.ProofKit
import Derived.OpenShut
import Derived.Deep.DeepHandedRow
import Derived.Lib.LaidTab
import Derived.Deep.Slices
import Derived.Laws.IdiomArrays
import Derived.Carry
import Derived.Lay
import Derived.Test.YtfnkamphhpldcaaGreatDoorK40
set_option maxHeartbeats 64000000
namespace Go.Proofs.YtfnkamphhpldcaaGreatDoor
open Go Go.RowKit Go.ChangeShapes Go.WideShapes Go.ChangeAt Sx
set_option maxRecDepth 100000
theorem cells3:Tryz.prog.cellsOf 3 = 1:=by kernel_rfl
theorem z2z:laidOutB Tryz.prog = true:=by kernel_rfl
theorem own:ownKnob Tryz.prog.godebug = none:=by kernel_rfl
def fz0 (W:World) (m:Int):Fz:=fun k=>if k = 4 then some (.cells 3 [.int .i64 m]) else if k = 0 then some (.arr 287 1 (konst.map encW) 64) else (W.heap[k]?).map SB.obj
abbrev konV:Array Value:=(konst.map fun (n:Nat)=>Value.int .u32 (n:Int)).toArray
structure Start (W:World) (m:Int):Prop where
 max:W.heap[4]? = some (.cells #[.int .i64 m] 3 (0,0))
 rnd:W.heap[0]? = some (.cells konV 287 (0,0))
theorem holds0 {W:World} {m:Int} (h:Start W m):Holds (fz0 W m) W:=by
 intro b B c;unfold fz0 at c;split at c
 ·rename_i g;subst g;obtain rfl:SB.cells 3 [.int .i64 m] = B:=by simpa using c
  refine ⟨fun a d=>?_,_,h.max,fun ρ _=>⟨(0,0),fun j _=>by simp,rfl⟩⟩;simp at d; subst d; trivial
 ·split at c
  ·rename_i g;subst g;obtain rfl:SB.arr 287 1 (konst.map encW) 64 = B:=by simpa using c
   refine ⟨fun x f a d=>?_,_,h.rnd,fun ρ _=>⟨fun x f=>?_,qm _,[],rfl,(0,0),fun j _=>by simp,?_⟩⟩
   ·obtain ⟨n,_,rfl⟩:=qz.1 f;obtain rfl:a = wd n:=qu.1 d;trivial
   ·obtain ⟨n,_,rfl⟩:=qz.1 f;rfl
   ·have e:((konst.map encW).flatten.map (SA.den ρ) ++ []) = konst.map fun (n:Nat)=>Value.int .u32 (n:Int):=rfl
    rw [e]
  ·obtain ⟨o,i,rfl⟩:=qai.1 c;exact ⟨tv,o,i,fun _ _=>rfl⟩
theorem mlf0 (W:World) (m:Int):MLF (fz0 W m):=⟨m,rfl⟩
theorem rnd0 (W:World) (m:Int):RNDF (fz0 W m):=rfl
theorem z5n {w:World} {b i:Nat} {v:Value} (h:w.cell? ⟨b,i,none⟩ = some v):∃ a t d,w.heap[b]? = some (.cells a t d) ∧ a[i]? = some v:=by
 cases c:w.heap[b]? with
 |none=>simp [World.cell?,c] at h
 |some o=>
  cases o with
  |cells a t d=>exact ⟨a,t,d,rfl,by simpa [World.cell?,c] using h⟩
  |_=>simp [World.cell?,c] at h
theorem raw0 {W:World} {m:Int} (h1:Start W m) {b a:Nat} {i:List Int} (h:∀ j (d:j < i.length),W.cell? ⟨b,a + j,none⟩ = some (.int .i64 i[j])):RawAt (fz0 W m) b a i:=by
 cases i with
 |nil=>exact .inl rfl
 |cons z r=>
  right;obtain ⟨g,t,k,e,l⟩:=z5n (h 0 (by simp))
  have c:∀ j (d:j < (z :: r).length),g[a + j]? = some (.int .i64 (z :: r)[j]):=fun j d=>by
   have:=h j d;simpa [World.cell?,e] using this
  by_cases p:b = 4
  ·subst p;rw [h1.max] at e;obtain ⟨rfl,rfl,rfl⟩:#[Value.int .i64 m] = g ∧ 3 = t ∧ (0,0) = k:=by simpa using e
   refine ⟨_,rfl,fun j d=>?_⟩;have:=c j d;show [SA.int .i64 m][a + j]? = _
   have q:a + j = 0:=by
    have:=(jo.1 this).1;simp at this; omega
   rw [q] at this ⊢;simpa using this
  ·by_cases f:b = 0
   ·subst f;rw [h1.rnd] at e;obtain ⟨rfl,_,_⟩:konV = g ∧ 287 = t ∧ (0,0) = k:=by simpa using e
    have o:(konst.map fun (n:Nat)=>Value.int .u32 (n:Int))[a + 0]? = some (.int .i64 (z :: r)[0]):=by simp at l
    rw [qy] at o;obtain ⟨n,_,s⟩:=qai.1 o;simp at s
   ·exact ⟨.obj (.cells g t k),by simp [fz0,p,f,e],fun j d=>c j d⟩
theorem zmr {P:Program} {w:World} {n:String} {d:DataW Unit}:∀ {l:List (String × DataW Unit)} {c:List MemPlace},DataW.LaidVars P w l c → (n,d) ∈ l →
  ∃ g t b a p,P.globalNamed n = some g ∧ (P.globals[g]?).map (·.type) = some t ∧ w.var? P n = some b ∧ DataW.trod (fun _=>()) P w 0 (fun _=>true) false a t b.toList = some (d,p)
 |[],_,_,hm=>by cases hm
 |(n',d') :: r,c,h,hm=>by
  obtain ⟨g,t,b,a,p,q,h1,j,i,k,f,_⟩:=h;rcases qj.1 hm with e | e
  ·cases e
   exact ⟨g,t,b,a,p,h1,j,i,k⟩
  ·exact zmr f e
theorem z2j {W:World} {l:List (String × DataW Unit)} (o:W.ShapedOpen Tryz.prog) (b:laidMetH Tryz.prog l W) (E:l.filter (fun x=>x.2.handleName?.isSome) = []) (K:("evergreen/digest.round", Lib.tabData .u32 (konst.map fun (n:Nat)=>(n:Int))) ∈ l):∃ m,Start W m:=by
 unfold laidMetH at b;rw [E] at b;obtain ⟨O,D,_⟩:=b;obtain ⟨g,t,G,s,p,h1,I,q,A⟩:=zmr D K;obtain rfl:0 = g:=Option.some.inj ((show Tryz.prog.globalNamed "evergreen/digest.round" = some 0 by kernel_rfl).symm.trans h1);obtain rfl:287 = t:=Option.some.inj ((show (Tryz.prog.globals[0]?).map (·.type) = some 287 by kernel_rfl).symm.trans I);have a:=Lib.cells_of_tab Tryz.underlying287 Tryz.underlying231 (by kernel_rfl) (by kernel_rfl) A;obtain ⟨c,J,y,L⟩:=o.1 4 #[.int .i64 0] 3 (od (by kernel_rfl)) (by kernel_rfl);obtain ⟨k,j,Q,M⟩:=o.1 0 (Array.replicate 64 (.int .u32 0)) 287 (od (by kernel_rfl)) (by kernel_rfl);obtain ⟨ts,i,_,w⟩:=L (by kernel_rfl);have f:Tryz.prog.cellTypes Tryz.prog.depth 3 = some [3]:=by kernel_rfl
 rw [f] at i;obtain rfl:[3] = ts:=by simpa using i
 have d:c.size = 1:=y
 obtain ⟨v,rfl⟩:∃ v,c = #[v]:=by
  cases c with
  |mk l=>match l,d with
   |[v],_=>exact ⟨v,rfl⟩
 obtain ⟨u,B,h⟩:=w 0 v rfl;obtain rfl:3 = u:=by simpa using B
 obtain ⟨n,rfl⟩:∃ n,v = .int .i64 n:=by
  simp only [Cell.ok,Tryz.underlying3] at h;cases v<;>simp_all
 refine ⟨n,J,?_⟩;simp only [World.var?,h1,qc5,j] at q;obtain rfl:k = G:=by simpa using q
 rw [j]
 have e:k = konV:=by
  apply Array.toList_inj.1;rw [a,q9]; rfl
 rw [e]
theorem ydy {n:Int} (h:(Lit.int .i64 n).wf = true):i64 n:=by
 simp only [Lit.wf,qf,decide_eq_true_eq] at h;exact ⟨h.1,h.2⟩
theorem zxs {H:Type} {enc:TypeId × Value → H} {f:Func} {s:ChangeSpec} {W i:World} {args:Array Value} {d:List (DataW H)} {a:List MemPlace}
  (e:s.vars = []) (k:f.resultTypes = #[4]) (m:s.fn H (d ++ []) = { results:=[.lit (.bool true)],args:=d })
  (w:DataW.Whole enc Tryz.prog f.params.toList s.vars false W args.toList d [] a)
  (g:∀ c:Nat → Bool,(∀ p ∈ a,c p.block = true) → DataW.TrodAll enc Tryz.prog i 0 c true f.params.toList args.toList d a)
  (y:Below W.heap.size W i):s.post enc Tryz.prog f false true false false W args (.bool true) i:=by
 have l:=w.lt;have j:∀ p ∈ a,(fun b=>decide (b < W.heap.size)) p.block = true:=fun p x=>by simpa using l p x
 have q:∀ c:Nat → Bool,DataW.TrodVars enc Tryz.prog i c s.vars (s.fn H (d ++ [])).vars []:=fun c=>by rw [e,m]; rfl
 have n:∀ (b:Nat) (c:Nat → Bool) (u:Bool),DataW.TrodAll enc Tryz.prog i b c u f.resultTypes.toList ((Value.bool true).resultList f.resultTypes.size) (s.fn H (d ++ [])).results []:=fun b c u=>by
  rw [k,m];exact trodAll_mk1 (shut_bool Tryz.underlying4 _)
 have o:∀ c:Nat → Bool,(∀ p ∈ a,c p.block = true) → DataW.TrodAll enc Tryz.prog i 0 c true f.params.toList args.toList (s.fn H (d ++ [])).args a:=fun c h=>by
  rw [m]; exact g c h
 exact ⟨d,[],a,[],a,[],w,n _ _ _,o _ j,q _,y.frame _,fun h=>by cases h⟩
theorem z8c {H:Type} {enc:TypeId × Value → H} {W i:World} {j:Nat → Bool} (l:Below W.heap.size W i):∀ (ts:List TypeId) (vs:List Value) (e:List (DataW H)) (b:List MemPlace),(∀ t ∈ ts,Tryz.prog.readableRec t = true ∧ t < Tryz.prog.types.size) →
  DataW.TrodAll enc Tryz.prog W 0 (fun _=>true) true ts vs e b → (∀ p ∈ b,p.block < W.heap.size) → (∀ p ∈ b,j p.block = true) → DataW.TrodAll enc Tryz.prog i 0 j true ts vs e b
 |[],vs,e,b,_,h,_,_=>by
  obtain ⟨rfl,rfl,rfl⟩:=trodAll_nil h;rfl
 |t :: ts,vs,e,b,ht,h,hlt,hsp=>by
  obtain ⟨v,k,d,f,p,q,rfl,rfl,rfl,h1,n⟩:=trodAll_cons h;refine ⟨p,q,?_,z8c l ts k f q (fun t' o=>ht t' (yp _ o)) n (fun x a=>hlt x (qbg _ a)) (fun x a=>hsp x (qbg _ a)),rfl⟩;have m:∀ x ∈ p,W.sameAt i x:=fun x a=>l.same (hlt x (qa0 _ a))
  have g:∀ x ∈ p,j x.block = true:=fun x a=>hsp x (qa0 _ a)
  have c:=ht t (qb2 ..);exact WideElems.Trod_stays z2z c.1 c.2 h1 m g
section
variable {H:Type} {enc:TypeId × Value → H}
theorem zkv {W:World} {t n a:Nat} {c:List Value} {x:DataW H × List MemPlace} (j:Tryz.prog.underlying t = some (.array n 3)) (h:DataW.trod enc Tryz.prog W 0 (fun _=>true) true a t c = some x) (d:Tryz.prog.cellsOf t = n) :
  c.length = n ∧ ∀ (i:Nat) (e:i < c.length),∃ z,c[i] = .int .i64 z ∧ i64 z:=by
 cases a with
 |zero=>simp [DataW.trod] at h
 |succ a=>
  rw [DataW.trod_step] at h;unfold DataW.trodStep at h;simp only [j,d,cells3,qc0] at h;split at h
  ·rename_i k;obtain ⟨p,l,o⟩:=qai.1 h;refine ⟨k,fun i e=>?_⟩;obtain ⟨b,q,m⟩:=Lib.mapM_at l i i (by rw [List.getElem?_range (by omega)]);obtain ⟨z,g,_,f⟩:=DataW.trod_int Tryz.underlying3 m;refine ⟨z,?_,ydy f⟩;have:=congrArg (·[0]?) g;simpa [List.getElem?_take,qag,qe e] using this
  ·cases h
theorem open_arr {W:World} {m:Int} {t e n y:Nat} {E:List Value} {x:DataW H × List MemPlace} (h1:Start W m) (V:Tryz.prog.underlying t = some (.slice e)) (X:Tryz.prog.underlying e = some (.array n 3)) (q:Tryz.prog.cellsOf e = n) (Y:0 < n)
  (h:DataW.trod enc Tryz.prog W 0 (fun _=>true) true y t E = some x) (K:∀ a d cap,E = [.slice (some a) d cap] → a.spot = none) :
  ∃ (Q:Bool) (b o l c:Nat) (I:List Int),E = [SA.den (fun _ k=>k) (.slice Q 0 b o 1 l c)] ∧ (Q = true → l = 0) ∧ l ≤ maxLen ∧ I.length = l * n ∧ RawAt (fz0 W m) b o I ∧ ∀ z ∈ I,i64 z:=by
 rcases Deep.open_slice V h with ⟨rfl,-⟩ | ⟨a,d,cap,m',n',D,Pl,rfl,_,hl,hm,u,_,T⟩
 ·exact ⟨true,0,0,0,0,[],rfl,fun _=>rfl,yj _,by simp,.inl rfl,by simp⟩
 ·obtain ⟨b,i,s⟩:=a;obtain rfl:s = none:=K _ _ _ rfl;have u:m' = cap:=u
  have w:∀ j,j < d * n → ∃ z,W.cell? ⟨b,i + j,none⟩ = some (.int .i64 z) ∧ i64 z:=fun j A=>by
   have hi:j / n < d:=qdf (by rw [qbb]; exact A);have Z:j % n < n:=qa4 _ Y;obtain ⟨M,R,U⟩:=T (j / n) (by omega);rw [q] at R;obtain ⟨_,O,p⟩:=World.cells?_some R;obtain ⟨_,B⟩:=zkv X U q;obtain ⟨z,G,L⟩:=B (j % n) (by omega);refine ⟨z,?_,L⟩;have g:=p (j % n) Z;simp only [add_plain] at g;rw [qe (show j % n < M.length by omega),G] at g;rw [← g]
   have:i + j = i + j / n * n + j % n:=by
    have:=Nat.div_add_mod j n;rw [qbb] at this;omega
   rw [this]
  obtain ⟨f,S⟩:=Deep.choose_lt (α:=Int) w;refine ⟨false,b,i,d,cap,(List.range (d * n)).map f,by simp [SA.den],(fun h=>by cases h),by omega,by simp,raw0 h1 fun j A=>?_,fun z B=>?_⟩
  ·have J:j < d * n:=by simpa using A
   rw [(S j J).1]; simp
  ·obtain ⟨j,A,rfl⟩:=qz.1 B;exact (S j (qcr.1 A)).2
theorem zu1:∀ (l:Nat) (c:List Int),c.length = l * 2 → (∀ z ∈ c,i64 z) → ∃ L:List Stp,L.length = l ∧ ints2 L = c ∧ ∀ y ∈ L,i64 y.1 ∧ i64 y.2
 |0,c,h,_=>⟨[],rfl,(y8.1 (by omega)).symm,by simp⟩
 |l + 1,c,h,hz=>by
  match c,h with
  |[],h=>simp at h
  |[_],h=>simp only [qh,qt] at h; omega
  |a :: b :: r,h=>
   obtain ⟨L,h1,f,d⟩:=zu1 l r (by simp only [qh] at h; omega) (fun z e=>hz z (by simp [e]));refine ⟨(a,b) :: L,by simp [h1],by rw [← f]; rfl,fun y hy=>?_⟩;rcases qj.1 hy with rfl | hy
   ·exact ⟨hz a (by simp),hz b (by simp)⟩
   ·exact d y hy
theorem zmy:∀ (l:Nat) (d:List Int),d.length = l * 3 → (∀ z ∈ d,i64 z) → ∃ L:List Q3,L.length = l ∧ ints3 L = d ∧ ∀ y ∈ L,i64 y.1 ∧ i64 y.2.1 ∧ i64 y.2.2
 |0,d,h,_=>⟨[],rfl,(y8.1 (by omega)).symm,by simp⟩
 |l + 1,d,h,hz=>by
  match d,h with
  |[],h=>simp at h
  |[_],h=>simp only [qh,qt] at h; omega
  |[_,_],h=>simp only [qh,qt] at h; omega
  |a :: b :: c :: r,h=>
   obtain ⟨L,h1,g,e⟩:=zmy l r (by simp only [qh] at h; omega) (fun z f=>hz z (by simp [f]));refine ⟨(a,b,c) :: L,by simp [h1],by rw [← g]; rfl,fun y hy=>?_⟩;rcases qj.1 hy with rfl | hy
   ·exact ⟨hz a (by simp),hz b (by simp),hz c (by simp)⟩
   ·exact e y hy
theorem zvg (e n p:Bool) (g j i s f c m o h k l x:Nat) (q d:Int):(SV.agg (caseS e n p g j i s f c m o h k l x q d)).below 1:=by
 intro a b;simp only [qj,qs,or_false] at b;rcases b with rfl | rfl | rfl | rfl | rfl
 ·exact .inr yx
 ·exact .inr yx
 ·trivial
 ·trivial
 ·exact .inr yx
theorem yd0:Tryz.prog.cellsOf 27 = 5:=by kernel_rfl
theorem ybb:Tryz.prog.cellsOf 22 = 1:=by kernel_rfl
theorem z8q:Tryz.prog.cellsOf 23 = 1:=by kernel_rfl
theorem zr7:Tryz.prog.cellsOf 24 = 2:=by kernel_rfl
theorem yba:Tryz.prog.cellsOf 25 = 1:=by kernel_rfl
theorem zx6 {W:World} {m:Int} {base:Nat} {v:Value} {d:DataW H} {ps:List MemPlace} (h1:Start W m) (f:Value.okWide Tryz.prog W .any base 27 v) (h:DataW.Trod enc Tryz.prog W 0 (fun _=>true) true 27 v d ps) :
  ∃ (x y w:Bool) (I E J A B O K G D S:Nat) (L:List Stp) (X:List Q3) (i g:Int) (zs:List Int),v = .agg ((caseS x y w I E J A B O K G D S L.length X.length i g).map (SA.den (fun _ k=>k))).toArray ∧ CaseAt (fz0 W m) x y w I E A B K G D L X i g zs:=by
 obtain ⟨T,rfl,s⟩:=okWide_struct Tryz.underlying27 f;rw [yd0] at s;obtain ⟨V,h⟩:=h;simp only [Value.okWide,Tryz.underlying27] at f;obtain ⟨R,Q,_,ts,j,_,c⟩:=f;obtain rfl:T = R:=by simpa using Q
 have o:Tryz.prog.cellTypes Tryz.prog.depth 27 = some [22,23,3,3,25]:=by kernel_rfl
 rw [o] at j;obtain rfl:[22,23,3,3,25] = ts:=by simpa using j
 obtain ⟨cl⟩:=T
 match cl,s with
 |[c0,J,O,S,c4],_=>
  obtain ⟨xs,n,_,_,_,l,M⟩:=DataW.trod_struct Tryz.underlying27 h
  match xs,l with
  |[y0,y1,y2,y3],_=>
   have t0:=M 0 _ rfl;have t1:=M 1 _ rfl;have t2:=M 2 _ rfl;have t3:=M 3 _ rfl;simp [cells3,ybb,z8q,zr7,yba,Value.cells] at t0 t1 t2 t3;obtain ⟨_,U⟩:=zkv Tryz.underlying24 t2 zr7;obtain ⟨i,e0,w0⟩:=U 0 (by simp);obtain ⟨g,e1,w1⟩:=U 1 (by simp);obtain rfl:O = .int .i64 i:=e0;obtain rfl:S = .int .i64 g:=e1
   obtain ⟨x,I,E,l1,k1,z1,hA,Y,a2,a3,a4,a5⟩:=open_arr h1 Tryz.underlying22 Tryz.underlying24 zr7 (by decide) t0 (by
    intro a e cap p;obtain rfl:c0 = .slice (some a) e cap:=by simpa using p
    obtain ⟨u,q,b⟩:=c 0 _ rfl;obtain rfl:22 = u:=by simpa using q
    simp only [Tryz.underlying22,Cell.okWide,Cell.ok] at b;exact b.2.2.2.1)
   obtain ⟨y,A,B,l2,k2,z2,Z,d1,d2,d3,d4,d5⟩:=open_arr h1 Tryz.underlying23 Tryz.underlying177 (by kernel_rfl) (by decide) t1 (by
    intro a e cap p;obtain rfl:J = .slice (some a) e cap:=by simpa using p
    obtain ⟨u,q,b⟩:=c 1 _ rfl;obtain rfl:23 = u:=by simpa using q
    simp only [Tryz.underlying23,Cell.okWide,Cell.ok] at b;exact b.2.2.2.1)
   obtain ⟨w,K,G,D,k3,z3,hC,f1,f2,f3,f4,f5⟩:=open_arr h1 Tryz.underlying25 Tryz.underlying28 (by kernel_rfl) (by decide) t3 (by
    intro a e cap p;obtain rfl:c4 = .slice (some a) e cap:=by simpa using p
    obtain ⟨u,q,b⟩:=c 4 _ rfl;obtain rfl:25 = u:=by simpa using q
    simp only [Tryz.underlying25,Cell.okWide,Cell.ok] at b;exact b.2.2.2.1)
   obtain rfl:c0 = _:=by simpa using hA
   obtain rfl:J = _:=by simpa using Z
   obtain rfl:c4 = _:=by simpa using hC
   obtain ⟨L,rfl,rfl,g1⟩:=zu1 l1 z1 a3 a5;obtain ⟨X,rfl,rfl,g2⟩:=zmy l2 z2 d3 d5;have hx:maxLen = 9223372036854775807:=rfl;exact ⟨x,y,w,I,E,k1,A,B,k2,K,G,D,k3,L,X,i,g,z3,rfl,⟨fun h=>y8.1 (Y h),fun h=>y8.1 (d1 h),f1,a4,d4,f4,g1,g2,f5,⟨w0,w1⟩,by omega,by omega,by omega,f3⟩⟩
end
theorem z8o:Tryz.prog.cellsOf 28 = 5:=by kernel_rfl
section
variable {H:Type} {enc:TypeId × Value → H}
theorem zyk {W:World} {base:Nat} {v:Value} {d:DataW H} {w:List MemPlace} (a:Value.okWide Tryz.prog W .any base 28 v) (h:DataW.Trod enc Tryz.prog W 0 (fun _=>true) true 28 v d w) :
  ∃ g e i f c:Int,v = .agg ([SA.int .i64 g,.int .i64 e,.int .i64 i,.int .i64 f,.int .i64 c].map (SA.den (fun _ k=>k))).toArray ∧ (i64 g ∧ i64 e ∧ i64 i ∧ i64 f ∧ i64 c):=by
 obtain ⟨l,h⟩:=h;simp only [Value.okWide,Tryz.underlying28] at a;obtain ⟨B,rfl,j⟩:=a;obtain ⟨q,b⟩:=zkv Tryz.underlying28 h z8o;obtain ⟨m⟩:=B
 match m,q with
 |[c0,c1,c2,c3,c4],_=>
  obtain ⟨g,y,D⟩:=b 0 (by simp [Value.cells]);obtain ⟨e,E,A⟩:=b 1 (by simp [Value.cells]);obtain ⟨i,u,s⟩:=b 2 (by simp [Value.cells]);obtain ⟨f,p,x⟩:=b 3 (by simp [Value.cells]);obtain ⟨c,o,n⟩:=b 4 (by simp [Value.cells]);obtain rfl:c0 = .int .i64 g:=y;obtain rfl:c1 = .int .i64 e:=E;obtain rfl:c2 = .int .i64 i:=u;obtain rfl:c3 = .int .i64 f:=p;obtain rfl:c4 = .int .i64 c:=o;exact ⟨g,e,i,f,c,rfl,D,A,s,x,n⟩
theorem zwd (f d g e c:Int):(SV.agg [.int .i64 f,.int .i64 d,.int .i64 g,.int .i64 e,.int .i64 c]).below 1:=by
 intro a b;simp only [qj,qs,or_false] at b;rcases b with rfl | rfl | rfl | rfl | rfl<;>trivial
end
end Go.Proofs.YtfnkamphhpldcaaGreatDoor
