import Derived.Test.YtfnkamphhpldcaaGreatDoorK41
import Derived.Test.YtfnkamphhpldcaaGreatDoorK26
import Derived.Test.YtfnkamphhpldcaaGreatDoorCards
import Derived.Test.YtfnkamphhpldcaaGreatDoorTie
import Derived.WalkKit
import Derived.ProofKit
import Derived.OpenShut
import Derived.Deep.DeepHandedRow
import Derived.Lib.LaidTab
import Derived.Deep.Slices
import Derived.Laws.IdiomArrays
import Derived.Carry
import Derived.Lay
set_option maxHeartbeats 64000000
namespace Go.Proofs.YtfnkamphhpldcaaGreatDoor
open Go Go.RowKit Go.ChangeShapes Go.WideShapes Go.ChangeAt Sx
set_option maxRecDepth 100000
theorem cells3:Tryz.prog.cellsOf 3 = 1:=by kernel_rfl
theorem zzv:laidOutB Tryz.prog = true:=by kernel_rfl
theorem own:ownKnob Tryz.prog.godebug = none:=by kernel_rfl
def fz0 (W:World) (m:Int):Fz:=fun k=>if k = 4 then some (.cells 3 [.int .i64 m]) else if k = 0 then some (.arr 287 1 (konst.map encW) 64) else (W.heap[k]?).map SB.obj
abbrev konV:Array Value:=(konst.map fun (n:Nat)=>Value.int .u32 (n:Int)).toArray
structure Start (W:World) (m:Int):Prop where
 max:W.heap[4]? = some (.cells #[.int .i64 m] 3 (0,0))
 rnd:W.heap[0]? = some (.cells konV 287 (0,0))
theorem holds0 {W:World} {m:Int} (h:Start W m):Holds (fz0 W m) W:=by
 intro b B hB
 unfold fz0 at hB
 split at hB
 ·rename_i hb
  subst hb
  obtain rfl:SB.cells 3 [.int .i64 m] = B:=by simpa using hB
  refine ⟨fun a ha=>?_,_,h.max,fun ρ _=>⟨(0,0),fun j _=>by simp,rfl⟩⟩
  simp at ha; subst ha; trivial
 ·split at hB
  ·rename_i hb
   subst hb
   obtain rfl:SB.arr 287 1 (konst.map encW) 64 = B:=by simpa using hB
   refine ⟨fun x hx a ha=>?_,_,h.rnd,fun ρ _=>⟨fun x hx=>?_,qf _,[],rfl,(0,0),fun j _=>by simp,?_⟩⟩
   ·obtain ⟨n,_,rfl⟩:=q9.1 hx
    obtain rfl:a = wd n:=qy.1 ha
    trivial
   ·obtain ⟨n,_,rfl⟩:=q9.1 hx
    rfl
   ·have e:((konst.map encW).flatten.map (SA.den ρ) ++ []) = konst.map fun (n:Nat)=>Value.int .u32 (n:Int):=rfl
    rw [e]
  ·obtain ⟨o,ho,rfl⟩:=y8.1 hB
   exact ⟨tv,o,ho,fun _ _=>rfl⟩
theorem mlf0 (W:World) (m:Int):MLF (fz0 W m):=⟨m,rfl⟩
theorem rnd0 (W:World) (m:Int):RNDF (fz0 W m):=rfl
theorem z06 {w:World} {b i:Nat} {v:Value} (h:w.cell? ⟨b,i,none⟩ = some v):∃ cs t fr,w.heap[b]? = some (.cells cs t fr) ∧ cs[i]? = some v:=by
 cases ho:w.heap[b]? with
 |none=>simp [World.cell?,ho] at h
 |some o=>
  cases o with
  |cells cs t fr=>exact ⟨cs,t,fr,rfl,by simpa [World.cell?,ho] using h⟩
  |_=>simp [World.cell?,ho] at h
theorem raw0 {W:World} {m:Int} (h1:Start W m) {b off:Nat} {zs:List Int} (h:∀ j (hj:j < zs.length),W.cell? ⟨b,off + j,none⟩ = some (.int .i64 zs[j])):RawAt (fz0 W m) b off zs:=by
 cases zs with
 |nil=>exact .inl rfl
 |cons z r=>
  right
  obtain ⟨cs,t,fr,ho,hz0⟩:=z06 (h 0 (by simp))
  have hall:∀ j (hj:j < (z :: r).length),cs[off + j]? = some (.int .i64 (z :: r)[j]):=fun j hj=>by
   have:=h j hj
   simpa [World.cell?,ho] using this
  by_cases hb:b = 4
  ·subst hb
   rw [h1.max] at ho
   obtain ⟨rfl,rfl,rfl⟩:#[Value.int .i64 m] = cs ∧ 3 = t ∧ (0,0) = fr:=by simpa using ho
   refine ⟨_,rfl,fun j hj=>?_⟩
   have:=hall j hj
   show [SA.int .i64 m][off + j]? = _
   have h0:off + j = 0:=by
    have:=(qz.1 this).1
    simp at this; omega
   rw [h0] at this ⊢
   simpa using this
  ·by_cases hb2:b = 0
   ·subst hb2
    rw [h1.rnd] at ho
    obtain ⟨rfl,_,_⟩:konV = cs ∧ 287 = t ∧ (0,0) = fr:=by simpa using ho
    have h2:(konst.map fun (n:Nat)=>Value.int .u32 (n:Int))[off + 0]? = some (.int .i64 (z :: r)[0]):=by simp at hz0
    rw [qs] at h2
    obtain ⟨n,_,h3⟩:=y8.1 h2
    simp at h3
   ·exact ⟨.obj (.cells cs t fr),by simp [fz0,hb,hb2,ho],fun j hj=>hall j hj⟩
theorem zko {P:Program} {w:World} {n:String} {d:DataW Unit}:∀ {l:List (String × DataW Unit)} {ps:List MemPlace},DataW.LaidVars P w l ps → (n,d) ∈ l →
  ∃ g t cs fuel p,P.globalNamed n = some g ∧ (P.globals[g]?).map (·.type) = some t ∧ w.var? P n = some cs ∧ DataW.trod (fun _=>()) P w 0 (fun _=>true) false fuel t cs.toList = some (d,p)
 |[],_,_,hm=>by cases hm
 |(n',d') :: r,ps,h,hm=>by
  obtain ⟨g,t,cs,fuel,p,q,h1,h2,h3,h4,h5,_⟩:=h
  rcases qj.1 hm with e | e
  ·cases e
   exact ⟨g,t,cs,fuel,p,h1,h2,h3,h4⟩
  ·exact zko h5 e
theorem zze {W:World} {l:List (String × DataW Unit)} (hS:W.ShapedOpen Tryz.prog) (hl:laidMetH Tryz.prog l W) (hh:l.filter (fun x=>x.2.handleName?.isSome) = []) (hm:("evergreen/digest.round", Lib.tabData .u32 (konst.map fun (n:Nat)=>(n:Int))) ∈ l):∃ m,Start W m:=by
 unfold laidMetH at hl
 rw [hh] at hl
 obtain ⟨ps,hv,_⟩:=hl
 obtain ⟨g,t,cs,fuel,p,h1,h2,h3,h4⟩:=zko hv hm
 obtain rfl:0 = g:=Option.some.inj ((show Tryz.prog.globalNamed "evergreen/digest.round" = some 0 by kernel_rfl).symm.trans h1)
 obtain rfl:287 = t:=Option.some.inj ((show (Tryz.prog.globals[0]?).map (·.type) = some 287 by kernel_rfl).symm.trans h2)
 have hcs:=Lib.cells_of_tab Tryz.underlying287 Tryz.underlying231 (by kernel_rfl) (by kernel_rfl) h4
 obtain ⟨c1,k1,k2,k3⟩:=hS.1 4 #[.int .i64 0] 3 (od (by kernel_rfl)) (by kernel_rfl)
 obtain ⟨c0,j1,j2,j3⟩:=hS.1 0 (Array.replicate 64 (.int .u32 0)) 287 (od (by kernel_rfl)) (by kernel_rfl)
 obtain ⟨ts,ht,_,hc⟩:=k3 (by kernel_rfl)
 have hts:Tryz.prog.cellTypes Tryz.prog.depth 3 = some [3]:=by kernel_rfl
 rw [hts] at ht
 obtain rfl:[3] = ts:=by simpa using ht
 have hsz:c1.size = 1:=k2
 obtain ⟨v,rfl⟩:∃ v,c1 = #[v]:=by
  cases c1 with
  |mk l=>match l,hsz with
   |[v],_=>exact ⟨v,rfl⟩
 obtain ⟨u,hu,hok⟩:=hc 0 v rfl
 obtain rfl:3 = u:=by simpa using hu
 obtain ⟨n,rfl⟩:∃ n,v = .int .i64 n:=by
  simp only [Cell.ok,Tryz.underlying3] at hok
  cases v<;>simp_all
 refine ⟨n,k1,?_⟩
 simp only [World.var?,h1,qco,j1] at h3
 obtain rfl:c0 = cs:=by simpa using h3
 rw [j1]
 have e:c0 = konV:=by
  apply Array.toList_inj.1
  rw [hcs,yd]; rfl
 rw [e]
theorem z13 {n:Int} (h:(Lit.int .i64 n).wf = true):i64 n:=by
 simp only [Lit.wf,qd,decide_eq_true_eq] at h
 exact ⟨h.1,h.2⟩
theorem zvn {H:Type} {enc:TypeId × Value → H} {f:Func} {s:ChangeSpec} {W W':World} {args:Array Value} {ds:List (DataW H)} {before:List MemPlace}
  (hvars:s.vars = []) (hres:f.resultTypes = #[4]) (hs:s.fn H (ds ++ []) = { results:=[.lit (.bool true)],args:=ds })
  (hW:DataW.Whole enc Tryz.prog f.params.toList s.vars false W args.toList ds [] before)
  (hstay:∀ sp:Nat → Bool,(∀ p ∈ before,sp p.block = true) → DataW.TrodAll enc Tryz.prog W' 0 sp true f.params.toList args.toList ds before)
  (hb:Below W.heap.size W W'):s.post enc Tryz.prog f false true false false W args (.bool true) W':=by
 have hlt:=hW.lt
 have hold:∀ p ∈ before,(fun b=>decide (b < W.heap.size)) p.block = true:=fun p hp=>by simpa using hlt p hp
 have hvs:∀ sp:Nat → Bool,DataW.TrodVars enc Tryz.prog W' sp s.vars (s.fn H (ds ++ [])).vars []:=fun sp=>by rw [hvars,hs]; rfl
 have hrs:∀ (b:Nat) (sp:Nat → Bool) (hd:Bool),DataW.TrodAll enc Tryz.prog W' b sp hd f.resultTypes.toList ((Value.bool true).resultList f.resultTypes.size) (s.fn H (ds ++ [])).results []:=fun b sp hd=>by
  rw [hres,hs]
  exact trodAll_mk1 (shut_bool Tryz.underlying4 _)
 have hag:∀ sp:Nat → Bool,(∀ p ∈ before,sp p.block = true) → DataW.TrodAll enc Tryz.prog W' 0 sp true f.params.toList args.toList (s.fn H (ds ++ [])).args before:=fun sp h=>by
  rw [hs]; exact hstay sp h
 exact ⟨ds,[],before,[],before,[],hW,hrs _ _ _,hag _ hold,hvs _,hb.frame _,fun h=>by cases h⟩
theorem z11 {H:Type} {enc:TypeId × Value → H} {W W':World} {sp:Nat → Bool} (hb:Below W.heap.size W W'):∀ (ts:List TypeId) (vs:List Value) (ds:List (DataW H)) (ps:List MemPlace),(∀ t ∈ ts,Tryz.prog.readableRec t = true ∧ t < Tryz.prog.types.size) →
  DataW.TrodAll enc Tryz.prog W 0 (fun _=>true) true ts vs ds ps → (∀ p ∈ ps,p.block < W.heap.size) → (∀ p ∈ ps,sp p.block = true) → DataW.TrodAll enc Tryz.prog W' 0 sp true ts vs ds ps
 |[],vs,ds,ps,_,h,_,_=>by
  obtain ⟨rfl,rfl,rfl⟩:=trodAll_nil h
  rfl
 |t :: ts,vs,ds,ps,ht,h,hlt,hsp=>by
  obtain ⟨v,vs',d,ds',p,q,rfl,rfl,rfl,h1,h2⟩:=trodAll_cons h
  refine ⟨p,q,?_,z11 hb ts vs' ds' q (fun t' h'=>ht t' (qaj _ h')) h2 (fun x hx=>hlt x (qcw _ hx)) (fun x hx=>hsp x (qcw _ hx)),rfl⟩
  have hs:∀ x ∈ p,W.sameAt W' x:=fun x hx=>hb.same (hlt x (qc0 _ hx))
  have hs2:∀ x ∈ p,sp x.block = true:=fun x hx=>hsp x (qc0 _ hx)
  have ht0:=ht t (List.mem_cons_self ..)
  exact WideElems.Trod_stays zzv ht0.1 ht0.2 h1 hs hs2
section
variable {H:Type} {enc:TypeId × Value → H}
theorem zod {W:World} {t n fuel:Nat} {cs:List Value} {x:DataW H × List MemPlace} (ht:Tryz.prog.underlying t = some (.array n 3)) (h:DataW.trod enc Tryz.prog W 0 (fun _=>true) true fuel t cs = some x) (hct:Tryz.prog.cellsOf t = n) :
  cs.length = n ∧ ∀ (i:Nat) (hi:i < cs.length),∃ z,cs[i] = .int .i64 z ∧ i64 z:=by
 cases fuel with
 |zero=>simp [DataW.trod] at h
 |succ fuel=>
  rw [DataW.trod_step] at h
  unfold DataW.trodStep at h
  simp only [ht,hct,cells3,qcj] at h
  split at h
  ·rename_i hl
   obtain ⟨xs,hm,hx⟩:=y8.1 h
   refine ⟨hl,fun i hi=>?_⟩
   obtain ⟨b,hb,hf⟩:=Lib.mapM_at hm i i (by rw [List.getElem?_range (by omega)])
   obtain ⟨z,hc,_,hw⟩:=DataW.trod_int Tryz.underlying3 hf
   refine ⟨z,?_,z13 hw⟩
   have:=congrArg (·[0]?) hc
   simpa [List.getElem?_take,qab,qc hi] using this
  ·cases h
theorem open_arr {W:World} {m:Int} {t e n fuel:Nat} {cs:List Value} {x:DataW H × List MemPlace} (h1:Start W m) (ht:Tryz.prog.underlying t = some (.slice e)) (he:Tryz.prog.underlying e = some (.array n 3)) (hce:Tryz.prog.cellsOf e = n) (hn:0 < n)
  (h:DataW.trod enc Tryz.prog W 0 (fun _=>true) true fuel t cs = some x) (hsp:∀ a len cap,cs = [.slice (some a) len cap] → a.spot = none) :
  ∃ (nl:Bool) (b o l c:Nat) (zs:List Int),cs = [SA.den (fun _ k=>k) (.slice nl 0 b o 1 l c)] ∧ (nl = true → l = 0) ∧ l ≤ maxLen ∧ zs.length = l * n ∧ RawAt (fz0 W m) b o zs ∧ ∀ z ∈ zs,i64 z:=by
 rcases Deep.open_slice ht h with ⟨rfl,-⟩ | ⟨a,len,cap,m',n',D,Pl,rfl,_,hl,hm,hmm,_,hc⟩
 ·exact ⟨true,0,0,0,0,[],rfl,fun _=>rfl,yq _,by simp,.inl rfl,by simp⟩
 ·obtain ⟨b,off,spot⟩:=a
  obtain rfl:spot = none:=hsp _ _ _ rfl
  have hmm:m' = cap:=hmm
  have each:∀ j,j < len * n → ∃ z,W.cell? ⟨b,off + j,none⟩ = some (.int .i64 z) ∧ i64 z:=fun j hj=>by
   have hi:j / n < len:=qcz (by rw [qa0]; exact hj)
   have hr:j % n < n:=qat _ hn
   obtain ⟨cs',k1,k2⟩:=hc (j / n) (by omega)
   rw [hce] at k1
   obtain ⟨_,hlen,hcell⟩:=World.cells?_some k1
   obtain ⟨_,hz⟩:=zod he k2 hce
   obtain ⟨z,hz1,hz2⟩:=hz (j % n) (by omega)
   refine ⟨z,?_,hz2⟩
   have g:=hcell (j % n) hr
   simp only [add_plain] at g
   rw [qc (show j % n < cs'.length by omega),hz1] at g
   rw [← g]
   have:off + j = off + j / n * n + j % n:=by
    have:=Nat.div_add_mod j n
    rw [qa0] at this
    omega
   rw [this]
  obtain ⟨f,hf⟩:=Deep.choose_lt (α:=Int) each
  refine ⟨false,b,off,len,cap,(List.range (len * n)).map f,by simp [SA.den],(fun h=>by cases h),by omega,by simp,raw0 h1 fun j hj=>?_,fun z hz=>?_⟩
  ·have hj2:j < len * n:=by simpa using hj
   rw [(hf j hj2).1]; simp
  ·obtain ⟨j,hj,rfl⟩:=q9.1 hz
   exact (hf j (qcf.1 hj)).2
theorem zso:∀ (l:Nat) (zs:List Int),zs.length = l * 2 → (∀ z ∈ zs,i64 z) → ∃ L:List Stp,L.length = l ∧ ints2 L = zs ∧ ∀ y ∈ L,i64 y.1 ∧ i64 y.2
 |0,zs,h,_=>⟨[],rfl,(qad.1 (by omega)).symm,by simp⟩
 |l + 1,zs,h,hz=>by
  match zs,h with
  |[],h=>simp at h
  |[_],h=>simp only [qe,qp] at h; omega
  |a :: b :: r,h=>
   obtain ⟨L,h1,h2,h3⟩:=zso l r (by simp only [qe] at h; omega) (fun z hm=>hz z (by simp [hm]))
   refine ⟨(a,b) :: L,by simp [h1],by rw [← h2]; rfl,fun y hy=>?_⟩
   rcases qj.1 hy with rfl | hy
   ·exact ⟨hz a (by simp),hz b (by simp)⟩
   ·exact h3 y hy
theorem zkq:∀ (l:Nat) (zs:List Int),zs.length = l * 3 → (∀ z ∈ zs,i64 z) → ∃ L:List Q3,L.length = l ∧ ints3 L = zs ∧ ∀ y ∈ L,i64 y.1 ∧ i64 y.2.1 ∧ i64 y.2.2
 |0,zs,h,_=>⟨[],rfl,(qad.1 (by omega)).symm,by simp⟩
 |l + 1,zs,h,hz=>by
  match zs,h with
  |[],h=>simp at h
  |[_],h=>simp only [qe,qp] at h; omega
  |[_,_],h=>simp only [qe,qp] at h; omega
  |a :: b :: c :: r,h=>
   obtain ⟨L,h1,h2,h3⟩:=zkq l r (by simp only [qe] at h; omega) (fun z hm=>hz z (by simp [hm]))
   refine ⟨(a,b,c) :: L,by simp [h1],by rw [← h2]; rfl,fun y hy=>?_⟩
   rcases qj.1 hy with rfl | hy
   ·exact ⟨hz a (by simp),hz b (by simp),hz c (by simp)⟩
   ·exact h3 y hy
theorem zs3 (n1 n2 n3:Bool) (b1 o1 c1 b2 o2 c2 b3 o3 l3 c3 l x:Nat) (r0 r1:Int):(SV.agg (caseS n1 n2 n3 b1 o1 c1 b2 o2 c2 b3 o3 l3 c3 l x r0 r1)).below 1:=by
 intro a ha
 simp only [qj,qq,or_false] at ha
 rcases ha with rfl | rfl | rfl | rfl | rfl
 ·exact .inr yk
 ·exact .inr yk
 ·trivial
 ·trivial
 ·exact .inr yk
theorem z7e:Tryz.prog.cellsOf 27 = 5:=by kernel_rfl
theorem z5t:Tryz.prog.cellsOf 22 = 1:=by kernel_rfl
theorem z4l:Tryz.prog.cellsOf 23 = 1:=by kernel_rfl
theorem zpr:Tryz.prog.cellsOf 24 = 2:=by kernel_rfl
theorem z2x:Tryz.prog.cellsOf 25 = 1:=by kernel_rfl
theorem zup {W:World} {m:Int} {base:Nat} {v:Value} {d:DataW H} {ps:List MemPlace} (h1:Start W m) (hval:Value.okWide Tryz.prog W .any base 27 v) (h:DataW.Trod enc Tryz.prog W 0 (fun _=>true) true 27 v d ps) :
  ∃ (n1 n2 n3:Bool) (b1 o1 c1 b2 o2 c2 b3 o3 l3 c3:Nat) (L:List Stp) (X:List Q3) (r0 r1:Int) (zs:List Int),v = .agg ((caseS n1 n2 n3 b1 o1 c1 b2 o2 c2 b3 o3 l3 c3 L.length X.length r0 r1).map (SA.den (fun _ k=>k))).toArray ∧ CaseAt (fz0 W m) n1 n2 n3 b1 o1 b2 o2 b3 o3 l3 L X r0 r1 zs:=by
 obtain ⟨ca,rfl,hsz⟩:=okWide_struct Tryz.underlying27 hval
 rw [z7e] at hsz
 obtain ⟨fuel,h⟩:=h
 simp only [Value.okWide,Tryz.underlying27] at hval
 obtain ⟨ca',hca,_,ts,hts,_,hrow⟩:=hval
 obtain rfl:ca = ca':=by simpa using hca
 have hts2:Tryz.prog.cellTypes Tryz.prog.depth 27 = some [22,23,3,3,25]:=by kernel_rfl
 rw [hts2] at hts
 obtain rfl:[22,23,3,3,25] = ts:=by simpa using hts
 obtain ⟨cl⟩:=ca
 match cl,hsz with
 |[c0,c1,c2,c3,c4],_=>
  obtain ⟨xs,n,_,_,_,hlen,hf⟩:=DataW.trod_struct Tryz.underlying27 h
  match xs,hlen with
  |[y0,y1,y2,y3],_=>
   have t0:=hf 0 _ rfl
   have t1:=hf 1 _ rfl
   have t2:=hf 2 _ rfl
   have t3:=hf 3 _ rfl
   simp [z5t,z4l,zpr,z2x,Value.cells] at t0 t1 t2 t3
   obtain ⟨_,hz⟩:=zod Tryz.underlying24 t2 zpr
   obtain ⟨r0,e0,w0⟩:=hz 0 (by simp)
   obtain ⟨r1,e1,w1⟩:=hz 1 (by simp)
   obtain rfl:c2 = .int .i64 r0:=e0
   obtain rfl:c3 = .int .i64 r1:=e1
   obtain ⟨n1,b1,o1,l1,k1,z1,hA,a1,a2,a3,a4,a5⟩:=open_arr h1 Tryz.underlying22 Tryz.underlying24 zpr (by decide) t0 (by
    intro a len cap hc
    obtain rfl:c0 = .slice (some a) len cap:=by simpa using hc
    obtain ⟨u,hu,hok⟩:=hrow 0 _ rfl
    obtain rfl:22 = u:=by simpa using hu
    simp only [Tryz.underlying22,Cell.okWide,Cell.ok] at hok
    exact hok.2.2.2.1)
   obtain ⟨n2,b2,o2,l2,k2,z2,hB,d1,d2,d3,d4,d5⟩:=open_arr h1 Tryz.underlying23 Tryz.underlying177 (by kernel_rfl) (by decide) t1 (by
    intro a len cap hc
    obtain rfl:c1 = .slice (some a) len cap:=by simpa using hc
    obtain ⟨u,hu,hok⟩:=hrow 1 _ rfl
    obtain rfl:23 = u:=by simpa using hu
    simp only [Tryz.underlying23,Cell.okWide,Cell.ok] at hok
    exact hok.2.2.2.1)
   obtain ⟨n3,b3,o3,l3,k3,z3,hC,f1,f2,f3,f4,f5⟩:=open_arr h1 Tryz.underlying25 Tryz.underlying28 (by kernel_rfl) (by decide) t3 (by
    intro a len cap hc
    obtain rfl:c4 = .slice (some a) len cap:=by simpa using hc
    obtain ⟨u,hu,hok⟩:=hrow 4 _ rfl
    obtain rfl:25 = u:=by simpa using hu
    simp only [Tryz.underlying25,Cell.okWide,Cell.ok] at hok
    exact hok.2.2.2.1)
   obtain rfl:c0 = _:=by simpa using hA
   obtain rfl:c1 = _:=by simpa using hB
   obtain rfl:c4 = _:=by simpa using hC
   obtain ⟨L,rfl,rfl,g1⟩:=zso l1 z1 a3 a5
   obtain ⟨X,rfl,rfl,g2⟩:=zkq l2 z2 d3 d5
   have hx:maxLen = 9223372036854775807:=rfl
   exact ⟨n1,n2,n3,b1,o1,k1,b2,o2,k2,b3,o3,l3,k3,L,X,r0,r1,z3,rfl,⟨fun h=>qad.1 (a1 h),fun h=>qad.1 (d1 h),f1,a4,d4,f4,g1,g2,f5,⟨w0,w1⟩,by omega,by omega,by omega,f3⟩⟩
end
end Go.Proofs.YtfnkamphhpldcaaGreatDoor
