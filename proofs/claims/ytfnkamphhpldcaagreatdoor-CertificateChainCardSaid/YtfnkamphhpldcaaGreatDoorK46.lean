import Derived.Test.YtfnkamphhpldcaaGreatDoorK36
import Derived.Test.YtfnkamphhpldcaaGreatDoorK23
import Derived.Test.YtfnkamphhpldcaaGreatDoorCards
import Derived.Test.YtfnkamphhpldcaaGreatDoorTie
import Derived.WalkKit
import Derived.ProofKit
import Derived.OpenShut
import Derived.Deep.DeepHandedRow
import Derived.Lib.LaidTab
import Derived.Deep.Slices
import Derived.Laws.IdiomArrays
import Derived.Carry
import Derived.Lay
set_option maxHeartbeats 64000000
namespace Go.Proofs.YtfnkamphhpldcaaGreatDoor
open Go Go.RowKit Go.ChangeShapes Go.WideShapes Go.ChangeAt Sx
set_option maxRecDepth 100000
theorem cells3:Tryz.prog.cellsOf 3=1:=by kernel_rfl
theorem Co:laidOutB Tryz.prog=true:=by kernel_rfl
theorem own:ownKnob Tryz.prog.godebug=none:=by kernel_rfl
def fz0(W:World)(m:Int):Fz:=fun k=>if k=4 then some (.cells 3 [.int .i64 m])else if k=0 then some (.arr 287 1 (konst.map encW) 64)else(W.heap[k]?).map SB.obj
abbrev konV:Array Value:=(konst.map fun(n:Nat)=>Value.int .u32 (n:Int)).toArray
structure Start(W:World)(m:Int):Prop where
 max:W.heap[4]? =some (.cells #[.int .i64 m] 3 (0,0))
 rnd:W.heap[0]? =some (.cells konV 287 (0,0))
variable {W:World}
theorem holds0{m:Int}(h:Start W m):Holds (fz0 W m) W:=by
 intro b B c;unfold fz0 at c;split at c
 ·rename_i hb;subst hb;obtain rfl:SB.cells 3 [.int .i64 m]=B:=by simpa using c
  refine⟨fun a d=>?_,_,h.max,fun ρ _=>⟨(0,0),fun j _=>by simp,rfl⟩⟩;simp at d;subst d;trivial
 ·split at c
  ·rename_i hb;subst hb;obtain rfl:SB.arr 287 1 (konst.map encW) 64=B:=by simpa using c
   refine⟨fun x f a d=>?_,_,h.rnd,fun ρ _=>⟨fun x f=>?_,qj _,[],rfl,(0,0),fun j _=>by simp,?_⟩⟩
   ·obtain⟨n,_,rfl⟩:=jk.1 f;obtain rfl:a=wd n:=qs.1 d;trivial
   ·obtain⟨n,_,rfl⟩:=jk.1 f;rfl
   ·have e:((konst.map encW).flatten.map (SA.den ρ)++[])=konst.map fun(n:Nat)=>Value.int .u32 (n:Int):=rfl
    rw[e]
  ·obtain⟨o,g,rfl⟩:=qav.1 c;exact⟨tv,o,g,fun _ _=>rfl⟩
theorem mlf0(W:World)(m:Int):MLF (fz0 W m):=⟨m,rfl⟩
theorem rnd0(W:World)(m:Int):RNDF (fz0 W m):=rfl
theorem Bz{w:World}{b i:Nat}{v:Value}(h:w.cell? ⟨b,i,none⟩=some v):∃a t c,w.heap[b]? =some (.cells a t c)/\a[i]? =some v:=by
 cases d:w.heap[b]? with
 |none=>simp[World.cell?,d]at h
 |some o=>
  cases o with
  |cells a t c=>exact⟨a,t,c,rfl,by simpa[World.cell?,d]using h⟩
  |_=>simp[World.cell?,d]at h
theorem raw0{m:Int}(h1:Start W m){b a:Nat}{zs:List Int}(h:∀j (d:j < zs.length),W.cell? ⟨b,a+j,none⟩=some (.int .i64 zs[j])):RawAt (fz0 W m) b a zs:=by
 cases zs with
 |nil=>exact .inl rfl
 |cons z r=>
  right;obtain⟨g,t,i,e,k⟩:=Bz (h 0 ss)
  have c:∀j (d:j < (z::r).length),g[a+j]? =some (.int .i64 (z::r)[j]):=fun j d=>by
   have:=h j d;simpa[World.cell?,e]using this
  by_cases hb:b=4
  ·subst hb;rw[h1.max]at e;obtain⟨rfl,rfl,rfl⟩:#[Value.int .i64 m]=g/\3=t/\(0,0)=i:=by simpa using e
   refine⟨_,rfl,fun j d=>?_⟩;have:=c j d;show[SA.int .i64 m][a+j]? =_
   have o:a+j=0:=by
    have:=(jp.1 this).1;simp at this;omega
   rw[o]at this ⊢;simpa using this
  ·by_cases f:b=0
   ·subst f;rw[h1.rnd]at e;obtain⟨rfl,_,_⟩:konV=g/\287=t/\(0,0)=i:=by simpa using e
    have l:(konst.map fun(n:Nat)=>Value.int .u32 (n:Int))[a+0]? =some (.int .i64 (z::r)[0]):=by simp at k
    rw[qu]at l;obtain⟨n,_,p⟩:=qav.1 l;simp at p
   ·exact⟨.obj (.cells g t i),by simp[fz0,hb,f,e],fun j d=>c j d⟩
theorem tW{P:Program}{w:World}{n:String}{d:DataW Unit}:∀{l:List (String×DataW Unit)} {c:List MemPlace},DataW.LaidVars P w l c->(n,d)∈l->
  ∃g t b a p,P.globalNamed n=some g/\(P.globals[g]?).map (·.type)=some t/\w.var? P n=some b/\DataW.trod (fun _=>()) P w 0 (fun _=>true) false a t b.toList=some (d,p)
 |[],_,_,hm=>by cases hm
 |(n',d')::r,c,h,hm=>by
  obtain⟨g,t,b,a,p,q,h1,f,i,j,k,_⟩:=h;rcases qi.1 hm with e | e
  ·cases e
   exact⟨g,t,b,a,p,h1,f,i,j⟩
  ·exact tW k e
theorem ya3{l:List (String×DataW Unit)}(o:W.ShapedOpen Tryz.prog)(c:laidMetH Tryz.prog l W)(hh:l.filter (fun x=>x.2.handleName?.isSome)=[])(D:("evergreen/digest.round",Lib.tabData .u32 (konst.map fun(n:Nat)=>(n:Int)))∈l):∃m,Start W m:=by
 unfold laidMetH at c;rw[hh]at c;obtain⟨O,G,_⟩:=c;obtain⟨g,t,w,j,p,h1,y,k,A⟩:=tW G D;obtain rfl:0=g:=Option.some.inj ((show Tryz.prog.globalNamed "evergreen/digest.round" =some 0 by kernel_rfl).symm.trans h1);obtain rfl:287=t:=Option.some.inj ((show(Tryz.prog.globals[0]?).map (·.type)=some 287 by kernel_rfl).symm.trans y);have b:=Lib.cells_of_tab Tryz.underlying287 Tryz.underlying231 (by kernel_rfl) (by kernel_rfl) A;obtain⟨a,I,J,K⟩:=o.1 4 #[.int .i64 0] 3 (od (by kernel_rfl)) (by kernel_rfl);obtain⟨i,s,L,M⟩:=o.1 0 (Array.replicate 64 (.int .u32 0)) 287 (od (by kernel_rfl)) (by kernel_rfl);obtain⟨ts,q,_,B⟩:=K (by kernel_rfl);have h:Tryz.prog.cellTypes Tryz.prog.depth 3=some [3]:=by kernel_rfl
 rw[h]at q;obtain rfl:[3]=ts:=by simpa using q
 have f:a.size=1:=J
 obtain⟨v,rfl⟩:∃v,a= #[v]:=by
  cases a with
  |mk l=>match l,f with
   |[v],_=>exact⟨v,rfl⟩
 obtain⟨u,E,d⟩:=B 0 v rfl;obtain rfl:3=u:=by simpa using E
 obtain⟨n,rfl⟩:∃n,v=.int .i64 n:=by
  simp only[Cell.ok,Tryz.underlying3]at d;cases v<;>simp_all
 refine⟨n,I,?_⟩;simp only[World.var?,h1,qdi,s]at k;obtain rfl:i=w:=by simpa using k
 rw[s]
 have e:i=konV:=by
  apply qdf.1;rw[b,q8];rfl
 rw[e]
theorem yf8{n:Int}(h:(Lit.int .i64 n).wf=true):i64 n:=by
 simp only[Lit.wf,qd,decide_eq_true_eq]at h;exact⟨h.1,h.2⟩
theorem AB{H:Type}{enc:TypeId×Value->H}{f:Func}{s:ChangeSpec}{i:World}{args:Array Value}{d:List (DataW H)}{a:List MemPlace}
  (g:s.vars=[])(k:f.resultTypes= #[4])(o:s.fn H (d++[])={ results:=[.lit (.bool true)],args:=d })
  (u:DataW.Whole enc Tryz.prog f.params.toList s.vars false W args.toList d [] a)
  (e:∀c:Nat->Bool,(∀p∈a,c p.block=true)->DataW.TrodAll enc Tryz.prog i 0 c true f.params.toList args.toList d a)
  (hb:Below W.heap.size W i):s.post enc Tryz.prog f false true false false W args (.bool true) i:=by
 have m:=u.lt;have j:∀p∈a,(fun b=>decide (b < W.heap.size)) p.block=true:=fun p x=>by simpa using m p x
 have q:∀c:Nat->Bool,DataW.TrodVars enc Tryz.prog i c s.vars (s.fn H (d++[])).vars []:=fun c=>by rw[g,o];rfl
 have n:∀(b:Nat) (c:Nat->Bool) (w:Bool),DataW.TrodAll enc Tryz.prog i b c w f.resultTypes.toList ((Value.bool true).resultList f.resultTypes.size) (s.fn H (d++[])).results []:=fun b c w=>by
  rw[k,o];exact trodAll_mk1 (shut_bool Tryz.underlying4 _)
 have l:∀c:Nat->Bool,(∀p∈a,c p.block=true)->DataW.TrodAll enc Tryz.prog i 0 c true f.params.toList args.toList (s.fn H (d++[])).args a:=fun c h=>by
  rw[o];exact e c h
 exact⟨d,[],a,[],a,[],u,n _ _ _,l _ j,q _,hb.frame _,fun h=>by cases h⟩
theorem yca{H:Type}{enc:TypeId×Value->H}{W f:World}{j:Nat->Bool}(hb:Below W.heap.size W f):∀(ts:List TypeId) (vs:List Value) (e:List (DataW H)) (b:List MemPlace),(∀t∈ts,Tryz.prog.readableRec t=true/\t < Tryz.prog.types.size)->
  DataW.TrodAll enc Tryz.prog W 0 (fun _=>true) true ts vs e b->(∀p∈b,p.block < W.heap.size)->(∀p∈b,j p.block=true)->DataW.TrodAll enc Tryz.prog f 0 j true ts vs e b
 |[],vs,e,b,_,h,_,_=>by
  obtain⟨rfl,rfl,rfl⟩:=trodAll_nil h;rfl
 |t::ts,vs,e,b,ht,h,hlt,hsp=>by
  obtain⟨v,k,d,g,p,q,rfl,rfl,rfl,h1,m⟩:=trodAll_cons h;refine⟨p,q,?_,yca hb ts k g q (fun t' l=>ht t' (yj _ l)) m (fun x a=>hlt x (qbt _ a)) (fun x a=>hsp x (qbt _ a)),rfl⟩;have n:∀x∈p,W.sameAt f x:=fun x a=>hb.same (hlt x (qa3 _ a))
  have i:∀x∈p,j x.block=true:=fun x a=>hsp x (qa3 _ a)
  have c:=ht t (qbn ..);exact WideElems.Trod_stays Co c.1 c.2 h1 n i
section
variable {H:Type} {enc:TypeId×Value->H}
theorem wy{W:World}{t n a:Nat}{c:List Value}{x:DataW H×List MemPlace}(l:Tryz.prog.underlying t=some (.array n 3))(h:DataW.trod enc Tryz.prog W 0 (fun _=>true) true a t c=some x)(d:Tryz.prog.cellsOf t=n):
  c.length=n/\∀(i:Nat) (e:i < c.length),∃z,c[i]=.int .i64 z/\i64 z:=by
 cases a with
 |zero=>simp[DataW.trod]at h
 |succ a=>
  rw[DataW.trod_step]at h;unfold DataW.trodStep at h;simp only[l,d,cells3,qda]at h;split at h
  ·rename_i j;obtain⟨p,k,o⟩:=qav.1 h;refine⟨j,fun i e=>?_⟩;obtain⟨b,hb,g⟩:=Lib.mapM_at k i i (by rw[qd3 oo]);obtain⟨z,f,_,m⟩:=DataW.trod_int Tryz.underlying3 g;refine⟨z,?_,yf8 m⟩;have:=congrArg (·[0]?) f;simpa[List.getElem?_take,qab,qc e]using this
  ·cases h
theorem open_arr{W:World}{m:Int}{t e n s:Nat}{B:List Value}{x:DataW H×List MemPlace}(h1:Start W m)(X:Tryz.prog.underlying t=some (.slice e))(T:Tryz.prog.underlying e=some (.array n 3))(u:Tryz.prog.cellsOf e=n)(U:0 < n)
  (h:DataW.trod enc Tryz.prog W 0 (fun _=>true) true s t B=some x)(I:∀a d cap,B=[.slice (some a) d cap]->a.spot=none):
  ∃(R:Bool) (b o l c:Nat) (zs:List Int),B=[SA.den (fun _ k=>k) (.slice R 0 b o 1 l c)]/\(R=true->l=0)/\l<=maxLen/\zs.length=l*n/\RawAt (fz0 W m) b o zs/\∀z∈zs,i64 z:=by
 rcases Deep.open_slice X h with⟨rfl,-⟩ | ⟨a,d,cap,Z,n',D,Pl,rfl,_,hl,hm,y,_,S⟩
 ·exact⟨true,0,0,0,0,[],rfl,fun _=>rfl,js _,by simp,.inl rfl,by simp⟩
 ·obtain⟨b,i,A⟩:=a;obtain rfl:A=none:=I _ _ _ rfl;have y:Z=cap:=y
  have q:∀j,j < d*n->∃z,W.cell? ⟨b,i+j,none⟩=some (.int .i64 z)/\i64 z:=fun j w=>by
   have hi:j / n < d:=qb2 (by rw[qae];exact w);have V:j % n < n:=qa1 _ U;obtain⟨E,Q,Y⟩:=S (j / n) oo;rw[u]at Q;obtain⟨_,O,p⟩:=World.cells?_some Q;obtain⟨_,J⟩:=wy T Y u;obtain⟨z,K,L⟩:=J (j % n) oo;refine⟨z,?_,L⟩;have g:=p (j % n) V;simp only[add_plain]at g;rw[qc (show j % n < E.length by omega),K]at g;rw[<-g]
   have:i+j=i+j / n*n+j % n:=by
    have:=qdu j n;rw[qae]at this;omega
   rw[this]
  obtain⟨f,M⟩:=Deep.choose_lt (α:=Int) q;refine⟨false,b,i,d,cap,(List.range (d*n)).map f,by simp[SA.den],(fun h=>by cases h),by omega,by simp,raw0 h1 fun j w=>?_,fun z J=>?_⟩
  ·have G:j < d*n:=by simpa using w
   rw[(M j G).1];simp
  ·obtain⟨j,w,rfl⟩:=jk.1 J;exact(M j (qc2.1 w)).2
theorem xS:∀(l:Nat) (zs:List Int),zs.length=l*2->(∀z∈zs,i64 z)->∃L:List Stp,L.length=l/\ints2 L=zs/\∀y∈L,i64 y.1/\i64 y.2
 |0,zs,h,_=>⟨[],rfl,(y8.1 oo).symm,by simp⟩
 |l+1,zs,h,hz=>by
  match zs,h with
  |[],h=>simp at h
  |[_],h=>simp only[qf,qv]at h;omega
  |a::b::r,h=>
   obtain⟨L,h1,c,d⟩:=xS l r (by simp only[qf]at h;omega) (fun z e=>hz z (by simp[e]));refine⟨(a,b)::L,by simp[h1],by rw[<-c];rfl,fun y hy=>?_⟩;rcases qi.1 hy with rfl | hy
   ·exact⟨hz a ss,hz b ss⟩
   ·exact d y hy
theorem uT:∀(l:Nat) (zs:List Int),zs.length=l*3->(∀z∈zs,i64 z)->∃L:List Q3,L.length=l/\ints3 L=zs/\∀y∈L,i64 y.1/\i64 y.2.1/\i64 y.2.2
 |0,zs,h,_=>⟨[],rfl,(y8.1 oo).symm,by simp⟩
 |l+1,zs,h,hz=>by
  match zs,h with
  |[],h=>simp at h
  |[_],h=>simp only[qf,qv]at h;omega
  |[_,_],h=>simp only[qf,qv]at h;omega
  |a::b::c::r,h=>
   obtain⟨L,h1,d,e⟩:=uT l r (by simp only[qf]at h;omega) (fun z f=>hz z (by simp[f]));refine⟨(a,b,c)::L,by simp[h1],by rw[<-d];rfl,fun y hy=>?_⟩;rcases qi.1 hy with rfl | hy
   ·exact⟨hz a ss,hz b ss,hz c ss⟩
   ·exact e y hy
theorem Ec(j k m:Bool)(c n f d o g e p i h l x:Nat)(q s:Int):(SV.agg (caseS j k m c n f d o g e p i h l x q s)).below 1:=by
 intro a b;simp only[qi,qp,or_false]at b;rcases b with rfl | rfl | rfl | rfl | rfl
 ·exact .inr ym
 ·exact .inr ym
 ·trivial
 ·trivial
 ·exact .inr ym
theorem yfl:Tryz.prog.cellsOf 27=5:=by kernel_rfl
theorem yco:Tryz.prog.cellsOf 22=1:=by kernel_rfl
theorem ycp:Tryz.prog.cellsOf 23=1:=by kernel_rfl
theorem pV:Tryz.prog.cellsOf 24=2:=by kernel_rfl
theorem ycq:Tryz.prog.cellsOf 25=1:=by kernel_rfl
theorem Aw{W:World}{m:Int}{base:Nat}{v:Value}{d:DataW H}{ps:List MemPlace}(h1:Start W m)(e:Value.okWide Tryz.prog W .any base 27 v)(h:DataW.Trod enc Tryz.prog W 0 (fun _=>true) true 27 v d ps):
  ∃(E G I:Bool) (w J A x K O y M D Q:Nat) (L:List Stp) (X:List Q3) (q s:Int) (zs:List Int),v=.agg ((caseS E G I w J A x K O y M D Q L.length X.length q s).map (SA.den (fun _ k=>k))).toArray/\CaseAt (fz0 W m) E G I w J x K y M D L X q s zs:=by
 obtain⟨T,rfl,j⟩:=okWide_struct Tryz.underlying27 e;rw[yfl]at j;obtain⟨U,h⟩:=h;simp only[Value.okWide,Tryz.underlying27]at e;obtain⟨R,S,_,ts,l,_,c⟩:=e;obtain rfl:T=R:=by simpa using S
 have o:Tryz.prog.cellTypes Tryz.prog.depth 27=some [22,23,3,3,25]:=by kernel_rfl
 rw[o]at l;obtain rfl:[22,23,3,3,25]=ts:=by simpa using l
 obtain⟨cl⟩:=T
 match cl,j with
 |[c0,A,O,Q,c4],_=>
  obtain⟨xs,n,_,_,_,i,B⟩:=DataW.trod_struct Tryz.underlying27 h
  match xs,i with
  |[y0,y1,y2,y3],_=>
   have t0:=B 0 _ rfl;have t1:=B 1 _ rfl;have t2:=B 2 _ rfl;have t3:=B 3 _ rfl;simp[yco,ycp,pV,ycq,Value.cells]at t0 t1 t2 t3;obtain⟨_,V⟩:=wy Tryz.underlying24 t2 pV;obtain⟨q,e0,w0⟩:=V 0 ss;obtain⟨s,e1,w1⟩:=V 1 ss;obtain rfl:O=.int .i64 q:=e0;obtain rfl:Q=.int .i64 s:=e1
   obtain⟨E,w,J,l1,k1,z1,hA,Y,a2,Z,a4,a5⟩:=open_arr h1 Tryz.underlying22 Tryz.underlying24 pV dd t0 (by
    intro a f cap g;obtain rfl:c0=.slice (some a) f cap:=by simpa using g
    obtain⟨u,p,b⟩:=c 0 _ rfl;obtain rfl:22=u:=by simpa using p
    simp only[Tryz.underlying22,Cell.okWide,Cell.ok]at b;exact b.2.2.2.1)
   obtain⟨G,x,K,l2,k2,z2,hB,d1,d2,d3,d4,d5⟩:=open_arr h1 Tryz.underlying23 Tryz.underlying177 (by kernel_rfl) dd t1 (by
    intro a f cap g;obtain rfl:A=.slice (some a) f cap:=by simpa using g
    obtain⟨u,p,b⟩:=c 1 _ rfl;obtain rfl:23=u:=by simpa using p
    simp only[Tryz.underlying23,Cell.okWide,Cell.ok]at b;exact b.2.2.2.1)
   obtain⟨I,y,M,D,k3,z3,hC,f1,f2,f3,f4,f5⟩:=open_arr h1 Tryz.underlying25 Tryz.underlying28 (by kernel_rfl) dd t3 (by
    intro a f cap g;obtain rfl:c4=.slice (some a) f cap:=by simpa using g
    obtain⟨u,p,b⟩:=c 4 _ rfl;obtain rfl:25=u:=by simpa using p
    simp only[Tryz.underlying25,Cell.okWide,Cell.ok]at b;exact b.2.2.2.1)
   obtain rfl:c0=_:=by simpa using hA
   obtain rfl:A=_:=by simpa using hB
   obtain rfl:c4=_:=by simpa using hC
   obtain⟨L,rfl,rfl,g1⟩:=xS l1 z1 Z a5;obtain⟨X,rfl,rfl,g2⟩:=uT l2 z2 d3 d5;have hx:maxLen=9223372036854775807:=rfl;exact⟨E,G,I,w,J,k1,x,K,k2,y,M,D,k3,L,X,q,s,z3,rfl,⟨fun h=>y8.1 (Y h),fun h=>y8.1 (d1 h),f1,a4,d4,f4,g1,g2,f5,⟨w0,w1⟩,by omega,by omega,by omega,f3⟩⟩
end
