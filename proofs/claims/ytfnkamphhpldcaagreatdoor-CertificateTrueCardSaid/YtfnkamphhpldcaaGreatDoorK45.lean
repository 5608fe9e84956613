import Derived.Test.YtfnkamphhpldcaaGreatDoorK36
import Derived.Test.YtfnkamphhpldcaaGreatDoorK23
import Derived.Test.YtfnkamphhpldcaaGreatDoorCards
import Derived.Test.YtfnkamphhpldcaaGreatDoorTie
import Derived.WalkKit
import Derived.ProofKit
import Derived.OpenShut
import Derived.Deep.DeepHandedRow
import Derived.Lib.LaidTab
import Derived.Deep.Slices
import Derived.Laws.IdiomArrays
import Derived.Carry
import Derived.Lay
set_option maxHeartbeats 64000000
namespace Go.Proofs.YtfnkamphhpldcaaGreatDoor
open Go Go.RowKit Go.ChangeShapes Go.WideShapes Go.ChangeAt Sx
set_option maxRecDepth 100000
theorem cells3:Tryz.prog.cellsOf 3=1:=by kernel_rfl
theorem z5s:laidOutB Tryz.prog=true:=by kernel_rfl
theorem own:ownKnob Tryz.prog.godebug=none:=by kernel_rfl
def fz0(W:World)(m:Int):Fz:=fun k=>if k=4 then some (.cells 3 [.int .i64 m])else if k=0 then some (.arr 287 1 (konst.map encW) 64)else(W.heap[k]?).map SB.obj
abbrev konV:Array Value:=(konst.map fun(n:Nat)=>Value.int .u32 (n:Int)).toArray
structure Start(W:World)(m:Int):Prop where
 max:W.heap[4]? =some (.cells #[.int .i64 m] 3 (0,0))
 rnd:W.heap[0]? =some (.cells konV 287 (0,0))
theorem holds0{W:World}{m:Int}(h:Start W m):Holds (fz0 W m) W:=by
 intro b B c;unfold fz0 at c;split at c
 ·rename_i hb;subst hb;obtain rfl:SB.cells 3 [.int .i64 m]=B:=by simpa using c
  refine⟨fun a d=>?_,_,h.max,fun ρ _=>⟨(0,0),fun j _=>by simp,rfl⟩⟩;simp at d;subst d;trivial
 ·split at c
  ·rename_i hb;subst hb;obtain rfl:SB.arr 287 1 (konst.map encW) 64=B:=by simpa using c
   refine⟨fun x f a d=>?_,_,h.rnd,fun ρ _=>⟨fun x f=>?_,qi _,[],rfl,(0,0),fun j _=>by simp,?_⟩⟩
   ·obtain⟨n,_,rfl⟩:=jj.1 f;obtain rfl:a=wd n:=qz.1 d;trivial
   ·obtain⟨n,_,rfl⟩:=jj.1 f;rfl
   ·have e:((konst.map encW).flatten.map (SA.den ρ)++[])=konst.map fun(n:Nat)=>Value.int .u32 (n:Int):=rfl
    rw[e]
  ·obtain⟨o,g,rfl⟩:=qaw.1 c;exact⟨tv,o,g,fun _ _=>rfl⟩
theorem mlf0(W:World)(m:Int):MLF (fz0 W m):=⟨m,rfl⟩
theorem rnd0(W:World)(m:Int):RNDF (fz0 W m):=rfl
theorem z4m{w:World}{b i:Nat}{v:Value}(h:w.cell? ⟨b,i,none⟩=some v):∃a t c,w.heap[b]? =some (.cells a t c)/\a[i]? =some v:=by
 cases d:w.heap[b]? with
 |none=>simp[World.cell?,d]at h
 |some o=>
  cases o with
  |cells a t c=>exact⟨a,t,c,rfl,by simpa[World.cell?,d]using h⟩
  |_=>simp[World.cell?,d]at h
theorem raw0{W:World}{m:Int}(h1:Start W m){b a:Nat}{i:List Int}(h:∀j (d:j < i.length),W.cell? ⟨b,a+j,none⟩=some (.int .i64 i[j])):RawAt (fz0 W m) b a i:=by
 cases i with
 |nil=>exact .inl rfl
 |cons z r=>
  right;obtain⟨g,t,k,e,l⟩:=z4m (h 0 (by simp))
  have c:∀j (d:j < (z::r).length),g[a+j]? =some (.int .i64 (z::r)[j]):=fun j d=>by
   have:=h j d;simpa[World.cell?,e]using this
  by_cases hb:b=4
  ·subst hb;rw[h1.max]at e;obtain⟨rfl,rfl,rfl⟩:#[Value.int .i64 m]=g/\3=t/\(0,0)=k:=by simpa using e
   refine⟨_,rfl,fun j d=>?_⟩;have:=c j d;show[SA.int .i64 m][a+j]? =_
   have p:a+j=0:=by
    have:=(jp.1 this).1;simp at this;omega
   rw[p]at this ⊢;simpa using this
  ·by_cases f:b=0
   ·subst f;rw[h1.rnd]at e;obtain⟨rfl,_,_⟩:konV=g/\287=t/\(0,0)=k:=by simpa using e
    have o:(konst.map fun(n:Nat)=>Value.int .u32 (n:Int))[a+0]? =some (.int .i64 (z::r)[0]):=by simp at l
    rw[qt]at o;obtain⟨n,_,q⟩:=qaw.1 o;simp at q
   ·exact⟨.obj (.cells g t k),by simp[fz0,hb,f,e],fun j d=>c j d⟩
theorem znb{P:Program}{w:World}{n:String}{d:DataW Unit}:∀{l:List (String×DataW Unit)} {c:List MemPlace},DataW.LaidVars P w l c->(n,d)∈l->
  ∃g t b a p,P.globalNamed n=some g/\(P.globals[g]?).map (·.type)=some t/\w.var? P n=some b/\DataW.trod (fun _=>()) P w 0 (fun _=>true) false a t b.toList=some (d,p)
 |[],_,_,hm=>by cases hm
 |(n',d')::r,c,h,hm=>by
  obtain⟨g,t,b,a,p,q,h1,f,i,j,k,_⟩:=h;rcases qn.1 hm with e | e
  ·cases e
   exact⟨g,t,b,a,p,h1,f,i,j⟩
  ·exact znb k e
theorem z7s{W:World}{l:List (String×DataW Unit)}(o:W.ShapedOpen Tryz.prog)(c:laidMetH Tryz.prog l W)(hh:l.filter (fun x=>x.2.handleName?.isSome)=[])(D:("evergreen/digest.round",Lib.tabData .u32 (konst.map fun(n:Nat)=>(n:Int)))∈l):∃m,Start W m:=by
 unfold laidMetH at c;rw[hh]at c;obtain⟨O,G,_⟩:=c;obtain⟨g,t,w,j,p,h1,y,k,A⟩:=znb G D;obtain rfl:0=g:=Option.some.inj ((show Tryz.prog.globalNamed "evergreen/digest.round" =some 0 by kernel_rfl).symm.trans h1);obtain rfl:287=t:=Option.some.inj ((show(Tryz.prog.globals[0]?).map (·.type)=some 287 by kernel_rfl).symm.trans y);have b:=Lib.cells_of_tab Tryz.underlying287 Tryz.underlying231 (by kernel_rfl) (by kernel_rfl) A;obtain⟨a,I,J,K⟩:=o.1 4 #[.int .i64 0] 3 (od (by kernel_rfl)) (by kernel_rfl);obtain⟨i,s,L,M⟩:=o.1 0 (Array.replicate 64 (.int .u32 0)) 287 (od (by kernel_rfl)) (by kernel_rfl);obtain⟨ts,q,_,B⟩:=K (by kernel_rfl);have h:Tryz.prog.cellTypes Tryz.prog.depth 3=some [3]:=by kernel_rfl
 rw[h]at q;obtain rfl:[3]=ts:=by simpa using q
 have f:a.size=1:=J
 obtain⟨v,rfl⟩:∃v,a= #[v]:=by
  cases a with
  |mk l=>match l,f with
   |[v],_=>exact⟨v,rfl⟩
 obtain⟨u,E,d⟩:=B 0 v rfl;obtain rfl:3=u:=by simpa using E
 obtain⟨n,rfl⟩:∃n,v=.int .i64 n:=by
  simp only[Cell.ok,Tryz.underlying3]at d;cases v<;>simp_all
 refine⟨n,I,?_⟩;simp only[World.var?,h1,qda,s]at k;obtain rfl:i=w:=by simpa using k
 rw[s]
 have e:i=konV:=by
  apply Array.toList_inj.1;rw[b,yg];rfl
 rw[e]
theorem z8r{n:Int}(h:(Lit.int .i64 n).wf=true):i64 n:=by
 simp only[Lit.wf,qg,decide_eq_true_eq]at h;exact⟨h.1,h.2⟩
theorem z1c{H:Type}{enc:TypeId×Value->H}{f:Func}{s:ChangeSpec}{W i:World}{args:Array Value}{d:List (DataW H)}{a:List MemPlace}
  (g:s.vars=[])(k:f.resultTypes= #[4])(o:s.fn H (d++[])={ results:=[.lit (.bool true)],args:=d })
  (u:DataW.Whole enc Tryz.prog f.params.toList s.vars false W args.toList d [] a)
  (e:∀c:Nat->Bool,(∀p∈a,c p.block=true)->DataW.TrodAll enc Tryz.prog i 0 c true f.params.toList args.toList d a)
  (hb:Below W.heap.size W i):s.post enc Tryz.prog f false true false false W args (.bool true) i:=by
 have m:=u.lt;have j:∀p∈a,(fun b=>decide (b < W.heap.size)) p.block=true:=fun p x=>by simpa using m p x
 have q:∀c:Nat->Bool,DataW.TrodVars enc Tryz.prog i c s.vars (s.fn H (d++[])).vars []:=fun c=>by rw[g,o];rfl
 have n:∀(b:Nat) (c:Nat->Bool) (w:Bool),DataW.TrodAll enc Tryz.prog i b c w f.resultTypes.toList ((Value.bool true).resultList f.resultTypes.size) (s.fn H (d++[])).results []:=fun b c w=>by
  rw[k,o];exact trodAll_mk1 (shut_bool Tryz.underlying4 _)
 have l:∀c:Nat->Bool,(∀p∈a,c p.block=true)->DataW.TrodAll enc Tryz.prog i 0 c true f.params.toList args.toList (s.fn H (d++[])).args a:=fun c h=>by
  rw[o];exact e c h
 exact⟨d,[],a,[],a,[],u,n _ _ _,l _ j,q _,hb.frame _,fun h=>by cases h⟩
theorem z8z{H:Type}{enc:TypeId×Value->H}{W f:World}{j:Nat->Bool}(hb:Below W.heap.size W f):∀(ts:List TypeId) (vs:List Value) (e:List (DataW H)) (b:List MemPlace),(∀t∈ts,Tryz.prog.readableRec t=true/\t < Tryz.prog.types.size)->
  DataW.TrodAll enc Tryz.prog W 0 (fun _=>true) true ts vs e b->(∀p∈b,p.block < W.heap.size)->(∀p∈b,j p.block=true)->DataW.TrodAll enc Tryz.prog f 0 j true ts vs e b
 |[],vs,e,b,_,h,_,_=>by
  obtain⟨rfl,rfl,rfl⟩:=trodAll_nil h;rfl
 |t::ts,vs,e,b,ht,h,hlt,hsp=>by
  obtain⟨v,k,d,g,p,q,rfl,rfl,rfl,h1,m⟩:=trodAll_cons h;refine⟨p,q,?_,z8z hb ts k g q (fun t' l=>ht t' (yl _ l)) m (fun x a=>hlt x (qbs _ a)) (fun x a=>hsp x (qbs _ a)),rfl⟩;have n:∀x∈p,W.sameAt f x:=fun x a=>hb.same (hlt x (qbf _ a))
  have i:∀x∈p,j x.block=true:=fun x a=>hsp x (qbf _ a)
  have c:=ht t (qbm ..);exact WideElems.Trod_stays z5s c.1 c.2 h1 n i
section
variable {H:Type} {enc:TypeId×Value->H}
theorem zme{W:World}{t n a:Nat}{c:List Value}{x:DataW H×List MemPlace}(l:Tryz.prog.underlying t=some (.array n 3))(h:DataW.trod enc Tryz.prog W 0 (fun _=>true) true a t c=some x)(d:Tryz.prog.cellsOf t=n):
  c.length=n/\∀(i:Nat) (e:i < c.length),∃z,c[i]=.int .i64 z/\i64 z:=by
 cases a with
 |zero=>simp[DataW.trod]at h
 |succ a=>
  rw[DataW.trod_step]at h;unfold DataW.trodStep at h;simp only[l,d,cells3,qc5]at h;split at h
  ·rename_i j;obtain⟨p,k,o⟩:=qaw.1 h;refine⟨j,fun i e=>?_⟩;obtain⟨b,hb,g⟩:=Lib.mapM_at k i i (by rw[qdn (by omega)]);obtain⟨z,f,_,m⟩:=DataW.trod_int Tryz.underlying3 g;refine⟨z,?_,z8r m⟩;have:=congrArg (·[0]?) f;simpa[List.getElem?_take,qam,qa e]using this
  ·cases h
theorem open_arr{W:World}{m:Int}{t e n s:Nat}{B:List Value}{x:DataW H×List MemPlace}(h1:Start W m)(Y:Tryz.prog.underlying t=some (.slice e))(U:Tryz.prog.underlying e=some (.array n 3))(u:Tryz.prog.cellsOf e=n)(V:0 < n)
  (h:DataW.trod enc Tryz.prog W 0 (fun _=>true) true s t B=some x)(I:∀a d cap,B=[.slice (some a) d cap]->a.spot=none):
  ∃(S:Bool) (b o l c:Nat) (M:List Int),B=[SA.den (fun _ k=>k) (.slice S 0 b o 1 l c)]/\(S=true->l=0)/\l<=maxLen/\M.length=l*n/\RawAt (fz0 W m) b o M/\∀z∈M,i64 z:=by
 rcases Deep.open_slice Y h with⟨rfl,-⟩ | ⟨a,d,cap,m',n',D,Pl,rfl,_,hl,hm,y,_,T⟩
 ·exact⟨true,0,0,0,0,[],rfl,fun _=>rfl,yh _,by simp,.inl rfl,by simp⟩
 ·obtain⟨b,i,A⟩:=a;obtain rfl:A=none:=I _ _ _ rfl;have y:m'=cap:=y
  have q:∀j,j < d*n->∃z,W.cell? ⟨b,i+j,none⟩=some (.int .i64 z)/\i64 z:=fun j w=>by
   have hi:j / n < d:=qbz (by rw[qab];exact w);have X:j % n < n:=qa1 _ V;obtain⟨E,R,Z⟩:=T (j / n) (by omega);rw[u]at R;obtain⟨_,Q,p⟩:=World.cells?_some R;obtain⟨_,J⟩:=zme U Z u;obtain⟨z,K,L⟩:=J (j % n) (by omega);refine⟨z,?_,L⟩;have g:=p (j % n) X;simp only[add_plain]at g;rw[qa (show j % n < E.length by omega),K]at g;rw[<-g]
   have:i+j=i+j / n*n+j % n:=by
    have:=qdi j n;rw[qab]at this;omega
   rw[this]
  obtain⟨f,O⟩:=Deep.choose_lt (α:=Int) q;refine⟨false,b,i,d,cap,(List.range (d*n)).map f,by simp[SA.den],(fun h=>by cases h),by omega,by simp,raw0 h1 fun j w=>?_,fun z J=>?_⟩
  ·have G:j < d*n:=by simpa using w
   rw[(O j G).1];simp
  ·obtain⟨j,w,rfl⟩:=jj.1 J;exact(O j (qcy.1 w)).2
theorem zvg:∀(l:Nat) (c:List Int),c.length=l*2->(∀z∈c,i64 z)->∃L:List Stp,L.length=l/\ints2 L=c/\∀y∈L,i64 y.1/\i64 y.2
 |0,c,h,_=>⟨[],rfl,(qao.1 (by omega)).symm,by simp⟩
 |l+1,c,h,hz=>by
  match c,h with
  |[],h=>simp at h
  |[_],h=>simp only[qj,qu]at h;omega
  |a::b::r,h=>
   obtain⟨L,h1,d,e⟩:=zvg l r (by simp only[qj]at h;omega) (fun z f=>hz z (by simp[f]));refine⟨(a,b)::L,by simp[h1],by rw[<-d];rfl,fun y hy=>?_⟩;rcases qn.1 hy with rfl | hy
   ·exact⟨hz a (by simp),hz b (by simp)⟩
   ·exact e y hy
theorem znv:∀(l:Nat) (d:List Int),d.length=l*3->(∀z∈d,i64 z)->∃L:List Q3,L.length=l/\ints3 L=d/\∀y∈L,i64 y.1/\i64 y.2.1/\i64 y.2.2
 |0,d,h,_=>⟨[],rfl,(qao.1 (by omega)).symm,by simp⟩
 |l+1,d,h,hz=>by
  match d,h with
  |[],h=>simp at h
  |[_],h=>simp only[qj,qu]at h;omega
  |[_,_],h=>simp only[qj,qu]at h;omega
  |a::b::c::r,h=>
   obtain⟨L,h1,e,f⟩:=znv l r (by simp only[qj]at h;omega) (fun z g=>hz z (by simp[g]));refine⟨(a,b,c)::L,by simp[h1],by rw[<-e];rfl,fun y hy=>?_⟩;rcases qn.1 hy with rfl | hy
   ·exact⟨hz a (by simp),hz b (by simp),hz c (by simp)⟩
   ·exact f y hy
theorem zmr(j k m:Bool)(c n f d o g e p i h l x:Nat)(q s:Int):(SV.agg (caseS j k m c n f d o g e p i h l x q s)).below 1:=by
 intro a b;simp only[qn,qy,or_false]at b;rcases b with rfl | rfl | rfl | rfl | rfl
 ·exact .inr yt
 ·exact .inr yt
 ·trivial
 ·trivial
 ·exact .inr yt
theorem yb7:Tryz.prog.cellsOf 27=5:=by kernel_rfl
theorem z9l:Tryz.prog.cellsOf 22=1:=by kernel_rfl
theorem z9m:Tryz.prog.cellsOf 23=1:=by kernel_rfl
theorem zsi:Tryz.prog.cellsOf 24=2:=by kernel_rfl
theorem z9n:Tryz.prog.cellsOf 25=1:=by kernel_rfl
theorem zq8{W:World}{m:Int}{base:Nat}{v:Value}{d:DataW H}{ps:List MemPlace}(h1:Start W m)(e:Value.okWide Tryz.prog W .any base 27 v)(h:DataW.Trod enc Tryz.prog W 0 (fun _=>true) true 27 v d ps):
  ∃(E G I:Bool) (w J A x K O y M D Q:Nat) (L:List Stp) (X:List Q3) (q s:Int) (zs:List Int),v=.agg ((caseS E G I w J A x K O y M D Q L.length X.length q s).map (SA.den (fun _ k=>k))).toArray/\CaseAt (fz0 W m) E G I w J x K y M D L X q s zs:=by
 obtain⟨T,rfl,j⟩:=okWide_struct Tryz.underlying27 e;rw[yb7]at j;obtain⟨U,h⟩:=h;simp only[Value.okWide,Tryz.underlying27]at e;obtain⟨R,S,_,ts,l,_,c⟩:=e;obtain rfl:T=R:=by simpa using S
 have o:Tryz.prog.cellTypes Tryz.prog.depth 27=some [22,23,3,3,25]:=by kernel_rfl
 rw[o]at l;obtain rfl:[22,23,3,3,25]=ts:=by simpa using l
 obtain⟨cl⟩:=T
 match cl,j with
 |[c0,A,O,Q,c4],_=>
  obtain⟨xs,n,_,_,_,i,B⟩:=DataW.trod_struct Tryz.underlying27 h
  match xs,i with
  |[y0,y1,y2,y3],_=>
   have t0:=B 0 _ rfl;have t1:=B 1 _ rfl;have t2:=B 2 _ rfl;have t3:=B 3 _ rfl;simp[z9l,z9m,zsi,z9n,Value.cells]at t0 t1 t2 t3;obtain⟨_,V⟩:=zme Tryz.underlying24 t2 zsi;obtain⟨q,e0,w0⟩:=V 0 (by simp);obtain⟨s,e1,w1⟩:=V 1 (by simp);obtain rfl:O=.int .i64 q:=e0;obtain rfl:Q=.int .i64 s:=e1
   obtain⟨E,w,J,l1,k1,z1,hA,Y,a2,Z,a4,a5⟩:=open_arr h1 Tryz.underlying22 Tryz.underlying24 zsi (by decide) t0 (by
    intro a f cap g;obtain rfl:c0=.slice (some a) f cap:=by simpa using g
    obtain⟨u,p,b⟩:=c 0 _ rfl;obtain rfl:22=u:=by simpa using p
    simp only[Tryz.underlying22,Cell.okWide,Cell.ok]at b;exact b.2.2.2.1)
   obtain⟨G,x,K,l2,k2,z2,hB,d1,d2,d3,d4,d5⟩:=open_arr h1 Tryz.underlying23 Tryz.underlying177 (by kernel_rfl) (by decide) t1 (by
    intro a f cap g;obtain rfl:A=.slice (some a) f cap:=by simpa using g
    obtain⟨u,p,b⟩:=c 1 _ rfl;obtain rfl:23=u:=by simpa using p
    simp only[Tryz.underlying23,Cell.okWide,Cell.ok]at b;exact b.2.2.2.1)
   obtain⟨I,y,M,D,k3,z3,hC,f1,f2,f3,f4,f5⟩:=open_arr h1 Tryz.underlying25 Tryz.underlying28 (by kernel_rfl) (by decide) t3 (by
    intro a f cap g;obtain rfl:c4=.slice (some a) f cap:=by simpa using g
    obtain⟨u,p,b⟩:=c 4 _ rfl;obtain rfl:25=u:=by simpa using p
    simp only[Tryz.underlying25,Cell.okWide,Cell.ok]at b;exact b.2.2.2.1)
   obtain rfl:c0=_:=by simpa using hA
   obtain rfl:A=_:=by simpa using hB
   obtain rfl:c4=_:=by simpa using hC
   obtain⟨L,rfl,rfl,g1⟩:=zvg l1 z1 Z a5;obtain⟨X,rfl,rfl,g2⟩:=znv l2 z2 d3 d5;have hx:maxLen=9223372036854775807:=rfl;exact⟨E,G,I,w,J,k1,x,K,k2,y,M,D,k3,L,X,q,s,z3,rfl,⟨fun h=>qao.1 (Y h),fun h=>qao.1 (d1 h),f1,a4,d4,f4,g1,g2,f5,⟨w0,w1⟩,by omega,by omega,by omega,f3⟩⟩
end
theorem z9o:Tryz.prog.cellsOf 28=5:=by kernel_rfl
section
variable {H:Type} {enc:TypeId×Value->H}
theorem z06{W:World}{base:Nat}{v:Value}{d:DataW H}{x:List MemPlace}(a:Value.okWide Tryz.prog W .any base 28 v)(h:DataW.Trod enc Tryz.prog W 0 (fun _=>true) true 28 v d x):
  ∃c e f g i:Int,v=.agg ([SA.int .i64 c,.int .i64 e,.int .i64 f,.int .i64 g,.int .i64 i].map (SA.den (fun _ k=>k))).toArray/\(i64 c/\i64 e/\i64 f/\i64 g/\i64 i):=by
 obtain⟨l,h⟩:=h;simp only[Value.okWide,Tryz.underlying28]at a;obtain⟨m,rfl,j⟩:=a;obtain⟨w,b⟩:=zme Tryz.underlying28 h z9o;obtain⟨n⟩:=m
 match n,w with
 |[c0,c1,c2,c3,c4],_=>
  obtain⟨c,o,y⟩:=b 0 (by simp[Value.cells]);obtain⟨e,p,A⟩:=b 1 (by simp[Value.cells]);obtain⟨f,q,B⟩:=b 2 (by simp[Value.cells]);obtain⟨g,s,D⟩:=b 3 (by simp[Value.cells]);obtain⟨i,u,E⟩:=b 4 (by simp[Value.cells]);obtain rfl:c0=.int .i64 c:=o;obtain rfl:c1=.int .i64 e:=p;obtain rfl:c2=.int .i64 f:=q;obtain rfl:c3=.int .i64 g:=s;obtain rfl:c4=.int .i64 i:=u;exact⟨c,e,f,g,i,rfl,y,A,B,D,E⟩
theorem zwi(c d e f g:Int):(SV.agg [.int .i64 c,.int .i64 d,.int .i64 e,.int .i64 f,.int .i64 g]).below 1:=by
 intro a b;simp only[qn,qy,or_false]at b;rcases b with rfl | rfl | rfl | rfl | rfl<;>trivial
end
