import Derived.Test.YtfnkamphhpldcaaGreatDoorK39
import Derived.Test.YtfnkamphhpldcaaGreatDoorK23
import Derived.Test.YtfnkamphhpldcaaGreatDoorCards
import Derived.Test.YtfnkamphhpldcaaGreatDoorTie
import Derived.WalkKit
import Derived.ProofKit
import Derived.OpenShut
import Derived.Deep.DeepHandedRow
import Derived.Lib.LaidTab
import Derived.Deep.Slices
import Derived.Laws.IdiomArrays
import Derived.Carry
import Derived.Lay
import Derived.Test.YtfnkamphhpldcaaGreatDoorK45
set_option maxHeartbeats 64000000
namespace Go.Proofs.YtfnkamphhpldcaaGreatDoor
open Go Go.RowKit Go.ChangeShapes Go.WideShapes Go.ChangeAt Sx
set_option maxRecDepth 100000
theorem cells3:Tryz.prog.cellsOf 3=1:=by kernel_rfl
theorem Bk:laidOutB Tryz.prog=true:=by kernel_rfl
theorem own:ownKnob Tryz.prog.godebug=none:=by kernel_rfl
def fz0(W:World)(m:Int):Fz:=fun k=>if k=4 then some (.cells 3 [.int .i64 m])else if k=0 then some (.arr 287 1 (konst.map encW) 64)else(W.heap[k]?).map SB.obj
abbrev konV:Array Value:=(konst.map fun(n:Nat)=>Value.int .u32 (n:Int)).toArray
structure Start(W:World)(m:Int):Prop where
 max:W.heap[4]? =some (.cells #[.int .i64 m] 3 (0,0))
 rnd:W.heap[0]? =some (.cells konV 287 (0,0))
variable {W:World}
theorem holds0{m:Int}(h:Start W m):Holds (fz0 W m) W:=by
 intro b B c;unfold fz0 at c;split at c
 ·rename_i f;subst f;obtain rfl:SB.cells 3 [.int .i64 m]=B:=by simpa using c
  refine⟨fun a d=>?_,_,h.max,fun ρ _=>⟨(0,0),fun j _=>by simp,rfl⟩⟩;simp at d;subst d;trivial
 ·split at c
  ·rename_i f;subst f;obtain rfl:SB.arr 287 1 (konst.map encW) 64=B:=by simpa using c
   refine⟨fun x g a d=>?_,_,h.rnd,fun ρ _=>⟨fun x g=>?_,qi _,[],rfl,(0,0),fun j _=>by simp,?_⟩⟩
   ·obtain⟨n,_,rfl⟩:=qz.1 g;obtain rfl:a=wd n:=qs.1 d;trivial
   ·obtain⟨n,_,rfl⟩:=qz.1 g;rfl
   ·have e:((konst.map encW).flatten.map (SA.den ρ)++[])=konst.map fun(n:Nat)=>Value.int .u32 (n:Int):=rfl
    rw[e]
  ·obtain⟨o,i,rfl⟩:=qak.1 c;exact⟨tv,o,i,fun _ _=>rfl⟩
theorem mlf0(W:World)(m:Int):MLF (fz0 W m):=⟨m,rfl⟩
theorem rnd0(W:World)(m:Int):RNDF (fz0 W m):=rfl
theorem we{w:World}{b i:Nat}{v:Value}(h:w.cell? ⟨b,i,none⟩=some v):∃cs t fr,w.heap[b]? =some (.cells cs t fr)/\cs[i]? =some v:=by
 cases a:w.heap[b]? with
 |none=>simp[World.cell?,a]at h
 |some o=>
  cases o with
  |cells cs t fr=>exact⟨cs,t,fr,rfl,by simpa[World.cell?,a]using h⟩
  |_=>simp[World.cell?,a]at h
theorem raw0{m:Int}(h1:Start W m){b off:Nat}{zs:List Int}(h:∀j (c:j < zs.length),W.cell? ⟨b,off+j,none⟩=some (.int .i64 zs[j])):RawAt (fz0 W m) b off zs:=by
 cases zs with
 |nil=>exact .inl rfl
 |cons z r=>
  right;obtain⟨cs,t,fr,d,f⟩:=we (h 0 ss)
  have a:∀j (c:j < (z::r).length),cs[off+j]? =some (.int .i64 (z::r)[j]):=fun j c=>by
   have:=h j c;simpa[World.cell?,d]using this
  by_cases i:b=4
  ·subst i;rw[h1.max]at d;obtain⟨rfl,rfl,rfl⟩:#[Value.int .i64 m]=cs/\3=t/\(0,0)=fr:=by simpa using d
   refine⟨_,rfl,fun j c=>?_⟩;have:=a j c;show[SA.int .i64 m][off+j]? =_
   have k:off+j=0:=by
    have:=(jk.1 this).1;simp at this;omega
   rw[k]at this ⊢;simpa using this
  ·by_cases e:b=0
   ·subst e;rw[h1.rnd]at d;obtain⟨rfl,_,_⟩:konV=cs/\287=t/\(0,0)=fr:=by simpa using d
    have g:(konst.map fun(n:Nat)=>Value.int .u32 (n:Int))[off+0]? =some (.int .i64 (z::r)[0]):=by simp at f
    rw[qt]at g;obtain⟨n,_,l⟩:=qak.1 g;simp at l
   ·exact⟨.obj (.cells cs t fr),by simp[fz0,i,e,d],fun j c=>a j c⟩
theorem uj{P:Program}{w:World}{n:String}{d:DataW Unit}:∀{l:List (String×DataW Unit)} {b:List MemPlace},DataW.LaidVars P w l b->(n,d)∈l->
  ∃g t cs a p,P.globalNamed n=some g/\(P.globals[g]?).map (·.type)=some t/\w.var? P n=some cs/\DataW.trod (fun _=>()) P w 0 (fun _=>true) false a t cs.toList=some (d,p)
 |[],_,_,hm=>by cases hm
 |(n',d')::r,b,h,hm=>by
  obtain⟨g,t,cs,a,p,q,h1,c,f,i,j,_⟩:=h;rcases qh.1 hm with e | e
  ·cases e
   exact⟨g,t,cs,a,p,h1,c,f,i⟩
  ·exact uj j e
theorem B6{l:List (String×DataW Unit)}(o:W.ShapedOpen Tryz.prog)(c:laidMetH Tryz.prog l W)(B:l.filter (fun x=>x.2.handleName?.isSome)=[])(D:("evergreen/digest.round",Lib.tabData .u32 (konst.map fun(n:Nat)=>(n:Int)))∈l):∃m,Start W m:=by
 unfold laidMetH at c;rw[B]at c;obtain⟨O,G,_⟩:=c;obtain⟨g,t,cs,j,p,h1,w,k,y⟩:=uj G D;obtain rfl:0=g:=Option.some.inj ((show Tryz.prog.globalNamed "evergreen/digest.round" =some 0 by kernel_rfl).symm.trans h1);obtain rfl:287=t:=Option.some.inj ((show(Tryz.prog.globals[0]?).map (·.type)=some 287 by kernel_rfl).symm.trans w);have b:=Lib.cells_of_tab Tryz.underlying287 Tryz.underlying231 (by kernel_rfl) (by kernel_rfl) y;obtain⟨a,I,J,K⟩:=o.1 4 #[.int .i64 0] 3 (od (by kernel_rfl)) (by kernel_rfl);obtain⟨i,s,L,M⟩:=o.1 0 (Array.replicate 64 (.int .u32 0)) 287 (od (by kernel_rfl)) (by kernel_rfl);obtain⟨ts,q,_,A⟩:=K (by kernel_rfl);have h:Tryz.prog.cellTypes Tryz.prog.depth 3=some [3]:=by kernel_rfl
 rw[h]at q;obtain rfl:[3]=ts:=by simpa using q
 have f:a.size=1:=J
 obtain⟨v,rfl⟩:∃v,a= #[v]:=by
  cases a with
  |mk l=>match l,f with
   |[v],_=>exact⟨v,rfl⟩
 obtain⟨u,E,d⟩:=A 0 v rfl;obtain rfl:3=u:=by simpa using E
 obtain⟨n,rfl⟩:∃n,v=.int .i64 n:=by
  simp only[Cell.ok,Tryz.underlying3]at d;cases v<;>simp_all
 refine⟨n,I,?_⟩;simp only[World.var?,h1,qdf,s]at k;obtain rfl:i=cs:=by simpa using k
 rw[s]
 have e:i=konV:=by
  apply qci.1;rw[b,jq];rfl
 rw[e]
theorem rP{n:Int}(h:(Lit.int .i64 n).wf=true):i64 n:=by
 simp only[Lit.wf,qd,decide_eq_true_eq]at h;exact⟨h.1,h.2⟩
theorem zH{H:Type}{enc:TypeId×Value->H}{f:Func}{s:ChangeSpec}{g:World}{args:Array Value}{ds:List (DataW H)}{a:List MemPlace}
  (e:s.vars=[])(j:f.resultTypes= #[4])(n:s.fn H (ds++[])={ results:=[.lit (.bool true)],args:=ds })
  (q:DataW.Whole enc Tryz.prog f.params.toList s.vars false W args.toList ds [] a)
  (d:∀c:Nat->Bool,(∀p∈a,c p.block=true)->DataW.TrodAll enc Tryz.prog g 0 c true f.params.toList args.toList ds a)
  (w:Below W.heap.size W g):s.post enc Tryz.prog f false true false false W args (.bool true) g:=by
 have l:=q.lt;have i:∀p∈a,(fun b=>decide (b < W.heap.size)) p.block=true:=fun p x=>by simpa using l p x
 have o:∀c:Nat->Bool,DataW.TrodVars enc Tryz.prog g c s.vars (s.fn H (ds++[])).vars []:=fun c=>by rw[e,n];rfl
 have m:∀(b:Nat) (c:Nat->Bool) (u:Bool),DataW.TrodAll enc Tryz.prog g b c u f.resultTypes.toList ((Value.bool true).resultList f.resultTypes.size) (s.fn H (ds++[])).results []:=fun b c u=>by
  rw[j,n];exact trodAll_mk1 (shut_bool Tryz.underlying4 _)
 have k:∀c:Nat->Bool,(∀p∈a,c p.block=true)->DataW.TrodAll enc Tryz.prog g 0 c true f.params.toList args.toList (s.fn H (ds++[])).args a:=fun c h=>by
  rw[n];exact d c h
 exact⟨ds,[],a,[],a,[],q,m _ _ _,k _ i,o _,w.frame _,fun h=>by cases h⟩
theorem sG{H:Type}{enc:TypeId×Value->H}{W e:World}{i:Nat->Bool}(k:Below W.heap.size W e):∀(ts:List TypeId) (vs:List Value) (ds:List (DataW H)) (b:List MemPlace),(∀t∈ts,Tryz.prog.readableRec t=true/\t < Tryz.prog.types.size)->
  DataW.TrodAll enc Tryz.prog W 0 (fun _=>true) true ts vs ds b->(∀p∈b,p.block < W.heap.size)->(∀p∈b,i p.block=true)->DataW.TrodAll enc Tryz.prog e 0 i true ts vs ds b
 |[],vs,ds,b,_,h,_,_=>by
  obtain⟨rfl,rfl,rfl⟩:=trodAll_nil h;rfl
 |t::ts,vs,ds,b,ht,h,hlt,hsp=>by
  obtain⟨v,j,d,f,p,q,rfl,rfl,rfl,h1,m⟩:=trodAll_cons h;refine⟨p,q,?_,sG k ts j f q (fun t' l=>ht t' (ym _ l)) m (fun x a=>hlt x (qbn _ a)) (fun x a=>hsp x (qbn _ a)),rfl⟩;have n:∀x∈p,W.sameAt e x:=fun x a=>k.same (hlt x (qa0 _ a))
  have g:∀x∈p,i x.block=true:=fun x a=>hsp x (qa0 _ a)
  have c:=ht t (qbk ..);exact WideElems.Trod_stays Bk c.1 c.2 h1 n g
section
variable {H:Type} {enc:TypeId×Value->H}
theorem vV{W:World}{t n a:Nat}{cs:List Value}{x:DataW H×List MemPlace}(k:Tryz.prog.underlying t=some (.array n 3))(h:DataW.trod enc Tryz.prog W 0 (fun _=>true) true a t cs=some x)(c:Tryz.prog.cellsOf t=n):
  cs.length=n/\∀(i:Nat) (d:i < cs.length),∃z,cs[i]=.int .i64 z/\i64 z:=by
 cases a with
 |zero=>simp[DataW.trod]at h
 |succ a=>
  rw[DataW.trod_step]at h;unfold DataW.trodStep at h;simp only[k,c,cells3,qcq]at h;split at h
  ·rename_i g;obtain⟨xs,j,o⟩:=qak.1 h;refine⟨g,fun i d=>?_⟩;obtain⟨b,m,f⟩:=Lib.mapM_at j i i (by rw[qdx oo]);obtain⟨z,e,_,l⟩:=DataW.trod_int Tryz.underlying3 f;refine⟨z,?_,rP l⟩;have:=congrArg (·[0]?) e;simpa[qc1,yz,qc d]using this
  ·cases h
theorem open_arr{W:World}{m:Int}{t e n p:Nat}{cs:List Value}{x:DataW H×List MemPlace}(h1:Start W m)(T:Tryz.prog.underlying t=some (.slice e))(Q:Tryz.prog.underlying e=some (.array n 3))(q:Tryz.prog.cellsOf e=n)(R:0 < n)
  (h:DataW.trod enc Tryz.prog W 0 (fun _=>true) true p t cs=some x)(B:∀a len cap,cs=[.slice (some a) len cap]->a.spot=none):
  ∃(M:Bool) (b o l c:Nat) (zs:List Int),cs=[SA.den (fun _ k=>k) (.slice M 0 b o 1 l c)]/\(M=true->l=0)/\l<=maxLen/\zs.length=l*n/\RawAt (fz0 W m) b o zs/\∀z∈zs,i64 z:=by
 rcases Deep.open_slice T h with⟨rfl,-⟩ | ⟨a,len,cap,V,n',D,Pl,rfl,_,Y,Z,u,_,O⟩
 ·exact⟨true,0,0,0,0,[],rfl,fun _=>rfl,jx _,by simp,.inl rfl,by simp⟩
 ·obtain⟨b,off,w⟩:=a;obtain rfl:w=none:=B _ _ _ rfl;have u:V=cap:=u
  have i:∀j,j < len*n->∃z,W.cell? ⟨b,off+j,none⟩=some (.int .i64 z)/\i64 z:=fun j s=>by
   have X:j / n < len:=qdu (by rw[qar];exact s);have S:j % n < n:=qba _ R;obtain⟨y,L,U⟩:=O (j / n) oo;rw[q]at L;obtain⟨_,K,d⟩:=World.cells?_some L;obtain⟨_,E⟩:=vV Q U q;obtain⟨z,G,I⟩:=E (j % n) oo;refine⟨z,?_,I⟩;have g:=d (j % n) S;simp only[add_plain]at g;rw[qc (show j % n < y.length by omega),G]at g;rw[<-g]
   have:off+j=off+j / n*n+j % n:=by
    have:=Nat.div_add_mod j n;rw[qar]at this;omega
   rw[this]
  obtain⟨f,J⟩:=Deep.choose_lt (α:=Int) i;refine⟨false,b,off,len,cap,(List.range (len*n)).map f,by simp[SA.den],(fun h=>by cases h),by omega,by simp,raw0 h1 fun j s=>?_,fun z E=>?_⟩
  ·have A:j < len*n:=by simpa using s
   rw[(J j A).1];simp
  ·obtain⟨j,s,rfl⟩:=qz.1 E;exact(J j (qce.1 s)).2
theorem xA:∀(l:Nat) (zs:List Int),zs.length=l*2->(∀z∈zs,i64 z)->∃L:List Stp,L.length=l/\ints2 L=zs/\∀y∈L,i64 y.1/\i64 y.2
 |0,zs,h,_=>⟨[],rfl,(y6.1 oo).symm,by simp⟩
 |l+1,zs,h,hz=>by
  match zs,h with
  |[],h=>simp at h
  |[_],h=>simp only[qe,qu]at h;omega
  |a::b::r,h=>
   obtain⟨L,h1,c,d⟩:=xA l r (by simp only[qe]at h;omega) (fun z e=>hz z (by simp[e]));refine⟨(a,b)::L,by simp[h1],by rw[<-c];rfl,fun y hy=>?_⟩;rcases qh.1 hy with rfl | hy
   ·exact⟨hz a ss,hz b ss⟩
   ·exact d y hy
theorem ux:∀(l:Nat) (zs:List Int),zs.length=l*3->(∀z∈zs,i64 z)->∃L:List Q3,L.length=l/\ints3 L=zs/\∀y∈L,i64 y.1/\i64 y.2.1/\i64 y.2.2
 |0,zs,h,_=>⟨[],rfl,(y6.1 oo).symm,by simp⟩
 |l+1,zs,h,hz=>by
  match zs,h with
  |[],h=>simp at h
  |[_],h=>simp only[qe,qu]at h;omega
  |[_,_],h=>simp only[qe,qu]at h;omega
  |a::b::c::r,h=>
   obtain⟨L,h1,d,e⟩:=ux l r (by simp only[qe]at h;omega) (fun z f=>hz z (by simp[f]));refine⟨(a,b,c)::L,by simp[h1],by rw[<-d];rfl,fun y hy=>?_⟩;rcases qh.1 hy with rfl | hy
   ·exact⟨hz a ss,hz b ss,hz c ss⟩
   ·exact e y hy
theorem DV(j k m:Bool)(c n f d o g e p i h l x:Nat)(q s:Int):(SV.agg (caseS j k m c n f d o g e p i h l x q s)).below 1:=by
 intro a b;simp only[qh,qq,or_false]at b;rcases b with rfl | rfl | rfl | rfl | rfl
 ·exact .inr yx
 ·exact .inr yx
 ·trivial
 ·trivial
 ·exact .inr yx
theorem ycq:Tryz.prog.cellsOf 27=5:=by kernel_rfl
theorem CD:Tryz.prog.cellsOf 22=1:=by kernel_rfl
theorem Cm:Tryz.prog.cellsOf 23=1:=by kernel_rfl
theorem pE:Tryz.prog.cellsOf 24=2:=by kernel_rfl
theorem Cn:Tryz.prog.cellsOf 25=1:=by kernel_rfl
theorem zz{W:World}{m:Int}{base:Nat}{v:Value}{d:DataW H}{ps:List MemPlace}(h1:Start W m)(e:Value.okWide Tryz.prog W .any base 27 v)(h:DataW.Trod enc Tryz.prog W 0 (fun _=>true) true 27 v d ps):
  ∃(D E G:Bool) (s I y w J M x K B O:Nat) (L:List Stp) (X:List Q3) (p q:Int) (zs:List Int),v=.agg ((caseS D E G s I y w J M x K B O L.length X.length p q).map (SA.den (fun _ k=>k))).toArray/\CaseAt (fz0 W m) D E G s I w J x K B L X p q zs:=by
 obtain⟨S,rfl,i⟩:=okWide_struct Tryz.underlying27 e;rw[ycq]at i;obtain⟨T,h⟩:=h;simp only[Value.okWide,Tryz.underlying27]at e;obtain⟨Q,R,_,ts,j,_,c⟩:=e;obtain rfl:S=Q:=by simpa using R
 have l:Tryz.prog.cellTypes Tryz.prog.depth 27=some [22,23,3,3,25]:=by kernel_rfl
 rw[l]at j;obtain rfl:[22,23,3,3,25]=ts:=by simpa using j
 obtain⟨cl⟩:=S
 match cl,i with
 |[c0,y,M,O,c4],_=>
  obtain⟨xs,n,_,_,_,g,A⟩:=DataW.trod_struct Tryz.underlying27 h
  match xs,g with
  |[y0,y1,y2,y3],_=>
   have t0:=A 0 _ rfl;have t1:=A 1 _ rfl;have t2:=A 2 _ rfl;have t3:=A 3 _ rfl;simp[CD,Cm,pE,Cn,Value.cells]at t0 t1 t2 t3;obtain⟨_,U⟩:=vV Tryz.underlying24 t2 pE;obtain⟨p,e0,w0⟩:=U 0 ss;obtain⟨q,e1,w1⟩:=U 1 ss;obtain rfl:M=.int .i64 p:=e0;obtain rfl:O=.int .i64 q:=e1
   obtain⟨D,s,I,l1,k1,z1,hA,V,a2,Y,Z,a5⟩:=open_arr h1 Tryz.underlying22 Tryz.underlying24 pE dd t0 (by
    intro a len cap f;obtain rfl:c0=.slice (some a) len cap:=by simpa using f
    obtain⟨u,o,b⟩:=c 0 _ rfl;obtain rfl:22=u:=by simpa using o
    simp only[Tryz.underlying22,Cell.okWide,Cell.ok]at b;exact b.2.2.2.1)
   obtain⟨E,w,J,l2,k2,z2,hB,d1,d2,d3,d4,d5⟩:=open_arr h1 Tryz.underlying23 Tryz.underlying177 (by kernel_rfl) dd t1 (by
    intro a len cap f;obtain rfl:y=.slice (some a) len cap:=by simpa using f
    obtain⟨u,o,b⟩:=c 1 _ rfl;obtain rfl:23=u:=by simpa using o
    simp only[Tryz.underlying23,Cell.okWide,Cell.ok]at b;exact b.2.2.2.1)
   obtain⟨G,x,K,B,k3,z3,hC,f1,f2,f3,f4,f5⟩:=open_arr h1 Tryz.underlying25 Tryz.underlying28 (by kernel_rfl) dd t3 (by
    intro a len cap f;obtain rfl:c4=.slice (some a) len cap:=by simpa using f
    obtain⟨u,o,b⟩:=c 4 _ rfl;obtain rfl:25=u:=by simpa using o
    simp only[Tryz.underlying25,Cell.okWide,Cell.ok]at b;exact b.2.2.2.1)
   obtain rfl:c0=_:=by simpa using hA
   obtain rfl:y=_:=by simpa using hB
   obtain rfl:c4=_:=by simpa using hC
   obtain⟨L,rfl,rfl,g1⟩:=xA l1 z1 Y a5;obtain⟨X,rfl,rfl,g2⟩:=ux l2 z2 d3 d5;have hx:maxLen=9223372036854775807:=rfl;exact⟨D,E,G,s,I,k1,w,J,k2,x,K,B,k3,L,X,p,q,z3,rfl,⟨fun h=>y6.1 (V h),fun h=>y6.1 (d1 h),f1,Z,d4,f4,g1,g2,f5,⟨w0,w1⟩,by omega,by omega,by omega,f3⟩⟩
end
theorem blk0{m:Int}(h1:Start W m){b off:Nat}{z:Int}{v:Value}(h:W.cell? ⟨b,off,none⟩=some (.int .i64 z))(g:W.cell? ⟨b,off+1,none⟩=some v):∃cs t fr,fz0 W m b=some (.obj (.cells cs t fr))/\∀i,W.cell? ⟨b,i,none⟩=cs[i]?:=by
 obtain⟨cs,t,fr,a,f⟩:=we h;have c:∀i,W.cell? ⟨b,i,none⟩=cs[i]?:=fun i=>by simp[World.cell?,a]
 have j:b≠4:=by
  rintro rfl;rw[h1.max]at a;obtain⟨rfl,_,_⟩:#[Value.int .i64 m]=cs/\3=t/\(0,0)=fr:=by simpa using a
  rw[c]at g;have:=(jk.1 g).1;simp at this
 have e:b≠0:=by
  rintro rfl;rw[h1.rnd]at a;obtain⟨rfl,_,_⟩:konV=cs/\287=t/\(0,0)=fr:=by simpa using a
  have d:(konst.map fun(n:Nat)=>Value.int .u32 (n:Int))[off]? =some (.int .i64 z):=by simp at f
  rw[qt]at d;obtain⟨n,_,d⟩:=qak.1 d;simp at d
 exact⟨cs,t,fr,by simp[fz0,j,e,a],c⟩
theorem AG:Tryz.prog.cellsOf 56=2:=by kernel_rfl
theorem AE:Tryz.prog.cellsOf 52=2:=by kernel_rfl
theorem El:Tryz.prog.cellsOf 50=1:=by kernel_rfl
theorem Ek:Tryz.prog.cellsOf 43=1:=by kernel_rfl
theorem AH:Tryz.prog.cellsOf 9=1:=by kernel_rfl
theorem AF:Tryz.prog.cellsOf 48=4:=by kernel_rfl
theorem wK:∀(l:List Stp) (j:Nat),((l.map enc).flatten)[j]? =(l[j / 2]?).bind fun s=>(enc s)[j % 2]?
 |[],j=>by simp
 |x::r,0=>rfl
 |x::r,1=>rfl
 |x::r,j+2=>by
  rw[qw,jm,show(j+2) / 2=j / 2+1 by omega,show(j+2) % 2=j % 2 by omega,qa2];exact wK r j
theorem wL:∀(l:List Stp),((l.map enc).flatten).length=l.length*2
 |[]=>rfl
 |x::r=>by
  have:=wL r;rw[qw,jm,qb,this,qe];show 2+_=_;omega
section
variable {H:Type} {enc0:TypeId×Value->H}
theorem zB{W:World}{m:Int}{p:Nat}{v:Value}{x:DataW H×List MemPlace}(h1:Start W m)(h:DataW.trod enc0 Tryz.prog W 0 (fun _=>true) true p 50 [v]=some x):
  ∃(a:SA) (S:List Stp),(∀ρ:Rho,(∀k,ρ 0 k=k)->v=SA.den ρ a)/\a.below 1/\RSt (fz0 W m) a S/\S.length<=maxLen:=by
 rcases Deep.open_slice Tryz.underlying50 h with⟨J,-⟩ | ⟨a,len,cap,I,n',D,Pl,J,_,hl,hm,l,_,L⟩
 ·obtain rfl:v=.slice none 0 0:=by simpa using J
  exact⟨.slice true 0 0 0 1 0 0,[],fun ρ _=>rfl,.inl rfl,.inr ⟨true,0,0,0,rfl,fun _=>rfl,qi _,fun n B E=>by simp at E;omega⟩,jx _⟩
 ·obtain rfl:v=.slice (some a) len cap:=by simpa using J
  have l:I=cap:=l;subst l;rw[AG]at L;rcases qbl I with hz | hz
  ·subst hz;obtain rfl:len=0:=by omega
   exact⟨.odd a,[],fun ρ _=>rfl,tv,.inl ⟨a,rfl,rfl⟩,jx _⟩
  ·obtain⟨b,off,A⟩:=a
   obtain rfl:A=none:=by
    obtain⟨e,M,_⟩:=L 0 hz;obtain⟨_,c,d⟩:=World.cells?_some M;have g:=d 0 dd;rw[qc (show 0 < e.length by omega)]at g;simpa[Addr.add]using World.cell?_spot g
   have o:∀i,i < len->∃s:Stp,W.cell? ⟨b,off+i*2,none⟩=some (.int .i64 s.1)/\W.cell? ⟨b,off+i*2+1,none⟩=some (.int .i64 s.2):=fun i hi=>by
    obtain⟨e,M,O⟩:=L i oo;obtain⟨_,c,d⟩:=World.cells?_some M;have Q:=d 0 dd;have B:=d 1 dd
    match e,c,O with
    |[c0,c1],_,O=>
     obtain⟨xs,n,_,_,_,c,u⟩:=DataW.trod_struct Tryz.underlying56 O
     match xs,c with
     |[y0,y1],_=>
      obtain⟨T,V,_,_⟩:=DataW.trod_int Tryz.underlying3 (x:=y0) (u 0 _ rfl);obtain⟨U,X,_,_⟩:=DataW.trod_int Tryz.underlying3 (x:=y1) (u 1 _ rfl);obtain rfl:c0=.int .i64 T:=by simpa[cells3]using V
      obtain rfl:c1=.int .i64 U:=by simpa[cells3]using X
      simp only[add_plain]at Q B;exact⟨(T,U),Q,B⟩
   obtain⟨f,u⟩:=Deep.choose_lt (α:=Stp) o;refine⟨.slice false 0 b off 1 ((List.range len).map f).length I,(List.range len).map f,fun ρ hr=>?_,.inr Nat.one_pos,.inr ⟨false,b,off,I,rfl,(fun h=>by cases h),by simpa using hl,fun n B E=>?_⟩,by rw[qa,qcd];omega⟩
   ·simp[SA.den,hr]
   ·have E:n<=len:=by simpa using E
    have G:=u 0 oo;obtain⟨cs,t,fr,ho,K⟩:=blk0 h1 G.1 G.2;refine⟨_,ho,(((List.range len).map f).take n).map enc |>.flatten,?_,rfl⟩;have c:((((List.range len).map f).take n).map enc).flatten.length=n*2:=by rw[wL,qk,qa,qcd];omega
    have:=su (cs:=cs) (t:=t) (fr:=fr) (off:=off) (xs:=((((List.range len).map f).take n).map enc).flatten) oo (fun a Y=>by
     obtain⟨x,hx,q⟩:=qa7.1 Y;obtain⟨y,_,rfl⟩:=qz.1 hx;simp only[enc,qh,qq,or_false]at q;rcases q with rfl | rfl<;>trivial) (fun ρ _ j Z=>by
     rw[c]at Z;have w:j / 2 < len:=by omega
     have R:=u (j / 2) w;rw[qt,wK,qaz oo,qt,qdx w,<-K];by_cases G:j % 2=0
     ·rw[G,show off+j=off+j / 2*2 by omega,R.1];rfl
     ·rw[show j % 2=1 by omega,show off+j=off+j / 2*2+1 by omega,R.2];rfl)
    rw[c]at this;show RdO _ (off*1+0) (n*2) _;rw[qcq,qap];exact this
theorem zA{W:World}{m:Int}{w:Nat}{v:Value}{x:DataW H×List MemPlace}(h1:Start W m)(h:DataW.trod enc0 Tryz.prog W 0 (fun _=>true) true w 43 [v]=some x)(Q:∀a len cap,v=.slice (some a) len cap->a.spot=none):
  ∃(Z:Bool) (b o c:Nat) (s:List RCl),v=SA.den (fun _ k=>k) (.slice Z 0 b o 1 s.length c)/\(Z=true->s=[])/\fX (fz0 W m) b o s/\(∀x∈s,RSt (fz0 W m) x.a x.st/\x.st.length<=maxLen)/\s.length<=maxLen:=by
 rcases Deep.open_slice Tryz.underlying43 h with⟨G,-⟩ | ⟨a,len,cap,Y,n',D,Pl,G,_,hl,hm,g,_,V⟩
 ·obtain rfl:v=.slice none 0 0:=by simpa using G
  exact⟨true,0,0,0,[],rfl,fun _=>rfl,⟨.cells 0 [],fun k h=>by simp at h⟩,by simp,jx _⟩
 ·obtain rfl:v=.slice (some a) len cap:=by simpa using G
  have g:Y=cap:=g;subst g;rw[AE]at V;obtain⟨b,off,A⟩:=a;obtain rfl:A=none:=Q _ _ _ rfl
  have u:∀i,i < len->∃q:RCl,W.cell? ⟨b,off+i*2,none⟩=some (.int .i64 q.p)/\(∀ρ:Rho,(∀k,ρ 0 k=k)->W.cell? ⟨b,off+i*2+1,none⟩=some (SA.den ρ q.a))/\q.a.below 1/\RSt (fz0 W m) q.a q.st/\q.st.length<=maxLen:=fun i X=>by
   obtain⟨E,k1,R⟩:=V i oo;obtain⟨_,d,e⟩:=World.cells?_some k1;have S:=e 0 dd;have T:=e 1 dd
   match E,d,R with
   |[c0,c1],_,R=>
    obtain⟨xs,n,_,_,_,d,l⟩:=DataW.trod_struct Tryz.underlying52 R
    match xs,d with
    |[y0,y1],_=>
     obtain⟨z0,e0,_,_⟩:=DataW.trod_int Tryz.underlying3 (x:=y0) (l 0 _ rfl);have t1:=l 1 _ rfl;simp[El]at t1;obtain⟨a,st,e1,ab,hs,O⟩:=zB h1 t1;obtain rfl:c0=.int .i64 z0:=by simpa[cells3]using e0
     simp only[add_plain]at S T;refine⟨⟨z0,a,st⟩,S,fun ρ M=>?_,ab,hs,O⟩;rw[<-e1 ρ M];exact T
  obtain⟨f,l⟩:=Deep.choose_lt (α:=RCl) u;have d:((List.range len).map f).length=len:=by rw[qa,qcd]
  refine⟨false,b,off,Y,(List.range len).map f,by rw[d];simp[SA.den],(fun h=>by cases h),?_,fun x hx=>?_,by rw[d];omega⟩
  ·rcases qbl len with hz | hz
   ·exact⟨.cells 0 [],fun k h=>by omega⟩
   ·have B:=l 0 hz;obtain⟨cs,t,fr,ho,I⟩:=blk0 h1 B.1 (B.2.1 (fun _ k=>k) fun _=>rfl);refine⟨_,fun k hk=>⟨ho,fun p K B hK=>⟨rclS (f k),?_,by simpa using hK⟩⟩⟩;have L:k < len:=by omega
    have y:=l k L;rw[B];refine su (xs:=rclS (f k)) Nat.zero_lt_two (fun a U=>?_) (fun ρ M j J=>?_)
    ·simp only[rclS,qh,qq,or_false]at U;rcases U with rfl | rfl
     ·trivial
     ·exact y.2.2.1
    ·have J:j < 2:=J;rw[<-I]
     match j,J with
     |0,_=>rw[qap,y.1];rfl
     |1,_=>rw[y.2.1 ρ M];rfl
  ·obtain⟨i,X,rfl⟩:=qz.1 hx;have y:=l i (qce.1 X);exact y.2.2.2
theorem BF{W:World}{m:Int}{base:Nat}{v:Value}{d:DataW H}{U:List MemPlace}(h1:Start W m)(e:Value.okWide Tryz.prog W .any base 48 v)(h:DataW.Trod enc0 Tryz.prog W 0 (fun _=>true) true 48 v d U):
  ∃(w:Bool) (b o c:Nat) (cs O:List UInt8) (Q:Int) (f:List RCl),v=.agg ([SA.str cs,.str O,.int .i64 Q,.slice w 0 b o 1 f.length c].map (SA.den (fun _ k=>k))).toArray/\(w=true->f=[])/\fX (fz0 W m) b o f/\(∀x∈f,RSt (fz0 W m) x.a x.st/\x.st.length<=maxLen)/\f.length<=maxLen:=by
 obtain⟨B,rfl,l⟩:=okWide_struct Tryz.underlying48 e;rw[AF]at l;obtain⟨I,h⟩:=h;simp only[Value.okWide,Tryz.underlying48]at e;obtain⟨y,A,_,ts,p,_,j⟩:=e;obtain rfl:B=y:=by simpa using A
 have q:Tryz.prog.cellTypes Tryz.prog.depth 48=some [9,9,3,43]:=by kernel_rfl
 rw[q]at p;obtain rfl:[9,9,3,43]=ts:=by simpa using p
 obtain⟨f⟩:=B
 match f,l with
 |[c0,c1,c2,c3],_=>
  obtain⟨xs,n,_,_,_,g,s⟩:=DataW.trod_struct Tryz.underlying48 h
  match xs,g with
  |[y0,y1,y2,y3],_=>
   obtain⟨s0,D,_,_⟩:=DataW.trod_string Tryz.underlying9 (x:=y0) (s 0 _ rfl);obtain⟨V,E,_,_⟩:=DataW.trod_string Tryz.underlying9 (x:=y1) (s 1 _ rfl);obtain⟨z,G,_,_⟩:=DataW.trod_int Tryz.underlying3 (x:=y2) (s 2 _ rfl);have t3:=s 3 _ rfl;simp[cells3,AH,Ek,Value.cells]at D E G t3;subst D E G
   obtain⟨w,b,o,c,f,R,J,K,L,M⟩:=zA h1 t3 (by
    intro a len cap S;subst S;obtain⟨u,T,i⟩:=j 3 _ rfl;obtain rfl:43=u:=by simpa using T
    simp only[Tryz.underlying43,Cell.okWide,Cell.ok]at i;exact i.2.2.2.1)
   subst R;exact⟨w,b,o,c,s0.data.toList,V.data.toList,z,f,rfl,J,K,L,M⟩
theorem EW(g:Bool)(b o l c:Nat)(cs e:List UInt8)(f:Int):(SV.agg [.str cs,.str e,.int .i64 f,.slice g 0 b o 1 l c]).below 1:=by
 intro a d;simp only[qh,qq,or_false]at d;rcases d with rfl | rfl | rfl | rfl
 ·trivial
 ·trivial
 ·trivial
 ·exact .inr yx
end
