import Derived.Test.YtfnkamphhpldcaaGreatDoorK07
import Derived.LoopN
import Derived.Recover
import Derived.Below
set_option maxHeartbeats 64000000
namespace Sx
open Go Go.RowKit
theorem tz(a:SA):atomE a a:=by
 cases a<;>simp[atomE]
theorem o6:∀l:List SC,tupE l l
 |[]=>trivial
 |.va a::r=>⟨tz a,o6 r⟩
 |.agg _::r=>⟨rfl,o6 r⟩
theorem iI(v:SV):svE v v:=by
 cases v with
 |va a=>exact tz a
 |agg l=>rfl
 |tup l=>exact o6 l
 |junk=>rfl
theorem aP(o:Out):outE o o:=by
 cases o with
 |ret v=>exact iI v
 |panic v=>rfl
section
variable {P:Program} {Θ:Tys} {C:Ctx} {ρ:Rho} {st:St} {a:Act} {w:World} {Q:SE->St->Prop}
def nF(P:Program)(Θ:Tys)(c:Code)(Q:SE->St->Prop):Nat->St->Prop
 |0,_=>False
 |n+1,st=>sx P Θ c st fun e b=>(match e with
  |.normal=>nF P Θ c Q n b
  |.ret=>Q .ret b
  |.exit id=>Q (.exit id) b
  |.panic v=>Q (.panic v) b)
theorem sQ(hΘ:Θ.Ok P){b:Code}:∀(n:Nat) (st:St) (ρ:Rho) (a:Act) (w:World),nF P Θ b Q n st->Den C ρ st a w->Code.rounds P b (Up C Q) n a w
 |0,st,ρ,a,w,h,_=>h.elim
 |n+1,st,ρ,a,w,h,D=>by
  have h1:=ec hΘ b st _ h;unfold WP at h1;refine wp_mono (h1 C ρ a w D) ?_;rintro e i k ⟨j,c,g,f,rfl,d⟩;cases j with
  |normal=>exact sQ hΘ n c g i k f d
  |ret=>exact⟨.ret,c,g,f,rfl,d⟩
  |exit id=>exact⟨.exit id,c,g,f,rfl,d⟩
  |panic v=>exact⟨.panic v,c,g,f,rfl,d⟩
theorem rounds(hΘ:Θ.Ok P){b:Code}(n:Nat)(h:nF P Θ b Q n st):WP P (.loop b) st Q:=by
 unfold WP;intro C ρ a w D;exact wp_loop_rounds n (sQ hΘ n st ρ a w h D)
theorem Sat.belowW{h:Hp}{nx:Nat}{w g:World}(S:Sat C ρ h nx w)(c:Below w.heap.size w g):Sat C ρ h nx g:=
 { S with
  blk:=fun i e l k m=>by
   obtain⟨o,ho,f⟩:=S.blk i e l k m;exact⟨o,by rw[c.block _ (jk.1 ho).1];exact ho,f⟩
  os:=c.os.trans S.os,tape:=c.tape.trans S.tape,output:=c.output.trans S.output
  size:=q8 S.size c.size
  fr:=fun b d j=>by rw[c.block b (y4 d S.size)];exact S.fr b d j }
theorem fR{F:Fz}{f:FuncId}{args:List SV}{out:Out}{vs:List Value}(c:Enters P f)(d:out.z=true)
  (p:∀ρ b,relL ρ args b->b=vs)(e:Ending)(m:∀ρ,out.rel ρ e)
  (l:∀C ρ w,Sat C ρ [[(0,.frz F)]] 1 w->Calls P f vs.toArray w fun e' g=>e'=e/\Below w.heap.size w g):
  Fo P F f args fun o h=>o=out/\h=F:=by
 unfold Fo za6;intro C ρ w b S n j;obtain rfl:=p ρ b n;refine⟨c,(l C ρ w S).mono ?_⟩;rintro e' g ⟨rfl,i⟩;refine⟨out,[[(0,.frz F)]],1,ρ,?_,m ρ,S.belowW i,fun _ _=>rfl,qi _,?_⟩
 ·exact endFo out F rfl (Fz.r F) (Fz.r F) ⟨rfl,rfl⟩ (by
   rw[Out.ren_id (μ:=resP [[(0,.frz F)]]) (.inl d) (fun k=>rfl)];exact aP out) d
 ·have:=Out.z_below d;cases out with
  |ret v=>exact this
  |panic v=>trivial
def kN:Option Value->FrameMode
 |none=>.returning
 |some v=>.panicking [{ v,recovered:=false }]
@[irreducible] def DefWP (P:Program) (f:FuncId) (args:List SA) (h:Hp) (nx:Nat) (m:Option Value) (K:Hp->Nat->Prop):Prop:=
 ∀C ρ w,Sat C ρ h nx w->(∀a∈args,a.below nx)->
  Enters P f/\CallsD P f (args.map (SA.den ρ)).toArray (kN m) w fun e u w'=>∃v h' nx' ρ',e=.returned v/\settle u=.returning/\K h' nx'/\Sat C ρ' h' nx' w'/\(∀i,i < nx->ρ' i=ρ i)/\nx<=nx'
def endQD(P:Program)(Θ:Tys)(b:List ResultVar)(K:Out->Hp->Nat->Prop):SE->St->Prop:=fun e st=>
 match e with
 |.normal=>(match st.d with
  |(.fn f,as)::r=>r=[]/\DefWP P f as st.h st.nx none fun h nx=>sres Θ { st with h:=h,nx:=nx } b fun v=>K (.ret v) h nx
  |_=>False)
 |.ret=>(match st.d with
  |(.fn f,as)::r=>r=[]/\DefWP P f as st.h st.nx none fun h nx=>sres Θ { st with h:=h,nx:=nx } b fun v=>K (.ret v) h nx
  |_=>False)
 |.panic v=>(match st.d with
  |(.fn f,as)::r=>r=[]/\DefWP P f as st.h st.nx (some v) fun h nx=>sres Θ { st with h:=h,nx:=nx } b fun v=>K (.ret v) h nx
  |_=>False)
 |.exit _=>False
theorem oU(hΘ:Θ.Ok P){fn:Func}{st:St}{y:List ResultVar}(q:fn.results.toList=y){K:Out->Hp->Nat->Prop}{R:Ending->World->Prop}(m:Option Value){f:FuncId}{as:List SA}{r:List (Dk×List SA)}
  (O:st.d=(.fn f,as)::r)(T:r=[])(D:Den C ρ st a w)
  (x:DefWP P f as st.h st.nx m fun h nx=>sres Θ { st with h:=h,nx:=nx } y fun v=>K (.ret v) h nx)
  (L:∀v sv p b o n,K (.ret sv) p b->sv.rel o v->sv.below b->Sat C o p b n->(∀i,i < st.nx->o i=ρ i)->st.nx<=b->R (.returned v) n):
  Leaves P fn a.tmps R a.defers (kN m) w:=by
 have j:=D.df;have k:=D.dw;subst T;rw[O]at j k;rw[j];unfold DefWP at x;obtain⟨c,M⟩:=x C ρ w D.sat (k (.fn f,as) ss);unfold Enters at c;refine⟨by cases m<;>simp[kN],.func f,#[],f,(as.map (SA.den ρ)).toArray,rfl,?_,?_⟩
 ·have E:(as.map (SA.den ρ)).toArray++(#[]:Array Value)=(as.map (SA.den ρ)).toArray:=by simp
  simp only[defOf,defV,invoke,E,c]
 ·refine M.mono ?_;rintro e u n ⟨v,p,b,o,rfl,U,S,s,g,l⟩;have B:=D.heap s g l;obtain⟨A,sv,h1,G,I,J⟩:=jM (fn:=fn) hΘ B (by rw[q];exact S);show Leaves P fn a.tmps R [] (settle u) n;rw[U];exact⟨A,h1,L A sv p b o n J G I s g l⟩
theorem Ax(hΘ:Θ.Ok P){f:FuncId}{fn:Func}{c:Code}{args:List SV}{h:Hp}{nx:Nat}{K:Out->Hp->Nat->Prop}(V:P.funcs[f]? =some fn)(U:fn.body=some c)(hn:(fn.name== "runtime.NumGoroutine")=false)
  (nt:Nat)(Y:List ResultVar)(ac:fn.ntmps=nt)(p:fn.results.toList=Y)(hl:Nat.ble args.length nt=true)
  (X:WP P c ⟨[dV 0 args],h,nx,nx,nt,[]⟩ (endQD P Θ Y K)):za6 P f args h nx K:=by
 unfold za6;intro C ρ w vs S j O;refine⟨enters_of V U hn,?_⟩;unfold WP at X
 let y:Ctx:={ C with ρ0:=ρ,n0:=nx }
 have Z:Sat y ρ h nx w:={ S with anch:=fun _ _ _=>rfl,n0:=qi _,n1:=S.pos }
 have W:=ki j;have ab:=nb hl
 have D:Den y ρ ⟨[dV 0 args],h,nx,nx,nt,[]⟩ { tmps:=vs.toArray++Array.replicate (fn.ntmps - vs.toArray.size) undef,defers:=[] } w:=by
  refine{ sat:=Z,nt:=?_,tm:=?_,tw:=?_,n0:=rfl,df:=rfl,dw:=by simp }
  ·simp;omega
  ·intro n s l;simp only[lget]at l;split at l
   ·rename_i v R;cases l
    obtain⟨u,_,g,h3,_⟩:=fs (nx:=nx) args vs 0 n s j R;simp only[qa5]at g;refine⟨u,?_,h3⟩;rw[qa8 (by simpa using(qg.1 g).1)];simpa using g
   ·simp at l
  ·intro n s l;simp only[lget]at l;split at l
   ·rename_i v R;cases l
    obtain⟨u,_,_,_,h4⟩:=fs (nx:=nx) args vs 0 n s j R;exact O s h4
   ·simp at l
 refine calls_of_wp_defers V U (wp_mono (X y ρ _ w D) ?_);rintro e a' w' ⟨se,G,I,d,rfl,J⟩
 have A:∀{o:Rho} {g:Hp} {b:Nat} {x:World},Sat y o g b x->Sat C o g b x:=fun q=>{ q with
  anch:=fun i L k=>by rw[q.anch i (y4 L S.n0) k];exact S.anch i L k
  n0:=q8 S.n0 q.n0
  n1:=S.n1 }
 have fin:∀v sv g b o x,K (.ret sv) g b->sv.rel o v->sv.below b->Sat y o g b x->(∀i,i < G.nx->o i=I i)->G.nx<=b->
   ∃out T m I,K out T m/\out.rel I (Ending.returned v)/\Sat C I T m x/\(∀i,i < nx->I i=ρ i)/\nx<=m/\(match out with | .ret s=>s.below m | .panic _=>True):=by
  intro v sv g b o x hk hr M q aa E;exact⟨.ret sv,g,b,o,hk,⟨v,rfl,hr⟩,A q,fun i L=>funext fun k=>q.anch i L k,q8 J.sat.n0 E,M⟩
 cases se with
 |normal=>
  simp only[endQD]at d;split at d
  ·rename_i f2 as r B;exact oU hΘ p none B d.1 J d.2 fin
  ·exact d.elim
 |ret=>
  simp only[endQD]at d;split at d
  ·rename_i f2 as r B;exact oU hΘ p none B d.1 J d.2 fin
  ·exact d.elim
 |panic v=>
  simp only[endQD]at d;split at d
  ·rename_i f2 as r B;exact oU hΘ p (some v) B d.1 J d.2 fin
  ·exact d.elim
 |exit id=>exact d.elim
def sasOf:List SV->Option (List SA)
 |[]=>some []
 |.va a::r=>(match sasOf r with
  |some l=>some (a::l)
  |none=>none)
 |_::_=>none
theorem vQ{ρ:Rho}{n:Nat}:∀{l:List SV} {as:List SA} {vs:List Value},sasOf l=some as->relL ρ l vs->(∀s∈l,s.below n)->vs=as.map (SA.den ρ)/\∀a∈as,a.below n
 |[],as,[],h,_,_=>by simp[sasOf]at h;subst h;simp
 |[],as,v::r,h,hr,_=>hr.elim
 |s::r,as,[],h,hr,_=>hr.elim
 |s::r,as,v::vr,h,hr,hb=>by
  unfold sasOf at h;split at h
  ·rename_i b;cases b
  ·rename_i a g b;cases b
   split at h
   ·rename_i f d;cases h
    obtain⟨h1,c⟩:=vQ d hr.2 (fun s e=>hb s (by simp[e]));refine⟨by rw[h1,hr.1];rfl,?_⟩;intro x hx;rcases qh.1 hx with rfl | hx
    ·exact hb (.va x) ss
    ·exact c x hx
   ·cases h
  ·cases h
theorem Am{id:Nat}{o:Oper}{f:FuncId}{args:Array Operand}{ts:Array TypeId}(j:o.op=.defer ⟨.value (.func f),args,ts⟩)(q:o.guard=none)(e:o.dst=none){as:List SA}(has:sasOf (evL st.t args.toList)=some as)
  (s:Q .normal { st with d:=(.fn f,as)::st.d }):WP P (.region id #[o] false) st Q:=by
 unfold WP;intro C ρ a w D;refine wp_region_list ?_;obtain⟨h1,p⟩:=kx D args.toList;obtain⟨l,m⟩:=vQ has h1 p
 have g:(execOp a.eval o).run P w=.ok (.defer (defOf ρ (.fn f,as))) w:=by
  obtain⟨k,u,type,pos,h,guard⟩:=o;simp only at j;subst j;have n:args.map a.eval=(as.map (SA.den ρ)).toArray:=by apply Array.ext';simpa using l
  simp[execOp,resolve,Act.eval,Deferred.ofValue,defOf,defV,n]
 have c:Region.wanted o (yielded #[o] a.tmps)=true:=by simp[Region.wanted,q]
 show wpList P #[o] (Up C Q) [o] a w;simp only[wpList,c,if_true];left;simp only[Oper.wp,g,Oper.upon];refine⟨.normal,_,ρ,s,rfl,?_⟩;rw[e]
 have i:∀x∈(.fn f,as)::st.d,∀b∈x.2,b.below st.nx:=by
  intro x hx;rcases qh.1 hx with rfl | hx
  ·exact m
  ·exact D.dw x hx
 exact{ sat:=D.sat,nt:=D.nt,tm:=D.tm,tw:=D.tw,n0:=D.n0,df:=by simp[Act.put,D.df],dw:=i }
end
end Sx
namespace Sx
open Go
def ckI(s:List (Nat×Mv))(upd jl:List (Nat×SV))(hup:List (Nat×Ent))(n0 nt N0 N:Nat):Bool:=
 (jl.all fun p=>fm p.2&&Nat.ble (p.1+1) nt)&&(upd.all fun p=>Nat.ble (p.1+1) nt)&&Nat.ble n0 N0&&Nat.ble N0 N&&(upd.all fun p=>p.2.bB N)&&chkS s hup N0 N
variable {T:List (List (Nat×SV))}{hup:List (Nat×Ent)}{jl upd:List (Nat×SV)}
theorem leI{H:Hp}{n0 nt N0 N:Nat}(s:List (Nat×Mv))(i:WfH H N0)(j:WfT T N0)
  (a:ckI s upd jl hup n0 nt N0 N=true)(m:bH N hup)(l:leT s T upd)(k:leH s H hup):Le ⟨T,H,N0,n0,nt,[]⟩ ⟨upd::jl::T,hup::H,N,n0,nt,[]⟩:=by
 simp only[ckI,qd]at a;obtain⟨⟨⟨⟨⟨b,c⟩,d⟩,e⟩,f⟩,g⟩:=a;exact pY N s i j e d (fun _ h=>nomatch h) b c g (bT_of f) m l k
theorem leR{b:List (Nat×SV)}{H:Hp}{a:List (Nat×Ent)}{nx1 n0 nt N0 N:Nat}(s:List (Nat×Mv))(m:WfH H N0)(n:WfT T N0)
  (c:(ckI s upd jl hup n0 nt N0 N&&(b.all fun p=>(aget upd p.1).isSome||(aget jl p.1).isSome)&&(a.all fun p=>(aget hup p.1).isSome||Nat.ble N0 p.1))=true)
  (u:bH N hup)(q:leT s (b::jl::T) upd)(o:leH s (a::H) hup):Le ⟨b::jl::T,a::H,nx1,n0,nt,[]⟩ ⟨upd::jl::T,hup::H,N,n0,nt,[]⟩:=by
 simp only[ckI,qd]at c;obtain⟨⟨⟨⟨⟨⟨⟨d,e⟩,f⟩,g⟩,i⟩,j⟩,k⟩,l⟩:=c;exact pb N0 N s m n g f (fun _ h=>nomatch h) d e k l j (bT_of i) u q o
theorem jU{β:Type}{R:List (List (Nat×β))}{n:Nat}:∀(ts:List (List (Nat×β))),(∀l∈ts,aget l n=none)->lget (ts++R) n=lget R n
 |[],_=>rfl
 |l::r,h=>by
  have h1:=h l ss;show(match aget l n with | some v=>some v | none=>lget (r++R) n)=_;rw[h1];exact jU r fun b a=>h b (by simp[a])
theorem leRn(ts:List (List (Nat×SV))){H:Hp}(a:List (List (Nat×Ent))){nx1 n0 nt N0 N:Nat}(s:List (Nat×Mv))(x:WfH H N0)(y:WfT T N0)
  (d:(ckI s upd jl hup n0 nt N0 N&&(ts.all fun l=>l.all fun p=>(aget upd p.1).isSome||(aget jl p.1).isSome)&&(a.all fun l=>l.all fun p=>(aget hup p.1).isSome||Nat.ble N0 p.1))=true)
  (E:bH N hup)(D:leT s (ts++(jl::T)) upd)(B:leH s (a++H) hup):Le ⟨ts++(jl::T),a++H,nx1,n0,nt,[]⟩ ⟨upd::jl::T,hup::H,N,n0,nt,[]⟩:=by
 simp only[ckI,qd]at d;obtain⟨⟨⟨⟨⟨⟨⟨e,g⟩,j⟩,k⟩,o⟩,q⟩,u⟩,w⟩:=d;refine m9 N0 N s x y (nb k) (nb j) (fun _ h=>nomatch h) D ?_ e g B ?_ q (bT_of o) E
 ·intro n h1 c;rw[jU ts fun l b=>ik (f:=fun m=>(aget upd m).isSome||(aget jl m).isSome) (qp.1 u l b) (by simp[h1,c])];simp[lget,c]
 ·intro i G h1;refine jU a fun l b=>ik (f:=fun m=>(aget hup m).isSome||Nat.ble N0 m) (qp.1 w l b) ?_
  simp only[h1,qc4,qa6];cases A:Nat.ble N0 i with
  |false=>rfl
  |true=>have:=nb A;omega
section
variable {P:Program} {h:Hp} {nx:Nat} {i:Nat} {e:Ent} {F:Fz}
theorem lend{f:FuncId}{args:List SV}{K:Out->Hp->Nat->Prop}(i:Nat)(fb:Nat->SB)(D:lget h i=some e)(hF:lget h 0=some (.frz F))(T:e.plain=true)
  (hf:∀k,e.has k->(e.at k).ren (resP h)=fb k)(hb:∀k,e.has k->(fb k).below 1)
  (hk:∀b R,Fz.le F R->(∀k,e.has k->R (b k)=some (fb k))->za6 P f args (lput (lput h i (.lnk b)) 0 (.frz R)) nx
   (fun out y Q=>∃Z,lget y 0=some (.frz Z)/\Fz.le R Z/\lget y i=some (.lnk b)/\K out (lput (lput y i e) 0 (.frz F)) Q)):za6 P f args h nx K:=by
 unfold za6 at*;intro C ρ w vs S hr ab;obtain⟨R,h1,h2,S'⟩:=S.freeze D T hF fb hf hb;obtain⟨ac,J⟩:=hk (ρ i) R h1 (fun k a=>(h2 k a).2) C ρ w vs S' hr ab;refine⟨ac,J.mono ?_⟩;rintro en w' ⟨out,y,Q,ρ',⟨Z,g0,G,gi,hK⟩,k2,c,k4,k5,k6⟩;refine⟨out,_,Q,ρ',hK,k2,?_,k4,k5,k6⟩;have ad:=S.ne0 D T;obtain⟨Fs,W,V⟩:=S.fz;rw[hF]at W;cases W
 have s:ρ' i=ρ i:=k4 i (S.lt _ _ D)
 have look:∀j x,lget (lput (lput y i e) 0 (.frz F)) j=some x->(j=0/\x=.frz F)\/(j=i/\x=e)\/(j≠0/\j≠i/\lget y j=some x):=by
  intro j x d;by_cases L:j=0
  ·subst L;rw[aR]at d;cases d;exact .inl ⟨rfl,rfl⟩
  ·rw[aM _ _ _ _ L]at d;by_cases M:j=i
   ·subst M;rw[aR]at d;cases d;exact .inr (.inl ⟨rfl,rfl⟩)
   ·rw[aM _ _ _ _ M]at d;exact .inr (.inr ⟨L,M,d⟩)
 have f2:∀k,e.has k->Z (ρ i k)=some (fb k):=fun k a=>G _ _ (h2 k a).2
 have u:∀j k,St.owns (lput (lput y i e) 0 (.frz F)) j k->(j≠i/\St.owns y j k)\/(j=i/\e.has k/\St.owns y 0 (ρ i k)):=by
  rintro j k ⟨x,d,a⟩;rcases look j x d with⟨rfl,rfl⟩ | ⟨rfl,rfl⟩ | ⟨X,g,A⟩
  ·obtain⟨B,I⟩:=js.1 a;exact .inl ⟨Ne.symm ad,_,g0,by simp[Ent.has,G k B (h1 k B I)]⟩
  ·exact .inr ⟨rfl,a,_,g0,by simp[Ent.has,f2 k a]⟩
  ·exact .inl ⟨g,x,A,a⟩
 have E:∀k,St.owns (lput (lput y i e) 0 (.frz F)) 0 k->(F k).isSome=true:=by
  rintro k ⟨x,d,a⟩;rw[aR]at d;cases d;exact a
 refine{ lt:=?_,blk:=?_,wf:=?_,inj:=?_,anch:=c.anch,n0:=c.n0,n1:=c.n1,os:=c.os,tape:=c.tape,output:=c.output,size:=c.size,fr:=c.fr,own:=?_,fz:=⟨F,aR _ _ _,V⟩,id0:=c.id0,only:=?_,lnk:=?_ }
 ·intro j x d;rcases look j x d with⟨rfl,rfl⟩ | ⟨rfl,rfl⟩ | ⟨X,g,A⟩
  ·exact c.pos
  ·exact c.lt _ _ gi
  ·exact c.lt _ _ A
 ·intro j x d k a;rcases look j x d with⟨rfl,rfl⟩ | ⟨rfl,rfl⟩ | ⟨X,g,A⟩
  ·obtain⟨B,I⟩:=js.1 a;have U:=G k B (h1 k B I);obtain⟨o,ho,l⟩:=c.blk 0 _ g0 k (by simp[Ent.has,U]);simp only[Ent.at,U,I,yk]at l ⊢;exact⟨o,ho,l⟩
  ·obtain⟨o,ho,l⟩:=c.blk 0 _ g0 (ρ j k) (by simp[Ent.has,f2 k a]);simp only[Ent.at,f2 k a,yk]at l;rw[c.id0]at ho;refine⟨o,by rw[s];exact ho,?_⟩;rw[<-hf k a]at l;refine SB.ok_congr (ρ:=(resP h).pull ρ') (n:=nx) (fun m hm=>?_) (S.wf _ _ D k a) ((SB.ok_ren (resP h) ρ' _ o).1 l)
   funext q
   simp only[Mu.pull,resP];split
   ·rename_i b hl;rw[k4 m hm,S.lnk m b hl q,k4 0 S.pos,S.id0]
   ·rfl
  ·exact c.blk _ _ A k a
 ·intro j x d k a;rcases look j x d with⟨rfl,rfl⟩ | ⟨rfl,rfl⟩ | ⟨X,g,A⟩
  ·obtain⟨B,I⟩:=js.1 a;simp only[Ent.at,I,yk];exact SB.below_mono c.pos (V k B I)
  ·exact SB.below_mono k5 (S.wf _ _ D k a)
  ·exact c.wf _ _ A k a
 ·intro j k j' k' o1 o2 p;rcases u j k o1 with⟨X,g⟩ | ⟨rfl,g,A⟩<;>rcases u j' k' o2 with⟨r1,Y⟩ | ⟨rfl,Y,r3⟩
  ·exact c.inj _ _ _ _ g Y p
  ·have:=c.inj _ _ _ _ g r3 (by rw[p,c.id0,s]);have L:=this.1;subst L;have O:=this.2;subst O;have:=E _ o1;rw[(h2 k' Y).1]at this;cases this
  ·have:=c.inj _ _ _ _ Y A (by rw[<-p,c.id0,s]);have L:=this.1;subst L;have O:=this.2;subst O;have:=E _ o2;rw[(h2 k g).1]at this;cases this
  ·rw[s]at p;exact S.inj _ _ _ _ ⟨e,D,g⟩ ⟨e,D,Y⟩ p
 ·intro j k o1;rcases u j k o1 with⟨X,g⟩ | ⟨rfl,g,A⟩
  ·exact c.own _ _ g
  ·rw[s];exact S.own _ _ ⟨e,D,g⟩
 ·intro j F1 aa;rcases look j _ aa with⟨rfl,_⟩ | ⟨rfl,h⟩ | ⟨_,_,h3⟩
  ·rfl
  ·rw[<-h]at T;cases T
  ·exact c.only _ _ h3
 ·intro j b hl k;rcases look j _ hl with⟨_,h⟩ | ⟨rfl,h⟩ | ⟨_,_,h3⟩
  ·cases h
  ·rw[<-h]at T;cases T
  ·exact c.lnk _ _ h3 k
end
variable {α:Type}{l:List α}
theorem SlR.lt{nil:Bool}(b:nil=true->l=[]){k:Nat}(a:k < l.length):nil=false:=Sl.lt b a
variable {L:List (List SA)}
theorem SlR.at{R:List SA->α->Prop}{e:Nat}(h:∀(k:Nat) x,l[k]? =some x->∃y,L[e+k]? =some y/\R y x){k:Nat}(a:k < l.length):
  ∃y,L[e+(k:Int).toNat]? =some y/\R y l[k]:=h k l[k] (by simp[a])
theorem SlR.new{F:Fz}{t sz:Nat}{R:List SA->α->Prop}{b cap a:Nat}(d:F b=some (.arr t sz L a))(g:L.length=l.length)
  (h:∀(k:Nat) x,l[k]? =some x->∃y,L[k]? =some y/\R y x):SlR F t sz R (.slice false 0 b 0 sz l.length cap) l:=
 ⟨false,b,0,cap,L,a,rfl,fun h=>(nomatch h),fun _=>d,by omega,fun k x f=>by obtain⟨y,h1,c⟩:=h k x f;exact⟨y,by rw[q9];exact h1,c⟩⟩
def gA{α:Type}(sz i c:Nat):List α->SA
 |[]=>.nilsl
 |_::r=>.slice false i 0 0 sz (r.length+1) c
def gE{α:Type}(t sz:Nat)(e:α->List SA)(c:Nat)(l:List α):Ent:=.opt (!l.isEmpty) (.arr t sz (l.map e) c)
def Plain{α:Type}(e:α->List SA):Prop:=∀x,(∀μ:Mu,(e x).map (SA.ren μ)=e x)/\∀a∈e x,a.below 0
theorem cY{e:α->List SA}(a:Plain e)(h:L=l.map e)(t sz:Nat)(μ:Mu)(c:Nat):(SB.arr t sz L c).ren μ=SB.arr t sz (l.map e) c:=by
 subst h;show SB.arr t sz ((l.map e).map (List.map (SA.ren μ))) c=_;rw[jq];congr 1;exact jp fun x _=>(a x).1 μ
theorem cF{e:α->List SA}(d:Plain e)(t sz n c:Nat)(l:List α):(SB.arr t sz (l.map e) c).below n:=by
 intro x f a b;obtain⟨y,_,rfl⟩:=qz.1 f;exact SA.below_mono (jx _) ((d y).2 a b)
theorem kJ{e:α->List SA}(a:Plain e)(t sz c:Nat)(μ:Mu)(l:List α):(gE t sz e c l).ren μ=gE t sz e c l:=by
 show Ent.opt _ (SB.ren μ _)=_;rw[cY a rfl];rfl
theorem aF{e:α->List SA}(a:Plain e)(t sz n c:Nat)(l:List α):(gE t sz e c l).below n:=cF a t sz n c l
theorem aQ{e:α->List SA}(a:Plain e){t sz c:Nat}{μ:Mu}{x:Option Ent}(h:subE x (gE t sz e c l)):subE x ((gE t sz e c l).ren μ):=by rw[kJ a];exact h
theorem bF{e:α->List SA}(t sz c:Nat)(l:List α):subE (some (gE t sz e c l)) (gE t sz e c l):=⟨rfl,rfl⟩
theorem aZ{e:α->List SA}{t sz c:Nat}(L:List (List SA))(h:L=l.map e):subE (some (.one (.arr t sz L c))) (gE t sz e c l):=by rw[h];exact rfl
theorem ed{μ:Mu}{i j:Nat}(h:μ i 0=(j,0))(sz c n:Nat)(l:List α)(x:α)(a:n=l.length+1):atomE ((gA sz i c (l++[x])).ren μ) (SA.slice false j 0 0 sz n c):=by
 subst a;cases l with
 |nil=>simp only[gA,qv,SA.ren,h];exact⟨rfl,rfl,rfl,.inr ⟨rfl,rfl,rfl,rfl⟩⟩
 |cons y r=>simp only[gA,yd,SA.ren,h];exact⟨rfl,by simp,rfl,.inr ⟨rfl,rfl,rfl,rfl⟩⟩
theorem jC{a:List (List α)}{k:Nat}(b:k < a.length):(a.take (k+1)).flatten=(a.take k).flatten++a[k]:=by
 rw[qf b,yu];simp
theorem ij(a:List (List α))(k:Nat):(a.take k).flatten.length<=a.flatten.length:=by
 have h:=congrArg List.length (congrArg List.flatten (yl k a));rw[yu,qb]at h;omega
theorem jQ:∀l:List SV,argsE l l
 |[]=>trivial
 |v::r=>⟨iI v,jQ r⟩
section
variable {P:Program} {f:FuncId} {args args0:List SV} {F:Fz} {H h:Hp} {NX nx:Nat} {K:Out->Hp->Nat->Prop} {Q:Out->Fz->Prop} {e:Ent}
theorem useFs(g:Fo P F f args0 Q)(j:∀out a,Fz.le F a->Q out a->K out (lput H 0 (.frz a)) NX)(b:lget H 0=some (.frz F):=by exact rfl)(c:argsE args0 (dQ (resP H) args):=by exact jQ _)(d:(args0.all SV.z)=true:=by exact rfl):za6 P f args H NX K:=useFo g b c d j
theorem usePs{v:SV}(g:Fo P F f args0 fun o a=>o=.ret v/\a=F)(j:K (.ret v) (lput H 0 (.frz F)) NX)(b:lget H 0=some (.frz F):=by exact rfl)(c:argsE args0 (dQ (resP H) args):=by exact jQ _)(d:(args0.all SV.z)=true:=by exact rfl):za6 P f args H NX K:=usePu g b c d j
theorem useFt(g:Fo P F f args0 Q)(j:∀out a,Fz.le F a->Q out a->K out (lput H 0 (.frz a)) NX)(b:lget H 0=some (.frz F):=by exact rfl)
  (c:argsE args0 (dQ (resP H) args):=by repeat' (first | exact iI _ | exact trivial | exact rfl | exact⟨rfl,rfl,rfl,.inr ⟨rfl,rfl,rfl,rfl⟩⟩ | exact⟨rfl,rfl,rfl⟩ | refine⟨?_,?_⟩))(d:(args0.all SV.z)=true:=by exact rfl):za6 P f args H NX K:=useFo g b c d j
theorem usePt{v:SV}(g:Fo P F f args0 fun o a=>o=.ret v/\a=F)(j:K (.ret v) (lput H 0 (.frz F)) NX)(b:lget H 0=some (.frz F):=by exact rfl)
  (c:argsE args0 (dQ (resP H) args):=by repeat' (first | exact iI _ | exact trivial | exact rfl | exact⟨rfl,rfl,rfl,.inr ⟨rfl,rfl,rfl,rfl⟩⟩ | exact⟨rfl,rfl,rfl⟩ | refine⟨?_,?_⟩))(d:(args0.all SV.z)=true:=by exact rfl):za6 P f args H NX K:=usePu g b c d j
theorem useS{c:List (Nat×Ent)}{n:Nat}{j:Out->Fz->List (Nat×Ent)->Nat->Prop}(p:Ct P f args0 F c n j)(sl:List (Nat×Mv))(o:bH n c)(q:leH sl H c)
  (u:∀a d k n0,Fz.le F d->j a d k n0->K (a.ren (tau sl n NX)) (lput (ge H (tau sl n NX) k) 0 (.frz d)) (NX+(n0 - n)))
  (l:lget H 0=some (.frz F):=by exact rfl)(m:argsE (dQ (sig sl) args0) (dQ (resP H) args):=by repeat' (first | exact iI _ | exact trivial | exact rfl | exact⟨rfl,rfl,rfl,.inr ⟨rfl,rfl,rfl,rfl⟩⟩ | exact⟨rfl,rfl,rfl⟩ | refine⟨?_,?_⟩))
  (b:chkU sl c n NX=true:=by exact rfl)(g:∀s∈args0,s.below n:=by simp[SV.below,SA.below]):za6 P f args H NX K:=use p sl l m b o g q u
theorem bS(i:Nat)(fb:Nat->SB)(l:∀b a,Fz.le F a->(∀k,e.has k->a (b k)=some (fb k))->za6 P f args (lput (lput h i (.lnk b)) 0 (.frz a)) nx K)
  (g:lget h i=some e:=by exact rfl)(c:lget h 0=some (.frz F):=by exact rfl)(m:e.plain=true:=by exact rfl)(j:∀k,e.has k->(e.at k).ren (resP h)=fb k:=by exact fun _ _=>rfl)(d:∀k,e.has k->(fb k).below 1:=by exact fun _ _=>SB.bB_ok rfl):za6 P f args h nx K:=mB i fb g c m j d l
theorem dZ{n:Nat}{c:Out->Fz->List (Nat×Ent)->Nat->Prop}{out:Out}(i:Nat)(fb:Nat->SB)(m:∀b a,Fz.le F a->(∀k,e.has k->a (b k)=some (fb k))->Cln n c out (lput (lput h i (.lnk b)) 0 (.frz a)) nx)
  (j:lget h i=some e:=by exact rfl)(d:lget h 0=some (.frz F):=by exact rfl)(o:e.plain=true:=by exact rfl)(l:∀k,e.has k->(e.at k).ren (resP h)=fb k:=by exact fun _ _=>rfl)(g:∀k,e.has k->(fb k).below 1:=by exact fun _ _=>SB.bB_ok rfl):Cln n c out h nx:=cD i fb j d o l g m
theorem di{c:Code}{a:St}{Q:SE->St->Prop}(i:Nat)(fb:Nat->SB)(n:∀b d,Fz.le F d->(∀k,e.has k->d (b k)=some (fb k))->WP P c { a with h:=lput (lput a.h i (.lnk b)) 0 (.frz d) } Q)
  (l:lget a.h i=some e:=by exact rfl)(g:lget a.h 0=some (.frz F):=by exact rfl)(o:e.plain=true:=by exact rfl)(m:∀k,e.has k->(e.at k).ren (resP a.h)=fb k:=by exact fun _ _=>rfl)(j:∀k,e.has k->(fb k).below 1:=by exact fun _ _=>SB.bB_ok rfl):WP P c a Q:=pU i fb l g o m j n
theorem endFs{F1:Fz}{u:Out}(out:Out)(a:Fz.le F F1)(g:Q out F1)(b:lget h 0=some (.frz F1):=by exact rfl)(d:outE out (u.ren (resP h)):=by exact aP _)(c:out.z=true:=by exact rfl):Cln 1 (FoK F Q) u h nx:=endFo out F1 b a (Fz.r F1) g d c
end
end Sx
