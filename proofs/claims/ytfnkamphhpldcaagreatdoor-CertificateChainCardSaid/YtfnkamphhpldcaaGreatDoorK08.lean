import Derived.Test.YtfnkamphhpldcaaGreatDoorK07
import Derived.LoopN
import Derived.Recover
import Derived.Below
set_option maxHeartbeats 64000000
namespace Sx
open Go Go.RowKit
theorem ud(a:SA):atomE a a:=by
 cases a<;>simp[atomE]
theorem o9:∀l:List SC,tupE l l
 |[]=>trivial
 |.va a::r=>⟨ud a,o9 r⟩
 |.agg _::r=>⟨rfl,o9 r⟩
theorem gX(v:SV):svE v v:=by
 cases v with
 |va a=>exact ud a
 |agg l=>rfl
 |tup l=>exact o9 l
 |junk=>rfl
theorem aO(o:Out):outE o o:=by
 cases o with
 |ret v=>exact gX v
 |panic v=>rfl
section
variable {P:Program} {Θ:Tys} {C:Ctx} {ρ:Rho} {st:St} {a:Act} {w:World} {Q:SE->St->Prop}
def n8(P:Program)(Θ:Tys)(c:Code)(Q:SE->St->Prop):Nat->St->Prop
 |0,_=>False
 |n+1,st=>sx P Θ c st fun e b=>(match e with
  |.normal=>n8 P Θ c Q n b
  |.ret=>Q .ret b
  |.exit id=>Q (.exit id) b
  |.panic v=>Q (.panic v) b)
theorem sX(hΘ:Θ.Ok P){b:Code}:∀(n:Nat) (st:St) (ρ:Rho) (a:Act) (w:World),n8 P Θ b Q n st->Den C ρ st a w->Code.rounds P b (Up C Q) n a w
 |0,st,ρ,a,w,h,_=>h.elim
 |n+1,st,ρ,a,w,h,D=>by
  have h1:=ef hΘ b st _ h;unfold WP at h1;refine wp_mono (h1 C ρ a w D) ?_;rintro e i k ⟨j,c,g,f,rfl,d⟩;cases j with
  |normal=>exact sX hΘ n c g i k f d
  |ret=>exact⟨.ret,c,g,f,rfl,d⟩
  |exit id=>exact⟨.exit id,c,g,f,rfl,d⟩
  |panic v=>exact⟨.panic v,c,g,f,rfl,d⟩
theorem rounds(hΘ:Θ.Ok P){b:Code}(n:Nat)(h:n8 P Θ b Q n st):WP P (.loop b) st Q:=by
 unfold WP;intro C ρ a w D;exact wp_loop_rounds n (sX hΘ n st ρ a w h D)
theorem Sat.belowW{h:Hp}{nx:Nat}{w f:World}(S:Sat C ρ h nx w)(hb:Below w.heap.size w f):Sat C ρ h nx f:=
 { S with
  blk:=fun i e j k l=>by
   obtain⟨o,ho,d⟩:=S.blk i e j k l;exact⟨o,by rw[hb.block _ (jp.1 ho).1];exact ho,d⟩
  os:=hb.os.trans S.os,tape:=hb.tape.trans S.tape,output:=hb.output.trans S.output
  size:=jm S.size hb.size
  fr:=fun b c g=>by rw[hb.block b (yy c S.size)];exact S.fr b c g }
theorem gh{F:Fz}{f:FuncId}{args:List SV}{out:Out}{vs:List Value}(c:Enters P f)(d:out.z=true)
  (n:∀ρ b,relL ρ args b->b=vs)(e:Ending)(l:∀ρ,out.rel ρ e)
  (j:∀C ρ w,Sat C ρ [[(0,.frz F)]] 1 w->Calls P f vs.toArray w fun e' g=>e'=e/\Below w.heap.size w g):
  Fo P F f args fun o h=>o=out/\h=F:=by
 unfold Fo za7;intro C ρ w b S m i;obtain rfl:=n ρ b m;refine⟨c,(j C ρ w S).mono ?_⟩;rintro e' g ⟨rfl,hb⟩;refine⟨out,[[(0,.frz F)]],1,ρ,?_,l ρ,S.belowW hb,fun _ _=>rfl,qj _,?_⟩
 ·exact endFo out F rfl (Fz.r F) (Fz.r F) ⟨rfl,rfl⟩ (by
   rw[Out.ren_id (μ:=resP [[(0,.frz F)]]) (.inl d) (fun k=>rfl)];exact aO out) d
 ·have:=Out.z_below d;cases out with
  |ret v=>exact this
  |panic v=>trivial
def kW:Option Value->FrameMode
 |none=>.returning
 |some v=>.panicking [{ v,recovered:=false }]
@[irreducible] def DefWP (P:Program) (f:FuncId) (args:List SA) (h:Hp) (nx:Nat) (m:Option Value) (K:Hp->Nat->Prop):Prop:=
 ∀C ρ w,Sat C ρ h nx w->(∀a∈args,a.below nx)->
  Enters P f/\CallsD P f (args.map (SA.den ρ)).toArray (kW m) w fun e u w'=>∃v h' nx' ρ',e=.returned v/\settle u=.returning/\K h' nx'/\Sat C ρ' h' nx' w'/\(∀i,i < nx->ρ' i=ρ i)/\nx<=nx'
def endQD(P:Program)(Θ:Tys)(b:List ResultVar)(K:Out->Hp->Nat->Prop):SE->St->Prop:=fun e st=>
 match e with
 |.normal=>(match st.d with
  |(.fn f,as)::r=>r=[]/\DefWP P f as st.h st.nx none fun h nx=>sres Θ { st with h:=h,nx:=nx } b fun v=>K (.ret v) h nx
  |_=>False)
 |.ret=>(match st.d with
  |(.fn f,as)::r=>r=[]/\DefWP P f as st.h st.nx none fun h nx=>sres Θ { st with h:=h,nx:=nx } b fun v=>K (.ret v) h nx
  |_=>False)
 |.panic v=>(match st.d with
  |(.fn f,as)::r=>r=[]/\DefWP P f as st.h st.nx (some v) fun h nx=>sres Θ { st with h:=h,nx:=nx } b fun v=>K (.ret v) h nx
  |_=>False)
 |.exit _=>False
theorem oW(hΘ:Θ.Ok P){fn:Func}{st:St}{y:List ResultVar}(q:fn.results.toList=y){K:Out->Hp->Nat->Prop}{R:Ending->World->Prop}(m:Option Value){f:FuncId}{as:List SA}{r:List (Dk×List SA)}
  (O:st.d=(.fn f,as)::r)(T:r=[])(D:Den C ρ st a w)
  (x:DefWP P f as st.h st.nx m fun h nx=>sres Θ { st with h:=h,nx:=nx } y fun v=>K (.ret v) h nx)
  (L:∀v sv p b o n,K (.ret sv) p b->sv.rel o v->sv.below b->Sat C o p b n->(∀i,i < st.nx->o i=ρ i)->st.nx<=b->R (.returned v) n):
  Leaves P fn a.tmps R a.defers (kW m) w:=by
 have j:=D.df;have k:=D.dw;subst T;rw[O]at j k;rw[j];unfold DefWP at x;obtain⟨c,M⟩:=x C ρ w D.sat (k (.fn f,as) ss);unfold Enters at c;refine⟨by cases m<;>simp[kW],.func f,#[],f,(as.map (SA.den ρ)).toArray,rfl,?_,?_⟩
 ·have E:(as.map (SA.den ρ)).toArray++(#[]:Array Value)=(as.map (SA.den ρ)).toArray:=by simp
  simp only[defOf,defV,invoke,E,c]
 ·refine M.mono ?_;rintro e u n ⟨v,p,b,o,rfl,U,S,s,g,l⟩;have B:=D.heap s g l;obtain⟨A,sv,h1,G,I,J⟩:=jV (fn:=fn) hΘ B (by rw[q];exact S);show Leaves P fn a.tmps R [] (settle u) n;rw[U];exact⟨A,h1,L A sv p b o n J G I s g l⟩
theorem Bt(hΘ:Θ.Ok P){f:FuncId}{fn:Func}{c:Code}{args:List SV}{h:Hp}{nx:Nat}{K:Out->Hp->Nat->Prop}(U:P.funcs[f]? =some fn)(hb:fn.body=some c)(hn:(fn.name== "runtime.NumGoroutine")=false)
  (nt:Nat)(X:List ResultVar)(ac:fn.ntmps=nt)(p:fn.results.toList=X)(hl:Nat.ble args.length nt=true)
  (W:WP P c ⟨[dV 0 args],h,nx,nx,nt,[]⟩ (endQD P Θ X K)):za7 P f args h nx K:=by
 unfold za7;intro C ρ w vs S j O;refine⟨enters_of U hb hn,?_⟩;unfold WP at W
 let y:Ctx:={ C with ρ0:=ρ,n0:=nx }
 have Y:Sat y ρ h nx w:={ S with anch:=fun _ _ _=>rfl,n0:=qj _,n1:=S.pos }
 have V:=ky j;have ab:=nb hl
 have D:Den y ρ ⟨[dV 0 args],h,nx,nx,nt,[]⟩ { tmps:=vs.toArray++Array.replicate (fn.ntmps - vs.toArray.size) undef,defers:=[] } w:=by
  refine{ sat:=Y,nt:=?_,tm:=?_,tw:=?_,n0:=rfl,df:=rfl,dw:=by simp }
  ·simp;omega
  ·intro n s l;simp only[lget]at l;split at l
   ·rename_i v R;cases l
    obtain⟨u,_,g,Z,_⟩:=fD (nx:=nx) args vs 0 n s j R;simp only[qa7]at g;refine⟨u,?_,Z⟩;rw[qa9 (by simpa using(qh.1 g).1)];simpa using g
   ·simp at l
  ·intro n s l;simp only[lget]at l;split at l
   ·rename_i v R;cases l
    obtain⟨u,_,_,_,h4⟩:=fD (nx:=nx) args vs 0 n s j R;exact O s h4
   ·simp at l
 refine calls_of_wp_defers U hb (wp_mono (W y ρ _ w D) ?_);rintro e a' w' ⟨se,G,I,d,rfl,J⟩
 have A:∀{o:Rho} {g:Hp} {b:Nat} {x:World},Sat y o g b x->Sat C o g b x:=fun q=>{ q with
  anch:=fun i L k=>by rw[q.anch i (yy L S.n0) k];exact S.anch i L k
  n0:=jm S.n0 q.n0
  n1:=S.n1 }
 have fin:∀v sv g b o x,K (.ret sv) g b->sv.rel o v->sv.below b->Sat y o g b x->(∀i,i < G.nx->o i=I i)->G.nx<=b->
   ∃out T m I,K out T m/\out.rel I (Ending.returned v)/\Sat C I T m x/\(∀i,i < nx->I i=ρ i)/\nx<=m/\(match out with | .ret s=>s.below m | .panic _=>True):=by
  intro v sv g b o x hk hr M q aa E;exact⟨.ret sv,g,b,o,hk,⟨v,rfl,hr⟩,A q,fun i L=>funext fun k=>q.anch i L k,jm J.sat.n0 E,M⟩
 cases se with
 |normal=>
  simp only[endQD]at d;split at d
  ·rename_i f2 as r B;exact oW hΘ p none B d.1 J d.2 fin
  ·exact d.elim
 |ret=>
  simp only[endQD]at d;split at d
  ·rename_i f2 as r B;exact oW hΘ p none B d.1 J d.2 fin
  ·exact d.elim
 |panic v=>
  simp only[endQD]at d;split at d
  ·rename_i f2 as r B;exact oW hΘ p (some v) B d.1 J d.2 fin
  ·exact d.elim
 |exit id=>exact d.elim
def sasOf:List SV->Option (List SA)
 |[]=>some []
 |.va a::r=>(match sasOf r with
  |some l=>some (a::l)
  |none=>none)
 |_::_=>none
theorem ws{ρ:Rho}{n:Nat}:∀{l:List SV} {as:List SA} {vs:List Value},sasOf l=some as->relL ρ l vs->(∀s∈l,s.below n)->vs=as.map (SA.den ρ)/\∀a∈as,a.below n
 |[],as,[],h,_,_=>by simp[sasOf]at h;subst h;simp
 |[],as,v::r,h,hr,_=>hr.elim
 |s::r,as,[],h,hr,_=>hr.elim
 |s::r,as,v::vr,h,hr,hb=>by
  unfold sasOf at h;split at h
  ·rename_i b;cases b
  ·rename_i a g b;cases b
   split at h
   ·rename_i f d;cases h
    obtain⟨h1,c⟩:=ws d hr.2 (fun s e=>hb s (by simp[e]));refine⟨by rw[h1,hr.1];rfl,?_⟩;intro x hx;rcases qi.1 hx with rfl | hx
    ·exact hb (.va x) ss
    ·exact c x hx
   ·cases h
  ·cases h
theorem Bf{id:Nat}{o:Oper}{f:FuncId}{args:Array Operand}{ts:Array TypeId}(j:o.op=.defer ⟨.value (.func f),args,ts⟩)(q:o.guard=none)(e:o.dst=none){as:List SA}(has:sasOf (evL st.t args.toList)=some as)
  (s:Q .normal { st with d:=(.fn f,as)::st.d }):WP P (.region id #[o] false) st Q:=by
 unfold WP;intro C ρ a w D;refine wp_region_list ?_;obtain⟨h1,p⟩:=kG D args.toList;obtain⟨l,m⟩:=ws has h1 p
 have g:(execOp a.eval o).run P w=.ok (.defer (defOf ρ (.fn f,as))) w:=by
  obtain⟨k,u,type,pos,h,guard⟩:=o;simp only at j;subst j;have n:args.map a.eval=(as.map (SA.den ρ)).toArray:=by apply Array.ext';simpa using l
  simp[execOp,resolve,Act.eval,Deferred.ofValue,defOf,defV,n]
 have c:Region.wanted o (yielded #[o] a.tmps)=true:=by simp[Region.wanted,q]
 show wpList P #[o] (Up C Q) [o] a w;simp only[wpList,c,if_true];left;simp only[Oper.wp,g,Oper.upon];refine⟨.normal,_,ρ,s,rfl,?_⟩;rw[e]
 have i:∀x∈(.fn f,as)::st.d,∀b∈x.2,b.below st.nx:=by
  intro x hx;rcases qi.1 hx with rfl | hx
  ·exact m
  ·exact D.dw x hx
 exact{ sat:=D.sat,nt:=D.nt,tm:=D.tm,tw:=D.tw,n0:=D.n0,df:=by simp[Act.put,D.df],dw:=i }
end
end Sx
namespace Sx
open Go
def ckI(s:List (Nat×Mv))(upd jl:List (Nat×SV))(hup:List (Nat×Ent))(n0 nt N0 N:Nat):Bool:=
 (jl.all fun p=>fB p.2&&Nat.ble (p.1+1) nt)&&(upd.all fun p=>Nat.ble (p.1+1) nt)&&Nat.ble n0 N0&&Nat.ble N0 N&&(upd.all fun p=>p.2.bB N)&&chkS s hup N0 N
variable {T:List (List (Nat×SV))}{hup:List (Nat×Ent)}{jl upd:List (Nat×SV)}
theorem leI{H:Hp}{n0 nt N0 N:Nat}(s:List (Nat×Mv))(i:WfH H N0)(j:WfT T N0)
  (a:ckI s upd jl hup n0 nt N0 N=true)(l:bH N hup)(k:leT s T upd)(hh:leH s H hup):Le ⟨T,H,N0,n0,nt,[]⟩ ⟨upd::jl::T,hup::H,N,n0,nt,[]⟩:=by
 simp only[ckI,qd]at a;obtain⟨⟨⟨⟨⟨b,c⟩,d⟩,e⟩,f⟩,g⟩:=a;exact qP N s i j e d (fun _ h=>nomatch h) b c g (bT_of f) l k hh
theorem leR{b:List (Nat×SV)}{H:Hp}{a:List (Nat×Ent)}{nx1 n0 nt N0 N:Nat}(s:List (Nat×Mv))(m:WfH H N0)(n:WfT T N0)
  (c:(ckI s upd jl hup n0 nt N0 N&&(b.all fun p=>(aget upd p.1).isSome||(aget jl p.1).isSome)&&(a.all fun p=>(aget hup p.1).isSome||Nat.ble N0 p.1))=true)
  (q:bH N hup)(o:leT s (b::jl::T) upd)(hh:leH s (a::H) hup):Le ⟨b::jl::T,a::H,nx1,n0,nt,[]⟩ ⟨upd::jl::T,hup::H,N,n0,nt,[]⟩:=by
 simp only[ckI,qd]at c;obtain⟨⟨⟨⟨⟨⟨⟨d,e⟩,f⟩,g⟩,i⟩,j⟩,k⟩,l⟩:=c;exact pG N0 N s m n g f (fun _ h=>nomatch h) d e k l j (bT_of i) q o hh
theorem oX{β:Type}{R:List (List (Nat×β))}{n:Nat}:∀(ts:List (List (Nat×β))),(∀l∈ts,aget l n=none)->lget (ts++R) n=lget R n
 |[],_=>rfl
 |l::r,h=>by
  have h1:=h l ss;show(match aget l n with | some v=>some v | none=>lget (r++R) n)=_;rw[h1];exact oX r fun b a=>h b (by simp[a])
theorem leRn(ts:List (List (Nat×SV))){H:Hp}(a:List (List (Nat×Ent))){nx1 n0 nt N0 N:Nat}(s:List (Nat×Mv))(x:WfH H N0)(y:WfT T N0)
  (d:(ckI s upd jl hup n0 nt N0 N&&(ts.all fun l=>l.all fun p=>(aget upd p.1).isSome||(aget jl p.1).isSome)&&(a.all fun l=>l.all fun p=>(aget hup p.1).isSome||Nat.ble N0 p.1))=true)
  (B:bH N hup)(A:leT s (ts++(jl::T)) upd)(hh:leH s (a++H) hup):Le ⟨ts++(jl::T),a++H,nx1,n0,nt,[]⟩ ⟨upd::jl::T,hup::H,N,n0,nt,[]⟩:=by
 simp only[ckI,qd]at d;obtain⟨⟨⟨⟨⟨⟨⟨e,g⟩,j⟩,k⟩,o⟩,q⟩,u⟩,w⟩:=d;refine nQ N0 N s x y (nb k) (nb j) (fun _ h=>nomatch h) A ?_ e g hh ?_ q (bT_of o) B
 ·intro n h1 c;rw[oX ts fun l b=>lc (f:=fun m=>(aget upd m).isSome||(aget jl m).isSome) (qo.1 u l b) (by simp[h1,c])];simp[lget,c]
 ·intro i D h1;refine oX a fun l b=>lc (f:=fun m=>(aget hup m).isSome||Nat.ble N0 m) (qo.1 w l b) ?_
  simp only[h1,Option.isSome_none,qa8];cases hb:Nat.ble N0 i with
  |false=>rfl
  |true=>have:=nb hb;omega
section
variable {P:Program} {h:Hp} {nx:Nat} {i:Nat} {e:Ent} {F:Fz}
theorem lend{f:FuncId}{args:List SV}{K:Out->Hp->Nat->Prop}(i:Nat)(fb:Nat->SB)(D:lget h i=some e)(hF:lget h 0=some (.frz F))(T:e.plain=true)
  (hf:∀k,e.has k->(e.at k).ren (resP h)=fb k)(hb:∀k,e.has k->(fb k).below 1)
  (hk:∀b R,Fz.le F R->(∀k,e.has k->R (b k)=some (fb k))->za7 P f args (lput (lput h i (.lnk b)) 0 (.frz R)) nx
   (fun out y Q=>∃Z,lget y 0=some (.frz Z)/\Fz.le R Z/\lget y i=some (.lnk b)/\K out (lput (lput y i e) 0 (.frz F)) Q)):za7 P f args h nx K:=by
 unfold za7 at*;intro C ρ w vs S hr ab;obtain⟨R,h1,h2,S'⟩:=S.freeze D T hF fb hf hb;obtain⟨ac,J⟩:=hk (ρ i) R h1 (fun k a=>(h2 k a).2) C ρ w vs S' hr ab;refine⟨ac,J.mono ?_⟩;rintro en w' ⟨out,y,Q,ρ',⟨Z,g0,G,gi,hK⟩,k2,c,k4,k5,k6⟩;refine⟨out,_,Q,ρ',hK,k2,?_,k4,k5,k6⟩;have ad:=S.ne0 D T;obtain⟨Fs,W,V⟩:=S.fz;rw[hF]at W;cases W
 have s:ρ' i=ρ i:=k4 i (S.lt _ _ D)
 have look:∀j x,lget (lput (lput y i e) 0 (.frz F)) j=some x->(j=0/\x=.frz F)\/(j=i/\x=e)\/(j≠0/\j≠i/\lget y j=some x):=by
  intro j x d;by_cases L:j=0
  ·subst L;rw[aR]at d;cases d;exact .inl ⟨rfl,rfl⟩
  ·rw[aN _ _ _ _ L]at d;by_cases M:j=i
   ·subst M;rw[aR]at d;cases d;exact .inr (.inl ⟨rfl,rfl⟩)
   ·rw[aN _ _ _ _ M]at d;exact .inr (.inr ⟨L,M,d⟩)
 have f2:∀k,e.has k->Z (ρ i k)=some (fb k):=fun k a=>G _ _ (h2 k a).2
 have u:∀j k,St.owns (lput (lput y i e) 0 (.frz F)) j k->(j≠i/\St.owns y j k)\/(j=i/\e.has k/\St.owns y 0 (ρ i k)):=by
  rintro j k ⟨x,d,a⟩;rcases look j x d with⟨rfl,rfl⟩ | ⟨rfl,rfl⟩ | ⟨X,g,A⟩
  ·obtain⟨B,I⟩:=jt.1 a;exact .inl ⟨Ne.symm ad,_,g0,by simp[Ent.has,G k B (h1 k B I)]⟩
  ·exact .inr ⟨rfl,a,_,g0,by simp[Ent.has,f2 k a]⟩
  ·exact .inl ⟨g,x,A,a⟩
 have E:∀k,St.owns (lput (lput y i e) 0 (.frz F)) 0 k->(F k).isSome=true:=by
  rintro k ⟨x,d,a⟩;rw[aR]at d;cases d;exact a
 refine{ lt:=?_,blk:=?_,wf:=?_,inj:=?_,anch:=c.anch,n0:=c.n0,n1:=c.n1,os:=c.os,tape:=c.tape,output:=c.output,size:=c.size,fr:=c.fr,own:=?_,fz:=⟨F,aR _ _ _,V⟩,id0:=c.id0,only:=?_,lnk:=?_ }
 ·intro j x d;rcases look j x d with⟨rfl,rfl⟩ | ⟨rfl,rfl⟩ | ⟨X,g,A⟩
  ·exact c.pos
  ·exact c.lt _ _ gi
  ·exact c.lt _ _ A
 ·intro j x d k a;rcases look j x d with⟨rfl,rfl⟩ | ⟨rfl,rfl⟩ | ⟨X,g,A⟩
  ·obtain⟨B,I⟩:=jt.1 a;have U:=G k B (h1 k B I);obtain⟨o,ho,l⟩:=c.blk 0 _ g0 k (by simp[Ent.has,U]);simp only[Ent.at,U,I,yh]at l ⊢;exact⟨o,ho,l⟩
  ·obtain⟨o,ho,l⟩:=c.blk 0 _ g0 (ρ j k) (by simp[Ent.has,f2 k a]);simp only[Ent.at,f2 k a,yh]at l;rw[c.id0]at ho;refine⟨o,by rw[s];exact ho,?_⟩;rw[<-hf k a]at l;refine SB.ok_congr (ρ:=(resP h).pull ρ') (n:=nx) (fun m hm=>?_) (S.wf _ _ D k a) ((SB.ok_ren (resP h) ρ' _ o).1 l)
   funext q
   simp only[Mu.pull,resP];split
   ·rename_i b hl;rw[k4 m hm,S.lnk m b hl q,k4 0 S.pos,S.id0]
   ·rfl
  ·exact c.blk _ _ A k a
 ·intro j x d k a;rcases look j x d with⟨rfl,rfl⟩ | ⟨rfl,rfl⟩ | ⟨X,g,A⟩
  ·obtain⟨B,I⟩:=jt.1 a;simp only[Ent.at,I,yh];exact SB.below_mono c.pos (V k B I)
  ·exact SB.below_mono k5 (S.wf _ _ D k a)
  ·exact c.wf _ _ A k a
 ·intro j k j' k' o1 o2 p;rcases u j k o1 with⟨X,g⟩ | ⟨rfl,g,A⟩<;>rcases u j' k' o2 with⟨r1,Y⟩ | ⟨rfl,Y,r3⟩
  ·exact c.inj _ _ _ _ g Y p
  ·have:=c.inj _ _ _ _ g r3 (by rw[p,c.id0,s]);have L:=this.1;subst L;have O:=this.2;subst O;have:=E _ o1;rw[(h2 k' Y).1]at this;cases this
  ·have:=c.inj _ _ _ _ Y A (by rw[<-p,c.id0,s]);have L:=this.1;subst L;have O:=this.2;subst O;have:=E _ o2;rw[(h2 k g).1]at this;cases this
  ·rw[s]at p;exact S.inj _ _ _ _ ⟨e,D,g⟩ ⟨e,D,Y⟩ p
 ·intro j k o1;rcases u j k o1 with⟨X,g⟩ | ⟨rfl,g,A⟩
  ·exact c.own _ _ g
  ·rw[s];exact S.own _ _ ⟨e,D,g⟩
 ·intro j F1 aa;rcases look j _ aa with⟨rfl,_⟩ | ⟨rfl,h⟩ | ⟨_,_,h3⟩
  ·rfl
  ·rw[<-h]at T;cases T
  ·exact c.only _ _ h3
 ·intro j b hl k;rcases look j _ hl with⟨_,h⟩ | ⟨rfl,h⟩ | ⟨_,_,h3⟩
  ·cases h
  ·rw[<-h]at T;cases T
  ·exact c.lnk _ _ h3 k
end
variable {α:Type}{l:List α}
theorem SlR.lt{nil:Bool}(b:nil=true->l=[]){k:Nat}(a:k < l.length):nil=false:=Sl.lt b a
variable {L:List (List SA)}
theorem SlR.at{R:List SA->α->Prop}{e:Nat}(h:∀(k:Nat) x,l[k]? =some x->∃y,L[e+k]? =some y/\R y x){k:Nat}(a:k < l.length):
  ∃y,L[e+(k:Int).toNat]? =some y/\R y l[k]:=h k l[k] (by simp[a])
theorem SlR.new{F:Fz}{t sz:Nat}{R:List SA->α->Prop}{b cap a:Nat}(d:F b=some (.arr t sz L a))(g:L.length=l.length)
  (h:∀(k:Nat) x,l[k]? =some x->∃y,L[k]? =some y/\R y x):SlR F t sz R (.slice false 0 b 0 sz l.length cap) l:=
 ⟨false,b,0,cap,L,a,rfl,fun h=>(nomatch h),fun _=>d,by omega,fun k x f=>by obtain⟨y,h1,c⟩:=h k x f;exact⟨y,by rw[qz];exact h1,c⟩⟩
def gA{α:Type}(sz i c:Nat):List α->SA
 |[]=>.nilsl
 |_::r=>.slice false i 0 0 sz (r.length+1) c
def gE{α:Type}(t sz:Nat)(e:α->List SA)(c:Nat)(l:List α):Ent:=.opt (!l.isEmpty) (.arr t sz (l.map e) c)
def Plain{α:Type}(e:α->List SA):Prop:=∀x,(∀μ:Mu,(e x).map (SA.ren μ)=e x)/\∀a∈e x,a.below 0
theorem cI{e:α->List SA}(a:Plain e)(h:L=l.map e)(t sz:Nat)(μ:Mu)(c:Nat):(SB.arr t sz L c).ren μ=SB.arr t sz (l.map e) c:=by
 subst h;show SB.arr t sz ((l.map e).map (List.map (SA.ren μ))) c=_;rw[q8];congr 1;exact qy fun x _=>(a x).1 μ
theorem bX{e:α->List SA}(d:Plain e)(t sz n c:Nat)(l:List α):(SB.arr t sz (l.map e) c).below n:=by
 intro x f a b;obtain⟨y,_,rfl⟩:=jk.1 f;exact SA.below_mono (js _) ((d y).2 a b)
theorem kQ{e:α->List SA}(a:Plain e)(t sz c:Nat)(μ:Mu)(l:List α):(gE t sz e c l).ren μ=gE t sz e c l:=by
 show Ent.opt _ (SB.ren μ _)=_;rw[cI a rfl];rfl
theorem aC{e:α->List SA}(a:Plain e)(t sz n c:Nat)(l:List α):(gE t sz e c l).below n:=bX a t sz n c l
theorem aH{e:α->List SA}(a:Plain e){t sz c:Nat}{μ:Mu}{x:Option Ent}(h:subE x (gE t sz e c l)):subE x ((gE t sz e c l).ren μ):=by rw[kQ a];exact h
theorem aV{e:α->List SA}(t sz c:Nat)(l:List α):subE (some (gE t sz e c l)) (gE t sz e c l):=⟨rfl,rfl⟩
theorem bC{e:α->List SA}{t sz c:Nat}(L:List (List SA))(h:L=l.map e):subE (some (.one (.arr t sz L c))) (gE t sz e c l):=by rw[h];exact rfl
theorem cO{μ:Mu}{i j:Nat}(h:μ i 0=(j,0))(sz c n:Nat)(l:List α)(x:α)(a:n=l.length+1):atomE ((gA sz i c (l++[x])).ren μ) (SA.slice false j 0 0 sz n c):=by
 subst a;cases l with
 |nil=>simp only[gA,qw,SA.ren,h];exact⟨rfl,rfl,rfl,.inr ⟨rfl,rfl,rfl,rfl⟩⟩
 |cons y r=>simp only[gA,jz,SA.ren,h];exact⟨rfl,by simp,rfl,.inr ⟨rfl,rfl,rfl,rfl⟩⟩
theorem k8{a:List (List α)}{k:Nat}(b:k < a.length):(a.take (k+1)).flatten=(a.take k).flatten++a[k]:=by
 rw[qe b,yi];simp
theorem jF(a:List (List α))(k:Nat):(a.take k).flatten.length<=a.flatten.length:=by
 have h:=congrArg List.length (congrArg List.flatten (yw k a));rw[yi,qb]at h;omega
theorem jH:∀l:List SV,argsE l l
 |[]=>trivial
 |v::r=>⟨gX v,jH r⟩
section
variable {P:Program} {f:FuncId} {args args0:List SV} {F:Fz} {H h:Hp} {NX nx:Nat} {K:Out->Hp->Nat->Prop} {Q:Out->Fz->Prop} {e:Ent}
theorem useFs(d:Fo P F f args0 Q)(g:∀out a,Fz.le F a->Q out a->K out (lput H 0 (.frz a)) NX)(b:lget H 0=some (.frz F):=by exact rfl)(c:argsE args0 (dR (resP H) args):=by exact jH _)(hb:(args0.all SV.z)=true:=by exact rfl):za7 P f args H NX K:=useFo d b c hb g
theorem usePs{v:SV}(d:Fo P F f args0 fun o a=>o=.ret v/\a=F)(g:K (.ret v) (lput H 0 (.frz F)) NX)(b:lget H 0=some (.frz F):=by exact rfl)(c:argsE args0 (dR (resP H) args):=by exact jH _)(hb:(args0.all SV.z)=true:=by exact rfl):za7 P f args H NX K:=usePu d b c hb g
theorem useFt(d:Fo P F f args0 Q)(g:∀out a,Fz.le F a->Q out a->K out (lput H 0 (.frz a)) NX)(b:lget H 0=some (.frz F):=by exact rfl)
  (c:argsE args0 (dR (resP H) args):=by repeat' (first | exact gX _ | exact trivial | exact rfl | exact⟨rfl,rfl,rfl,.inr ⟨rfl,rfl,rfl,rfl⟩⟩ | exact⟨rfl,rfl,rfl⟩ | refine⟨?_,?_⟩))(hb:(args0.all SV.z)=true:=by exact rfl):za7 P f args H NX K:=useFo d b c hb g
theorem usePt{v:SV}(d:Fo P F f args0 fun o a=>o=.ret v/\a=F)(g:K (.ret v) (lput H 0 (.frz F)) NX)(b:lget H 0=some (.frz F):=by exact rfl)
  (c:argsE args0 (dR (resP H) args):=by repeat' (first | exact gX _ | exact trivial | exact rfl | exact⟨rfl,rfl,rfl,.inr ⟨rfl,rfl,rfl,rfl⟩⟩ | exact⟨rfl,rfl,rfl⟩ | refine⟨?_,?_⟩))(hb:(args0.all SV.z)=true:=by exact rfl):za7 P f args H NX K:=usePu d b c hb g
theorem useS{c:List (Nat×Ent)}{n:Nat}{j:Out->Fz->List (Nat×Ent)->Nat->Prop}(o:Ct P f args0 F c n j)(sl:List (Nat×Mv))(hb:bH n c)(hh:leH sl H c)
  (p:∀a d k n0,Fz.le F d->j a d k n0->K (a.ren (tau sl n NX)) (lput (gw H (tau sl n NX) k) 0 (.frz d)) (NX+(n0 - n)))
  (l:lget H 0=some (.frz F):=by exact rfl)(m:argsE (dR (sig sl) args0) (dR (resP H) args):=by repeat' (first | exact gX _ | exact trivial | exact rfl | exact⟨rfl,rfl,rfl,.inr ⟨rfl,rfl,rfl,rfl⟩⟩ | exact⟨rfl,rfl,rfl⟩ | refine⟨?_,?_⟩))
  (b:chkU sl c n NX=true:=by exact rfl)(g:∀s∈args0,s.below n:=by simp[SV.below,SA.below]):za7 P f args H NX K:=use o sl l m b hb g hh p
theorem bM(i:Nat)(fb:Nat->SB)(j:∀b a,Fz.le F a->(∀k,e.has k->a (b k)=some (fb k))->za7 P f args (lput (lput h i (.lnk b)) 0 (.frz a)) nx K)
  (d:lget h i=some e:=by exact rfl)(c:lget h 0=some (.frz F):=by exact rfl)(l:e.plain=true:=by exact rfl)(g:∀k,e.has k->(e.at k).ren (resP h)=fb k:=by exact fun _ _=>rfl)(hb:∀k,e.has k->(fb k).below 1:=by exact fun _ _=>SB.bB_ok rfl):za7 P f args h nx K:=ru i fb d c l g hb j
theorem eB{n:Nat}{c:Out->Fz->List (Nat×Ent)->Nat->Prop}{out:Out}(i:Nat)(fb:Nat->SB)(l:∀b a,Fz.le F a->(∀k,e.has k->a (b k)=some (fb k))->Cln n c out (lput (lput h i (.lnk b)) 0 (.frz a)) nx)
  (g:lget h i=some e:=by exact rfl)(d:lget h 0=some (.frz F):=by exact rfl)(m:e.plain=true:=by exact rfl)(j:∀k,e.has k->(e.at k).ren (resP h)=fb k:=by exact fun _ _=>rfl)(hb:∀k,e.has k->(fb k).below 1:=by exact fun _ _=>SB.bB_ok rfl):Cln n c out h nx:=cu i fb g d m j hb l
theorem dh{c:Code}{a:St}{Q:SE->St->Prop}(i:Nat)(fb:Nat->SB)(m:∀b d,Fz.le F d->(∀k,e.has k->d (b k)=some (fb k))->WP P c { a with h:=lput (lput a.h i (.lnk b)) 0 (.frz d) } Q)
  (j:lget a.h i=some e:=by exact rfl)(g:lget a.h 0=some (.frz F):=by exact rfl)(n:e.plain=true:=by exact rfl)(l:∀k,e.has k->(e.at k).ren (resP a.h)=fb k:=by exact fun _ _=>rfl)(hb:∀k,e.has k->(fb k).below 1:=by exact fun _ _=>SB.bB_ok rfl):WP P c a Q:=ydb i fb j g n l hb m
theorem endFs{F1:Fz}{u:Out}(out:Out)(a:Fz.le F F1)(d:Q out F1)(b:lget h 0=some (.frz F1):=by exact rfl)(c:outE out (u.ren (resP h)):=by exact aO _)(hb:out.z=true:=by exact rfl):Cln 1 (FoK F Q) u h nx:=endFo out F1 b a (Fz.r F1) d c hb
end
end Sx
