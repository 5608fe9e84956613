import Derived.Test.YtfnkamphhpldcaaGreatDoorK04
set_option maxHeartbeats 64000000
namespace Sx
open Go
def setd(b:Option Tmp)(v:SV)(a:St)(K:St->Prop):Prop:=
 match b with
 |none=>K a
 |some d=>match Nat.ble (d+1) a.nt with
  |true=>K { a with t:=lput a.t d v }
  |false=>False
def gslot:List Oper->Nat->Option Tmp
 |[],_=>none
 |o::_,0=>o.dst
 |_::r,n+1=>gslot r n
theorem o8:∀(l:List Oper) (j:Nat),gslot l j=(l[j]?).bind (·.dst)
 |[],j=>by simp[gslot]
 |o::r,0=>by simp[gslot]
 |o::r,n+1=>by simp[gslot,o8 r n]
def beqB:Bool->Bool->Bool
 |true,true=>true
 |false,false=>true
 |_,_=>false
def sops(P:Program)(Θ:Tys)(e:List Oper)(Q:SE->St->Prop):List Oper->St->Prop
 |[],a=>Q .normal a
 |o::r,a=>
  let c (a:St):Prop:=sop P Θ a.t o.op a.h a.nx (fun v h nx=>setd o.dst v { a with h:=h,nx:=nx } fun f=>sops P Θ e Q r f) (fun v h nx=>Q (.panic v) { a with h:=h,nx:=nx })
  let skip (a:St):Prop:=setd o.dst (.tup []) a fun f=>sops P Θ e Q r f
  match o.guard with
  |none=>c a
  |some (j,want)=>match gslot e j with
   |none=>False
   |some d=>match lget a.t d with
    |some (.va (.lit b))=>(match beqB b want with
     |true=>c a
     |false=>skip a)
    |some (.va (.bool b))=>(match Nat.ble (d+1) a.nt with
     |true=>(match want with
      |true=>(b=true->c { a with t:=lput a.t d (.va (.lit true)) })/\(b=false->skip { a with t:=lput a.t d (.va (.lit false)) })
      |false=>(b=false->c { a with t:=lput a.t d (.va (.lit false)) })/\(b=true->skip { a with t:=lput a.t d (.va (.lit true)) }))
     |false=>False)
    |some (.tup [])=>skip a
    |_=>False
section
variable {P:Program} {Θ:Tys} {C:Ctx} {ρ:Rho} {st:St} {a:Act} {w:World} {Q:SE->St->Prop}
theorem Den.relit{d:Nat}{b:Bool}(D:Den C ρ st a w)(f:lget st.t d=some (.va (.bool b))):Den C ρ { st with t:=lput st.t d (.va (.lit b)) } a w where
 sat:=D.sat
 nt:=D.nt
 tm:=fun n s c=>by
  by_cases e:n=d
  ·subst e;rw[aR]at c;cases c
   obtain⟨v,h,g⟩:=D.tm n _ f;exact⟨v,h,g⟩
  ·rw[aM _ _ _ _ e]at c;exact D.tm n s c
 tw:=fun n s c=>by
  by_cases e:n=d
  ·subst e;rw[aR]at c;cases c;trivial
  ·rw[aM _ _ _ _ e]at c;exact D.tw n s c
 n0:=D.n0
 df:=D.df
 dw:=D.dw
theorem n9{c:Option Tmp}{sv:SV}{v:Value}{K:St->Prop}(b:setd c sv st K)(D:Den C ρ st a w)(h:sv.rel ρ v)(f:sv.below st.nx):∃e,K e/\Den C ρ e (a.put c v) w:=by
 unfold setd at b;split at b
 ·exact⟨st,b,D⟩
 ·rename_i d;split at b
  ·rename_i g;exact⟨_,b,D.put d (nb g) sv v h f⟩
  ·exact b.elim
theorem lK{o:Oper}{K g:Act->World->Prop}{R i:Exit->Act->World->Prop}{r:Result Next}(h:o.upon P a K R r)(d:∀a w,K a w->g a w)(f:∀e a w,R e a w->i e a w):o.upon P a g i r:=by
 cases r with
 |ok n w'=>
  cases n<;>simp only[Oper.upon]at h ⊢ <;>
   first
    |exact d _ _ h
    |exact Calls.mono h (fun e j b=>by
      cases e with
      |returned v=>exact d _ _ b
      |panicked c=>exact f _ _ _ b
      |outgrown=>obtain⟨a,w,h⟩:=b;exact⟨a,w,f _ _ _ h⟩)
    |exact Rows.mono h (fun _ _ b=>d _ _ b)
    |exact h
 |halt x w'=>cases x<;>simp only[Oper.upon]at h ⊢<;>first | exact f _ _ _ h | exact h
theorem oa(hΘ:Θ.Ok P)(f:List Oper):∀(l:List Oper) (st:St) (ρ:Rho) (a:Act) (w:World),sops P Θ f Q l st->Den C ρ st a w->wpList P f.toArray (Up C Q) l a w
 |[],st,ρ,a,w,c,D=>⟨.normal,st,ρ,c,rfl,D⟩
 |o::r,st,ρ,a,w,c,D=>by
  have p:∀st ρ,sop P Θ st.t o.op st.h st.nx (fun v h nx=>setd o.dst v { st with h:=h,nx:=nx } fun g=>sops P Θ f Q r g) (fun v h nx=>Q (.panic v) { st with h:=h,nx:=nx })->Den C ρ st a w->
    o.wp P a w (wpList P f.toArray (Up C Q) r) (Up C Q):=by
   intro st ρ c D;have:=lJ hΘ c D;refine lK this ?_ ?_
   ·rintro O M ⟨v,sv,R,J,K,rfl,S,n,x,m,_,_⟩;obtain⟨g,q,A⟩:=n9 S m n x;exact oa hΘ f r g K _ M q A
   ·rintro e O M ⟨v,R,J,K,rfl,T,m⟩;exact⟨.panic v,_,K,T,rfl,m⟩
  have skip:∀st ρ,(setd o.dst (.tup []) st fun g=>sops P Θ f Q r g)->Den C ρ st a w->wpList P f.toArray (Up C Q) r (a.put o.dst undef) w:=by
   intro st ρ c D;obtain⟨g,q,m⟩:=n9 (v:=undef) c D rfl (by simp[SV.below]);exact oa hΘ f r g ρ _ w q m
  simp only[sops]at c;unfold wpList;split at c
  ·rename_i y;rw[if_pos (by simp[Region.wanted,y])];exact .inl (p st ρ c D)
  ·rename_i j i y;split at c
   ·exact c.elim
   ·rename_i d L
    have G:∀v,a.tmps[d]? =some v->yielded f.toArray a.tmps j=(match v with | .bool b=>some b | _=>none):=by
     intro v k;rw[o8]at L;simp only[yielded,qch,L,qdf,k];cases v<;>rfl
    have s:∀b,a.tmps[d]? =some (.bool b)->b=i->Region.wanted o (yielded f.toArray a.tmps)=true:=by
     intro b x E;simp[Region.wanted,y,G _ x,E]
    have I:∀b,a.tmps[d]? =some (.bool b)->b≠i->Region.wanted o (yielded f.toArray a.tmps)=false:=by
     intro b x E;simp[Region.wanted,y,G _ x,E]
    split at c
    ·rename_i b u;obtain⟨v,k,n⟩:=D.tm d _ u;simp only[SV.rel,SA.den]at n;subst n;split at c
     ·rename_i B;rw[if_pos (s b k (by cases b<;>cases i<;>simp_all[beqB]))];exact .inl (p st ρ c D)
     ·rename_i B;rw[if_neg (by rw[I b k (by cases b<;>cases i<;>simp_all[beqB])];simp)];exact skip st ρ c D
    ·rename_i b u;obtain⟨v,k,n⟩:=D.tm d _ u;simp only[SV.rel,SA.den]at n;subst n;have m:=D.relit u;split at c
     ·split at c
      ·cases b with
       |true=>rw[if_pos (s _ k rfl)];exact .inl (p _ ρ (c.1 rfl) m)
       |false=>rw[if_neg (by rw[I _ k ss];simp)];exact skip _ ρ (c.2 rfl) m
      ·cases b with
       |false=>rw[if_pos (s _ k rfl)];exact .inl (p _ ρ (c.1 rfl) m)
       |true=>rw[if_neg (by rw[I _ k ss];simp)];exact skip _ ρ (c.2 rfl) m
     ·exact c.elim
    ·rename_i u;obtain⟨v,k,n⟩:=D.tm d _ u;simp only[SV.rel,yy]at n;subst n;rw[if_neg (by simp[Region.wanted,y,G _ k])];exact skip st ρ c D
    ·exact c.elim
def yc1:List Oper->Bool
 |[o]=>(match o.op with
  |.defer _=>true
  |_=>false)
 |_=>false
def sx(P:Program)(Θ:Tys):Code->St->(SE->St->Prop)->Prop
 |.skip,st,Q=>Q .normal st
 |.region id ops false,st,Q=>(match yc1 ops.toList with
  |true=>WP P (.region id ops false) st Q
  |false=>sops P Θ ops.toList Q ops.toList st)
 |.seq x y,st,Q=>sx P Θ x st fun e d=>(match e with
  |.normal=>sx P Θ y d Q
  |.ret=>Q .ret d
  |.exit id=>Q (.exit id) d
  |.panic v=>Q (.panic v) d)
 |.cond c x y,st,Q=>(match ev st.t c with
  |.va (.lit true)=>sx P Θ x st Q
  |.va (.lit false)=>sx P Θ y st Q
  |.va (.bool b)=>Br b (sx P Θ x st Q) (sx P Θ y st Q)
  |_=>False)
 |.block id x,st,Q=>sx P Θ x st fun e d=>(match e with
  |.normal=>Q .normal d
  |.ret=>Q .ret d
  |.exit i=>(match Nat.beq i id with
   |true=>Q .normal d
   |false=>Q (.exit i) d)
  |.panic v=>Q (.panic v) d)
 |.exit id,st,Q=>Q (.exit id) st
 |.ret,st,Q=>Q .ret st
 |c,st,Q=>WP P c st Q
theorem ec(hΘ:Θ.Ok P):∀(c:Code) (st:St) (Q:SE->St->Prop),sx P Θ c st Q->WP P c st Q:=by
 intro c
 induction c with
 |skip=>intro st Q d;unfold WP;intro C ρ a w D;exact wp_skip ⟨.normal,st,ρ,d,rfl,D⟩
 |region id ops draw=>
  intro st Q d;cases draw with
  |true=>exact d
  |false=>
   simp only[sx]at d;split at d
   ·exact d
   unfold WP;intro C ρ a w D;have:=oa (C:=C) hΘ ops.toList ops.toList st ρ a w d D;exact wp_region_list (by simpa using this)
 |seq x y ihx ihy=>
  intro st Q d;have h1:=ihx st _ d;unfold WP at h1 ⊢;intro C ρ a w D;refine wp_seq (wp_mono (h1 C ρ a w D) ?_);rintro e q s ⟨p,f,k,h,rfl,j⟩;cases p with
  |normal=>
   have g:=ihy f Q h;unfold WP at g;exact g C k q s j
  |ret=>exact⟨.ret,f,k,h,rfl,j⟩
  |exit id=>exact⟨.exit id,f,k,h,rfl,j⟩
  |panic v=>exact⟨.panic v,f,k,h,rfl,j⟩
 |cond c x y ihx ihy=>
  intro st Q d;simp only[sx]at d;unfold WP;intro C ρ a w D;have l:=aT D c;split at d
  ·rename_i m;rw[m]at l;have g:=ihx st Q d;unfold WP at g;exact wp_cond_true l.1 (g C ρ a w D)
  ·rename_i m;rw[m]at l;have g:=ihy st Q d;unfold WP at g;exact wp_cond_false l.1 (g C ρ a w D)
  ·rename_i b m;rw[m]at l;unfold Br at d;cases b with
   |true=>have g:=ihx st Q (d.1 rfl);unfold WP at g;exact wp_cond_true l.1 (g C ρ a w D)
   |false=>have g:=ihy st Q (d.2 rfl);unfold WP at g;exact wp_cond_false l.1 (g C ρ a w D)
  ·exact d.elim
 |block id x ih=>
  intro st Q d;have h1:=ih st _ d;unfold WP at h1 ⊢;intro C ρ a w D;refine wp_block (wp_mono (h1 C ρ a w D) ?_);rintro e q s ⟨p,f,k,h,rfl,j⟩;cases p with
  |normal=>exact⟨.normal,f,k,h,rfl,j⟩
  |ret=>exact⟨.ret,f,k,h,rfl,j⟩
  |exit i=>
   simp only at h;split at h
   ·rename_i n;have n:=qm n;subst n;simp only[SE.to,Exit.inBlock,if_true];exact⟨.normal,f,k,h,rfl,j⟩
   ·rename_i n;have o:¬i=id:=by intro m;subst m;simp at n
    simp only[SE.to,Exit.inBlock,o,if_false];exact⟨.exit i,f,k,h,rfl,j⟩
  |panic v=>exact⟨.panic v,f,k,h,rfl,j⟩
 |exit id=>intro st Q d;unfold WP;intro C ρ a w D;exact wp_exit ⟨.exit id,st,ρ,d,rfl,D⟩
 |ret=>intro st Q d;unfold WP;intro C ρ a w D;exact wp_ret ⟨.ret,st,ρ,d,rfl,D⟩
 |loop _ _=>intro st Q d;exact d
 |rangeFunc _ _ _ _ _ _=>intro st Q d;exact d
 |scope _ _=>intro st Q d;exact d
 |label _=>intro st Q d;exact d
 |goto _=>intro st Q d;exact d
 |refuse _=>intro st Q d;exact d
end
@[irreducible] def Le (st st':St):Prop:=∀C ρ a w,Den C ρ st a w->∃ρ',Den C ρ' st' a w
def WfH(h:Hp)(nx:Nat):Prop:=∀i e,lget h i=some e->i < nx/\∀k,e.has k->(e.at k).below nx
def WfT(t:List (List (Nat×SV)))(nx:Nat):Prop:=∀n s,lget t n=some s->s.below nx
section
variable {P:Program} {Θ:Tys} {C:Ctx} {ρ:Rho} {st:St} {a:Act} {w:World} {Q:SE->St->Prop}
theorem Den.wfH(d:Den C ρ st a w):WfH st.h st.nx:=fun i e b=>⟨d.sat.lt i e b,d.sat.wf i e b⟩
theorem Den.wfT(d:Den C ρ st a w):WfT st.t st.nx:=d.tw
theorem exists_least{p:Nat->Prop}(h:∃n,p n):∃n,p n/\∀m,p m->n<=m:=by
 obtain⟨n,f⟩:=h
 induction n using Nat.strongRecOn with
 |_ n ih=>
  by_cases b:∃m,m < n/\p m
  ·obtain⟨m,e,d⟩:=b;exact ih m e d
  ·exact⟨n,f,fun m d=>Nat.le_of_not_lt fun c=>b ⟨m,c,d⟩⟩
def LQ{X:Type}(I:X->St)(μ:X->Nat)(x:X)(Q:SE->St->Prop):SE->St->Prop:=fun e b=>
 match e with
 |.normal=>∃c,μ c < μ x/\Le b (I c)
 |.ret=>Q .ret b
 |.exit id=>Q (.exit id) b
 |.panic v=>Q (.panic v) b
theorem Cv{X:Type}{b:Code}(I:X->St)(μ:X->Nat)(J:X)
  (h:WfH st.h st.nx->WfT st.t st.nx->Le st (I J)/\∀x,WP P b (I x) (LQ I μ x Q)):WP P (.loop b) st Q:=by
 unfold WP;intro C ρ a w D;obtain⟨G,O⟩:=h D.wfH D.wfT;unfold Le at G;obtain⟨T,K⟩:=G C ρ a w D;have j:∀a w,(∃x ρ,Den C ρ (I x) a w)->∃n,∃x ρ,μ x=n/\Den C ρ (I x) a w:=fun a w ⟨x,ρ,h⟩=>⟨μ x,x,ρ,rfl,h⟩
 let m:Act->World->Nat:=fun a w=>by
  classical exact if h:∃n,∃x ρ,μ x=n/\Den C ρ (I x) a w then Classical.choose (exists_least h)else 0
 refine wp_loop (fun a w=>∃x ρ,Den C ρ (I x) a w) m ⟨J,T,K⟩ ?_;intro a w M;have y:=j a w M;have R:m a w=Classical.choose (exists_least y):=by simp only[m];rw[dif_pos y]
 obtain⟨x,U,A,L⟩:=(Classical.choose_spec (exists_least y)).1;have i:=O x;unfold WP at i;refine wp_mono (i C U a w L) ?_;rintro e q B ⟨S,f,p,o,rfl,l⟩;cases S with
 |normal=>
  obtain⟨E,s,k⟩:=o;unfold Le at k;obtain⟨g,c⟩:=k C p q B l;refine⟨⟨E,g,c⟩,?_⟩;have d:=j q B ⟨E,g,c⟩;have u:m q B=Classical.choose (exists_least d):=by simp only[m];rw[dif_pos d]
  rw[R,u,<-A];exact yt ((Classical.choose_spec (exists_least d)).2 _ ⟨E,g,rfl,c⟩) s
 |ret=>exact⟨.ret,f,p,o,rfl,l⟩
 |exit id=>exact⟨.exit id,f,p,o,rfl,l⟩
 |panic v=>exact⟨.panic v,f,p,o,rfl,l⟩
end
inductive Mv where
 |to (j:Nat)
 |fn (g:Nat->Nat×Nat) (tg:List Nat)
instance (n:Nat):OfNat Mv n:=⟨.to n⟩
def Mv.at(m:Mv)(k:Nat):Nat×Nat:=
 match m with
 |.to j=>(j,k)
 |.fn g _=>g k
abbrev Mu:=Nat->Nat->Nat×Nat
def Mu.pull(μ:Mu)(ρ:Rho):Rho:=fun i k=>ρ (μ i k).1 (μ i k).2
def Pl.ren(μ:Mu)(p:Pl):Pl:=⟨(μ p.i p.k).1,(μ p.i p.k).2,p.e,p.sz,p.o⟩
def SA.ren(μ:Mu):SA->SA
 |.ptr p=>.ptr (p.ren μ)
 |.slice nil i k e sz len cap=>.slice nil (μ i k).1 (μ i k).2 e sz len cap
 |.fn f cap=>.fn f (cap.map (Pl.ren μ))
 |.iter i k=>.iter (μ i k).1 (μ i k).2
 |.map i k=>.map (μ i k).1 (μ i k).2
 |.int k n=>.int k n
 |.lit b=>.lit b
 |.bool b=>.bool b
 |.str s=>.str s
 |.nilptr=>.nilptr
 |.nilfn=>.nilfn
 |.nilif=>.nilif
 |.ifc t v=>.ifc t v
 |.glob g=>.glob g
 |.nilsl=>.nilsl
 |.odd a=>.odd a
 |.nilmap=>.nilmap
def SC.ren(μ:Mu):SC->SC
 |.va a=>.va (a.ren μ)
 |.agg l=>.agg (l.map (SA.ren μ))
def SV.ren(μ:Mu):SV->SV
 |.va a=>.va (a.ren μ)
 |.agg l=>.agg (l.map (SA.ren μ))
 |.tup l=>.tup (l.map (SC.ren μ))
 |.junk=>.junk
def SB.ren(μ:Mu):SB->SB
 |.cells t l=>.cells t (l.map (SA.ren μ))
 |.arr t sz L room=>.arr t sz (L.map (List.map (SA.ren μ))) room
 |.obj o=>.obj o
def Ent.ren(μ:Mu):Ent->Ent
 |.one b=>.one (b.ren μ)
 |.opt c b=>.opt c (b.ren μ)
 |.fam n c f=>.fam n c fun k=>(f k).ren μ
 |.gone=>.gone
 |.frz F=>.frz F
 |.lnk b=>.lnk b
theorem SA.den_ren(μ:Mu)(ρ:Rho)(a:SA):(a.ren μ).den ρ=a.den (μ.pull ρ):=by
 cases a<;>simp[SA.ren,SA.den,Pl.ren,Pl.addr,Mu.pull]
theorem lf(μ:Mu)(ρ:Rho)(l:List SA):(l.map (SA.ren μ)).map (SA.den ρ)=l.map (SA.den (μ.pull ρ)):=by
 rw[jq];exact jp fun a _=>SA.den_ren μ ρ a
theorem SV.rel_ren(μ:Mu)(ρ:Rho)(s:SV)(v:Value):(s.ren μ).rel ρ v↔s.rel (μ.pull ρ) v:=by
 cases s with
 |va a=>simp[SV.ren,SV.rel,SA.den_ren]
 |agg l=>simp only[SV.ren,SV.rel,lf]
 |tup l=>
  simp only[SV.ren,SV.rel]
  have:(l.map (SC.ren μ)).map (SC.den ρ)=l.map (SC.den (μ.pull ρ)):=by
   rw[jq];refine jp fun c _=>?_
   cases c with
   |va a=>exact SA.den_ren μ ρ a
   |agg l=>simp only[Function.comp,SC.ren,SC.den,lf]
  rw[this]
 |junk=>exact Iff.rfl
theorem SB.ok_ren(μ:Mu)(ρ:Rho)(b:SB)(o:Obj):(b.ren μ).ok ρ o↔b.ok (μ.pull ρ) o:=by
 cases b with
 |cells t l=>simp only[SB.ren,SB.ok,lf]
 |arr t sz L room=>
  simp only[SB.ren,SB.ok,qa];have d:(L.map (List.map (SA.ren μ))).flatten=L.flatten.map (SA.ren μ):=by rw[qbv]
  rw[d,lf];constructor
  ·rintro⟨h1,a⟩;refine⟨fun x c=>?_,a⟩;have:=h1 (x.map (SA.ren μ)) (qz.2 ⟨x,c,rfl⟩);simpa using this
  ·rintro⟨h1,a⟩;refine⟨fun x c=>?_,a⟩;obtain⟨y,e,rfl⟩:=qz.1 c;simpa using h1 y e
 |obj o=>exact Iff.rfl
theorem Ent.has_ren(μ:Mu)(e:Ent)(k:Nat):(e.ren μ).has k↔e.has k:=by cases e<;>exact Iff.rfl
theorem Ent.isFz_ren(μ:Mu)(e:Ent):(e.ren μ).isFz=e.isFz:=by cases e<;>rfl
variable {e:Ent}
theorem Ent.has_cases{k:Nat}(h:e.has k):e.plain=true\/∃F,e=.frz F:=by
 cases e<;>first | exact .inl rfl | exact h.elim | exact .inr ⟨_,rfl⟩
theorem Ent.at_ren(μ:Mu)(e:Ent)(k:Nat)(h:e.plain=true):(e.ren μ).at k=(e.at k).ren μ:=by
 cases e<;>first | rfl | cases h
def sig(s:List (Nat×Mv)):Mu:=fun i k=>
 match aget s i with
 |some m=>m.at k
 |none=>(i,k)
def atomE(w a:SA):Prop:=
 match w,a with
 |.slice nil0 i0 k0 e0 sz0 len0 cap0,.slice nil i k e sz len cap=>nil0=nil/\len0=len/\cap0=cap/\(nil=true\/(i0=i/\k0=k/\e0=e/\sz0=sz))
 |.slice nil0 _ _ _ _ len0 cap0,.nilsl=>nil0=true/\len0=0/\cap0=0
 |.nilsl,.slice nil _ _ _ _ len cap=>nil=true/\len=0/\cap=0
 |.lit b0,.bool b=>b0=b
 |.bool b0,.lit b=>b0=b
 |w,a=>w=a
def scE:SC->SC->Prop
 |.va w,.va a=>atomE w a
 |w,a=>w=a
def tupE:List SC->List SC->Prop
 |[],[]=>True
 |w::r,a::r'=>scE w a/\tupE r r'
 |_,_=>False
def svE:SV->SV->Prop
 |.va w,.va a=>atomE w a
 |.tup w,.tup a=>tupE w a
 |w,a=>w=a
theorem uO{ρ:Rho}{w a:SA}(h:atomE w a):w.den ρ=a.den ρ:=by
 unfold atomE at h;split at h
 ·obtain⟨h1,c,d,b⟩:=h;subst h1;subst c;subst d;rcases b with b | ⟨rfl,rfl,rfl,rfl⟩
  ·subst b;rfl
  ·rfl
 ·obtain⟨rfl,rfl,rfl⟩:=h;rfl
 ·obtain⟨rfl,rfl,rfl⟩:=h;rfl
 ·subst h;rfl
 ·subst h;rfl
 ·subst h;rfl
theorem yby{ρ:Rho}{w a:SC}(h:scE w a):w.den ρ=a.den ρ:=by
 unfold scE at h;split at h
 ·exact uO h
 ·rw[h]
theorem xi{ρ:Rho}:∀{w a:List SC},tupE w a->w.map (SC.den ρ)=a.map (SC.den ρ)
 |[],[],_=>rfl
 |w::r,a::r',h=>by simp only[qw];rw[yby h.1,xi h.2]
 |[],_::_,h=>h.elim
 |_::_,[],h=>h.elim
theorem qJ{ρ:Rho}{w a:SV}{v:Value}(h:svE w a)(b:a.rel ρ v):w.rel ρ v:=by
 unfold svE at h;split at h
 ·simp only[SV.rel]at*;rw[b,uO h]
 ·simp only[SV.rel]at*;rw[b,xi h]
 ·subst h;exact b
def svO(w:SV):Option SV->Prop
 |some a=>svE w a
 |none=>False
theorem Ca{w:SV}{o:Option SV}(h:svO w o):∃a,o=some a/\svE w a:=by
 cases o with
 |none=>exact h.elim
 |some a=>exact⟨a,rfl,h⟩
def leT(s:List (Nat×Mv))(t1:List (List (Nat×SV))):List (Nat×SV)->Prop
 |[]=>True
 |(n,v)::r=>(match v with
  |.junk=>leT s t1 r
  |v=>svO (v.ren (sig s)) (lget t1 n)/\leT s t1 r)
def subE(x:Option Ent)(e:Ent):Prop:=
 match e with
 |.gone=>True
 |.one b=>(match x with
  |some (.one b')=>b'=b
  |some (.opt c b')=>c=true/\b'=b
  |_=>False)
 |.opt c b=>(match x with
  |some (.one b')=>b'=b
  |some (.opt c' b')=>c'=c/\b'=b
  |some (.fam _ _ _)=>False
  |some (.frz _)=>False
  |some (.lnk _)=>c=false
  |some .gone=>c=false
  |none=>c=false)
 |.fam n c f=>(match n with
  |0=>True
  |n+1=>(match x with
   |some (.fam m c' f')=>m=n+1/\c'=c/\f'=f
   |_=>False))
 |.frz F=>(match x with
  |some (.frz F')=>Fz.le F F'
  |_=>False)
 |.lnk b=>(match x with
  |some (.lnk b')=>b'=b
  |_=>False)
theorem Fz.le_some{F a:Fz}(h:Fz.le F a){k:Nat}(c:(F k).isSome=true):a k=F k:=by
 obtain⟨B,b⟩:=js.1 c;rw[b];exact h k B b
theorem w9{x:Option Ent}(h:subE x e)(k:Nat)(a:e.has k):∃d,x=some d/\d.has k/\d.at k=e.at k/\d.isFz=e.isFz:=by
 unfold subE at h;cases e with
 |gone=>exact a.elim
 |lnk b=>exact a.elim
 |one b=>
  simp only at h;split at h
  ·subst h;exact⟨_,rfl,a,rfl,rfl⟩
  ·exact⟨_,rfl,⟨h.1,a⟩,h.2,rfl⟩
  ·exact h.elim
 |opt c b=>
  simp only at h;split at h
  ·subst h;exact⟨_,rfl,a.2,rfl,rfl⟩
  ·exact⟨_,rfl,⟨h.1.trans a.1,a.2⟩,h.2,rfl⟩
  ·exact h.elim
  ·exact h.elim
  ·have:=a.1;rw[h]at this;cases this
  ·have:=a.1;rw[h]at this;cases this
  ·have:=a.1;rw[h]at this;cases this
 |fam n c f=>
  cases n with
  |zero=>exact absurd a.1 (qb8 _)
  |succ n=>
   simp only at h;split at h
   ·obtain⟨rfl,rfl,rfl⟩:=h;exact⟨_,rfl,a,rfl,rfl⟩
   ·exact h.elim
 |frz F=>
  simp only at h;split at h
  ·rename_i g;have e:=Fz.le_some h a;exact⟨_,rfl,by show(g k).isSome=true;rw[e];exact a,by show(g k).getD _=(F k).getD _;rw[e],rfl⟩
  ·exact h.elim
def genE(g:Nat->Nat×Nat)(tg:List Nat)(h1:Hp)(e:Ent):Prop:=
 match e with
 |.fam n c f=>(∀k,k < n->c k=true->(g k).1∈tg/\∃a,lget h1 (g k).1=some a/\a.plain=true/\a.has (g k).2/\a.at (g k).2=f k)/\
   (∀k b,k < n->b < n->c k=true->c b=true->g k=g b->k=b)
 |_=>False
def entE(m:Option Mv)(i:Nat)(h1:Hp)(e:Ent):Prop:=
 match m with
 |none=>subE (lget h1 i) e
 |some (.to j)=>subE (lget h1 j) e
 |some (.fn g tg)=>genE g tg h1 e
variable {h1:Hp}{s:List (Nat×Mv)}
theorem pj{i:Nat}(h:entE (aget s i) i h1 e)(k:Nat)(b:e.has k):∃a,lget h1 (sig s i k).1=some a/\a.has (sig s i k).2/\a.at (sig s i k).2=e.at k/\a.isFz=e.isFz:=by
 unfold sig;cases c:aget s i with
 |none=>rw[c]at h;exact w9 h k b
 |some m=>
  rw[c]at h;cases m with
  |to j=>exact w9 h k b
  |fn g tg=>
   simp only[entE,genE]at h;split at h
   ·obtain⟨h1,_⟩:=h;obtain⟨_,a,d,f,l,n⟩:=h1 k b.1 b.2;refine⟨a,d,l,n,?_⟩;cases a<;>first | rfl | cases f
   ·exact h.elim
theorem A2{i:Nat}{b:Nat->Nat}(h:entE (aget s i) i h1 (.lnk b)):∃j,lget h1 j=some (.lnk b)/\∀k,sig s i k=(j,k):=by
 unfold sig;cases c:aget s i with
 |none=>
  rw[c]at h;simp only[entE,subE]at h;split at h
  ·rename_i d a;subst h;exact⟨i,a,fun _=>rfl⟩
  ·exact h.elim
 |some m=>
  rw[c]at h;cases m with
  |to j=>
   simp only[entE,subE]at h;split at h
   ·rename_i d a;subst h;exact⟨j,a,fun _=>rfl⟩
   ·exact h.elim
  |fn g tg=>exact h.elim
def leH(s:List (Nat×Mv))(h1:Hp):List (Nat×Ent)->Prop
 |[]=>True
 |(i,e)::r=>(match e with
  |.gone=>leH s h1 r
  |e=>entE (aget s i) i h1 (e.ren (sig s))/\leH s h1 r)
def Ent.below(n:Nat):Ent->Prop
 |.one b=>b.below n
 |.opt _ b=>b.below n
 |.fam m c f=>∀k,k < m->c k=true->(f k).below n
 |.gone=>True
 |.frz _=>True
 |.lnk _=>True
theorem Ent.below_at{n:Nat}(h:e.below n)(k:Nat)(a:e.has k)(d:e.plain=true):(e.at k).below n:=by
 cases e with
 |one b=>exact h
 |opt c b=>exact h
 |fam m c f=>exact h k a.1 a.2
 |gone=>exact a.elim
 |frz F=>cases d
 |lnk b=>exact a.elim
def bT(n:Nat):List (Nat×SV)->Prop
 |[]=>True
 |(_,v)::r=>v.below n/\bT n r
def bH(n:Nat):List (Nat×Ent)->Prop
 |[]=>True
 |(_,e)::r=>e.below n/\bH n r
def kH:Option Ent->Bool
 |some .gone=>true
 |_=>false
def Mv.tg:Mv->List Nat
 |.to j=>[j]
 |.fn _ tg=>tg
def at0(hup:List (Nat×Ent)):Bool:=
 match aget hup 0 with
 |none=>true
 |some (.frz _)=>true
 |_=>false
def apart(a b:List Nat):Bool:=a.all fun x=>b.all fun y=>!(Nat.beq x y)
def chkS(s:List (Nat×Mv))(hup:List (Nat×Ent))(N0 N:Nat):Bool:=
 (s.all fun p=>Nat.ble N0 p.1&&Nat.ble (p.1+1) N&&(p.2.tg.all fun j=>Nat.ble N0 j||kH (aget hup j)))&&
 (s.all fun p=>s.all fun q=>Nat.beq p.1 q.1||apart p.2.tg q.2.tg)&&
 (hup.all fun q=>(kH (some q.2)||Nat.ble (q.1+1) N0||(aget s q.1).isSome)&&Nat.ble (q.1+1) N)&&
 ((hup.all fun q=>!q.2.isFz||Nat.beq q.1 0)&&at0 hup)
def fm:SV->Bool
 |.junk=>true
 |_=>false
theorem cW{β:Type}:∀{l:List (Nat×β)} {n:Nat} {v:β},aget l n=some v->(n,v)∈l
 |[],n,v,h=>by simp[aget]at h
 |(m,u)::r,n,v,h=>by
  simp only[aget]at h;split at h
  ·rename_i a;have:=qm a;cases h;subst this;simp
  ·exact ym _ (cW h)
theorem kz{s:List (Nat×Mv)}{t1:List (List (Nat×SV))}:∀{l:List (Nat×SV)},leT s t1 l->∀p∈l,p.2=.junk\/svO (p.2.ren (sig s)) (lget t1 p.1)
 |[],_,p,hp=>by simp at hp
 |(n,v)::r,h,p,hp=>by
  simp only[leT]at h;rcases qh.1 hp with rfl | hq
  ·cases v with
   |junk=>exact .inl rfl
   |va a=>exact .inr h.1
   |agg l=>exact .inr h.1
   |tup l=>exact .inr h.1
  ·cases v with
   |junk=>exact kz h p hq
   |va a=>exact kz h.2 p hq
   |agg l=>exact kz h.2 p hq
   |tup l=>exact kz h.2 p hq
theorem eV{s:List (Nat×Mv)}{h1:Hp}:∀{l:List (Nat×Ent)},leH s h1 l->∀p∈l,p.2=.gone\/entE (aget s p.1) p.1 h1 (p.2.ren (sig s))
 |[],_,p,hp=>by simp at hp
 |(i,e)::r,h,p,hp=>by
  simp only[leH]at h;rcases qh.1 hp with rfl | hq
  ·cases e with
   |gone=>exact .inl rfl
   |one b=>exact .inr h.1
   |opt c b=>exact .inr h.1
   |fam n c f=>exact .inr h.1
   |frz F=>exact .inr h.1
   |lnk b=>exact .inr h.1
  ·cases e with
   |gone=>exact eV h p hq
   |one b=>exact eV h.2 p hq
   |opt c b=>exact eV h.2 p hq
   |fam n c f=>exact eV h.2 p hq
   |frz F=>exact eV h.2 p hq
   |lnk b=>exact eV h.2 p hq
theorem rS{n:Nat}:∀{l:List (Nat×SV)},bT n l->∀p∈l,p.2.below n
 |[],_,p,hp=>by simp at hp
 |(m,v)::r,h,p,hp=>by
  rcases qh.1 hp with rfl | hp
  ·exact h.1
  ·exact rS h.2 p hp
theorem qO{n:Nat}:∀{l:List (Nat×Ent)},bH n l->∀p∈l,p.2.below n
 |[],_,p,hp=>by simp at hp
 |(m,v)::r,h,p,hp=>by
  rcases qh.1 hp with rfl | hp
  ·exact h.1
  ·exact qO h.2 p hp
theorem tg_at{m:Mv}{i:Nat}(h:entE (some m) i h1 e)(k:Nat)(a:e.has k):(m.at k).1∈m.tg:=by
 cases m with
 |to j=>simp[Mv.at,Mv.tg]
 |fn g tg=>
  simp only[entE,genE]at h;split at h
  ·exact(h.1 k a.1 a.2).1
  ·exact h.elim
theorem yc4{m:Mv}{i:Nat}(h:entE (some m) i h1 e){k b:Nat}(d:e.has k)(a:e.has b)(c:m.at k=m.at b):k=b:=by
 cases m with
 |to j=>simpa[Mv.at]using c
 |fn g tg=>
  simp only[entE,genE]at h;split at h
  ·exact h.2 k b d.1 a.1 d.2 a.2 c
  ·exact h.elim
theorem Aq{a b:List Nat}(h:apart a b=true){x y:Nat}(d:x∈a)(e:y∈b):x≠y:=by
 intro c;subst c;have:=qp.1 (qp.1 h x d) x e;simp at this
variable {d:List (Dk×List SA)}{T:List (List (Nat×SV))}{hup:List (Nat×Ent)}{jl upd:List (Nat×SV)}{n0 nt:Nat}
theorem ra{t1:List (List (Nat×SV))}{H:Hp}{nx1:Nat}(N0 N:Nat)(s:List (Nat×Mv))
  (hH:WfH H N0)(hT:WfT T N0)(hN:N0<=N)(ba:n0<=N0)(hd:∀x∈d,∀a∈x.2,a.below N0)
  (ht:leT s t1 upd)(am:∀n,aget upd n=none->aget jl n=none->lget t1 n=lget T n)(hj:(jl.all fun p=>fm p.2&&Nat.ble (p.1+1) nt)=true)(a7:(upd.all fun p=>Nat.ble (p.1+1) nt)=true)
  (hh:leH s h1 hup)(q:∀i,i < N0->aget hup i=none->lget h1 i=lget H i)
  (hs:chkS s hup N0 N=true)(wt:bT N upd)(wh:bH N hup):
  ∀C ρ a w,Den C ρ ⟨t1,h1,nx1,n0,nt,d⟩ a w->Den C ((sig s).pull ρ) ⟨upd::jl::T,hup::H,N,n0,nt,d⟩ a w:=by
 simp only[chkS,qd,qp,qah]at hs;obtain⟨⟨⟨an,a5⟩,aw⟩,a6,ao⟩:=hs
 have O:∀i,i < N0->aget s i=none:=by
  intro i G;cases a1:aget s i with
  |none=>rfl
  |some j=>
   have:=(an _ (cW a1)).1.1;have:=nb this;simp only at this;omega
 have E:∀i k,i < N0->sig s i k=(i,k):=by
  intro i k G;unfold sig;rw[O i G]
 intro C ρ a w D;have S:=D.sat;have Q:0 < N0:=by have h1:=S.n1;have h2:C.n0=n0:=D.n0;omega
 have g:∀i,i < N0->((sig s).pull ρ) i=ρ i:=fun i G=>by
  funext k;simp only[Mu.pull,E i k G]
 have zero:∃F,lget (hup::H) 0=some (.frz F)/\∀b B,F b=some B->B.below 1:=by
  obtain⟨F1,ae,aq⟩:=S.fz;cases hz:aget hup 0 with
  |none=>
   refine⟨F1,?_,aq⟩;simp only[lget,hz];rw[<-q 0 Q hz];exact ae
  |some e=>
   unfold at0 at ao;rw[hz]at ao;cases e with
   |frz F=>
    refine⟨F,by simp[lget,hz],fun b B hB=>?_⟩;rcases eV hh _ (cW hz)with hg | hg
    ·cases hg
    ·rw[O 0 Q]at hg;simp only[entE,Ent.ren,subE]at hg;have Y:lget h1 0=some (.frz F1):=ae;rw[Y]at hg;exact aq b B (hg b B hB)
   |_=>cases ao
 have I:∀i F,lget (hup::H) i=some (.frz F)->i=0:=by
  intro i F hF;simp only[lget]at hF;split at hF
  ·rename_i v f;cases hF
   rcases a6 _ (cW f)with h | h
   ·cases h
   ·exact qm h
  ·rename_i f;have G:=(hH i _ hF).1;rw[<-q i G f]at hF;exact S.only i F hF
 have look:∀i e,lget (hup::H) i=some e->(∀k,¬e.has k)\/((∀k,e.has k->∃X,lget h1 (sig s i k).1=some X/\X.has (sig s i k).2/\X.isFz=e.isFz/\(∀o,(X.at (sig s i k).2).ok ρ o->(e.at k).ok ((sig s).pull ρ) o))/\
   (∀k,e.has k->(e.at k).below N)/\((aget s i=none/\i < N0/\kH (aget hup i)=false)\/∃m,aget s i=some m/\entE (some m) i h1 (e.ren (sig s)))):=by
  intro i e l;have U:=l;simp only[lget]at l;split at l
  ·rename_i v f;cases l
   have hm:=cW f;rcases eV hh _ hm with hg | hg
   ·simp only at hg;subst hg;exact .inl fun k c=>c
   ·have h3:=aw _ hm;by_cases Z:e=.gone
    ·subst Z;exact .inl fun k c=>c
    ·refine .inr ⟨fun k c=>?_,fun k c=>?_,?_⟩
     ·obtain⟨X,h5,h6,h7,h8⟩:=pj hg k ((Ent.has_ren _ e k).2 c);refine⟨X,h5,h6,h8.trans (Ent.isFz_ren _ e),fun o J=>?_⟩;simp only at h7 J;rcases Ent.has_cases c with hp | ⟨F,rfl⟩
      ·rw[h7,Ent.at_ren _ e k hp]at J;exact(SB.ok_ren _ ρ _ o).1 J
      ·rw[h7]at J;obtain⟨F',ai,aj⟩:=zero;have aa:=I i F U;subst aa;rw[ai]at U;cases U
       obtain⟨B,hB⟩:=js.1 c;simp only[Ent.ren,Ent.at,hB,yk]at J ⊢;exact SB.ok_congr (n:=1) (fun i G=>g i oo) (aj k B hB) J
     ·rcases Ent.has_cases c with hp | ⟨F,rfl⟩
      ·exact Ent.below_at (qO wh _ hm) k c hp
      ·obtain⟨F',ai,aj⟩:=zero;have aa:=I i F U;subst aa;rw[ai]at U;cases U
       obtain⟨B,hB⟩:=js.1 c;simp only[Ent.at,hB,yk];exact SB.below_mono oo (aj k B hB)
     ·cases ax:aget s i with
      |some m=>exact .inr ⟨m,rfl,by rw[<-ax];exact hg⟩
      |none=>
       left;have au:kH (some e)=false:=by cases e<;>first | rfl | exact absurd rfl Z
       refine⟨rfl,?_,by rw[f];exact au⟩;rcases h3.1 with(h3 | h3) | h3
       ·simp only at h3;rw[au]at h3;cases h3
       ·exact nb h3
       ·simp only at h3;rw[ax]at h3;cases h3
  ·rename_i f;have hw:=hH i e l;have G:=hw.1;right;refine⟨fun k c=>⟨e,by rw[E i k G,q i G f,l],by rw[E i k G];exact c,rfl,fun o J=>?_⟩,fun k c=>SB.below_mono hN (hw.2 k c),.inl ⟨O i G,G,by rw[f];rfl⟩⟩;rw[E i k G]at J;exact SB.ok_congr (n:=N0) g (hw.2 k c) J
 have M:∀i k,St.owns (hup::H) i k->St.owns h1 (sig s i k).1 (sig s i k).2:=by
  rintro i k ⟨e,l,c⟩;rcases look i e l with A | ⟨W,_⟩
  ·exact absurd c (A k)
  ·obtain⟨X,h2,h3,_⟩:=W k c;exact⟨X,h2,h3⟩
 have ay:∀i k,St.owns (hup::H) i k->(sig s i k).1=0->i=0/\(sig s i k).2=k:=by
  rintro i k ⟨e,l,c⟩ h0;rcases look i e l with A | ⟨W,_⟩
  ·exact absurd c (A k)
  ·obtain⟨X,h2,h3,h4,_⟩:=W k c;obtain⟨F1,ae,_⟩:=S.fz;have Y:lget h1 0=some (.frz F1):=ae;rw[h0,Y]at h2;cases h2
   have hf:e.isFz=true:=h4.symm;cases e with
   |frz F=>
    have aa:=I i F l;subst aa;exact⟨rfl,by rw[E 0 k Q]⟩
   |_=>cases hf
 refine{ sat:=?_,nt:=D.nt,tm:=?_,tw:=?_,n0:=D.n0,df:=?_,dw:=fun x hx b hb=>SA.below_mono hN (hd x hx b hb) }
 ·refine{ lt:=?_,blk:=?_,wf:=?_,inj:=?_,anch:=?_,n0:=by rw[D.n0];show n0<=N;omega,n1:=S.n1,os:=S.os,tape:=S.tape,output:=S.output,size:=S.size,fr:=S.fr,own:=?_,fz:=zero,id0:=fun k=>by rw[g 0 Q];exact S.id0 k,only:=I,lnk:=?_ }
  ·intro i e l;simp only[lget]at l;split at l
   ·rename_i v f;exact nb (aw _ (cW f)).2
   ·have:=(hH i _ l).1;show i < N;omega
  ·intro i e l k c;rcases look i e l with A | ⟨W,_⟩
   ·exact absurd c (A k)
   ·obtain⟨X,h2,h3,_,h4⟩:=W k c;obtain⟨o,J,a4⟩:=S.blk _ X h2 _ h3;exact⟨o,J,h4 o a4⟩
  ·intro i e l k c;rcases look i e l with A | ⟨_,h4,_⟩
   ·exact absurd c (A k)
   ·exact h4 k c
  ·intro i k i' k' J av az;have ag:=S.inj _ _ _ _ (M i k J) (M i' k' av) az;obtain⟨e,l,c⟩:=J;obtain⟨e',ak,af⟩:=av;have R:=ag.1;have ac:=ag.2;rcases look i e l with A | ⟨_,_,c1⟩
   ·exact absurd c (A k)
   rcases look i' e' ak with A | ⟨_,_,c2⟩
   ·exact absurd af (A k')
   rcases c1 with⟨n1,l1,g1⟩ | ⟨m1,V,ah⟩<;>rcases c2 with⟨n2,l2,g2⟩ | ⟨m2,L,ap⟩
   ·exact⟨by simpa[sig,n1,n2]using R,by simpa[sig,n1,n2]using ac⟩
   ·exfalso;have h6:=an _ (cW L);have ab:=tg_at ap k' ((Ent.has_ren _ e' k').2 af);have:i=(m2.at k').1:=by simpa[sig,n1,L]using R
    rw[<-this]at ab;rcases h6.2 i ab with h5 | h5
    ·have:=nb h5;omega
    ·rw[g1]at h5;cases h5
   ·exfalso;have h6:=an _ (cW V);have ab:=tg_at ah k ((Ent.has_ren _ e k).2 c);have:(m1.at k).1=i':=by simpa[sig,n2,V]using R
    rw[this]at ab;rcases h6.2 i' ab with h5 | h5
    ·have:=nb h5;omega
    ·rw[g2]at h5;cases h5
   ·have K:(m1.at k).1=(m2.at k').1:=by simpa[sig,V,L]using R
    have a3:(m1.at k).2=(m2.at k').2:=by simpa[sig,V,L]using ac
    have a0:i=i':=by
     rcases a5 _ (cW V) _ (cW L)with h5 | h5
     ·exact qm h5
     ·exact absurd K (Aq h5 (tg_at ah k ((Ent.has_ren _ e k).2 c)) (tg_at ap k' ((Ent.has_ren _ e' k').2 af)))
    subst a0;rw[V]at L;cases L
    refine⟨rfl,?_⟩;rw[l]at ak;cases ak
    exact yc4 ah ((Ent.has_ren _ e k).2 c) ((Ent.has_ren _ e k').2 af) (Prod.ext K a3)
  ·intro i G k;rw[D.n0]at G;have a9:i < n0:=G;show ρ (sig s i k).1 (sig s i k).2=_;rw[E i k oo];exact S.anch i (by rw[D.n0];exact G) k
  ·intro i k J;rcases S.own _ _ (M i k J)with h | h
   ·have:=ay i k J h.1;exact .inl ⟨this.1,by rw[<-this.2];exact h.2⟩
   ·exact .inr h
  ·intro i b W k;show ρ (sig s i k).1 (sig s i k).2=_;simp only[lget]at W;split at W
   ·rename_i v f;cases W
    rcases eV hh _ (cW f)with hg | hg
    ·cases hg
    ·obtain⟨j,a2,ar⟩:=A2 hg;simp only at ar;rw[ar k];exact S.lnk j b a2 k
   ·rename_i f;have G:=(hH i _ W).1;rw[E i k G];rw[<-q i G f]at W;exact S.lnk i b W k
 ·intro n v f;simp only[lget]at f;split at f
  ·rename_i u hu;cases f
   rcases kz ht _ (cW hu)with hg | hg
   ·simp only at hg;subst hg;have al:=qp.1 a7 _ (cW hu);have al:=nb al;exact⟨_,qby (by rw[D.nt];exact al),tv⟩
   ·obtain⟨y,hy,a8⟩:=Ca hg;obtain⟨x,hx,hr⟩:=D.tm n _ hy;exact⟨x,hx,(SV.rel_ren _ ρ v x).1 (qJ a8 hr)⟩
  ·rename_i hu;split at f
   ·rename_i u ad;cases f
    have K:fm v=true/\n+1<=nt:=by simpa using(qp.1 hj _ (cW ad))
    have:fm v=true:=K.1;have:v=.junk:=by cases v<;>first | rfl | cases this
    subst this;exact⟨_,qby (by rw[D.nt];exact K.2),tv⟩
   ·rename_i ad;have l:=am n hu ad;obtain⟨x,hx,hr⟩:=D.tm n v (by show lget t1 n=some v;rw[l];exact f);exact⟨x,hx,SV.rel_congr g (hT n v f) hr⟩
 ·intro n v f;simp only[lget]at f;split at f
  ·rename_i u hu;cases f
   exact rS wt _ (cW hu)
  ·rename_i hu;split at f
   ·rename_i u ad;cases f
    have K:fm v=true/\n+1<=nt:=by simpa using(qp.1 hj _ (cW ad))
    have:fm v=true:=K.1;have:v=.junk:=by cases v<;>first | rfl | cases this
    subst this;trivial
   ·exact SV.below_mono hN (hT n v f)
 ·rw[D.df];refine jp fun x hx=>?_
  simp only[defOf];rw[il g (hd x hx)]
theorem m9{t1:List (List (Nat×SV))}{H:Hp}{nx1:Nat}(N0 N:Nat)(s:List (Nat×Mv))
  (g:WfH H N0)(j:WfT T N0)(h:N0<=N)(e:n0<=N0)(k:∀x∈d,∀a∈x.2,a.below N0)
  (q:leT s t1 upd)(c:∀n,aget upd n=none->aget jl n=none->lget t1 n=lget T n)(m:(jl.all fun p=>fm p.2&&Nat.ble (p.1+1) nt)=true)(f:(upd.all fun p=>Nat.ble (p.1+1) nt)=true)
  (l:leH s h1 hup)(b:∀i,i < N0->aget hup i=none->lget h1 i=lget H i)
  (o:chkS s hup N0 N=true)(wt:bT N upd)(u:bH N hup):
  Le ⟨t1,h1,nx1,n0,nt,d⟩ ⟨upd::jl::T,hup::H,N,n0,nt,d⟩:=by
 unfold Le;intro C ρ a w D;exact⟨_,ra N0 N s g j h e k q c m f l b o wt u C ρ a w D⟩
theorem pQ{C:Ctx}{ρ:Rho}{h:Hp}{nx:Nat}{w:World}(S:Sat C ρ h nx w){N0 N:Nat}{a:List (Nat×Ent)}(k:chkS s a N0 N=true)(j:C.n0<=N0)(c:N0<=N)(l:bH N a)(f:leH s h a)
  (b:∀i,i < N0->(aget a i).isSome=true):Sat C ((sig s).pull ρ) [a] N w:=by
 have D:Den C ρ ⟨[],h,nx,C.n0,0,[]⟩ ⟨#[],[]⟩ w:={ sat:=S,nt:=rfl,tm:=fun n s h=>by simp[lget]at h,tw:=fun n s h=>by simp[lget]at h,n0:=rfl,df:=rfl,dw:=by simp }
 have:=ra (t1:=[]) (T:=[]) (upd:=[]) (jl:=[]) (h1:=h) (H:=[]) (hup:=a) (nx1:=nx) (n0:=C.n0) (nt:=0) (d:=[]) N0 N s (fun i e h=>by simp[lget]at h) (fun n s h=>by simp[lget]at h) c j ss trivial (fun _ _ _=>rfl) rfl rfl f
  (fun i g h=>by have:=b i g;rw[h]at this;cases this) k trivial l C ρ _ w D
 exact this.sat
theorem pY{H:Hp}{N0:Nat}(N:Nat)(s:List (Nat×Mv))
  (e:WfH H N0)(g:WfT T N0)(f:Nat.ble N0 N=true)(b:Nat.ble n0 N0=true)(h:∀x∈d,∀a∈x.2,a.below N0)
  (j:(jl.all fun p=>fm p.2&&Nat.ble (p.1+1) nt)=true)(c:(upd.all fun p=>Nat.ble (p.1+1) nt)=true)
  (k:chkS s hup N0 N=true)(wt:bT N upd)(m:bH N hup)(l:leT s T upd)(i:leH s H hup):
  Le ⟨T,H,N0,n0,nt,d⟩ ⟨upd::jl::T,hup::H,N,n0,nt,d⟩:=
 m9 N0 N s e g (nb f) (nb b) h l (fun _ _ _=>rfl) j c i (fun _ _ _=>rfl) k wt m
theorem ik{β:Type}{a:List (Nat×β)}{f:Nat->Bool}(h:(a.all fun p=>f p.1)=true){n:Nat}(c:f n=false):aget a n=none:=by
 cases b:aget a n with
 |none=>rfl
 |some v=>have:=qp.1 h _ (cW b);simp only at this;rw[c]at this;cases this
theorem pb{c:List (Nat×SV)}{H:Hp}{b:List (Nat×Ent)}{nx1:Nat}(N0 N:Nat)(s:List (Nat×Mv))
  (k:WfH H N0)(o:WfT T N0)(l:Nat.ble N0 N=true)(g:Nat.ble n0 N0=true)(u:∀x∈d,∀a∈x.2,a.below N0)
  (y:(jl.all fun p=>fm p.2&&Nat.ble (p.1+1) nt)=true)(h:(upd.all fun p=>Nat.ble (p.1+1) nt)=true)
  (A:(c.all fun p=>(aget upd p.1).isSome||(aget jl p.1).isSome)=true)(e:(b.all fun p=>(aget hup p.1).isSome||Nat.ble N0 p.1)=true)
  (B:chkS s hup N0 N=true)(wt:bT N upd)(E:bH N hup)(D:leT s (c::jl::T) upd)(w:leH s (b::H) hup):
  Le ⟨c::jl::T,b::H,nx1,n0,nt,d⟩ ⟨upd::jl::T,hup::H,N,n0,nt,d⟩:=by
 refine m9 N0 N s k o (nb l) (nb g) u D ?_ y h w ?_ B wt E
 ·intro n h1 j;have:aget c n=none:=ik (f:=fun m=>(aget upd m).isSome||(aget jl m).isSome) A (by simp[h1,j]);simp[lget,this,j]
 ·intro i G h1
  have:aget b i=none:=ik (f:=fun m=>(aget hup m).isSome||Nat.ble N0 m) e (by
   simp only[h1,qc4,qa6];cases q:Nat.ble N0 i with
   |false=>rfl
   |true=>have:=nb q;omega)
  simp[lget,this]
def dV:Nat->List SV->List (Nat×SV)
 |_,[]=>[]
 |n,s::r=>(n,s)::dV (n+1) r
def mV(Θ:Tys)(c:St)(r:ResultVar)(K:SC->Prop):Prop:=
 match r with
 |.tmp t=>(match lget c.t t with
  |some (.va (.lit b))=>K (.va (.bool b))
  |some (.va a)=>K (.va a)
  |some (.agg l)=>K (.agg l)
  |_=>False)
 |.cell p t=>(match lget c.t p with
  |some x=>eC Θ t x c.h c.nx fun v _ _=>(match v with
   |.va a=>K (.va a)
   |.agg l=>K (.agg l)
   |_=>False)
  |none=>False)
def sresL(Θ:Tys)(a:St):List ResultVar->(List SC->Prop)->Prop
 |[],K=>K []
 |r::rs,K=>mV Θ a r fun c=>sresL Θ a rs fun l=>K (c::l)
def sres(Θ:Tys)(b:St)(a:List ResultVar)(K:SV->Prop):Prop:=
 sresL Θ b a fun l=>(match l with
  |[c]=>K c.v
  |l=>K (.tup l))
section
variable {P:Program} {Θ:Tys} {C:Ctx} {ρ:Rho} {st:St} {a:Act} {w:World}
def fA(b:Array Value)(r:ResultVar):Sem Value:=
 match r with
 |.tmp t=>pure (b.getD t undef)
 |.cell p t=>do loadVar t (<-asAddr (b.getD p undef))
theorem tQ(P:Program)(w:World)(b:Addr):(asAddr (.pointer (some b))).run P w=.ok b w:=rfl
theorem CW(hΘ:Θ.Ok P){r:ResultVar}{K:SC->Prop}(b:mV Θ st r K)(D:Den C ρ st a w):
  ∃c,K c/\c.below st.nx/\(fA a.tmps r).run P w=.ok (c.den ρ) w:=by
 cases r with
 |tmp t=>
  simp only[mV]at b;split at b
  ·rename_i x e;obtain⟨v,g,d⟩:=D.tm _ _ e;simp only[SV.rel]at d;subst d;exact⟨_,b,tv,by simp[g,SC.den,SA.den,fA]⟩
  ·rename_i x _ e;obtain⟨v,g,d⟩:=D.tm _ _ e;simp only[SV.rel]at d;subst d;exact⟨_,b,D.tw _ _ e,by simp[g,SC.den,fA]⟩
  ·rename_i x e;obtain⟨v,g,d⟩:=D.tm _ _ e;simp only[SV.rel]at d;subst d;exact⟨_,b,D.tw _ _ e,by simp[g,SC.den,fA]⟩
  ·exact b.elim
 |cell p t=>
  simp only[mV]at b;split at b
  ·rename_i x e;obtain⟨v,g,d⟩:=D.tm _ _ e
   have m:∃j,v=.pointer (some j):=by
    unfold eC at b;split at b
    ·simp only[SV.rel,SA.den]at d;exact⟨_,d⟩
    ·exact b.elim
   obtain⟨j,rfl⟩:=m;obtain⟨o,sv,n,f,k,i⟩:=nS (P:=P) hΘ b D.sat d;have h:(loadVar t j).run P w=.ok o w:=by simpa[Instr.loadAt,Instr.sureAddr]using n
   cases sv with
   |va x=>simp only[SV.rel]at f;exact⟨.va x,i,k,by simp[fA,g,tQ,h,f,SC.den]⟩
   |agg l=>simp only[SV.rel]at f;exact⟨.agg l,i,k,by simp[fA,g,tQ,h,f,SC.den]⟩
   |tup l=>exact i.elim
   |junk=>exact i.elim
  ·exact b.elim
theorem tL(hΘ:Θ.Ok P)(D:Den C ρ st a w):∀{f:List ResultVar} {K:List SC->Prop},sresL Θ st f K->
  ∃l,K l/\(∀c∈l,c.below st.nx)/\(f.mapM (fun r=>(fA a.tmps r))).run P w=.ok (l.map (SC.den ρ)) w
 |[],K,hs=>⟨[],hs,by simp,rfl⟩
 |r::f,K,hs=>by
  obtain⟨c,h,g,b⟩:=CW hΘ hs D;obtain⟨l,i,d,e⟩:=tL hΘ D h;refine⟨c::l,i,?_,?_⟩
  ·intro x hx;rcases qh.1 hx with rfl | hx
   ·exact g
   ·exact d x hx
  ·simp only[List.mapM_cons,Sem.run_bind,b,e,Result.andThen_ok,Sem.run_pure,qw]
theorem jM(hΘ:Θ.Ok P){fn:Func}(D:Den C ρ st a w){K:SV->Prop}(j:sres Θ st fn.results.toList K):
  ∃v sv,(results fn a.tmps).run P w=.ok v w/\sv.rel ρ v/\sv.below st.nx/\K sv:=by
 obtain⟨l,d,f,g⟩:=tL hΘ D j
 have i:(fn.results.mapM (fun r=>(fA a.tmps r))).run P w=.ok (l.map (SC.den ρ)).toArray w:=by
  rw[qc6,Sem.run_map,g];rfl
 have b:(results fn a.tmps).run P w=.ok (if h:(l.map (SC.den ρ)).toArray.size=1 then(l.map (SC.den ρ)).toArray[0]else .tuple (l.map (SC.den ρ)).toArray) w:=by
  have e:results fn a.tmps=(do
   let vs <-fn.results.mapM (fun r=>(fA a.tmps r))
   pure (if h:vs.size=1 then vs[0]else .tuple vs)):=by
   unfold results;rfl
  rw[e,Sem.run_bind,i,Result.andThen_ok,Sem.run_pure]
 match l,d,f,b with
 |[],d,f,b=>exact⟨_,.tup [],b,rfl,by simp[SV.below],d⟩
 |[c],d,f,b=>
  refine⟨_,c.v,b,?_,?_,d⟩
  ·cases c<;>rfl
  ·have:=f c ss;cases c<;>exact this
 |c::c'::r,d,f,b=>
  refine⟨_,.tup (c::c'::r),b,?_,f,d⟩;simp[SV.rel]
def endQ(Θ:Tys)(b:List ResultVar)(K:Out->Hp->Nat->Prop):SE->St->Prop:=fun e st=>
 match e with
 |.normal=>(match st.d with
  |[]=>sres Θ st b fun v=>K (.ret v) st.h st.nx
  |_::_=>False)
 |.ret=>(match st.d with
  |[]=>sres Θ st b fun v=>K (.ret v) st.h st.nx
  |_::_=>False)
 |.panic v=>(match st.d with
  |[]=>K (.panic v) st.h st.nx
  |_::_=>False)
 |.exit _=>False
theorem fs{ρ:Rho}{nx:Nat}:∀(args:List SV) (vs:List Value) (n m:Nat) (s:SV),relL ρ args vs->aget (dV n args) m=some s->∃v,n<=m/\vs[m - n]? =some v/\s.rel ρ v/\s∈args
 |[],vs,n,m,s,_,h=>by simp[dV,aget]at h
 |x::r,[],n,m,s,h,_=>h.elim
 |x::r,v::vr,n,m,s,h,hg=>by
  simp only[dV,aget]at hg;split at hg
  ·rename_i e;have:=qm e;cases hg;subst this
   exact⟨v,qi _,by simp,h.1,by simp⟩
  ·obtain⟨u,h1,b,c,d⟩:=fs (nx:=nx) r vr (n+1) m s h.2 hg;refine⟨u,by omega,?_,c,by simp[d]⟩;have:m - n=(m - (n+1))+1:=by omega
   rw[this];simpa using b
theorem ki{ρ:Rho}:∀{a:List SV} {b:List Value},relL ρ a b->a.length=b.length
 |[],[],_=>rfl
 |[],v::r,h=>h.elim
 |s::r,[],h=>h.elim
 |s::r,v::vr,h=>by simp[ki h.2]
theorem g8(hΘ:Θ.Ok P){f:FuncId}{fn:Func}{c:Code}{args:List SV}{h:Hp}{nx:Nat}{K:Out->Hp->Nat->Prop}(V:P.funcs[f]? =some fn)(U:fn.body=some c)(hn:(fn.name== "runtime.NumGoroutine")=false)
  (nt:Nat)(Q:List ResultVar)(ab:fn.ntmps=nt)(M:fn.results.toList=Q)(hl:Nat.ble args.length nt=true)
  (X:WP P c ⟨[dV 0 args],h,nx,nx,nt,[]⟩ (endQ Θ Q K)):za6 P f args h nx K:=by
 unfold za6;intro C ρ w vs S j J;refine⟨enters_of V U hn,?_⟩;unfold WP at X
 let G:Ctx:={ C with ρ0:=ρ,n0:=nx }
 have Y:Sat G ρ h nx w:={ S with anch:=fun _ _ _=>rfl,n0:=qi _,n1:=S.pos }
 have W:=ki j;have aa:=nb hl
 have D:Den G ρ ⟨[dV 0 args],h,nx,nx,nt,[]⟩ { tmps:=vs.toArray++Array.replicate (fn.ntmps - vs.toArray.size) undef,defers:=[] } w:=by
  refine{ sat:=Y,nt:=?_,tm:=?_,tw:=?_,n0:=rfl,df:=rfl,dw:=by simp }
  ·simp;omega
  ·intro n s l;simp only[lget]at l;split at l
   ·rename_i v O;cases l
    obtain⟨u,_,I,Z,_⟩:=fs (nx:=nx) args vs 0 n s j O;simp only[qa5]at I;refine⟨u,?_,Z⟩;rw[qa8 (by simpa using(qg.1 I).1)];simpa using I
   ·simp at l
  ·intro n s l;simp only[lget]at l;split at l
   ·rename_i v O;cases l
    obtain⟨u,_,_,_,h4⟩:=fs (nx:=nx) args vs 0 n s j O;exact J s h4
   ·simp at l
 refine calls_of_wp V U (wp_mono (X G ρ _ w D) ?_);rintro e R E ⟨se,b,y,g,rfl,o⟩
 have p:Sat C y b.h b.nx E:={ o.sat with
  anch:=fun i B k=>by rw[o.sat.anch i (y4 B S.n0) k];exact S.anch i B k
  n0:=q8 S.n0 o.sat.n0
  n1:=S.n1 }
 have A:∀i,i < nx->y i=ρ i:=fun i B=>funext fun k=>o.sat.anch i B k
 have x:nx<=b.nx:=o.sat.n0
 have ret:∀(q:b.d=[]) (L:sres Θ b Q fun v=>K (.ret v) b.h b.nx),R.defers=[]/\∃v,(results fn R.tmps).run P E=.ok v E/\∃out T m y,K out T m/\out.rel y (.returned v)/\Sat C y T m E/\(∀i,i < nx->y i=ρ i)/\nx<=m/\(match out with | .ret s=>s.below m | .panic _=>True):=by
  intro q L;refine⟨by rw[o.df,q];rfl,?_⟩;rw[<-M]at L;obtain⟨v,sv,r1,r2,r3,r4⟩:=jM hΘ o L;exact⟨v,r1,.ret sv,b.h,b.nx,y,r4,⟨v,rfl,r2⟩,p,A,x,r3⟩
 cases se with
 |normal=>
  simp only[endQ]at g;split at g
  ·rename_i q;exact ret q g
  ·exact g.elim
 |ret=>
  simp only[endQ]at g;split at g
  ·rename_i q;exact ret q g
  ·exact g.elim
 |exit id=>exact g.elim
 |panic v=>
  simp only[endQ]at g;split at g
  ·rename_i q;exact⟨by rw[o.df,q];rfl,.panic v,b.h,b.nx,y,g,rfl,p,A,x,tv⟩
  ·exact g.elim
theorem nV{f:FuncId}{args:List SV}{h:Hp}{nx:Nat}{K g:Out->Hp->Nat->Prop}(b:za6 P f args h nx K)(k:∀o h n,K o h n->g o h n):za6 P f args h nx g:=by
 unfold za6 at*;intro C ρ w vs S l j;obtain⟨c,b⟩:=b C ρ w vs S l j;refine⟨c,b.mono ?_⟩;rintro e s ⟨out,i,d,q,m,p⟩;exact⟨out,i,d,q,k _ _ _ m,p⟩
end
inductive Tr where
 |leaf (l:List (Nat×TI))
 |node (n:Nat) (l r:Tr)
def Tr.get:Tr->Tys
 |.leaf l,t=>aget l t
 |.node n l r,t=>match Nat.ble t n with
  |true=>l.get t
  |false=>r.get t
def okL(P:Program):List (Nat×TI)->Prop
 |[]=>True
 |(t,i)::r=>TI.ok P t i/\okL P r
def Tr.Okay(P:Program):Tr->Prop
 |.leaf l=>okL P l
 |.node _ l r=>l.Okay P/\r.Okay P
theorem ri{P:Program}:∀{l:List (Nat×TI)},okL P l->∀t i,aget l t=some i->TI.ok P t i
 |[],_,t,i,h=>by simp[aget]at h
 |(m,j)::r,ho,t,i,h=>by
  simp only[aget]at h;split at h
  ·rename_i a;have:=qm a;cases h;subst this;exact ho.1
  ·exact ri ho.2 t i h
theorem Tr.ok{P:Program}:∀(T:Tr),T.Okay P->Tys.Ok P T.get
 |.leaf l,h=>fun t i a=>ri h t i a
 |.node n l r,h=>fun t i a=>by
  simp only[Tr.get]at a;split at a
  ·exact Tr.ok l h.1 t i a
  ·exact Tr.ok r h.2 t i a
def pF:SA->Bool
 |.ptr _=>false
 |.slice nil ..=>nil
 |.fn _ cap=>cap.isEmpty
 |.iter _ _=>false
 |.map _ _=>false
 |_=>true
theorem rT{l:List SA}(h:l.all pF=true):∀a∈l,a.below 0:=by
 intro a b;have:=qp.1 h a b;cases a<;>simp_all[pF,SA.below]
theorem ydo{i:TI}(h:(aggD i.d||Nat.beq i.size 1)=true):aggD i.d=false->i.size=1:=by
 intro a;rw[a]at h;exact qm (by simpa using h)
end Sx
