import Derived.Test.YtfnkamphhpldcaaGreatDoorK04
set_option maxHeartbeats 64000000
namespace Sx
open Go
def setd (b:Option Tmp) (v:SV) (a:St) (K:St → Prop):Prop:=
 match b with
 |none=>K a
 |some d=>match Nat.ble (d + 1) a.nt with
  |true=>K { a with t:=lput a.t d v }
  |false=>False
def gslot:List Oper → Nat → Option Tmp
 |[],_=>none
 |o :: _,0=>o.dst
 |_ :: r,n + 1=>gslot r n
theorem zni:∀ (l:List Oper) (j:Nat),gslot l j = (l[j]?).bind (·.dst)
 |[],j=>by simp [gslot]
 |o :: r,0=>by simp [gslot]
 |o :: r,n + 1=>by simp [gslot,zni r n]
def beqB:Bool → Bool → Bool
 |true,true=>true
 |false,false=>true
 |_,_=>false
def sops (P:Program) (Θ:Tys) (e:List Oper) (Q:SE → St → Prop):List Oper → St → Prop
 |[],a=>Q .normal a
 |o :: r,a=>
  let c (a:St):Prop:=sop P Θ a.t o.op a.h a.nx (fun v h nx=>setd o.dst v { a with h:=h,nx:=nx } fun f=>sops P Θ e Q r f) (fun v h nx=>Q (.panic v) { a with h:=h,nx:=nx })
  let skip (a:St):Prop:=setd o.dst (.tup []) a fun f=>sops P Θ e Q r f
  match o.guard with
  |none=>c a
  |some (j,want)=>match gslot e j with
   |none=>False
   |some d=>match lget a.t d with
    |some (.va (.lit b))=>(match beqB b want with
     |true=>c a
     |false=>skip a)
    |some (.va (.bool b))=>(match Nat.ble (d + 1) a.nt with
     |true=>(match want with
      |true=>(b = true → c { a with t:=lput a.t d (.va (.lit true)) }) ∧ (b = false → skip { a with t:=lput a.t d (.va (.lit false)) })
      |false=>(b = false → c { a with t:=lput a.t d (.va (.lit false)) }) ∧ (b = true → skip { a with t:=lput a.t d (.va (.lit true)) }))
     |false=>False)
    |some (.tup [])=>skip a
    |_=>False
section
variable {P:Program} {Θ:Tys} {C:Ctx} {ρ:Rho} {st:St} {a:Act} {w:World} {Q:SE → St → Prop}
theorem Den.relit {d:Nat} {b:Bool} (D:Den C ρ st a w) (f:lget st.t d = some (.va (.bool b))):Den C ρ { st with t:=lput st.t d (.va (.lit b)) } a w where
 sat:=D.sat
 nt:=D.nt
 tm:=fun n s c=>by
  by_cases e:n = d
  ·subst e; rw [zaf] at c; cases c
   obtain ⟨v,g,h⟩:=D.tm n _ f;exact ⟨v,g,h⟩
  ·rw [zac _ _ _ _ e] at c; exact D.tm n s c
 tw:=fun n s c=>by
  by_cases e:n = d
  ·subst e; rw [zaf] at c; cases c; trivial
  ·rw [zac _ _ _ _ e] at c; exact D.tw n s c
 n0:=D.n0
 df:=D.df
 dw:=D.dw
theorem ziv {c:Option Tmp} {sv:SV} {v:Value} {K:St → Prop} (b:setd c sv st K) (D:Den C ρ st a w) (f:sv.rel ρ v) (g:sv.below st.nx):∃ e,K e ∧ Den C ρ e (a.put c v) w:=by
 unfold setd at b;split at b
 ·exact ⟨st,b,D⟩
 ·rename_i d;split at b
  ·rename_i h;exact ⟨_,b,D.put d (nb h) sv v f g⟩
  ·exact b.elim
theorem zij {o:Oper} {K i:Act → World → Prop} {R g:Exit → Act → World → Prop} {r:Result Next} (h:o.upon P a K R r) (f:∀ a w,K a w → i a w) (d:∀ e a w,R e a w → g e a w):o.upon P a i g r:=by
 cases r with
 |ok n w'=>
  cases n<;>simp only [Oper.upon] at h ⊢ <;>
   first
    |exact f _ _ h
    |exact Calls.mono h (fun e j b=>by
      cases e with
      |returned v=>exact f _ _ b
      |panicked c=>exact d _ _ _ b
      |outgrown=>obtain ⟨a,w,h⟩:=b; exact ⟨a,w,d _ _ _ h⟩)
    |exact Rows.mono h (fun _ _ b=>f _ _ b)
    |exact h
 |halt x w'=>cases x<;>simp only [Oper.upon] at h ⊢<;>first | exact d _ _ _ h | exact h
theorem zi0 (hΘ:Θ.Ok P) (f:List Oper):∀ (l:List Oper) (st:St) (ρ:Rho) (a:Act) (w:World),sops P Θ f Q l st → Den C ρ st a w → wpList P f.toArray (Up C Q) l a w
 |[],st,ρ,a,w,c,D=>⟨.normal,st,ρ,c,rfl,D⟩
 |o :: r,st,ρ,a,w,c,D=>by
  have p:∀ st ρ,sop P Θ st.t o.op st.h st.nx (fun v h nx=>setd o.dst v { st with h:=h,nx:=nx } fun g=>sops P Θ f Q r g) (fun v h nx=>Q (.panic v) { st with h:=h,nx:=nx }) → Den C ρ st a w →
    o.wp P a w (wpList P f.toArray (Up C Q) r) (Up C Q):=by
   intro st ρ c D;have:=zh0 hΘ c D;refine zij this ?_ ?_
   ·rintro S M ⟨v,sv,T,G,K,rfl,O,n,y,m,_,_⟩;obtain ⟨g,q,J⟩:=ziv O m n y;exact zi0 hΘ f r g K _ M q J
   ·rintro e S M ⟨v,T,G,K,rfl,R,m⟩;exact ⟨.panic v,_,K,R,rfl,m⟩
  have skip:∀ st ρ,(setd o.dst (.tup []) st fun g=>sops P Θ f Q r g) → Den C ρ st a w → wpList P f.toArray (Up C Q) r (a.put o.dst undef) w:=by
   intro st ρ c D;obtain ⟨g,q,m⟩:=ziv (v:=undef) c D rfl (by simp [SV.below]);exact zi0 hΘ f r g ρ _ w q m
  simp only [sops] at c;unfold wpList;split at c
  ·rename_i x;rw [if_pos (by simp [Region.wanted,x])];exact .inl (p st ρ c D)
  ·rename_i j i x;split at c
   ·exact c.elim
   ·rename_i d L
    have B:∀ v,a.tmps[d]? = some v → yielded f.toArray a.tmps j = (match v with | .bool b=>some b | _=>none):=by
     intro v k;rw [zni] at L;simp only [yielded,qcb,L,qc5,k];cases v<;>rfl
    have s:∀ b,a.tmps[d]? = some (.bool b) → b = i → Region.wanted o (yielded f.toArray a.tmps) = true:=by
     intro b y A; simp [Region.wanted,x,B _ y,A]
    have I:∀ b,a.tmps[d]? = some (.bool b) → b ≠ i → Region.wanted o (yielded f.toArray a.tmps) = false:=by
     intro b y A; simp [Region.wanted,x,B _ y,A]
    split at c
    ·rename_i b u;obtain ⟨v,k,n⟩:=D.tm d _ u;simp only [SV.rel,SA.den] at n; subst n;split at c
     ·rename_i E;rw [if_pos (s b k (by cases b<;>cases i<;>simp_all [beqB]))];exact .inl (p st ρ c D)
     ·rename_i E;rw [if_neg (by rw [I b k (by cases b<;>cases i<;>simp_all [beqB])]; simp)];exact skip st ρ c D
    ·rename_i b u;obtain ⟨v,k,n⟩:=D.tm d _ u;simp only [SV.rel,SA.den] at n; subst n;have m:=D.relit u;split at c
     ·split at c
      ·cases b with
       |true=>rw [if_pos (s _ k rfl)]; exact .inl (p _ ρ (c.1 rfl) m)
       |false=>rw [if_neg (by rw [I _ k (by simp)]; simp)]; exact skip _ ρ (c.2 rfl) m
      ·cases b with
       |false=>rw [if_pos (s _ k rfl)]; exact .inl (p _ ρ (c.1 rfl) m)
       |true=>rw [if_neg (by rw [I _ k (by simp)]; simp)]; exact skip _ ρ (c.2 rfl) m
     ·exact c.elim
    ·rename_i u;obtain ⟨v,k,n⟩:=D.tm d _ u;simp only [SV.rel,yv] at n; subst n;rw [if_neg (by simp [Region.wanted,x,B _ k])];exact skip st ρ c D
    ·exact c.elim
def yby:List Oper → Bool
 |[o]=>(match o.op with
  |.defer _=>true
  |_=>false)
 |_=>false
def sx (P:Program) (Θ:Tys):Code → St → (SE → St → Prop) → Prop
 |.skip,st,Q=>Q .normal st
 |.region id ops false,st,Q=>(match yby ops.toList with
  |true=>WP P (.region id ops false) st Q
  |false=>sops P Θ ops.toList Q ops.toList st)
 |.seq x y,st,Q=>sx P Θ x st fun e d=>(match e with
  |.normal=>sx P Θ y d Q
  |.ret=>Q .ret d
  |.exit id=>Q (.exit id) d
  |.panic v=>Q (.panic v) d)
 |.cond c x y,st,Q=>(match ev st.t c with
  |.va (.lit true)=>sx P Θ x st Q
  |.va (.lit false)=>sx P Θ y st Q
  |.va (.bool b)=>Br b (sx P Θ x st Q) (sx P Θ y st Q)
  |_=>False)
 |.block id x,st,Q=>sx P Θ x st fun e d=>(match e with
  |.normal=>Q .normal d
  |.ret=>Q .ret d
  |.exit i=>(match Nat.beq i id with
   |true=>Q .normal d
   |false=>Q (.exit i) d)
  |.panic v=>Q (.panic v) d)
 |.exit id,st,Q=>Q (.exit id) st
 |.ret,st,Q=>Q .ret st
 |c,st,Q=>WP P c st Q
theorem zcu (hΘ:Θ.Ok P):∀ (c:Code) (st:St) (Q:SE → St → Prop),sx P Θ c st Q → WP P c st Q:=by
 intro c
 induction c with
 |skip=>intro st Q d; unfold WP; intro C ρ a w D; exact wp_skip ⟨.normal,st,ρ,d,rfl,D⟩
 |region id ops draw=>
  intro st Q d;cases draw with
  |true=>exact d
  |false=>
   simp only [sx] at d;split at d
   ·exact d
   unfold WP;intro C ρ a w D;have:=zi0 (C:=C) hΘ ops.toList ops.toList st ρ a w d D;exact wp_region_list (by simpa using this)
 |seq x y ihx ihy=>
  intro st Q d;have h1:=ihx st _ d;unfold WP at h1 ⊢;intro C ρ a w D;refine wp_seq (wp_mono (h1 C ρ a w D) ?_);rintro e q s ⟨p,f,k,h,rfl,j⟩;cases p with
  |normal=>
   have g:=ihy f Q h;unfold WP at g;exact g C k q s j
  |ret=>exact ⟨.ret,f,k,h,rfl,j⟩
  |exit id=>exact ⟨.exit id,f,k,h,rfl,j⟩
  |panic v=>exact ⟨.panic v,f,k,h,rfl,j⟩
 |cond c x y ihx ihy=>
  intro st Q d;simp only [sx] at d;unfold WP;intro C ρ a w D;have l:=za4 D c;split at d
  ·rename_i m; rw [m] at l;have g:=ihx st Q d; unfold WP at g;exact wp_cond_true l.1 (g C ρ a w D)
  ·rename_i m; rw [m] at l;have g:=ihy st Q d; unfold WP at g;exact wp_cond_false l.1 (g C ρ a w D)
  ·rename_i b m; rw [m] at l;unfold Br at d;cases b with
   |true=>have g:=ihx st Q (d.1 rfl); unfold WP at g; exact wp_cond_true l.1 (g C ρ a w D)
   |false=>have g:=ihy st Q (d.2 rfl); unfold WP at g; exact wp_cond_false l.1 (g C ρ a w D)
  ·exact d.elim
 |block id x ih=>
  intro st Q d;have h1:=ih st _ d;unfold WP at h1 ⊢;intro C ρ a w D;refine wp_block (wp_mono (h1 C ρ a w D) ?_);rintro e q s ⟨p,f,k,h,rfl,j⟩;cases p with
  |normal=>exact ⟨.normal,f,k,h,rfl,j⟩
  |ret=>exact ⟨.ret,f,k,h,rfl,j⟩
  |exit i=>
   simp only at h;split at h
   ·rename_i n;have n:=qk n;subst n;simp only [SE.to,Exit.inBlock,if_true];exact ⟨.normal,f,k,h,rfl,j⟩
   ·rename_i n;have o:¬ i = id:=by intro m; subst m; simp at n
    simp only [SE.to,Exit.inBlock,o,if_false];exact ⟨.exit i,f,k,h,rfl,j⟩
  |panic v=>exact ⟨.panic v,f,k,h,rfl,j⟩
 |exit id=>intro st Q d; unfold WP; intro C ρ a w D; exact wp_exit ⟨.exit id,st,ρ,d,rfl,D⟩
 |ret=>intro st Q d; unfold WP; intro C ρ a w D; exact wp_ret ⟨.ret,st,ρ,d,rfl,D⟩
 |loop _ _=>intro st Q d; exact d
 |rangeFunc _ _ _ _ _ _=>intro st Q d; exact d
 |scope _ _=>intro st Q d; exact d
 |label _=>intro st Q d; exact d
 |goto _=>intro st Q d; exact d
 |refuse _=>intro st Q d; exact d
end
@[irreducible] def Le (st st':St):Prop:=∀ C ρ a w,Den C ρ st a w → ∃ ρ',Den C ρ' st' a w
def WfH (h:Hp) (nx:Nat):Prop:=∀ i e,lget h i = some e → i < nx ∧ ∀ k,e.has k → (e.at k).below nx
def WfT (t:List (List (Nat × SV))) (nx:Nat):Prop:=∀ n s,lget t n = some s → s.below nx
section
variable {P:Program} {Θ:Tys} {C:Ctx} {ρ:Rho} {st:St} {a:Act} {w:World} {Q:SE → St → Prop}
theorem Den.wfH (d:Den C ρ st a w):WfH st.h st.nx:=fun i e b=>⟨d.sat.lt i e b,d.sat.wf i e b⟩
theorem Den.wfT (d:Den C ρ st a w):WfT st.t st.nx:=d.tw
theorem exists_least {p:Nat → Prop} (h:∃ n,p n):∃ n,p n ∧ ∀ m,p m → n ≤ m:=by
 obtain ⟨n,f⟩:=h
 induction n using Nat.strongRecOn with
 |_ n ih=>
  by_cases b:∃ m,m < n ∧ p m
  ·obtain ⟨m,e,d⟩:=b; exact ih m e d
  ·exact ⟨n,f,fun m d=>Nat.le_of_not_lt fun c=>b ⟨m,c,d⟩⟩
def LQ {X:Type} (I:X → St) (μ:X → Nat) (x:X) (Q:SE → St → Prop):SE → St → Prop:=fun e b=>
 match e with
 |.normal=>∃ c,μ c < μ x ∧ Le b (I c)
 |.ret=>Q .ret b
 |.exit id=>Q (.exit id) b
 |.panic v=>Q (.panic v) b
theorem z97 {X:Type} {b:Code} (I:X → St) (μ:X → Nat) (J:X)
  (h:WfH st.h st.nx → WfT st.t st.nx → Le st (I J) ∧ ∀ x,WP P b (I x) (LQ I μ x Q)):WP P (.loop b) st Q:=by
 unfold WP;intro C ρ a w D;obtain ⟨G,R⟩:=h D.wfH D.wfT;unfold Le at G;obtain ⟨T,K⟩:=G C ρ a w D;have i:∀ a w,(∃ x ρ,Den C ρ (I x) a w) → ∃ n,∃ x ρ,μ x = n ∧ Den C ρ (I x) a w:=fun a w ⟨x,ρ,h⟩=>⟨μ x,x,ρ,rfl,h⟩
 let m:Act → World → Nat:=fun a w=>by
  classical exact if h:∃ n,∃ x ρ,μ x = n ∧ Den C ρ (I x) a w then Classical.choose (exists_least h) else 0
 refine wp_loop (fun a w=>∃ x ρ,Den C ρ (I x) a w) m ⟨J,T,K⟩ ?_;intro a w M;have u:=i a w M;have O:m a w = Classical.choose (exists_least u):=by simp only [m]; rw [dif_pos u]
 obtain ⟨x,S,y,L⟩:=(Classical.choose_spec (exists_least u)).1;have k:=R x;unfold WP at k;refine wp_mono (k C S a w L) ?_;rintro e A B ⟨U,d,p,l,rfl,o⟩;cases U with
 |normal=>
  obtain ⟨s,q,j⟩:=l;unfold Le at j;obtain ⟨c,f⟩:=j C p A B o;refine ⟨⟨s,c,f⟩,?_⟩;have g:=i A B ⟨s,c,f⟩;have E:m A B = Classical.choose (exists_least g):=by simp only [m]; rw [dif_pos g]
  rw [O,E,← y];exact yq ((Classical.choose_spec (exists_least g)).2 _ ⟨s,c,rfl,f⟩) q
 |ret=>exact ⟨.ret,d,p,l,rfl,o⟩
 |exit id=>exact ⟨.exit id,d,p,l,rfl,o⟩
 |panic v=>exact ⟨.panic v,d,p,l,rfl,o⟩
end
inductive Mv where
 |to (j:Nat)
 |fn (g:Nat → Nat × Nat) (tg:List Nat)
instance (n:Nat):OfNat Mv n:=⟨.to n⟩
def Mv.at (m:Mv) (k:Nat):Nat × Nat:=
 match m with
 |.to j=>(j,k)
 |.fn g _=>g k
abbrev Mu:=Nat → Nat → Nat × Nat
def Mu.pull (μ:Mu) (ρ:Rho):Rho:=fun i k=>ρ (μ i k).1 (μ i k).2
def Pl.ren (μ:Mu) (p:Pl):Pl:=⟨(μ p.i p.k).1,(μ p.i p.k).2,p.e,p.sz,p.o⟩
def SA.ren (μ:Mu):SA → SA
 |.ptr p=>.ptr (p.ren μ)
 |.slice nil i k e sz len cap=>.slice nil (μ i k).1 (μ i k).2 e sz len cap
 |.fn f cap=>.fn f (cap.map (Pl.ren μ))
 |.iter i k=>.iter (μ i k).1 (μ i k).2
 |.map i k=>.map (μ i k).1 (μ i k).2
 |.int k n=>.int k n
 |.lit b=>.lit b
 |.bool b=>.bool b
 |.str s=>.str s
 |.nilptr=>.nilptr
 |.nilfn=>.nilfn
 |.nilif=>.nilif
 |.ifc t v=>.ifc t v
 |.glob g=>.glob g
 |.nilsl=>.nilsl
 |.nilmap=>.nilmap
def SC.ren (μ:Mu):SC → SC
 |.va a=>.va (a.ren μ)
 |.agg l=>.agg (l.map (SA.ren μ))
def SV.ren (μ:Mu):SV → SV
 |.va a=>.va (a.ren μ)
 |.agg l=>.agg (l.map (SA.ren μ))
 |.tup l=>.tup (l.map (SC.ren μ))
 |.junk=>.junk
def SB.ren (μ:Mu):SB → SB
 |.cells t l=>.cells t (l.map (SA.ren μ))
 |.arr t sz L room=>.arr t sz (L.map (List.map (SA.ren μ))) room
 |.obj o=>.obj o
def Ent.ren (μ:Mu):Ent → Ent
 |.one b=>.one (b.ren μ)
 |.opt c b=>.opt c (b.ren μ)
 |.fam n c f=>.fam n c fun k=>(f k).ren μ
 |.gone=>.gone
 |.frz F=>.frz F
 |.lnk b=>.lnk b
theorem SA.den_ren (μ:Mu) (ρ:Rho) (a:SA):(a.ren μ).den ρ = a.den (μ.pull ρ):=by
 cases a<;>simp [SA.ren,SA.den,Pl.ren,Pl.addr,Mu.pull]
theorem zf3 (μ:Mu) (ρ:Rho) (l:List SA):(l.map (SA.ren μ)).map (SA.den ρ) = l.map (SA.den (μ.pull ρ)):=by
 rw [q9]; exact q8 fun a _=>SA.den_ren μ ρ a
theorem SV.rel_ren (μ:Mu) (ρ:Rho) (s:SV) (v:Value):(s.ren μ).rel ρ v ↔ s.rel (μ.pull ρ) v:=by
 cases s with
 |va a=>simp [SV.ren,SV.rel,SA.den_ren]
 |agg l=>simp only [SV.ren,SV.rel,zf3]
 |tup l=>
  simp only [SV.ren,SV.rel]
  have:(l.map (SC.ren μ)).map (SC.den ρ) = l.map (SC.den (μ.pull ρ)):=by
   rw [q9];refine q8 fun c _=>?_
   cases c with
   |va a=>exact SA.den_ren μ ρ a
   |agg l=>simp only [Function.comp,SC.ren,SC.den,zf3]
  rw [this]
 |junk=>exact Iff.rfl
theorem SB.ok_ren (μ:Mu) (ρ:Rho) (b:SB) (o:Obj):(b.ren μ).ok ρ o ↔ b.ok (μ.pull ρ) o:=by
 cases b with
 |cells t l=>simp only [SB.ren,SB.ok,zf3]
 |arr t sz L room=>
  simp only [SB.ren,SB.ok,qa];have e:(L.map (List.map (SA.ren μ))).flatten = L.flatten.map (SA.ren μ):=by rw [qbo]
  rw [e,zf3];constructor
  ·rintro ⟨h1,c⟩;refine ⟨fun x a=>?_,c⟩;have:=h1 (x.map (SA.ren μ)) (qz.2 ⟨x,a,rfl⟩); simpa using this
  ·rintro ⟨h1,c⟩;refine ⟨fun x a=>?_,c⟩;obtain ⟨y,d,rfl⟩:=qz.1 a;simpa using h1 y d
 |obj o=>exact Iff.rfl
theorem Ent.has_ren (μ:Mu) (e:Ent) (k:Nat):(e.ren μ).has k ↔ e.has k:=by cases e<;>exact Iff.rfl
theorem Ent.isFz_ren (μ:Mu) (e:Ent):(e.ren μ).isFz = e.isFz:=by cases e<;>rfl
theorem Ent.has_cases {e:Ent} {k:Nat} (h:e.has k):e.plain = true ∨ ∃ F,e = .frz F:=by
 cases e<;>first | exact .inl rfl | exact h.elim | exact .inr ⟨_,rfl⟩
theorem Ent.at_ren (μ:Mu) (e:Ent) (k:Nat) (h:e.plain = true):(e.ren μ).at k = (e.at k).ren μ:=by
 cases e<;>first | rfl | cases h
def sig (s:List (Nat × Mv)):Mu:=fun i k=>
 match aget s i with
 |some m=>m.at k
 |none=>(i,k)
def atomE (w a:SA):Prop:=
 match w,a with
 |.slice nil0 i0 k0 e0 sz0 len0 cap0,.slice nil i k e sz len cap=>nil0 = nil ∧ len0 = len ∧ cap0 = cap ∧ (nil = true ∨ (i0 = i ∧ k0 = k ∧ e0 = e ∧ sz0 = sz))
 |.slice nil0 _ _ _ _ len0 cap0,.nilsl=>nil0 = true ∧ len0 = 0 ∧ cap0 = 0
 |.nilsl,.slice nil _ _ _ _ len cap=>nil = true ∧ len = 0 ∧ cap = 0
 |.lit b0,.bool b=>b0 = b
 |.bool b0,.lit b=>b0 = b
 |w,a=>w = a
def scE:SC → SC → Prop
 |.va w,.va a=>atomE w a
 |w,a=>w = a
def tupE:List SC → List SC → Prop
 |[],[]=>True
 |w :: r,a :: r'=>scE w a ∧ tupE r r'
 |_,_=>False
def svE:SV → SV → Prop
 |.va w,.va a=>atomE w a
 |.tup w,.tup a=>tupE w a
 |w,a=>w = a
theorem zpa {ρ:Rho} {w a:SA} (h:atomE w a):w.den ρ = a.den ρ:=by
 unfold atomE at h;split at h
 ·obtain ⟨h1,d,c,b⟩:=h;subst h1; subst d; subst c;rcases b with b | ⟨rfl,rfl,rfl,rfl⟩
  ·subst b; rfl
  ·rfl
 ·obtain ⟨rfl,rfl,rfl⟩:=h; rfl
 ·obtain ⟨rfl,rfl,rfl⟩:=h; rfl
 ·subst h; rfl
 ·subst h; rfl
 ·subst h; rfl
theorem yak {ρ:Rho} {w a:SC} (h:scE w a):w.den ρ = a.den ρ:=by
 unfold scE at h;split at h
 ·exact zpa h
 ·rw [h]
theorem zun {ρ:Rho}:∀ {w a:List SC},tupE w a → w.map (SC.den ρ) = a.map (SC.den ρ)
 |[],[],_=>rfl
 |w :: r,a :: r',h=>by simp only [qv]; rw [yak h.1,zun h.2]
 |[],_ :: _,h=>h.elim
 |_ :: _,[],h=>h.elim
theorem zrb {ρ:Rho} {w a:SV} {v:Value} (h:svE w a) (b:a.rel ρ v):w.rel ρ v:=by
 unfold svE at h;split at h
 ·simp only [SV.rel] at *; rw [b,zpa h]
 ·simp only [SV.rel] at *; rw [b,zun h]
 ·subst h; exact b
def svO (w:SV):Option SV → Prop
 |some a=>svE w a
 |none=>False
theorem z6o {w:SV} {o:Option SV} (h:svO w o):∃ a,o = some a ∧ svE w a:=by
 cases o with
 |none=>exact h.elim
 |some a=>exact ⟨a,rfl,h⟩
def leT (s:List (Nat × Mv)) (t1:List (List (Nat × SV))):List (Nat × SV) → Prop
 |[]=>True
 |(n,v) :: r=>(match v with
  |.junk=>leT s t1 r
  |v=>svO (v.ren (sig s)) (lget t1 n) ∧ leT s t1 r)
def subE (x:Option Ent) (e:Ent):Prop:=
 match e with
 |.gone=>True
 |.one b=>(match x with
  |some (.one b')=>b' = b
  |some (.opt c b')=>c = true ∧ b' = b
  |_=>False)
 |.opt c b=>(match x with
  |some (.one b')=>b' = b
  |some (.opt c' b')=>c' = c ∧ b' = b
  |some (.fam _ _ _)=>False
  |some (.frz _)=>False
  |some (.lnk _)=>c = false
  |some .gone=>c = false
  |none=>c = false)
 |.fam n c f=>(match n with
  |0=>True
  |n + 1=>(match x with
   |some (.fam m c' f')=>m = n + 1 ∧ c' = c ∧ f' = f
   |_=>False))
 |.frz F=>(match x with
  |some (.frz F')=>Fz.le F F'
  |_=>False)
 |.lnk b=>(match x with
  |some (.lnk b')=>b' = b
  |_=>False)
theorem Fz.le_some {F b:Fz} (h:Fz.le F b) {k:Nat} (c:(F k).isSome = true):b k = F k:=by
 obtain ⟨B,a⟩:=jk.1 c;rw [a]; exact h k B a
theorem zut {x:Option Ent} {e:Ent} (h:subE x e) (k:Nat) (a:e.has k):∃ d,x = some d ∧ d.has k ∧ d.at k = e.at k ∧ d.isFz = e.isFz:=by
 unfold subE at h;cases e with
 |gone=>exact a.elim
 |lnk b=>exact a.elim
 |one b=>
  simp only at h;split at h
  ·subst h; exact ⟨_,rfl,a,rfl,rfl⟩
  ·exact ⟨_,rfl,⟨h.1,a⟩,h.2,rfl⟩
  ·exact h.elim
 |opt c b=>
  simp only at h;split at h
  ·subst h; exact ⟨_,rfl,a.2,rfl,rfl⟩
  ·exact ⟨_,rfl,⟨h.1.trans a.1,a.2⟩,h.2,rfl⟩
  ·exact h.elim
  ·exact h.elim
  ·have:=a.1; rw [h] at this; cases this
  ·have:=a.1; rw [h] at this; cases this
  ·have:=a.1; rw [h] at this; cases this
 |fam n c f=>
  cases n with
  |zero=>exact absurd a.1 (qby _)
  |succ n=>
   simp only at h;split at h
   ·obtain ⟨rfl,rfl,rfl⟩:=h; exact ⟨_,rfl,a,rfl,rfl⟩
   ·exact h.elim
 |frz F=>
  simp only at h;split at h
  ·rename_i g;have e:=Fz.le_some h a;exact ⟨_,rfl,by show (g k).isSome = true; rw [e]; exact a,by show (g k).getD _ = (F k).getD _; rw [e],rfl⟩
  ·exact h.elim
def genE (g:Nat → Nat × Nat) (tg:List Nat) (h1:Hp) (e:Ent):Prop:=
 match e with
 |.fam n c f=>(∀ k,k < n → c k = true → (g k).1 ∈ tg ∧ ∃ b,lget h1 (g k).1 = some b ∧ b.plain = true ∧ b.has (g k).2 ∧ b.at (g k).2 = f k) ∧
   (∀ k a,k < n → a < n → c k = true → c a = true → g k = g a → k = a)
 |_=>False
def entE (m:Option Mv) (i:Nat) (h1:Hp) (e:Ent):Prop:=
 match m with
 |none=>subE (lget h1 i) e
 |some (.to j)=>subE (lget h1 j) e
 |some (.fn g tg)=>genE g tg h1 e
theorem znf {s:List (Nat × Mv)} {i:Nat} {h1:Hp} {e:Ent} (h:entE (aget s i) i h1 e) (k:Nat) (b:e.has k):∃ a,lget h1 (sig s i k).1 = some a ∧ a.has (sig s i k).2 ∧ a.at (sig s i k).2 = e.at k ∧ a.isFz = e.isFz:=by
 unfold sig;cases c:aget s i with
 |none=>rw [c] at h; exact zut h k b
 |some m=>
  rw [c] at h;cases m with
  |to j=>exact zut h k b
  |fn g tg=>
   simp only [entE,genE] at h;split at h
   ·obtain ⟨h1,_⟩:=h;obtain ⟨_,a,f,l,d,n⟩:=h1 k b.1 b.2;refine ⟨a,f,d,n,?_⟩;cases a<;>first | rfl | cases l
   ·exact h.elim
theorem z6g {s:List (Nat × Mv)} {i:Nat} {h1:Hp} {b:Nat → Nat} (h:entE (aget s i) i h1 (.lnk b)):∃ j,lget h1 j = some (.lnk b) ∧ ∀ k,sig s i k = (j,k):=by
 unfold sig;cases c:aget s i with
 |none=>
  rw [c] at h;simp only [entE,subE] at h;split at h
  ·rename_i d a; subst h; exact ⟨i,a,fun _=>rfl⟩
  ·exact h.elim
 |some m=>
  rw [c] at h;cases m with
  |to j=>
   simp only [entE,subE] at h;split at h
   ·rename_i d a; subst h; exact ⟨j,a,fun _=>rfl⟩
   ·exact h.elim
  |fn g tg=>exact h.elim
def leH (s:List (Nat × Mv)) (h1:Hp):List (Nat × Ent) → Prop
 |[]=>True
 |(i,e) :: r=>(match e with
  |.gone=>leH s h1 r
  |e=>entE (aget s i) i h1 (e.ren (sig s)) ∧ leH s h1 r)
def Ent.below (n:Nat):Ent → Prop
 |.one b=>b.below n
 |.opt c b=>b.below n
 |.fam m c f=>∀ k,k < m → c k = true → (f k).below n
 |.gone=>True
 |.frz _=>True
 |.lnk _=>True
theorem Ent.below_at {n:Nat} {e:Ent} (h:e.below n) (k:Nat) (a:e.has k) (d:e.plain = true):(e.at k).below n:=by
 cases e with
 |one b=>exact h
 |opt c b=>exact h
 |fam m c f=>exact h k a.1 a.2
 |gone=>exact a.elim
 |frz F=>cases d
 |lnk b=>exact a.elim
def bT (n:Nat):List (Nat × SV) → Prop
 |[]=>True
 |(_,v) :: r=>v.below n ∧ bT n r
def bH (n:Nat):List (Nat × Ent) → Prop
 |[]=>True
 |(_,e) :: r=>e.below n ∧ bH n r
def zp7:Option Ent → Bool
 |some .gone=>true
 |_=>false
def Mv.tg:Mv → List Nat
 |.to j=>[j]
 |.fn _ tg=>tg
def at0 (hup:List (Nat × Ent)):Bool:=
 match aget hup 0 with
 |none=>true
 |some (.frz _)=>true
 |_=>false
def apart (a b:List Nat):Bool:=a.all fun x=>b.all fun y=>!(Nat.beq x y)
def chkS (s:List (Nat × Mv)) (hup:List (Nat × Ent)) (N0 N:Nat):Bool:=
 (s.all fun p=>Nat.ble N0 p.1 && Nat.ble (p.1 + 1) N && (p.2.tg.all fun j=>Nat.ble N0 j || zp7 (aget hup j))) &&
 (s.all fun p=>s.all fun q=>Nat.beq p.1 q.1 || apart p.2.tg q.2.tg) &&
 (hup.all fun q=>(zp7 (some q.2) || Nat.ble (q.1 + 1) N0 || (aget s q.1).isSome) && Nat.ble (q.1 + 1) N) &&
 ((hup.all fun q=>!q.2.isFz || Nat.beq q.1 0) && at0 hup)
def zhb:SV → Bool
 |.junk=>true
 |_=>false
theorem zbo {β:Type}:∀ {l:List (Nat × β)} {n:Nat} {v:β},aget l n = some v → (n,v) ∈ l
 |[],n,v,h=>by simp [aget] at h
 |(m,u) :: r,n,v,h=>by
  simp only [aget] at h;split at h
  ·rename_i a;have:=qk a;cases h; subst this; simp
  ·exact yp _ (zbo h)
theorem zlm {s:List (Nat × Mv)} {t1:List (List (Nat × SV))}:∀ {l:List (Nat × SV)},leT s t1 l → ∀ p ∈ l,p.2 = .junk ∨ svO (p.2.ren (sig s)) (lget t1 p.1)
 |[],_,p,hp=>by simp at hp
 |(n,v) :: r,h,p,hp=>by
  simp only [leT] at h;rcases qj.1 hp with rfl | hq
  ·cases v with
   |junk=>exact .inl rfl
   |va a=>exact .inr h.1
   |agg l=>exact .inr h.1
   |tup l=>exact .inr h.1
  ·cases v with
   |junk=>exact zlm h p hq
   |va a=>exact zlm h.2 p hq
   |agg l=>exact zlm h.2 p hq
   |tup l=>exact zlm h.2 p hq
theorem ze4 {s:List (Nat × Mv)} {h1:Hp}:∀ {l:List (Nat × Ent)},leH s h1 l → ∀ p ∈ l,p.2 = .gone ∨ entE (aget s p.1) p.1 h1 (p.2.ren (sig s))
 |[],_,p,hp=>by simp at hp
 |(i,e) :: r,h,p,hp=>by
  simp only [leH] at h;rcases qj.1 hp with rfl | hq
  ·cases e with
   |gone=>exact .inl rfl
   |one b=>exact .inr h.1
   |opt c b=>exact .inr h.1
   |fam n c f=>exact .inr h.1
   |frz F=>exact .inr h.1
   |lnk b=>exact .inr h.1
  ·cases e with
   |gone=>exact ze4 h p hq
   |one b=>exact ze4 h.2 p hq
   |opt c b=>exact ze4 h.2 p hq
   |fam n c f=>exact ze4 h.2 p hq
   |frz F=>exact ze4 h.2 p hq
   |lnk b=>exact ze4 h.2 p hq
theorem z7g {n:Nat}:∀ {l:List (Nat × SV)},bT n l → ∀ p ∈ l,p.2.below n
 |[],_,p,hp=>by simp at hp
 |(m,v) :: r,h,p,hp=>by
  rcases qj.1 hp with rfl | hp
  ·exact h.1
  ·exact z7g h.2 p hp
theorem zys {n:Nat}:∀ {l:List (Nat × Ent)},bH n l → ∀ p ∈ l,p.2.below n
 |[],_,p,hp=>by simp at hp
 |(m,v) :: r,h,p,hp=>by
  rcases qj.1 hp with rfl | hp
  ·exact h.1
  ·exact zys h.2 p hp
theorem tg_at {m:Mv} {i:Nat} {h1:Hp} {e:Ent} (h:entE (some m) i h1 e) (k:Nat) (a:e.has k):(m.at k).1 ∈ m.tg:=by
 cases m with
 |to j=>simp [Mv.at,Mv.tg]
 |fn g tg=>
  simp only [entE,genE] at h;split at h
  ·exact (h.1 k a.1 a.2).1
  ·exact h.elim
theorem ydw {m:Mv} {i:Nat} {h1:Hp} {e:Ent} (h:entE (some m) i h1 e) {k b:Nat} (c:e.has k) (a:e.has b) (d:m.at k = m.at b):k = b:=by
 cases m with
 |to j=>simpa [Mv.at] using d
 |fn g tg=>
  simp only [entE,genE] at h;split at h
  ·exact h.2 k b c.1 a.1 c.2 a.2 d
  ·exact h.elim
theorem z3p {a b:List Nat} (h:apart a b = true) {x y:Nat} (c:x ∈ a) (d:y ∈ b):x ≠ y:=by
 intro e; subst e;have:=qo.1 (qo.1 h x c) x d;simp at this
theorem zzs {t1 T:List (List (Nat × SV))} {upd jl:List (Nat × SV)} {h1 H:Hp} {hup:List (Nat × Ent)} {nx1 n0 nt:Nat} {d:List (Dk × List SA)} (N0 N:Nat) (s:List (Nat × Mv))
  (hH:WfH H N0) (hT:WfT T N0) (hN:N0 ≤ N) (ba:n0 ≤ N0) (hd:∀ x ∈ d,∀ a ∈ x.2,a.below N0)
  (ht:leT s t1 upd) (am:∀ n,aget upd n = none → aget jl n = none → lget t1 n = lget T n) (hj:(jl.all fun p=>zhb p.2 && Nat.ble (p.1 + 1) nt) = true) (a0:(upd.all fun p=>Nat.ble (p.1 + 1) nt) = true)
  (hh:leH s h1 hup) (l:∀ i,i < N0 → aget hup i = none → lget h1 i = lget H i)
  (hs:chkS s hup N0 N = true) (wt:bT N upd) (wh:bH N hup) :
  ∀ C ρ a w,Den C ρ ⟨t1,h1,nx1,n0,nt,d⟩ a w → Den C ((sig s).pull ρ) ⟨upd :: jl :: T,hup :: H,N,n0,nt,d⟩ a w:=by
 simp only [chkS,qf,qo,yy] at hs;obtain ⟨⟨⟨an,a3⟩,ay⟩,az,ao⟩:=hs
 have L:∀ i,i < N0 → aget s i = none:=by
  intro i G;cases a8:aget s i with
  |none=>rfl
  |some j=>
   have:=(an _ (zbo a8)).1.1;have:=nb this;simp only at this; omega
 have A:∀ i k,i < N0 → sig s i k = (i,k):=by
  intro i k G;unfold sig;rw [L i G]
 intro C ρ a w D;have S:=D.sat;have Q:0 < N0:=by have h1:=S.n1; have h2:C.n0 = n0:=D.n0; omega
 have g:∀ i,i < N0 → ((sig s).pull ρ) i = ρ i:=fun i G=>by
  funext k; simp only [Mu.pull,A i k G]
 -- what stands at the name 0
 have zero:∃ F,lget (hup :: H) 0 = some (.frz F) ∧ ∀ b B,F b = some B → B.below 1:=by
  obtain ⟨F1,af,ar⟩:=S.fz;cases hz:aget hup 0 with
  |none=>
   refine ⟨F1,?_,ar⟩;simp only [lget,hz];rw [← l 0 Q hz]; exact af
  |some e=>
   unfold at0 at ao; rw [hz] at ao;cases e with
   |frz F=>
    refine ⟨F,by simp [lget,hz],fun b B hB=>?_⟩;rcases ze4 hh _ (zbo hz) with hg | hg
    ·cases hg
    ·rw [L 0 Q] at hg;simp only [entE,Ent.ren,subE] at hg;have ac:lget h1 0 = some (.frz F1):=af;rw [ac] at hg;exact ar b B (hg b B hB)
   |_=>cases ao
 have I:∀ i F,lget (hup :: H) i = some (.frz F) → i = 0:=by
  intro i F hF;simp only [lget] at hF;split at hF
  ·rename_i v f;cases hF
   rcases az _ (zbo f) with h | h
   ·cases h
   ·exact qk h
  ·rename_i f;have G:=(hH i _ hF).1;rw [← l i G f] at hF;exact S.only i F hF
 -- what the target's heap holds at a family
 have look:∀ i e,lget (hup :: H) i = some e → (∀ k,¬ e.has k) ∨ ((∀ k,e.has k → ∃ X,lget h1 (sig s i k).1 = some X ∧ X.has (sig s i k).2 ∧ X.isFz = e.isFz ∧ (∀ o,(X.at (sig s i k).2).ok ρ o → (e.at k).ok ((sig s).pull ρ) o)) ∧
   (∀ k,e.has k → (e.at k).below N) ∧ ((aget s i = none ∧ i < N0 ∧ zp7 (aget hup i) = false) ∨ ∃ m,aget s i = some m ∧ entE (some m) i h1 (e.ren (sig s)))):=by
  intro i e q;have V:=q;simp only [lget] at q;split at q
  ·rename_i v f;cases q
   have hm:=zbo f;rcases ze4 hh _ hm with hg | hg
   ·simp only at hg; subst hg; exact .inl fun k c=>c
   ·have h3:=ay _ hm;by_cases ab:e = .gone
    ·subst ab; exact .inl fun k c=>c
    ·refine .inr ⟨fun k c=>?_,fun k c=>?_,?_⟩
     ·obtain ⟨X,h5,h6,h7,h8⟩:=znf hg k ((Ent.has_ren _ e k).2 c);refine ⟨X,h5,h6,h8.trans (Ent.isFz_ren _ e),fun o J=>?_⟩;simp only at h7 J;rcases Ent.has_cases c with hp | ⟨F,rfl⟩
      ·rw [h7,Ent.at_ren _ e k hp] at J;exact (SB.ok_ren _ ρ _ o).1 J
      ·rw [h7] at J;obtain ⟨F',ah,ai⟩:=zero;have aa:=I i F V;subst aa;rw [ah] at V; cases V
       obtain ⟨B,hB⟩:=jk.1 c;simp only [Ent.ren,Ent.at,hB,yi] at J ⊢;exact SB.ok_congr (n:=1) (fun i G=>g i (by omega)) (ai k B hB) J
     ·rcases Ent.has_cases c with hp | ⟨F,rfl⟩
      ·exact Ent.below_at (zys wh _ hm) k c hp
      ·obtain ⟨F',ah,ai⟩:=zero;have aa:=I i F V;subst aa;rw [ah] at V; cases V
       obtain ⟨B,hB⟩:=jk.1 c;simp only [Ent.at,hB,yi];exact SB.below_mono (by omega) (ai k B hB)
     ·cases ax:aget s i with
      |some m=>exact .inr ⟨m,rfl,by rw [← ax]; exact hg⟩
      |none=>
       left;have au:zp7 (some e) = false:=by cases e<;>first | rfl | exact absurd rfl ab
       refine ⟨rfl,?_,by rw [f]; exact au⟩;rcases h3.1 with (h3 | h3) | h3
       ·simp only at h3; rw [au] at h3; cases h3
       ·exact nb h3
       ·simp only at h3; rw [ax] at h3; cases h3
  ·rename_i f;have hw:=hH i e q;have G:=hw.1;right;refine ⟨fun k c=>⟨e,by rw [A i k G,l i G f,q],by rw [A i k G]; exact c,rfl,fun o J=>?_⟩,fun k c=>SB.below_mono hN (hw.2 k c),.inl ⟨L i G,G,by rw [f]; rfl⟩⟩;rw [A i k G] at J;exact SB.ok_congr (n:=N0) g (hw.2 k c) J
 have O:∀ i k,St.owns (hup :: H) i k → St.owns h1 (sig s i k).1 (sig s i k).2:=by
  rintro i k ⟨e,q,c⟩;rcases look i e q with E | ⟨W,_⟩
  ·exact absurd c (E k)
  ·obtain ⟨X,h2,h3,_⟩:=W k c;exact ⟨X,h2,h3⟩
 have ap:∀ i k,St.owns (hup :: H) i k → (sig s i k).1 = 0 → i = 0 ∧ (sig s i k).2 = k:=by
  rintro i k ⟨e,q,c⟩ h0;rcases look i e q with E | ⟨W,_⟩
  ·exact absurd c (E k)
  ·obtain ⟨X,h2,h3,h4,_⟩:=W k c;obtain ⟨F1,af,_⟩:=S.fz;have ac:lget h1 0 = some (.frz F1):=af;rw [h0,ac] at h2; cases h2
   have hf:e.isFz = true:=h4.symm;cases e with
   |frz F=>
    have aa:=I i F q;subst aa;exact ⟨rfl,by rw [A 0 k Q]⟩
   |_=>cases hf
 refine { sat:=?_,nt:=D.nt,tm:=?_,tw:=?_,n0:=D.n0,df:=?_,dw:=fun x hx b hb=>SA.below_mono hN (hd x hx b hb) }
 ·refine { lt:=?_,blk:=?_,wf:=?_,inj:=?_,anch:=?_,n0:=by rw [D.n0]; show n0 ≤ N; omega,n1:=S.n1,os:=S.os,tape:=S.tape,output:=S.output,size:=S.size,fr:=S.fr,own:=?_,fz:=zero,id0:=fun k=>by rw [g 0 Q]; exact S.id0 k,only:=I,lnk:=?_ }
  ·intro i e q;simp only [lget] at q;split at q
   ·rename_i v f;exact nb (ay _ (zbo f)).2
   ·have:=(hH i _ q).1; show i < N; omega
  ·intro i e q k c;rcases look i e q with E | ⟨W,_⟩
   ·exact absurd c (E k)
   ·obtain ⟨X,h2,h3,_,h4⟩:=W k c;obtain ⟨o,J,a7⟩:=S.blk _ X h2 _ h3;exact ⟨o,J,h4 o a7⟩
  ·intro i e q k c;rcases look i e q with E | ⟨_,h4,_⟩
   ·exact absurd c (E k)
   ·exact h4 k c
  ·intro i k i' k' J av a2;have ag:=S.inj _ _ _ _ (O i k J) (O i' k' av) a2;obtain ⟨e,q,c⟩:=J;obtain ⟨e',ak,ae⟩:=av;have R:=ag.1;have ad:=ag.2;rcases look i e q with E | ⟨_,_,c1⟩
   ·exact absurd c (E k)
   rcases look i' e' ak with E | ⟨_,_,c2⟩
   ·exact absurd ae (E k')
   rcases c1 with ⟨n1,l1,g1⟩ | ⟨m1,U,al⟩<;>rcases c2 with ⟨n2,l2,g2⟩ | ⟨m2,K,aw⟩
   ·exact ⟨by simpa [sig,n1,n2] using R,by simpa [sig,n1,n2] using ad⟩
   ·exfalso;have h6:=an _ (zbo K);have Z:=tg_at aw k' ((Ent.has_ren _ e' k').2 ae);have:i = (m2.at k').1:=by simpa [sig,n1,K] using R
    rw [← this] at Z;rcases h6.2 i Z with h5 | h5
    ·have:=nb h5; omega
    ·rw [g1] at h5; cases h5
   ·exfalso;have h6:=an _ (zbo U);have Z:=tg_at al k ((Ent.has_ren _ e k).2 c);have:(m1.at k).1 = i':=by simpa [sig,n2,U] using R
    rw [this] at Z;rcases h6.2 i' Z with h5 | h5
    ·have:=nb h5; omega
    ·rw [g2] at h5; cases h5
   ·have M:(m1.at k).1 = (m2.at k').1:=by simpa [sig,U,K] using R
    have a4:(m1.at k).2 = (m2.at k').2:=by simpa [sig,U,K] using ad
    have a6:i = i':=by
     rcases a3 _ (zbo U) _ (zbo K) with h5 | h5
     ·exact qk h5
     ·exact absurd M (z3p h5 (tg_at al k ((Ent.has_ren _ e k).2 c)) (tg_at aw k' ((Ent.has_ren _ e' k').2 ae)))
    subst a6;rw [U] at K; cases K
    refine ⟨rfl,?_⟩;rw [q] at ak; cases ak
    exact ydw al ((Ent.has_ren _ e k).2 c) ((Ent.has_ren _ e k').2 ae) (Prod.ext M a4)
  ·intro i G k;rw [D.n0] at G;have a9:i < n0:=G;show ρ (sig s i k).1 (sig s i k).2 = _;rw [A i k (by omega)]; exact S.anch i (by rw [D.n0]; exact G) k
  ·intro i k J;rcases S.own _ _ (O i k J) with h | h
   ·have:=ap i k J h.1;exact .inl ⟨this.1,by rw [← this.2]; exact h.2⟩
   ·exact .inr h
  ·intro i b W k;show ρ (sig s i k).1 (sig s i k).2 = _;simp only [lget] at W;split at W
   ·rename_i v f;cases W
    rcases ze4 hh _ (zbo f) with hg | hg
    ·cases hg
    ·obtain ⟨j,a5,aq⟩:=z6g hg;simp only at aq;rw [aq k]; exact S.lnk j b a5 k
   ·rename_i f;have G:=(hH i _ W).1;rw [A i k G];rw [← l i G f] at W;exact S.lnk i b W k
 ·intro n v f;simp only [lget] at f;split at f
  ·rename_i u hu;cases f
   rcases zlm ht _ (zbo hu) with hg | hg
   ·simp only at hg; subst hg;have aj:=qo.1 a0 _ (zbo hu);have aj:=nb aj;exact ⟨_,qbq (by rw [D.nt]; exact aj),tv⟩
   ·obtain ⟨y,hy,a1⟩:=z6o hg;obtain ⟨x,hx,hr⟩:=D.tm n _ hy;exact ⟨x,hx,(SV.rel_ren _ ρ v x).1 (zrb a1 hr)⟩
  ·rename_i hu;split at f
   ·rename_i u Y;cases f
    have M:zhb v = true ∧ n + 1 ≤ nt:=by simpa using (qo.1 hj _ (zbo Y))
    have:zhb v = true:=M.1;have:v = .junk:=by cases v<;>first | rfl | cases this
    subst this;exact ⟨_,qbq (by rw [D.nt]; exact M.2),tv⟩
   ·rename_i Y;have q:=am n hu Y;obtain ⟨x,hx,hr⟩:=D.tm n v (by show lget t1 n = some v; rw [q]; exact f);exact ⟨x,hx,SV.rel_congr g (hT n v f) hr⟩
 ·intro n v f;simp only [lget] at f;split at f
  ·rename_i u hu;cases f
   exact z7g wt _ (zbo hu)
  ·rename_i hu;split at f
   ·rename_i u Y;cases f
    have M:zhb v = true ∧ n + 1 ≤ nt:=by simpa using (qo.1 hj _ (zbo Y))
    have:zhb v = true:=M.1;have:v = .junk:=by cases v<;>first | rfl | cases this
    subst this;trivial
   ·exact SV.below_mono hN (hT n v f)
 ·rw [D.df];refine q8 fun x hx=>?_
  simp only [defOf];rw [zc7 g (hd x hx)]
theorem zx0 {t1 T:List (List (Nat × SV))} {upd jl:List (Nat × SV)} {h1 H:Hp} {hup:List (Nat × Ent)} {nx1 n0 nt:Nat} {d:List (Dk × List SA)} (N0 N:Nat) (s:List (Nat × Mv))
  (h:WfH H N0) (q:WfT T N0) (m:N0 ≤ N) (f:n0 ≤ N0) (l:∀ x ∈ d,∀ a ∈ x.2,a.below N0)
  (g:leT s t1 upd) (c:∀ n,aget upd n = none → aget jl n = none → lget t1 n = lget T n) (y:(jl.all fun p=>zhb p.2 && Nat.ble (p.1 + 1) nt) = true) (e:(upd.all fun p=>Nat.ble (p.1 + 1) nt) = true)
  (k:leH s h1 hup) (b:∀ i,i < N0 → aget hup i = none → lget h1 i = lget H i)
  (j:chkS s hup N0 N = true) (u:bT N upd) (o:bH N hup) :
  Le ⟨t1,h1,nx1,n0,nt,d⟩ ⟨upd :: jl :: T,hup :: H,N,n0,nt,d⟩:=by
 unfold Le;intro C ρ a w D;exact ⟨_,zzs N0 N s h q m f l g c y e k b j u o C ρ a w D⟩
theorem zr6 {C:Ctx} {ρ:Rho} {h:Hp} {nx:Nat} {w:World} (S:Sat C ρ h nx w) {N0 N:Nat} {s:List (Nat × Mv)} {a:List (Nat × Ent)} (c:chkS s a N0 N = true) (j:C.n0 ≤ N0) (g:N0 ≤ N) (k:bH N a) (f:leH s h a)
  (b:∀ i,i < N0 → (aget a i).isSome = true):Sat C ((sig s).pull ρ) [a] N w:=by
 have D:Den C ρ ⟨[],h,nx,C.n0,0,[]⟩ ⟨#[],[]⟩ w:={ sat:=S,nt:=rfl,tm:=fun n s h=>by simp [lget] at h,tw:=fun n s h=>by simp [lget] at h,n0:=rfl,df:=rfl,dw:=by simp }
 have:=zzs (t1:=[]) (T:=[]) (upd:=[]) (jl:=[]) (h1:=h) (H:=[]) (hup:=a) (nx1:=nx) (n0:=C.n0) (nt:=0) (d:=[]) N0 N s (fun i e h=>by simp [lget] at h) (fun n s h=>by simp [lget] at h) g j (by simp) trivial (fun _ _ _=>rfl) rfl rfl f
  (fun i l h=>by have:=b i l; rw [h] at this; cases this) c trivial k C ρ _ w D
 exact this.sat
theorem zr8 {T:List (List (Nat × SV))} {upd jl:List (Nat × SV)} {H:Hp} {hup:List (Nat × Ent)} {n0 nt N0:Nat} {d:List (Dk × List SA)} (N:Nat) (s:List (Nat × Mv))
  (f:WfH H N0) (m:WfT T N0) (k:Nat.ble N0 N = true) (c:Nat.ble n0 N0 = true) (i:∀ x ∈ d,∀ a ∈ x.2,a.below N0)
  (j:(jl.all fun p=>zhb p.2 && Nat.ble (p.1 + 1) nt) = true) (b:(upd.all fun p=>Nat.ble (p.1 + 1) nt) = true)
  (g:chkS s hup N0 N = true) (n:bT N upd) (l:bH N hup) (e:leT s T upd) (h:leH s H hup) :
  Le ⟨T,H,N0,n0,nt,d⟩ ⟨upd :: jl :: T,hup :: H,N,n0,nt,d⟩:=
 zx0 N0 N s f m (nb k) (nb c) i e (fun _ _ _=>rfl) j b h (fun _ _ _=>rfl) g n l
theorem ze7 {β γ:Type} {a:List (Nat × β)} {f:Nat → Bool} (h:(a.all fun p=>f p.1) = true) {n:Nat} (c:f n = false):aget a n = none:=by
 cases b:aget a n with
 |none=>rfl
 |some v=>have:=qo.1 h _ (zbo b); simp only at this; rw [c] at this; cases this
theorem zm8 {T:List (List (Nat × SV))} {c upd jl:List (Nat × SV)} {H:Hp} {b hup:List (Nat × Ent)} {nx1 n0 nt:Nat} {d:List (Dk × List SA)} (N0 N:Nat) (s:List (Nat × Mv))
  (l:WfH H N0) (B:WfT T N0) (y:Nat.ble N0 N = true) (h:Nat.ble n0 N0 = true) (w:∀ x ∈ d,∀ a ∈ x.2,a.below N0)
  (G:(jl.all fun p=>zhb p.2 && Nat.ble (p.1 + 1) nt) = true) (e:(upd.all fun p=>Nat.ble (p.1 + 1) nt) = true)
  (q:(c.all fun p=>(aget upd p.1).isSome || (aget jl p.1).isSome) = true) (g:(b.all fun p=>(aget hup p.1).isSome || Nat.ble N0 p.1) = true)
  (o:chkS s hup N0 N = true) (E:bT N upd) (A:bH N hup) (k:leT s (c :: jl :: T) upd) (u:leH s (b :: H) hup) :
  Le ⟨c :: jl :: T,b :: H,nx1,n0,nt,d⟩ ⟨upd :: jl :: T,hup :: H,N,n0,nt,d⟩:=by
 refine zx0 N0 N s l B (nb y) (nb h) w k ?_ G e u ?_ o E A
 ·intro n h1 j;have:aget c n = none:=ze7 (γ:=Nat) (f:=fun m=>(aget upd m).isSome || (aget jl m).isSome) q (by simp [h1,j]);simp [lget,this,j]
 ·intro i I h1
  have:aget b i = none:=ze7 (γ:=Nat) (f:=fun m=>(aget hup m).isSome || Nat.ble N0 m) g (by
   simp only [h1,Option.isSome_none,qbd];cases D:Nat.ble N0 i with
   |false=>rfl
   |true=>have:=nb D; omega)
  simp [lget,this]
def zex:Nat → List SV → List (Nat × SV)
 |_,[]=>[]
 |n,s :: r=>(n,s) :: zex (n + 1) r
def zow (Θ:Tys) (c:St) (r:ResultVar) (K:SC → Prop):Prop:=
 match r with
 |.tmp t=>(match lget c.t t with
  |some (.va (.lit b))=>K (.va (.bool b))
  |some (.va a)=>K (.va a)
  |some (.agg l)=>K (.agg l)
  |_=>False)
 |.cell p t=>(match lget c.t p with
  |some x=>zfr Θ t x c.h c.nx fun v _ _=>(match v with
   |.va a=>K (.va a)
   |.agg l=>K (.agg l)
   |_=>False)
  |none=>False)
def sresL (Θ:Tys) (a:St):List ResultVar → (List SC → Prop) → Prop
 |[],K=>K []
 |r :: rs,K=>zow Θ a r fun c=>sresL Θ a rs fun l=>K (c :: l)
def sres (Θ:Tys) (a:St) (b:List ResultVar) (K:SV → Prop):Prop:=
 sresL Θ a b fun l=>(match l with
  |[c]=>K c.v
  |l=>K (.tup l))
section
variable {P:Program} {Θ:Tys} {C:Ctx} {ρ:Rho} {st:St} {a:Act} {w:World}
def zh8 (b:Array Value) (r:ResultVar):Sem Value:=
 match r with
 |.tmp t=>pure (b.getD t undef)
 |.cell p t=>do loadVar t (← asAddr (b.getD p undef))
theorem zmv (P:Program) (w:World) (b:Addr):(asAddr (.pointer (some b))).run P w = .ok b w:=rfl
theorem zop (hΘ:Θ.Ok P) {r:ResultVar} {K:SC → Prop} (b:zow Θ st r K) (D:Den C ρ st a w) :
  ∃ c,K c ∧ c.below st.nx ∧ (zh8 a.tmps r).run P w = .ok (c.den ρ) w:=by
 cases r with
 |tmp t=>
  simp only [zow] at b;split at b
  ·rename_i x f;obtain ⟨v,g,d⟩:=D.tm _ _ f;simp only [SV.rel] at d; subst d;exact ⟨_,b,tv,by simp [g,SC.den,SA.den,zh8]⟩
  ·rename_i x _ f;obtain ⟨v,g,d⟩:=D.tm _ _ f;simp only [SV.rel] at d; subst d;exact ⟨_,b,D.tw _ _ f,by simp [g,SC.den,zh8]⟩
  ·rename_i x f;obtain ⟨v,g,d⟩:=D.tm _ _ f;simp only [SV.rel] at d; subst d;exact ⟨_,b,D.tw _ _ f,by simp [g,SC.den,zh8]⟩
  ·exact b.elim
 |cell p t=>
  simp only [zow] at b;split at b
  ·rename_i x f;obtain ⟨v,g,d⟩:=D.tm _ _ f
   have n:∃ j,v = .pointer (some j):=by
    unfold zfr at b;split at b
    ·simp only [SV.rel,SA.den] at d; exact ⟨_,d⟩
    ·exact b.elim
   obtain ⟨j,rfl⟩:=n;obtain ⟨m,sv,o,e,k,i⟩:=zhg (P:=P) hΘ b D.sat d;have h:(loadVar t j).run P w = .ok m w:=by simpa [Instr.loadAt,Instr.sureAddr] using o
   cases sv with
   |va x=>simp only [SV.rel] at e; exact ⟨.va x,i,k,by simp [zh8,g,zmv,h,e,SC.den]⟩
   |agg l=>simp only [SV.rel] at e; exact ⟨.agg l,i,k,by simp [zh8,g,zmv,h,e,SC.den]⟩
   |tup l=>exact i.elim
   |junk=>exact i.elim
  ·exact b.elim
theorem zlf (hΘ:Θ.Ok P) (D:Den C ρ st a w):∀ {f:List ResultVar} {K:List SC → Prop},sresL Θ st f K →
  ∃ l,K l ∧ (∀ c ∈ l,c.below st.nx) ∧ (f.mapM (fun r=>(zh8 a.tmps r))).run P w = .ok (l.map (SC.den ρ)) w
 |[],K,hs=>⟨[],hs,by simp,rfl⟩
 |r :: f,K,hs=>by
  obtain ⟨c,h,i,b⟩:=zop hΘ hs D;obtain ⟨l,g,e,d⟩:=zlf hΘ D h;refine ⟨c :: l,g,?_,?_⟩
  ·intro x hx;rcases qj.1 hx with rfl | hx
   ·exact i
   ·exact e x hx
  ·simp only [List.mapM_cons,Sem.run_bind,b,d,Result.andThen_ok,Sem.run_pure,qv]
theorem zfe (hΘ:Θ.Ok P) {fn:Func} (D:Den C ρ st a w) {K:SV → Prop} (j:sres Θ st fn.results.toList K) :
  ∃ v sv,(results fn a.tmps).run P w = .ok v w ∧ sv.rel ρ v ∧ sv.below st.nx ∧ K sv:=by
 obtain ⟨l,d,f,g⟩:=zlf hΘ D j
 have i:(fn.results.mapM (fun r=>(zh8 a.tmps r))).run P w = .ok (l.map (SC.den ρ)).toArray w:=by
  rw [qcw,Sem.run_map,g]; rfl
 have b:(results fn a.tmps).run P w = .ok (if h:(l.map (SC.den ρ)).toArray.size = 1 then (l.map (SC.den ρ)).toArray[0] else .tuple (l.map (SC.den ρ)).toArray) w:=by
  have e:results fn a.tmps = (do
   let vs ← fn.results.mapM (fun r=>(zh8 a.tmps r))
   pure (if h:vs.size = 1 then vs[0] else .tuple vs)):=by
   unfold results;rfl
  rw [e,Sem.run_bind,i,Result.andThen_ok,Sem.run_pure]
 match l,d,f,b with
 |[],d,f,b=>exact ⟨_,.tup [],b,rfl,by simp [SV.below],d⟩
 |[c],d,f,b=>
  refine ⟨_,c.v,b,?_,?_,d⟩
  ·cases c<;>rfl
  ·have:=f c (by simp); cases c<;>exact this
 |c :: c' :: r,d,f,b=>
  refine ⟨_,.tup (c :: c' :: r),b,?_,f,d⟩;simp [SV.rel]
def endQ (Θ:Tys) (b:List ResultVar) (K:Out → Hp → Nat → Prop):SE → St → Prop:=fun e st=>
 match e with
 |.normal=>(match st.d with
  |[]=>sres Θ st b fun v=>K (.ret v) st.h st.nx
  |_ :: _=>False)
 |.ret=>(match st.d with
  |[]=>sres Θ st b fun v=>K (.ret v) st.h st.nx
  |_ :: _=>False)
 |.panic v=>(match st.d with
  |[]=>K (.panic v) st.h st.nx
  |_ :: _=>False)
 |.exit _=>False
theorem zc8 {ρ:Rho} {nx:Nat}:∀ (args:List SV) (vs:List Value) (n m:Nat) (s:SV),relL ρ args vs → aget (zex n args) m = some s → ∃ v,n ≤ m ∧ vs[m - n]? = some v ∧ s.rel ρ v ∧ s ∈ args
 |[],vs,n,m,s,_,h=>by simp [zex,aget] at h
 |x :: r,[],n,m,s,h,_=>h.elim
 |x :: r,v :: vr,n,m,s,h,hg=>by
  simp only [zex,aget] at hg;split at hg
  ·rename_i e;have:=qk e;cases hg; subst this
   exact ⟨v,qm _,by simp,h.1,by simp⟩
  ·obtain ⟨u,h1,c,b,d⟩:=zc8 (nx:=nx) r vr (n + 1) m s h.2 hg;refine ⟨u,by omega,?_,b,by simp [d]⟩;have:m - n = (m - (n + 1)) + 1:=by omega
   rw [this]; simpa using c
theorem zh7 {ρ:Rho}:∀ {a:List SV} {b:List Value},relL ρ a b → a.length = b.length
 |[],[],_=>rfl
 |[],v :: r,h=>h.elim
 |s :: r,[],h=>h.elim
 |s :: r,v :: vr,h=>by simp [zh7 h.2]
theorem zhf (hΘ:Θ.Ok P) {f:FuncId} {fn:Func} {c:Code} {args:List SV} {h:Hp} {nx:Nat} {K:Out → Hp → Nat → Prop} (T:P.funcs[f]? = some fn) (X:fn.body = some c) (hn:(fn.name == "runtime.NumGoroutine") = false)
  (nt:Nat) (Q:List ResultVar) (aa:fn.ntmps = nt) (L:fn.results.toList = Q) (hl:Nat.ble args.length nt = true)
  (R:WP P c ⟨[zex 0 args],h,nx,nx,nt,[]⟩ (endQ Θ Q K)):zba P f args h nx K:=by
 unfold zba;intro C ρ w vs S j M;refine ⟨enters_of T X hn,?_⟩;unfold WP at R
 let J:Ctx:={ C with ρ0:=ρ,n0:=nx }
 have S1:Sat J ρ h nx w:={ S with anch:=fun _ _ _=>rfl,n0:=qm _,n1:=S.pos }
 have U:=zh7 j;have ab:=nb hl
 have D:Den J ρ ⟨[zex 0 args],h,nx,nx,nt,[]⟩ { tmps:=vs.toArray ++ Array.replicate (fn.ntmps - vs.toArray.size) undef,defers:=[] } w:=by
  refine { sat:=S1,nt:=?_,tm:=?_,tw:=?_,n0:=rfl,df:=rfl,dw:=by simp }
  ·simp; omega
  ·intro n s l;simp only [lget] at l;split at l
   ·rename_i v G;cases l
    obtain ⟨u,_,I,h3,_⟩:=zc8 (nx:=nx) args vs 0 n s j G;simp only [qat] at I;refine ⟨u,?_,h3⟩;rw [qax (by simpa using (qi.1 I).1)];simpa using I
   ·simp at l
  ·intro n s l;simp only [lget] at l;split at l
   ·rename_i v G;cases l
    obtain ⟨u,_,_,_,Z⟩:=zc8 (nx:=nx) args vs 0 n s j G;exact M s Z
   ·simp at l
 refine calls_of_wp T X (wp_mono (R J ρ _ w D) ?_);rintro e V B ⟨se,b,x,g,rfl,o⟩
 have y:Sat C x b.h b.nx B:={ o.sat with
  anch:=fun i E k=>by rw [o.sat.anch i (yz E S.n0) k]; exact S.anch i E k
  n0:=js S.n0 o.sat.n0
  n1:=S.n1 }
 have A:∀ i,i < nx → x i = ρ i:=fun i E=>funext fun k=>o.sat.anch i E k
 have p:nx ≤ b.nx:=o.sat.n0
 have ret:∀ (q:b.d = []) (O:sres Θ b Q fun v=>K (.ret v) b.h b.nx),V.defers = [] ∧ ∃ v,(results fn V.tmps).run P B = .ok v B ∧ ∃ out W m x,K out W m ∧ out.rel x (.returned v) ∧ Sat C x W m B ∧ (∀ i,i < nx → x i = ρ i) ∧ nx ≤ m ∧ (match out with | .ret s=>s.below m | .panic _=>True):=by
  intro q O;refine ⟨by rw [o.df,q]; rfl,?_⟩;rw [← L] at O;obtain ⟨v,sv,Y,r2,r3,r4⟩:=zfe hΘ o O;exact ⟨v,Y,.ret sv,b.h,b.nx,x,r4,⟨v,rfl,r2⟩,y,A,p,r3⟩
 cases se with
 |normal=>
  simp only [endQ] at g;split at g
  ·rename_i q; exact ret q g
  ·exact g.elim
 |ret=>
  simp only [endQ] at g;split at g
  ·rename_i q; exact ret q g
  ·exact g.elim
 |exit id=>exact g.elim
 |panic v=>
  simp only [endQ] at g;split at g
  ·rename_i q;exact ⟨by rw [o.df,q]; rfl,.panic v,b.h,b.nx,x,g,rfl,y,A,p,tv⟩
  ·exact g.elim
theorem zkg {f:FuncId} {args:List SV} {h:Hp} {nx:Nat} {K g:Out → Hp → Nat → Prop} (b:zba P f args h nx K) (j:∀ o h n,K o h n → g o h n):zba P f args h nx g:=by
 unfold zba at *;intro C ρ w vs S l q;obtain ⟨d,b⟩:=b C ρ w vs S l q;refine ⟨d,b.mono ?_⟩;rintro e s ⟨out,p,c,m,k,i⟩;exact ⟨out,p,c,m,j _ _ _ k,i⟩
end
inductive Tr where
 |leaf (l:List (Nat × TI))
 |node (n:Nat) (l r:Tr)
def Tr.get:Tr → Tys
 |.leaf l,t=>aget l t
 |.node n l r,t=>match Nat.ble t n with
  |true=>l.get t
  |false=>r.get t
def okL (P:Program):List (Nat × TI) → Prop
 |[]=>True
 |(t,i) :: r=>TI.ok P t i ∧ okL P r
def Tr.Okay (P:Program):Tr → Prop
 |.leaf l=>okL P l
 |.node _ l r=>l.Okay P ∧ r.Okay P
theorem zxz {P:Program}:∀ {l:List (Nat × TI)},okL P l → ∀ t i,aget l t = some i → TI.ok P t i
 |[],_,t,i,h=>by simp [aget] at h
 |(m,j) :: r,ho,t,i,h=>by
  simp only [aget] at h;split at h
  ·rename_i a;have:=qk a;cases h; subst this; exact ho.1
  ·exact zxz ho.2 t i h
theorem Tr.ok {P:Program}:∀ (T:Tr),T.Okay P → Tys.Ok P T.get
 |.leaf l,h=>fun t i a=>zxz h t i a
 |.node n l r,h=>fun t i a=>by
  simp only [Tr.get] at a;split at a
  ·exact Tr.ok l h.1 t i a
  ·exact Tr.ok r h.2 t i a
def zsm:SA → Bool
 |.ptr _=>false
 |.slice nil ..=>nil
 |.fn _ cap=>cap.isEmpty
 |.iter _ _=>false
 |.map _ _=>false
 |_=>true
theorem z7y {l:List SA} (h:l.all zsm = true):∀ a ∈ l,a.below 0:=by
 intro a b;have:=qo.1 h a b;cases a<;>simp_all [zsm,SA.below]
theorem yd5 {i:TI} (h:(aggD i.d || Nat.beq i.size 1) = true):aggD i.d = false → i.size = 1:=by
 intro a;rw [a] at h;exact qk (by simpa using h)
end Sx
