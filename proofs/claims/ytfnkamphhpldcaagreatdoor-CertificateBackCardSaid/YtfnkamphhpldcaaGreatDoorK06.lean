import Derived.Test.YtfnkamphhpldcaaGreatDoorK05
set_option maxHeartbeats 64000000
namespace Sx
open Go
def setd (dst:Option Tmp) (v:SV) (st:St) (K:St → Prop):Prop:=
 match dst with
 |none=>K st
 |some d=>match Nat.ble (d + 1) st.nt with
  |true=>K { st with t:=lput st.t d v }
  |false=>False
def gslot:List Oper → Nat → Option Tmp
 |[],_=>none
 |o :: _,0=>o.dst
 |_ :: r,n + 1=>gslot r n
theorem zlt:∀ (l:List Oper) (j:Nat),gslot l j = (l[j]?).bind (·.dst)
 |[],j=>by simp [gslot]
 |o :: r,0=>by simp [gslot]
 |o :: r,n + 1=>by simp [gslot,zlt r n]
def beqB:Bool → Bool → Bool
 |true,true=>true
 |false,false=>true
 |_,_=>false
def sops (P:Program) (Θ:Tys) (all:List Oper) (Q:SE → St → Prop):List Oper → St → Prop
 |[],st=>Q .normal st
 |o :: r,st=>
  let run (st:St):Prop:=sop P Θ st.t o.op st.h st.nx (fun v h nx=>setd o.dst v { st with h:=h,nx:=nx } fun st'=>sops P Θ all Q r st') (fun v h nx=>Q (.panic v) { st with h:=h,nx:=nx })
  let skip (st:St):Prop:=setd o.dst (.tup []) st fun st'=>sops P Θ all Q r st'
  match o.guard with
  |none=>run st
  |some (j,want)=>match gslot all j with
   |none=>False
   |some d=>match lget st.t d with
    |some (.va (.lit b))=>(match beqB b want with
     |true=>run st
     |false=>skip st)
    |some (.va (.bool b))=>(match Nat.ble (d + 1) st.nt with
     |true=>(match want with
      |true=>(b = true → run { st with t:=lput st.t d (.va (.lit true)) }) ∧ (b = false → skip { st with t:=lput st.t d (.va (.lit false)) })
      |false=>(b = false → run { st with t:=lput st.t d (.va (.lit false)) }) ∧ (b = true → skip { st with t:=lput st.t d (.va (.lit true)) }))
     |false=>False)
    |some (.tup [])=>skip st
    |_=>False
section
variable {P:Program} {Θ:Tys} {C:Ctx} {ρ:Rho} {st:St} {a:Act} {w:World} {Q:SE → St → Prop}
theorem Den.relit {d:Nat} {b:Bool} (D:Den C ρ st a w) (hl:lget st.t d = some (.va (.bool b))):Den C ρ { st with t:=lput st.t d (.va (.lit b)) } a w where
 sat:=D.sat
 nt:=D.nt
 tm:=fun n s hs=>by
  by_cases hn:n = d
  ·subst hn; rw [zaf] at hs; cases hs
   obtain ⟨v,hv,hr⟩:=D.tm n _ hl
   exact ⟨v,hv,hr⟩
  ·rw [zad _ _ _ _ hn] at hs; exact D.tm n s hs
 tw:=fun n s hs=>by
  by_cases hn:n = d
  ·subst hn; rw [zaf] at hs; cases hs; trivial
  ·rw [zad _ _ _ _ hn] at hs; exact D.tw n s hs
 n0:=D.n0
 df:=D.df
 dw:=D.dw
theorem zid {dst:Option Tmp} {sv:SV} {v:Value} {K:St → Prop} (hs:setd dst sv st K) (D:Den C ρ st a w) (hr:sv.rel ρ v) (hb:sv.below st.nx):∃ st',K st' ∧ Den C ρ st' (a.put dst v) w:=by
 unfold setd at hs
 split at hs
 ·exact ⟨st,hs,D⟩
 ·rename_i d
  split at hs
  ·rename_i hd
   exact ⟨_,hs,D.put d (nb hd) sv v hr hb⟩
  ·exact hs.elim
theorem zhc {o:Oper} {K K':Act → World → Prop} {R R':Exit → Act → World → Prop} {r:Result Next} (h:o.upon P a K R r) (hk:∀ a w,K a w → K' a w) (hr:∀ e a w,R e a w → R' e a w):o.upon P a K' R' r:=by
 cases r with
 |ok n w'=>
  cases n<;>simp only [Oper.upon] at h ⊢ <;>
   first
    |exact hk _ _ h
    |exact Calls.mono h (fun e w'' he=>by
      cases e with
      |returned v=>exact hk _ _ he
      |panicked c=>exact hr _ _ _ he
      |outgrown=>obtain ⟨a,w,h⟩:=he; exact ⟨a,w,hr _ _ _ h⟩)
    |exact Rows.mono h (fun _ _ he=>hk _ _ he)
    |exact h
 |halt x w'=>cases x<;>simp only [Oper.upon] at h ⊢<;>first | exact hr _ _ _ h | exact h
theorem zh7 (hΘ:Θ.Ok P) (all:List Oper):∀ (l:List Oper) (st:St) (ρ:Rho) (a:Act) (w:World),sops P Θ all Q l st → Den C ρ st a w → wpList P all.toArray (Up C Q) l a w
 |[],st,ρ,a,w,hs,D=>⟨.normal,st,ρ,hs,rfl,D⟩
 |o :: r,st,ρ,a,w,hs,D=>by
  have run:∀ st ρ,sop P Θ st.t o.op st.h st.nx (fun v h nx=>setd o.dst v { st with h:=h,nx:=nx } fun st'=>sops P Θ all Q r st') (fun v h nx=>Q (.panic v) { st with h:=h,nx:=nx }) → Den C ρ st a w →
    o.wp P a w (wpList P all.toArray (Up C Q) r) (Up C Q):=by
   intro st ρ hs D
   have:=zg7 hΘ hs D
   refine zhc this ?_ ?_
   ·rintro a' w' ⟨v,sv,h',nx',ρ',rfl,hk,hr,hb,D',_,_⟩
    obtain ⟨st',hk',D''⟩:=zid hk D' hr hb
    exact zh7 hΘ all r st' ρ' _ w' hk' D''
   ·rintro e a' w' ⟨v,h',nx',ρ',rfl,hq,D'⟩
    exact ⟨.panic v,_,ρ',hq,rfl,D'⟩
  have skip:∀ st ρ,(setd o.dst (.tup []) st fun st'=>sops P Θ all Q r st') → Den C ρ st a w → wpList P all.toArray (Up C Q) r (a.put o.dst undef) w:=by
   intro st ρ hs D
   obtain ⟨st',hk',D'⟩:=zid (v:=undef) hs D rfl (by simp [SV.below])
   exact zh7 hΘ all r st' ρ _ w hk' D'
  simp only [sops] at hs
  unfold wpList
  split at hs
  ·rename_i hg
   rw [if_pos (by simp [Region.wanted,hg])]
   exact .inl (run st ρ hs D)
  ·rename_i j want hg
   split at hs
   ·exact hs.elim
   ·rename_i d hd
    have hy:∀ v,a.tmps[d]? = some v → yielded all.toArray a.tmps j = (match v with | .bool b=>some b | _=>none):=by
     intro v hv
     rw [zlt] at hd
     simp only [yielded,qbq,hd,qco,hv]
     cases v<;>rfl
    have yes:∀ b,a.tmps[d]? = some (.bool b) → b = want → Region.wanted o (yielded all.toArray a.tmps) = true:=by
     intro b hb hw; simp [Region.wanted,hg,hy _ hb,hw]
    have no:∀ b,a.tmps[d]? = some (.bool b) → b ≠ want → Region.wanted o (yielded all.toArray a.tmps) = false:=by
     intro b hb hw; simp [Region.wanted,hg,hy _ hb,hw]
    split at hs
    ·rename_i b hl
     obtain ⟨v,hv,hr⟩:=D.tm d _ hl
     simp only [SV.rel,SA.den] at hr; subst hr
     split at hs
     ·rename_i hbw
      rw [if_pos (yes b hv (by cases b<;>cases want<;>simp_all [beqB]))]
      exact .inl (run st ρ hs D)
     ·rename_i hbw
      rw [if_neg (by rw [no b hv (by cases b<;>cases want<;>simp_all [beqB])]; simp)]
      exact skip st ρ hs D
    ·rename_i b hl
     obtain ⟨v,hv,hr⟩:=D.tm d _ hl
     simp only [SV.rel,SA.den] at hr; subst hr
     have D':=D.relit hl
     split at hs
     ·split at hs
      ·cases b with
       |true=>rw [if_pos (yes _ hv rfl)]; exact .inl (run _ ρ (hs.1 rfl) D')
       |false=>rw [if_neg (by rw [no _ hv (by simp)]; simp)]; exact skip _ ρ (hs.2 rfl) D'
      ·cases b with
       |false=>rw [if_pos (yes _ hv rfl)]; exact .inl (run _ ρ (hs.1 rfl) D')
       |true=>rw [if_neg (by rw [no _ hv (by simp)]; simp)]; exact skip _ ρ (hs.2 rfl) D'
     ·exact hs.elim
    ·rename_i hl
     obtain ⟨v,hv,hr⟩:=D.tm d _ hl
     simp only [SV.rel,ym] at hr; subst hr
     rw [if_neg (by simp [Region.wanted,hg,hy _ hv])]
     exact skip st ρ hs D
    ·exact hs.elim
def z8n:List Oper → Bool
 |[o]=>(match o.op with
  |.defer _=>true
  |_=>false)
 |_=>false
def sx (P:Program) (Θ:Tys):Code → St → (SE → St → Prop) → Prop
 |.skip,st,Q=>Q .normal st
 |.region id ops false,st,Q=>(match z8n ops.toList with
  |true=>WP P (.region id ops false) st Q
  |false=>sops P Θ ops.toList Q ops.toList st)
 |.seq x y,st,Q=>sx P Θ x st fun e st'=>(match e with
  |.normal=>sx P Θ y st' Q
  |.ret=>Q .ret st'
  |.exit id=>Q (.exit id) st'
  |.panic v=>Q (.panic v) st')
 |.cond c x y,st,Q=>(match ev st.t c with
  |.va (.lit true)=>sx P Θ x st Q
  |.va (.lit false)=>sx P Θ y st Q
  |.va (.bool b)=>Br b (sx P Θ x st Q) (sx P Θ y st Q)
  |_=>False)
 |.block id x,st,Q=>sx P Θ x st fun e st'=>(match e with
  |.normal=>Q .normal st'
  |.ret=>Q .ret st'
  |.exit i=>(match Nat.beq i id with
   |true=>Q .normal st'
   |false=>Q (.exit i) st')
  |.panic v=>Q (.panic v) st')
 |.exit id,st,Q=>Q (.exit id) st
 |.ret,st,Q=>Q .ret st
 |c,st,Q=>WP P c st Q
theorem zci (hΘ:Θ.Ok P):∀ (c:Code) (st:St) (Q:SE → St → Prop),sx P Θ c st Q → WP P c st Q:=by
 intro c
 induction c with
 |skip=>intro st Q hs; unfold WP; intro C ρ a w D; exact wp_skip ⟨.normal,st,ρ,hs,rfl,D⟩
 |region id ops draw=>
  intro st Q hs
  cases draw with
  |true=>exact hs
  |false=>
   simp only [sx] at hs
   split at hs
   ·exact hs
   unfold WP
   intro C ρ a w D
   have:=zh7 (C:=C) hΘ ops.toList ops.toList st ρ a w hs D
   exact wp_region_list (by simpa using this)
 |seq x y ihx ihy=>
  intro st Q hs
  have h1:=ihx st _ hs
  unfold WP at h1 ⊢
  intro C ρ a w D
  refine wp_seq (wp_mono (h1 C ρ a w D) ?_)
  rintro e a' w' ⟨se,st',ρ',hq,rfl,D'⟩
  cases se with
  |normal=>
   have h2:=ihy st' Q hq
   unfold WP at h2
   exact h2 C ρ' a' w' D'
  |ret=>exact ⟨.ret,st',ρ',hq,rfl,D'⟩
  |exit id=>exact ⟨.exit id,st',ρ',hq,rfl,D'⟩
  |panic v=>exact ⟨.panic v,st',ρ',hq,rfl,D'⟩
 |cond c x y ihx ihy=>
  intro st Q hs
  simp only [sx] at hs
  unfold WP
  intro C ρ a w D
  have hc:=zay D c
  split at hs
  ·rename_i he; rw [he] at hc
   have h2:=ihx st Q hs; unfold WP at h2
   exact wp_cond_true hc.1 (h2 C ρ a w D)
  ·rename_i he; rw [he] at hc
   have h2:=ihy st Q hs; unfold WP at h2
   exact wp_cond_false hc.1 (h2 C ρ a w D)
  ·rename_i b he; rw [he] at hc
   unfold Br at hs
   cases b with
   |true=>have h2:=ihx st Q (hs.1 rfl); unfold WP at h2; exact wp_cond_true hc.1 (h2 C ρ a w D)
   |false=>have h2:=ihy st Q (hs.2 rfl); unfold WP at h2; exact wp_cond_false hc.1 (h2 C ρ a w D)
  ·exact hs.elim
 |block id x ih=>
  intro st Q hs
  have h1:=ih st _ hs
  unfold WP at h1 ⊢
  intro C ρ a w D
  refine wp_block (wp_mono (h1 C ρ a w D) ?_)
  rintro e a' w' ⟨se,st',ρ',hq,rfl,D'⟩
  cases se with
  |normal=>exact ⟨.normal,st',ρ',hq,rfl,D'⟩
  |ret=>exact ⟨.ret,st',ρ',hq,rfl,D'⟩
  |exit i=>
   simp only at hq
   split at hq
   ·rename_i hb
    have hb:=qg hb
    subst hb
    simp only [SE.to,Exit.inBlock,if_true]
    exact ⟨.normal,st',ρ',hq,rfl,D'⟩
   ·rename_i hb
    have hne:¬ i = id:=by intro he; subst he; simp at hb
    simp only [SE.to,Exit.inBlock,hne,if_false]
    exact ⟨.exit i,st',ρ',hq,rfl,D'⟩
  |panic v=>exact ⟨.panic v,st',ρ',hq,rfl,D'⟩
 |exit id=>intro st Q hs; unfold WP; intro C ρ a w D; exact wp_exit ⟨.exit id,st,ρ,hs,rfl,D⟩
 |ret=>intro st Q hs; unfold WP; intro C ρ a w D; exact wp_ret ⟨.ret,st,ρ,hs,rfl,D⟩
 |loop _ _=>intro st Q hs; exact hs
 |rangeFunc _ _ _ _ _ _=>intro st Q hs; exact hs
 |scope _ _=>intro st Q hs; exact hs
 |label _=>intro st Q hs; exact hs
 |goto _=>intro st Q hs; exact hs
 |refuse _=>intro st Q hs; exact hs
end
@[irreducible] def Le (st st':St):Prop:=∀ C ρ a w,Den C ρ st a w → ∃ ρ',Den C ρ' st' a w
def WfH (h:Hp) (nx:Nat):Prop:=∀ i e,lget h i = some e → i < nx ∧ ∀ k,e.has k → (e.at k).below nx
def WfT (t:List (List (Nat × SV))) (nx:Nat):Prop:=∀ n s,lget t n = some s → s.below nx
section
variable {P:Program} {Θ:Tys} {C:Ctx} {ρ:Rho} {st:St} {a:Act} {w:World} {Q:SE → St → Prop}
theorem Den.wfH (d:Den C ρ st a w):WfH st.h st.nx:=fun i e he=>⟨d.sat.lt i e he,d.sat.wf i e he⟩
theorem Den.wfT (d:Den C ρ st a w):WfT st.t st.nx:=d.tw
theorem exists_least {p:Nat → Prop} (h:∃ n,p n):∃ n,p n ∧ ∀ m,p m → n ≤ m:=by
 obtain ⟨n,hn⟩:=h
 induction n using Nat.strongRecOn with
 |_ n ih=>
  by_cases hex:∃ m,m < n ∧ p m
  ·obtain ⟨m,hm,hp⟩:=hex; exact ih m hm hp
  ·exact ⟨n,hn,fun m hp=>Nat.le_of_not_lt fun hlt=>hex ⟨m,hlt,hp⟩⟩
def LQ {X:Type} (I:X → St) (μ:X → Nat) (x:X) (Q:SE → St → Prop):SE → St → Prop:=fun e st'=>
 match e with
 |.normal=>∃ x',μ x' < μ x ∧ Le st' (I x')
 |.ret=>Q .ret st'
 |.exit id=>Q (.exit id) st'
 |.panic v=>Q (.panic v) st'
theorem z4g {X:Type} {body:Code} (I:X → St) (μ:X → Nat) (x0:X)
  (h:WfH st.h st.nx → WfT st.t st.nx → Le st (I x0) ∧ ∀ x,WP P body (I x) (LQ I μ x Q)):WP P (.loop body) st Q:=by
 unfold WP
 intro C ρ a w D
 obtain ⟨h0,hb⟩:=h D.wfH D.wfT
 unfold Le at h0
 obtain ⟨ρ0,D0⟩:=h0 C ρ a w D
 have hex:∀ a w,(∃ x ρ,Den C ρ (I x) a w) → ∃ n,∃ x ρ,μ x = n ∧ Den C ρ (I x) a w:=fun a w ⟨x,ρ,h⟩=>⟨μ x,x,ρ,rfl,h⟩
 let m:Act → World → Nat:=fun a w=>by
  classical exact if h:∃ n,∃ x ρ,μ x = n ∧ Den C ρ (I x) a w then Classical.choose (exists_least h) else 0
 refine wp_loop (fun a w=>∃ x ρ,Den C ρ (I x) a w) m ⟨x0,ρ0,D0⟩ ?_
 intro a w hI
 have hn:=hex a w hI
 have hm:m a w = Classical.choose (exists_least hn):=by simp only [m]; rw [dif_pos hn]
 obtain ⟨x,ρx,hxm,Dx⟩:=(Classical.choose_spec (exists_least hn)).1
 have hbx:=hb x
 unfold WP at hbx
 refine wp_mono (hbx C ρx a w Dx) ?_
 rintro e a' w' ⟨se,st',ρ',hq,rfl,D'⟩
 cases se with
 |normal=>
  obtain ⟨x',hlt,hle⟩:=hq
  unfold Le at hle
  obtain ⟨ρ'',D''⟩:=hle C ρ' a' w' D'
  refine ⟨⟨x',ρ'',D''⟩,?_⟩
  have hn':=hex a' w' ⟨x',ρ'',D''⟩
  have hm':m a' w' = Classical.choose (exists_least hn'):=by simp only [m]; rw [dif_pos hn']
  rw [hm,hm',← hxm]
  exact yg ((Classical.choose_spec (exists_least hn')).2 _ ⟨x',ρ'',rfl,D''⟩) hlt
 |ret=>exact ⟨.ret,st',ρ',hq,rfl,D'⟩
 |exit id=>exact ⟨.exit id,st',ρ',hq,rfl,D'⟩
 |panic v=>exact ⟨.panic v,st',ρ',hq,rfl,D'⟩
end
inductive Mv where
 |to (j:Nat)
 |fn (g:Nat → Nat × Nat) (tg:List Nat)
instance (n:Nat):OfNat Mv n:=⟨.to n⟩
def Mv.at (m:Mv) (k:Nat):Nat × Nat:=
 match m with
 |.to j=>(j,k)
 |.fn g _=>g k
abbrev Mu:=Nat → Nat → Nat × Nat
def Mu.pull (μ:Mu) (ρ:Rho):Rho:=fun i k=>ρ (μ i k).1 (μ i k).2
def Pl.ren (μ:Mu) (p:Pl):Pl:=⟨(μ p.i p.k).1,(μ p.i p.k).2,p.e,p.sz,p.o⟩
def SA.ren (μ:Mu):SA → SA
 |.ptr p=>.ptr (p.ren μ)
 |.slice nil i k e sz len cap=>.slice nil (μ i k).1 (μ i k).2 e sz len cap
 |.fn f cap=>.fn f (cap.map (Pl.ren μ))
 |.iter i k=>.iter (μ i k).1 (μ i k).2
 |.map i k=>.map (μ i k).1 (μ i k).2
 |.int k n=>.int k n
 |.lit b=>.lit b
 |.bool b=>.bool b
 |.str s=>.str s
 |.nilptr=>.nilptr
 |.nilfn=>.nilfn
 |.nilif=>.nilif
 |.ifc t v=>.ifc t v
 |.glob g=>.glob g
 |.nilsl=>.nilsl
 |.nilmap=>.nilmap
def SC.ren (μ:Mu):SC → SC
 |.va a=>.va (a.ren μ)
 |.agg l=>.agg (l.map (SA.ren μ))
def SV.ren (μ:Mu):SV → SV
 |.va a=>.va (a.ren μ)
 |.agg l=>.agg (l.map (SA.ren μ))
 |.tup l=>.tup (l.map (SC.ren μ))
 |.junk=>.junk
def SB.ren (μ:Mu):SB → SB
 |.cells t l=>.cells t (l.map (SA.ren μ))
 |.arr t sz L room=>.arr t sz (L.map (List.map (SA.ren μ))) room
 |.obj o=>.obj o
def Ent.ren (μ:Mu):Ent → Ent
 |.one b=>.one (b.ren μ)
 |.opt c b=>.opt c (b.ren μ)
 |.fam n c f=>.fam n c fun k=>(f k).ren μ
 |.gone=>.gone
 |.frz F=>.frz F
 |.lnk b=>.lnk b
theorem SA.den_ren (μ:Mu) (ρ:Rho) (a:SA):(a.ren μ).den ρ = a.den (μ.pull ρ):=by
 cases a<;>simp [SA.ren,SA.den,Pl.ren,Pl.addr,Mu.pull]
theorem zfp (μ:Mu) (ρ:Rho) (l:List SA):(l.map (SA.ren μ)).map (SA.den ρ) = l.map (SA.den (μ.pull ρ)):=by
 rw [yd]; exact jx fun a _=>SA.den_ren μ ρ a
theorem SV.rel_ren (μ:Mu) (ρ:Rho) (s:SV) (v:Value):(s.ren μ).rel ρ v ↔ s.rel (μ.pull ρ) v:=by
 cases s with
 |va a=>simp [SV.ren,SV.rel,SA.den_ren]
 |agg l=>simp only [SV.ren,SV.rel,zfp]
 |tup l=>
  simp only [SV.ren,SV.rel]
  have:(l.map (SC.ren μ)).map (SC.den ρ) = l.map (SC.den (μ.pull ρ)):=by
   rw [yd]
   refine jx fun c _=>?_
   cases c with
   |va a=>exact SA.den_ren μ ρ a
   |agg l=>simp only [Function.comp,SC.ren,SC.den,zfp]
  rw [this]
 |junk=>exact Iff.rfl
theorem SB.ok_ren (μ:Mu) (ρ:Rho) (b:SB) (o:Obj):(b.ren μ).ok ρ o ↔ b.ok (μ.pull ρ) o:=by
 cases b with
 |cells t l=>simp only [SB.ren,SB.ok,zfp]
 |arr t sz L room=>
  simp only [SB.ren,SB.ok,qb]
  have e1:(L.map (List.map (SA.ren μ))).flatten = L.flatten.map (SA.ren μ):=by rw [qcn]
  rw [e1,zfp]
  constructor
  ·rintro ⟨h1,h2⟩
   refine ⟨fun x hx=>?_,h2⟩
   have:=h1 (x.map (SA.ren μ)) (q9.2 ⟨x,hx,rfl⟩); simpa using this
  ·rintro ⟨h1,h2⟩
   refine ⟨fun x hx=>?_,h2⟩
   obtain ⟨y,hy,rfl⟩:=q9.1 hx
   simpa using h1 y hy
 |obj o=>exact Iff.rfl
theorem Ent.has_ren (μ:Mu) (e:Ent) (k:Nat):(e.ren μ).has k ↔ e.has k:=by cases e<;>exact Iff.rfl
theorem Ent.isFz_ren (μ:Mu) (e:Ent):(e.ren μ).isFz = e.isFz:=by cases e<;>rfl
theorem Ent.has_cases {e:Ent} {k:Nat} (h:e.has k):e.plain = true ∨ ∃ F,e = .frz F:=by
 cases e<;>first | exact .inl rfl | exact h.elim | exact .inr ⟨_,rfl⟩
theorem Ent.at_ren (μ:Mu) (e:Ent) (k:Nat) (h:e.plain = true):(e.ren μ).at k = (e.at k).ren μ:=by
 cases e<;>first | rfl | cases h
def sig (s:List (Nat × Mv)):Mu:=fun i k=>
 match aget s i with
 |some m=>m.at k
 |none=>(i,k)
def atomE (w a:SA):Prop:=
 match w,a with
 |.slice nil0 i0 k0 e0 sz0 len0 cap0,.slice nil i k e sz len cap=>nil0 = nil ∧ len0 = len ∧ cap0 = cap ∧ (nil = true ∨ (i0 = i ∧ k0 = k ∧ e0 = e ∧ sz0 = sz))
 |.slice nil0 _ _ _ _ len0 cap0,.nilsl=>nil0 = true ∧ len0 = 0 ∧ cap0 = 0
 |.nilsl,.slice nil _ _ _ _ len cap=>nil = true ∧ len = 0 ∧ cap = 0
 |.lit b0,.bool b=>b0 = b
 |.bool b0,.lit b=>b0 = b
 |w,a=>w = a
def scE:SC → SC → Prop
 |.va w,.va a=>atomE w a
 |w,a=>w = a
def tupE:List SC → List SC → Prop
 |[],[]=>True
 |w :: r,a :: r'=>scE w a ∧ tupE r r'
 |_,_=>False
def svE:SV → SV → Prop
 |.va w,.va a=>atomE w a
 |.tup w,.tup a=>tupE w a
 |w,a=>w = a
theorem zom {ρ:Rho} {w a:SA} (h:atomE w a):w.den ρ = a.den ρ:=by
 unfold atomE at h
 split at h
 ·obtain ⟨h1,h2,h3,h4⟩:=h
  subst h1; subst h2; subst h3
  rcases h4 with h4 | ⟨rfl,rfl,rfl,rfl⟩
  ·subst h4; rfl
  ·rfl
 ·obtain ⟨rfl,rfl,rfl⟩:=h; rfl
 ·obtain ⟨rfl,rfl,rfl⟩:=h; rfl
 ·subst h; rfl
 ·subst h; rfl
 ·subst h; rfl
theorem z3n {ρ:Rho} {w a:SC} (h:scE w a):w.den ρ = a.den ρ:=by
 unfold scE at h
 split at h
 ·exact zom h
 ·rw [h]
theorem zr2 {ρ:Rho}:∀ {w a:List SC},tupE w a → w.map (SC.den ρ) = a.map (SC.den ρ)
 |[],[],_=>rfl
 |w :: r,a :: r',h=>by simp only [qx]; rw [z3n h.1,zr2 h.2]
 |[],_ :: _,h=>h.elim
 |_ :: _,[],h=>h.elim
theorem zqc {ρ:Rho} {w a:SV} {v:Value} (h:svE w a) (hr:a.rel ρ v):w.rel ρ v:=by
 unfold svE at h
 split at h
 ·simp only [SV.rel] at *; rw [hr,zom h]
 ·simp only [SV.rel] at *; rw [hr,zr2 h]
 ·subst h; exact hr
def svO (w:SV):Option SV → Prop
 |some a=>svE w a
 |none=>False
theorem zza {w:SV} {o:Option SV} (h:svO w o):∃ a,o = some a ∧ svE w a:=by
 cases o with
 |none=>exact h.elim
 |some a=>exact ⟨a,rfl,h⟩
def leT (s:List (Nat × Mv)) (t1:List (List (Nat × SV))):List (Nat × SV) → Prop
 |[]=>True
 |(n,v) :: r=>(match v with
  |.junk=>leT s t1 r
  |v=>svO (v.ren (sig s)) (lget t1 n) ∧ leT s t1 r)
def subE (x:Option Ent) (e:Ent):Prop:=
 match e with
 |.gone=>True
 |.one b=>(match x with
  |some (.one b')=>b' = b
  |some (.opt c b')=>c = true ∧ b' = b
  |_=>False)
 |.opt c b=>(match x with
  |some (.one b')=>b' = b
  |some (.opt c' b')=>c' = c ∧ b' = b
  |some (.fam _ _ _)=>False
  |some (.frz _)=>False
  |some (.lnk _)=>c = false
  |some .gone=>c = false
  |none=>c = false)
 |.fam n c f=>(match n with
  |0=>True
  |n + 1=>(match x with
   |some (.fam m c' f')=>m = n + 1 ∧ c' = c ∧ f' = f
   |_=>False))
 |.frz F=>(match x with
  |some (.frz F')=>Fz.le F F'
  |_=>False)
 |.lnk b=>(match x with
  |some (.lnk b')=>b' = b
  |_=>False)
theorem Fz.le_some {F F':Fz} (h:Fz.le F F') {k:Nat} (hk:(F k).isSome = true):F' k = F k:=by
 obtain ⟨B,hB⟩:=qw.1 hk
 rw [hB]; exact h k B hB
theorem zsg {x:Option Ent} {e:Ent} (h:subE x e) (k:Nat) (hk:e.has k):∃ e1,x = some e1 ∧ e1.has k ∧ e1.at k = e.at k ∧ e1.isFz = e.isFz:=by
 unfold subE at h
 cases e with
 |gone=>exact hk.elim
 |lnk b=>exact hk.elim
 |one b=>
  simp only at h
  split at h
  ·subst h; exact ⟨_,rfl,hk,rfl,rfl⟩
  ·exact ⟨_,rfl,⟨h.1,hk⟩,h.2,rfl⟩
  ·exact h.elim
 |opt c b=>
  simp only at h
  split at h
  ·subst h; exact ⟨_,rfl,hk.2,rfl,rfl⟩
  ·exact ⟨_,rfl,⟨h.1.trans hk.1,hk.2⟩,h.2,rfl⟩
  ·exact h.elim
  ·exact h.elim
  ·have:=hk.1; rw [h] at this; cases this
  ·have:=hk.1; rw [h] at this; cases this
  ·have:=hk.1; rw [h] at this; cases this
 |fam n c f=>
  cases n with
  |zero=>exact absurd hk.1 (qb0 _)
  |succ n=>
   simp only at h
   split at h
   ·obtain ⟨rfl,rfl,rfl⟩:=h; exact ⟨_,rfl,hk,rfl,rfl⟩
   ·exact h.elim
 |frz F=>
  simp only at h
  split at h
  ·rename_i F'
   have e:=Fz.le_some h hk
   exact ⟨_,rfl,by show (F' k).isSome = true; rw [e]; exact hk,by show (F' k).getD _ = (F k).getD _; rw [e],rfl⟩
  ·exact h.elim
def genE (g:Nat → Nat × Nat) (tg:List Nat) (h1:Hp) (e:Ent):Prop:=
 match e with
 |.fam n c f=>(∀ k,k < n → c k = true → (g k).1 ∈ tg ∧ ∃ e1,lget h1 (g k).1 = some e1 ∧ e1.plain = true ∧ e1.has (g k).2 ∧ e1.at (g k).2 = f k) ∧
   (∀ k k',k < n → k' < n → c k = true → c k' = true → g k = g k' → k = k')
 |_=>False
def entE (m:Option Mv) (i:Nat) (h1:Hp) (e:Ent):Prop:=
 match m with
 |none=>subE (lget h1 i) e
 |some (.to j)=>subE (lget h1 j) e
 |some (.fn g tg)=>genE g tg h1 e
theorem zmc {s:List (Nat × Mv)} {i:Nat} {h1:Hp} {e:Ent} (h:entE (aget s i) i h1 e) (k:Nat) (hk:e.has k):∃ e1,lget h1 (sig s i k).1 = some e1 ∧ e1.has (sig s i k).2 ∧ e1.at (sig s i k).2 = e.at k ∧ e1.isFz = e.isFz:=by
 unfold sig
 cases hs:aget s i with
 |none=>rw [hs] at h; exact zsg h k hk
 |some m=>
  rw [hs] at h
  cases m with
  |to j=>exact zsg h k hk
  |fn g tg=>
   simp only [entE,genE] at h
   split at h
   ·obtain ⟨h1,_⟩:=h
    obtain ⟨_,e1,h3,h4,h5,h6⟩:=h1 k hk.1 hk.2
    refine ⟨e1,h3,h5,h6,?_⟩
    cases e1<;>first | rfl | cases h4
   ·exact h.elim
theorem zxn {s:List (Nat × Mv)} {i:Nat} {h1:Hp} {b:Nat → Nat} (h:entE (aget s i) i h1 (.lnk b)):∃ j,lget h1 j = some (.lnk b) ∧ ∀ k,sig s i k = (j,k):=by
 unfold sig
 cases hs:aget s i with
 |none=>
  rw [hs] at h
  simp only [entE,subE] at h
  split at h
  ·rename_i b' hl; subst h; exact ⟨i,hl,fun _=>rfl⟩
  ·exact h.elim
 |some m=>
  rw [hs] at h
  cases m with
  |to j=>
   simp only [entE,subE] at h
   split at h
   ·rename_i b' hl; subst h; exact ⟨j,hl,fun _=>rfl⟩
   ·exact h.elim
  |fn g tg=>exact h.elim
def leH (s:List (Nat × Mv)) (h1:Hp):List (Nat × Ent) → Prop
 |[]=>True
 |(i,e) :: r=>(match e with
  |.gone=>leH s h1 r
  |e=>entE (aget s i) i h1 (e.ren (sig s)) ∧ leH s h1 r)
def Ent.below (n:Nat):Ent → Prop
 |.one b=>b.below n
 |.opt c b=>b.below n
 |.fam m c f=>∀ k,k < m → c k = true → (f k).below n
 |.gone=>True
 |.frz _=>True
 |.lnk _=>True
theorem Ent.below_at {n:Nat} {e:Ent} (h:e.below n) (k:Nat) (hk:e.has k) (hp:e.plain = true):(e.at k).below n:=by
 cases e with
 |one b=>exact h
 |opt c b=>exact h
 |fam m c f=>exact h k hk.1 hk.2
 |gone=>exact hk.elim
 |frz F=>cases hp
 |lnk b=>exact hk.elim
def bT (n:Nat):List (Nat × SV) → Prop
 |[]=>True
 |(_,v) :: r=>v.below n ∧ bT n r
def bH (n:Nat):List (Nat × Ent) → Prop
 |[]=>True
 |(_,e) :: r=>e.below n ∧ bH n r
def zoi:Option Ent → Bool
 |some .gone=>true
 |_=>false
def Mv.tg:Mv → List Nat
 |.to j=>[j]
 |.fn _ tg=>tg
def at0 (hup:List (Nat × Ent)):Bool:=
 match aget hup 0 with
 |none=>true
 |some (.frz _)=>true
 |_=>false
def apart (a b:List Nat):Bool:=a.all fun x=>b.all fun y=>!(Nat.beq x y)
def chkS (s:List (Nat × Mv)) (hup:List (Nat × Ent)) (N0 N:Nat):Bool:=
 (s.all fun p=>Nat.ble N0 p.1 && Nat.ble (p.1 + 1) N && (p.2.tg.all fun j=>Nat.ble N0 j || zoi (aget hup j))) &&
 (s.all fun p=>s.all fun q=>Nat.beq p.1 q.1 || apart p.2.tg q.2.tg) &&
 (hup.all fun q=>(zoi (some q.2) || Nat.ble (q.1 + 1) N0 || (aget s q.1).isSome) && Nat.ble (q.1 + 1) N) &&
 ((hup.all fun q=>!q.2.isFz || Nat.beq q.1 0) && at0 hup)
def zgn:SV → Bool
 |.junk=>true
 |_=>false
theorem zbd {β:Type}:∀ {l:List (Nat × β)} {n:Nat} {v:β},aget l n = some v → (n,v) ∈ l
 |[],n,v,h=>by simp [aget] at h
 |(m,u) :: r,n,v,h=>by
  simp only [aget] at h
  split at h
  ·rename_i hb
   have:=qg hb
   cases h; subst this; simp
  ·exact qaj _ (zbd h)
theorem zjn {s:List (Nat × Mv)} {t1:List (List (Nat × SV))}:∀ {l:List (Nat × SV)},leT s t1 l → ∀ p ∈ l,p.2 = .junk ∨ svO (p.2.ren (sig s)) (lget t1 p.1)
 |[],_,p,hp=>by simp at hp
 |(n,v) :: r,h,p,hp=>by
  simp only [leT] at h
  rcases qj.1 hp with rfl | hq
  ·cases v with
   |junk=>exact .inl rfl
   |va a=>exact .inr h.1
   |agg l=>exact .inr h.1
   |tup l=>exact .inr h.1
  ·cases v with
   |junk=>exact zjn h p hq
   |va a=>exact zjn h.2 p hq
   |agg l=>exact zjn h.2 p hq
   |tup l=>exact zjn h.2 p hq
theorem zee {s:List (Nat × Mv)} {h1:Hp}:∀ {l:List (Nat × Ent)},leH s h1 l → ∀ p ∈ l,p.2 = .gone ∨ entE (aget s p.1) p.1 h1 (p.2.ren (sig s))
 |[],_,p,hp=>by simp at hp
 |(i,e) :: r,h,p,hp=>by
  simp only [leH] at h
  rcases qj.1 hp with rfl | hq
  ·cases e with
   |gone=>exact .inl rfl
   |one b=>exact .inr h.1
   |opt c b=>exact .inr h.1
   |fam n c f=>exact .inr h.1
   |frz F=>exact .inr h.1
   |lnk b=>exact .inr h.1
  ·cases e with
   |gone=>exact zee h p hq
   |one b=>exact zee h.2 p hq
   |opt c b=>exact zee h.2 p hq
   |fam n c f=>exact zee h.2 p hq
   |frz F=>exact zee h.2 p hq
   |lnk b=>exact zee h.2 p hq
theorem z18 {n:Nat}:∀ {l:List (Nat × SV)},bT n l → ∀ p ∈ l,p.2.below n
 |[],_,p,hp=>by simp at hp
 |(m,v) :: r,h,p,hp=>by
  rcases qj.1 hp with rfl | hp
  ·exact h.1
  ·exact z18 h.2 p hp
theorem zvp {n:Nat}:∀ {l:List (Nat × Ent)},bH n l → ∀ p ∈ l,p.2.below n
 |[],_,p,hp=>by simp at hp
 |(m,v) :: r,h,p,hp=>by
  rcases qj.1 hp with rfl | hp
  ·exact h.1
  ·exact zvp h.2 p hp
theorem tg_at {m:Mv} {i:Nat} {h1:Hp} {e:Ent} (h:entE (some m) i h1 e) (k:Nat) (hk:e.has k):(m.at k).1 ∈ m.tg:=by
 cases m with
 |to j=>simp [Mv.at,Mv.tg]
 |fn g tg=>
  simp only [entE,genE] at h
  split at h
  ·exact (h.1 k hk.1 hk.2).1
  ·exact h.elim
theorem z8i {m:Mv} {i:Nat} {h1:Hp} {e:Ent} (h:entE (some m) i h1 e) {k k':Nat} (hk:e.has k) (hk':e.has k') (he:m.at k = m.at k'):k = k':=by
 cases m with
 |to j=>simpa [Mv.at] using he
 |fn g tg=>
  simp only [entE,genE] at h
  split at h
  ·exact h.2 k k' hk.1 hk'.1 hk.2 hk'.2 he
  ·exact h.elim
theorem zye {a b:List Nat} (h:apart a b = true) {x y:Nat} (hx:x ∈ a) (hy:y ∈ b):x ≠ y:=by
 intro he; subst he
 have:=qo.1 (qo.1 h x hx) x hy
 simp at this
theorem zwv {t1 T:List (List (Nat × SV))} {upd jl:List (Nat × SV)} {h1 H:Hp} {hup:List (Nat × Ent)} {nx1 n0 nt:Nat} {d:List (Dk × List SA)} (N0 N:Nat) (s:List (Nat × Mv))
  (hH:WfH H N0) (hT:WfT T N0) (hN:N0 ≤ N) (hn0:n0 ≤ N0) (hd:∀ x ∈ d,∀ a ∈ x.2,a.below N0)
  (ht:leT s t1 upd) (hrest:∀ n,aget upd n = none → aget jl n = none → lget t1 n = lget T n) (hj:(jl.all fun p=>zgn p.2 && Nat.ble (p.1 + 1) nt) = true) (hu0:(upd.all fun p=>Nat.ble (p.1 + 1) nt) = true)
  (hh:leH s h1 hup) (hrestH:∀ i,i < N0 → aget hup i = none → lget h1 i = lget H i)
  (hs:chkS s hup N0 N = true) (wt:bT N upd) (wh:bH N hup) :
  ∀ C ρ a w,Den C ρ ⟨t1,h1,nx1,n0,nt,d⟩ a w → Den C ((sig s).pull ρ) ⟨upd :: jl :: T,hup :: H,N,n0,nt,d⟩ a w:=by
 simp only [chkS,qd,qo,y6] at hs
 obtain ⟨⟨⟨hs1,hs2⟩,hs3⟩,hs4,hs5⟩:=hs
 have snone:∀ i,i < N0 → aget s i = none:=by
  intro i hi
  cases hj':aget s i with
  |none=>rfl
  |some j=>
   have:=(hs1 _ (zbd hj')).1.1
   have:=nb this
   simp only at this; omega
 have sfix:∀ i k,i < N0 → sig s i k = (i,k):=by
  intro i k hi
  unfold sig
  rw [snone i hi]
 intro C ρ a w D
 have S:=D.sat
 have hpos:0 < N0:=by have h1:=S.n1; have h2:C.n0 = n0:=D.n0; omega
 have hagree:∀ i,i < N0 → ((sig s).pull ρ) i = ρ i:=fun i hi=>by
  funext k; simp only [Mu.pull,sfix i k hi]
 -- what stands at the name 0
 have zero:∃ F,lget (hup :: H) 0 = some (.frz F) ∧ ∀ b B,F b = some B → B.below 1:=by
  obtain ⟨F1,hF1,hb1⟩:=S.fz
  cases hz:aget hup 0 with
  |none=>
   refine ⟨F1,?_,hb1⟩
   simp only [lget,hz]
   rw [← hrestH 0 hpos hz]; exact hF1
  |some e=>
   unfold at0 at hs5; rw [hz] at hs5
   cases e with
   |frz F=>
    refine ⟨F,by simp [lget,hz],fun b B hB=>?_⟩
    rcases zee hh _ (zbd hz) with hg | hg
    ·cases hg
    ·rw [snone 0 hpos] at hg
     simp only [entE,Ent.ren,subE] at hg
     have hF1':lget h1 0 = some (.frz F1):=hF1
     rw [hF1'] at hg
     exact hb1 b B (hg b B hB)
   |_=>cases hs5
 have onlyT:∀ i F,lget (hup :: H) i = some (.frz F) → i = 0:=by
  intro i F hF
  simp only [lget] at hF
  split at hF
  ·rename_i v hv
   cases hF
   rcases hs4 _ (zbd hv) with h | h
   ·cases h
   ·exact qg h
  ·rename_i hv
   have hi:=(hH i _ hF).1
   rw [← hrestH i hi hv] at hF
   exact S.only i F hF
 -- what the target's heap holds at a family
 have look:∀ i e,lget (hup :: H) i = some e → (∀ k,¬ e.has k) ∨ ((∀ k,e.has k → ∃ e1,lget h1 (sig s i k).1 = some e1 ∧ e1.has (sig s i k).2 ∧ e1.isFz = e.isFz ∧ (∀ o,(e1.at (sig s i k).2).ok ρ o → (e.at k).ok ((sig s).pull ρ) o)) ∧
   (∀ k,e.has k → (e.at k).below N) ∧ ((aget s i = none ∧ i < N0 ∧ zoi (aget hup i) = false) ∨ ∃ m,aget s i = some m ∧ entE (some m) i h1 (e.ren (sig s)))):=by
  intro i e he
  have he0:=he
  simp only [lget] at he
  split at he
  ·rename_i v hv
   cases he
   have hm:=zbd hv
   rcases zee hh _ hm with hg | hg
   ·simp only at hg; subst hg; exact .inl fun k hk=>hk
   ·have h3:=hs3 _ hm
    by_cases hgone:e = .gone
    ·subst hgone; exact .inl fun k hk=>hk
    ·refine .inr ⟨fun k hk=>?_,fun k hk=>?_,?_⟩
     ·obtain ⟨e1,h5,h6,h7,h8⟩:=zmc hg k ((Ent.has_ren _ e k).2 hk)
      refine ⟨e1,h5,h6,h8.trans (Ent.isFz_ren _ e),fun o ho=>?_⟩
      simp only at h7 ho
      rcases Ent.has_cases hk with hp | ⟨F,rfl⟩
      ·rw [h7,Ent.at_ren _ e k hp] at ho
       exact (SB.ok_ren _ ρ _ o).1 ho
      ·rw [h7] at ho
       obtain ⟨F',hF',hb'⟩:=zero
       have hi0:=onlyT i F he0
       subst hi0
       rw [hF'] at he0; cases he0
       obtain ⟨B,hB⟩:=qw.1 hk
       simp only [Ent.ren,Ent.at,hB,ju] at ho ⊢
       exact SB.ok_congr (n:=1) (fun i hi=>hagree i (by omega)) (hb' k B hB) ho
     ·rcases Ent.has_cases hk with hp | ⟨F,rfl⟩
      ·exact Ent.below_at (zvp wh _ hm) k hk hp
      ·obtain ⟨F',hF',hb'⟩:=zero
       have hi0:=onlyT i F he0
       subst hi0
       rw [hF'] at he0; cases he0
       obtain ⟨B,hB⟩:=qw.1 hk
       simp only [Ent.at,hB,ju]
       exact SB.below_mono (by omega) (hb' k B hB)
     ·cases hsi:aget s i with
      |some m=>exact .inr ⟨m,rfl,by rw [← hsi]; exact hg⟩
      |none=>
       left
       have hng:zoi (some e) = false:=by cases e<;>first | rfl | exact absurd rfl hgone
       refine ⟨rfl,?_,by rw [hv]; exact hng⟩
       rcases h3.1 with (h3 | h3) | h3
       ·simp only at h3; rw [hng] at h3; cases h3
       ·exact nb h3
       ·simp only at h3; rw [hsi] at h3; cases h3
  ·rename_i hv
   have hw:=hH i e he
   have hi:=hw.1
   right
   refine ⟨fun k hk=>⟨e,by rw [sfix i k hi,hrestH i hi hv,he],by rw [sfix i k hi]; exact hk,rfl,fun o ho=>?_⟩,fun k hk=>SB.below_mono hN (hw.2 k hk),.inl ⟨snone i hi,hi,by rw [hv]; rfl⟩⟩
   rw [sfix i k hi] at ho
   exact SB.ok_congr (n:=N0) hagree (hw.2 k hk) ho
 have owns1:∀ i k,St.owns (hup :: H) i k → St.owns h1 (sig s i k).1 (sig s i k).2:=by
  rintro i k ⟨e,he,hk⟩
  rcases look i e he with hno | ⟨hl,_⟩
  ·exact absurd hk (hno k)
  ·obtain ⟨e1,h2,h3,_⟩:=hl k hk
   exact ⟨e1,h2,h3⟩
 have own0:∀ i k,St.owns (hup :: H) i k → (sig s i k).1 = 0 → i = 0 ∧ (sig s i k).2 = k:=by
  rintro i k ⟨e,he,hk⟩ h0
  rcases look i e he with hno | ⟨hl,_⟩
  ·exact absurd hk (hno k)
  ·obtain ⟨e1,h2,h3,h4,_⟩:=hl k hk
   obtain ⟨F1,hF1,_⟩:=S.fz
   have hF1':lget h1 0 = some (.frz F1):=hF1
   rw [h0,hF1'] at h2; cases h2
   have hf:e.isFz = true:=h4.symm
   cases e with
   |frz F=>
    have hi0:=onlyT i F he
    subst hi0
    exact ⟨rfl,by rw [sfix 0 k hpos]⟩
   |_=>cases hf
 refine { sat:=?_,nt:=D.nt,tm:=?_,tw:=?_,n0:=D.n0,df:=?_,dw:=fun x hx b hb=>SA.below_mono hN (hd x hx b hb) }
 ·refine { lt:=?_,blk:=?_,wf:=?_,inj:=?_,anch:=?_,n0:=by rw [D.n0]; show n0 ≤ N; omega,n1:=S.n1,os:=S.os,tape:=S.tape,output:=S.output,size:=S.size,fr:=S.fr,own:=?_,fz:=zero,id0:=fun k=>by rw [hagree 0 hpos]; exact S.id0 k,only:=onlyT,lnk:=?_ }
  ·intro i e he
   simp only [lget] at he
   split at he
   ·rename_i v hv
    exact nb (hs3 _ (zbd hv)).2
   ·have:=(hH i _ he).1; show i < N; omega
  ·intro i e he k hk
   rcases look i e he with hno | ⟨hl,_⟩
   ·exact absurd hk (hno k)
   ·obtain ⟨e1,h2,h3,_,h4⟩:=hl k hk
    obtain ⟨o,ho,hok⟩:=S.blk _ e1 h2 _ h3
    exact ⟨o,ho,h4 o hok⟩
  ·intro i e he k hk
   rcases look i e he with hno | ⟨_,h4,_⟩
   ·exact absurd hk (hno k)
   ·exact h4 k hk
  ·intro i k i' k' ho ho' heq
   have hinj:=S.inj _ _ _ _ (owns1 i k ho) (owns1 i' k' ho') heq
   obtain ⟨e,he,hk⟩:=ho
   obtain ⟨e',he',hk'⟩:=ho'
   have hsig:=hinj.1
   have hsig2:=hinj.2
   rcases look i e he with hno | ⟨_,_,c1⟩
   ·exact absurd hk (hno k)
   rcases look i' e' he' with hno | ⟨_,_,c2⟩
   ·exact absurd hk' (hno k')
   rcases c1 with ⟨n1,l1,g1⟩ | ⟨m1,j1h,en1⟩<;>rcases c2 with ⟨n2,l2,g2⟩ | ⟨m2,j2h,en2⟩
   ·exact ⟨by simpa [sig,n1,n2] using hsig,by simpa [sig,n1,n2] using hsig2⟩
   ·exfalso
    have h6:=hs1 _ (zbd j2h)
    have hin:=tg_at en2 k' ((Ent.has_ren _ e' k').2 hk')
    have:i = (m2.at k').1:=by simpa [sig,n1,j2h] using hsig
    rw [← this] at hin
    rcases h6.2 i hin with h5 | h5
    ·have:=nb h5; omega
    ·rw [g1] at h5; cases h5
   ·exfalso
    have h6:=hs1 _ (zbd j1h)
    have hin:=tg_at en1 k ((Ent.has_ren _ e k).2 hk)
    have:(m1.at k).1 = i':=by simpa [sig,n2,j1h] using hsig
    rw [this] at hin
    rcases h6.2 i' hin with h5 | h5
    ·have:=nb h5; omega
    ·rw [g2] at h5; cases h5
   ·have hjj:(m1.at k).1 = (m2.at k').1:=by simpa [sig,j1h,j2h] using hsig
    have hkk:(m1.at k).2 = (m2.at k').2:=by simpa [sig,j1h,j2h] using hsig2
    have hii:i = i':=by
     rcases hs2 _ (zbd j1h) _ (zbd j2h) with h5 | h5
     ·exact qg h5
     ·exact absurd hjj (zye h5 (tg_at en1 k ((Ent.has_ren _ e k).2 hk)) (tg_at en2 k' ((Ent.has_ren _ e' k').2 hk')))
    subst hii
    rw [j1h] at j2h; cases j2h
    refine ⟨rfl,?_⟩
    rw [he] at he'; cases he'
    exact z8i en1 ((Ent.has_ren _ e k).2 hk) ((Ent.has_ren _ e k').2 hk') (Prod.ext hjj hkk)
  ·intro i hi k
   rw [D.n0] at hi
   have hi':i < n0:=hi
   show ρ (sig s i k).1 (sig s i k).2 = _
   rw [sfix i k (by omega)]; exact S.anch i (by rw [D.n0]; exact hi) k
  ·intro i k ho
   rcases S.own _ _ (owns1 i k ho) with h | h
   ·have:=own0 i k ho h.1
    exact .inl ⟨this.1,by rw [← this.2]; exact h.2⟩
   ·exact .inr h
  ·intro i b hl k
   show ρ (sig s i k).1 (sig s i k).2 = _
   simp only [lget] at hl
   split at hl
   ·rename_i v hv
    cases hl
    rcases zee hh _ (zbd hv) with hg | hg
    ·cases hg
    ·obtain ⟨j,hj1,hj2⟩:=zxn hg
     simp only at hj2
     rw [hj2 k]; exact S.lnk j b hj1 k
   ·rename_i hv
    have hi:=(hH i _ hl).1
    rw [sfix i k hi]
    rw [← hrestH i hi hv] at hl
    exact S.lnk i b hl k
 ·intro n v hv
  simp only [lget] at hv
  split at hv
  ·rename_i u hu
   cases hv
   rcases zjn ht _ (zbd hu) with hg | hg
   ·simp only at hg; subst hg
    have hlt:=qo.1 hu0 _ (zbd hu)
    have hlt:=nb hlt
    exact ⟨_,qbc (by rw [D.nt]; exact hlt),tv⟩
   ·obtain ⟨y,hy,hye⟩:=zza hg
    obtain ⟨x,hx,hr⟩:=D.tm n _ hy
    exact ⟨x,hx,(SV.rel_ren _ ρ v x).1 (zqc hye hr)⟩
  ·rename_i hu
   split at hv
   ·rename_i u hu2
    cases hv
    have hjj:zgn v = true ∧ n + 1 ≤ nt:=by simpa using (qo.1 hj _ (zbd hu2))
    have:zgn v = true:=hjj.1
    have:v = .junk:=by cases v<;>first | rfl | cases this
    subst this
    exact ⟨_,qbc (by rw [D.nt]; exact hjj.2),tv⟩
   ·rename_i hu2
    have he:=hrest n hu hu2
    obtain ⟨x,hx,hr⟩:=D.tm n v (by show lget t1 n = some v; rw [he]; exact hv)
    exact ⟨x,hx,SV.rel_congr hagree (hT n v hv) hr⟩
 ·intro n v hv
  simp only [lget] at hv
  split at hv
  ·rename_i u hu
   cases hv
   exact z18 wt _ (zbd hu)
  ·rename_i hu
   split at hv
   ·rename_i u hu2
    cases hv
    have hjj:zgn v = true ∧ n + 1 ≤ nt:=by simpa using (qo.1 hj _ (zbd hu2))
    have:zgn v = true:=hjj.1
    have:v = .junk:=by cases v<;>first | rfl | cases this
    subst this
    trivial
   ·exact SV.below_mono hN (hT n v hv)
 ·rw [D.df]
  refine jx fun x hx=>?_
  simp only [defOf]
  rw [zcs hagree (hd x hx)]
theorem zt1 {t1 T:List (List (Nat × SV))} {upd jl:List (Nat × SV)} {h1 H:Hp} {hup:List (Nat × Ent)} {nx1 n0 nt:Nat} {d:List (Dk × List SA)} (N0 N:Nat) (s:List (Nat × Mv))
  (hH:WfH H N0) (hT:WfT T N0) (hN:N0 ≤ N) (hn0:n0 ≤ N0) (hd:∀ x ∈ d,∀ a ∈ x.2,a.below N0)
  (ht:leT s t1 upd) (hrest:∀ n,aget upd n = none → aget jl n = none → lget t1 n = lget T n) (hj:(jl.all fun p=>zgn p.2 && Nat.ble (p.1 + 1) nt) = true) (hu0:(upd.all fun p=>Nat.ble (p.1 + 1) nt) = true)
  (hh:leH s h1 hup) (hrestH:∀ i,i < N0 → aget hup i = none → lget h1 i = lget H i)
  (hs:chkS s hup N0 N = true) (wt:bT N upd) (wh:bH N hup) :
  Le ⟨t1,h1,nx1,n0,nt,d⟩ ⟨upd :: jl :: T,hup :: H,N,n0,nt,d⟩:=by
 unfold Le
 intro C ρ a w D
 exact ⟨_,zwv N0 N s hH hT hN hn0 hd ht hrest hj hu0 hh hrestH hs wt wh C ρ a w D⟩
theorem zqh {C:Ctx} {ρ:Rho} {h:Hp} {nx:Nat} {w:World} (S:Sat C ρ h nx w) {N0 N:Nat} {s:List (Nat × Mv)} {h0:List (Nat × Ent)} (hs:chkS s h0 N0 N = true) (hn:C.n0 ≤ N0) (hN:N0 ≤ N) (wh:bH N h0) (hh:leH s h h0)
  (hcov:∀ i,i < N0 → (aget h0 i).isSome = true):Sat C ((sig s).pull ρ) [h0] N w:=by
 have D:Den C ρ ⟨[],h,nx,C.n0,0,[]⟩ ⟨#[],[]⟩ w:={ sat:=S,nt:=rfl,tm:=fun n s h=>by simp [lget] at h,tw:=fun n s h=>by simp [lget] at h,n0:=rfl,df:=rfl,dw:=by simp }
 have:=zwv (t1:=[]) (T:=[]) (upd:=[]) (jl:=[]) (h1:=h) (H:=[]) (hup:=h0) (nx1:=nx) (n0:=C.n0) (nt:=0) (d:=[]) N0 N s (fun i e h=>by simp [lget] at h) (fun n s h=>by simp [lget] at h) hN hn (by simp) trivial (fun _ _ _=>rfl) rfl rfl hh
  (fun i hi h=>by have:=hcov i hi; rw [h] at this; cases this) hs trivial wh C ρ _ w D
 exact this.sat
theorem zpi {T:List (List (Nat × SV))} {upd jl:List (Nat × SV)} {H:Hp} {hup:List (Nat × Ent)} {n0 nt N0:Nat} {d:List (Dk × List SA)} (N:Nat) (s:List (Nat × Mv))
  (hH:WfH H N0) (hT:WfT T N0) (hN:Nat.ble N0 N = true) (hn0:Nat.ble n0 N0 = true) (hd:∀ x ∈ d,∀ a ∈ x.2,a.below N0)
  (hj:(jl.all fun p=>zgn p.2 && Nat.ble (p.1 + 1) nt) = true) (hu0:(upd.all fun p=>Nat.ble (p.1 + 1) nt) = true)
  (hs:chkS s hup N0 N = true) (wt:bT N upd) (wh:bH N hup) (ht:leT s T upd) (hh:leH s H hup) :
  Le ⟨T,H,N0,n0,nt,d⟩ ⟨upd :: jl :: T,hup :: H,N,n0,nt,d⟩:=
 zt1 N0 N s hH hT (nb hN) (nb hn0) hd ht (fun _ _ _=>rfl) hj hu0 hh (fun _ _ _=>rfl) hs wt wh
theorem zey {β γ:Type} {top:List (Nat × β)} {f:Nat → Bool} (h:(top.all fun p=>f p.1) = true) {n:Nat} (hn:f n = false):aget top n = none:=by
 cases hh:aget top n with
 |none=>rfl
 |some v=>have:=qo.1 h _ (zbd hh); simp only at this; rw [hn] at this; cases this
theorem zmh {T:List (List (Nat × SV))} {top upd jl:List (Nat × SV)} {H:Hp} {htop hup:List (Nat × Ent)} {nx1 n0 nt:Nat} {d:List (Dk × List SA)} (N0 N:Nat) (s:List (Nat × Mv))
  (hH:WfH H N0) (hT:WfT T N0) (hN:Nat.ble N0 N = true) (hn0:Nat.ble n0 N0 = true) (hd:∀ x ∈ d,∀ a ∈ x.2,a.below N0)
  (hj:(jl.all fun p=>zgn p.2 && Nat.ble (p.1 + 1) nt) = true) (hu0:(upd.all fun p=>Nat.ble (p.1 + 1) nt) = true)
  (hk:(top.all fun p=>(aget upd p.1).isSome || (aget jl p.1).isSome) = true) (hkh:(htop.all fun p=>(aget hup p.1).isSome || Nat.ble N0 p.1) = true)
  (hs:chkS s hup N0 N = true) (wt:bT N upd) (wh:bH N hup) (ht:leT s (top :: jl :: T) upd) (hh:leH s (htop :: H) hup) :
  Le ⟨top :: jl :: T,htop :: H,nx1,n0,nt,d⟩ ⟨upd :: jl :: T,hup :: H,N,n0,nt,d⟩:=by
 refine zt1 N0 N s hH hT (nb hN) (nb hn0) hd ht ?_ hj hu0 hh ?_ hs wt wh
 ·intro n h1 h2
  have:aget top n = none:=zey (γ:=Nat) (f:=fun m=>(aget upd m).isSome || (aget jl m).isSome) hk (by simp [h1,h2])
  simp [lget,this,h2]
 ·intro i hi h1
  have:aget htop i = none:=zey (γ:=Nat) (f:=fun m=>(aget hup m).isSome || Nat.ble N0 m) hkh (by
   simp only [h1,Option.isSome_none,qa4]
   cases hb:Nat.ble N0 i with
   |false=>rfl
   |true=>have:=nb hb; omega)
  simp [lget,this]
end Sx
