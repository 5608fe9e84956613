import Derived.Test.YtfnkamphhpldcaaGreatDoorK01
set_option maxHeartbeats 64000000
namespace Sx
open Go
abbrev Hp:=List (List (Nat × Ent))
abbrev Kt:=SV → Hp → Nat → Prop
structure TI where
 d:TypeDesc
 size:Nat
 bytes:Nat
 zero:List SA
def aggD:TypeDesc → Bool
 |.struct _=>true
 |.array _ _=>true
 |_=>false
def zval (ρ:Rho) (i:TI):Value:=
 match aggD i.d with
 |true=>.agg (i.zero.map (SA.den ρ)).toArray
 |false=>(i.zero.headD .nilptr).den ρ
structure TI.ok (P:Program) (t:TypeId) (i:TI):Prop where
 und:P.underlying t = some i.d
 inf:∃ f,P.info? t = some f ∧ f.size = i.size ∧ f.bytes = i.bytes ∧ ∀ ρ,f.zero = some (zval ρ i)
 len:i.zero.length = i.size
 bel:∀ a ∈ i.zero,a.below 0
 one:aggD i.d = false → i.size = 1
abbrev Tys:=TypeId → Option TI
def Tys.Ok (P:Program) (Θ:Tys):Prop:=∀ t i,Θ t = some i → TI.ok P t i
def nth {α:Type}:List α → Nat → Option α
 |[],_=>none
 |x :: _,0=>some x
 |_ :: r,n + 1=>nth r n
theorem zht {α:Type}:∀ (l:List α) (n:Nat),nth l n = l[n]?
 |[],n=>by simp [nth]
 |x :: r,0=>by simp [nth]
 |x :: r,n + 1=>by simp [nth,zht r n]
def svA:Value → Option SA
 |.int k n=>some (.int k n)
 |.bool b=>some (.lit b)
 |.string s=>some (.str s.data.toList)
 |.pointer none=>some .nilptr
 |.slice none 0 0=>some .nilsl
 |.map none=>some .nilmap
 |.nilFunc=>some .nilfn
 |.nilIface=>some .nilif
 |.iface t v=>some (.ifc t v)
 |_=>none
def svAs:List Value → Option (List SA)
 |[]=>some []
 |v :: r=>match svA v with
  |some a=>match svAs r with
   |some l=>some (a :: l)
   |none=>none
  |none=>none
def svOf:Value → SV
 |.agg cs=>match svAs cs.toList with
  |some l=>.agg l
  |none=>.junk
 |.tuple ⟨[]⟩=>.tup []
 |v=>match svA v with
  |some a=>.va a
  |none=>.junk
theorem zpe {ρ:Rho} {v:Value} {a:SA} (h:svA v = some a):v = a.den ρ ∧ a.below 0:=by
 unfold svA at h
 split at h<;>cases h<;>simp [SA.den,SA.below]
theorem zsf {ρ:Rho}:∀ {vs:List Value} {l:List SA},svAs vs = some l → vs = l.map (SA.den ρ) ∧ ∀ a ∈ l,a.below 0
 |[],l,h=>by simp [svAs] at h; subst h; simp
 |v :: r,l,h=>by
  simp only [svAs] at h
  split at h
  ·rename_i a ha
   split at h
   ·rename_i l' hl
    cases h
    obtain ⟨h1,h2⟩:=zpe (ρ:=ρ) ha
    obtain ⟨h3,h4⟩:=zsf (ρ:=ρ) hl
    refine ⟨by simp [h1,h3],?_⟩
    intro x hx
    rcases qj.1 hx with rfl | hx
    ·exact h2
    ·exact h4 x hx
   ·cases h
  ·cases h
theorem zrl (ρ:Rho) (v:Value):(svOf v).rel ρ v ∧ (svOf v).below 0:=by
 unfold svOf
 split
 ·rename_i cs
  split
  ·rename_i l hl
   obtain ⟨h1,h2⟩:=zsf (ρ:=ρ) hl
   refine ⟨?_,h2⟩
   simp only [SV.rel]; rw [← h1]
  ·exact ⟨tv,tv⟩
 ·exact ⟨rfl,by simp [SV.below]⟩
 ·split
  ·rename_i a ha
   obtain ⟨h1,h2⟩:=zpe (ρ:=ρ) ha
   exact ⟨h1,h2⟩
  ·exact ⟨tv,tv⟩
def ev (t:List (List (Nat × SV))):Operand → SV
 |.tmp n=>match lget t n with
  |some s=>s
  |none=>.junk
 |.const v=>svOf v
 |.global g=>.va (.glob g)
 |.func f=>.va (.fn (.func f) [])
theorem zay {C:Ctx} {ρ:Rho} {st:St} {a:Act} {w:World} (d:Den C ρ st a w) (x:Operand):(ev st.t x).rel ρ (a.eval x) ∧ (ev st.t x).below st.nx:=by
 cases x with
 |tmp n=>
  simp only [ev]
  split
  ·rename_i s hs
   obtain ⟨v,hv,hr⟩:=d.tm n s hs
   refine ⟨?_,d.tw n s hs⟩
   have:a.eval (.tmp n) = v:=by simp [Act.eval,hv]
   rw [this]; exact hr
  ·exact ⟨tv,tv⟩
 |const v=>exact ⟨(zrl ρ v).1,SV.below_mono (yq _) (zrl ρ v).2⟩
 |global g=>exact ⟨rfl,tv⟩
 |func f=>exact ⟨rfl,by simp [ev,SV.below,SA.below]⟩
def Yld (P:Program) (s:Sem Value) (C:Ctx) (ρ:Rho) (nx:Nat) (w:World) (K:Kt):Prop:=
 ∃ v w' sv h' nx' ρ',s.run P w = .ok v w' ∧ sv.rel ρ' v ∧ sv.below nx' ∧ K sv h' nx' ∧ Sat C ρ' h' nx' w' ∧ (∀ i,i < nx → ρ' i = ρ i) ∧ nx ≤ nx'
theorem Yld.same {P:Program} {s:Sem Value} {C:Ctx} {ρ:Rho} {h:Hp} {nx:Nat} {w:World} {K:Kt} (sat:Sat C ρ h nx w) (v:Value) (sv:SV) (hrun:s.run P w = .ok v w) (hr:sv.rel ρ v) (hb:sv.below nx)
  (hk:K sv h nx):Yld P s C ρ nx w K:=
 ⟨v,w,sv,h,nx,ρ,hrun,hr,hb,hk,sat,fun _ _=>rfl,qf _⟩
def YldS (P:Program) (s:Sem Value) (ρ:Rho) (h:Hp) (nx:Nat) (w:World) (K:Kt):Prop:=
 ∃ v sv,s.run P w = .ok v w ∧ sv.rel ρ v ∧ sv.below nx ∧ K sv h nx
theorem YldS.mk {P:Program} {s:Sem Value} {C:Ctx} {ρ:Rho} {h:Hp} {nx:Nat} {w:World} {K:Kt} (_sat:Sat C ρ h nx w) (v:Value) (sv:SV) (hrun:s.run P w = .ok v w) (hr:sv.rel ρ v) (hb:sv.below nx)
  (hk:K sv h nx):YldS P s ρ h nx w K:=⟨v,sv,hrun,hr,hb,hk⟩
theorem YldS.yld {P:Program} {s:Sem Value} {C:Ctx} {ρ:Rho} {h:Hp} {nx:Nat} {w:World} {K:Kt} (y:YldS P s ρ h nx w K) (sat:Sat C ρ h nx w):Yld P s C ρ nx w K:=by
 obtain ⟨v,sv,h1,h2,h3,h4⟩:=y
 exact Yld.same sat v sv h1 h2 h3 h4
section
variable {P:Program} {Θ:Tys} {C:Ctx} {ρ:Rho} {h:Hp} {nx:Nat} {w:World} {K:Kt}
theorem zas {t:TypeId} {i:TI} (hΘ:Θ.Ok P) (ht:Θ t = some i) (w:World):(underlying t).run P w = .ok i.d w:=run_underlying (hΘ t i ht).und w
theorem zmi {t:TypeId} {i:TI} (hΘ:Θ.Ok P) (ht:Θ t = some i) (w:World):(isAgg t).run P w = .ok (aggD i.d) w:=by
 unfold isAgg; rw [Sem.run_bind,zas hΘ ht]
 cases i.d<;>rfl
theorem zdc {t:TypeId} {i:TI} (hΘ:Θ.Ok P) (ht:Θ t = some i) (w:World):(Go.sizeOf t).run P w = .ok i.size w:=by
 obtain ⟨f,h1,h2,_,_⟩:=(hΘ t i ht).inf
 simp [Go.sizeOf,typeInfo,h1,h2]
theorem zgj {t:TypeId} {i:TI} (hΘ:Θ.Ok P) (ht:Θ t = some i) (w:World) (ρ:Rho):(zeroValue t).run P w = .ok (zval ρ i) w:=by
 obtain ⟨f,h1,_,_,h2⟩:=(hΘ t i ht).inf
 simp [zeroValue,typeInfo,h1,h2 ρ]
theorem zfb {t:TypeId} {i:TI} (hok:TI.ok P t i) (ρ:Rho):(zval ρ i).cells = (i.zero.map (SA.den ρ)).toArray:=by
 unfold zval
 cases hd:aggD i.d with
 |true=>rfl
 |false=>
  have h1:=hok.one hd
  have h2:=hok.len
  rw [h1] at h2
  match hz:i.zero,h2 with
  |[a],_=>cases a<;>rfl
def cellsOf:SV → Option (List SA)
 |.va a=>some [a]
 |.agg l=>some l
 |_=>none
theorem zg2 {ρ:Rho} {s:SV} {l:List SA} {v:Value} (hc:cellsOf s = some l) (hr:s.rel ρ v):v.cells = (l.map (SA.den ρ)).toArray:=by
 cases s with
 |va a=>simp [cellsOf] at hc; subst hc; simp only [SV.rel] at hr; subst hr; cases a<;>rfl
 |agg l'=>simp [cellsOf] at hc; subst hc; simp only [SV.rel] at hr; subst hr; rfl
 |tup l=>simp [cellsOf] at hc
 |junk=>simp [cellsOf] at hc
theorem zfl {n:Nat} {s:SV} {l:List SA} (hc:cellsOf s = some l) (hb:s.below n):∀ a ∈ l,a.below n:=by
 cases s with
 |va a=>simp [cellsOf] at hc; subst hc; intro x hx; simp at hx; subst hx; exact hb
 |agg l'=>simp [cellsOf] at hc; subst hc; exact hb
 |tup l=>simp [cellsOf] at hc
 |junk=>simp [cellsOf] at hc
def pnew (nx:Nat):SV:=.va (.ptr ⟨nx,0,0,0,0⟩)
theorem zt8 (sat:Sat C ρ h nx w) (t:TypeId) (l:List SA) (cs:Array Value) (hl:cs = (l.map (SA.den ρ)).toArray) (hb:∀ a ∈ l,a.below nx) (s:Sem Value)
  (hrun:s.run P w = .ok (.pointer (some ⟨w.heap.size,0,none⟩)) (w.alloc (.cells cs t (0,0))))
  (hk:K (pnew nx) (lput h nx (.one (.cells t l))) (nx + 1)):Yld P s C ρ nx w K:=by
 refine ⟨_,_,_,_,_,rext ρ nx w.heap.size,hrun,?_,?_,hk,sat.new (.cells t l) _ hb ⟨(0,0),NoFr.zero _,by rw [hl]⟩,fun i hi=>zdp hi,yz _⟩
 ·simp [SV.rel,pnew,SA.den,Pl.addr,zbc]
 ·simp [SV.below,pnew,SA.below]
def zpk (Θ:Tys) (t:TypeId) (h:Hp) (nx:Nat) (K:Kt):Prop:=
 match Θ t with
 |some i=>K (pnew nx) (lput h nx (.one (.cells t i.zero))) (nx + 1)
 |none=>False
theorem ztr (hΘ:Θ.Ok P) {t:TypeId} (hs:zpk Θ t h nx K) (sat:Sat C ρ h nx w):Yld P (Instr.alloc t true (.tuple #[])) C ρ nx w K:=by
 unfold zpk at hs
 split at hs
 ·rename_i i hi
  refine zt8 sat t i.zero _ rfl (fun a ha=>SA.below_mono (yq _) ((hΘ t i hi).bel a ha)) _ ?_ hs
  simp [Instr.alloc,zgj hΘ hi w ρ,newVar,newRow,zfb (hΘ t i hi) ρ]
 ·exact hs.elim
def s_box (t:TypeId) (x:SV) (h:Hp) (nx:Nat) (K:Kt):Prop:=
 match cellsOf x with
 |some l=>K (pnew nx) (lput h nx (.one (.cells t l))) (nx + 1)
 |none=>False
theorem zzw {t:TypeId} {x:SV} {v:Value} (hs:s_box t x h nx K) (sat:Sat C ρ h nx w) (hr:x.rel ρ v) (hb:x.below nx):Yld P (Instr.box t v) C ρ nx w K:=by
 unfold s_box at hs
 split at hs
 ·rename_i l hl
  refine zt8 sat t l _ rfl (zfl hl hb) _ ?_ hs
  simp [Instr.box,newVar,newRow,zg2 hl hr]
 ·exact hs.elim
def ze6 (Θ:Tys) (t:TypeId) (x:SV) (h:Hp) (nx:Nat) (K:Kt):Prop:=
 match Θ t,x with
 |some i,.va (.ptr p)=>rd h p i.size fun xs=>match aggD i.d with
  |true=>K (.agg xs) h nx
  |false=>match xs with
   |[a]=>K (.va a) h nx
   |_=>False
 |_,_=>False
theorem addr_add (b o n:Nat):(⟨b,o,none⟩:Addr).add n = ⟨b,o + n,none⟩:=by unfold Addr.add; split<;>simp_all
theorem zgx (hΘ:Θ.Ok P) {t:TypeId} {x:SV} {v:Value} (hs:ze6 Θ t x h nx K) (sat:Sat C ρ h nx w) (hr:x.rel ρ v):∃ u sv,(Instr.loadAt t v).run P w = .ok u w ∧ sv.rel ρ u ∧ sv.below nx ∧ K sv h nx:=by
 unfold ze6 at hs
 split at hs
 ·rename_i i p hi
  simp only [SV.rel,SA.den] at hr; subst hr
  obtain ⟨xs,hk,hlen,hbl,t',pre,post,hrow,hpre⟩:=zl1 hs sat
  have hl:(loadCells ⟨ρ p.i p.k,p.e * p.sz + p.o,none⟩ (xs.map (SA.den ρ)).length).run P w = .ok (xs.map (SA.den ρ)).toArray w:=
   run_loadCells_list (P:=P) w _ _ (fun j u hu=>by
    rw [addr_add,hrow.cell,← hpre]
    have hj:j < (xs.map (SA.den ρ)).length:=(qh.1 hu).1
    rw [qk,jz (by omega),qac,js hj]; exact hu)
  split at hk
  ·rename_i hd
   refine ⟨.agg (xs.map (SA.den ρ)).toArray,.agg xs,?_,rfl,hbl,hk⟩
   simp only [qb,hlen] at hl
   simp [Instr.loadAt,Instr.sureAddr,Pl.addr,loadVar,zmi hΘ hi,hd,zdc hΘ hi,hl]
  ·rename_i hd
   split at hk
   ·rename_i a
    refine ⟨a.den ρ,.va a,?_,rfl,hbl a (by simp),hk⟩
    have hc:w.cell? ⟨ρ p.i p.k,p.e * p.sz + p.o,none⟩ = some (a.den ρ):=by
     rw [hrow.cell,← hpre]; simp
    simp [Instr.loadAt,Instr.sureAddr,Pl.addr,loadVar,zmi hΘ hi,hd,hc]
   ·exact hk.elim
 ·exact hs.elim
theorem zww (hΘ:Θ.Ok P) {t:TypeId} {x:SV} {v:Value} (hs:ze6 Θ t x h nx K) (sat:Sat C ρ h nx w) (hr:x.rel ρ v):Yld P (Instr.loadAt t v) C ρ nx w K:=by
 obtain ⟨u,sv,h1,h2,h3,h4⟩:=zgx hΘ hs sat hr
 exact Yld.same sat u sv h1 h2 h3 h4
def zjf (Θ:Tys) (t:TypeId) (x y:SV) (h:Hp) (nx:Nat) (K:Kt):Prop:=
 match Θ t,x,cellsOf y with
 |some i,.va (.ptr p),some vs=>match Nat.beq vs.length i.size with
  |true=>wr h p vs fun h'=>K (.tup []) h' nx
  |false=>False
 |_,_,_=>False
theorem zic (hΘ:Θ.Ok P) {t:TypeId} {x y:SV} {v u:Value} (hs:zjf Θ t x y h nx K) (sat:Sat C ρ h nx w) (hr:x.rel ρ v) (hr':y.rel ρ u) (hb:y.below nx) :
  ∃ w' h',(Instr.storeAt t v u).run P w = .ok () w' ∧ K (.tup []) h' nx ∧ Sat C ρ h' nx w':=by
 unfold zjf at hs
 split at hs
 ·rename_i i p vs hi hvs
  split at hs
  ·rename_i hlen
   have hlen:=qg hlen
   simp only [SV.rel,SA.den] at hr; subst hr
   obtain ⟨h',t',pre,old,post,hk,hrow,hpre,hold,hsat⟩:=zrb hs sat (zfl hvs hb)
   have hst:=zb9 (P:=P) (ρ p.i p.k) (p.e * p.sz + p.o) t' (vs.map (SA.den ρ)) 0 _ w hrow (by simp; omega) (by
    intro z hz; obtain ⟨a,_,rfl⟩:=q9.1 hz; exact SA.one ρ a)
   refine ⟨_,h',?_,hk,hsat⟩
   have hcells:=zg2 hvs hr'
   have e1:List.take (p.e * p.sz + p.o + 0) (pre ++ old ++ post) = pre:=by rw [qah,← hpre]; simp
   have e2:List.drop (p.e * p.sz + p.o + 0 + (vs.map (SA.den ρ)).length) (pre ++ old ++ post) = post:=by
    rw [qah,← hpre,qb,← hold]; simp [qk]
   rw [e1,e2] at hst
   simp [Instr.storeAt,Instr.sureAddr,Pl.addr,storeVar,zdc hΘ hi,hcells,hlen,hst]
  ·exact hs.elim
 ·exact hs.elim
end
section
variable {P:Program} {Θ:Tys} {C:Ctx} {ρ:Rho} {h:Hp} {nx:Nat} {w:World} {K:Kt}
def zc7 (Θ:Tys) (t:TypeId) (x:SV) (f:Nat) (h:Hp) (nx:Nat) (K:Kt):Prop:=
 match Θ t,x with
 |some ⟨.struct fields,_,_,_⟩,.va (.ptr p)=>match nth fields.toList f with
  |some fl=>match Θ fl.type with
   |some j=>match j.size with
    |0=>False
    |_ + 1=>K (.va (.ptr ⟨p.i,p.k,p.e,p.sz,p.o + fl.offset⟩)) h nx
   |none=>False
  |none=>False
 |_,_=>False
theorem zgq (hΘ:Θ.Ok P) {t:TypeId} {x:SV} {v:Value} {f:Nat} (hs:zc7 Θ t x f h nx K) (sat:Sat C ρ h nx w) (hr:x.rel ρ v) (hb:x.below nx) :
  YldS P (Instr.fieldAt t v f) ρ h nx w K:=by
 unfold zc7 at hs
 split at hs
 ·rename_i fields a b c p hi
  split at hs
  ·rename_i fl hf
   split at hs
   ·rename_i j hj
    split at hs
    ·exact hs.elim
    ·rename_i m hm
     simp only [SV.rel,SA.den] at hr; subst hr
     have hf':fields[f]? = some fl:=by rw [zht] at hf; simpa using hf
     refine YldS.mk sat (.pointer (some (⟨ρ p.i p.k,p.e * p.sz + (p.o + fl.offset),none⟩))) (.va (.ptr ⟨p.i,p.k,p.e,p.sz,p.o + fl.offset⟩)) ?_ (by simp [SV.rel,SA.den,Pl.addr]) (show p.i < nx from hb) hs
     simp [Instr.fieldAt,zas hΘ hi,hf',Instr.sureAddr,Pl.addr,fieldPlace,zdc hΘ hj,hm,addr_add,qa3]
   ·exact hs.elim
  ·exact hs.elim
 ·exact hs.elim
def zgs (Θ:Tys) (t:TypeId) (x:SV) (f:Nat) (h:Hp) (nx:Nat) (K:Kt):Prop:=
 match Θ t,x with
 |some ⟨.struct fields,_,_,_⟩,.agg l=>match nth fields.toList f with
  |some fl=>match Θ fl.type with
   |some j=>match zd6 l fl.offset j.size with
    |some xs=>match aggD j.d with
     |true=>K (.agg xs) h nx
     |false=>match xs with
      |[a]=>K (.va a) h nx
      |_=>False
    |none=>False
   |none=>False
  |none=>False
 |_,_=>False
theorem zq3 (hΘ:Θ.Ok P) {t:TypeId} {j:TI} (hj:Θ t = some j) (l:List SA) (off:Nat) (xs:List SA) (hx:zd6 l off j.size = some xs) (w:World) :
  (aggD j.d = true → (part t (l.map (SA.den ρ)).toArray off).run P w = .ok (.agg (xs.map (SA.den ρ)).toArray) w) ∧
  (aggD j.d = false → ∀ a,xs = [a] → (part t (l.map (SA.den ρ)).toArray off).run P w = .ok (a.den ρ) w):=by
 obtain ⟨pre,post,h1,h2,h3⟩:=zc9 _ _ _ _ hx
 constructor
 ·intro hd
  simp only [part,Sem.run_bind,zmi hΘ hj,hd,Result.andThen_ok,if_true,zdc hΘ hj,Sem.run_pure]
  congr 2
  rw [h1]; simp [← h2,← h3]
 ·intro hd a ha
  subst ha
  have:(l.map (SA.den ρ)).toArray[off]? = some (a.den ρ):=by rw [h1]; simp [← h2]
  simp only [part,Sem.run_bind,zmi hΘ hj,hd,Result.andThen_ok,jm,if_false,this,Sem.run_pure]
theorem zlg (hΘ:Θ.Ok P) {t:TypeId} {x:SV} {v:Value} {f:Nat} (hs:zgs Θ t x f h nx K) (sat:Sat C ρ h nx w) (hr:x.rel ρ v) (hb:x.below nx) :
  YldS P (Instr.field t v f) ρ h nx w K:=by
 unfold zgs at hs
 split at hs
 ·rename_i fields a b c l hi
  split at hs
  ·rename_i fl hf
   split at hs
   ·rename_i j hj
    split at hs
    ·rename_i xs hx
     simp only [SV.rel] at hr; subst hr
     have hf':fields[f]? = some fl:=by rw [zht] at hf; simpa using hf
     obtain ⟨pre,post,h1,h1b,h1c⟩:=zc9 _ _ _ _ hx
     have hbx:∀ a ∈ xs,a.below nx:=fun a ha=>hb a (by rw [h1]; simp [ha])
     obtain ⟨r1,r2⟩:=zq3 (ρ:=ρ) hΘ hj l fl.offset xs hx w
     split at hs
     ·rename_i hd
      refine YldS.mk sat _ (.agg xs) ?_ rfl hbx hs
      simp [Instr.field,zas hΘ hi,hf',asAgg,r1 hd]
     ·rename_i hd
      split at hs
      ·rename_i a
       refine YldS.mk sat _ (.va a) ?_ rfl (hbx a (by simp)) hs
       simp [Instr.field,zas hΘ hi,hf',asAgg,r2 hd a rfl]
      ·exact hs.elim
    ·exact hs.elim
   ·exact hs.elim
  ·exact hs.elim
 ·exact hs.elim
def zc6 (Θ:Tys) (t:TypeId) (x y:SV) (h:Hp) (nx:Nat) (K:Kt):Prop:=
 match Θ t,x,y with
 |some ⟨.array n elem,_,_,_⟩,.va (.ptr p),.va (.int _ z)=>match Θ elem with
  |some j=>(0 ≤ z ∧ z < (n:Int)) ∧ (match p.sz with
   |0=>K (.va (.ptr ⟨p.i,p.k,z.toNat,j.size,p.o⟩)) h nx
   |_ + 1=>K (.va (.ptr ⟨p.i,p.k,p.e,p.sz,p.o + z.toNat * j.size⟩)) h nx)
  |none=>False
 |some ⟨.slice elem,_,_,_⟩,.va (.slice nil i k e sz len _),.va (.int _ z)=>match Θ elem with
  |some j=>match Nat.beq sz j.size with
   |true=>nil = false ∧ (0 ≤ z ∧ z < (len:Int)) ∧ K (.va (.ptr ⟨i,k,e + z.toNat,sz,0⟩)) h nx
   |false=>match Nat.beq sz 1 with
    |true=>nil = false ∧ (0 ≤ z ∧ z < (len:Int)) ∧ K (.va (.ptr ⟨i,k,e + z.toNat * j.size,1,0⟩)) h nx
    |false=>False
  |none=>False
 |_,_,_=>False
theorem zgr (hΘ:Θ.Ok P) {t:TypeId} {x y:SV} {v u:Value} (hs:zc6 Θ t x y h nx K) (sat:Sat C ρ h nx w) (hr:x.rel ρ v) (hr':y.rel ρ u) (hb:x.below nx) :
  YldS P (Instr.indexAt t v u) ρ h nx w K:=by
 unfold zc6 at hs
 split at hs
 ·rename_i n elem a b c p kk z hi
  split at hs
  ·rename_i j hj
   obtain ⟨hz,hs⟩:=hs
   simp only [SV.rel,SA.den] at hr hr'; subst hr; subst hr'
   have run:(Instr.indexAt t (.pointer (some (p.addr ρ))) (.int kk z)).run P w = .ok (.pointer (some ⟨ρ p.i p.k,p.e * p.sz + p.o + z.toNat * j.size,none⟩)) w:=by
    simp [Instr.indexAt,asIntOf,zas hΘ hi,Instr.sureAddr,hz,zdc hΘ hj,Pl.addr,addr_add]
   split at hs
   ·rename_i hsz
    refine YldS.mk sat _ (.va (.ptr ⟨p.i,p.k,z.toNat,j.size,p.o⟩)) run ?_ (show p.i < nx from hb) hs
    simp [SV.rel,SA.den,Pl.addr,hsz,qb4]
   ·refine YldS.mk sat _ (.va (.ptr ⟨p.i,p.k,p.e,p.sz,p.o + z.toNat * j.size⟩)) run ?_ (show p.i < nx from hb) hs
    simp [SV.rel,SA.den,Pl.addr,qa3]
  ·exact hs.elim
 ·rename_i elem a b c nil i k e sz len cap kk z hi
  split at hs
  ·rename_i j hj
   split at hs
   ·rename_i hsz
    have hsz:=qg hsz
    obtain ⟨hn,hz,hs⟩:=hs
    subst hn
    simp only [SV.rel,SA.den,jm,if_false] at hr hr'; subst hr; subst hr'
    refine YldS.mk sat (.pointer (some ⟨ρ i k,e * sz + z.toNat * j.size,none⟩)) (.va (.ptr ⟨i,k,e + z.toNat,sz,0⟩)) ?_ ?_ ?_ hs
    ·simp [Instr.indexAt,asIntOf,zas hΘ hi,hz,zdc hΘ hj,addr_add]
    ·simp [SV.rel,SA.den,Pl.addr,hsz,qa8]
    ·simpa [SV.below,SA.below] using hb
   ·split at hs
    ·rename_i hsz
     have hsz:=qg hsz
     obtain ⟨hn,hz,hs⟩:=hs
     subst hn
     subst hsz
     simp only [SV.rel,SA.den,jm,if_false] at hr hr'; subst hr; subst hr'
     refine YldS.mk sat (.pointer (some ⟨ρ i k,e * 1 + z.toNat * j.size,none⟩)) (.va (.ptr ⟨i,k,e + z.toNat * j.size,1,0⟩)) ?_ ?_ ?_ hs
     ·simp [Instr.indexAt,asIntOf,zas hΘ hi,hz,zdc hΘ hj,addr_add]
     ·simp [SV.rel,SA.den,Pl.addr]
     ·simpa [SV.below,SA.below] using hb
    ·exact hs.elim
  ·exact hs.elim
 ·exact hs.elim
def zg0 (Θ:Tys) (t:TypeId) (x y:SV) (h:Hp) (nx:Nat) (K:Kt):Prop:=
 match Θ t,x,y with
 |some ⟨.string,_,_,_⟩,.va (.str s),.va (.int _ z)=>0 ≤ z ∧ ∃ b,s[z.toNat]? = some b ∧ K (.va (.int .u8 b.toNat)) h nx
 |some ⟨.array n elem,_,_,_⟩,.agg l,.va (.int _ z)=>match Θ elem with
  |some j=>(0 ≤ z ∧ z < (n:Int)) ∧ ∃ xs,zd6 l (z.toNat * j.size) j.size = some xs ∧ (match aggD j.d with
   |true=>K (.agg xs) h nx
   |false=>match xs with
    |[a]=>K (.va a) h nx
    |_=>False)
  |none=>False
 |_,_,_=>False
theorem zh3 {α:Type}:∀ {l:List α} {i:Nat} {a:α},l[i]? = some a → zd6 l (i * 1) 1 = some [a]
 |[],i,a,h=>by simp at h
 |x :: r,0,a,h=>by simp at h; subst h; rfl
 |x :: r,i + 1,a,h=>by
  have:=zh3 (l:=r) (i:=i) (a:=a) (by simpa using h)
  rw [qcj] at this ⊢
  exact this
theorem zlq (hΘ:Θ.Ok P) {t:TypeId} {x y:SV} {v u:Value} (hs:zg0 Θ t x y h nx K) (sat:Sat C ρ h nx w) (hr:x.rel ρ v) (hr':y.rel ρ u) (hb:x.below nx) :
  YldS P (Instr.index t v u) ρ h nx w K:=by
 unfold zg0 at hs
 split at hs
 ·rename_i a b c s kk z hi
  obtain ⟨hz,b,hb',hs⟩:=hs
  simp only [SV.rel,SA.den] at hr hr'; subst hr; subst hr'
  refine YldS.mk sat (.int .u8 b.toNat) (.va (.int .u8 b.toNat)) ?_ rfl trivial hs
  have hx:(⟨s.toArray⟩:ByteArray)[z.toNat]? = some b:=by
   have hlt:=(qh.1 hb').1
   have he:=(qh.1 hb').2
   rw [getElem?_pos (⟨s.toArray⟩:ByteArray) z.toNat (by simpa [ByteArray.size] using hlt)]
   congr 1
  simp [Instr.index,asIntOf,zas hΘ hi,hz,hx]
 ·rename_i n elem a b c l kk z hi
  split at hs
  ·rename_i j hj
   obtain ⟨hz,xs,hx,hs⟩:=hs
   simp only [SV.rel,SA.den] at hr hr'; subst hr; subst hr'
   obtain ⟨pre,post,h1,h1b,h1c⟩:=zc9 _ _ _ _ hx
   have hbx:∀ a ∈ xs,a.below nx:=fun a ha=>hb a (by rw [h1]; simp [ha])
   obtain ⟨r1,r2⟩:=zq3 (ρ:=ρ) hΘ hj l _ xs hx w
   split at hs
   ·rename_i hd
    refine YldS.mk sat _ (.agg xs) ?_ rfl hbx hs
    simp [Instr.index,asIntOf,zas hΘ hi,hz,zdc hΘ hj,r1 hd]
   ·rename_i hd
    split at hs
    ·rename_i a
     refine YldS.mk sat _ (.va a) ?_ rfl (hbx a (by simp)) hs
     simp [Instr.index,asIntOf,zas hΘ hi,hz,zdc hΘ hj,r2 hd a rfl]
    ·exact hs.elim
  ·exact hs.elim
 ·exact hs.elim
def opInt:Option SV → Option (Option Int)
 |none=>some none
 |some (.va (.int _ z))=>some (some z)
 |_=>none
def bnds (len cap:Nat) (lo hi:Option Int) (K:Nat → Nat → Prop):Prop:=
 match hi with
 |none=>match lo with
  |none=>K 0 len
  |some l=>(0 ≤ l ∧ l ≤ (len:Int)) ∧ K l.toNat len
 |some z=>(0 ≤ z ∧ z ≤ (cap:Int)) ∧ (match lo with
  |none=>K 0 z.toNat
  |some l=>(0 ≤ l ∧ l ≤ z) ∧ K l.toNat z.toNat)
def relO (ρ:Rho):Option SV → Option Value → Prop
 |none,none=>True
 |some s,some v=>s.rel ρ v
 |_,_=>False
theorem zgy {isS:Bool} {len cap:Nat} {lo hi:Option SV} {vl vh:Option Value} {l' h':Option Int} {K:Nat → Nat → Prop} (hl:opInt lo = some l') (hh:opInt hi = some h') (rl:relO ρ lo vl) (rh:relO ρ hi vh)
  (hb:bnds len cap l' h' K) (w:World):∃ l hh,K l hh ∧ l ≤ hh ∧ (hh ≤ cap ∨ (h' = none ∧ hh = len)) ∧ (Instr.sliceBounds isS len cap vl vh none).run P w = .ok (l,hh,cap) w:=by
 have hlo:(lo = none ∧ vl = none ∧ l' = none) ∨ ∃ k z,lo = some (.va (.int k z)) ∧ vl = some (.int k z) ∧ l' = some z:=by
  cases lo with
  |none=>cases vl with
   |none=>left; simp [opInt] at hl; simp [hl]
   |some v=>exact rl.elim
  |some s=>cases vl with
   |none=>cases s<;>exact rl.elim
   |some v=>
    right
    cases s with
    |va a=>cases a<;>simp [opInt] at hl<;>(simp only [relO,SV.rel,SA.den] at rl; subst rl; exact ⟨_,_,rfl,rfl,hl.symm⟩)
    |agg l=>simp [opInt] at hl
    |tup l=>simp [opInt] at hl
    |junk=>simp [opInt] at hl
 have hhi:(hi = none ∧ vh = none ∧ h' = none) ∨ ∃ k z,hi = some (.va (.int k z)) ∧ vh = some (.int k z) ∧ h' = some z:=by
  cases hi with
  |none=>cases vh with
   |none=>left; simp [opInt] at hh; simp [hh]
   |some v=>exact rh.elim
  |some s=>cases vh with
   |none=>cases s<;>exact rh.elim
   |some v=>
    right
    cases s with
    |va a=>cases a<;>simp [opInt] at hh<;>(simp only [relO,SV.rel,SA.den] at rh; subst rh; exact ⟨_,_,rfl,rfl,hh.symm⟩)
    |agg l=>simp [opInt] at hh
    |tup l=>simp [opInt] at hh
    |junk=>simp [opInt] at hh
 rcases hlo with ⟨-,rfl,rfl⟩ | ⟨kl,zl,-,rfl,rfl⟩<;>rcases hhi with ⟨-,rfl,rfl⟩ | ⟨kh,zh,-,rfl,rfl⟩<;>simp only [bnds] at hb
 ·exact ⟨0,len,hb,by omega,.inr ⟨rfl,rfl⟩,by simp [Instr.sliceBounds]⟩
 ·obtain ⟨hz,hb⟩:=hb
  exact ⟨0,zh.toNat,hb,by omega,.inl (by omega),by simp [Instr.sliceBounds,Instr.sliceBound,asIntOf,hz]⟩
 ·obtain ⟨hz,hb⟩:=hb
  exact ⟨zl.toNat,len,hb,by omega,.inr ⟨rfl,rfl⟩,by simp [Instr.sliceBounds,Instr.sliceBound,asIntOf,hz]⟩
 ·obtain ⟨hz,hz2,hb⟩:=hb
  refine ⟨zl.toNat,zh.toNat,hb,by omega,.inl (by omega),?_⟩
  have h3:0 ≤ zl ∧ zl ≤ (zh.toNat:Int):=⟨hz2.1,by omega⟩
  simp only [Instr.sliceBounds,Instr.sliceBound,asIntOf,Sem.run_bind,Sem.run_pure,Result.andThen_ok,if_pos hz,if_pos h3]
def zgz (Θ:Tys) (t:TypeId) (x:SV) (lo hi mx:Option SV) (h:Hp) (nx:Nat) (K:Kt):Prop:=
 match mx with
 |some _=>False
 |none=>match opInt lo,opInt hi with
  |some l',some h'=>match Θ t,x with
   |some ⟨.string,_,_,_⟩,.va (.str s)=>bnds s.length s.length l' h' fun l m=>K (.va (.str ((s.take m).drop l))) h nx
   |some ⟨.slice elem,_,_,_⟩,.va (.slice nil i k e sz len cap)=>match Θ elem with
    |some j=>match Nat.beq sz j.size with
     |true=>bnds len cap l' h' fun l m=>K (.va (.slice nil i k (if cap = l then e else e + l) sz (m - l) (cap - l))) h nx
     |false=>match Nat.beq sz 1 with      -- its base is counted in cells
      |true=>bnds len cap l' h' fun l m=>K (.va (.slice nil i k (if cap = l then e else e + l * j.size) sz (m - l) (cap - l))) h nx
      |false=>match nil with      -- a nil slice bears no size
       |true=>bnds len cap l' h' fun l m=>K (.va (.slice nil i k e sz (m - l) (cap - l))) h nx
       |false=>False
    |none=>False
   |some ⟨.slice elem,_,_,_⟩,.va .nilsl=>(match Θ elem with
    |some _=>bnds 0 0 l' h' fun _ _=>K (.va .nilsl) h nx
    |none=>False)
   |some ⟨.pointer arr,_,_,_⟩,.va (.ptr p)=>(match Θ arr with
    |some ⟨.array n elem,_,_,_⟩=>(match Θ elem with
     |some j=>bnds n n l' h' fun l m=>K (.va (.slice false p.i p.k (if n = l then p.e * p.sz + p.o else p.e * p.sz + p.o + l * j.size) 1 (m - l) (n - l))) h nx
     |none=>False)
    |_=>False)
   |some ⟨.array n elem,_,_,_⟩,.va (.ptr p)=>(match Θ elem with
    |some j=>bnds n n l' h' fun l m=>K (.va (.slice false p.i p.k (if n = l then p.e * p.sz + p.o else p.e * p.sz + p.o + l * j.size) 1 (m - l) (n - l))) h nx
    |none=>False)
   |_,_=>False
  |_,_=>False
theorem zpj (s:List UInt8) (l m:Nat):(⟨s.toArray⟩:ByteArray).extract l m = ⟨((s.take m).drop l).toArray⟩:=by
 apply ByteArray.ext
 simp [ByteArray.data_extract,List.drop_take]
theorem zlj (hΘ:Θ.Ok P) {t:TypeId} {x:SV} {v:Value} {lo hi mx:Option SV} {vl vh vm:Option Value} (hs:zgz Θ t x lo hi mx h nx K) (sat:Sat C ρ h nx w) (hr:x.rel ρ v)
  (rl:relO ρ lo vl) (rh:relO ρ hi vh) (rm:relO ρ mx vm) (hb:x.below nx):YldS P (Instr.sliceAt t v vl vh vm) ρ h nx w K:=by
 unfold zgz at hs
 split at hs
 ·exact hs.elim
 ·have hvm:vm = none:=by cases vm with
   |none=>rfl
   |some v=>exact rm.elim
  subst hvm
  split at hs
  ·rename_i l' h' hl' hh'
   split at hs
   ·rename_i a b c s hi'
    simp only [SV.rel,SA.den] at hr; subst hr
    obtain ⟨l,m,hk,hle,hcap,hrun⟩:=zgy (P:=P) (isS:=false) hl' hh' rl rh hs w
    refine YldS.mk sat (.string ⟨((s.take m).drop l).toArray⟩) (.va (.str ((s.take m).drop l))) ?_ rfl trivial hk
    have hsz:(⟨s.toArray⟩:ByteArray).size = s.length:=by simp [ByteArray.size]
    simp [Instr.sliceAt,zas hΘ hi',Instr.slice,hsz,hrun,zpj]
   ·rename_i elem a b c nil i k e sz len cap hi'
    simp only [SV.rel,SA.den] at hr; subst hr
    split at hs
    ·rename_i j hj
     split at hs
     ·rename_i hsz
      have hsz:=qg hsz
      obtain ⟨l,m,hk,hle,hcap,hrun⟩:=zgy (P:=P) (isS:=true) hl' hh' rl rh hs w
      refine YldS.mk sat (.slice (if cap = l then (if nil = true then none else some ⟨ρ i k,e * sz,none⟩) else (if nil = true then none else some (⟨ρ i k,e * sz,none⟩:Addr)).map (·.add (l * j.size))) (m - l) (cap - l)) _ ?_ ?_ ?_ hk
      ·simp [Instr.sliceAt,zas hΘ hi',Instr.slice,hrun,zdc hΘ hj]
      ·simp only [SV.rel,SA.den]
       cases nil<;>by_cases hc:cap = l<;>simp [hc,addr_add,hsz,qa8]
      ·exact hb
     ·split at hs
      ·rename_i hsz
       have hsz:=qg hsz
       subst hsz
       obtain ⟨l,m,hk,hle,hcap,hrun⟩:=zgy (P:=P) (isS:=true) hl' hh' rl rh hs w
       refine YldS.mk sat (.slice (if cap = l then (if nil = true then none else some ⟨ρ i k,e * 1,none⟩) else (if nil = true then none else some (⟨ρ i k,e * 1,none⟩:Addr)).map (·.add (l * j.size))) (m - l) (cap - l)) _ ?_ ?_ ?_ hk
       ·simp [Instr.sliceAt,zas hΘ hi',Instr.slice,hrun,zdc hΘ hj]
       ·simp only [SV.rel,SA.den]
        cases nil<;>by_cases hc:cap = l<;>simp [hc,addr_add]
       ·exact hb
      ·split at hs
       ·obtain ⟨l,m,hk,hle,hcap,hrun⟩:=zgy (P:=P) (isS:=true) hl' hh' rl rh hs w
        refine YldS.mk sat (.slice none (m - l) (cap - l)) (.va (.slice true i k e sz (m - l) (cap - l))) ?_ (by simp [SV.rel,SA.den]) (.inl rfl) hk
        simp [Instr.sliceAt,zas hΘ hi',Instr.slice,hrun,zdc hΘ hj]
       ·exact hs.elim
    ·exact hs.elim
   ·rename_i elem a b c hi'
    simp only [SV.rel,SA.den] at hr; subst hr
    split at hs
    ·rename_i j hj
     obtain ⟨l,m,hk,hle,hcap,hrun⟩:=zgy (P:=P) (isS:=true) hl' hh' rl rh hs w
     have hm:m = 0:=by omega
     have hl0:l = 0:=by omega
     subst hm; subst hl0
     refine YldS.mk sat (.slice none 0 0) (.va .nilsl) ?_ rfl trivial hk
     simp [Instr.sliceAt,zas hΘ hi',Instr.slice,hrun,zdc hΘ hj]
    ·exact hs.elim
   ·rename_i arr a b c p hi'
    simp only [SV.rel,SA.den] at hr; subst hr
    split at hs
    ·rename_i n elem a2 b2 c2 ha
     split at hs
     ·rename_i j hj
      obtain ⟨l,m,hk,hle,hcap,hrun⟩:=zgy (P:=P) (isS:=false) hl' hh' rl rh hs w
      refine YldS.mk sat (.slice (some (if n = l then p.addr ρ else (p.addr ρ).add (l * j.size))) (m - l) (n - l)) _ ?_ ?_ ?_ hk
      ·simp [Instr.sliceAt,zas hΘ hi',zas hΘ ha,Instr.slice,asAddr,hrun,zdc hΘ hj]
      ·simp only [SV.rel,SA.den,Pl.addr]
       by_cases hc:n = l<;>simp [hc,addr_add]
      ·exact .inr hb
     ·exact hs.elim
    ·exact hs.elim
   ·rename_i n elem a b c p hi'
    simp only [SV.rel,SA.den] at hr; subst hr
    split at hs
    ·rename_i j hj
     obtain ⟨l,m,hk,hle,hcap,hrun⟩:=zgy (P:=P) (isS:=false) hl' hh' rl rh hs w
     refine YldS.mk sat (.slice (some (if n = l then p.addr ρ else (p.addr ρ).add (l * j.size))) (m - l) (n - l)) _ ?_ ?_ ?_ hk
     ·simp [Instr.sliceAt,zas hΘ hi',Instr.sureAddr,hrun,zdc hΘ hj]
     ·simp only [SV.rel,SA.den,Pl.addr]
      by_cases hc:n = l<;>simp [hc,addr_add]
     ·exact .inr hb
    ·exact hs.elim
   ·exact hs.elim
  ·exact hs.elim
end
section
variable {P:Program} {Θ:Tys} {C:Ctx} {ρ:Rho} {h:Hp} {nx:Nat} {w:World} {K:Kt}
def places (Θ:Tys):List Field → Option (List (Nat × Nat))
 |[]=>some []
 |f :: r=>match Θ f.type with
  |some j=>match places Θ r with
   |some l=>some ((f.offset,j.size) :: l)
   |none=>none
  |none=>none
def sfill (pl:Nat → Option (Nat × Nat)) (cells:List SA):List (Nat × SV) → Option (List SA)
 |[]=>some cells
 |(i,v) :: r=>match pl i,cellsOf v with
  |some (off,size),some vs=>match Nat.beq vs.length size with
   |true=>match setAt cells off vs with
    |some c=>sfill pl c r
    |none=>none
   |false=>none
  |_,_=>none
theorem foldl_set (off:Nat):∀ (vs:List Value) (j:Nat) (cs:List Value),off + j + vs.length ≤ cs.length →
  (vs.zipIdx j).foldl (fun (c:Array Value) (x:Value × Nat)=>c.setIfInBounds (off + x.2) x.1) cs.toArray = (cs.take (off + j) ++ vs ++ cs.drop (off + j + vs.length)).toArray
 |[],j,cs,_=>by simp
 |v :: r,j,cs,hl=>by
  simp only [List.zipIdx_cons,y4]
  have:=foldl_set off r (j + 1) (cs.set (off + j) v) (by simp at hl ⊢; omega)
  simp only [List.setIfInBounds_toArray]
  rw [this]
  congr 1
  have e:=list_seg_step cs (off + j) v r (by simp at hl ⊢; omega)
  simpa [qa3] using e
theorem zl8 {pl:Nat → Option (Nat × Nat)}:∀ (parts:List (Nat × SV)) (vps:List (Nat × Value)) (cells out:List SA),sfill pl cells parts = some out →
  vps.length = parts.length → (∀ (j:Nat) (p:Nat × SV) (q:Nat × Value),parts[j]? = some p → vps[j]? = some q → p.1 = q.1 ∧ p.2.rel ρ q.2) →
  Instr.fill pl (cells.map (SA.den ρ)).toArray vps = some (out.map (SA.den ρ)).toArray ∧
   (∀ n,(∀ a ∈ cells,a.below n) → (∀ p ∈ parts,p.2.below n) → ∀ a ∈ out,a.below n) ∧ out.length = cells.length
 |[],vps,cells,out,hs,hl,_=>by
  simp [sfill] at hs; subst hs
  have:vps = []:=by simpa using hl
  subst this
  exact ⟨rfl,fun n hc _=>hc,rfl⟩
 |(i,s) :: r,[],cells,out,_,hl,_=>by simp at hl
 |(i,s) :: r,(i',v) :: vr,cells,out,hs,hl,hrel=>by
  simp only [sfill] at hs
  split at hs
  ·rename_i off size vs hp hvs
   split at hs
   ·rename_i hlen
    have hlen:=qg hlen
    split at hs
    ·rename_i c hc
     obtain ⟨h1,h2⟩:=hrel 0 (i,s) (i',v) (by simp) (by simp)
     simp only at h1 h2; subst h1
     obtain ⟨pre,old,post,k1,k2,k3,k4⟩:=ze8 _ _ _ _ hc
     obtain ⟨r1,r2,r3⟩:=zl8 r vr c out hs (by simpa using hl) (fun j p q hp hq=>hrel (j + 1) p q (by simpa using hp) (by simpa using hq))
     have hcells:=zg2 hvs h2
     refine ⟨?_,fun n hn hpn a ha=>r2 n ?_ (fun p hp=>hpn p (by simp [hp])) a ha,?_⟩
     ·simp only [Instr.fill,hp,hcells]
      have hle:¬ (off + vs.length > cells.length):=by rw [k1]; simp; omega
      simp only [yv,qb,hlen,ne_eq,not_true_eq_false,decide_false,qa4]
      rw [hlen] at hle
      simp only [hle,decide_false,jm,if_false]
      have hf:=foldl_set off (vs.map (SA.den ρ)) 0 (cells.map (SA.den ρ)) (by simp; omega)
      have e1:((vs.map (SA.den ρ)).toArray.zipIdx).foldl (fun (c:Array Value) (x:Value × Nat)=>c.setIfInBounds (off + x.2) x.1) (cells.map (SA.den ρ)).toArray = (c.map (SA.den ρ)).toArray:=by
       rw [← Array.foldl_toList]
       simp only [Array.toList_zipIdx]
       rw [hf,k1,k2]
       simp [← k3,← k4,List.drop_append]
      have e2:(fun (cs:Array Value) (x:Value × Nat)=>match x with | (c,j)=>cs.setIfInBounds (off + j) c) = (fun (c:Array Value) (x:Value × Nat)=>c.setIfInBounds (off + x.2) x.1):=rfl
      rw [e2,e1]
      exact r1
     ·intro a ha
      rw [k2] at ha; simp at ha
      rcases ha with ha | ha | ha
      ·exact hn a (by rw [k1]; simp [ha])
      ·exact zfl hvs (hpn (i,s) (by simp)) a ha
      ·exact hn a (by rw [k1]; simp [ha])
     ·rw [r3,k1,k2]; simp; omega
    ·cases hs
   ·cases hs
  ·cases hs
theorem zn9 (hΘ:Θ.Ok P):∀ (fs:List Field) (l:List (Nat × Nat)),places Θ fs = some l → ∀ w,(fs.mapM fun f=>do pure (f.offset,← Go.sizeOf f.type):Sem (List (Nat × Nat))).run P w = .ok l w
 |[],l,hs,w=>by simp [places] at hs; subst hs; rfl
 |f :: r,l,hs,w=>by
  simp only [places] at hs
  split at hs
  ·rename_i j hj
   split at hs
   ·rename_i l' hl
    cases hs
    have ih:=zn9 hΘ r l' hl w
    simp only [List.mapM_cons,Sem.run_bind,zdc hΘ hj,Result.andThen_ok,Sem.run_pure,ih]
   ·cases hs
  ·cases hs
def zqk (Θ:Tys) (t:TypeId) (parts:List (Nat × SV)) (h:Hp) (nx:Nat) (K:Kt):Prop:=
 match Θ t with
 |some ⟨.struct fields,_,_,zero⟩=>match places Θ fields.toList with
  |some pl=>match sfill (nth pl) zero parts with
   |some cs=>K (.agg cs) h nx
   |none=>False
  |none=>False
 |some ⟨.array _ elem,_,_,zero⟩=>match Θ elem with
  |some j=>match sfill (fun i=>some (i * j.size,j.size)) zero parts with
   |some cs=>K (.agg cs) h nx
   |none=>False
  |none=>False
 |_=>False
theorem zs8 (hΘ:Θ.Ok P) {t:TypeId} {parts:List (Nat × SV)} {vps:Array (Nat × Value)} (hs:zqk Θ t parts h nx K) (sat:Sat C ρ h nx w) (hl:vps.size = parts.length)
  (hr:∀ (j:Nat) (p:Nat × SV) (q:Nat × Value),parts[j]? = some p → vps[j]? = some q → p.1 = q.1 ∧ p.2.rel ρ q.2) (hb:∀ p ∈ parts,p.2.below nx):YldS P (Instr.build t vps) ρ h nx w K:=by
 unfold zqk at hs
 split at hs
 ·rename_i fields a b zero hi
  split at hs
  ·rename_i pl hpl
   split at hs
   ·rename_i cs hcs
    obtain ⟨f1,f2,_⟩:=zl8 (ρ:=ρ) parts vps.toList zero cs hcs (by simpa using hl) (fun j p q hp hq=>hr j p q hp (by simpa using hq))
    refine YldS.mk sat (.agg (cs.map (SA.den ρ)).toArray) (.agg cs) ?_ rfl (f2 nx (fun a ha=>SA.below_mono (yq _) ((hΘ t _ hi).bel a ha)) hb) hs
    have hm:(fields.mapM fun f=>do pure (f.offset,← Go.sizeOf f.type):Sem (Array (Nat × Nat))).run P w = .ok pl.toArray w:=by
     rw [qcg,Sem.run_map,zn9 hΘ _ _ hpl w]
     rfl
    have hz:(zval ρ ⟨.struct fields,a,b,zero⟩).cells = (zero.map (SA.den ρ)).toArray:=rfl
    have e:(fun i=>pl.toArray[i]?) = nth pl:=by funext i; rw [zht]; simp
    simp only [Instr.build,Sem.run_bind,zgj hΘ hi w ρ,Result.andThen_ok,zas hΘ hi,hm,hz,e,f1]
    rfl
   ·exact hs.elim
  ·exact hs.elim
 ·rename_i n elem a b zero hi
  split at hs
  ·rename_i j hj
   split at hs
   ·rename_i cs hcs
    obtain ⟨f1,f2,_⟩:=zl8 (ρ:=ρ) parts vps.toList zero cs hcs (by simpa using hl) (fun j p q hp hq=>hr j p q hp (by simpa using hq))
    refine YldS.mk sat (.agg (cs.map (SA.den ρ)).toArray) (.agg cs) ?_ rfl (f2 nx (fun a ha=>SA.below_mono (yq _) ((hΘ t _ hi).bel a ha)) hb) hs
    have hz:(zval ρ ⟨.array n elem,a,b,zero⟩).cells = (zero.map (SA.den ρ)).toArray:=rfl
    simp only [Instr.build,Sem.run_bind,zgj hΘ hi w ρ,Result.andThen_ok,zas hΘ hi,zdc hΘ hj,hz,f1]
    rfl
   ·exact hs.elim
  ·exact hs.elim
 ·exact hs.elim
end
end Sx
