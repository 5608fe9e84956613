import Derived.Test.YtfnkamphhpldcaaGreatDoorK01
set_option maxHeartbeats 64000000
namespace Sx
open Go
abbrev Hp:=List (List (Nat × Ent))
abbrev Kt:=SV → Hp → Nat → Prop
structure TI where
 d:TypeDesc
 size:Nat
 bytes:Nat
 zero:List SA
def aggD:TypeDesc → Bool
 |.struct _=>true
 |.array _ _=>true
 |_=>false
def zval (ρ:Rho) (i:TI):Value:=
 match aggD i.d with
 |true=>.agg (i.zero.map (SA.den ρ)).toArray
 |false=>(i.zero.headD .nilptr).den ρ
structure TI.ok (P:Program) (t:TypeId) (i:TI):Prop where
 und:P.underlying t = some i.d
 inf:∃ f,P.info? t = some f ∧ f.size = i.size ∧ f.bytes = i.bytes ∧ ∀ ρ,f.zero = some (zval ρ i)
 len:i.zero.length = i.size
 bel:∀ a ∈ i.zero,a.below 0
 one:aggD i.d = false → i.size = 1
abbrev Tys:=TypeId → Option TI
def Tys.Ok (P:Program) (Θ:Tys):Prop:=∀ t i,Θ t = some i → TI.ok P t i
def nth {α:Type}:List α → Nat → Option α
 |[],_=>none
 |x :: _,0=>some x
 |_ :: r,n + 1=>nth r n
theorem zic {α:Type}:∀ (l:List α) (n:Nat),nth l n = l[n]?
 |[],n=>by simp [nth]
 |x :: r,0=>by simp [nth]
 |x :: r,n + 1=>by simp [nth,zic r n]
def svA:Value → Option SA
 |.int k n=>some (.int k n)
 |.bool b=>some (.lit b)
 |.string s=>some (.str s.data.toList)
 |.pointer none=>some .nilptr
 |.slice none 0 0=>some .nilsl
 |.map none=>some .nilmap
 |.nilFunc=>some .nilfn
 |.nilIface=>some .nilif
 |.iface t v=>some (.ifc t v)
 |_=>none
def svAs:List Value → Option (List SA)
 |[]=>some []
 |v :: r=>match svA v with
  |some a=>match svAs r with
   |some l=>some (a :: l)
   |none=>none
  |none=>none
def svOf:Value → SV
 |.agg cs=>match svAs cs.toList with
  |some l=>.agg l
  |none=>.junk
 |.tuple ⟨[]⟩=>.tup []
 |v=>match svA v with
  |some a=>.va a
  |none=>.junk
theorem zsj {ρ:Rho} {v:Value} {a:SA} (h:svA v = some a):v = a.den ρ ∧ a.below 0:=by
 unfold svA at h;split at h<;>cases h<;>simp [SA.den,SA.below]
theorem zti {ρ:Rho}:∀ {vs:List Value} {l:List SA},svAs vs = some l → vs = l.map (SA.den ρ) ∧ ∀ a ∈ l,a.below 0
 |[],l,h=>by simp [svAs] at h; subst h; simp
 |v :: r,l,h=>by
  simp only [svAs] at h;split at h
  ·rename_i a f;split at h
   ·rename_i g b;cases h
    obtain ⟨h1,d⟩:=zsj (ρ:=ρ) f;obtain ⟨c,e⟩:=zti (ρ:=ρ) b;refine ⟨by simp [h1,c],?_⟩;intro x hx;rcases qj.1 hx with rfl | hx
    ·exact d
    ·exact e x hx
   ·cases h
  ·cases h
theorem ztu (ρ:Rho) (v:Value):(svOf v).rel ρ v ∧ (svOf v).below 0:=by
 unfold svOf;split
 ·rename_i e;split
  ·rename_i l c;obtain ⟨h1,b⟩:=zti (ρ:=ρ) c;refine ⟨?_,b⟩;simp only [SV.rel]; rw [← h1]
  ·exact ⟨tv,tv⟩
 ·exact ⟨rfl,by simp [SV.below]⟩
 ·split
  ·rename_i a d;obtain ⟨h1,b⟩:=zsj (ρ:=ρ) d;exact ⟨h1,b⟩
  ·exact ⟨tv,tv⟩
def ev (t:List (List (Nat × SV))):Operand → SV
 |.tmp n=>match lget t n with
  |some s=>s
  |none=>.junk
 |.const v=>svOf v
 |.global g=>.va (.glob g)
 |.func f=>.va (.fn (.func f) [])
theorem za4 {C:Ctx} {ρ:Rho} {b:St} {a:Act} {w:World} (d:Den C ρ b a w) (x:Operand):(ev b.t x).rel ρ (a.eval x) ∧ (ev b.t x).below b.nx:=by
 cases x with
 |tmp n=>
  simp only [ev];split
  ·rename_i s c;obtain ⟨v,e,h⟩:=d.tm n s c;refine ⟨?_,d.tw n s c⟩;have:a.eval (.tmp n) = v:=by simp [Act.eval,e]
   rw [this]; exact h
  ·exact ⟨tv,tv⟩
 |const v=>exact ⟨(ztu ρ v).1,SV.below_mono (yj _) (ztu ρ v).2⟩
 |global g=>exact ⟨rfl,tv⟩
 |func f=>exact ⟨rfl,by simp [ev,SV.below,SA.below]⟩
def Yld (P:Program) (s:Sem Value) (C:Ctx) (ρ:Rho) (nx:Nat) (w:World) (K:Kt):Prop:=
 ∃ v d sv c a b,s.run P w = .ok v d ∧ sv.rel b v ∧ sv.below a ∧ K sv c a ∧ Sat C b c a d ∧ (∀ i,i < nx → b i = ρ i) ∧ nx ≤ a
theorem Yld.same {P:Program} {s:Sem Value} {C:Ctx} {ρ:Rho} {h:Hp} {nx:Nat} {w:World} {K:Kt} (b:Sat C ρ h nx w) (v:Value) (sv:SV) (a:s.run P w = .ok v w) (c:sv.rel ρ v) (d:sv.below nx)
  (e:K sv h nx):Yld P s C ρ nx w K:=
 ⟨v,w,sv,h,nx,ρ,a,c,d,e,b,fun _ _=>rfl,qm _⟩
def YldS (P:Program) (s:Sem Value) (ρ:Rho) (h:Hp) (nx:Nat) (w:World) (K:Kt):Prop:=
 ∃ v sv,s.run P w = .ok v w ∧ sv.rel ρ v ∧ sv.below nx ∧ K sv h nx
theorem YldS.mk {P:Program} {s:Sem Value} {C:Ctx} {ρ:Rho} {h:Hp} {nx:Nat} {w:World} {K:Kt} (_sat:Sat C ρ h nx w) (v:Value) (sv:SV) (a:s.run P w = .ok v w) (b:sv.rel ρ v) (d:sv.below nx)
  (c:K sv h nx):YldS P s ρ h nx w K:=⟨v,sv,a,b,d,c⟩
theorem YldS.yld {P:Program} {s:Sem Value} {C:Ctx} {ρ:Rho} {h:Hp} {nx:Nat} {w:World} {K:Kt} (y:YldS P s ρ h nx w K) (a:Sat C ρ h nx w):Yld P s C ρ nx w K:=by
 obtain ⟨v,sv,h1,c,b,d⟩:=y;exact Yld.same a v sv h1 c b d
section
variable {P:Program} {Θ:Tys} {C:Ctx} {ρ:Rho} {h:Hp} {nx:Nat} {w:World} {K:Kt}
theorem zau {t:TypeId} {i:TI} (hΘ:Θ.Ok P) (a:Θ t = some i) (w:World):(underlying t).run P w = .ok i.d w:=run_underlying (hΘ t i a).und w
theorem zns {t:TypeId} {i:TI} (hΘ:Θ.Ok P) (a:Θ t = some i) (w:World):(isAgg t).run P w = .ok (aggD i.d) w:=by
 unfold isAgg; rw [Sem.run_bind,zau hΘ a];cases i.d<;>rfl
theorem zdr {t:TypeId} {i:TI} (hΘ:Θ.Ok P) (a:Θ t = some i) (w:World):(Go.sizeOf t).run P w = .ok i.size w:=by
 obtain ⟨f,h1,b,_,_⟩:=(hΘ t i a).inf;simp [Go.sizeOf,typeInfo,h1,b]
theorem zgu {t:TypeId} {i:TI} (hΘ:Θ.Ok P) (a:Θ t = some i) (w:World) (ρ:Rho):(zeroValue t).run P w = .ok (zval ρ i) w:=by
 obtain ⟨f,h1,_,_,b⟩:=(hΘ t i a).inf;simp [zeroValue,typeInfo,h1,b ρ]
theorem zfm {t:TypeId} {i:TI} (b:TI.ok P t i) (ρ:Rho):(zval ρ i).cells = (i.zero.map (SA.den ρ)).toArray:=by
 unfold zval;cases e:aggD i.d with
 |true=>rfl
 |false=>
  have h1:=b.one e;have c:=b.len;rw [h1] at c
  match f:i.zero,c with
  |[a],_=>cases a<;>rfl
def cellsOf:SV → Option (List SA)
 |.va a=>some [a]
 |.agg l=>some l
 |_=>none
theorem zhp {ρ:Rho} {s:SV} {l:List SA} {v:Value} (b:cellsOf s = some l) (c:s.rel ρ v):v.cells = (l.map (SA.den ρ)).toArray:=by
 cases s with
 |va a=>simp [cellsOf] at b; subst b; simp only [SV.rel] at c; subst c; cases a<;>rfl
 |agg l'=>simp [cellsOf] at b; subst b; simp only [SV.rel] at c; subst c; rfl
 |tup l=>simp [cellsOf] at b
 |junk=>simp [cellsOf] at b
theorem zfz {n:Nat} {s:SV} {l:List SA} (b:cellsOf s = some l) (d:s.below n):∀ a ∈ l,a.below n:=by
 cases s with
 |va a=>simp [cellsOf] at b; subst b; intro x c; simp at c; subst c; exact d
 |agg l'=>simp [cellsOf] at b; subst b; exact d
 |tup l=>simp [cellsOf] at b
 |junk=>simp [cellsOf] at b
def pnew (nx:Nat):SV:=.va (.ptr ⟨nx,0,0,0,0⟩)
theorem zxd (c:Sat C ρ h nx w) (t:TypeId) (l:List SA) (d:Array Value) (e:d = (l.map (SA.den ρ)).toArray) (g:∀ a ∈ l,a.below nx) (s:Sem Value)
  (b:s.run P w = .ok (.pointer (some ⟨w.heap.size,0,none⟩)) (w.alloc (.cells d t (0,0))))
  (f:K (pnew nx) (lput h nx (.one (.cells t l))) (nx + 1)):Yld P s C ρ nx w K:=by
 refine ⟨_,_,_,_,_,rext ρ nx w.heap.size,b,?_,?_,f,c.new (.cells t l) _ g ⟨(0,0),NoFr.zero _,by rw [e]⟩,fun i j=>zd4 j,qac _⟩
 ·simp [SV.rel,pnew,SA.den,Pl.addr,zbm]
 ·simp [SV.below,pnew,SA.below]
def zrd (Θ:Tys) (t:TypeId) (h:Hp) (nx:Nat) (K:Kt):Prop:=
 match Θ t with
 |some i=>K (pnew nx) (lput h nx (.one (.cells t i.zero))) (nx + 1)
 |none=>False
theorem zv7 (hΘ:Θ.Ok P) {t:TypeId} (b:zrd Θ t h nx K) (d:Sat C ρ h nx w):Yld P (Instr.alloc t true (.tuple #[])) C ρ nx w K:=by
 unfold zrd at b;split at b
 ·rename_i i c;refine zxd d t i.zero _ rfl (fun a e=>SA.below_mono (yj _) ((hΘ t i c).bel a e)) _ ?_ b;simp [Instr.alloc,zgu hΘ c w ρ,newVar,newRow,zfm (hΘ t i c) ρ]
 ·exact b.elim
def s_box (t:TypeId) (x:SV) (h:Hp) (nx:Nat) (K:Kt):Prop:=
 match cellsOf x with
 |some l=>K (pnew nx) (lput h nx (.one (.cells t l))) (nx + 1)
 |none=>False
theorem z6y {t:TypeId} {x:SV} {v:Value} (a:s_box t x h nx K) (b:Sat C ρ h nx w) (d:x.rel ρ v) (e:x.below nx):Yld P (Instr.box t v) C ρ nx w K:=by
 unfold s_box at a;split at a
 ·rename_i l c;refine zxd b t l _ rfl (zfz c e) _ ?_ a;simp [Instr.box,newVar,newRow,zhp c d]
 ·exact a.elim
def zfr (Θ:Tys) (t:TypeId) (x:SV) (h:Hp) (nx:Nat) (K:Kt):Prop:=
 match Θ t,x with
 |some i,.va (.ptr p)=>rd h p i.size fun b=>match aggD i.d with
  |true=>K (.agg b) h nx
  |false=>match b with
   |[a]=>K (.va a) h nx
   |_=>False
 |_,_=>False
theorem addr_add (b o n:Nat):(⟨b,o,none⟩:Addr).add n = ⟨b,o + n,none⟩:=by unfold Addr.add; split<;>simp_all
theorem zhg (hΘ:Θ.Ok P) {t:TypeId} {x:SV} {v:Value} (m:zfr Θ t x h nx K) (n:Sat C ρ h nx w) (D:x.rel ρ v):∃ u sv,(Instr.loadAt t v).run P w = .ok u w ∧ sv.rel ρ u ∧ sv.below nx ∧ K sv h nx:=by
 unfold zfr at m;split at m
 ·rename_i i p s;simp only [SV.rel,SA.den] at D; subst D;obtain ⟨f,d,g,l,t',G,B,b,c⟩:=zn0 m n
  have y:(loadCells ⟨ρ p.i p.k,p.e * p.sz + p.o,none⟩ (f.map (SA.den ρ)).length).run P w = .ok (f.map (SA.den ρ)).toArray w:=
   run_loadCells_list (P:=P) w _ _ (fun j u A=>by
    rw [addr_add,b.cell,← c];have I:j < (f.map (SA.den ρ)).length:=(qi.1 A).1;rw [ql,jy (by omega),qal,jw I]; exact A)
  split at d
  ·rename_i q;refine ⟨.agg (f.map (SA.den ρ)).toArray,.agg f,?_,rfl,l,d⟩;simp only [qa,g] at y;simp [Instr.loadAt,Instr.sureAddr,Pl.addr,loadVar,zns hΘ s,q,zdr hΘ s,y]
  ·rename_i q;split at d
   ·rename_i a;refine ⟨a.den ρ,.va a,?_,rfl,l a (by simp),d⟩
    have E:w.cell? ⟨ρ p.i p.k,p.e * p.sz + p.o,none⟩ = some (a.den ρ):=by
     rw [b.cell,← c]; simp
    simp [Instr.loadAt,Instr.sureAddr,Pl.addr,loadVar,zns hΘ s,q,E]
   ·exact d.elim
 ·exact m.elim
theorem zw2 (hΘ:Θ.Ok P) {t:TypeId} {x:SV} {v:Value} (f:zfr Θ t x h nx K) (a:Sat C ρ h nx w) (c:x.rel ρ v):Yld P (Instr.loadAt t v) C ρ nx w K:=by
 obtain ⟨u,sv,h1,d,b,e⟩:=zhg hΘ f a c;exact Yld.same a u sv h1 d b e
def zkc (Θ:Tys) (t:TypeId) (x y:SV) (h:Hp) (nx:Nat) (K:Kt):Prop:=
 match Θ t,x,cellsOf y with
 |some i,.va (.ptr p),some vs=>match Nat.beq vs.length i.size with
  |true=>wr h p vs fun a=>K (.tup []) a nx
  |false=>False
 |_,_,_=>False
theorem zi4 (hΘ:Θ.Ok P) {t:TypeId} {x y:SV} {v u:Value} (j:zkc Θ t x y h nx K) (B:Sat C ρ h nx w) (G:x.rel ρ v) (D:y.rel ρ u) (O:y.below nx) :
  ∃ E A,(Instr.storeAt t v u).run P w = .ok () E ∧ K (.tup []) A nx ∧ Sat C ρ A nx E:=by
 unfold zkc at j;split at j
 ·rename_i i p vs M s;split at j
  ·rename_i b;have b:=qk b;simp only [SV.rel,SA.den] at G; subst G;obtain ⟨A,t',g,old,c,I,l,f,n,q⟩:=zs4 j B (zfz s O)
   have m:=zcj (P:=P) (ρ p.i p.k) (p.e * p.sz + p.o) t' (vs.map (SA.den ρ)) 0 _ w l (by simp; omega) (by
    intro z J; obtain ⟨a,_,rfl⟩:=qz.1 J; exact SA.one ρ a)
   refine ⟨_,A,?_,I,q⟩;have d:=zhp s D;have Q:List.take (p.e * p.sz + p.o + 0) (g ++ old ++ c) = g:=by rw [qas,← f]; simp
   have L:List.drop (p.e * p.sz + p.o + 0 + (vs.map (SA.den ρ)).length) (g ++ old ++ c) = c:=by
    rw [qas,← f,qa,← n]; simp [ql]
   rw [Q,L] at m;simp [Instr.storeAt,Instr.sureAddr,Pl.addr,storeVar,zdr hΘ M,d,b,m]
  ·exact j.elim
 ·exact j.elim
end
section
variable {P:Program} {Θ:Tys} {C:Ctx} {ρ:Rho} {h:Hp} {nx:Nat} {w:World} {K:Kt}
def zdn (Θ:Tys) (t:TypeId) (x:SV) (f:Nat) (h:Hp) (nx:Nat) (K:Kt):Prop:=
 match Θ t,x with
 |some ⟨.struct fields,_,_,_⟩,.va (.ptr p)=>match nth fields.toList f with
  |some fl=>match Θ fl.type with
   |some j=>match j.size with
    |0=>False
    |_ + 1=>K (.va (.ptr ⟨p.i,p.k,p.e,p.sz,p.o + fl.offset⟩)) h nx
   |none=>False
  |none=>False
 |_,_=>False
theorem zg9 (hΘ:Θ.Ok P) {t:TypeId} {x:SV} {v:Value} {f:Nat} (d:zdn Θ t x f h nx K) (l:Sat C ρ h nx w) (s:x.rel ρ v) (B:x.below nx) :
  YldS P (Instr.fieldAt t v f) ρ h nx w K:=by
 unfold zdn at d;split at d
 ·rename_i g a b c p y;split at d
  ·rename_i n u;split at d
   ·rename_i j D;split at d
    ·exact d.elim
    ·rename_i m A;simp only [SV.rel,SA.den] at s; subst s;have q:g[f]? = some n:=by rw [zic] at u; simpa using u
     refine YldS.mk l (.pointer (some (⟨ρ p.i p.k,p.e * p.sz + (p.o + n.offset),none⟩))) (.va (.ptr ⟨p.i,p.k,p.e,p.sz,p.o + n.offset⟩)) ?_ (by simp [SV.rel,SA.den,Pl.addr]) (show p.i < nx from B) d;simp [Instr.fieldAt,zau hΘ y,q,Instr.sureAddr,Pl.addr,fieldPlace,zdr hΘ D,A,addr_add,qbe]
   ·exact d.elim
  ·exact d.elim
 ·exact d.elim
def zhq (Θ:Tys) (t:TypeId) (x:SV) (f:Nat) (h:Hp) (nx:Nat) (K:Kt):Prop:=
 match Θ t,x with
 |some ⟨.struct fields,_,_,_⟩,.agg l=>match nth fields.toList f with
  |some fl=>match Θ fl.type with
   |some j=>match zd3 l fl.offset j.size with
    |some xs=>match aggD j.d with
     |true=>K (.agg xs) h nx
     |false=>match xs with
      |[a]=>K (.va a) h nx
      |_=>False
    |none=>False
   |none=>False
  |none=>False
 |_,_=>False
theorem zt6 (hΘ:Θ.Ok P) {t:TypeId} {j:TI} (f:Θ t = some j) (l:List SA) (b:Nat) (c:List SA) (n:zd3 l b j.size = some c) (w:World) :
  (aggD j.d = true → (part t (l.map (SA.den ρ)).toArray b).run P w = .ok (.agg (c.map (SA.den ρ)).toArray) w) ∧
  (aggD j.d = false → ∀ a,c = [a] → (part t (l.map (SA.den ρ)).toArray b).run P w = .ok (a.den ρ) w):=by
 obtain ⟨k,i,h1,g,m⟩:=zdo _ _ _ _ n;constructor
 ·intro e;simp only [part,Sem.run_bind,zns hΘ f,e,Result.andThen_ok,if_true,zdr hΘ f,Sem.run_pure]
  congr 2
  rw [h1]; simp [← g,← m]
 ·intro e a o;subst o;have:(l.map (SA.den ρ)).toArray[b]? = some (a.den ρ):=by rw [h1]; simp [← g]
  simp only [part,Sem.run_bind,zns hΘ f,e,Result.andThen_ok,ju,if_false,this,Sem.run_pure]
theorem zl3 (hΘ:Θ.Ok P) {t:TypeId} {x:SV} {v:Value} {f:Nat} (d:zhq Θ t x f h nx K) (g:Sat C ρ h nx w) (u:x.rel ρ v) (G:x.below nx) :
  YldS P (Instr.field t v f) ρ h nx w K:=by
 unfold zhq at d;split at d
 ·rename_i e a b c l s;split at d
  ·rename_i p y;split at d
   ·rename_i j L;split at d
    ·rename_i m o;simp only [SV.rel] at u; subst u;have k:e[f]? = some p:=by rw [zic] at y; simpa using y
     obtain ⟨B,q,h1,D,E⟩:=zdo _ _ _ _ o;have i:∀ a ∈ m,a.below nx:=fun a I=>G a (by rw [h1]; simp [I])
     obtain ⟨A,J⟩:=zt6 (ρ:=ρ) hΘ L l p.offset m o w;split at d
     ·rename_i n;refine YldS.mk g _ (.agg m) ?_ rfl i d;simp [Instr.field,zau hΘ s,k,asAgg,A n]
     ·rename_i n;split at d
      ·rename_i a;refine YldS.mk g _ (.va a) ?_ rfl (i a (by simp)) d;simp [Instr.field,zau hΘ s,k,asAgg,J n a rfl]
      ·exact d.elim
    ·exact d.elim
   ·exact d.elim
  ·exact d.elim
 ·exact d.elim
def zdm (Θ:Tys) (t:TypeId) (x y:SV) (h:Hp) (nx:Nat) (K:Kt):Prop:=
 match Θ t,x,y with
 |some ⟨.array n elem,_,_,_⟩,.va (.ptr p),.va (.int _ z)=>match Θ elem with
  |some j=>(0 ≤ z ∧ z < (n:Int)) ∧ (match p.sz with
   |0=>K (.va (.ptr ⟨p.i,p.k,z.toNat,j.size,p.o⟩)) h nx
   |_ + 1=>K (.va (.ptr ⟨p.i,p.k,p.e,p.sz,p.o + z.toNat * j.size⟩)) h nx)
  |none=>False
 |some ⟨.slice elem,_,_,_⟩,.va (.slice nil i k e sz a _),.va (.int _ z)=>match Θ elem with
  |some j=>match Nat.beq sz j.size with
   |true=>nil = false ∧ (0 ≤ z ∧ z < (a:Int)) ∧ K (.va (.ptr ⟨i,k,e + z.toNat,sz,0⟩)) h nx
   |false=>match Nat.beq sz 1 with
    |true=>nil = false ∧ (0 ≤ z ∧ z < (a:Int)) ∧ K (.va (.ptr ⟨i,k,e + z.toNat * j.size,1,0⟩)) h nx
    |false=>False
  |none=>False
 |_,_,_=>False
theorem zha (hΘ:Θ.Ok P) {t:TypeId} {x y:SV} {v u:Value} (d:zdm Θ t x y h nx K) (l:Sat C ρ h nx w) (m:x.rel ρ v) (g:y.rel ρ u) (D:x.below nx) :
  YldS P (Instr.indexAt t v u) ρ h nx w K:=by
 unfold zdm at d;split at d
 ·rename_i n q a b c p I z B;split at d
  ·rename_i j E;obtain ⟨A,d⟩:=d;simp only [SV.rel,SA.den] at m g; subst m; subst g
   have s:(Instr.indexAt t (.pointer (some (p.addr ρ))) (.int I z)).run P w = .ok (.pointer (some ⟨ρ p.i p.k,p.e * p.sz + p.o + z.toNat * j.size,none⟩)) w:=by
    simp [Instr.indexAt,asIntOf,zau hΘ B,Instr.sureAddr,A,zdr hΘ E,Pl.addr,addr_add]
   split at d
   ·rename_i f;refine YldS.mk l _ (.va (.ptr ⟨p.i,p.k,z.toNat,j.size,p.o⟩)) s ?_ (show p.i < nx from D) d;simp [SV.rel,SA.den,Pl.addr,f,qcn]
   ·refine YldS.mk l _ (.va (.ptr ⟨p.i,p.k,p.e,p.sz,p.o + z.toNat * j.size⟩)) s ?_ (show p.i < nx from D) d;simp [SV.rel,SA.den,Pl.addr,qbe]
  ·exact d.elim
 ·rename_i q a b c nil i k e sz J cap I z B;split at d
  ·rename_i j E;split at d
   ·rename_i f;have f:=qk f;obtain ⟨G,A,d⟩:=d;subst G;simp only [SV.rel,SA.den,ju,if_false] at m g; subst m; subst g;refine YldS.mk l (.pointer (some ⟨ρ i k,e * sz + z.toNat * j.size,none⟩)) (.va (.ptr ⟨i,k,e + z.toNat,sz,0⟩)) ?_ ?_ ?_ d
    ·simp [Instr.indexAt,asIntOf,zau hΘ B,A,zdr hΘ E,addr_add]
    ·simp [SV.rel,SA.den,Pl.addr,f,qbm]
    ·simpa [SV.below,SA.below] using D
   ·split at d
    ·rename_i f;have f:=qk f;obtain ⟨G,A,d⟩:=d;subst G;subst f;simp only [SV.rel,SA.den,ju,if_false] at m g; subst m; subst g;refine YldS.mk l (.pointer (some ⟨ρ i k,e * 1 + z.toNat * j.size,none⟩)) (.va (.ptr ⟨i,k,e + z.toNat * j.size,1,0⟩)) ?_ ?_ ?_ d
     ·simp [Instr.indexAt,asIntOf,zau hΘ B,A,zdr hΘ E,addr_add]
     ·simp [SV.rel,SA.den,Pl.addr]
     ·simpa [SV.below,SA.below] using D
    ·exact d.elim
  ·exact d.elim
 ·exact d.elim
def zhi (Θ:Tys) (t:TypeId) (x y:SV) (h:Hp) (nx:Nat) (K:Kt):Prop:=
 match Θ t,x,y with
 |some ⟨.string,_,_,_⟩,.va (.str s),.va (.int _ z)=>0 ≤ z ∧ ∃ b,s[z.toNat]? = some b ∧ K (.va (.int .u8 b.toNat)) h nx
 |some ⟨.array n elem,_,_,_⟩,.agg l,.va (.int _ z)=>match Θ elem with
  |some j=>(0 ≤ z ∧ z < (n:Int)) ∧ ∃ c,zd3 l (z.toNat * j.size) j.size = some c ∧ (match aggD j.d with
   |true=>K (.agg c) h nx
   |false=>match c with
    |[a]=>K (.va a) h nx
    |_=>False)
  |none=>False
 |_,_,_=>False
theorem zi8 {α:Type}:∀ {l:List α} {i:Nat} {a:α},l[i]? = some a → zd3 l (i * 1) 1 = some [a]
 |[],i,a,h=>by simp at h
 |x :: r,0,a,h=>by simp at h; subst h; rfl
 |x :: r,i + 1,a,h=>by
  have:=zi8 (l:=r) (i:=i) (a:=a) (by simpa using h);rw [qc0] at this ⊢;exact this
theorem zl1 (hΘ:Θ.Ok P) {t:TypeId} {x y:SV} {v u:Value} (d:zhi Θ t x y h nx K) (f:Sat C ρ h nx w) (p:x.rel ρ v) (e:y.rel ρ u) (Q:x.below nx) :
  YldS P (Instr.index t v u) ρ h nx w K:=by
 unfold zhi at d;split at d
 ·rename_i a b c s O z o;obtain ⟨m,b,i,d⟩:=d;simp only [SV.rel,SA.den] at p e; subst p; subst e;refine YldS.mk f (.int .u8 b.toNat) (.va (.int .u8 b.toNat)) ?_ rfl trivial d
  have k:(⟨s.toArray⟩:ByteArray)[z.toNat]? = some b:=by
   have q:=(qi.1 i).1;have T:=(qi.1 i).2;rw [getElem?_pos (⟨s.toArray⟩:ByteArray) z.toNat (by simpa [ByteArray.size] using q)]
   congr 1
  simp [Instr.index,asIntOf,zau hΘ o,m,k]
 ·rename_i n E a b c l O z o;split at d
  ·rename_i j D;obtain ⟨m,A,k,d⟩:=d;simp only [SV.rel,SA.den] at p e; subst p; subst e;obtain ⟨J,G,h1,L,M⟩:=zdo _ _ _ _ k;have g:∀ a ∈ A,a.below nx:=fun a R=>Q a (by rw [h1]; simp [R])
   obtain ⟨I,S⟩:=zt6 (ρ:=ρ) hΘ D l _ A k w;split at d
   ·rename_i B;refine YldS.mk f _ (.agg A) ?_ rfl g d;simp [Instr.index,asIntOf,zau hΘ o,m,zdr hΘ D,I B]
   ·rename_i B;split at d
    ·rename_i a;refine YldS.mk f _ (.va a) ?_ rfl (g a (by simp)) d;simp [Instr.index,asIntOf,zau hΘ o,m,zdr hΘ D,S B a rfl]
    ·exact d.elim
  ·exact d.elim
 ·exact d.elim
def opInt:Option SV → Option (Option Int)
 |none=>some none
 |some (.va (.int _ z))=>some (some z)
 |_=>none
def bnds (a cap:Nat) (b c:Option Int) (K:Nat → Nat → Prop):Prop:=
 match c with
 |none=>match b with
  |none=>K 0 a
  |some l=>(0 ≤ l ∧ l ≤ (a:Int)) ∧ K l.toNat a
 |some z=>(0 ≤ z ∧ z ≤ (cap:Int)) ∧ (match b with
  |none=>K 0 z.toNat
  |some l=>(0 ≤ l ∧ l ≤ z) ∧ K l.toNat z.toNat)
def relO (ρ:Rho):Option SV → Option Value → Prop
 |none,none=>True
 |some s,some v=>s.rel ρ v
 |_,_=>False
theorem zho {isS:Bool} {c cap:Nat} {i m:Option SV} {g f:Option Value} {p n:Option Int} {K:Nat → Nat → Prop} (e:opInt i = some p) (b:opInt m = some n) (o:relO ρ i g) (u:relO ρ m f)
  (d:bnds c cap p n K) (w:World):∃ l b,K l b ∧ l ≤ b ∧ (b ≤ cap ∨ (n = none ∧ b = c)) ∧ (Instr.sliceBounds isS c cap g f none).run P w = .ok (l,b,cap) w:=by
 have A:(i = none ∧ g = none ∧ p = none) ∨ ∃ k z,i = some (.va (.int k z)) ∧ g = some (.int k z) ∧ p = some z:=by
  cases i with
  |none=>cases g with
   |none=>left; simp [opInt] at e; simp [e]
   |some v=>exact o.elim
  |some s=>cases g with
   |none=>cases s<;>exact o.elim
   |some v=>
    right;cases s with
    |va a=>cases a<;>simp [opInt] at e<;>(simp only [relO,SV.rel,SA.den] at o; subst o; exact ⟨_,_,rfl,rfl,e.symm⟩)
    |agg l=>simp [opInt] at e
    |tup l=>simp [opInt] at e
    |junk=>simp [opInt] at e
 have x:(m = none ∧ f = none ∧ n = none) ∨ ∃ k z,m = some (.va (.int k z)) ∧ f = some (.int k z) ∧ n = some z:=by
  cases m with
  |none=>cases f with
   |none=>left; simp [opInt] at b; simp [b]
   |some v=>exact u.elim
  |some s=>cases f with
   |none=>cases s<;>exact u.elim
   |some v=>
    right;cases s with
    |va a=>cases a<;>simp [opInt] at b<;>(simp only [relO,SV.rel,SA.den] at u; subst u; exact ⟨_,_,rfl,rfl,b.symm⟩)
    |agg l=>simp [opInt] at b
    |tup l=>simp [opInt] at b
    |junk=>simp [opInt] at b
 rcases A with ⟨-,rfl,rfl⟩ | ⟨G,q,-,rfl,rfl⟩<;>rcases x with ⟨-,rfl,rfl⟩ | ⟨E,B,-,rfl,rfl⟩<;>simp only [bnds] at d
 ·exact ⟨0,c,d,by omega,.inr ⟨rfl,rfl⟩,by simp [Instr.sliceBounds]⟩
 ·obtain ⟨j,d⟩:=d;exact ⟨0,B.toNat,d,by omega,.inl (by omega),by simp [Instr.sliceBounds,Instr.sliceBound,asIntOf,j]⟩
 ·obtain ⟨j,d⟩:=d;exact ⟨q.toNat,c,d,by omega,.inr ⟨rfl,rfl⟩,by simp [Instr.sliceBounds,Instr.sliceBound,asIntOf,j]⟩
 ·obtain ⟨j,y,d⟩:=d;refine ⟨q.toNat,B.toNat,d,by omega,.inl (by omega),?_⟩;have D:0 ≤ q ∧ q ≤ (B.toNat:Int):=⟨y.1,by omega⟩
  simp only [Instr.sliceBounds,Instr.sliceBound,asIntOf,Sem.run_bind,Sem.run_pure,Result.andThen_ok,if_pos j,if_pos D]
def zhe (Θ:Tys) (t:TypeId) (x:SV) (c b mx:Option SV) (h:Hp) (nx:Nat) (K:Kt):Prop:=
 match mx with
 |some _=>False
 |none=>match opInt c,opInt b with
  |some l',some h'=>match Θ t,x with
   |some ⟨.string,_,_,_⟩,.va (.str s)=>bnds s.length s.length l' h' fun l m=>K (.va (.str ((s.take m).drop l))) h nx
   |some ⟨.slice elem,_,_,_⟩,.va (.slice nil i k e sz len cap)=>match Θ elem with
    |some j=>match Nat.beq sz j.size with
     |true=>bnds len cap l' h' fun l m=>K (.va (.slice nil i k (if cap = l then e else e + l) sz (m - l) (cap - l))) h nx
     |false=>match Nat.beq sz 1 with      -- its base is counted in cells
      |true=>bnds len cap l' h' fun l m=>K (.va (.slice nil i k (if cap = l then e else e + l * j.size) sz (m - l) (cap - l))) h nx
      |false=>match nil with      -- a nil slice bears no size
       |true=>bnds len cap l' h' fun l m=>K (.va (.slice nil i k e sz (m - l) (cap - l))) h nx
       |false=>False
    |none=>False
   |some ⟨.slice elem,_,_,_⟩,.va .nilsl=>(match Θ elem with
    |some _=>bnds 0 0 l' h' fun _ _=>K (.va .nilsl) h nx
    |none=>False)
   |some ⟨.pointer arr,_,_,_⟩,.va (.ptr p)=>(match Θ arr with
    |some ⟨.array n elem,_,_,_⟩=>(match Θ elem with
     |some j=>bnds n n l' h' fun l m=>K (.va (.slice false p.i p.k (if n = l then p.e * p.sz + p.o else p.e * p.sz + p.o + l * j.size) 1 (m - l) (n - l))) h nx
     |none=>False)
    |_=>False)
   |some ⟨.array n elem,_,_,_⟩,.va (.ptr p)=>(match Θ elem with
    |some j=>bnds n n l' h' fun l m=>K (.va (.slice false p.i p.k (if n = l then p.e * p.sz + p.o else p.e * p.sz + p.o + l * j.size) 1 (m - l) (n - l))) h nx
    |none=>False)
   |_,_=>False
  |_,_=>False
theorem zsu (s:List UInt8) (l m:Nat):(⟨s.toArray⟩:ByteArray).extract l m = ⟨((s.take m).drop l).toArray⟩:=by
 apply ByteArray.ext;simp [ByteArray.data_extract,List.drop_take]
theorem zmk (hΘ:Θ.Ok P) {t:TypeId} {x:SV} {v:Value} {V W mx:Option SV} {U T O:Option Value} (f:zhe Θ t x V W mx h nx K) (u:Sat C ρ h nx w) (G:x.rel ρ v)
  (L:relO ρ V U) (M:relO ρ W T) (Z:relO ρ mx O) (Q:x.below nx):YldS P (Instr.sliceAt t v U T O) ρ h nx w K:=by
 unfold zhe at f;split at f
 ·exact f.elim
 ·have R:O = none:=by cases O with
   |none=>rfl
   |some v=>exact Z.elim
  subst R;split at f
  ·rename_i l' h' y A;split at f
   ·rename_i a b c s g;simp only [SV.rel,SA.den] at G; subst G;obtain ⟨l,m,B,D,o,d⟩:=zho (P:=P) (isS:=false) y A L M f w;refine YldS.mk u (.string ⟨((s.take m).drop l).toArray⟩) (.va (.str ((s.take m).drop l))) ?_ rfl trivial B;have q:(⟨s.toArray⟩:ByteArray).size = s.length:=by simp [ByteArray.size]
    simp [Instr.sliceAt,zau hΘ g,Instr.slice,q,d,zsu]
   ·rename_i E a b c nil i k e sz X cap g;simp only [SV.rel,SA.den] at G; subst G;split at f
    ·rename_i j I;split at f
     ·rename_i q;have q:=qk q;obtain ⟨l,m,B,D,o,d⟩:=zho (P:=P) (isS:=true) y A L M f w;refine YldS.mk u (.slice (if cap = l then (if nil = true then none else some ⟨ρ i k,e * sz,none⟩) else (if nil = true then none else some (⟨ρ i k,e * sz,none⟩:Addr)).map (·.add (l * j.size))) (m - l) (cap - l)) _ ?_ ?_ ?_ B
      ·simp [Instr.sliceAt,zau hΘ g,Instr.slice,d,zdr hΘ I]
      ·simp only [SV.rel,SA.den];cases nil<;>by_cases J:cap = l<;>simp [J,addr_add,q,qbm]
      ·exact Q
     ·split at f
      ·rename_i q;have q:=qk q;subst q;obtain ⟨l,m,B,D,o,d⟩:=zho (P:=P) (isS:=true) y A L M f w;refine YldS.mk u (.slice (if cap = l then (if nil = true then none else some ⟨ρ i k,e * 1,none⟩) else (if nil = true then none else some (⟨ρ i k,e * 1,none⟩:Addr)).map (·.add (l * j.size))) (m - l) (cap - l)) _ ?_ ?_ ?_ B
       ·simp [Instr.sliceAt,zau hΘ g,Instr.slice,d,zdr hΘ I]
       ·simp only [SV.rel,SA.den];cases nil<;>by_cases J:cap = l<;>simp [J,addr_add]
       ·exact Q
      ·split at f
       ·obtain ⟨l,m,B,D,o,d⟩:=zho (P:=P) (isS:=true) y A L M f w;refine YldS.mk u (.slice none (m - l) (cap - l)) (.va (.slice true i k e sz (m - l) (cap - l))) ?_ (by simp [SV.rel,SA.den]) (.inl rfl) B;simp [Instr.sliceAt,zau hΘ g,Instr.slice,d,zdr hΘ I]
       ·exact f.elim
    ·exact f.elim
   ·rename_i E a b c g;simp only [SV.rel,SA.den] at G; subst G;split at f
    ·rename_i j I;obtain ⟨l,m,B,D,o,d⟩:=zho (P:=P) (isS:=true) y A L M f w;have hm:m = 0:=by omega
     have S:l = 0:=by omega
     subst hm; subst S;refine YldS.mk u (.slice none 0 0) (.va .nilsl) ?_ rfl trivial B;simp [Instr.sliceAt,zau hΘ g,Instr.slice,d,zdr hΘ I]
    ·exact f.elim
   ·rename_i Y a b c p g;simp only [SV.rel,SA.den] at G; subst G;split at f
    ·rename_i n E a2 b2 c2 ha;split at f
     ·rename_i j I;obtain ⟨l,m,B,D,o,d⟩:=zho (P:=P) (isS:=false) y A L M f w;refine YldS.mk u (.slice (some (if n = l then p.addr ρ else (p.addr ρ).add (l * j.size))) (m - l) (n - l)) _ ?_ ?_ ?_ B
      ·simp [Instr.sliceAt,zau hΘ g,zau hΘ ha,Instr.slice,asAddr,d,zdr hΘ I]
      ·simp only [SV.rel,SA.den,Pl.addr];by_cases J:n = l<;>simp [J,addr_add]
      ·exact .inr Q
     ·exact f.elim
    ·exact f.elim
   ·rename_i n E a b c p g;simp only [SV.rel,SA.den] at G; subst G;split at f
    ·rename_i j I;obtain ⟨l,m,B,D,o,d⟩:=zho (P:=P) (isS:=false) y A L M f w;refine YldS.mk u (.slice (some (if n = l then p.addr ρ else (p.addr ρ).add (l * j.size))) (m - l) (n - l)) _ ?_ ?_ ?_ B
     ·simp [Instr.sliceAt,zau hΘ g,Instr.sureAddr,d,zdr hΘ I]
     ·simp only [SV.rel,SA.den,Pl.addr];by_cases J:n = l<;>simp [J,addr_add]
     ·exact .inr Q
    ·exact f.elim
   ·exact f.elim
  ·exact f.elim
end
section
variable {P:Program} {Θ:Tys} {C:Ctx} {ρ:Rho} {h:Hp} {nx:Nat} {w:World} {K:Kt}
def places (Θ:Tys):List Field → Option (List (Nat × Nat))
 |[]=>some []
 |f :: r=>match Θ f.type with
  |some j=>match places Θ r with
   |some l=>some ((f.offset,j.size) :: l)
   |none=>none
  |none=>none
def sfill (b:Nat → Option (Nat × Nat)) (a:List SA):List (Nat × SV) → Option (List SA)
 |[]=>some a
 |(i,v) :: r=>match b i,cellsOf v with
  |some (off,size),some vs=>match Nat.beq vs.length size with
   |true=>match setAt a off vs with
    |some c=>sfill b c r
    |none=>none
   |false=>none
  |_,_=>none
theorem foldl_set (a:Nat):∀ (vs:List Value) (j:Nat) (b:List Value),a + j + vs.length ≤ b.length →
  (vs.zipIdx j).foldl (fun (c:Array Value) (x:Value × Nat)=>c.setIfInBounds (a + x.2) x.1) b.toArray = (b.take (a + j) ++ vs ++ b.drop (a + j + vs.length)).toArray
 |[],j,b,_=>by simp
 |v :: r,j,b,hl=>by
  simp only [List.zipIdx_cons,y5];have:=foldl_set a r (j + 1) (b.set (a + j) v) (by simp at hl ⊢; omega);simp only [List.setIfInBounds_toArray];rw [this]
  congr 1
  have e:=list_seg_step b (a + j) v r (by simp at hl ⊢; omega);simpa [qbe] using e
theorem zob {B:Nat → Option (Nat × Nat)}:∀ (parts:List (Nat × SV)) (f:List (Nat × Value)) (b out:List SA),sfill B b parts = some out →
  f.length = parts.length → (∀ (j:Nat) (p:Nat × SV) (q:Nat × Value),parts[j]? = some p → f[j]? = some q → p.1 = q.1 ∧ p.2.rel ρ q.2) →
  Instr.fill B (b.map (SA.den ρ)).toArray f = some (out.map (SA.den ρ)).toArray ∧
   (∀ n,(∀ a ∈ b,a.below n) → (∀ p ∈ parts,p.2.below n) → ∀ a ∈ out,a.below n) ∧ out.length = b.length
 |[],f,b,out,hs,hl,_=>by
  simp [sfill] at hs; subst hs;have:f = []:=by simpa using hl
  subst this;exact ⟨rfl,fun n y _=>y,rfl⟩
 |(i,s) :: r,[],b,out,_,hl,_=>by simp at hl
 |(i,s) :: r,(i',v) :: vr,b,out,hs,hl,hrel=>by
  simp only [sfill] at hs;split at hs
  ·rename_i e I vs m u;split at hs
   ·rename_i d;have d:=qk d;split at hs
    ·rename_i c y;obtain ⟨h1,E⟩:=hrel 0 (i,s) (i',v) (by simp) (by simp);simp only at h1 E; subst h1;obtain ⟨S,old,G,o,A,U,V⟩:=zfj _ _ _ _ y;obtain ⟨J,W,O⟩:=zob r vr c out hs (by simpa using hl) (fun j p q m M=>hrel (j + 1) p q (by simpa using m) (by simpa using M));have g:=zhp u E;refine ⟨?_,fun n D k a ha=>W n ?_ (fun p m=>k p (by simp [m])) a ha,?_⟩
     ·simp only [Instr.fill,m,g];have l:¬ (e + vs.length > b.length):=by rw [o]; simp; omega
      simp only [qaa,qa,d,ne_eq,not_true_eq_false,decide_false,qbd];rw [d] at l;simp only [l,decide_false,ju,if_false];have L:=foldl_set e (vs.map (SA.den ρ)) 0 (b.map (SA.den ρ)) (by simp; omega)
      have T:((vs.map (SA.den ρ)).toArray.zipIdx).foldl (fun (c:Array Value) (x:Value × Nat)=>c.setIfInBounds (e + x.2) x.1) (b.map (SA.den ρ)).toArray = (c.map (SA.den ρ)).toArray:=by
       rw [← Array.foldl_toList];simp only [Array.toList_zipIdx];rw [L,o,A];simp [← U,← V,List.drop_append]
      have Q:(fun (R:Array Value) (x:Value × Nat)=>match x with | (c,j)=>R.setIfInBounds (e + j) c) = (fun (c:Array Value) (x:Value × Nat)=>c.setIfInBounds (e + x.2) x.1):=rfl;rw [Q,T];exact J
     ·intro a ha;rw [A] at ha; simp at ha;rcases ha with ha | ha | ha
      ·exact D a (by rw [o]; simp [ha])
      ·exact zfz u (k (i,s) (by simp)) a ha
      ·exact D a (by rw [o]; simp [ha])
     ·rw [O,o,A]; simp; omega
    ·cases hs
   ·cases hs
  ·cases hs
theorem zqf (hΘ:Θ.Ok P):∀ (a:List Field) (l:List (Nat × Nat)),places Θ a = some l → ∀ w,(a.mapM fun f=>do pure (f.offset,← Go.sizeOf f.type):Sem (List (Nat × Nat))).run P w = .ok l w
 |[],l,hs,w=>by simp [places] at hs; subst hs; rfl
 |f :: r,l,hs,w=>by
  simp only [places] at hs;split at hs
  ·rename_i j c;split at hs
   ·rename_i d b;cases hs
    have ih:=zqf hΘ r d b w;simp only [List.mapM_cons,Sem.run_bind,zdr hΘ c,Result.andThen_ok,Sem.run_pure,ih]
   ·cases hs
  ·cases hs
def zr3 (Θ:Tys) (t:TypeId) (parts:List (Nat × SV)) (h:Hp) (nx:Nat) (K:Kt):Prop:=
 match Θ t with
 |some ⟨.struct fields,_,_,zero⟩=>match places Θ fields.toList with
  |some pl=>match sfill (nth pl) zero parts with
   |some cs=>K (.agg cs) h nx
   |none=>False
  |none=>False
 |some ⟨.array _ elem,_,_,zero⟩=>match Θ elem with
  |some j=>match sfill (fun i=>some (i * j.size,j.size)) zero parts with
   |some cs=>K (.agg cs) h nx
   |none=>False
  |none=>False
 |_=>False
theorem zv3 (hΘ:Θ.Ok P) {t:TypeId} {parts:List (Nat × SV)} {g:Array (Nat × Value)} (d:zr3 Θ t parts h nx K) (s:Sat C ρ h nx w) (E:g.size = parts.length)
  (G:∀ (j:Nat) (p:Nat × SV) (q:Nat × Value),parts[j]? = some p → g[j]? = some q → p.1 = q.1 ∧ p.2.rel ρ q.2) (I:∀ p ∈ parts,p.2.below nx):YldS P (Instr.build t g) ρ h nx w K:=by
 unfold zr3 at d;split at d
 ·rename_i c a b zero m;split at d
  ·rename_i x u;split at d
   ·rename_i l k;obtain ⟨f1,f2,_⟩:=zob (ρ:=ρ) parts g.toList zero l k (by simpa using E) (fun j p q B y=>G j p q B (by simpa using y));refine YldS.mk s (.agg (l.map (SA.den ρ)).toArray) (.agg l) ?_ rfl (f2 nx (fun a D=>SA.below_mono (yj _) ((hΘ t _ m).bel a D)) I) d
    have J:(c.mapM fun f=>do pure (f.offset,← Go.sizeOf f.type):Sem (Array (Nat × Nat))).run P w = .ok x.toArray w:=by
     rw [qcw,Sem.run_map,zqf hΘ _ _ u w];rfl
    have A:(zval ρ ⟨.struct c,a,b,zero⟩).cells = (zero.map (SA.den ρ)).toArray:=rfl;have e:(fun i=>x.toArray[i]?) = nth x:=by funext i; rw [zic]; simp
    simp only [Instr.build,Sem.run_bind,zgu hΘ m w ρ,Result.andThen_ok,zau hΘ m,J,A,e,f1];rfl
   ·exact d.elim
  ·exact d.elim
 ·rename_i n o a b zero m;split at d
  ·rename_i j L;split at d
   ·rename_i l k;obtain ⟨f1,f2,_⟩:=zob (ρ:=ρ) parts g.toList zero l k (by simpa using E) (fun j p q B y=>G j p q B (by simpa using y));refine YldS.mk s (.agg (l.map (SA.den ρ)).toArray) (.agg l) ?_ rfl (f2 nx (fun a D=>SA.below_mono (yj _) ((hΘ t _ m).bel a D)) I) d;have A:(zval ρ ⟨.array n o,a,b,zero⟩).cells = (zero.map (SA.den ρ)).toArray:=rfl;simp only [Instr.build,Sem.run_bind,zgu hΘ m w ρ,Result.andThen_ok,zau hΘ m,zdr hΘ L,A,f1];rfl
   ·exact d.elim
  ·exact d.elim
 ·exact d.elim
end
section
variable {P:Program} {Θ:Tys} {C:Ctx} {ρ:Rho} {h:Hp} {nx:Nat} {w:World} {K:Kt}
def chunk {α:Type} (sz:Nat):Nat → List α → List (List α)
 |0,_=>[]
 |n + 1,l=>l.take sz :: chunk sz n (l.drop sz)
theorem ziq {α:Type} (sz:Nat):∀ (n:Nat) (l:List α),l.length = n * sz → (chunk sz n l).flatten = l
 |0,l,h=>by simp at h; simp [chunk,h]
 |n + 1,l,h=>by
  simp only [chunk,jx];rw [ziq sz n (l.drop sz) (by simp [h,qb6])];exact y4 sz l
theorem zk2 {α:Type} (sz:Nat):∀ (n:Nat) (l:List α),(chunk sz n l).length = n
 |0,l=>rfl
 |n + 1,l=>by simp [chunk,zk2 sz n]
theorem zta {α:Type} (sz:Nat):∀ (n:Nat) (l:List α),l.length = n * sz → ∀ x ∈ chunk sz n l,x.length = sz
 |0,l,h,x,hx=>by simp [chunk] at hx
 |n + 1,l,h,x,hx=>by
  simp only [chunk,qj] at hx;rcases hx with rfl | hx
  ·simp [h,qb6]
  ·exact zta sz n (l.drop sz) (by simp [h,qb6]) x hx
theorem zpc {α:Type} (sz:Nat):∀ (n:Nat) (l:List α),∀ x ∈ chunk sz n l,∀ a ∈ x,a ∈ l
 |0,l,x,hx=>by simp [chunk] at hx
 |n + 1,l,x,hx=>by
  simp only [chunk,qj] at hx;rcases hx with rfl | hx
  ·intro a b; exact yf b
  ·intro a b; exact qam (zpc sz n (l.drop sz) x hx a b)
theorem zjj (a:List Value):∀ n,((Array.range (n * a.length)).map (a.toArray[· % a.length]!)) = ((List.replicate n a).flatten).toArray:=by
 intro n;apply Array.ext';simp only [Array.toList_map,Array.toList_range]
 induction n with
 |zero=>simp
 |succ n ih=>
  rw [qb6,qcn,List.range_add,jj,qbv,jx];simp only [q9]
  congr 1
  ·apply qb8;intro i;by_cases b:i < a.length
   ·simp [b,jz b]
   ·simp [b]
  ·rw [← ih];apply q8;intro i _;simp [Nat.add_mod_left]
def zgf (Θ:Tys) (t:TypeId) (a:Nat) (parts:List (Nat × SV)) (h:Hp) (nx:Nat) (K:Kt):Prop:=
 match Θ t with
 |some ⟨.slice elem,_,_,_⟩=>match Θ elem with
  |some j=>match j.size with
   |0=>False
   |_ + 1=>match Nat.ble (a * j.size) 16777216 with
    |true=>match sfill (fun i=>some (i * j.size,j.size)) (List.replicate a j.zero).flatten parts with
     |some cs=>K (.va (.slice false nx 0 0 j.size a a)) (lput h nx (.one (.arr elem j.size (chunk j.size a cs) a))) (nx + 1)
     |none=>False
    |false=>False
  |none=>False
 |_=>False
theorem zks (hΘ:Θ.Ok P) {t:TypeId} {c:Nat} {parts:List (Nat × SV)} {f:Array (Nat × Value)} (d:zgf Θ t c parts h nx K) (E:Sat C ρ h nx w) (Q:f.size = parts.length)
  (U:∀ (j:Nat) (p:Nat × SV) (q:Nat × Value),parts[j]? = some p → f[j]? = some q → p.1 = q.1 ∧ p.2.rel ρ q.2) (V:∀ p ∈ parts,p.2.below nx):Yld P (Instr.buildSlice t c f) C ρ nx w K:=by
 unfold zgf at d;split at d
 ·rename_i e a b X y;split at d
  ·rename_i j A;split at d
   ·exact d.elim
   ·rename_i W R;split at d
    ·rename_i s;have s:=nb s;split at d
     ·rename_i o D;have l:=hΘ e j A;have m:=l.len;obtain ⟨f1,f2,f3⟩:=zob (ρ:=ρ) parts f.toList _ o D (by simpa using Q) (fun j p q S O=>U j p q S (by simpa using O))
      have g:o.length = c * j.size:=by
       rw [f3]; simp [qbt,m]
      have L:∀ a ∈ o,a.below nx:=f2 nx (fun a M=>by
       obtain ⟨x,B,u⟩:=qa6.1 M;rw [(qb3.1 B).2] at u;exact SA.below_mono (yj _) (l.bel a u)) V
      have I:=zfm l ρ
      have k:((Array.range (c * j.size)).map ((zval ρ j).cells[· % (zval ρ j).cells.size]!)) = ((List.replicate c j.zero).flatten.map (SA.den ρ)).toArray:=by
       have:=zjj (j.zero.map (SA.den ρ)) c;simp only [qa,m] at this;rw [I];simp only [qaa,qa,m];rw [this]; congr 1; simp [qbo]
      have n:(Instr.buildSlice t c f).run P w = .ok (.slice (some ⟨w.heap.size,0,none⟩) c c) (w.alloc (.cells (o.map (SA.den ρ)).toArray e (0,0))):=by
       have h1:¬ (c * j.size > 2 ^ 24):=by omega
       by_cases G:c * j.size = 0
       ·have J:c = 0:=by rcases Nat.mul_eq_zero.1 G with h' | h'<;>omega
        subst J;have T:((Array.range (0 * j.size)).map (fun x=>((#[]:Array Value))[x % (#[]:Array Value).size]!)) = ((List.replicate 0 j.zero).flatten.map (SA.den ρ)).toArray:=by simp
        simp only [Instr.buildSlice,Sem.run_bind,zau hΘ y,Result.andThen_ok,zdr hΘ A,if_neg h1,if_pos G,Sem.run_pure];simp only [T,f1,newRow,Sem.run_bind,Sem.run_pure,run_newObj,Result.andThen_ok];rfl
       ·simp only [Instr.buildSlice,Sem.run_bind,zau hΘ y,Result.andThen_ok,zdr hΘ A,if_neg h1,if_neg G,Sem.run_pure,zgu hΘ A w ρ,k,f1,newRow,run_newObj];rfl
      refine ⟨_,_,_,_,_,rext ρ nx w.heap.size,n,?_,?_,d,E.new (.arr e j.size (chunk j.size c o) c) _ (fun x B a M=>L a (zpc _ _ _ x B a M)) ?_,fun i y=>zd4 y,qac _⟩
      ·simp [SV.rel,SA.den,zbm]
      ·simp [SV.below,SA.below]
      ·refine ⟨zta _ _ _ g,by rw [zk2]; exact qm _,[],by simp [zk2],(0,0),NoFr.zero _,?_⟩;rw [ziq _ _ _ g]; simp
     ·exact d.elim
    ·exact d.elim
  ·exact d.elim
 ·exact d.elim
def rdEls (h:Hp) (i k e sz n:Nat) (K:List (List SA) → Prop):Prop:=
 match lget h i with
 |some (.one (.arr _ sz' L _))=>(match k with
  |0=>match Nat.beq sz sz' with
   |true=>e + n ≤ L.length ∧ ∃ X,(L.drop e).take n = X ∧ K X
   |false=>False
  |_ + 1=>False)
 |some (.opt c (.arr _ sz' L _))=>c = true ∧ (match k with
  |0=>match Nat.beq sz sz' with
   |true=>e + n ≤ L.length ∧ ∃ X,(L.drop e).take n = X ∧ K X
   |false=>False
  |_ + 1=>False)
 |some (.frz F)=>∃ t L r,F k = some (.arr t sz L r) ∧ e + n ≤ L.length ∧ ∃ X,(L.drop e).take n = X ∧ K X
 |some (.lnk b)=>(match lget h 0 with
  |some (.frz F)=>∃ t L r,F (b k) = some (.arr t sz L r) ∧ e + n ≤ L.length ∧ ∃ X,(L.drop e).take n = X ∧ K X
  |_=>False)
 |some (.fam m c f)=>(k < m ∧ c k = true) ∧ (match f k with
  |.arr _ sz' L _=>match Nat.beq sz sz' with
   |true=>e + n ≤ L.length ∧ ∃ X,(L.drop e).take n = X ∧ K X
   |false=>False
  |_=>False)
 |_=>False
theorem zcd {α:Type} {sz:Nat}:∀ (L:List (List α)),(∀ y ∈ L,y.length = sz) → L.flatten.length = L.length * sz
 |[],_=>by simp
 |y :: L,h=>by
  have:=zcd L (fun z a=>h z (by simp [a]));simp [this,h y (by simp),qb6,qcn]
theorem zkz {i k e sz n:Nat} {K:List (List SA) → Prop} (d:rdEls h i k e sz n K) (s:Sat C ρ h nx w) :
  ∃ X,K X ∧ X.length = n ∧ (∀ x ∈ X,x.length = sz) ∧ (∀ x ∈ X,∀ a ∈ x,a.below nx) ∧ ∃ t p q,RowAt w (ρ i k) t (p ++ X.flatten.map (SA.den ρ) ++ q) ∧ p.length = e * sz:=by
 have A:∀ i k D t j L g,lget h i = some D → D.has k → D.at k = .arr t j L g → Nat.beq sz j = true → e + n ≤ L.length → (∃ X,(L.drop e).take n = X ∧ K X) →
   ∃ X,K X ∧ X.length = n ∧ (∀ x ∈ X,x.length = sz) ∧ (∀ x ∈ X,∀ a ∈ x,a.below nx) ∧ ∃ t p q,RowAt w (ρ i k) t (p ++ X.flatten.map (SA.den ρ) ++ q) ∧ p.length = e * sz:=by
  intro i k D t j L g l U Q B aa R;obtain ⟨X,rfl,R⟩:=R;have B:=qk B;subst B;obtain ⟨o,ho,I⟩:=s.blk _ D l _ U;have J:=s.wf _ D l _ U;rw [Q] at I J;obtain ⟨W,g2,G,g3,V⟩:=I;refine ⟨_,R,by simp; omega,fun x O=>W x (qam (yf O)),fun x O=>J x (qam (yf O)),t,(L.take e).flatten.map (SA.den ρ),((L.drop e).drop n).flatten.map (SA.den ρ) ++ G,⟨o,ho,?_⟩,?_⟩
  ·have e1:L.flatten = (L.take e).flatten ++ (((L.drop e).take n).flatten ++ ((L.drop e).drop n).flatten):=by
    rw [← yl,← yl,y4,y4]
   rw [e1] at V;simpa [ql] using V
  ·rw [qa,zcd (L.take e) (fun y Z=>W y (yf Z))];rw [qq,qap (by omega)]
 have u:=A i k;unfold rdEls at d;split at d
 ·rename_i t j L g l;split at d
  ·split at d
   ·rename_i M; exact u _ _ _ _ _ l rfl rfl M d.1 d.2
   ·exact d.elim
  ·exact d.elim
 ·rename_i c t j L g l;obtain ⟨Y,d⟩:=d;split at d
  ·split at d
   ·rename_i M; exact u _ _ _ _ _ l ⟨Y,rfl⟩ rfl M d.1 d.2
   ·exact d.elim
  ·exact d.elim
 ·rename_i F l;obtain ⟨t,L,r,E,h1,S⟩:=d;exact u _ t sz L r l (by simp [Ent.has,E]) (by simp [Ent.at,E]) (by simp) h1 S
 ·rename_i b l;split at d
  ·rename_i F T;obtain ⟨t,L,r,E,h1,S⟩:=d;rw [s.lnk _ _ l k,← s.id0 (b k)];exact A 0 (b k) _ t sz L r T (by simp [Ent.has,E]) (by simp [Ent.at,E]) (by simp) h1 S
  ·exact d.elim
 ·rename_i m c f l;obtain ⟨hm,d⟩:=d;split at d
  ·rename_i t j L g hf;split at d
   ·rename_i M; exact u _ _ _ _ _ l hm hf M d.1 d.2
   ·exact d.elim
  ·exact d.elim
 ·exact d.elim
theorem zd1 (s:List UInt8):(s.map fun b=>[SA.int .u8 b.toNat]).flatten = s.map fun b=>SA.int .u8 b.toNat:=by
 induction s with
 |nil=>rfl
 |cons b r ih=>simpa using ih
def src (Θ:Tys) (t:TypeId) (x:SV) (sz:Nat) (h:Hp) (K:List (List SA) → Prop):Prop:=
 match Θ t,x with
 |some ⟨.slice _,_,_,_⟩,.va (.slice nil i k e sz' len _)=>match nil with
  |true=>len = 0 ∧ K []
  |false=>match Nat.beq sz' sz with
   |true=>rdEls h i k e sz len K
   |false=>match Nat.beq sz' 1 with
    |true=>∃ X:List (List SA),X.length = len ∧ (∀ x ∈ X,x.length = sz) ∧ (len = 0 ∨ rd h ⟨i,k,e,1,0⟩ (len * sz) fun a=>a = X.flatten) ∧ K X
    |false=>False
 |some ⟨.slice _,_,_,_⟩,.va .nilsl=>K []
 |some ⟨.string,_,_,_⟩,.va (.str s)=>match Nat.beq sz 1 with
  |true=>K (s.map fun b=>[SA.int .u8 b.toNat])
  |false=>False
 |_,_=>False
theorem zz5 (hΘ:Θ.Ok P) {t:TypeId} {x:SV} {v:Value} {sz:Nat} {K:List (List SA) → Prop} (l:src Θ t x sz h K) (s:Sat C ρ h nx w) (m:x.rel ρ v) :
  ∃ X,K X ∧ (∀ x ∈ X,x.length = sz) ∧ (∀ x ∈ X,∀ a ∈ x,a.below nx) ∧ (∀ d,(Builtin.lenOf v).run P d = .ok X.length d) ∧
   (∀ d,d.heap = w.heap → (Builtin.firstCells sz X.length v).run P d = .ok (X.flatten.map (SA.den ρ)).toArray d) ∧
   ((∃ e,P.underlying t = some (.slice e)) ∨ P.underlying t = some .string):=by
 unfold src at l;split at l
 ·rename_i Z a b c nil i k e R U cap I;have q:((∃ e,P.underlying t = some (.slice e)) ∨ P.underlying t = some .string):=.inl ⟨_,(hΘ t _ I).und⟩;split at l
  ·obtain ⟨T,J⟩:=l;subst T;simp only [SV.rel,SA.den,if_true] at m; subst m;exact ⟨[],J,by simp,by simp,fun d=>rfl,fun d _=>rfl,q⟩
  ·split at l
   ·rename_i n;have n:=qk n;subst n;simp only [SV.rel,SA.den,ju,if_false] at m; subst m;obtain ⟨X,J,M,h1,Y,t',D,y,p,B⟩:=zkz l s;refine ⟨X,J,h1,Y,fun d=>by rw [M]; rfl,fun d A=>?_,q⟩
    have g:RowAt d (ρ i k) t' (D ++ X.flatten.map (SA.den ρ) ++ y):=by
     obtain ⟨o,O,Q⟩:=p; exact ⟨o,by rw [A]; exact O,Q⟩
    have G:=zcd X h1
    have f:(loadCells ⟨ρ i k,e * R,none⟩ (X.flatten.map (SA.den ρ)).length).run P d = .ok (X.flatten.map (SA.den ρ)).toArray d:=
     run_loadCells_list (P:=P) d _ _ (fun j u q=>by
      rw [addr_add,g.cell,← B];have S:j < (X.flatten.map (SA.den ρ)).length:=(qi.1 q).1;rw [ql,jy (by omega),qal,jw S]; exact q)
    rw [qa,G] at f;exact f
   ·split at l
    ·rename_i n;have n:=qk n;subst n;simp only [SV.rel,SA.den,ju,if_false] at m; subst m;obtain ⟨X,M,h1,hrd,J⟩:=l;have G:=zcd X h1
     have E:(∀ x ∈ X,∀ a ∈ x,a.below nx) ∧ ∀ d,d.heap = w.heap → (loadCells ⟨ρ i k,e * 1,none⟩ (X.flatten.map (SA.den ρ)).length).run P d = .ok (X.flatten.map (SA.den ρ)).toArray d:=by
      rcases hrd with T | hrd
      ·have hX:X = []:=jv (by omega);subst hX;exact ⟨by simp,fun d _=>run_loadCells_list (P:=P) d _ _ (fun j u q=>by simp at q)⟩
      ·obtain ⟨xs,L,g1,W,t',D,y,p,B⟩:=zn0 hrd s;subst L;refine ⟨fun x m a ha=>W a (qa6.2 ⟨x,m,ha⟩),fun d A=>?_⟩
       have g:zq8 d (ρ i k) t' (D ++ X.flatten.map (SA.den ρ) ++ y):=by
        obtain ⟨o,O,Q⟩:=p; exact ⟨o,by rw [A]; exact O,Q⟩
       exact run_loadCells_list (P:=P) d _ _ (fun j u q=>by
        rw [addr_add,g.cell];have hp:D.length = e * 1:=by simpa using B
        rw [← hp];have S:j < (X.flatten.map (SA.den ρ)).length:=(qi.1 q).1;rw [ql,jy (by omega),qal,jw S]; exact q)
     refine ⟨X,J,h1,E.1,fun d=>by rw [M]; rfl,fun d A=>?_,q⟩;have f:=E.2 d A;rw [qa,G] at f;exact f
    ·exact l.elim
 ·rename_i Z a b c I;simp only [SV.rel,SA.den] at m; subst m;exact ⟨[],l,by simp,by simp,fun d=>rfl,fun d _=>rfl,.inl ⟨_,(hΘ t _ I).und⟩⟩
 ·rename_i a b c V I;split at l
  ·rename_i n;have n:=qk n;subst n;simp only [SV.rel,SA.den] at m; subst m;refine ⟨_,l,by simp,by simp [SA.below],fun d=>by simp [Builtin.lenOf,ByteArray.size],fun d _=>?_,.inr (hΘ t _ I).und⟩;simp only [Builtin.firstCells,Sem.run_pure]
   congr 1
   rw [zd1 V];apply Array.ext';simp [ByteArray.data_extract,SA.den]
  ·exact l.elim
 ·exact l.elim
end
end Sx
