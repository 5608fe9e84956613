import Derived.WalkKit
import Derived.Laws.CopyOwn
set_option maxHeartbeats 64000000
namespace Sx
open Go
abbrev nb:=@Nat.le_of_ble_eq_true
abbrev od:=@of_decide_eq_true
abbrev oe:=@of_decide_eq_false
abbrev qa:=@List.length_append
abbrev qb:=@List.length_map
abbrev qc:=@List.getElem?_eq_getElem
abbrev qd:=@Bool.and_eq_true
abbrev qe:=@List.length_cons
abbrev qf:=@Nat.le_refl
abbrev qg:=@Nat.eq_of_beq_eq_true
abbrev qh:=@List.getElem?_eq_some_iff
abbrev qi:=@List.take_succ_eq_append_getElem
abbrev qj:=@List.mem_cons
abbrev qk:=@List.append_assoc
abbrev ql:=@Int.toNat_natCast
abbrev qm:=@List.take_of_length_le
abbrev qn:=@List.length_take
abbrev qo:=@List.all_eq_true
abbrev qp:=@List.length_nil
abbrev qq:=@List.not_mem_nil
abbrev qs:=@List.getElem?_map
abbrev qt:=@Bool.false_and
abbrev qu:=@List.nil_append
abbrev qv:=@List.drop_eq_getElem_cons
abbrev qw:=@Option.isSome_iff_exists
abbrev qx:=@List.map_cons
abbrev qy:=@List.mem_singleton
abbrev qz:=@Array.getElem?_eq_some_iff
abbrev q5:=@List.map_append
abbrev q8:=@Int.tdiv_eq_ediv_of_nonneg
abbrev q9:=@List.mem_map
abbrev ji:=@Nat.zero_add
abbrev jj:=@List.getElem_mem
abbrev jk:=@Nat.le_trans
abbrev jm:=@Bool.false_eq_true
abbrev jo:=@Nat.mod_eq_of_lt
abbrev jp:=@Bool.and_false
abbrev jq:=@List.drop_of_length_le
abbrev js:=@List.getElem?_append_left
abbrev jt:=@List.cons_append
abbrev ju:=@Option.getD_some
abbrev jv:=@List.mem_of_mem_take
abbrev jw:=@List.append_nil
abbrev jx:=@List.map_congr_left
abbrev jy:=@List.flatten_cons
abbrev jz:=@List.getElem?_append_right
abbrev yd:=@List.map_map
abbrev yf:=@List.length_singleton
abbrev yg:=@Nat.lt_of_le_of_lt
abbrev yh:=@List.flatten_append
abbrev yi:=@List.mem_of_getElem?
abbrev yj:=@List.length_drop
abbrev yk:=@Nat.zero_lt_one
abbrev yl:=@List.mem_append
abbrev ym:=@List.map_nil
abbrev yp:=@Nat.lt_of_lt_of_le
abbrev yq:=@Nat.zero_le
abbrev yr:=@List.take_length
abbrev yt:=@List.getD_eq_getElem?_getD
abbrev yu:=@Int.tmod_eq_emod_of_nonneg
abbrev yv:=@List.size_toArray
abbrev yw:=@List.take_append_drop
abbrev yx:=@Array.replicate_succ
abbrev yy:=@Array.replicate_zero
abbrev yz:=@Nat.le_succ
abbrev y4:=@List.foldl_cons
abbrev y5:=@Bool.true_and
abbrev y6:=@Bool.or_eq_true
abbrev y8:=@Option.map_eq_some_iff
abbrev y9:=@List.append_toArray
abbrev qaa:=@List.length_filter_le
abbrev qab:=@List.getElem?_drop
abbrev qac:=@Nat.add_sub_cancel_left
abbrev qad:=@List.length_eq_zero_iff
abbrev qae:=@List.mem_of_mem_drop
abbrev qaf:=@List.push_toArray
abbrev qag:=@Nat.min_eq_left
abbrev qah:=@Nat.add_zero
abbrev qai:=@List.drop_zero
abbrev qaj:=@List.mem_cons_of_mem
abbrev qak:=@Nat.sub_zero
abbrev qal:=@UInt8.toNat_ofNat'
abbrev qam:=@Int.fdiv_eq_ediv_of_nonneg
abbrev qan:=@Array.getElem?_append_left
abbrev qao:=@List.set_cons_zero
abbrev qap:=@Nat.ble_eq_true_of_le
abbrev qaq:=@List.foldl_append
abbrev qar:=@Bool.not_eq_true'
abbrev qas:=@Nat.mul_le_mul_right
abbrev qat:=@Nat.mod_lt
abbrev qau:=@List.getElem?_take_of_lt
abbrev qav:=@List.foldl_nil
abbrev qaw:=@Nat.mul_le_mul
abbrev qax:=@List.mem_flatten
abbrev qay:=@List.eq_nil_of_length_eq_zero
abbrev qaz:=@List.drop_eq_nil_of_le
abbrev qa0:=@Nat.mul_comm
abbrev qa1:=@List.length_zip
abbrev qa2:=@List.length_set
abbrev qa3:=@Nat.add_assoc
abbrev qa4:=@Bool.false_or
abbrev qa5:=@List.length_replicate
abbrev qa6:=@List.any_eq_false
abbrev qa7:=@Nat.two_pow_add_eq_or_of_lt
abbrev qa8:=@Nat.add_mul
abbrev qa9:=@List.getElem?_set_ne
abbrev qba:=@Nat.pow_le_pow_right
abbrev qbb:=@List.flatten_nil
abbrev qbc:=@Array.getElem?_eq_getElem
abbrev qbd:=@List.mem_or_eq_of_mem_set
abbrev qbe:=@List.length_zipWith
abbrev qbf:=@List.length_flatten
abbrev qbg:=@Nat.mul_le_mul_left
abbrev qbh:=@List.replicate_succ
abbrev qbi:=@Int.natCast_mul
abbrev qbj:=@Nat.div_le_self
abbrev qbk:=@Int.tmod_lt_of_pos
abbrev qbl:=@List.mem_replicate
abbrev qbm:=@List.getElem?_cons_succ
abbrev qbn:=@Nat.succ_mul
abbrev qbo:=@List.map_set
abbrev qbp:=@List.ext_getElem?
abbrev qbq:=@List.getElem?_toArray
abbrev qbr:=@List.getElem?_eq_none
abbrev qbs:=@List.set_append_right
abbrev qbt:=@Nat.lt_succ_self
abbrev qbu:=@Int.mul_le_mul_of_nonneg_right
abbrev qbv:=@Nat.and_two_pow_sub_one_eq_mod
abbrev qbw:=@List.all_cons
abbrev qbx:=@List.take_append_of_le_length
abbrev qby:=@Int.natCast_add
abbrev qbz:=@Nat.and_le_left
abbrev qb0:=@Nat.not_lt_zero
abbrev qb1:=@Int.tmod_nonneg
abbrev qb2:=@List.length_pos_iff
abbrev qb3:=@Nat.ne_of_lt
abbrev qb4:=@Nat.add_comm
abbrev qb5:=@Int.mul_nonneg
abbrev qb6:=@Int.mul_le_mul
abbrev qb7:=@List.zip_cons_cons
abbrev qb8:=@List.drop_left
abbrev qb9:=@List.filter_append
abbrev qca:=@Nat.eq_zero_or_pos
abbrev qcb:=@Int.natCast_nonneg
abbrev qcc:=@Nat.xor_lt_two_pow
abbrev qcd:=@List.set_cons_succ
abbrev qce:=@UInt8.toNat_lt
abbrev qcf:=@List.mem_range
abbrev qcg:=@Array.mapM_eq_mapM_toList
abbrev qch:=@Nat.le_succ_of_le
abbrev qci:=@List.getElem?_set
abbrev qcj:=@Nat.mul_one
abbrev qck:=@List.map_take
abbrev qcl:=@List.all_reverse
abbrev qcm:=@List.getElem_zip
abbrev qcn:=@List.map_flatten
abbrev qco:=@Option.bind_some
abbrev qcp:=@List.sum_replicate_nat
abbrev qcq:=@Nat.pow_succ
abbrev qcr:=@List.getElem?_set_self
abbrev qcs:=@List.append_eq_nil_iff
abbrev qct:=@Option.map_some
abbrev qcu:=@List.range_succ
abbrev qcv:=@List.take_left'
abbrev qcw:=@List.mem_append_right
abbrev qcx:=@List.singleton_append
abbrev qcy:=@Array.getElem?_modify
abbrev qcz:=@Nat.div_lt_of_lt_mul
abbrev qc0:=@List.mem_append_left
abbrev qc1:=@List.take_take
abbrev qc2:=@Int.toNat_of_nonneg
abbrev qc3:=@Array.getElem?_push
abbrev qc4:=@List.sum_cons
abbrev qc5:=@Bool.and_true
abbrev qc6:=@Nat.lt_or_ge
abbrev qc7:=@Nat.le_of_eq
abbrev qc8:=@Int.pow_pos
theorem tv:True:=.intro
abbrev Rho:=Nat → Nat → Nat
structure Pl where
 i:Nat
 k:Nat
 e:Nat
 sz:Nat
 o:Nat
def Pl.addr (ρ:Rho) (p:Pl):Addr:=⟨ρ p.i p.k,p.e * p.sz + p.o,none⟩
inductive SA where
 |int (k:IntKind) (n:Int)
 |lit (b:Bool)
 |bool (b:Bool)
 |str (s:List UInt8)
 |ptr (p:Pl)
 |slice (nil:Bool) (i k e sz len cap:Nat)
 |nilptr
 |nilfn
 |nilif
 |ifc (t:TypeId) (v:Value)
 |glob (g:Nat)
 |fn (f:Fn) (cap:List Pl)
 |iter (i k:Nat)
 |map (i k:Nat)
 |nilmap
 |nilsl
def SA.den (ρ:Rho):SA → Value
 |.int k n=>.int k n
 |.lit b=>.bool b
 |.bool b=>.bool b
 |.str s=>.string ⟨s.toArray⟩
 |.ptr p=>.pointer (some (p.addr ρ))
 |.slice nil i k e sz len cap=>.slice (if nil then none else some ⟨ρ i k,e * sz,none⟩) len cap
 |.nilptr=>.pointer none
 |.nilfn=>.nilFunc
 |.nilif=>.nilIface
 |.ifc t v=>.iface t v
 |.glob g=>.pointer (some ⟨g,0,none⟩)
 |.fn f cap=>.func f #[] (cap.map fun p=>Value.pointer (some (p.addr ρ))).toArray
 |.iter i k=>.pointer (some ⟨ρ i k,0,none⟩)
 |.map i k=>.map (some (ρ i k))
 |.nilmap=>.map none
 |.nilsl=>.slice none 0 0
def SA.below (n:Nat):SA → Prop
 |.ptr p=>p.i < n
 |.slice nil i ..=>nil = true ∨ i < n
 |.fn _ cap=>∀ p ∈ cap,p.i < n
 |.iter i _=>i < n
 |.map i _=>i < n
 |_=>True
theorem SA.below_mono {n m:Nat} (h:n ≤ m) {a:SA} (ha:a.below n):a.below m:=by
 cases a<;>simp only [SA.below] at *<;>first | omega | (intro p hp; have:=ha p hp; omega) | exact ha.imp id (fun h'=>by omega) | trivial
theorem SA.den_congr {ρ ρ':Rho} {n:Nat} (h:∀ i,i < n → ρ' i = ρ i) {a:SA} (ha:a.below n):a.den ρ' = a.den ρ:=by
 cases a<;>simp only [SA.below] at ha<;>simp only [SA.den,Pl.addr]
 ·rw [h _ ha]
 ·rename_i nil i k e sz len cap
  cases nil with
  |true=>rfl
  |false=>simp only [jm,false_or] at ha; rw [h _ ha]
 ·congr 2
  exact jx fun p hp=>by rw [h _ (ha p hp)]
 ·rw [h _ ha]
 ·rw [h _ ha]
theorem SA.one (ρ:Rho) (a:SA):(a.den ρ).oneCell' = true:=by cases a<;>rfl
inductive SC where
 |va (a:SA)
 |agg (l:List SA)
def SC.den (ρ:Rho):SC → Value
 |.va a=>a.den ρ
 |.agg l=>.agg (l.map (SA.den ρ)).toArray
inductive SV where
 |va (a:SA)
 |agg (l:List SA)
 |tup (l:List SC)
 |junk
def SC.v:SC → SV
 |.va a=>.va a
 |.agg l=>.agg l
def SC.below (n:Nat):SC → Prop
 |.va a=>a.below n
 |.agg l=>∀ a ∈ l,a.below n
def SV.below (n:Nat):SV → Prop
 |.va a=>a.below n
 |.agg l=>∀ a ∈ l,a.below n
 |.tup l=>∀ c ∈ l,c.below n
 |.junk=>True
theorem SC.below_mono {n m:Nat} (h:n ≤ m) {a:SC} (ha:a.below n):a.below m:=by
 cases a with
 |va a=>exact SA.below_mono h ha
 |agg l=>exact fun a hm=>SA.below_mono h (ha a hm)
theorem SV.below_mono {n m:Nat} (h:n ≤ m) {a:SV} (ha:a.below n):a.below m:=by
 cases a with
 |va a=>exact SA.below_mono h ha
 |agg l=>exact fun a hm=>SA.below_mono h (ha a hm)
 |tup l=>exact fun c hm=>SC.below_mono h (ha c hm)
 |junk=>trivial
theorem zcs {ρ ρ':Rho} {n:Nat} (h:∀ i,i < n → ρ' i = ρ i) {l:List SA} (hl:∀ a ∈ l,a.below n):l.map (SA.den ρ') = l.map (SA.den ρ):=
 jx fun a ha=>SA.den_congr h (hl a ha)
def SV.rel (ρ:Rho):SV → Value → Prop
 |.va a,v=>v = a.den ρ
 |.agg l,v=>v = .agg (l.map (SA.den ρ)).toArray
 |.tup l,v=>v = .tuple (l.map (SC.den ρ)).toArray
 |.junk,_=>True
theorem SV.rel_congr {ρ ρ':Rho} {n:Nat} (h:∀ i,i < n → ρ' i = ρ i) {s:SV} (hs:s.below n) {v:Value} (hv:s.rel ρ v):s.rel ρ' v:=by
 cases s with
 |va a=>simp only [SV.rel] at *; rw [hv,SA.den_congr h hs]
 |agg l=>simp only [SV.rel] at *; rw [hv,zcs h hs]
 |tup l=>
  simp only [SV.rel] at *; rw [hv]; congr 2
  refine jx fun c hc=>?_
  have hb:=hs c hc
  cases c with
  |va a=>exact (SA.den_congr h hb).symm
  |agg l=>simp only [SC.den]; rw [zcs h hb]
 |junk=>trivial
def relL (ρ:Rho):List SV → List Value → Prop
 |[],[]=>True
 |s :: ss,v :: vs=>s.rel ρ v ∧ relL ρ ss vs
 |_,_=>False
inductive SB where
 |cells (t:TypeId) (l:List SA)
 |arr (t:TypeId) (sz:Nat) (L:List (List SA)) (room:Nat)
 |obj (o:Obj)
def NoFr (fr:Nat × Nat) (n:Nat):Prop:=∀ j,j < n → ¬ (fr.1 ≤ j ∧ j < fr.2)
theorem NoFr.zero (n:Nat):NoFr (0,0) n:=fun _ _ h=>absurd h.2 (qb0 _)
def IsRow (o:Obj) (t:TypeId) (cs:List Value):Prop:=∃ fr,NoFr fr cs.length ∧ o = .cells cs.toArray t fr
def SB.ok (ρ:Rho):SB → Obj → Prop
 |.cells t l,o=>IsRow o t (l.map (SA.den ρ))
 |.arr t sz L room,o=>(∀ x ∈ L,x.length = sz) ∧ L.length ≤ room ∧
   ∃ tail:List Value,tail.length = (room - L.length) * sz ∧ IsRow o t (L.flatten.map (SA.den ρ) ++ tail)
 |.obj o',o=>o = o'
def SB.below (n:Nat):SB → Prop
 |.cells _ l=>∀ a ∈ l,a.below n
 |.arr _ _ L _=>∀ x ∈ L,∀ a ∈ x,a.below n
 |.obj _=>True
theorem SB.below_mono {n m:Nat} (h:n ≤ m) {b:SB} (hb:b.below n):b.below m:=by
 cases b with
 |cells t l=>exact fun a ha=>SA.below_mono h (hb a ha)
 |arr t sz L room=>exact fun x hx a ha=>SA.below_mono h (hb x hx a ha)
 |obj o=>trivial
theorem SB.ok_congr {ρ ρ':Rho} {n:Nat} (h:∀ i,i < n → ρ' i = ρ i) {b:SB} (hb:b.below n) {o:Obj} (ho:b.ok ρ o):b.ok ρ' o:=by
 cases b with
 |cells t l=>simp only [SB.ok] at *; rw [zcs h hb]; exact ho
 |arr t sz L room=>
  simp only [SB.ok] at *
  obtain ⟨h1,h2,tail,h3,h4⟩:=ho
  refine ⟨h1,h2,tail,h3,?_⟩
  rw [zcs h (l:=L.flatten) (fun a ha=>by obtain ⟨x,hx,hax⟩:=qax.1 ha; exact hb x hx a hax)]
  exact h4
 |obj o=>exact ho
abbrev Fz:=Nat → Option SB
def Fz.le (F F':Fz):Prop:=∀ b B,F b = some B → F' b = some B
theorem Fz.r (F:Fz):Fz.le F F:=fun _ _ h=>h
theorem Fz.t {F G H:Fz} (h:Fz.le F G) (h':Fz.le G H):Fz.le F H:=fun b B hb=>h' b B (h b B hb)
inductive Ent where
 |one (b:SB)
 |opt (c:Bool) (b:SB)
 |fam (n:Nat) (c:Nat → Bool) (f:Nat → SB)
 |gone
 |frz (F:Fz)
 |lnk (b:Nat → Nat)
def Ent.isFz:Ent → Bool
 |.frz _=>true
 |_=>false
def Ent.has:Ent → Nat → Prop
 |.one _,k=>k = 0
 |.opt c _,k=>c = true ∧ k = 0
 |.fam n c _,k=>k < n ∧ c k = true
 |.gone,_=>False
 |.frz F,k=>(F k).isSome = true
 |.lnk _,_=>False
def Ent.at:Ent → Nat → SB
 |.one b,_=>b
 |.opt _ b,_=>b
 |.fam _ _ f,k=>f k
 |.gone,_=>.cells 0 []
 |.frz F,k=>(F k).getD (.cells 0 [])
 |.lnk _,_=>.cells 0 []
def aget {β:Type}:List (Nat × β) → Nat → Option β
 |[],_=>none
 |(m,v) :: r,n=>match Nat.beq n m with
  |true=>some v
  |false=>aget r n
def lget {β:Type}:List (List (Nat × β)) → Nat → Option β
 |[],_=>none
 |l :: r,n=>match aget l n with
  |some v=>some v
  |none=>lget r n
def lput {β:Type} (l:List (List (Nat × β))) (n:Nat) (v:β):List (List (Nat × β)):=
 match l with
 |[]=>[[(n,v)]]
 |x :: r=>((n,v) :: x) :: r
theorem zaf {β:Type} (l:List (List (Nat × β))) (n:Nat) (v:β):lget (lput l n v) n = some v:=by
 cases l with
 |nil=>simp [lput,lget,aget]
 |cons x r=>simp [lput,lget,aget]
theorem zad {β:Type} (l:List (List (Nat × β))) (n m:Nat) (v:β) (h:m ≠ n):lget (lput l n v) m = lget l m:=by
 have hb:Nat.beq m n = false:=by
  cases hh:Nat.beq m n with
  |false=>rfl
  |true=>exact absurd (qg hh) h
 cases l with
 |nil=>simp [lput,lget,aget,hb]
 |cons x r=>simp [lput,lget,aget,hb]
inductive Dk where
 |fn (f:FuncId)
 |clo (f:FuncId)
 |col
structure St where
 t:List (List (Nat × SV))
 h:List (List (Nat × Ent))
 nx:Nat
 n0:Nat
 nt:Nat
 d:List (Dk × List SA)
def St.owns (h:List (List (Nat × Ent))) (i k:Nat):Prop:=∃ e,lget h i = some e ∧ e.has k
structure Ctx where
 w0:World
 ρ0:Rho
 n0:Nat
 B:Nat → Prop
 R:Nat → Prop
structure Sat (C:Ctx) (ρ:Rho) (h:List (List (Nat × Ent))) (nx:Nat) (w:World):Prop where
 lt:∀ i e,lget h i = some e → i < nx
 blk:∀ i e,lget h i = some e → ∀ k,e.has k → ∃ o,w.heap[ρ i k]? = some o ∧ (e.at k).ok ρ o
 wf:∀ i e,lget h i = some e → ∀ k,e.has k → (e.at k).below nx
 inj:∀ i k i' k',St.owns h i k → St.owns h i' k' → ρ i k = ρ i' k' → i = i' ∧ k = k'
 anch:∀ i,i < C.n0 → ∀ k,ρ i k = C.ρ0 i k
 n0:C.n0 ≤ nx
 n1:1 ≤ C.n0
 os:w.os = C.w0.os
 tape:w.tape = C.w0.tape
 output:w.output = C.w0.output
 size:C.w0.heap.size ≤ w.heap.size
 fr:∀ b,b < C.w0.heap.size → ¬ C.B b → w.heap[b]? = C.w0.heap[b]?
 own:∀ i k,St.owns h i k → (i = 0 ∧ C.R k) ∨ C.B (ρ i k) ∨ C.w0.heap.size ≤ ρ i k
 fz:∃ F,lget h 0 = some (.frz F) ∧ ∀ b B,F b = some B → B.below 1
 id0:∀ k,ρ 0 k = k
 only:∀ i F,lget h i = some (.frz F) → i = 0
 lnk:∀ i b,lget h i = some (.lnk b) → ∀ k,ρ i k = b k
def blkOf:List Value → Nat
 |.pointer (some p) :: _=>p.block
 |_=>0
def defV:Dk → List Value → Deferred
 |.fn f,vs=>{ target:=.fn (.func f) #[],args:=vs.toArray }
 |.clo f,vs=>{ target:=.fn (.func f) vs.toArray,args:=#[] }
 |.col,vs=>{ target:=.collected (blkOf vs),args:=#[] }
def defOf (ρ:Rho) (x:Dk × List SA):Deferred:=defV x.1 (x.2.map (SA.den ρ))
structure Den (C:Ctx) (ρ:Rho) (st:St) (a:Act) (w:World):Prop where
 sat:Sat C ρ st.h st.nx w
 nt:a.tmps.size = st.nt
 tm:∀ n s,lget st.t n = some s → ∃ v,a.tmps[n]? = some v ∧ s.rel ρ v
 tw:∀ n s,lget st.t n = some s → s.below st.nx
 n0:C.n0 = st.n0
 df:a.defers = st.d.map (defOf ρ)
 dw:∀ x ∈ st.d,∀ a ∈ x.2,a.below st.nx
inductive SE where
 |normal
 |ret
 |exit (id:Nat)
 |panic (v:Value)
def SE.to:SE → Exit
 |.normal=>.normal
 |.ret=>.ret
 |.exit id=>.exit id
 |.panic v=>.panic [{ v,recovered:=false }]
def Up (C:Ctx) (Q:SE → St → Prop):Exit → Act → World → Prop:=
 fun e a w=>∃ se st ρ,Q se st ∧ e = se.to ∧ Den C ρ st a w
@[irreducible] def WP (P:Program) (c:Code) (st:St) (Q:SE → St → Prop):Prop:=
 ∀ C ρ a w,Den C ρ st a w → c.wp P (Up C Q) a w
inductive Out where
 |ret (v:SV)
 |panic (v:Value)
def Out.rel (ρ:Rho):Out → Ending → Prop
 |.ret s,e=>∃ v,e = .returned v ∧ s.rel ρ v
 |.panic v,e=>e = .panicked [{ v,recovered:=false }]
@[irreducible] def Enters (P:Program) (f:FuncId):Prop:=∀ (args:Array Value) (w:World),(callFunc f args).run P w = .ok (.enter f args) w
theorem enters_of {P:Program} {f:FuncId} {fn:Func} {c:Code} (hf:P.funcs[f]? = some fn) (hb:fn.body = some c) (hn:(fn.name == "runtime.NumGoroutine") = false):Enters P f:=by
 unfold Enters
 intro args w
 have hn':¬ fn.name = "runtime.NumGoroutine" := by simpa using hn
 simp [callFunc,hf,hb,hn']
@[irreducible] def za6 (P:Program) (f:FuncId) (args:List SV) (h:List (List (Nat × Ent))) (nx:Nat) (K:Out → List (List (Nat × Ent)) → Nat → Prop):Prop:=
 ∀ C ρ w vs,Sat C ρ h nx w → relL ρ args vs → (∀ s ∈ args,s.below nx) →
  Enters P f ∧ Calls P f vs.toArray w fun e w'=>∃ out h' nx' ρ',K out h' nx' ∧ out.rel ρ' e ∧ Sat C ρ' h' nx' w' ∧ (∀ i,i < nx → ρ' i = ρ i) ∧ nx ≤ nx' ∧ (match out with | .ret s=>s.below nx' | .panic _=>True)
theorem zcd {h:List (List (Nat × Ent))} {n i k:Nat} {e:Ent} (ho:St.owns (lput h n e) i k):(i = n ∧ e.has k) ∨ (i ≠ n ∧ St.owns h i k):=by
 obtain ⟨e',he,hk⟩:=ho
 by_cases hi:i = n
 ·subst hi; rw [zaf] at he; cases he; exact .inl ⟨rfl,hk⟩
 ·rw [zad _ _ _ _ hi] at he; exact .inr ⟨hi,e',he,hk⟩
def Ent.plain:Ent → Bool
 |.one _=>true
 |.opt _ _=>true
 |.fam _ _ _=>true
 |_=>false
theorem Ent.plain_ne {e:Ent} (h:e.plain = true):(∀ F,e ≠ .frz F) ∧ (∀ b,e ≠ .lnk b):=by
 cases e<;>simp [Ent.plain] at h ⊢
theorem Sat.pos {C:Ctx} {ρ:Rho} {h:List (List (Nat × Ent))} {nx:Nat} {w:World} (s:Sat C ρ h nx w):0 < nx:=by
 obtain ⟨F,hF,_⟩:=s.fz
 exact s.lt 0 _ hF
theorem Sat.ne0 {C:Ctx} {ρ:Rho} {h:List (List (Nat × Ent))} {nx:Nat} {w:World} (s:Sat C ρ h nx w) {i:Nat} {e:Ent} (he:lget h i = some e) (hp:e.plain = true):i ≠ 0:=by
 rintro rfl
 obtain ⟨F,hF,_⟩:=s.fz
 rw [hF] at he; cases he; cases hp
def rext (ρ:Rho) (nx b:Nat):Rho:=fun i k=>if i = nx then b else ρ i k
theorem zdp {ρ:Rho} {nx b i:Nat} (h:i < nx):rext ρ nx b i = ρ i:=by
 funext k; simp [rext,qb3 h]
theorem zbc (ρ:Rho) (nx b k:Nat):rext ρ nx b nx k = b:=by simp [rext]
theorem Sat.world {C:Ctx} {ρ:Rho} {h:List (List (Nat × Ent))} {nx:Nat} {w w':World} (s:Sat C ρ h nx w)
  (hh:w'.heap = w.heap) (ho:w'.os = w.os) (ht:w'.tape = w.tape) (hp:w'.output = w.output):Sat C ρ h nx w':=
 { s with
  blk:=fun i e he k hk=>by rw [hh]; exact s.blk i e he k hk
  os:=ho.trans s.os,tape:=ht.trans s.tape,output:=hp.trans s.output
  size:=by rw [hh]; exact s.size
  fr:=fun b hb hB=>by rw [hh]; exact s.fr b hb hB }
theorem Sat.drew {C:Ctx} {ρ:Rho} {h:List (List (Nat × Ent))} {nx:Nat} {w:World} (s:Sat C ρ h nx w):Sat C ρ h nx w.drew:=
 s.world rfl rfl rfl rfl
theorem Sat.blt {C:Ctx} {ρ:Rho} {h:List (List (Nat × Ent))} {nx:Nat} {w:World} (s:Sat C ρ h nx w) {i k:Nat} (ho:St.owns h i k):ρ i k < w.heap.size:=by
 obtain ⟨e,he,hk⟩:=ho
 obtain ⟨o,hb,_⟩:=s.blk i e he k hk
 exact (qz.1 hb).1
theorem hpush (w:World) (o:Obj) (i:Nat) (h:i < w.heap.size):(w.alloc o).heap[i]? = w.heap[i]?:=by
 show (w.heap.push o)[i]? = w.heap[i]?
 rw [qc3,if_neg (qb3 h)]
theorem Sat.new {C:Ctx} {ρ:Rho} {h:List (List (Nat × Ent))} {nx:Nat} {w:World} (s:Sat C ρ h nx w) (b:SB) (o:Obj)
  (hb:b.below nx) (hok:b.ok ρ o):Sat C (rext ρ nx w.heap.size) (lput h nx (.one b)) (nx + 1) (w.alloc o):=by
 have hag:∀ i,i < nx → rext ρ nx w.heap.size i = ρ i:=fun i hi=>zdp hi
 have hown:∀ i k,St.owns h i k → i < nx:=fun i k ⟨e,he,_⟩=>s.lt i e he
 refine { lt:=?_,blk:=?_,wf:=?_,inj:=?_,anch:=?_,n0:=qch s.n0,n1:=s.n1,os:=s.os,tape:=s.tape,output:=s.output,size:=?_,fr:=?_,own:=?_,fz:=by rw [zad _ _ _ _ (qb3 s.pos)]; exact s.fz,id0:=fun k=>by rw [hag 0 s.pos]; exact s.id0 k,only:=?_,lnk:=?_ }
 ·intro i e he
  by_cases hi:i = nx
  ·omega
  ·rw [zad _ _ _ _ hi] at he; have:=s.lt i e he; omega
 ·intro i e he k hk
  by_cases hi:i = nx
  ·subst hi; rw [zaf] at he; cases he
   refine ⟨o,?_,SB.ok_congr hag hb hok⟩
   rw [zbc]; show (w.heap.push o)[w.heap.size]? = some o; simp
  ·rw [zad _ _ _ _ hi] at he
   have hlt:=s.lt i e he
   obtain ⟨o',ho',hok'⟩:=s.blk i e he k hk
   refine ⟨o',?_,SB.ok_congr hag (s.wf i e he k hk) hok'⟩
   rw [hag i hlt,hpush w o _ (qz.1 ho').1]; exact ho'
 ·intro i e he k hk
  by_cases hi:i = nx
  ·subst hi; rw [zaf] at he; cases he; exact SB.below_mono (yz _) hb
  ·rw [zad _ _ _ _ hi] at he; exact SB.below_mono (yz _) (s.wf i e he k hk)
 ·intro i k i' k' h1 h2 heq
  rcases zcd h1 with ⟨rfl,hk⟩ | ⟨hi,ho⟩<;>rcases zcd h2 with ⟨rfl,hk'⟩ | ⟨hi',ho'⟩
  ·simp only [Ent.has] at hk hk'; exact ⟨rfl,by omega⟩
  ·rw [zbc,hag i' (hown _ _ ho')] at heq; have:=s.blt ho'; omega
  ·rw [zbc,hag i (hown _ _ ho)] at heq; have:=s.blt ho; omega
  ·rw [hag i (hown _ _ ho),hag i' (hown _ _ ho')] at heq
   exact s.inj _ _ _ _ ho ho' heq
 ·intro i hi k; have:=s.n0; rw [hag i (by omega)]; exact s.anch i hi k
 ·have:=s.size; show _ ≤ (w.heap.push o).size; simp; omega
 ·intro b' hb' hB
  have:=s.size
  rw [hpush w o _ (by omega)]; exact s.fr b' hb' hB
 ·intro i k h1
  rcases zcd h1 with ⟨rfl,hk⟩ | ⟨hi,ho⟩
  ·right; right; rw [zbc]; exact s.size
  ·rw [hag i (hown _ _ ho)]; exact s.own _ _ ho
 ·intro i F hF
  by_cases hi:i = nx
  ·subst hi; rw [zaf] at hF; cases hF
  ·rw [zad _ _ _ _ hi] at hF; exact s.only i F hF
 ·intro i b' hl k
  by_cases hi:i = nx
  ·subst hi; rw [zaf] at hl; cases hl
  ·rw [zad _ _ _ _ hi] at hl
   rw [hag i (s.lt i _ hl)]; exact s.lnk i b' hl k
theorem Sat.upd {C:Ctx} {ρ:Rho} {h:List (List (Nat × Ent))} {nx:Nat} {w w':World} (s:Sat C ρ h nx w) {i:Nat} {e e':Ent} (k:Nat) (he:lget h i = some e) (hnr:e.plain = true) (hnr':e'.plain = true)
  (hk:e.has k) (hhas:∀ k',e'.has k' ↔ e.has k') (o':Obj) (hat:∀ k',k' ≠ k → e.has k' → e'.at k' = e.at k') (hok:(e'.at k).ok ρ o') (hbl:(e'.at k).below nx)
  (hos:w'.os = w.os) (ht:w'.tape = w.tape) (hp:w'.output = w.output) (hsz:w'.heap.size = w.heap.size)
  (hnew:w'.heap[ρ i k]? = some o') (hold:∀ b,b ≠ ρ i k → w'.heap[b]? = w.heap[b]?):Sat C ρ (lput h i e') nx w':=by
 have howni:∀ k',e'.has k' → St.owns h i k':=fun k' hk'=>⟨e,he,(hhas k').1 hk'⟩
 have hown':∀ i' k',St.owns (lput h i e') i' k' → St.owns h i' k':=by
  intro i' k' ho
  rcases zcd ho with ⟨rfl,hk'⟩ | ⟨_,ho⟩
  ·exact howni _ hk'
  ·exact ho
 have hi0:=s.ne0 he hnr
 have hinj:∀ i1 k1 k2,St.owns h i1 k1 → e.has k2 → ρ i1 k1 = ρ i k2 → i1 = i ∧ k1 = k2:=fun i1 k1 k2 h1 h2 heq=>
  s.inj _ _ _ _ h1 ⟨e,he,h2⟩ heq
 refine { lt:=?_,blk:=?_,wf:=?_,inj:=fun a b c d h1 h2 heq=>s.inj a b c d (hown' _ _ h1) (hown' _ _ h2) heq,anch:=s.anch,n0:=s.n0,n1:=s.n1,os:=hos.trans s.os,tape:=ht.trans s.tape,output:=hp.trans s.output,size:=by rw [hsz]; exact s.size,fr:=?_,own:=fun a b h1=>s.own a b (hown' _ _ h1),fz:=by rw [zad _ _ _ _ (Ne.symm hi0)]; exact s.fz,id0:=s.id0,only:=?_,lnk:=?_ }
 ·intro i' e1 he1
  by_cases hi:i' = i
  ·subst hi; exact s.lt _ e he
  ·rw [zad _ _ _ _ hi] at he1; exact s.lt _ _ he1
 ·intro i' e1 he1 k' hk'
  by_cases hi:i' = i
  ·subst hi; rw [zaf] at he1; cases he1
   by_cases hkk:k' = k
   ·subst hkk; exact ⟨o',hnew,hok⟩
   ·have hk2:=(hhas k').1 hk'
    obtain ⟨o1,ho1,hok1⟩:=s.blk _ e he k' hk2
    refine ⟨o1,?_,by rw [hat k' hkk hk2]; exact hok1⟩
    rw [hold _ (fun heq=>hkk (hinj _ _ _ ⟨e,he,hk2⟩ hk heq).2)]; exact ho1
  ·rw [zad _ _ _ _ hi] at he1
   obtain ⟨o1,ho1,hok1⟩:=s.blk _ _ he1 k' hk'
   refine ⟨o1,?_,hok1⟩
   rw [hold _ (fun heq=>hi (hinj _ _ _ ⟨e1,he1,hk'⟩ hk heq).1)]; exact ho1
 ·intro i' e1 he1 k' hk'
  by_cases hi:i' = i
  ·subst hi; rw [zaf] at he1; cases he1
   by_cases hkk:k' = k
   ·subst hkk; exact hbl
   ·have hk2:=(hhas k').1 hk'
    rw [hat k' hkk hk2]; exact s.wf _ e he k' hk2
  ·rw [zad _ _ _ _ hi] at he1; exact s.wf _ _ he1 k' hk'
 ·intro b hb hB
  have hne:b ≠ ρ i k:=by
   intro hbe; subst hbe
   rcases s.own i k ⟨e,he,hk⟩ with h1 | h1 | h1
   ·exact hi0 h1.1
   ·exact hB h1
   ·omega
  rw [hold b hne]; exact s.fr b hb hB
 ·intro i' F hF
  by_cases hi:i' = i
  ·subst hi; rw [zaf] at hF; cases hF; exact absurd rfl ((Ent.plain_ne hnr').1 F)
  ·rw [zad _ _ _ _ hi] at hF; exact s.only i' F hF
 ·intro i' b' hl k'
  by_cases hi:i' = i
  ·subst hi; rw [zaf] at hl; cases hl; exact absurd rfl ((Ent.plain_ne hnr').2 b')
  ·rw [zad _ _ _ _ hi] at hl; exact s.lnk i' b' hl k'
theorem Sat.forget {C:Ctx} {ρ:Rho} {h:List (List (Nat × Ent))} {nx:Nat} {w:World} (s:Sat C ρ h nx w) {i:Nat} (hi:i < nx) (hi0:i ≠ 0):Sat C ρ (lput h i .gone) nx w:=by
 have hown':∀ i' k',St.owns (lput h i .gone) i' k' → St.owns h i' k':=by
  intro i' k' ho
  rcases zcd ho with ⟨rfl,hk'⟩ | ⟨_,ho⟩
  ·exact hk'.elim
  ·exact ho
 refine { s with lt:=?_,blk:=?_,wf:=?_,inj:=fun a b c d h1 h2 heq=>s.inj a b c d (hown' _ _ h1) (hown' _ _ h2) heq,own:=fun a b h1=>s.own a b (hown' _ _ h1),fz:=by rw [zad _ _ _ _ (Ne.symm hi0)]; exact s.fz,only:=?_,lnk:=?_ }
 ·intro i' e1 he1
  by_cases hh:i' = i
  ·subst hh; exact hi
  ·rw [zad _ _ _ _ hh] at he1; exact s.lt _ _ he1
 ·intro i' e1 he1 k' hk'
  by_cases hh:i' = i
  ·subst hh; rw [zaf] at he1; cases he1; exact hk'.elim
  ·rw [zad _ _ _ _ hh] at he1; exact s.blk _ _ he1 k' hk'
 ·intro i' e1 he1 k' hk'
  by_cases hh:i' = i
  ·subst hh; rw [zaf] at he1; cases he1; exact hk'.elim
  ·rw [zad _ _ _ _ hh] at he1; exact s.wf _ _ he1 k' hk'
 ·intro i' F hF
  by_cases hh:i' = i
  ·subst hh; rw [zaf] at hF; cases hF
  ·rw [zad _ _ _ _ hh] at hF; exact s.only i' F hF
 ·intro i' b' hl k'
  by_cases hh:i' = i
  ·subst hh; rw [zaf] at hl; cases hl
  ·rw [zad _ _ _ _ hh] at hl; exact s.lnk i' b' hl k'
theorem Sat.move {C:Ctx} {ρ:Rho} {h:List (List (Nat × Ent))} {nx:Nat} {w w':World} (s:Sat C ρ h nx w) {i:Nat} {e:Ent} (he:lget h i = some e) (hnr:e.plain = true) (h0:e.has 0)
  (b:SB) (o':Obj) (hok:b.ok ρ o') (hbl:b.below nx)
  (hos:w'.os = w.os) (ht:w'.tape = w.tape) (hp:w'.output = w.output) (hsz:w'.heap.size = w.heap.size)
  (hnew:w'.heap[ρ i 0]? = some o') (hold:∀ b,b ≠ ρ i 0 → w'.heap[b]? = w.heap[b]?) :
  Sat C (rext ρ nx (ρ i 0)) (lput (lput h i .gone) nx (.one b)) (nx + 1) w':=by
 have hag:∀ j,j < nx → rext ρ nx (ρ i 0) j = ρ j:=fun j hj=>zdp hj
 have hilt:=s.lt i e he
 have hown':∀ i' k',St.owns (lput h i .gone) i' k' → St.owns h i' k' ∧ i' ≠ i:=by
  intro i' k' ho
  rcases zcd ho with ⟨rfl,hk'⟩ | ⟨hne,ho⟩
  ·exact hk'.elim
  ·exact ⟨ho,hne⟩
 have hlt':∀ i' k',St.owns h i' k' → i' < nx:=fun i' k' ⟨e1,he1,_⟩=>s.lt i' e1 he1
 have hinj:∀ i1 k1,St.owns h i1 k1 → ρ i1 k1 = ρ i 0 → i1 = i:=fun i1 k1 h1 heq=>
  (s.inj _ _ _ _ h1 ⟨e,he,h0⟩ heq).1
 have hi0:=s.ne0 he hnr
 have S1:=s.forget hilt hi0
 refine { lt:=?_,blk:=?_,wf:=?_,inj:=?_,anch:=?_,n0:=qch s.n0,n1:=s.n1,os:=hos.trans s.os,tape:=ht.trans s.tape,output:=hp.trans s.output,size:=by rw [hsz]; exact s.size,fr:=?_,own:=?_,fz:=by rw [zad _ _ _ _ (qb3 s.pos)]; exact S1.fz,id0:=fun k=>by rw [hag 0 s.pos]; exact s.id0 k,only:=?_,lnk:=?_ }
 ·intro i' e1 he1
  by_cases hh:i' = nx
  ·omega
  ·rw [zad _ _ _ _ hh] at he1; have:=S1.lt _ _ he1; omega
 ·intro i' e1 he1 k' hk'
  by_cases hh:i' = nx
  ·subst hh; rw [zaf] at he1; cases he1
   exact ⟨o',by rw [zbc]; exact hnew,SB.ok_congr hag hbl hok⟩
  ·rw [zad _ _ _ _ hh] at he1
   have hl:=S1.lt _ _ he1
   obtain ⟨o1,ho1,hok1⟩:=S1.blk _ _ he1 k' hk'
   refine ⟨o1,?_,SB.ok_congr hag (S1.wf _ _ he1 k' hk') hok1⟩
   have ⟨hw1,hw2⟩:=hown' i' k' ⟨e1,he1,hk'⟩
   rw [hag _ hl,hold _ (fun heq=>hw2 (hinj _ _ hw1 heq))]; exact ho1
 ·intro i' e1 he1 k' hk'
  by_cases hh:i' = nx
  ·subst hh; rw [zaf] at he1; cases he1; exact SB.below_mono (yz _) hbl
  ·rw [zad _ _ _ _ hh] at he1; exact SB.below_mono (yz _) (S1.wf _ _ he1 k' hk')
 ·intro a k a' k' h1 h2 heq
  rcases zcd h1 with ⟨rfl,hk⟩ | ⟨hi,ho⟩<;>rcases zcd h2 with ⟨rfl,hk'⟩ | ⟨hi',ho'⟩
  ·simp only [Ent.has] at hk hk'; exact ⟨rfl,by omega⟩
  ·have ⟨hw1,hw2⟩:=hown' _ _ ho'
   rw [zbc,hag _ (hlt' _ _ hw1)] at heq
   exact absurd (hinj _ _ hw1 heq.symm) hw2
  ·have ⟨hw1,hw2⟩:=hown' _ _ ho
   rw [zbc,hag _ (hlt' _ _ hw1)] at heq
   exact absurd (hinj _ _ hw1 heq) hw2
  ·have ⟨hw1,hn1⟩:=hown' _ _ ho
   have ⟨hw1',hn2⟩:=hown' _ _ ho'
   rw [hag _ (hlt' _ _ hw1),hag _ (hlt' _ _ hw1')] at heq
   exact s.inj _ _ _ _ hw1 hw1' heq
 ·intro j hj k; have:=s.n0; rw [hag j (by omega)]; exact s.anch j hj k
 ·intro b' hb' hB
  have hne:b' ≠ ρ i 0:=by
   intro hbe; subst hbe
   rcases s.own i 0 ⟨e,he,h0⟩ with h1 | h1 | h1
   ·exact hi0 h1.1
   ·exact hB h1
   ·omega
  rw [hold b' hne]; exact s.fr b' hb' hB
 ·intro a k h1
  rcases zcd h1 with ⟨rfl,hk⟩ | ⟨hi,ho⟩
  ·rw [zbc]; exact .inr ((s.own i 0 ⟨e,he,h0⟩).resolve_left (fun h=>hi0 h.1))
  ·have ⟨hw1,hn1⟩:=hown' _ _ ho
   rw [hag _ (hlt' _ _ hw1)]; exact s.own _ _ hw1
 ·intro i' F hF
  by_cases hh:i' = nx
  ·subst hh; rw [zaf] at hF; cases hF
  ·rw [zad _ _ _ _ hh] at hF; exact S1.only i' F hF
 ·intro i' b' hl k'
  by_cases hh:i' = nx
  ·subst hh; rw [zaf] at hl; cases hl
  ·rw [zad _ _ _ _ hh] at hl
   rw [hag _ (S1.lt _ _ hl)]; exact S1.lnk i' b' hl k'
theorem Den.heap {C:Ctx} {ρ ρ':Rho} {st:St} {a:Act} {w w':World} {h':List (List (Nat × Ent))} {nx':Nat} (d:Den C ρ st a w)
  (s:Sat C ρ' h' nx' w') (hag:∀ i,i < st.nx → ρ' i = ρ i) (hle:st.nx ≤ nx'):Den C ρ' { st with h:=h',nx:=nx' } a w' where
 sat:=s
 nt:=d.nt
 tm:=fun n x hx=>by
  obtain ⟨v,hv,hr⟩:=d.tm n x hx
  exact ⟨v,hv,SV.rel_congr hag (d.tw n x hx) hr⟩
 tw:=fun n x hx=>SV.below_mono hle (d.tw n x hx)
 n0:=d.n0
 df:=by
  rw [d.df]
  refine jx fun x hx=>?_
  simp only [defOf]; rw [zcs hag (d.dw x hx)]
 dw:=fun x hx b hb=>SA.below_mono hle (d.dw x hx b hb)
theorem Den.put {C:Ctx} {ρ:Rho} {st:St} {a:Act} {w:World} (d:Den C ρ st a w) (n:Nat) (hn:n < st.nt) (s:SV) (v:Value) (hr:s.rel ρ v) (hb:s.below st.nx) :
  Den C ρ { st with t:=lput st.t n s } (a.put (some n) v) w where
 sat:=d.sat
 nt:=by simp [Act.put,d.nt]
 tm:=fun m x hx=>by
  by_cases hm:m = n
  ·subst hm; rw [zaf] at hx; cases hx
   exact ⟨v,by simp [Act.put,d.nt,hn],hr⟩
  ·rw [zad _ _ _ _ hm] at hx
   obtain ⟨u,hu,hru⟩:=d.tm m x hx
   refine ⟨u,?_,hru⟩
   simp only [Act.put]
   rw [Array.getElem?_setIfInBounds_ne (fun e=>hm e.symm)]; exact hu
 tw:=fun m x hx=>by
  by_cases hm:m = n
  ·subst hm; rw [zaf] at hx; cases hx; exact hb
  ·rw [zad _ _ _ _ hm] at hx; exact d.tw m x hx
 n0:=d.n0
 df:=d.df
 dw:=d.dw
def takeN {α:Type}:Nat → List α → Option (List α)
 |0,_=>some []
 |_ + 1,[]=>none
 |n + 1,x :: r=>match takeN n r with
  |some xs=>some (x :: xs)
  |none=>none
def zd6 {α:Type}:List α → Nat → Nat → Option (List α)
 |l,0,n=>takeN n l
 |[],_ + 1,_=>none
 |_ :: r,o + 1,n=>zd6 r o n
def setN {α:Type}:List α → List α → Option (List α)
 |l,[]=>some l
 |[],_ :: _=>none
 |_ :: r,x :: xs=>match setN r xs with
  |some r'=>some (x :: r')
  |none=>none
def setAt {α:Type}:List α → Nat → List α → Option (List α)
 |l,0,xs=>setN l xs
 |[],_ + 1,_=>none
 |y :: r,o + 1,xs=>match setAt r o xs with
  |some r'=>some (y :: r')
  |none=>none
theorem zk6 {α:Type}:∀ (n:Nat) (l xs:List α),takeN n l = some xs → ∃ post,l = xs ++ post ∧ xs.length = n
 |0,l,xs,h=>by simp [takeN] at h; subst h; exact ⟨l,rfl,rfl⟩
 |n + 1,[],xs,h=>by simp [takeN] at h
 |n + 1,x :: r,xs,h=>by
  simp only [takeN] at h
  split at h
  ·rename_i ys hy
   cases h
   obtain ⟨post,h1,h2⟩:=zk6 n r ys hy
   exact ⟨post,by rw [h1]; rfl,by simp [h2]⟩
  ·cases h
theorem zc9 {α:Type}:∀ (l:List α) (o n:Nat) (xs:List α),zd6 l o n = some xs → ∃ pre post,l = pre ++ xs ++ post ∧ pre.length = o ∧ xs.length = n
 |l,0,n,xs,h=>by
  have h':takeN n l = some xs:=by cases l<;>simpa [zd6] using h
  obtain ⟨post,h1,h2⟩:=zk6 n l xs h'
  exact ⟨[],post,by simpa using h1,rfl,h2⟩
 |[],o + 1,n,xs,h=>by simp [zd6] at h
 |y :: r,o + 1,n,xs,h=>by
  simp only [zd6] at h
  obtain ⟨pre,post,h1,h2,h3⟩:=zc9 r o n xs h
  exact ⟨y :: pre,post,by rw [h1]; rfl,by simp [h2],h3⟩
theorem znc {α:Type}:∀ (l xs l':List α),setN l xs = some l' → ∃ old post,l = old ++ post ∧ l' = xs ++ post ∧ old.length = xs.length
 |l,[],l',h=>by
  have:l = l':=by cases l<;>simpa [setN] using h
  subst this; exact ⟨[],l,rfl,rfl,rfl⟩
 |[],_ :: _,l',h=>by simp [setN] at h
 |y :: r,x :: xs,l',h=>by
  simp only [setN] at h
  split at h
  ·rename_i r' hr
   cases h
   obtain ⟨old,post,h1,h2,h3⟩:=znc r xs r' hr
   exact ⟨y :: old,post,by rw [h1]; rfl,by rw [h2]; rfl,by simp [h3]⟩
  ·cases h
theorem ze8 {α:Type}:∀ (l:List α) (o:Nat) (xs l':List α),setAt l o xs = some l' → ∃ pre old post,l = pre ++ old ++ post ∧ l' = pre ++ xs ++ post ∧ pre.length = o ∧ old.length = xs.length
 |l,0,xs,l',h=>by
  have h':setN l xs = some l':=by cases l<;>simpa [setAt] using h
  obtain ⟨old,post,h1,h2,h3⟩:=znc l xs l' h'
  exact ⟨[],old,post,by simpa using h1,by simpa using h2,rfl,h3⟩
 |[],o + 1,xs,l',h=>by simp [setAt] at h
 |y :: r,o + 1,xs,l',h=>by
  simp only [setAt] at h
  split at h
  ·rename_i r' hr
   cases h
   obtain ⟨pre,old,post,h1,h2,h3,h4⟩:=ze8 r o xs r' hr
   exact ⟨y :: pre,old,post,by rw [h1]; rfl,by rw [h2]; rfl,by simp [h3],h4⟩
  ·cases h
theorem zia {α:Type} {sz:Nat}:∀ (L:List (List α)) (e:Nat) (x:List α),(∀ y ∈ L,y.length = sz) → L[e]? = some x →
  ∃ pre post,L.flatten = pre ++ x ++ post ∧ pre.length = e * sz ∧ ∀ x',(L.set e x').flatten = pre ++ x' ++ post
 |[],e,x,_,h=>by simp at h
 |y :: L,0,x,hl,h=>by
  simp at h; subst h
  exact ⟨[],L.flatten,by simp,by simp,fun x'=>by simp⟩
 |y :: L,e + 1,x,hl,h=>by
  simp at h
  obtain ⟨pre,post,h1,h2,h3⟩:=zia L e x (fun z hz=>hl z (by simp [hz])) h
  refine ⟨y ++ pre,post,by simp [h1],?_,fun x'=>?_⟩
  ·have:=hl y (by simp)
   simp [h2,this,qbn]; omega
  ·have:=h3 x'; simp [this]
def RowAt (w:World) (b:Nat) (t:TypeId) (cs:List Value):Prop:=∃ o,w.heap[b]? = some o ∧ IsRow o t cs
theorem RowAt.cell {w:World} {b:Nat} {t:TypeId} {cs:List Value} (h:RowAt w b t cs) (j:Nat):w.cell? ⟨b,j,none⟩ = cs[j]?:=by
 obtain ⟨o,ho,fr,_,rfl⟩:=h
 have:=cell_of_row w b j cs.toArray t fr ho
 simpa using this
theorem RowAt.free {w:World} {b:Nat} {t:TypeId} {cs:List Value} (h:RowAt w b t cs) (j:Nat) (hj:j < cs.length):w.frozen? ⟨b,j,none⟩ = false:=by
 obtain ⟨o,ho,fr,hn,rfl⟩:=h
 have:=hn j hj
 simp only [World.frozen?,ho]
 simp; intro h1; have h2:=hn j hj; omega
theorem zb9 {P:Program} (g off:Nat) (t:TypeId):∀ (vs:List Value) (i:Nat) (cs:List Value) (w:World),RowAt w g t cs → off + i + vs.length ≤ cs.length → (∀ v ∈ vs,v.oneCell' = true) →
  (storeCells ⟨g,off,none⟩ vs i).run P w = .ok () (w.setRow g (cs.take (off + i) ++ vs ++ cs.drop (off + i + vs.length)).toArray)
 |[],i,cs,w,hg,_,_=>by
  obtain ⟨o,ho,fr,hn,rfl⟩:=hg
  simp only [storeCells,jw,qp,qah,yw]
  rw [setRow_self w g cs.toArray t fr ho]
  rfl
 |v :: rest,i,cs,w,hg,hl,h1=>by
  have hi:off + i < cs.length:=by simp at hl; omega
  have hadd:(⟨g,off,none⟩:Addr).add i = ⟨g,off + i,none⟩:=by unfold Addr.add; split<;>simp_all
  have hcell:w.cell? ⟨g,off + i,none⟩ = some cs[off + i]:=by rw [hg.cell]; simp [hi]
  have hfro:w.frozen? ⟨g,off + i,none⟩ = false:=hg.free _ hi
  obtain ⟨o,ho,fr,hn,rfl⟩:=hg
  have hst:(store ((⟨g,off,none⟩:Addr).add i) v).run P w = .ok () (w.setRow g (cs.toArray.setIfInBounds (off + i) v)):=by
   rw [hadd,run_store P w _ v _ (h1 v (by simp)),hcell]
   simp [hfro,setCell_eq_setRow w g (off + i) cs.toArray t fr v ho]
  have hrow':RowAt (w.setRow g (cs.toArray.setIfInBounds (off + i) v)) g t (cs.set (off + i) v):=
   ⟨_,setRow_heap w g _ _ t fr ho,fr,by simpa using hn,by simp⟩
  have ih:=zb9 (P:=P) g off t rest (i + 1) (cs.set (off + i) v) _ hrow' (by simp at hl ⊢; omega) (fun x hx=>h1 x (by simp [hx]))
  simp only [storeCells,Sem.run_bind,hst,Result.andThen_ok,ih,setRow_setRow]
  congr 3
  have e:=list_seg_step cs (off + i) v rest (by simp at hl ⊢; omega)
  simpa [qa3] using e
def RdO (o:Obj) (off n:Nat) (xs:List SA):Prop:=xs.length = n ∧ (∀ a ∈ xs,a.below 0) ∧ ∀ ρ:Rho,∃ (t:TypeId) (fr:Nat × Nat) (pre post:List Value),o = .cells (pre ++ xs.map (SA.den ρ) ++ post).toArray t fr ∧ pre.length = off
def rdB (b:SB) (p:Pl) (n:Nat) (K:List SA → Prop):Prop:=
 match b with
 |.cells _ l=>match zd6 l (p.e * p.sz + p.o) n with
  |some xs=>K xs
  |none=>False
 |.arr _ sz L _=>match Nat.beq p.sz sz with
  |true=>∃ x,L[p.e]? = some x ∧ (match zd6 x p.o n with
   |some xs=>K xs
   |none=>False)
  |false=>∃ xs,zd6 L.flatten (p.e * p.sz + p.o) n = some xs ∧ K xs
 |.obj o=>∃ xs,RdO o (p.e * p.sz + p.o) n xs ∧ K xs
def rd (h:List (List (Nat × Ent))) (p:Pl) (n:Nat) (K:List SA → Prop):Prop:=
 match lget h p.i with
 |some (.one b)=>(match p.k with
  |0=>rdB b p n K
  |_ + 1=>False)
 |some (.opt c b)=>c = true ∧ (match p.k with
  |0=>rdB b p n K
  |_ + 1=>False)
 |some (.fam m c f)=>(p.k < m ∧ c p.k = true) ∧ rdB (f p.k) p n K
 |some (.frz F)=>∃ B,F p.k = some B ∧ rdB B p n K
 |some (.lnk b)=>(match lget h 0 with
  |some (.frz F)=>∃ B,F (b p.k) = some B ∧ rdB B p n K
  |_=>False)
 |some .gone=>False
 |none=>False
def wrB (b:SB) (p:Pl) (vs:List SA) (K:SB → Prop):Prop:=
 match b with
 |.cells t l=>match setAt l (p.e * p.sz + p.o) vs with
  |some l'=>K (.cells t l')
  |none=>False
 |.arr t sz L room=>match Nat.beq p.sz sz with
  |true=>∃ x,L[p.e]? = some x ∧ (match setAt x p.o vs with
   |some x'=>K (.arr t sz (L.set p.e x') room)
   |none=>False)
  |false=>∃ L',(∀ x ∈ L',x.length = sz) ∧ L'.length = L.length ∧ setAt L.flatten (p.e * p.sz + p.o) vs = some L'.flatten ∧ K (.arr t sz L' room)
 |.obj _=>False
def wr (h:List (List (Nat × Ent))) (p:Pl) (vs:List SA) (K:List (List (Nat × Ent)) → Prop):Prop:=
 match lget h p.i with
 |some (.one b)=>(match p.k with
  |0=>wrB b p vs fun b'=>K (lput h p.i (.one b'))
  |_ + 1=>False)
 |some (.opt c b)=>c = true ∧ (match p.k with
  |0=>wrB b p vs fun b'=>K (lput h p.i (.opt c b'))
  |_ + 1=>False)
 |some (.fam m c f)=>(p.k < m ∧ c p.k = true) ∧ wrB (f p.k) p vs fun b'=>K (lput h p.i (.fam m c fun k=>if k = p.k then b' else f k))
 |some (.frz _)=>False
 |some (.lnk _)=>False
 |some .gone=>False
 |none=>False
def ztz (o:Obj) (t:TypeId) (cs:List Value):Prop:=∃ fr,o = .cells cs.toArray t fr
theorem IsRow.r {o:Obj} {t:TypeId} {cs:List Value} (h:IsRow o t cs):ztz o t cs:=let ⟨fr,_,e⟩:=h; ⟨fr,e⟩
def znh (w:World) (b:Nat) (t:TypeId) (cs:List Value):Prop:=∃ o,w.heap[b]? = some o ∧ ztz o t cs
theorem znh.cell {w:World} {b:Nat} {t:TypeId} {cs:List Value} (h:znh w b t cs) (j:Nat):w.cell? ⟨b,j,none⟩ = cs[j]?:=by
 obtain ⟨o,ho,fr,rfl⟩:=h
 have:=cell_of_row w b j cs.toArray t fr ho
 simpa using this
theorem zon {ρ:Rho} {b:SB} {p:Pl} {n nx:Nat} {K:List SA → Prop} {o:Obj} (h:rdB b p n K) (hok:b.ok ρ o) (hbl:b.below nx) :
  ∃ xs,K xs ∧ xs.length = n ∧ (∀ a ∈ xs,a.below nx) ∧ ∃ t pre post,ztz o t (pre ++ xs.map (SA.den ρ) ++ post) ∧ pre.length = p.e * p.sz + p.o:=by
 cases b with
 |cells t l=>
  simp only [rdB] at h
  split at h
  ·rename_i xs hx
   obtain ⟨pre,post,h1,h2,h3⟩:=zc9 _ _ _ _ hx
   refine ⟨xs,h,h3,fun a ha=>hbl a (by rw [h1]; simp [ha]),t,pre.map (SA.den ρ),post.map (SA.den ρ),?_,by simpa using h2⟩
   simp only [SB.ok] at hok; rw [h1] at hok; exact IsRow.r (by simpa using hok)
  ·exact h.elim
 |arr t sz L room=>
  simp only [rdB] at h
  obtain ⟨g1,g2,tail,g3,g4⟩:=hok
  split at h
  ·rename_i hs
   have hs:=qg hs
   obtain ⟨x,hx,hk⟩:=h
   split at hk
   ·rename_i xs hxs
    obtain ⟨pre,post,h1,h2,h3⟩:=zc9 _ _ _ _ hxs
    obtain ⟨pre',post',k1,k2,_⟩:=zia L p.e x g1 hx
    refine ⟨xs,hk,h3,fun a ha=>hbl x (yi hx) a (by rw [h1]; simp [ha]),t,(pre' ++ pre).map (SA.den ρ),(post ++ post').map (SA.den ρ) ++ tail,?_,?_⟩
    ·rw [k1,h1] at g4; exact IsRow.r (by simpa using g4)
    ·simp [h2,k2,hs]
   ·exact hk.elim
  ·obtain ⟨xs,hxs,hk⟩:=h
   obtain ⟨pre,post,h1,h2,h3⟩:=zc9 _ _ _ _ hxs
   refine ⟨xs,hk,h3,fun a ha=>?_,t,pre.map (SA.den ρ),post.map (SA.den ρ) ++ tail,?_,by simpa using h2⟩
   ·obtain ⟨y,hy,hay⟩:=qax.1 (show a ∈ L.flatten by rw [h1]; simp [ha])
    exact hbl y hy a hay
   ·rw [h1] at g4; exact IsRow.r (by simpa using g4)
 |obj o'=>
  obtain ⟨xs,⟨h1,h2,h3⟩,hk⟩:=h
  obtain ⟨t,fr,pre,post,h4,h5⟩:=h3 ρ
  have hok:o = o':=hok
  exact ⟨xs,hk,h1,fun a ha=>SA.below_mono (yq _) (h2 a ha),t,pre,post,⟨fr,hok.trans h4⟩,h5⟩
theorem zl1 {C:Ctx} {ρ:Rho} {h:List (List (Nat × Ent))} {nx:Nat} {w:World} {p:Pl} {n:Nat} {K:List SA → Prop} (hr:rd h p n K) (s:Sat C ρ h nx w) :
  ∃ xs,K xs ∧ xs.length = n ∧ (∀ a ∈ xs,a.below nx) ∧ ∃ t pre post,znh w (ρ p.i p.k) t (pre ++ xs.map (SA.den ρ) ++ post) ∧ pre.length = p.e * p.sz + p.o:=by
 have key:∀ e,lget h p.i = some e → e.has p.k → rdB (e.at p.k) p n K → ∃ xs,K xs ∧ xs.length = n ∧ (∀ a ∈ xs,a.below nx) ∧ ∃ t pre post,znh w (ρ p.i p.k) t (pre ++ xs.map (SA.den ρ) ++ post) ∧ pre.length = p.e * p.sz + p.o:=by
  intro e he hk hb
  obtain ⟨o,ho,hok⟩:=s.blk _ e he _ hk
  obtain ⟨xs,h1,h2,h3,t,pre,post,h4,h5⟩:=zon hb hok (s.wf _ e he _ hk)
  exact ⟨xs,h1,h2,h3,t,pre,post,⟨o,ho,h4⟩,h5⟩
 unfold rd at hr
 split at hr
 ·rename_i b he
  split at hr
  ·rename_i hk; exact key _ he hk hr
  ·exact hr.elim
 ·rename_i c b he
  obtain ⟨hc,hr⟩:=hr
  split at hr
  ·rename_i hk; exact key _ he ⟨hc,hk⟩ hr
  ·exact hr.elim
 ·rename_i m c f he
  exact key _ he hr.1 hr.2
 ·rename_i F he
  obtain ⟨B,hB,hr⟩:=hr
  exact key _ he (by simp [Ent.has,hB]) (by simpa [Ent.at,hB] using hr)
 ·rename_i b he
  split at hr
  ·rename_i F hF
   obtain ⟨B,hB,hr⟩:=hr
   have hl:=s.lnk _ _ he p.k
   obtain ⟨o,ho,hok⟩:=s.blk 0 _ hF (b p.k) (by simp [Ent.has,hB])
   have hbl:=s.wf 0 _ hF (b p.k) (by simp [Ent.has,hB])
   simp only [Ent.at,hB,ju] at hok hbl
   rw [s.id0,← hl] at ho
   obtain ⟨xs,h1,h2,h3,t,pre,post,h4,h5⟩:=zon hr hok hbl
   exact ⟨xs,h1,h2,h3,t,pre,post,⟨o,ho,h4⟩,h5⟩
  ·exact hr.elim
 ·exact hr.elim
 ·exact hr.elim
theorem zuj {ρ:Rho} {b:SB} {p:Pl} {vs:List SA} {nx:Nat} {K:SB → Prop} {o:Obj} (h:wrB b p vs K) (hok:b.ok ρ o) (hbl:b.below nx) (hv:∀ a ∈ vs,a.below nx) :
  ∃ b',K b' ∧ b'.below nx ∧ ∃ t pre old post,IsRow o t (pre ++ old ++ post) ∧ pre.length = p.e * p.sz + p.o ∧ old.length = vs.length ∧ ∀ o',IsRow o' t (pre ++ vs.map (SA.den ρ) ++ post) → b'.ok ρ o':=by
 cases b with
 |cells t l=>
  simp only [wrB] at h
  split at h
  ·rename_i l' hx
   obtain ⟨pre,old,post,h1,h2,h3,h4⟩:=ze8 _ _ _ _ hx
   refine ⟨_,h,?_,t,pre.map (SA.den ρ),old.map (SA.den ρ),post.map (SA.den ρ),?_,by simpa using h3,by simpa using h4,?_⟩
   ·intro a ha; rw [h2] at ha; simp at ha
    rcases ha with ha | ha | ha
    ·exact hbl a (by rw [h1]; simp [ha])
    ·exact hv a ha
    ·exact hbl a (by rw [h1]; simp [ha])
   ·simp only [SB.ok] at hok; rw [h1] at hok; simpa using hok
   ·intro o' ho'; simp only [SB.ok]; rw [h2]; simpa using ho'
  ·exact h.elim
 |arr t sz L room=>
  simp only [wrB] at h
  obtain ⟨g1,g2,tail,g3,g4⟩:=hok
  split at h
  ·rename_i hs
   have hs:=qg hs
   obtain ⟨x,hx,hk⟩:=h
   split at hk
   ·rename_i x' hxs
    obtain ⟨pre,old,post,h1,h2,h3,h4⟩:=ze8 _ _ _ _ hxs
    obtain ⟨pre',post',k1,k2,k3⟩:=zia L p.e x g1 hx
    have hxl:x'.length = sz:=by
     have:=g1 x (yi hx)
     rw [h1] at this; rw [h2]; simp at this ⊢; omega
    refine ⟨_,hk,?_,t,(pre' ++ pre).map (SA.den ρ),old.map (SA.den ρ),(post ++ post').map (SA.den ρ) ++ tail,?_,?_,by simpa using h4,fun o' ho'=>⟨?_,?_,tail,?_,?_⟩⟩
    ·intro y hy a ha
     rcases qbd hy with hy | hy
     ·exact hbl y hy a ha
     ·subst hy; rw [h2] at ha; simp at ha
      rcases ha with ha | ha | ha
      ·exact hbl x (yi hx) a (by rw [h1]; simp [ha])
      ·exact hv a ha
      ·exact hbl x (yi hx) a (by rw [h1]; simp [ha])
    ·rw [k1,h1] at g4; simpa using g4
    ·simp [h3,k2,hs]
    ·intro y hy
     rcases qbd hy with hy | hy
     ·exact g1 y hy
     ·subst hy; exact hxl
    ·simpa using g2
    ·simpa using g3
    ·rw [k3 x',h2]; simpa using ho'
   ·exact hk.elim
  ·obtain ⟨L',hL1,hL2,hx,hk⟩:=h
   obtain ⟨pre,old,post,h1,h2,h3,h4⟩:=ze8 _ _ _ _ hx
   have hf:∀ a ∈ L.flatten,a.below nx:=fun a ha=>by
    obtain ⟨y,hy,hay⟩:=qax.1 ha
    exact hbl y hy a hay
   refine ⟨_,hk,?_,t,pre.map (SA.den ρ),old.map (SA.den ρ),post.map (SA.den ρ) ++ tail,?_,by simpa using h3,by simpa using h4,?_⟩
   ·intro y hy a ha
    have ha:a ∈ L'.flatten:=qax.2 ⟨y,hy,ha⟩
    rw [h2] at ha; simp at ha
    rcases ha with ha | ha | ha
    ·exact hf a (by rw [h1]; simp [ha])
    ·exact hv a ha
    ·exact hf a (by rw [h1]; simp [ha])
   ·rw [h1] at g4; simpa using g4
   ·intro o' ho'
    refine ⟨hL1,by rw [hL2]; exact g2,tail,by rw [hL2]; exact g3,?_⟩
    rw [h2]; simpa using ho'
 |obj o=>exact h.elim
theorem zea (w:World) (g b:Nat) (cs:Array Value) (h:b ≠ g):(w.setRow g cs).heap[b]? = w.heap[b]?:=by
 simp only [World.setRow,qcy]
 rw [if_neg (fun e=>h e.symm)]
theorem zrb {C:Ctx} {ρ:Rho} {h:List (List (Nat × Ent))} {nx:Nat} {w:World} {p:Pl} {vs:List SA} {K:List (List (Nat × Ent)) → Prop} (hr:wr h p vs K) (s:Sat C ρ h nx w)
  (hv:∀ a ∈ vs,a.below nx) :
  ∃ h' t pre old post,K h' ∧ RowAt w (ρ p.i p.k) t (pre ++ old ++ post) ∧ pre.length = p.e * p.sz + p.o ∧ old.length = vs.length ∧
   Sat C ρ h' nx (w.setRow (ρ p.i p.k) (pre ++ vs.map (SA.den ρ) ++ post).toArray):=by
 have key:∀ e (e':SB → Ent),lget h p.i = some e → e.plain = true → (∀ b',(e' b').plain = true) → e.has p.k → (∀ b' k',(e' b').has k' ↔ e.has k') → (∀ b' k',k' ≠ p.k → e.has k' → (e' b').at k' = e.at k') → (∀ b',(e' b').at p.k = b') →
   wrB (e.at p.k) p vs (fun b'=>K (lput h p.i (e' b'))) → ∃ h' t pre old post,K h' ∧ RowAt w (ρ p.i p.k) t (pre ++ old ++ post) ∧ pre.length = p.e * p.sz + p.o ∧ old.length = vs.length ∧
   Sat C ρ h' nx (w.setRow (ρ p.i p.k) (pre ++ vs.map (SA.den ρ) ++ post).toArray):=by
  intro e e' he hnr hnr' hk hh hat hat0 hb
  obtain ⟨o,ho,hok⟩:=s.blk _ e he _ hk
  obtain ⟨b',h1,h2,t,pre,old,post,h3,h4,h5,h6⟩:=zuj hb hok (s.wf _ e he _ hk) hv
  obtain ⟨fr,hn,rfl⟩:=h3
  refine ⟨_,t,pre,old,post,h1,⟨_,ho,fr,hn,rfl⟩,h4,h5,?_⟩
  exact s.upd p.k he hnr (hnr' b') hk (hh b') _ (hat b') (by rw [hat0]; exact h6 _ ⟨fr,by simp at hn ⊢; rw [h5] at hn; exact hn,rfl⟩) (by rw [hat0]; exact h2) rfl rfl rfl (by simp) (setRow_heap w _ _ _ t _ ho) (fun b hb'=>zea w _ b _ hb')
 unfold wr at hr
 split at hr
 ·rename_i b he
  split at hr
  ·rename_i hk
   exact key _ (fun b'=>.one b') he rfl (fun _=>rfl) hk (fun _ _=>Iff.rfl) (fun b' k' hne hk'=>absurd (hk'.trans hk.symm) hne) (fun _=>rfl) hr
  ·exact hr.elim
 ·rename_i c b he
  obtain ⟨hc,hr⟩:=hr
  split at hr
  ·rename_i hk
   exact key _ (fun b'=>.opt c b') he rfl (fun _=>rfl) ⟨hc,hk⟩ (fun _ _=>Iff.rfl) (fun b' k' hne hk'=>absurd (hk'.2.trans hk.symm) hne) (fun _=>rfl) hr
  ·exact hr.elim
 ·rename_i m c f he
  exact key _ (fun b'=>.fam m c fun k=>if k = p.k then b' else f k) he rfl (fun _=>rfl) hr.1 (fun _ _=>Iff.rfl) (fun b' k' hne _=>by simp [Ent.at,hne]) (fun _=>by simp [Ent.at]) hr.2
 ·exact hr.elim
 ·exact hr.elim
 ·exact hr.elim
 ·exact hr.elim
end Sx
