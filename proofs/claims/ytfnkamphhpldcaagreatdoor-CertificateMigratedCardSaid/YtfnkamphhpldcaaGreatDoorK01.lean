import Derived.WalkKit
import Derived.Laws.CopyOwn
set_option maxHeartbeats 64000000
namespace Sx
open Go
abbrev nb:=@Nat.le_of_ble_eq_true
abbrev od:=@of_decide_eq_true
abbrev oe:=@of_decide_eq_false
abbrev qa:=@List.length_map
abbrev qd:=@List.length_append
abbrev qe:=@List.getElem?_eq_getElem
abbrev qf:=@Bool.and_eq_true
abbrev qg:=@List.take_succ_eq_append_getElem
abbrev qh:=@List.length_cons
abbrev qi:=@List.getElem?_eq_some_iff
abbrev qj:=@List.mem_cons
abbrev qk:=@Nat.eq_of_beq_eq_true
abbrev ql:=@List.append_assoc
abbrev qm:=@Nat.le_refl
abbrev qn:=@List.take_of_length_le
abbrev qo:=@List.all_eq_true
abbrev qp:=@Int.toNat_natCast
abbrev qq:=@List.length_take
abbrev qs:=@List.not_mem_nil
abbrev qt:=@List.length_nil
abbrev qu:=@List.mem_singleton
abbrev qv:=@List.map_cons
abbrev qw:=@List.nil_append
abbrev qx:=@List.drop_eq_getElem_cons
abbrev qy:=@List.getElem?_map
abbrev qz:=@List.mem_map
abbrev q5:=@Nat.zero_add
abbrev q8:=@List.map_congr_left
abbrev q9:=@List.map_map
abbrev ji:=@Bool.false_and
abbrev jj:=@List.map_append
abbrev jk:=@Option.isSome_iff_exists
abbrev jm:=@List.append_nil
abbrev jo:=@Array.getElem?_eq_some_iff
abbrev jp:=@List.getElem_mem
abbrev jq:=@Int.tdiv_eq_ediv_of_nonneg
abbrev js:=@Nat.le_trans
abbrev jt:=@Int.natCast_nonneg
abbrev ju:=@Bool.false_eq_true
abbrev jv:=@List.eq_nil_of_length_eq_zero
abbrev jw:=@List.getElem?_append_left
abbrev jx:=@List.flatten_cons
abbrev jy:=@List.getElem?_append_right
abbrev jz:=@Nat.mod_eq_of_lt
abbrev yd:=@Bool.and_false
abbrev yf:=@List.mem_of_mem_take
abbrev yg:=@List.drop_of_length_le
abbrev yh:=@List.cons_append
abbrev yi:=@Option.getD_some
abbrev yj:=@Nat.zero_le
abbrev yk:=@List.length_singleton
abbrev yl:=@List.flatten_append
abbrev ym:=@List.mem_append
abbrev yp:=@List.mem_cons_of_mem
abbrev yq:=@Nat.lt_of_le_of_lt
abbrev yr:=@List.getElem_map
abbrev yt:=@List.take_length
abbrev yu:=@List.length_drop
abbrev yv:=@List.map_nil
abbrev yw:=@List.mem_of_getElem?
abbrev yx:=@Nat.zero_lt_one
abbrev yy:=@Bool.or_eq_true
abbrev yz:=@Nat.lt_of_lt_of_le
abbrev y4:=@List.take_append_drop
abbrev y5:=@List.foldl_cons
abbrev y6:=@Int.tmod_eq_emod_of_nonneg
abbrev y8:=@List.length_eq_zero_iff
abbrev y9:=@List.getD_eq_getElem?_getD
abbrev qaa:=@List.size_toArray
abbrev qab:=@Bool.true_and
abbrev qac:=@Nat.le_succ
abbrev qad:=@List.length_filter_le
abbrev qae:=@Array.replicate_succ
abbrev qaf:=@List.drop_zero
abbrev qag:=@List.getElem?_drop
abbrev qah:=@Array.replicate_zero
abbrev qai:=@Option.map_eq_some_iff
abbrev qaj:=@List.append_toArray
abbrev qak:=@List.length_zip
abbrev qal:=@Nat.add_sub_cancel_left
abbrev qam:=@List.mem_of_mem_drop
abbrev qan:=@Bool.not_eq_true'
abbrev qao:=@List.push_toArray
abbrev qap:=@Nat.min_eq_left
abbrev qaq:=@List.set_cons_zero
abbrev qar:=@List.flatten_nil
abbrev qas:=@Nat.add_zero
abbrev qat:=@Nat.sub_zero
abbrev qau:=@Int.le_trans
abbrev qav:=@UInt8.toNat_ofNat'
abbrev qaw:=@Int.fdiv_eq_ediv_of_nonneg
abbrev qax:=@Array.getElem?_append_left
abbrev qay:=@Nat.ble_eq_true_of_le
abbrev qaz:=@Nat.mul_le_mul_right
abbrev qa0:=@List.mem_append_left
abbrev qa1:=@List.foldl_append
abbrev qa2:=@Nat.le_succ_of_le
abbrev qa3:=@List.getElem?_take_of_lt
abbrev qa4:=@Nat.mod_lt
abbrev qa5:=@List.length_pos_iff
abbrev qa6:=@List.mem_flatten
abbrev qa7:=@List.take_take
abbrev qa8:=@List.foldl_nil
abbrev qa9:=@Nat.mul_le_mul
abbrev qba:=@List.drop_eq_nil_of_le
abbrev qbb:=@Nat.mul_comm
abbrev qbc:=@List.length_set
abbrev qbd:=@Bool.false_or
abbrev qbe:=@Nat.add_assoc
abbrev qbf:=@List.set_append_right
abbrev qbg:=@List.mem_append_right
abbrev qbh:=@List.length_replicate
abbrev qbi:=@List.any_eq_false
abbrev qbj:=@Nat.two_pow_add_eq_or_of_lt
abbrev qbk:=@Nat.pow_le_pow_right
abbrev qbl:=@List.getElem?_set_ne
abbrev qbm:=@Nat.add_mul
abbrev qbn:=@Int.mul_le_mul
abbrev qbo:=@List.map_flatten
abbrev qbp:=@List.map_set
abbrev qbq:=@Array.getElem?_eq_getElem
abbrev qbr:=@List.mem_or_eq_of_mem_set
abbrev qbs:=@List.length_zipWith
abbrev qbt:=@List.length_flatten
abbrev qbu:=@Nat.mul_le_mul_left
abbrev qbv:=@List.replicate_succ
abbrev qbw:=@List.all_cons
abbrev qbx:=@Nat.div_le_self
abbrev qby:=@Nat.not_lt_zero
abbrev qbz:=@Int.natCast_mul
abbrev qb0:=@List.zip_cons_cons
abbrev qb1:=@Int.tmod_lt_of_pos
abbrev qb2:=@List.mem_cons_self
abbrev qb3:=@List.mem_replicate
abbrev qb4:=@List.getElem?_cons_succ
abbrev qb5:=@Nat.le_of_eq
abbrev qb6:=@Nat.succ_mul
abbrev qb7:=@Nat.lt_or_ge
abbrev qb8:=@List.ext_getElem?
abbrev qb9:=@List.getElem?_set_self
abbrev qca:=@List.getElem?_eq_none
abbrev qcb:=@List.getElem?_toArray
abbrev qcc:=@Nat.lt_succ_self
abbrev qcd:=@Int.mul_le_mul_of_nonneg_right
abbrev qce:=@Int.not_lt
abbrev qcf:=@Nat.and_two_pow_sub_one_eq_mod
abbrev qcg:=@List.take_append_of_le_length
abbrev qch:=@Nat.add_le_add_right
abbrev qci:=@Nat.and_le_left
abbrev qcj:=@List.mem_filter
abbrev qck:=@Int.tmod_nonneg
abbrev qcl:=@Int.natCast_add
abbrev qcm:=@Nat.ne_of_lt
abbrev qcn:=@Nat.add_comm
abbrev qco:=@Nat.xor_lt_two_pow
abbrev qcp:=@List.drop_left
abbrev qcq:=@UInt8.toNat_lt
abbrev qcr:=@List.mem_range
abbrev qcs:=@Nat.eq_zero_or_pos
abbrev qct:=@Int.mul_nonneg
abbrev qcu:=@List.filter_append
abbrev qcv:=@List.set_cons_succ
abbrev qcw:=@Array.mapM_eq_mapM_toList
abbrev qcx:=@Bool.eq_false_iff
abbrev qcy:=@List.getElem?_set
abbrev qcz:=@List.map_id
abbrev qc0:=@Nat.mul_one
abbrev qc1:=@List.map_take
abbrev qc2:=@Int.mul_tdiv_cancel_left
abbrev qc3:=@List.all_reverse
abbrev qc4:=@List.getElem_zip
abbrev qc5:=@Option.bind_some
abbrev qc6:=@List.append_eq_nil_iff
abbrev qc7:=@Nat.pow_succ
abbrev qc8:=@List.sum_replicate_nat
abbrev qc9:=@List.of_mem_zip
abbrev qda:=@Option.map_some
abbrev qdb:=@List.take_left'
abbrev qdc:=@List.range_succ
abbrev qdd:=@List.singleton_append
abbrev qde:=@Array.getElem?_modify
abbrev qdf:=@Nat.div_lt_of_lt_mul
abbrev qdg:=@Array.getElem?_push
abbrev qdh:=@Int.toNat_of_nonneg
abbrev qdi:=@List.sum_cons
abbrev qdj:=@Bool.and_true
abbrev qdk:=@Nat.min_self
abbrev qdl:=@Int.pow_pos
theorem tv:True:=.intro
abbrev Rho:=Nat → Nat → Nat
structure Pl where
 i:Nat
 k:Nat
 e:Nat
 sz:Nat
 o:Nat
def Pl.addr (ρ:Rho) (p:Pl):Addr:=⟨ρ p.i p.k,p.e * p.sz + p.o,none⟩
inductive SA where
 |int (k:IntKind) (n:Int)
 |lit (b:Bool)
 |bool (b:Bool)
 |str (s:List UInt8)
 |ptr (p:Pl)
 |slice (nil:Bool) (i k e sz len cap:Nat)
 |nilptr
 |nilfn
 |nilif
 |ifc (t:TypeId) (v:Value)
 |glob (g:Nat)
 |fn (f:Fn) (cap:List Pl)
 |iter (i k:Nat)
 |map (i k:Nat)
 |nilmap
 |nilsl
def SA.den (ρ:Rho):SA → Value
 |.int k n=>.int k n
 |.lit b=>.bool b
 |.bool b=>.bool b
 |.str s=>.string ⟨s.toArray⟩
 |.ptr p=>.pointer (some (p.addr ρ))
 |.slice nil i k e sz len cap=>.slice (if nil then none else some ⟨ρ i k,e * sz,none⟩) len cap
 |.nilptr=>.pointer none
 |.nilfn=>.nilFunc
 |.nilif=>.nilIface
 |.ifc t v=>.iface t v
 |.glob g=>.pointer (some ⟨g,0,none⟩)
 |.fn f cap=>.func f #[] (cap.map fun p=>Value.pointer (some (p.addr ρ))).toArray
 |.iter i k=>.pointer (some ⟨ρ i k,0,none⟩)
 |.map i k=>.map (some (ρ i k))
 |.nilmap=>.map none
 |.nilsl=>.slice none 0 0
def SA.below (n:Nat):SA → Prop
 |.ptr p=>p.i < n
 |.slice nil i ..=>nil = true ∨ i < n
 |.fn _ cap=>∀ p ∈ cap,p.i < n
 |.iter i _=>i < n
 |.map i _=>i < n
 |_=>True
theorem SA.below_mono {n m:Nat} (h:n ≤ m) {a:SA} (b:a.below n):a.below m:=by
 cases a<;>simp only [SA.below] at *<;>first | omega | (intro p c; have:=b p c; omega) | exact b.imp id (fun d=>by omega) | trivial
theorem SA.den_congr {ρ c:Rho} {n:Nat} (h:∀ i,i < n → c i = ρ i) {a:SA} (b:a.below n):a.den c = a.den ρ:=by
 cases a<;>simp only [SA.below] at b<;>simp only [SA.den,Pl.addr]
 ·rw [h _ b]
 ·rename_i nil i k e sz f cap;cases nil with
  |true=>rfl
  |false=>simp only [ju,false_or] at b; rw [h _ b]
 ·congr 2
  exact q8 fun p d=>by rw [h _ (b p d)]
 ·rw [h _ b]
 ·rw [h _ b]
theorem SA.one (ρ:Rho) (a:SA):(a.den ρ).oneCell' = true:=by cases a<;>rfl
inductive SC where
 |va (a:SA)
 |agg (l:List SA)
def SC.den (ρ:Rho):SC → Value
 |.va a=>a.den ρ
 |.agg l=>.agg (l.map (SA.den ρ)).toArray
inductive SV where
 |va (a:SA)
 |agg (l:List SA)
 |tup (l:List SC)
 |junk
def SC.v:SC → SV
 |.va a=>.va a
 |.agg l=>.agg l
def SC.below (n:Nat):SC → Prop
 |.va a=>a.below n
 |.agg l=>∀ a ∈ l,a.below n
def SV.below (n:Nat):SV → Prop
 |.va a=>a.below n
 |.agg l=>∀ a ∈ l,a.below n
 |.tup l=>∀ c ∈ l,c.below n
 |.junk=>True
theorem SC.below_mono {n m:Nat} (h:n ≤ m) {a:SC} (b:a.below n):a.below m:=by
 cases a with
 |va a=>exact SA.below_mono h b
 |agg l=>exact fun a c=>SA.below_mono h (b a c)
theorem SV.below_mono {n m:Nat} (h:n ≤ m) {a:SV} (d:a.below n):a.below m:=by
 cases a with
 |va a=>exact SA.below_mono h d
 |agg l=>exact fun a b=>SA.below_mono h (d a b)
 |tup l=>exact fun c b=>SC.below_mono h (d c b)
 |junk=>trivial
theorem zc7 {ρ b:Rho} {n:Nat} (h:∀ i,i < n → b i = ρ i) {l:List SA} (c:∀ a ∈ l,a.below n):l.map (SA.den b) = l.map (SA.den ρ):=
 q8 fun a d=>SA.den_congr h (c a d)
def SV.rel (ρ:Rho):SV → Value → Prop
 |.va a,v=>v = a.den ρ
 |.agg l,v=>v = .agg (l.map (SA.den ρ)).toArray
 |.tup l,v=>v = .tuple (l.map (SC.den ρ)).toArray
 |.junk,_=>True
theorem SV.rel_congr {ρ e:Rho} {n:Nat} (h:∀ i,i < n → e i = ρ i) {s:SV} (d:s.below n) {v:Value} (b:s.rel ρ v):s.rel e v:=by
 cases s with
 |va a=>simp only [SV.rel] at *; rw [b,SA.den_congr h d]
 |agg l=>simp only [SV.rel] at *; rw [b,zc7 h d]
 |tup l=>
  simp only [SV.rel] at *; rw [b]; congr 2;refine q8 fun c g=>?_
  have f:=d c g;cases c with
  |va a=>exact (SA.den_congr h f).symm
  |agg l=>simp only [SC.den]; rw [zc7 h f]
 |junk=>trivial
def relL (ρ:Rho):List SV → List Value → Prop
 |[],[]=>True
 |s :: ss,v :: vs=>s.rel ρ v ∧ relL ρ ss vs
 |_,_=>False
inductive SB where
 |cells (t:TypeId) (l:List SA)
 |arr (t:TypeId) (sz:Nat) (L:List (List SA)) (room:Nat)
 |obj (o:Obj)
def NoFr (a:Nat × Nat) (n:Nat):Prop:=∀ j,j < n → ¬ (a.1 ≤ j ∧ j < a.2)
theorem NoFr.zero (n:Nat):NoFr (0,0) n:=fun _ _ h=>absurd h.2 (qby _)
def IsRow (o:Obj) (t:TypeId) (a:List Value):Prop:=∃ b,NoFr b a.length ∧ o = .cells a.toArray t b
def SB.ok (ρ:Rho):SB → Obj → Prop
 |.cells t l,o=>IsRow o t (l.map (SA.den ρ))
 |.arr t sz L room,o=>(∀ x ∈ L,x.length = sz) ∧ L.length ≤ room ∧
   ∃ a:List Value,a.length = (room - L.length) * sz ∧ IsRow o t (L.flatten.map (SA.den ρ) ++ a)
 |.obj o',o=>o = o'
def SB.below (n:Nat):SB → Prop
 |.cells _ l=>∀ a ∈ l,a.below n
 |.arr _ _ L _=>∀ x ∈ L,∀ a ∈ x,a.below n
 |.obj _=>True
theorem SB.below_mono {n m:Nat} (h:n ≤ m) {b:SB} (d:b.below n):b.below m:=by
 cases b with
 |cells t l=>exact fun a c=>SA.below_mono h (d a c)
 |arr t sz L room=>exact fun x e a c=>SA.below_mono h (d x e a c)
 |obj o=>trivial
theorem SB.ok_congr {ρ f:Rho} {n:Nat} (h:∀ i,i < n → f i = ρ i) {b:SB} (g:b.below n) {o:Obj} (d:b.ok ρ o):b.ok f o:=by
 cases b with
 |cells t l=>simp only [SB.ok] at *; rw [zc7 h g]; exact d
 |arr t sz L room=>
  simp only [SB.ok] at *;obtain ⟨h1,m,c,p,k⟩:=d;refine ⟨h1,m,c,p,?_⟩;rw [zc7 h (l:=L.flatten) (fun a q=>by obtain ⟨x,j,e⟩:=qa6.1 q; exact g x j a e)];exact k
 |obj o=>exact d
abbrev Fz:=Nat → Option SB
def Fz.le (F a:Fz):Prop:=∀ b B,F b = some B → a b = some B
theorem Fz.r (F:Fz):Fz.le F F:=fun _ _ h=>h
theorem Fz.t {F G H:Fz} (h:Fz.le F G) (a:Fz.le G H):Fz.le F H:=fun b B c=>a b B (h b B c)
inductive Ent where
 |one (b:SB)
 |opt (c:Bool) (b:SB)
 |fam (n:Nat) (c:Nat → Bool) (f:Nat → SB)
 |gone
 |frz (F:Fz)
 |lnk (b:Nat → Nat)
def Ent.isFz:Ent → Bool
 |.frz _=>true
 |_=>false
def Ent.has:Ent → Nat → Prop
 |.one _,k=>k = 0
 |.opt c _,k=>c = true ∧ k = 0
 |.fam n c _,k=>k < n ∧ c k = true
 |.gone,_=>False
 |.frz F,k=>(F k).isSome = true
 |.lnk _,_=>False
def Ent.at:Ent → Nat → SB
 |.one b,_=>b
 |.opt _ b,_=>b
 |.fam _ _ f,k=>f k
 |.gone,_=>.cells 0 []
 |.frz F,k=>(F k).getD (.cells 0 [])
 |.lnk _,_=>.cells 0 []
def aget {β:Type}:List (Nat × β) → Nat → Option β
 |[],_=>none
 |(m,v) :: r,n=>match Nat.beq n m with
  |true=>some v
  |false=>aget r n
def lget {β:Type}:List (List (Nat × β)) → Nat → Option β
 |[],_=>none
 |l :: r,n=>match aget l n with
  |some v=>some v
  |none=>lget r n
def lput {β:Type} (l:List (List (Nat × β))) (n:Nat) (v:β):List (List (Nat × β)):=
 match l with
 |[]=>[[(n,v)]]
 |x :: r=>((n,v) :: x) :: r
theorem zaf {β:Type} (l:List (List (Nat × β))) (n:Nat) (v:β):lget (lput l n v) n = some v:=by
 cases l with
 |nil=>simp [lput,lget,aget]
 |cons x r=>simp [lput,lget,aget]
theorem zac {β:Type} (l:List (List (Nat × β))) (n m:Nat) (v:β) (h:m ≠ n):lget (lput l n v) m = lget l m:=by
 have a:Nat.beq m n = false:=by
  cases b:Nat.beq m n with
  |false=>rfl
  |true=>exact absurd (qk b) h
 cases l with
 |nil=>simp [lput,lget,aget,a]
 |cons x r=>simp [lput,lget,aget,a]
inductive Dk where
 |fn (f:FuncId)
 |clo (f:FuncId)
 |col
structure St where
 t:List (List (Nat × SV))
 h:List (List (Nat × Ent))
 nx:Nat
 n0:Nat
 nt:Nat
 d:List (Dk × List SA)
def St.owns (h:List (List (Nat × Ent))) (i k:Nat):Prop:=∃ e,lget h i = some e ∧ e.has k
structure Ctx where
 w0:World
 ρ0:Rho
 n0:Nat
 B:Nat → Prop
 R:Nat → Prop
structure Sat (C:Ctx) (ρ:Rho) (h:List (List (Nat × Ent))) (nx:Nat) (w:World):Prop where
 lt:∀ i e,lget h i = some e → i < nx
 blk:∀ i e,lget h i = some e → ∀ k,e.has k → ∃ o,w.heap[ρ i k]? = some o ∧ (e.at k).ok ρ o
 wf:∀ i e,lget h i = some e → ∀ k,e.has k → (e.at k).below nx
 inj:∀ i k i' k',St.owns h i k → St.owns h i' k' → ρ i k = ρ i' k' → i = i' ∧ k = k'
 anch:∀ i,i < C.n0 → ∀ k,ρ i k = C.ρ0 i k
 n0:C.n0 ≤ nx
 n1:1 ≤ C.n0
 os:w.os = C.w0.os
 tape:w.tape = C.w0.tape
 output:w.output = C.w0.output
 size:C.w0.heap.size ≤ w.heap.size
 fr:∀ b,b < C.w0.heap.size → ¬ C.B b → w.heap[b]? = C.w0.heap[b]?
 own:∀ i k,St.owns h i k → (i = 0 ∧ C.R k) ∨ C.B (ρ i k) ∨ C.w0.heap.size ≤ ρ i k
 fz:∃ F,lget h 0 = some (.frz F) ∧ ∀ b B,F b = some B → B.below 1
 id0:∀ k,ρ 0 k = k
 only:∀ i F,lget h i = some (.frz F) → i = 0
 lnk:∀ i b,lget h i = some (.lnk b) → ∀ k,ρ i k = b k
def blkOf:List Value → Nat
 |.pointer (some p) :: _=>p.block
 |_=>0
def defV:Dk → List Value → Deferred
 |.fn f,vs=>{ target:=.fn (.func f) #[],args:=vs.toArray }
 |.clo f,vs=>{ target:=.fn (.func f) vs.toArray,args:=#[] }
 |.col,vs=>{ target:=.collected (blkOf vs),args:=#[] }
def defOf (ρ:Rho) (x:Dk × List SA):Deferred:=defV x.1 (x.2.map (SA.den ρ))
structure Den (C:Ctx) (ρ:Rho) (st:St) (a:Act) (w:World):Prop where
 sat:Sat C ρ st.h st.nx w
 nt:a.tmps.size = st.nt
 tm:∀ n s,lget st.t n = some s → ∃ v,a.tmps[n]? = some v ∧ s.rel ρ v
 tw:∀ n s,lget st.t n = some s → s.below st.nx
 n0:C.n0 = st.n0
 df:a.defers = st.d.map (defOf ρ)
 dw:∀ x ∈ st.d,∀ a ∈ x.2,a.below st.nx
inductive SE where
 |normal
 |ret
 |exit (id:Nat)
 |panic (v:Value)
def SE.to:SE → Exit
 |.normal=>.normal
 |.ret=>.ret
 |.exit id=>.exit id
 |.panic v=>.panic [{ v,recovered:=false }]
def Up (C:Ctx) (Q:SE → St → Prop):Exit → Act → World → Prop:=
 fun e a w=>∃ c b ρ,Q c b ∧ e = c.to ∧ Den C ρ b a w
@[irreducible] def WP (P:Program) (c:Code) (st:St) (Q:SE → St → Prop):Prop:=
 ∀ C ρ a w,Den C ρ st a w → c.wp P (Up C Q) a w
inductive Out where
 |ret (v:SV)
 |panic (v:Value)
def Out.rel (ρ:Rho):Out → Ending → Prop
 |.ret s,e=>∃ v,e = .returned v ∧ s.rel ρ v
 |.panic v,e=>e = .panicked [{ v,recovered:=false }]
@[irreducible] def Enters (P:Program) (f:FuncId):Prop:=∀ (args:Array Value) (w:World),(callFunc f args).run P w = .ok (.enter f args) w
theorem enters_of {P:Program} {f:FuncId} {fn:Func} {c:Code} (e:P.funcs[f]? = some fn) (d:fn.body = some c) (b:(fn.name == "runtime.NumGoroutine") = false):Enters P f:=by
 unfold Enters;intro args w;have a:¬ fn.name = "runtime.NumGoroutine" := by simpa using b
 simp [callFunc,e,d,a]
@[irreducible] def zba (P:Program) (f:FuncId) (args:List SV) (h:List (List (Nat × Ent))) (nx:Nat) (K:Out → List (List (Nat × Ent)) → Nat → Prop):Prop:=
 ∀ C ρ w vs,Sat C ρ h nx w → relL ρ args vs → (∀ s ∈ args,s.below nx) →
  Enters P f ∧ Calls P f vs.toArray w fun e w'=>∃ out h' nx' ρ',K out h' nx' ∧ out.rel ρ' e ∧ Sat C ρ' h' nx' w' ∧ (∀ i,i < nx → ρ' i = ρ i) ∧ nx ≤ nx' ∧ (match out with | .ret s=>s.below nx' | .panic _=>True)
theorem zcy {h:List (List (Nat × Ent))} {n i k:Nat} {e:Ent} (d:St.owns (lput h n e) i k):(i = n ∧ e.has k) ∨ (i ≠ n ∧ St.owns h i k):=by
 obtain ⟨e',a,c⟩:=d;by_cases b:i = n
 ·subst b; rw [zaf] at a; cases a; exact .inl ⟨rfl,c⟩
 ·rw [zac _ _ _ _ b] at a; exact .inr ⟨b,e',a,c⟩
def Ent.plain:Ent → Bool
 |.one _=>true
 |.opt _ _=>true
 |.fam _ _ _=>true
 |_=>false
theorem Ent.plain_ne {e:Ent} (h:e.plain = true):(∀ F,e ≠ .frz F) ∧ (∀ b,e ≠ .lnk b):=by
 cases e<;>simp [Ent.plain] at h ⊢
theorem Sat.pos {C:Ctx} {ρ:Rho} {h:List (List (Nat × Ent))} {nx:Nat} {w:World} (s:Sat C ρ h nx w):0 < nx:=by
 obtain ⟨F,a,_⟩:=s.fz;exact s.lt 0 _ a
theorem Sat.ne0 {C:Ctx} {ρ:Rho} {h:List (List (Nat × Ent))} {nx:Nat} {w:World} (s:Sat C ρ h nx w) {i:Nat} {e:Ent} (a:lget h i = some e) (c:e.plain = true):i ≠ 0:=by
 rintro rfl;obtain ⟨F,b,_⟩:=s.fz;rw [b] at a; cases a; cases c
def rext (ρ:Rho) (nx b:Nat):Rho:=fun i k=>if i = nx then b else ρ i k
theorem zd4 {ρ:Rho} {nx b i:Nat} (h:i < nx):rext ρ nx b i = ρ i:=by
 funext k; simp [rext,qcm h]
theorem zbm (ρ:Rho) (nx b k:Nat):rext ρ nx b nx k = b:=by simp [rext]
theorem Sat.world {C:Ctx} {ρ:Rho} {h:List (List (Nat × Ent))} {nx:Nat} {w a:World} (s:Sat C ρ h nx w)
  (c:a.heap = w.heap) (g:a.os = w.os) (d:a.tape = w.tape) (m:a.output = w.output):Sat C ρ h nx a:=
 { s with
  blk:=fun i e j k f=>by rw [c]; exact s.blk i e j k f
  os:=g.trans s.os,tape:=d.trans s.tape,output:=m.trans s.output
  size:=by rw [c]; exact s.size
  fr:=fun b n l=>by rw [c]; exact s.fr b n l }
theorem Sat.drew {C:Ctx} {ρ:Rho} {h:List (List (Nat × Ent))} {nx:Nat} {w:World} (s:Sat C ρ h nx w):Sat C ρ h nx w.drew:=
 s.world rfl rfl rfl rfl
theorem Sat.blt {C:Ctx} {ρ:Rho} {h:List (List (Nat × Ent))} {nx:Nat} {w:World} (s:Sat C ρ h nx w) {i k:Nat} (c:St.owns h i k):ρ i k < w.heap.size:=by
 obtain ⟨e,d,a⟩:=c;obtain ⟨o,b,_⟩:=s.blk i e d k a;exact (jo.1 b).1
theorem hpush (w:World) (o:Obj) (i:Nat) (h:i < w.heap.size):(w.alloc o).heap[i]? = w.heap[i]?:=by
 show (w.heap.push o)[i]? = w.heap[i]?;rw [qdg,if_neg (qcm h)]
theorem Sat.new {C:Ctx} {ρ:Rho} {h:List (List (Nat × Ent))} {nx:Nat} {w:World} (s:Sat C ρ h nx w) (b:SB) (o:Obj)
  (D:b.below nx) (A:b.ok ρ o):Sat C (rext ρ nx w.heap.size) (lput h nx (.one b)) (nx + 1) (w.alloc o):=by
 have a:∀ i,i < nx → rext ρ nx w.heap.size i = ρ i:=fun i c=>zd4 c
 have d:∀ i k,St.owns h i k → i < nx:=fun i k ⟨e,f,_⟩=>s.lt i e f
 refine { lt:=?_,blk:=?_,wf:=?_,inj:=?_,anch:=?_,n0:=qa2 s.n0,n1:=s.n1,os:=s.os,tape:=s.tape,output:=s.output,size:=?_,fr:=?_,own:=?_,fz:=by rw [zac _ _ _ _ (qcm s.pos)]; exact s.fz,id0:=fun k=>by rw [a 0 s.pos]; exact s.id0 k,only:=?_,lnk:=?_ }
 ·intro i e f;by_cases c:i = nx
  ·omega
  ·rw [zac _ _ _ _ c] at f; have:=s.lt i e f; omega
 ·intro i e f k l;by_cases c:i = nx
  ·subst c; rw [zaf] at f; cases f
   refine ⟨o,?_,SB.ok_congr a D A⟩;rw [zbm]; show (w.heap.push o)[w.heap.size]? = some o; simp
  ·rw [zac _ _ _ _ c] at f;have u:=s.lt i e f;obtain ⟨J,g,p⟩:=s.blk i e f k l;refine ⟨J,?_,SB.ok_congr a (s.wf i e f k l) p⟩;rw [a i u,hpush w o _ (jo.1 g).1]; exact g
 ·intro i e f k l;by_cases c:i = nx
  ·subst c; rw [zaf] at f; cases f; exact SB.below_mono (qac _) D
  ·rw [zac _ _ _ _ c] at f; exact SB.below_mono (qac _) (s.wf i e f k l)
 ·intro i k i' K h1 G j;rcases zcy h1 with ⟨rfl,l⟩ | ⟨c,m⟩<;>rcases zcy G with ⟨rfl,x⟩ | ⟨I,g⟩
  ·simp only [Ent.has] at l x; exact ⟨rfl,by omega⟩
  ·rw [zbm,a i' (d _ _ g)] at j; have:=s.blt g; omega
  ·rw [zbm,a i (d _ _ m)] at j; have:=s.blt m; omega
  ·rw [a i (d _ _ m),a i' (d _ _ g)] at j;exact s.inj _ _ _ _ m g j
 ·intro i c k; have:=s.n0; rw [a i (by omega)]; exact s.anch i c k
 ·have:=s.size; show _ ≤ (w.heap.push o).size; simp; omega
 ·intro y B E;have:=s.size;rw [hpush w o _ (by omega)]; exact s.fr y B E
 ·intro i k h1;rcases zcy h1 with ⟨rfl,l⟩ | ⟨c,m⟩
  ·right; right; rw [zbm]; exact s.size
  ·rw [a i (d _ _ m)]; exact s.own _ _ m
 ·intro i F q;by_cases c:i = nx
  ·subst c; rw [zaf] at q; cases q
  ·rw [zac _ _ _ _ c] at q; exact s.only i F q
 ·intro i y n k;by_cases c:i = nx
  ·subst c; rw [zaf] at n; cases n
  ·rw [zac _ _ _ _ c] at n;rw [a i (s.lt i _ n)]; exact s.lnk i y n k
theorem Sat.upd {C:Ctx} {ρ:Rho} {h:List (List (Nat × Ent))} {nx:Nat} {w G:World} (s:Sat C ρ h nx w) {i:Nat} {e e':Ent} (k:Nat) (A:lget h i = some e) (T:e.plain = true) (B:e'.plain = true)
  (S:e.has k) (q:∀ f,e'.has f ↔ e.has f) (o':Obj) (I:∀ f,f ≠ k → e.has f → e'.at f = e.at f) (Z:(e'.at k).ok ρ o') (aa:(e'.at k).below nx)
  (ab:G.os = w.os) (ht:G.tape = w.tape) (hp:G.output = w.output) (X:G.heap.size = w.heap.size)
  (J:G.heap[ρ i k]? = some o') (u:∀ b,b ≠ ρ i k → G.heap[b]? = w.heap[b]?):Sat C ρ (lput h i e') nx G:=by
 have D:∀ f,e'.has f → St.owns h i f:=fun f j=>⟨e,A,(q f).1 j⟩
 have m:∀ i' f,St.owns (lput h i e') i' f → St.owns h i' f:=by
  intro i' f U;rcases zcy U with ⟨rfl,j⟩ | ⟨_,U⟩
  ·exact D _ j
  ·exact U
 have K:=s.ne0 A T
 have y:∀ O R L,St.owns h O R → e.has L → ρ O R = ρ i L → O = i ∧ R = L:=fun O R L h1 Y n=>
  s.inj _ _ _ _ h1 ⟨e,A,Y⟩ n
 refine { lt:=?_,blk:=?_,wf:=?_,inj:=fun a b c d h1 Y n=>s.inj a b c d (m _ _ h1) (m _ _ Y) n,anch:=s.anch,n0:=s.n0,n1:=s.n1,os:=ab.trans s.os,tape:=ht.trans s.tape,output:=hp.trans s.output,size:=by rw [X]; exact s.size,fr:=?_,own:=fun a b h1=>s.own a b (m _ _ h1),fz:=by rw [zac _ _ _ _ (Ne.symm K)]; exact s.fz,id0:=s.id0,only:=?_,lnk:=?_ }
 ·intro i' e1 g;by_cases l:i' = i
  ·subst l; exact s.lt _ e A
  ·rw [zac _ _ _ _ l] at g; exact s.lt _ _ g
 ·intro i' e1 g f j;by_cases l:i' = i
  ·subst l; rw [zaf] at g; cases g
   by_cases p:f = k
   ·subst p; exact ⟨o',J,Z⟩
   ·have o:=(q f).1 j;obtain ⟨V,E,x⟩:=s.blk _ e A f o;refine ⟨V,?_,by rw [I f p o]; exact x⟩;rw [u _ (fun n=>p (y _ _ _ ⟨e,A,o⟩ S n).2)]; exact E
  ·rw [zac _ _ _ _ l] at g;obtain ⟨V,E,x⟩:=s.blk _ _ g f j;refine ⟨V,?_,x⟩;rw [u _ (fun n=>l (y _ _ _ ⟨e1,g,j⟩ S n).1)]; exact E
 ·intro i' e1 g f j;by_cases l:i' = i
  ·subst l; rw [zaf] at g; cases g
   by_cases p:f = k
   ·subst p; exact aa
   ·have o:=(q f).1 j;rw [I f p o]; exact s.wf _ e A f o
  ·rw [zac _ _ _ _ l] at g; exact s.wf _ _ g f j
 ·intro b hb hB
  have ac:b ≠ ρ i k:=by
   intro W; subst W;rcases s.own i k ⟨e,A,S⟩ with h1 | h1 | h1
   ·exact K h1.1
   ·exact hB h1
   ·omega
  rw [u b ac]; exact s.fr b hb hB
 ·intro i' F M;by_cases l:i' = i
  ·subst l; rw [zaf] at M; cases M; exact absurd rfl ((Ent.plain_ne B).1 F)
  ·rw [zac _ _ _ _ l] at M; exact s.only i' F M
 ·intro i' b' Q f;by_cases l:i' = i
  ·subst l; rw [zaf] at Q; cases Q; exact absurd rfl ((Ent.plain_ne B).2 b')
  ·rw [zac _ _ _ _ l] at Q; exact s.lnk i' b' Q f
theorem Sat.forget {C:Ctx} {ρ:Rho} {h:List (List (Nat × Ent))} {nx:Nat} {w:World} (s:Sat C ρ h nx w) {i:Nat} (y:i < nx) (p:i ≠ 0):Sat C ρ (lput h i .gone) nx w:=by
 have g:∀ i' k,St.owns (lput h i .gone) i' k → St.owns h i' k:=by
  intro i' k n;rcases zcy n with ⟨rfl,f⟩ | ⟨_,n⟩
  ·exact f.elim
  ·exact n
 refine { s with lt:=?_,blk:=?_,wf:=?_,inj:=fun a b c d h1 u o=>s.inj a b c d (g _ _ h1) (g _ _ u) o,own:=fun a b h1=>s.own a b (g _ _ h1),fz:=by rw [zac _ _ _ _ (Ne.symm p)]; exact s.fz,only:=?_,lnk:=?_ }
 ·intro i' q e;by_cases j:i' = i
  ·subst j; exact y
  ·rw [zac _ _ _ _ j] at e; exact s.lt _ _ e
 ·intro i' q e k f;by_cases j:i' = i
  ·subst j; rw [zaf] at e; cases e; exact f.elim
  ·rw [zac _ _ _ _ j] at e; exact s.blk _ _ e k f
 ·intro i' q e k f;by_cases j:i' = i
  ·subst j; rw [zaf] at e; cases e; exact f.elim
  ·rw [zac _ _ _ _ j] at e; exact s.wf _ _ e k f
 ·intro i' F l;by_cases j:i' = i
  ·subst j; rw [zaf] at l; cases l
  ·rw [zac _ _ _ _ j] at l; exact s.only i' F l
 ·intro i' x m k;by_cases j:i' = i
  ·subst j; rw [zaf] at m; cases m
  ·rw [zac _ _ _ _ j] at m; exact s.lnk i' x m k
theorem Sat.move {C:Ctx} {ρ:Rho} {h:List (List (Nat × Ent))} {nx:Nat} {w E:World} (s:Sat C ρ h nx w) {i:Nat} {e:Ent} (J:lget h i = some e) (X:e.plain = true) (W:e.has 0)
  (b:SB) (o':Obj) (ab:b.ok ρ o') (Q:b.below nx)
  (ac:E.os = w.os) (ht:E.tape = w.tape) (hp:E.output = w.output) (aa:E.heap.size = w.heap.size)
  (O:E.heap[ρ i 0]? = some o') (A:∀ b,b ≠ ρ i 0 → E.heap[b]? = w.heap[b]?) :
  Sat C (rext ρ nx (ρ i 0)) (lput (lput h i .gone) nx (.one b)) (nx + 1) E:=by
 have g:∀ j,j < nx → rext ρ nx (ρ i 0) j = ρ j:=fun j hj=>zd4 hj
 have L:=s.lt i e J
 have d:∀ i' o,St.owns (lput h i .gone) i' o → St.owns h i' o ∧ i' ≠ i:=by
  intro i' o y;rcases zcy y with ⟨rfl,m⟩ | ⟨I,y⟩
  ·exact m.elim
  ·exact ⟨y,I⟩
 have n:∀ i' o,St.owns h i' o → i' < nx:=fun i' o ⟨K,c,_⟩=>s.lt i' K c
 have u:∀ U k1,St.owns h U k1 → ρ U k1 = ρ i 0 → U = i:=fun U k1 h1 l=>
  (s.inj _ _ _ _ h1 ⟨e,J,W⟩ l).1
 have G:=s.ne0 J X;have x:=s.forget L G;refine { lt:=?_,blk:=?_,wf:=?_,inj:=?_,anch:=?_,n0:=qa2 s.n0,n1:=s.n1,os:=ac.trans s.os,tape:=ht.trans s.tape,output:=hp.trans s.output,size:=by rw [aa]; exact s.size,fr:=?_,own:=?_,fz:=by rw [zac _ _ _ _ (qcm s.pos)]; exact x.fz,id0:=fun k=>by rw [g 0 s.pos]; exact s.id0 k,only:=?_,lnk:=?_ }
 ·intro i' K c;by_cases p:i' = nx
  ·omega
  ·rw [zac _ _ _ _ p] at c; have:=x.lt _ _ c; omega
 ·intro i' K c o m;by_cases p:i' = nx
  ·subst p; rw [zaf] at c; cases c
   exact ⟨o',by rw [zbm]; exact O,SB.ok_congr g Q ab⟩
  ·rw [zac _ _ _ _ p] at c;have D:=x.lt _ _ c;obtain ⟨o1,Y,R⟩:=x.blk _ _ c o m;refine ⟨o1,?_,SB.ok_congr g (x.wf _ _ c o m) R⟩;have ⟨f,q⟩:=d i' o ⟨K,c,m⟩;rw [g _ D,A _ (fun l=>q (u _ _ f l))]; exact Y
 ·intro i' K c o m;by_cases p:i' = nx
  ·subst p; rw [zaf] at c; cases c; exact SB.below_mono (qac _) Q
  ·rw [zac _ _ _ _ p] at c; exact SB.below_mono (qac _) (x.wf _ _ c o m)
 ·intro a k a' o h1 h2 l;rcases zcy h1 with ⟨rfl,hk⟩ | ⟨hi,y⟩<;>rcases zcy h2 with ⟨rfl,m⟩ | ⟨af,S⟩
  ·simp only [Ent.has] at hk m; exact ⟨rfl,by omega⟩
  ·have ⟨f,q⟩:=d _ _ S;rw [zbm,g _ (n _ _ f)] at l;exact absurd (u _ _ f l.symm) q
  ·have ⟨f,q⟩:=d _ _ y;rw [zbm,g _ (n _ _ f)] at l;exact absurd (u _ _ f l) q
  ·have ⟨f,V⟩:=d _ _ y;have ⟨B,ae⟩:=d _ _ S;rw [g _ (n _ _ f),g _ (n _ _ B)] at l;exact s.inj _ _ _ _ f B l
 ·intro j hj k; have:=s.n0; rw [g j (by omega)]; exact s.anch j hj k
 ·intro M ad hB
  have I:M ≠ ρ i 0:=by
   intro Z; subst Z;rcases s.own i 0 ⟨e,J,W⟩ with h1 | h1 | h1
   ·exact G h1.1
   ·exact hB h1
   ·omega
  rw [A M I]; exact s.fr M ad hB
 ·intro a k h1;rcases zcy h1 with ⟨rfl,hk⟩ | ⟨hi,y⟩
  ·rw [zbm]; exact .inr ((s.own i 0 ⟨e,J,W⟩).resolve_left (fun h=>G h.1))
  ·have ⟨f,V⟩:=d _ _ y;rw [g _ (n _ _ f)]; exact s.own _ _ f
 ·intro i' F T;by_cases p:i' = nx
  ·subst p; rw [zaf] at T; cases T
  ·rw [zac _ _ _ _ p] at T; exact x.only i' F T
 ·intro i' M D o;by_cases p:i' = nx
  ·subst p; rw [zaf] at D; cases D
  ·rw [zac _ _ _ _ p] at D;rw [g _ (x.lt _ _ D)]; exact x.lnk i' M D o
theorem Den.heap {C:Ctx} {ρ k:Rho} {j:St} {a:Act} {w l:World} {m:List (List (Nat × Ent))} {e:Nat} (d:Den C ρ j a w)
  (s:Sat C k m e l) (g:∀ i,i < j.nx → k i = ρ i) (f:j.nx ≤ e):Den C k { j with h:=m,nx:=e } a l where
 sat:=s
 nt:=d.nt
 tm:=fun n x c=>by
  obtain ⟨v,o,p⟩:=d.tm n x c;exact ⟨v,o,SV.rel_congr g (d.tw n x c) p⟩
 tw:=fun n x c=>SV.below_mono f (d.tw n x c)
 n0:=d.n0
 df:=by
  rw [d.df];refine q8 fun x c=>?_
  simp only [defOf]; rw [zc7 g (d.dw x c)]
 dw:=fun x c b q=>SA.below_mono f (d.dw x c b q)
theorem Den.put {C:Ctx} {ρ:Rho} {f:St} {a:Act} {w:World} (d:Den C ρ f a w) (n:Nat) (i:n < f.nt) (s:SV) (v:Value) (j:s.rel ρ v) (k:s.below f.nx) :
  Den C ρ { f with t:=lput f.t n s } (a.put (some n) v) w where
 sat:=d.sat
 nt:=by simp [Act.put,d.nt]
 tm:=fun m x b=>by
  by_cases c:m = n
  ·subst c; rw [zaf] at b; cases b
   exact ⟨v,by simp [Act.put,d.nt,i],j⟩
  ·rw [zac _ _ _ _ c] at b;obtain ⟨u,h,g⟩:=d.tm m x b;refine ⟨u,?_,g⟩;simp only [Act.put];rw [Array.getElem?_setIfInBounds_ne (fun e=>c e.symm)]; exact h
 tw:=fun m x b=>by
  by_cases c:m = n
  ·subst c; rw [zaf] at b; cases b; exact k
  ·rw [zac _ _ _ _ c] at b; exact d.tw m x b
 n0:=d.n0
 df:=d.df
 dw:=d.dw
def takeN {α:Type}:Nat → List α → Option (List α)
 |0,_=>some []
 |_ + 1,[]=>none
 |n + 1,x :: r=>match takeN n r with
  |some xs=>some (x :: xs)
  |none=>none
def zd3 {α:Type}:List α → Nat → Nat → Option (List α)
 |l,0,n=>takeN n l
 |[],_ + 1,_=>none
 |_ :: r,o + 1,n=>zd3 r o n
def setN {α:Type}:List α → List α → Option (List α)
 |l,[]=>some l
 |[],_ :: _=>none
 |_ :: r,x :: xs=>match setN r xs with
  |some r'=>some (x :: r')
  |none=>none
def setAt {α:Type}:List α → Nat → List α → Option (List α)
 |l,0,xs=>setN l xs
 |[],_ + 1,_=>none
 |y :: r,o + 1,xs=>match setAt r o xs with
  |some r'=>some (y :: r')
  |none=>none
theorem zmx {α:Type}:∀ (n:Nat) (l b:List α),takeN n l = some b → ∃ a,l = b ++ a ∧ b.length = n
 |0,l,b,h=>by simp [takeN] at h; subst h; exact ⟨l,rfl,rfl⟩
 |n + 1,[],b,h=>by simp [takeN] at h
 |n + 1,x :: r,b,h=>by
  simp only [takeN] at h;split at h
  ·rename_i c e;cases h
   obtain ⟨a,h1,d⟩:=zmx n r c e;exact ⟨a,by rw [h1]; rfl,by simp [d]⟩
  ·cases h
theorem zdo {α:Type}:∀ (l:List α) (o n:Nat) (c:List α),zd3 l o n = some c → ∃ b a,l = b ++ c ++ a ∧ b.length = o ∧ c.length = n
 |l,0,n,c,h=>by
  have f:takeN n l = some c:=by cases l<;>simpa [zd3] using h
  obtain ⟨a,h1,d⟩:=zmx n l c f;exact ⟨[],a,by simpa using h1,rfl,d⟩
 |[],o + 1,n,c,h=>by simp [zd3] at h
 |y :: r,o + 1,n,c,h=>by
  simp only [zd3] at h;obtain ⟨b,a,h1,d,e⟩:=zdo r o n c h;exact ⟨y :: b,a,by rw [h1]; rfl,by simp [d],e⟩
theorem zpk {α:Type}:∀ (l c b:List α),setN l c = some b → ∃ old a,l = old ++ a ∧ b = c ++ a ∧ old.length = c.length
 |l,[],b,h=>by
  have:l = b:=by cases l<;>simpa [setN] using h
  subst this; exact ⟨[],l,rfl,rfl,rfl⟩
 |[],_ :: _,b,h=>by simp [setN] at h
 |y :: r,x :: c,b,h=>by
  simp only [setN] at h;split at h
  ·rename_i g e;cases h
   obtain ⟨old,a,h1,f,d⟩:=zpk r c g e;exact ⟨y :: old,a,by rw [h1]; rfl,by rw [f]; rfl,by simp [d]⟩
  ·cases h
theorem zfj {α:Type}:∀ (l:List α) (o:Nat) (c d:List α),setAt l o c = some d → ∃ b old a,l = b ++ old ++ a ∧ d = b ++ c ++ a ∧ b.length = o ∧ old.length = c.length
 |l,0,c,d,h=>by
  have i:setN l c = some d:=by cases l<;>simpa [setAt] using h
  obtain ⟨old,a,h1,f,e⟩:=zpk l c d i;exact ⟨[],old,a,by simpa using h1,by simpa using f,rfl,e⟩
 |[],o + 1,c,d,h=>by simp [setAt] at h
 |y :: r,o + 1,c,d,h=>by
  simp only [setAt] at h;split at h
  ·rename_i k g;cases h
   obtain ⟨b,old,a,h1,f,e,j⟩:=zfj r o c k g;exact ⟨y :: b,old,a,by rw [h1]; rfl,by rw [f]; rfl,by simp [e],j⟩
  ·cases h
theorem zi3 {α:Type} {sz:Nat}:∀ (L:List (List α)) (e:Nat) (x:List α),(∀ y ∈ L,y.length = sz) → L[e]? = some x →
  ∃ b a,L.flatten = b ++ x ++ a ∧ b.length = e * sz ∧ ∀ c,(L.set e c).flatten = b ++ c ++ a
 |[],e,x,_,h=>by simp at h
 |y :: L,0,x,hl,h=>by
  simp at h; subst h;exact ⟨[],L.flatten,by simp,by simp,fun c=>by simp⟩
 |y :: L,e + 1,x,hl,h=>by
  simp at h;obtain ⟨b,a,h1,f,d⟩:=zi3 L e x (fun z g=>hl z (by simp [g])) h;refine ⟨y ++ b,a,by simp [h1],?_,fun c=>?_⟩
  ·have:=hl y (by simp);simp [f,this,qb6]; omega
  ·have:=d c; simp [this]
def RowAt (w:World) (b:Nat) (t:TypeId) (a:List Value):Prop:=∃ o,w.heap[b]? = some o ∧ IsRow o t a
theorem RowAt.cell {w:World} {b:Nat} {t:TypeId} {a:List Value} (h:RowAt w b t a) (j:Nat):w.cell? ⟨b,j,none⟩ = a[j]?:=by
 obtain ⟨o,c,d,_,rfl⟩:=h;have:=cell_of_row w b j a.toArray t d c;simpa using this
theorem RowAt.free {w:World} {b:Nat} {t:TypeId} {a:List Value} (h:RowAt w b t a) (j:Nat) (c:j < a.length):w.frozen? ⟨b,j,none⟩ = false:=by
 obtain ⟨o,e,g,d,rfl⟩:=h;have:=d j c;simp only [World.frozen?,e];simp; intro h1; have f:=d j c; omega
theorem zcj {P:Program} (g a:Nat) (t:TypeId):∀ (vs:List Value) (i:Nat) (b:List Value) (w:World),RowAt w g t b → a + i + vs.length ≤ b.length → (∀ v ∈ vs,v.oneCell' = true) →
  (storeCells ⟨g,a,none⟩ vs i).run P w = .ok () (w.setRow g (b.take (a + i) ++ vs ++ b.drop (a + i + vs.length)).toArray)
 |[],i,b,w,hg,_,_=>by
  obtain ⟨o,k,h,m,rfl⟩:=hg;simp only [storeCells,jm,qt,qas,y4];rw [setRow_self w g b.toArray t h k];rfl
 |v :: rest,i,b,w,hg,hl,h1=>by
  have n:a + i < b.length:=by simp at hl; omega
  have j:(⟨g,a,none⟩:Addr).add i = ⟨g,a + i,none⟩:=by unfold Addr.add; split<;>simp_all
  have d:w.cell? ⟨g,a + i,none⟩ = some b[a + i]:=by rw [hg.cell]; simp [n]
  have f:w.frozen? ⟨g,a + i,none⟩ = false:=hg.free _ n;obtain ⟨o,k,h,m,rfl⟩:=hg
  have l:(store ((⟨g,a,none⟩:Addr).add i) v).run P w = .ok () (w.setRow g (b.toArray.setIfInBounds (a + i) v)):=by
   rw [j,run_store P w _ v _ (h1 v (by simp)),d];simp [f,setCell_eq_setRow w g (a + i) b.toArray t h v k]
  have c:RowAt (w.setRow g (b.toArray.setIfInBounds (a + i) v)) g t (b.set (a + i) v):=
   ⟨_,setRow_heap w g _ _ t h k,h,by simpa using m,by simp⟩
  have ih:=zcj (P:=P) g a t rest (i + 1) (b.set (a + i) v) _ c (by simp at hl ⊢; omega) (fun x p=>h1 x (by simp [p]));simp only [storeCells,Sem.run_bind,l,Result.andThen_ok,ih,setRow_setRow]
  congr 3
  have e:=list_seg_step b (a + i) v rest (by simp at hl ⊢; omega);simpa [qbe] using e
def RdO (o:Obj) (e n:Nat) (d:List SA):Prop:=d.length = n ∧ (∀ a ∈ d,a.below 0) ∧ ∀ ρ:Rho,∃ (t:TypeId) (f:Nat × Nat) (b c:List Value),o = .cells (b ++ d.map (SA.den ρ) ++ c).toArray t f ∧ b.length = e
def rdB (b:SB) (p:Pl) (n:Nat) (K:List SA → Prop):Prop:=
 match b with
 |.cells _ l=>match zd3 l (p.e * p.sz + p.o) n with
  |some a=>K a
  |none=>False
 |.arr _ sz L _=>match Nat.beq p.sz sz with
  |true=>∃ x,L[p.e]? = some x ∧ (match zd3 x p.o n with
   |some a=>K a
   |none=>False)
  |false=>∃ a,zd3 L.flatten (p.e * p.sz + p.o) n = some a ∧ K a
 |.obj o=>∃ a,RdO o (p.e * p.sz + p.o) n a ∧ K a
def rd (h:List (List (Nat × Ent))) (p:Pl) (n:Nat) (K:List SA → Prop):Prop:=
 match lget h p.i with
 |some (.one b)=>(match p.k with
  |0=>rdB b p n K
  |_ + 1=>False)
 |some (.opt c b)=>c = true ∧ (match p.k with
  |0=>rdB b p n K
  |_ + 1=>False)
 |some (.fam m c f)=>(p.k < m ∧ c p.k = true) ∧ rdB (f p.k) p n K
 |some (.frz F)=>∃ B,F p.k = some B ∧ rdB B p n K
 |some (.lnk b)=>(match lget h 0 with
  |some (.frz F)=>∃ B,F (b p.k) = some B ∧ rdB B p n K
  |_=>False)
 |some .gone=>False
 |none=>False
def wrB (b:SB) (p:Pl) (vs:List SA) (K:SB → Prop):Prop:=
 match b with
 |.cells t l=>match setAt l (p.e * p.sz + p.o) vs with
  |some l'=>K (.cells t l')
  |none=>False
 |.arr t sz L room=>match Nat.beq p.sz sz with
  |true=>∃ x,L[p.e]? = some x ∧ (match setAt x p.o vs with
   |some x'=>K (.arr t sz (L.set p.e x') room)
   |none=>False)
  |false=>∃ a,(∀ x ∈ a,x.length = sz) ∧ a.length = L.length ∧ setAt L.flatten (p.e * p.sz + p.o) vs = some a.flatten ∧ K (.arr t sz a room)
 |.obj _=>False
def wr (h:List (List (Nat × Ent))) (p:Pl) (vs:List SA) (K:List (List (Nat × Ent)) → Prop):Prop:=
 match lget h p.i with
 |some (.one b)=>(match p.k with
  |0=>wrB b p vs fun a=>K (lput h p.i (.one a))
  |_ + 1=>False)
 |some (.opt c b)=>c = true ∧ (match p.k with
  |0=>wrB b p vs fun a=>K (lput h p.i (.opt c a))
  |_ + 1=>False)
 |some (.fam m c f)=>(p.k < m ∧ c p.k = true) ∧ wrB (f p.k) p vs fun a=>K (lput h p.i (.fam m c fun k=>if k = p.k then a else f k))
 |some (.frz _)=>False
 |some (.lnk _)=>False
 |some .gone=>False
 |none=>False
def zyu (o:Obj) (t:TypeId) (a:List Value):Prop:=∃ b,o = .cells a.toArray t b
theorem IsRow.r {o:Obj} {t:TypeId} {a:List Value} (h:IsRow o t a):zyu o t a:=let ⟨b,_,e⟩:=h; ⟨b,e⟩
def zq8 (w:World) (b:Nat) (t:TypeId) (a:List Value):Prop:=∃ o,w.heap[b]? = some o ∧ zyu o t a
theorem zq8.cell {w:World} {b:Nat} {t:TypeId} {a:List Value} (h:zq8 w b t a) (j:Nat):w.cell? ⟨b,j,none⟩ = a[j]?:=by
 obtain ⟨o,c,d,rfl⟩:=h;have:=cell_of_row w b j a.toArray t d c;simpa using this
theorem zpg {ρ:Rho} {b:SB} {p:Pl} {n nx:Nat} {K:List SA → Prop} {o:Obj} (h:rdB b p n K) (f:b.ok ρ o) (q:b.below nx) :
  ∃ g,K g ∧ g.length = n ∧ (∀ a ∈ g,a.below nx) ∧ ∃ t d c,zyu o t (d ++ g.map (SA.den ρ) ++ c) ∧ d.length = p.e * p.sz + p.o:=by
 cases b with
 |cells t l=>
  simp only [rdB] at h;split at h
  ·rename_i g B;obtain ⟨d,c,h1,m,u⟩:=zdo _ _ _ _ B;refine ⟨g,h,u,fun a w=>q a (by rw [h1]; simp [w]),t,d.map (SA.den ρ),c.map (SA.den ρ),?_,by simpa using m⟩;simp only [SB.ok] at f; rw [h1] at f; exact IsRow.r (by simpa using f)
  ·exact h.elim
 |arr t sz L room=>
  simp only [rdB] at h;obtain ⟨S,T,i,U,D⟩:=f;split at h
  ·rename_i E;have E:=qk E;obtain ⟨x,B,j⟩:=h;split at j
   ·rename_i g k;obtain ⟨d,c,h1,m,u⟩:=zdo _ _ _ _ k;obtain ⟨A,s,R,I,_⟩:=zi3 L p.e x S B;refine ⟨g,j,u,fun a w=>q x (yw B) a (by rw [h1]; simp [w]),t,(A ++ d).map (SA.den ρ),(c ++ s).map (SA.den ρ) ++ i,?_,?_⟩
    ·rw [R,h1] at D; exact IsRow.r (by simpa using D)
    ·simp [m,I,E]
   ·exact j.elim
  ·obtain ⟨g,k,j⟩:=h;obtain ⟨d,c,h1,m,u⟩:=zdo _ _ _ _ k;refine ⟨g,j,u,fun a w=>?_,t,d.map (SA.den ρ),c.map (SA.den ρ) ++ i,?_,by simpa using m⟩
   ·obtain ⟨y,M,G⟩:=qa6.1 (show a ∈ L.flatten by rw [h1]; simp [w]);exact q y M a G
   ·rw [h1] at D; exact IsRow.r (by simpa using D)
 |obj o'=>
  obtain ⟨g,⟨h1,m,u⟩,j⟩:=h;obtain ⟨t,O,d,c,J,Q⟩:=u ρ;have f:o = o':=f;exact ⟨g,j,h1,fun a w=>SA.below_mono (yj _) (m a w),t,d,c,⟨O,f.trans J⟩,Q⟩
theorem zn0 {C:Ctx} {ρ:Rho} {h:List (List (Nat × Ent))} {nx:Nat} {w:World} {p:Pl} {n:Nat} {K:List SA → Prop} (g:rd h p n K) (s:Sat C ρ h nx w) :
  ∃ l,K l ∧ l.length = n ∧ (∀ a ∈ l,a.below nx) ∧ ∃ t j d,zq8 w (ρ p.i p.k) t (j ++ l.map (SA.den ρ) ++ d) ∧ j.length = p.e * p.sz + p.o:=by
 have x:∀ e,lget h p.i = some e → e.has p.k → rdB (e.at p.k) p n K → ∃ l,K l ∧ l.length = n ∧ (∀ a ∈ l,a.below nx) ∧ ∃ t j d,zq8 w (ρ p.i p.k) t (j ++ l.map (SA.den ρ) ++ d) ∧ j.length = p.e * p.sz + p.o:=by
  intro e q y R;obtain ⟨o,E,u⟩:=s.blk _ e q _ y;obtain ⟨l,h1,J,L,t,j,d,G,I⟩:=zpg R u (s.wf _ e q _ y);exact ⟨l,h1,J,L,t,j,d,⟨o,E,G⟩,I⟩
 unfold rd at g;split at g
 ·rename_i b q;split at g
  ·rename_i y; exact x _ q y g
  ·exact g.elim
 ·rename_i c b q;obtain ⟨O,g⟩:=g;split at g
  ·rename_i y; exact x _ q ⟨O,y⟩ g
  ·exact g.elim
 ·rename_i m c f q;exact x _ q g.1 g.2
 ·rename_i F q;obtain ⟨B,A,g⟩:=g;exact x _ q (by simp [Ent.has,A]) (by simpa [Ent.at,A] using g)
 ·rename_i b q;split at g
  ·rename_i F M;obtain ⟨B,A,g⟩:=g;have Q:=s.lnk _ _ q p.k;obtain ⟨o,E,u⟩:=s.blk 0 _ M (b p.k) (by simp [Ent.has,A]);have D:=s.wf 0 _ M (b p.k) (by simp [Ent.has,A]);simp only [Ent.at,A,yi] at u D;rw [s.id0,← Q] at E;obtain ⟨l,h1,J,L,t,j,d,G,I⟩:=zpg g u D;exact ⟨l,h1,J,L,t,j,d,⟨o,E,G⟩,I⟩
  ·exact g.elim
 ·exact g.elim
 ·exact g.elim
theorem zy2 {ρ:Rho} {b:SB} {p:Pl} {vs:List SA} {nx:Nat} {K:SB → Prop} {o:Obj} (h:wrB b p vs K) (k:b.ok ρ o) (g:b.below nx) (J:∀ a ∈ vs,a.below nx) :
  ∃ O,K O ∧ O.below nx ∧ ∃ t d old c,IsRow o t (d ++ old ++ c) ∧ d.length = p.e * p.sz + p.o ∧ old.length = vs.length ∧ ∀ B,IsRow B t (d ++ vs.map (SA.den ρ) ++ c) → O.ok ρ B:=by
 cases b with
 |cells t l=>
  simp only [wrB] at h;split at h
  ·rename_i l' m;obtain ⟨d,old,c,h1,j,A,q⟩:=zfj _ _ _ _ m;refine ⟨_,h,?_,t,d.map (SA.den ρ),old.map (SA.den ρ),c.map (SA.den ρ),?_,by simpa using A,by simpa using q,?_⟩
   ·intro a ha; rw [j] at ha; simp at ha;rcases ha with ha | ha | ha
    ·exact g a (by rw [h1]; simp [ha])
    ·exact J a ha
    ·exact g a (by rw [h1]; simp [ha])
   ·simp only [SB.ok] at k; rw [h1] at k; simpa using k
   ·intro B i; simp only [SB.ok]; rw [j]; simpa using i
  ·exact h.elim
 |arr t sz L room=>
  simp only [wrB] at h;obtain ⟨R,T,f,U,D⟩:=k;split at h
  ·rename_i E;have E:=qk E;obtain ⟨x,m,s⟩:=h;split at s
   ·rename_i S G;obtain ⟨d,old,c,h1,j,A,q⟩:=zfj _ _ _ _ G;obtain ⟨u,n,Y,W,Z⟩:=zi3 L p.e x R m
    have M:S.length = sz:=by
     have:=R x (yw m);rw [h1] at this; rw [j]; simp at this ⊢; omega
    refine ⟨_,s,?_,t,(u ++ d).map (SA.den ρ),old.map (SA.den ρ),(c ++ n).map (SA.den ρ) ++ f,?_,?_,by simpa using q,fun B i=>⟨?_,?_,f,?_,?_⟩⟩
    ·intro y hy a ha;rcases qbr hy with hy | hy
     ·exact g y hy a ha
     ·subst hy; rw [j] at ha; simp at ha;rcases ha with ha | ha | ha
      ·exact g x (yw m) a (by rw [h1]; simp [ha])
      ·exact J a ha
      ·exact g x (yw m) a (by rw [h1]; simp [ha])
    ·rw [Y,h1] at D; simpa using D
    ·simp [A,W,E]
    ·intro y hy;rcases qbr hy with hy | hy
     ·exact R y hy
     ·subst hy; exact M
    ·simpa using T
    ·simpa using U
    ·rw [Z S,j]; simpa using i
   ·exact s.elim
  ·obtain ⟨X,I,w,m,s⟩:=h;obtain ⟨d,old,c,h1,j,A,q⟩:=zfj _ _ _ _ m
   have V:∀ a ∈ L.flatten,a.below nx:=fun a ha=>by
    obtain ⟨y,hy,Q⟩:=qa6.1 ha;exact g y hy a Q
   refine ⟨_,s,?_,t,d.map (SA.den ρ),old.map (SA.den ρ),c.map (SA.den ρ) ++ f,?_,by simpa using A,by simpa using q,?_⟩
   ·intro y hy a ha;have ha:a ∈ X.flatten:=qa6.2 ⟨y,hy,ha⟩;rw [j] at ha; simp at ha;rcases ha with ha | ha | ha
    ·exact V a (by rw [h1]; simp [ha])
    ·exact J a ha
    ·exact V a (by rw [h1]; simp [ha])
   ·rw [h1] at D; simpa using D
   ·intro B i;refine ⟨I,by rw [w]; exact T,f,by rw [w]; exact U,?_⟩;rw [j]; simpa using i
 |obj o=>exact h.elim
theorem zem (w:World) (g b:Nat) (a:Array Value) (h:b ≠ g):(w.setRow g a).heap[b]? = w.heap[b]?:=by
 simp only [World.setRow,qde];rw [if_neg (fun e=>h e.symm)]
theorem zs4 {C:Ctx} {ρ:Rho} {h:List (List (Nat × Ent))} {nx:Nat} {w:World} {p:Pl} {vs:List SA} {K:List (List (Nat × Ent)) → Prop} (l:wr h p vs K) (s:Sat C ρ h nx w)
  (U:∀ a ∈ vs,a.below nx) :
  ∃ E t j old d,K E ∧ RowAt w (ρ p.i p.k) t (j ++ old ++ d) ∧ j.length = p.e * p.sz + p.o ∧ old.length = vs.length ∧
   Sat C ρ E nx (w.setRow (ρ p.i p.k) (j ++ vs.map (SA.den ρ) ++ d).toArray):=by
 have B:∀ e (e':SB → Ent),lget h p.i = some e → e.plain = true → (∀ g,(e' g).plain = true) → e.has p.k → (∀ g q,(e' g).has q ↔ e.has q) → (∀ g q,q ≠ p.k → e.has q → (e' g).at q = e.at q) → (∀ g,(e' g).at p.k = g) →
   wrB (e.at p.k) p vs (fun g=>K (lput h p.i (e' g))) → ∃ E t j old d,K E ∧ RowAt w (ρ p.i p.k) t (j ++ old ++ d) ∧ j.length = p.e * p.sz + p.o ∧ old.length = vs.length ∧
   Sat C ρ E nx (w.setRow (ρ p.i p.k) (j ++ vs.map (SA.den ρ) ++ d).toArray):=by
  intro e e' x J D u V I y Z;obtain ⟨o,O,L⟩:=s.blk _ e x _ u;obtain ⟨g,h1,W,t,j,old,d,Y,T,Q,X⟩:=zy2 Z L (s.wf _ e x _ u) U;obtain ⟨R,G,rfl⟩:=Y;refine ⟨_,t,j,old,d,h1,⟨_,O,R,G,rfl⟩,T,Q,?_⟩;exact s.upd p.k x J (D g) u (V g) _ (I g) (by rw [y]; exact X _ ⟨R,by simp at G ⊢; rw [Q] at G; exact G,rfl⟩) (by rw [y]; exact W) rfl rfl rfl (by simp) (setRow_heap w _ _ _ t _ O) (fun b M=>zem w _ b _ M)
 unfold wr at l;split at l
 ·rename_i b x;split at l
  ·rename_i u;exact B _ (fun g=>.one g) x rfl (fun _=>rfl) u (fun _ _=>Iff.rfl) (fun g q n A=>absurd (A.trans u.symm) n) (fun _=>rfl) l
  ·exact l.elim
 ·rename_i c b x;obtain ⟨S,l⟩:=l;split at l
  ·rename_i u;exact B _ (fun g=>.opt c g) x rfl (fun _=>rfl) ⟨S,u⟩ (fun _ _=>Iff.rfl) (fun g q n A=>absurd (A.2.trans u.symm) n) (fun _=>rfl) l
  ·exact l.elim
 ·rename_i m c f x;exact B _ (fun g=>.fam m c fun k=>if k = p.k then g else f k) x rfl (fun _=>rfl) l.1 (fun _ _=>Iff.rfl) (fun g q n _=>by simp [Ent.at,n]) (fun _=>by simp [Ent.at]) l.2
 ·exact l.elim
 ·exact l.elim
 ·exact l.elim
 ·exact l.elim
end Sx
