import Derived.WalkKit
import Derived.Laws.CopyOwn
set_option maxHeartbeats 64000000
namespace Sx
open Go
abbrev nb:=@Nat.le_of_ble_eq_true
abbrev od:=@of_decide_eq_true
abbrev oe:=@of_decide_eq_false
abbrev qa:=@List.getElem?_eq_getElem
abbrev qd:=@List.length_append
abbrev qe:=@List.length_map
abbrev qf:=@List.take_succ_eq_append_getElem
abbrev qg:=@Bool.and_eq_true
abbrev qh:=@List.take_of_length_le
abbrev qi:=@Nat.le_refl
abbrev qj:=@List.length_cons
abbrev qk:=@Int.toNat_natCast
abbrev ql:=@List.getElem?_eq_some_iff
abbrev qm:=@Nat.eq_of_beq_eq_true
abbrev qn:=@List.mem_cons
abbrev qo:=@List.length_take
abbrev qp:=@List.append_assoc
abbrev qq:=@List.all_eq_true
abbrev qs:=@List.map_append
abbrev qt:=@List.getElem?_map
abbrev qu:=@List.length_nil
abbrev qv:=@List.nil_append
abbrev qw:=@List.getElem_mem
abbrev qx:=@Nat.zero_add
abbrev qy:=@List.not_mem_nil
abbrev qz:=@List.mem_singleton
abbrev q5:=@List.append_nil
abbrev q8:=@Nat.le_trans
abbrev q9:=@Bool.false_and
abbrev ji:=@Int.tdiv_eq_ediv_of_nonneg
abbrev jj:=@List.mem_map
abbrev jk:=@List.drop_eq_getElem_cons
abbrev jm:=@List.map_cons
abbrev jo:=@Option.isSome_iff_exists
abbrev jp:=@Array.getElem?_eq_some_iff
abbrev jq:=@Nat.mod_eq_of_lt
abbrev js:=@List.getElem?_append_left
abbrev jt:=@List.cons_append
abbrev ju:=@List.map_congr_left
abbrev jv:=@List.length_singleton
abbrev jw:=@Bool.false_eq_true
abbrev jx:=@List.getElem?_append_right
abbrev jy:=@List.flatten_cons
abbrev jz:=@Bool.and_false
abbrev yd:=@List.mem_of_mem_take
abbrev yf:=@List.drop_of_length_le
abbrev yg:=@List.map_map
abbrev yh:=@Nat.zero_le
abbrev yi:=@Option.getD_some
abbrev yj:=@List.flatten_append
abbrev yk:=@List.mem_append
abbrev yl:=@List.mem_cons_of_mem
abbrev ym:=@Nat.lt_of_le_of_lt
abbrev yp:=@List.length_drop
abbrev yq:=@Bool.true_and
abbrev yr:=@List.mem_of_getElem?
abbrev yt:=@Nat.zero_lt_one
abbrev yu:=@List.map_nil
abbrev yv:=@List.take_length
abbrev yw:=@List.eq_nil_of_length_eq_zero
abbrev yx:=@Int.toNat_of_nonneg
abbrev yy:=@Nat.lt_of_lt_of_le
abbrev yz:=@Int.tmod_eq_emod_of_nonneg
abbrev y4:=@List.getD_eq_getElem?_getD
abbrev y5:=@List.size_toArray
abbrev y6:=@Nat.mul_le_mul_right
abbrev y8:=@List.drop_zero
abbrev y9:=@List.take_append_drop
abbrev qaa:=@Nat.le_of_eq
abbrev qab:=@Nat.mul_comm
abbrev qac:=@Array.replicate_succ
abbrev qad:=@Array.replicate_zero
abbrev qae:=@Int.natCast_nonneg
abbrev qaf:=@Nat.le_succ
abbrev qag:=@List.foldl_cons
abbrev qah:=@List.flatten_nil
abbrev qai:=@List.append_toArray
abbrev qaj:=@List.getElem?_eq_none
abbrev qak:=@List.length_filter_le
abbrev qal:=@Bool.or_eq_true
abbrev qam:=@List.getElem?_drop
abbrev qan:=@UInt8.toNat_ofNat'
abbrev qao:=@List.length_eq_zero_iff
abbrev qap:=@List.mem_of_mem_drop
abbrev qaq:=@Nat.add_sub_cancel_left
abbrev qar:=@Bool.not_eq_true'
abbrev qas:=@List.getElem?_set
abbrev qat:=@List.push_toArray
abbrev qau:=@Nat.add_zero
abbrev qav:=@Nat.mul_le_mul
abbrev qaw:=@Option.map_eq_some_iff
abbrev qax:=@List.length_set
abbrev qay:=@List.range_succ
abbrev qaz:=@Nat.min_eq_left
abbrev qa0:=@List.length_replicate
abbrev qa1:=@Nat.mod_lt
abbrev qa2:=@Nat.succ_mul
abbrev qa3:=@Nat.pow_le_pow_right
abbrev qa4:=@List.foldl_append
abbrev qa5:=@Int.natCast_mul
abbrev qa6:=@Int.le_trans
abbrev qa7:=@Nat.sub_zero
abbrev qa8:=@Bool.false_or
abbrev qa9:=@Array.getElem?_append_left
abbrev qba:=@Int.fdiv_eq_ediv_of_nonneg
abbrev qbb:=@List.set_cons_zero
abbrev qbc:=@Nat.ble_eq_true_of_le
abbrev qbd:=@List.any_eq_false
abbrev qbe:=@List.ext_getElem?
abbrev qbf:=@List.mem_append_left
abbrev qbg:=@List.getElem?_take_of_lt
abbrev qbh:=@Int.mul_le_mul
abbrev qbi:=@List.mem_flatten
abbrev qbj:=@List.take_take
abbrev qbk:=@List.drop_eq_nil_of_le
abbrev qbl:=@List.map_set
abbrev qbm:=@List.mem_cons_self
abbrev qbn:=@Nat.eq_zero_or_pos
abbrev qbo:=@List.length_zip
abbrev qbp:=@UInt8.toNat_inj
abbrev qbq:=@List.all_cons
abbrev qbr:=@Nat.add_assoc
abbrev qbs:=@List.mem_append_right
abbrev qbt:=@UInt8.le_iff_toNat_le
abbrev qbu:=@Nat.le_succ_of_le
abbrev qbv:=@Nat.two_pow_add_eq_or_of_lt
abbrev qbw:=@List.foldl_nil
abbrev qbx:=@List.getElem?_set_ne
abbrev qby:=@Nat.add_mul
abbrev qbz:=@Nat.div_lt_of_lt_mul
abbrev qb0:=@Nat.add_comm
abbrev qb1:=@Array.getElem?_eq_getElem
abbrev qb2:=@List.mem_or_eq_of_mem_set
abbrev qb3:=@List.length_flatten
abbrev qb4:=@List.length_pos_iff
abbrev qb5:=@List.length_zipWith
abbrev qb6:=@List.replicate_succ
abbrev qb7:=@Nat.mul_le_mul_left
abbrev qb8:=@List.all_append
abbrev qb9:=@Nat.div_le_self
abbrev qca:=@Int.tmod_lt_of_pos
abbrev qcb:=@List.mem_replicate
abbrev qcc:=@List.getElem?_cons_succ
abbrev qcd:=@Int.mul_nonneg
abbrev qce:=@Nat.pow_succ
abbrev qcf:=@UInt8.toNat_lt
abbrev qcg:=@List.getElem?_toArray
abbrev qch:=@List.set_append_right
abbrev qci:=@Int.mul_le_mul_of_nonneg_right
abbrev qcj:=@Nat.and_two_pow_sub_one_eq_mod
abbrev qck:=@Nat.lt_succ_self
abbrev qcl:=@Bool.and_true
abbrev qcm:=@Nat.mul_assoc
abbrev qcn:=@Bool.or_eq_false_iff
abbrev qco:=@List.take_append_of_le_length
abbrev qcp:=@Nat.add_le_add_right
abbrev qcq:=@Bool.eq_iff_iff
abbrev qcr:=@Int.natCast_add
abbrev qcs:=@Int.tmod_nonneg
abbrev qct:=@Nat.and_le_left
abbrev qcu:=@Nat.not_lt_zero
abbrev qcv:=@Nat.ne_of_lt
abbrev qcw:=@List.drop_left
abbrev qcx:=@List.filter_append
abbrev qcy:=@List.mem_range
abbrev qcz:=@List.set_cons_succ
abbrev qc0:=@List.zip_cons_cons
abbrev qc1:=@Nat.xor_lt_two_pow
abbrev qc2:=@Array.mapM_eq_mapM_toList
abbrev qc3:=@List.getLast?_eq_getElem?
abbrev qc4:=@List.all_eq_false
abbrev qc5:=@Nat.mul_one
abbrev qc6:=@List.map_take
abbrev qc7:=@List.all_reverse
abbrev qc8:=@List.getElem_zip
abbrev qc9:=@List.map_flatten
abbrev qda:=@Option.bind_some
abbrev qdb:=@List.append_eq_nil_iff
abbrev qdc:=@List.getElem?_set_self
abbrev qdd:=@List.sum_replicate_nat
abbrev qde:=@Nat.lt_or_ge
abbrev qdf:=@Nat.zero_mul
abbrev qdg:=@List.mem_filter
abbrev qdh:=@List.take_left'
abbrev qdi:=@Nat.div_add_mod
abbrev qdj:=@Option.map_some
abbrev qdk:=@Array.getElem?_modify
abbrev qdl:=@List.singleton_append
abbrev qdm:=@Array.getElem?_push
abbrev qdn:=@List.getElem?_range
abbrev qdo:=@List.take_succ_cons
abbrev qdp:=@Nat.div_mul_le_self
abbrev qdq:=@Int.neg_tdiv
abbrev qdr:=@Int.zero_mul
abbrev qds:=@Int.pow_pos
abbrev qdt:=@Nat.mul_add
theorem tv:True:=.intro
abbrev Rho:=Nat->Nat->Nat
structure Pl where
 i:Nat
 k:Nat
 e:Nat
 sz:Nat
 o:Nat
def Pl.addr(ρ:Rho)(p:Pl):Addr:=⟨ρ p.i p.k,p.e*p.sz+p.o,none⟩
inductive SA where
 |int (k:IntKind) (n:Int)
 |lit (b:Bool)
 |bool (b:Bool)
 |str (s:List UInt8)
 |ptr (p:Pl)
 |slice (nil:Bool) (i k e sz len cap:Nat)
 |nilptr
 |nilfn
 |nilif
 |ifc (t:TypeId) (v:Value)
 |glob (g:Nat)
 |fn (f:Fn) (cap:List Pl)
 |iter (i k:Nat)
 |map (i k:Nat)
 |nilmap
 |nilsl
def SA.den(ρ:Rho):SA->Value
 |.int k n=>.int k n
 |.lit b=>.bool b
 |.bool b=>.bool b
 |.str s=>.string ⟨s.toArray⟩
 |.ptr p=>.pointer (some (p.addr ρ))
 |.slice nil i k e sz len cap=>.slice (if nil then none else some ⟨ρ i k,e*sz,none⟩) len cap
 |.nilptr=>.pointer none
 |.nilfn=>.nilFunc
 |.nilif=>.nilIface
 |.ifc t v=>.iface t v
 |.glob g=>.pointer (some ⟨g,0,none⟩)
 |.fn f cap=>.func f #[] (cap.map fun p=>Value.pointer (some (p.addr ρ))).toArray
 |.iter i k=>.pointer (some ⟨ρ i k,0,none⟩)
 |.map i k=>.map (some (ρ i k))
 |.nilmap=>.map none
 |.nilsl=>.slice none 0 0
def SA.below(n:Nat):SA->Prop
 |.ptr p=>p.i < n
 |.slice nil i ..=>nil=true\/i < n
 |.fn _ cap=>∀p∈cap,p.i < n
 |.iter i _=>i < n
 |.map i _=>i < n
 |_=>True
theorem SA.below_mono{n m:Nat}(h:n<=m){a:SA}(b:a.below n):a.below m:=by
 cases a<;>simp only[SA.below]at*<;>first | omega | (intro p c;have:=b p c;omega) | exact b.imp id (fun d=>by omega) | trivial
theorem SA.den_congr{ρ c:Rho}{n:Nat}(h:∀i,i < n->c i=ρ i){a:SA}(b:a.below n):a.den c=a.den ρ:=by
 cases a<;>simp only[SA.below]at b<;>simp only[SA.den,Pl.addr]
 ·rw[h _ b]
 ·rename_i nil i k e sz f cap;cases nil with
  |true=>rfl
  |false=>simp only[jw,false_or]at b;rw[h _ b]
 ·congr 2
  exact ju fun p d=>by rw[h _ (b p d)]
 ·rw[h _ b]
 ·rw[h _ b]
theorem SA.one(ρ:Rho)(a:SA):(a.den ρ).oneCell'=true:=by cases a<;>rfl
inductive SC where
 |va (a:SA)
 |agg (l:List SA)
def SC.den(ρ:Rho):SC->Value
 |.va a=>a.den ρ
 |.agg l=>.agg (l.map (SA.den ρ)).toArray
inductive SV where
 |va (a:SA)
 |agg (l:List SA)
 |tup (l:List SC)
 |junk
def SC.v:SC->SV
 |.va a=>.va a
 |.agg l=>.agg l
def SC.below(n:Nat):SC->Prop
 |.va a=>a.below n
 |.agg l=>∀a∈l,a.below n
def SV.below(n:Nat):SV->Prop
 |.va a=>a.below n
 |.agg l=>∀a∈l,a.below n
 |.tup l=>∀c∈l,c.below n
 |.junk=>True
theorem SC.below_mono{n m:Nat}(h:n<=m){a:SC}(b:a.below n):a.below m:=by
 cases a with
 |va a=>exact SA.below_mono h b
 |agg l=>exact fun a c=>SA.below_mono h (b a c)
theorem SV.below_mono{n m:Nat}(h:n<=m){a:SV}(b:a.below n):a.below m:=by
 cases a with
 |va a=>exact SA.below_mono h b
 |agg l=>exact fun a d=>SA.below_mono h (b a d)
 |tup l=>exact fun c d=>SC.below_mono h (b c d)
 |junk=>trivial
theorem zdq{ρ b:Rho}{n:Nat}(h:∀i,i < n->b i=ρ i){l:List SA}(d:∀a∈l,a.below n):l.map (SA.den b)=l.map (SA.den ρ):=
 ju fun a c=>SA.den_congr h (d a c)
def SV.rel(ρ:Rho):SV->Value->Prop
 |.va a,v=>v=a.den ρ
 |.agg l,v=>v=.agg (l.map (SA.den ρ)).toArray
 |.tup l,v=>v=.tuple (l.map (SC.den ρ)).toArray
 |.junk,_=>True
theorem SV.rel_congr{ρ e:Rho}{n:Nat}(h:∀i,i < n->e i=ρ i){s:SV}(b:s.below n){v:Value}(d:s.rel ρ v):s.rel e v:=by
 cases s with
 |va a=>simp only[SV.rel]at*;rw[d,SA.den_congr h b]
 |agg l=>simp only[SV.rel]at*;rw[d,zdq h b]
 |tup l=>
  simp only[SV.rel]at*;rw[d];congr 2;refine ju fun c f=>?_
  have hb:=b c f;cases c with
  |va a=>exact(SA.den_congr h hb).symm
  |agg l=>simp only[SC.den];rw[zdq h hb]
 |junk=>trivial
def relL(ρ:Rho):List SV->List Value->Prop
 |[],[]=>True
 |s::ss,v::vs=>s.rel ρ v/\relL ρ ss vs
 |_,_=>False
inductive SB where
 |cells (t:TypeId) (l:List SA)
 |arr (t:TypeId) (sz:Nat) (L:List (List SA)) (room:Nat)
 |obj (o:Obj)
def NoFr(a:Nat×Nat)(n:Nat):Prop:=∀j,j < n->¬(a.1<=j/\j < a.2)
theorem NoFr.zero(n:Nat):NoFr (0,0) n:=fun _ _ h=>absurd h.2 (qcu _)
def IsRow(o:Obj)(t:TypeId)(a:List Value):Prop:=∃b,NoFr b a.length/\o=.cells a.toArray t b
def SB.ok(ρ:Rho):SB->Obj->Prop
 |.cells t l,o=>IsRow o t (l.map (SA.den ρ))
 |.arr t sz L room,o=>(∀x∈L,x.length=sz)/\L.length<=room/\
   ∃a:List Value,a.length=(room - L.length)*sz/\IsRow o t (L.flatten.map (SA.den ρ)++a)
 |.obj o',o=>o=o'
def SB.below(n:Nat):SB->Prop
 |.cells _ l=>∀a∈l,a.below n
 |.arr _ _ L _=>∀x∈L,∀a∈x,a.below n
 |.obj _=>True
theorem SB.below_mono{n m:Nat}(h:n<=m){b:SB}(hb:b.below n):b.below m:=by
 cases b with
 |cells t l=>exact fun a c=>SA.below_mono h (hb a c)
 |arr t sz L room=>exact fun x d a c=>SA.below_mono h (hb x d a c)
 |obj o=>trivial
theorem SB.ok_congr{ρ f:Rho}{n:Nat}(h:∀i,i < n->f i=ρ i){b:SB}(hb:b.below n){o:Obj}(e:b.ok ρ o):b.ok f o:=by
 cases b with
 |cells t l=>simp only[SB.ok]at*;rw[zdq h hb];exact e
 |arr t sz L room=>
  simp only[SB.ok]at*;obtain⟨h1,g,c,j,k⟩:=e;refine⟨h1,g,c,j,?_⟩;rw[zdq h (l:=L.flatten) (fun a m=>by obtain⟨x,p,d⟩:=qbi.1 m;exact hb x p a d)];exact k
 |obj o=>exact e
abbrev Fz:=Nat->Option SB
def Fz.le(F a:Fz):Prop:=∀b B,F b=some B->a b=some B
theorem Fz.r(F:Fz):Fz.le F F:=fun _ _ h=>h
theorem Fz.t{F G H:Fz}(h:Fz.le F G)(a:Fz.le G H):Fz.le F H:=fun b B hb=>a b B (h b B hb)
inductive Ent where
 |one (b:SB)
 |opt (c:Bool) (b:SB)
 |fam (n:Nat) (c:Nat->Bool) (f:Nat->SB)
 |gone
 |frz (F:Fz)
 |lnk (b:Nat->Nat)
def Ent.isFz:Ent->Bool
 |.frz _=>true
 |_=>false
def Ent.has:Ent->Nat->Prop
 |.one _,k=>k=0
 |.opt c _,k=>c=true/\k=0
 |.fam n c _,k=>k < n/\c k=true
 |.gone,_=>False
 |.frz F,k=>(F k).isSome=true
 |.lnk _,_=>False
def Ent.at:Ent->Nat->SB
 |.one b,_=>b
 |.opt _ b,_=>b
 |.fam _ _ f,k=>f k
 |.gone,_=>.cells 0 []
 |.frz F,k=>(F k).getD (.cells 0 [])
 |.lnk _,_=>.cells 0 []
def aget{β:Type}:List (Nat×β)->Nat->Option β
 |[],_=>none
 |(m,v)::r,n=>match Nat.beq n m with
  |true=>some v
  |false=>aget r n
def lget{β:Type}:List (List (Nat×β))->Nat->Option β
 |[],_=>none
 |l::r,n=>match aget l n with
  |some v=>some v
  |none=>lget r n
def lput{β:Type}(l:List (List (Nat×β)))(n:Nat)(v:β):List (List (Nat×β)):=
 match l with
 |[]=>[[(n,v)]]
 |x::r=>((n,v)::x)::r
theorem zae{β:Type}(l:List (List (Nat×β)))(n:Nat)(v:β):lget (lput l n v) n=some v:=by
 cases l with
 |nil=>simp[lput,lget,aget]
 |cons x r=>simp[lput,lget,aget]
theorem zac{β:Type}(l:List (List (Nat×β)))(n m:Nat)(v:β)(h:m≠n):lget (lput l n v) m=lget l m:=by
 have hb:Nat.beq m n=false:=by
  cases hh:Nat.beq m n with
  |false=>rfl
  |true=>exact absurd (qm hh) h
 cases l with
 |nil=>simp[lput,lget,aget,hb]
 |cons x r=>simp[lput,lget,aget,hb]
inductive Dk where
 |fn (f:FuncId)
 |clo (f:FuncId)
 |col
structure St where
 t:List (List (Nat×SV))
 h:List (List (Nat×Ent))
 nx:Nat
 n0:Nat
 nt:Nat
 d:List (Dk×List SA)
def St.owns(h:List (List (Nat×Ent)))(i k:Nat):Prop:=∃e,lget h i=some e/\e.has k
structure Ctx where
 w0:World
 ρ0:Rho
 n0:Nat
 B:Nat->Prop
 R:Nat->Prop
structure Sat(C:Ctx)(ρ:Rho)(h:List (List (Nat×Ent)))(nx:Nat)(w:World):Prop where
 lt:∀i e,lget h i=some e->i < nx
 blk:∀i e,lget h i=some e->∀k,e.has k->∃o,w.heap[ρ i k]? =some o/\(e.at k).ok ρ o
 wf:∀i e,lget h i=some e->∀k,e.has k->(e.at k).below nx
 inj:∀i k i' k',St.owns h i k->St.owns h i' k'->ρ i k=ρ i' k'->i=i'/\k=k'
 anch:∀i,i < C.n0->∀k,ρ i k=C.ρ0 i k
 n0:C.n0<=nx
 n1:1<=C.n0
 os:w.os=C.w0.os
 tape:w.tape=C.w0.tape
 output:w.output=C.w0.output
 size:C.w0.heap.size<=w.heap.size
 fr:∀b,b < C.w0.heap.size->¬C.B b->w.heap[b]? =C.w0.heap[b]?
 own:∀i k,St.owns h i k->(i=0/\C.R k)\/C.B (ρ i k)\/C.w0.heap.size<=ρ i k
 fz:∃F,lget h 0=some (.frz F)/\∀b B,F b=some B->B.below 1
 id0:∀k,ρ 0 k=k
 only:∀i F,lget h i=some (.frz F)->i=0
 lnk:∀i b,lget h i=some (.lnk b)->∀k,ρ i k=b k
def blkOf:List Value->Nat
 |.pointer (some p)::_=>p.block
 |_=>0
def defV:Dk->List Value->Deferred
 |.fn f,vs=>{ target:=.fn (.func f) #[],args:=vs.toArray }
 |.clo f,vs=>{ target:=.fn (.func f) vs.toArray,args:=#[] }
 |.col,vs=>{ target:=.collected (blkOf vs),args:=#[] }
def defOf(ρ:Rho)(x:Dk×List SA):Deferred:=defV x.1 (x.2.map (SA.den ρ))
structure Den(C:Ctx)(ρ:Rho)(st:St)(a:Act)(w:World):Prop where
 sat:Sat C ρ st.h st.nx w
 nt:a.tmps.size=st.nt
 tm:∀n s,lget st.t n=some s->∃v,a.tmps[n]? =some v/\s.rel ρ v
 tw:∀n s,lget st.t n=some s->s.below st.nx
 n0:C.n0=st.n0
 df:a.defers=st.d.map (defOf ρ)
 dw:∀x∈st.d,∀a∈x.2,a.below st.nx
inductive SE where
 |normal
 |ret
 |exit (id:Nat)
 |panic (v:Value)
def SE.to:SE->Exit
 |.normal=>.normal
 |.ret=>.ret
 |.exit id=>.exit id
 |.panic v=>.panic [{ v,recovered:=false }]
def Up(C:Ctx)(Q:SE->St->Prop):Exit->Act->World->Prop:=
 fun e a w=>∃b c ρ,Q b c/\e=b.to/\Den C ρ c a w
@[irreducible] def WP (P:Program) (c:Code) (st:St) (Q:SE->St->Prop):Prop:=
 ∀C ρ a w,Den C ρ st a w->c.wp P (Up C Q) a w
inductive Out where
 |ret (v:SV)
 |panic (v:Value)
def Out.rel(ρ:Rho):Out->Ending->Prop
 |.ret s,e=>∃v,e=.returned v/\s.rel ρ v
 |.panic v,e=>e=.panicked [{ v,recovered:=false }]
@[irreducible] def Enters (P:Program) (f:FuncId):Prop:=∀(args:Array Value) (w:World),(callFunc f args).run P w=.ok (.enter f args) w
theorem enters_of{P:Program}{f:FuncId}{fn:Func}{c:Code}(b:P.funcs[f]? =some fn)(hb:fn.body=some c)(d:(fn.name== "runtime.NumGoroutine")=false):Enters P f:=by
 unfold Enters;intro args w;have a:¬fn.name= "runtime.NumGoroutine" :=by simpa using d
 simp[callFunc,b,hb,a]
@[irreducible] def za5 (P:Program) (f:FuncId) (args:List SV) (h:List (List (Nat×Ent))) (nx:Nat) (K:Out->List (List (Nat×Ent))->Nat->Prop):Prop:=
 ∀C ρ w vs,Sat C ρ h nx w->relL ρ args vs->(∀s∈args,s.below nx)->
  Enters P f/\Calls P f vs.toArray w fun e w'=>∃out h' nx' ρ',K out h' nx'/\out.rel ρ' e/\Sat C ρ' h' nx' w'/\(∀i,i < nx->ρ' i=ρ i)/\nx<=nx'/\(match out with | .ret s=>s.below nx' | .panic _=>True)
theorem zc8{h:List (List (Nat×Ent))}{n i k:Nat}{e:Ent}(d:St.owns (lput h n e) i k):(i=n/\e.has k)\/(i≠n/\St.owns h i k):=by
 obtain⟨e',a,c⟩:=d;by_cases b:i=n
 ·subst b;rw[zae]at a;cases a;exact .inl ⟨rfl,c⟩
 ·rw[zac _ _ _ _ b]at a;exact .inr ⟨b,e',a,c⟩
def Ent.plain:Ent->Bool
 |.one _=>true
 |.opt _ _=>true
 |.fam _ _ _=>true
 |_=>false
theorem Ent.plain_ne{e:Ent}(h:e.plain=true):(∀F,e≠.frz F)/\(∀b,e≠.lnk b):=by
 cases e<;>simp[Ent.plain]at h ⊢
theorem Sat.pos{C:Ctx}{ρ:Rho}{h:List (List (Nat×Ent))}{nx:Nat}{w:World}(s:Sat C ρ h nx w):0 < nx:=by
 obtain⟨F,a,_⟩:=s.fz;exact s.lt 0 _ a
theorem Sat.ne0{C:Ctx}{ρ:Rho}{h:List (List (Nat×Ent))}{nx:Nat}{w:World}(s:Sat C ρ h nx w){i:Nat}{e:Ent}(a:lget h i=some e)(c:e.plain=true):i≠0:=by
 rintro rfl;obtain⟨F,b,_⟩:=s.fz;rw[b]at a;cases a;cases c
def rext(ρ:Rho)(nx b:Nat):Rho:=fun i k=>if i=nx then b else ρ i k
theorem zeu{ρ:Rho}{nx b i:Nat}(h:i < nx):rext ρ nx b i=ρ i:=by
 funext k;simp[rext,qcv h]
theorem zbw(ρ:Rho)(nx b k:Nat):rext ρ nx b nx k=b:=by simp[rext]
theorem Sat.world{C:Ctx}{ρ:Rho}{h:List (List (Nat×Ent))}{nx:Nat}{w a:World}(s:Sat C ρ h nx w)
  (hh:a.heap=w.heap)(g:a.os=w.os)(l:a.tape=w.tape)(j:a.output=w.output):Sat C ρ h nx a:=
 { s with
  blk:=fun i e d k f=>by rw[hh];exact s.blk i e d k f
  os:=g.trans s.os,tape:=l.trans s.tape,output:=j.trans s.output
  size:=by rw[hh];exact s.size
  fr:=fun b hb c=>by rw[hh];exact s.fr b hb c }
theorem Sat.drew{C:Ctx}{ρ:Rho}{h:List (List (Nat×Ent))}{nx:Nat}{w:World}(s:Sat C ρ h nx w):Sat C ρ h nx w.drew:=
 s.world rfl rfl rfl rfl
theorem Sat.blt{C:Ctx}{ρ:Rho}{h:List (List (Nat×Ent))}{nx:Nat}{w:World}(s:Sat C ρ h nx w){i k:Nat}(c:St.owns h i k):ρ i k < w.heap.size:=by
 obtain⟨e,a,b⟩:=c;obtain⟨o,hb,_⟩:=s.blk i e a k b;exact(jp.1 hb).1
theorem hpush(w:World)(o:Obj)(i:Nat)(h:i < w.heap.size):(w.alloc o).heap[i]? =w.heap[i]?:=by
 show(w.heap.push o)[i]? =w.heap[i]?;rw[qdm,if_neg (qcv h)]
theorem Sat.new{C:Ctx}{ρ:Rho}{h:List (List (Nat×Ent))}{nx:Nat}{w:World}(s:Sat C ρ h nx w)(b:SB)(o:Obj)
  (hb:b.below nx)(B:b.ok ρ o):Sat C (rext ρ nx w.heap.size) (lput h nx (.one b)) (nx+1) (w.alloc o):=by
 have a:∀i,i < nx->rext ρ nx w.heap.size i=ρ i:=fun i c=>zeu c
 have d:∀i k,St.owns h i k->i < nx:=fun i k ⟨e,f,_⟩=>s.lt i e f
 refine{ lt:=?_,blk:=?_,wf:=?_,inj:=?_,anch:=?_,n0:=qbu s.n0,n1:=s.n1,os:=s.os,tape:=s.tape,output:=s.output,size:=?_,fr:=?_,own:=?_,fz:=by rw[zac _ _ _ _ (qcv s.pos)];exact s.fz,id0:=fun k=>by rw[a 0 s.pos];exact s.id0 k,only:=?_,lnk:=?_ }
 ·intro i e f;by_cases c:i=nx
  ·omega
  ·rw[zac _ _ _ _ c]at f;have:=s.lt i e f;omega
 ·intro i e f k l;by_cases c:i=nx
  ·subst c;rw[zae]at f;cases f
   refine⟨o,?_,SB.ok_congr a hb B⟩;rw[zbw];show(w.heap.push o)[w.heap.size]? =some o;simp
  ·rw[zac _ _ _ _ c]at f;have A:=s.lt i e f;obtain⟨I,g,p⟩:=s.blk i e f k l;refine⟨I,?_,SB.ok_congr a (s.wf i e f k l) p⟩;rw[a i A,hpush w o _ (jp.1 g).1];exact g
 ·intro i e f k l;by_cases c:i=nx
  ·subst c;rw[zae]at f;cases f;exact SB.below_mono (qaf _) hb
  ·rw[zac _ _ _ _ c]at f;exact SB.below_mono (qaf _) (s.wf i e f k l)
 ·intro i k i' J h1 D j;rcases zc8 h1 with⟨rfl,l⟩ | ⟨c,m⟩<;>rcases zc8 D with⟨rfl,y⟩ | ⟨G,g⟩
  ·simp only[Ent.has]at l y;exact⟨rfl,by omega⟩
  ·rw[zbw,a i' (d _ _ g)]at j;have:=s.blt g;omega
  ·rw[zbw,a i (d _ _ m)]at j;have:=s.blt m;omega
  ·rw[a i (d _ _ m),a i' (d _ _ g)]at j;exact s.inj _ _ _ _ m g j
 ·intro i c k;have:=s.n0;rw[a i (by omega)];exact s.anch i c k
 ·have:=s.size;show _<=(w.heap.push o).size;simp;omega
 ·intro u x E;have:=s.size;rw[hpush w o _ (by omega)];exact s.fr u x E
 ·intro i k h1;rcases zc8 h1 with⟨rfl,l⟩ | ⟨c,m⟩
  ·right;right;rw[zbw];exact s.size
  ·rw[a i (d _ _ m)];exact s.own _ _ m
 ·intro i F q;by_cases c:i=nx
  ·subst c;rw[zae]at q;cases q
  ·rw[zac _ _ _ _ c]at q;exact s.only i F q
 ·intro i u n k;by_cases c:i=nx
  ·subst c;rw[zae]at n;cases n
  ·rw[zac _ _ _ _ c]at n;rw[a i (s.lt i _ n)];exact s.lnk i u n k
theorem Sat.upd{C:Ctx}{ρ:Rho}{h:List (List (Nat×Ent))}{nx:Nat}{w G:World}(s:Sat C ρ h nx w){i:Nat}{e e':Ent}(k:Nat)(y:lget h i=some e)(Y:e.plain=true)(B:e'.plain=true)
  (W:e.has k)(q:∀f,e'.has f↔e.has f)(o':Obj)(I:∀f,f≠k->e.has f->e'.at f=e.at f)(aa:(e'.at k).ok ρ o')(V:(e'.at k).below nx)
  (ab:G.os=w.os)(ht:G.tape=w.tape)(hp:G.output=w.output)(ac:G.heap.size=w.heap.size)
  (K:G.heap[ρ i k]? =some o')(x:∀b,b≠ρ i k->G.heap[b]? =w.heap[b]?):Sat C ρ (lput h i e') nx G:=by
 have E:∀f,e'.has f->St.owns h i f:=fun f j=>⟨e,y,(q f).1 j⟩
 have n:∀i' f,St.owns (lput h i e') i' f->St.owns h i' f:=by
  intro i' f Z;rcases zc8 Z with⟨rfl,j⟩ | ⟨_,Z⟩
  ·exact E _ j
  ·exact Z
 have J:=s.ne0 y Y
 have A:∀O Q R,St.owns h O Q->e.has R->ρ O Q=ρ i R->O=i/\Q=R:=fun O Q R h1 T l=>
  s.inj _ _ _ _ h1 ⟨e,y,T⟩ l
 refine{ lt:=?_,blk:=?_,wf:=?_,inj:=fun a b c d h1 T l=>s.inj a b c d (n _ _ h1) (n _ _ T) l,anch:=s.anch,n0:=s.n0,n1:=s.n1,os:=ab.trans s.os,tape:=ht.trans s.tape,output:=hp.trans s.output,size:=by rw[ac];exact s.size,fr:=?_,own:=fun a b h1=>s.own a b (n _ _ h1),fz:=by rw[zac _ _ _ _ (Ne.symm J)];exact s.fz,id0:=s.id0,only:=?_,lnk:=?_ }
 ·intro i' S g;by_cases m:i'=i
  ·subst m;exact s.lt _ e y
  ·rw[zac _ _ _ _ m]at g;exact s.lt _ _ g
 ·intro i' S g f j;by_cases m:i'=i
  ·subst m;rw[zae]at g;cases g
   by_cases p:f=k
   ·subst p;exact⟨o',K,aa⟩
   ·have o:=(q f).1 j;obtain⟨o1,D,u⟩:=s.blk _ e y f o;refine⟨o1,?_,by rw[I f p o];exact u⟩;rw[x _ (fun l=>p (A _ _ _ ⟨e,y,o⟩ W l).2)];exact D
  ·rw[zac _ _ _ _ m]at g;obtain⟨o1,D,u⟩:=s.blk _ _ g f j;refine⟨o1,?_,u⟩;rw[x _ (fun l=>m (A _ _ _ ⟨S,g,j⟩ W l).1)];exact D
 ·intro i' S g f j;by_cases m:i'=i
  ·subst m;rw[zae]at g;cases g
   by_cases p:f=k
   ·subst p;exact V
   ·have o:=(q f).1 j;rw[I f p o];exact s.wf _ e y f o
  ·rw[zac _ _ _ _ m]at g;exact s.wf _ _ g f j
 ·intro b hb hB
  have X:b≠ρ i k:=by
   intro U;subst U;rcases s.own i k ⟨e,y,W⟩with h1 | h1 | h1
   ·exact J h1.1
   ·exact hB h1
   ·omega
  rw[x b X];exact s.fr b hb hB
 ·intro i' F L;by_cases m:i'=i
  ·subst m;rw[zae]at L;cases L;exact absurd rfl ((Ent.plain_ne B).1 F)
  ·rw[zac _ _ _ _ m]at L;exact s.only i' F L
 ·intro i' b' M f;by_cases m:i'=i
  ·subst m;rw[zae]at M;cases M;exact absurd rfl ((Ent.plain_ne B).2 b')
  ·rw[zac _ _ _ _ m]at M;exact s.lnk i' b' M f
theorem Sat.forget{C:Ctx}{ρ:Rho}{h:List (List (Nat×Ent))}{nx:Nat}{w:World}(s:Sat C ρ h nx w){i:Nat}(x:i < nx)(n:i≠0):Sat C ρ (lput h i .gone) nx w:=by
 have g:∀i' j,St.owns (lput h i .gone) i' j->St.owns h i' j:=by
  intro i' j o;rcases zc8 o with⟨rfl,f⟩ | ⟨_,o⟩
  ·exact f.elim
  ·exact o
 refine{ s with lt:=?_,blk:=?_,wf:=?_,inj:=fun a b c d h1 u m=>s.inj a b c d (g _ _ h1) (g _ _ u) m,own:=fun a b h1=>s.own a b (g _ _ h1),fz:=by rw[zac _ _ _ _ (Ne.symm n)];exact s.fz,only:=?_,lnk:=?_ }
 ·intro i' p e;by_cases hh:i'=i
  ·subst hh;exact x
  ·rw[zac _ _ _ _ hh]at e;exact s.lt _ _ e
 ·intro i' p e j f;by_cases hh:i'=i
  ·subst hh;rw[zae]at e;cases e;exact f.elim
  ·rw[zac _ _ _ _ hh]at e;exact s.blk _ _ e j f
 ·intro i' p e j f;by_cases hh:i'=i
  ·subst hh;rw[zae]at e;cases e;exact f.elim
  ·rw[zac _ _ _ _ hh]at e;exact s.wf _ _ e j f
 ·intro i' F k;by_cases hh:i'=i
  ·subst hh;rw[zae]at k;cases k
  ·rw[zac _ _ _ _ hh]at k;exact s.only i' F k
 ·intro i' q l j;by_cases hh:i'=i
  ·subst hh;rw[zae]at l;cases l
  ·rw[zac _ _ _ _ hh]at l;exact s.lnk i' q l j
theorem Sat.move{C:Ctx}{ρ:Rho}{h:List (List (Nat×Ent))}{nx:Nat}{w G:World}(s:Sat C ρ h nx w){i:Nat}{e:Ent}(L:lget h i=some e)(Z:e.plain=true)(U:e.has 0)
  (b:SB)(o':Obj)(ab:b.ok ρ o')(K:b.below nx)
  (ac:G.os=w.os)(ht:G.tape=w.tape)(hp:G.output=w.output)(ad:G.heap.size=w.heap.size)
  (O:G.heap[ρ i 0]? =some o')(y:∀b,b≠ρ i 0->G.heap[b]? =w.heap[b]?):
  Sat C (rext ρ nx (ρ i 0)) (lput (lput h i .gone) nx (.one b)) (nx+1) G:=by
 have g:∀j,j < nx->rext ρ nx (ρ i 0) j=ρ j:=fun j X=>zeu X
 have M:=s.lt i e L
 have d:∀i' o,St.owns (lput h i .gone) i' o->St.owns h i' o/\i'≠i:=by
  intro i' o x;rcases zc8 x with⟨rfl,m⟩ | ⟨E,x⟩
  ·exact m.elim
  ·exact⟨x,E⟩
 have n:∀i' o,St.owns h i' o->i' < nx:=fun i' o ⟨J,c,_⟩=>s.lt i' J c
 have p:∀T k1,St.owns h T k1->ρ T k1=ρ i 0->T=i:=fun T k1 h1 l=>
  (s.inj _ _ _ _ h1 ⟨e,L,U⟩ l).1
 have B:=s.ne0 L Z;have u:=s.forget M B;refine{ lt:=?_,blk:=?_,wf:=?_,inj:=?_,anch:=?_,n0:=qbu s.n0,n1:=s.n1,os:=ac.trans s.os,tape:=ht.trans s.tape,output:=hp.trans s.output,size:=by rw[ad];exact s.size,fr:=?_,own:=?_,fz:=by rw[zac _ _ _ _ (qcv s.pos)];exact u.fz,id0:=fun k=>by rw[g 0 s.pos];exact s.id0 k,only:=?_,lnk:=?_ }
 ·intro i' J c;by_cases hh:i'=nx
  ·omega
  ·rw[zac _ _ _ _ hh]at c;have:=u.lt _ _ c;omega
 ·intro i' J c o m;by_cases hh:i'=nx
  ·subst hh;rw[zae]at c;cases c
   exact⟨o',by rw[zbw];exact O,SB.ok_congr g K ab⟩
  ·rw[zac _ _ _ _ hh]at c;have D:=u.lt _ _ c;obtain⟨o1,aa,R⟩:=u.blk _ _ c o m;refine⟨o1,?_,SB.ok_congr g (u.wf _ _ c o m) R⟩;have⟨f,q⟩:=d i' o ⟨J,c,m⟩;rw[g _ D,y _ (fun l=>q (p _ _ f l))];exact aa
 ·intro i' J c o m;by_cases hh:i'=nx
  ·subst hh;rw[zae]at c;cases c;exact SB.below_mono (qaf _) K
  ·rw[zac _ _ _ _ hh]at c;exact SB.below_mono (qaf _) (u.wf _ _ c o m)
 ·intro a k a' o h1 h2 l;rcases zc8 h1 with⟨rfl,hk⟩ | ⟨hi,x⟩<;>rcases zc8 h2 with⟨rfl,m⟩ | ⟨ae,Q⟩
  ·simp only[Ent.has]at hk m;exact⟨rfl,by omega⟩
  ·have⟨f,q⟩:=d _ _ Q;rw[zbw,g _ (n _ _ f)]at l;exact absurd (p _ _ f l.symm) q
  ·have⟨f,q⟩:=d _ _ x;rw[zbw,g _ (n _ _ f)]at l;exact absurd (p _ _ f l) q
  ·have⟨f,Y⟩:=d _ _ x;have⟨A,af⟩:=d _ _ Q;rw[g _ (n _ _ f),g _ (n _ _ A)]at l;exact s.inj _ _ _ _ f A l
 ·intro j X k;have:=s.n0;rw[g j (by omega)];exact s.anch j X k
 ·intro I V hB
  have E:I≠ρ i 0:=by
   intro W;subst W;rcases s.own i 0 ⟨e,L,U⟩with h1 | h1 | h1
   ·exact B h1.1
   ·exact hB h1
   ·omega
  rw[y I E];exact s.fr I V hB
 ·intro a k h1;rcases zc8 h1 with⟨rfl,hk⟩ | ⟨hi,x⟩
  ·rw[zbw];exact .inr ((s.own i 0 ⟨e,L,U⟩).resolve_left (fun h=>B h.1))
  ·have⟨f,Y⟩:=d _ _ x;rw[g _ (n _ _ f)];exact s.own _ _ f
 ·intro i' F S;by_cases hh:i'=nx
  ·subst hh;rw[zae]at S;cases S
  ·rw[zac _ _ _ _ hh]at S;exact u.only i' F S
 ·intro i' I D o;by_cases hh:i'=nx
  ·subst hh;rw[zae]at D;cases D
  ·rw[zac _ _ _ _ hh]at D;rw[g _ (u.lt _ _ D)];exact u.lnk i' I D o
theorem Den.heap{C:Ctx}{ρ k:Rho}{j:St}{a:Act}{w m:World}{l:List (List (Nat×Ent))}{e:Nat}(d:Den C ρ j a w)
  (s:Sat C k l e m)(f:∀i,i < j.nx->k i=ρ i)(g:j.nx<=e):Den C k { j with h:=l,nx:=e } a m where
 sat:=s
 nt:=d.nt
 tm:=fun n x c=>by
  obtain⟨v,p,o⟩:=d.tm n x c;exact⟨v,p,SV.rel_congr f (d.tw n x c) o⟩
 tw:=fun n x c=>SV.below_mono g (d.tw n x c)
 n0:=d.n0
 df:=by
  rw[d.df];refine ju fun x c=>?_
  simp only[defOf];rw[zdq f (d.dw x c)]
 dw:=fun x c b hb=>SA.below_mono g (d.dw x c b hb)
theorem Den.put{C:Ctx}{ρ:Rho}{f:St}{a:Act}{w:World}(d:Den C ρ f a w)(n:Nat)(h:n < f.nt)(s:SV)(v:Value)(i:s.rel ρ v)(hb:s.below f.nx):
  Den C ρ { f with t:=lput f.t n s } (a.put (some n) v) w where
 sat:=d.sat
 nt:=by simp[Act.put,d.nt]
 tm:=fun m x b=>by
  by_cases c:m=n
  ·subst c;rw[zae]at b;cases b
   exact⟨v,by simp[Act.put,d.nt,h],i⟩
  ·rw[zac _ _ _ _ c]at b;obtain⟨u,j,g⟩:=d.tm m x b;refine⟨u,?_,g⟩;simp only[Act.put];rw[Array.getElem?_setIfInBounds_ne (fun e=>c e.symm)];exact j
 tw:=fun m x b=>by
  by_cases c:m=n
  ·subst c;rw[zae]at b;cases b;exact hb
  ·rw[zac _ _ _ _ c]at b;exact d.tw m x b
 n0:=d.n0
 df:=d.df
 dw:=d.dw
def takeN{α:Type}:Nat->List α->Option (List α)
 |0,_=>some []
 |_+1,[]=>none
 |n+1,x::r=>match takeN n r with
  |some xs=>some (x::xs)
  |none=>none
def zen{α:Type}:List α->Nat->Nat->Option (List α)
 |l,0,n=>takeN n l
 |[],_+1,_=>none
 |_::r,o+1,n=>zen r o n
def setN{α:Type}:List α->List α->Option (List α)
 |l,[]=>some l
 |[],_::_=>none
 |_::r,x::xs=>match setN r xs with
  |some r'=>some (x::r')
  |none=>none
def setAt{α:Type}:List α->Nat->List α->Option (List α)
 |l,0,xs=>setN l xs
 |[],_+1,_=>none
 |y::r,o+1,xs=>match setAt r o xs with
  |some r'=>some (y::r')
  |none=>none
theorem znu{α:Type}:∀(n:Nat) (l b:List α),takeN n l=some b->∃a,l=b++a/\b.length=n
 |0,l,b,h=>by simp[takeN]at h;subst h;exact⟨l,rfl,rfl⟩
 |n+1,[],b,h=>by simp[takeN]at h
 |n+1,x::r,b,h=>by
  simp only[takeN]at h;split at h
  ·rename_i e d;cases h
   obtain⟨a,h1,c⟩:=znu n r e d;exact⟨a,by rw[h1];rfl,by simp[c]⟩
  ·cases h
theorem zd3{α:Type}:∀(l:List α) (o n:Nat) (c:List α),zen l o n=some c->∃b a,l=b++c++a/\b.length=o/\c.length=n
 |l,0,n,c,h=>by
  have e:takeN n l=some c:=by cases l<;>simpa[zen]using h
  obtain⟨a,h1,d⟩:=znu n l c e;exact⟨[],a,by simpa using h1,rfl,d⟩
 |[],o+1,n,c,h=>by simp[zen]at h
 |y::r,o+1,n,c,h=>by
  simp only[zen]at h;obtain⟨b,a,h1,d,f⟩:=zd3 r o n c h;exact⟨y::b,a,by rw[h1];rfl,by simp[d],f⟩
theorem zry{α:Type}:∀(l c b:List α),setN l c=some b->∃old a,l=old++a/\b=c++a/\old.length=c.length
 |l,[],b,h=>by
  have:l=b:=by cases l<;>simpa[setN]using h
  subst this;exact⟨[],l,rfl,rfl,rfl⟩
 |[],_::_,b,h=>by simp[setN]at h
 |y::r,x::c,b,h=>by
  simp only[setN]at h;split at h
  ·rename_i g f;cases h
   obtain⟨old,a,h1,d,e⟩:=zry r c g f;exact⟨y::old,a,by rw[h1];rfl,by rw[d];rfl,by simp[e]⟩
  ·cases h
theorem zgj{α:Type}:∀(l:List α) (o:Nat) (c d:List α),setAt l o c=some d->∃b old a,l=b++old++a/\d=b++c++a/\b.length=o/\old.length=c.length
 |l,0,c,d,h=>by
  have g:setN l c=some d:=by cases l<;>simpa[setAt]using h
  obtain⟨old,a,h1,e,f⟩:=zry l c d g;exact⟨[],old,a,by simpa using h1,by simpa using e,rfl,f⟩
 |[],o+1,c,d,h=>by simp[setAt]at h
 |y::r,o+1,c,d,h=>by
  simp only[setAt]at h;split at h
  ·rename_i k j;cases h
   obtain⟨b,old,a,h1,e,f,i⟩:=zgj r o c k j;exact⟨y::b,old,a,by rw[h1];rfl,by rw[e];rfl,by simp[f],i⟩
  ·cases h
theorem zjn{α:Type}{sz:Nat}:∀(L:List (List α)) (e:Nat) (x:List α),(∀y∈L,y.length=sz)->L[e]? =some x->
  ∃b a,L.flatten=b++x++a/\b.length=e*sz/\∀c,(L.set e c).flatten=b++c++a
 |[],e,x,_,h=>by simp at h
 |y::L,0,x,hl,h=>by
  simp at h;subst h;exact⟨[],L.flatten,by simp,by simp,fun c=>by simp⟩
 |y::L,e+1,x,hl,h=>by
  simp at h;obtain⟨b,a,h1,d,f⟩:=zjn L e x (fun z g=>hl z (by simp[g])) h;refine⟨y++b,a,by simp[h1],?_,fun c=>?_⟩
  ·have:=hl y (by simp);simp[d,this,qa2];omega
  ·have:=f c;simp[this]
def RowAt(w:World)(b:Nat)(t:TypeId)(a:List Value):Prop:=∃o,w.heap[b]? =some o/\IsRow o t a
theorem RowAt.cell{w:World}{b:Nat}{t:TypeId}{a:List Value}(h:RowAt w b t a)(j:Nat):w.cell? ⟨b,j,none⟩=a[j]?:=by
 obtain⟨o,d,c,_,rfl⟩:=h;have:=cell_of_row w b j a.toArray t c d;simpa using this
theorem RowAt.free{w:World}{b:Nat}{t:TypeId}{a:List Value}(h:RowAt w b t a)(j:Nat)(c:j < a.length):w.frozen? ⟨b,j,none⟩=false:=by
 obtain⟨o,e,f,d,rfl⟩:=h;have:=d j c;simp only[World.frozen?,e];simp;intro h1;have g:=d j c;omega
theorem zc0{P:Program}(g a:Nat)(t:TypeId):∀(vs:List Value) (i:Nat) (b:List Value) (w:World),RowAt w g t b->a+i+vs.length<=b.length->(∀v∈vs,v.oneCell'=true)->
  (storeCells ⟨g,a,none⟩ vs i).run P w=.ok () (w.setRow g (b.take (a+i)++vs++b.drop (a+i+vs.length)).toArray)
 |[],i,b,w,hg,_,_=>by
  obtain⟨o,k,f,n,rfl⟩:=hg;simp only[storeCells,q5,qu,qau,y9];rw[setRow_self w g b.toArray t f k];rfl
 |v::rest,i,b,w,hg,hl,h1=>by
  have m:a+i < b.length:=by simp at hl;omega
  have h:(⟨g,a,none⟩:Addr).add i=⟨g,a+i,none⟩:=by unfold Addr.add;split<;>simp_all
  have c:w.cell? ⟨g,a+i,none⟩=some b[a+i]:=by rw[hg.cell];simp[m]
  have j:w.frozen? ⟨g,a+i,none⟩=false:=hg.free _ m;obtain⟨o,k,f,n,rfl⟩:=hg
  have l:(store ((⟨g,a,none⟩:Addr).add i) v).run P w=.ok () (w.setRow g (b.toArray.setIfInBounds (a+i) v)):=by
   rw[h,run_store P w _ v _ (h1 v (by simp)),c];simp[j,setCell_eq_setRow w g (a+i) b.toArray t f v k]
  have d:RowAt (w.setRow g (b.toArray.setIfInBounds (a+i) v)) g t (b.set (a+i) v):=
   ⟨_,setRow_heap w g _ _ t f k,f,by simpa using n,by simp⟩
  have ih:=zc0 (P:=P) g a t rest (i+1) (b.set (a+i) v) _ d (by simp at hl ⊢;omega) (fun x p=>h1 x (by simp[p]));simp only[storeCells,Sem.run_bind,l,Result.andThen_ok,ih,setRow_setRow]
  congr 3
  have e:=list_seg_step b (a+i) v rest (by simp at hl ⊢;omega);simpa[qbr]using e
def RdO(o:Obj)(d n:Nat)(e:List SA):Prop:=e.length=n/\(∀a∈e,a.below 0)/\∀ρ:Rho,∃(t:TypeId) (f:Nat×Nat) (c b:List Value),o=.cells (c++e.map (SA.den ρ)++b).toArray t f/\c.length=d
def rdB(b:SB)(p:Pl)(n:Nat)(K:List SA->Prop):Prop:=
 match b with
 |.cells _ l=>match zen l (p.e*p.sz+p.o) n with
  |some a=>K a
  |none=>False
 |.arr _ sz L _=>match Nat.beq p.sz sz with
  |true=>∃x,L[p.e]? =some x/\(match zen x p.o n with
   |some a=>K a
   |none=>False)
  |false=>∃a,zen L.flatten (p.e*p.sz+p.o) n=some a/\K a
 |.obj o=>∃a,RdO o (p.e*p.sz+p.o) n a/\K a
def rd(h:List (List (Nat×Ent)))(p:Pl)(n:Nat)(K:List SA->Prop):Prop:=
 match lget h p.i with
 |some (.one b)=>(match p.k with
  |0=>rdB b p n K
  |_+1=>False)
 |some (.opt c b)=>c=true/\(match p.k with
  |0=>rdB b p n K
  |_+1=>False)
 |some (.fam m c f)=>(p.k < m/\c p.k=true)/\rdB (f p.k) p n K
 |some (.frz F)=>∃B,F p.k=some B/\rdB B p n K
 |some (.lnk b)=>(match lget h 0 with
  |some (.frz F)=>∃B,F (b p.k)=some B/\rdB B p n K
  |_=>False)
 |some .gone=>False
 |none=>False
def wrB(b:SB)(p:Pl)(vs:List SA)(K:SB->Prop):Prop:=
 match b with
 |.cells t l=>match setAt l (p.e*p.sz+p.o) vs with
  |some l'=>K (.cells t l')
  |none=>False
 |.arr t sz L room=>match Nat.beq p.sz sz with
  |true=>∃x,L[p.e]? =some x/\(match setAt x p.o vs with
   |some x'=>K (.arr t sz (L.set p.e x') room)
   |none=>False)
  |false=>∃a,(∀x∈a,x.length=sz)/\a.length=L.length/\setAt L.flatten (p.e*p.sz+p.o) vs=some a.flatten/\K (.arr t sz a room)
 |.obj _=>False
def wr(h:List (List (Nat×Ent)))(p:Pl)(vs:List SA)(K:List (List (Nat×Ent))->Prop):Prop:=
 match lget h p.i with
 |some (.one b)=>(match p.k with
  |0=>wrB b p vs fun a=>K (lput h p.i (.one a))
  |_+1=>False)
 |some (.opt c b)=>c=true/\(match p.k with
  |0=>wrB b p vs fun a=>K (lput h p.i (.opt c a))
  |_+1=>False)
 |some (.fam m c f)=>(p.k < m/\c p.k=true)/\wrB (f p.k) p vs fun a=>K (lput h p.i (.fam m c fun k=>if k=p.k then a else f k))
 |some (.frz _)=>False
 |some (.lnk _)=>False
 |some .gone=>False
 |none=>False
def zx5(o:Obj)(t:TypeId)(a:List Value):Prop:=∃b,o=.cells a.toArray t b
theorem IsRow.r{o:Obj}{t:TypeId}{a:List Value}(h:IsRow o t a):zx5 o t a:=let⟨b,_,e⟩:=h;⟨b,e⟩
def zpr(w:World)(b:Nat)(t:TypeId)(a:List Value):Prop:=∃o,w.heap[b]? =some o/\zx5 o t a
theorem zpr.cell{w:World}{b:Nat}{t:TypeId}{a:List Value}(h:zpr w b t a)(j:Nat):w.cell? ⟨b,j,none⟩=a[j]?:=by
 obtain⟨o,d,c,rfl⟩:=h;have:=cell_of_row w b j a.toArray t c d;simpa using this
theorem zrf{ρ:Rho}{b:SB}{p:Pl}{n nx:Nat}{K:List SA->Prop}{o:Obj}(h:rdB b p n K)(f:b.ok ρ o)(q:b.below nx):
  ∃g,K g/\g.length=n/\(∀a∈g,a.below nx)/\∃t d c,zx5 o t (d++g.map (SA.den ρ)++c)/\d.length=p.e*p.sz+p.o:=by
 cases b with
 |cells t l=>
  simp only[rdB]at h;split at h
  ·rename_i g D;obtain⟨d,c,h1,j,k⟩:=zd3 _ _ _ _ D;refine⟨g,h,k,fun a m=>q a (by rw[h1];simp[m]),t,d.map (SA.den ρ),c.map (SA.den ρ),?_,by simpa using j⟩;simp only[SB.ok]at f;rw[h1]at f;exact IsRow.r (by simpa using f)
  ·exact h.elim
 |arr t sz L room=>
  simp only[rdB]at h;obtain⟨J,T,i,U,B⟩:=f;split at h
  ·rename_i G;have G:=qm G;obtain⟨x,D,s⟩:=h;split at s
   ·rename_i g u;obtain⟨d,c,h1,j,k⟩:=zd3 _ _ _ _ u;obtain⟨A,w,R,S,_⟩:=zjn L p.e x J D;refine⟨g,s,k,fun a m=>q x (yr D) a (by rw[h1];simp[m]),t,(A++d).map (SA.den ρ),(c++w).map (SA.den ρ)++i,?_,?_⟩
    ·rw[R,h1]at B;exact IsRow.r (by simpa using B)
    ·simp[j,S,G]
   ·exact s.elim
  ·obtain⟨g,u,s⟩:=h;obtain⟨d,c,h1,j,k⟩:=zd3 _ _ _ _ u;refine⟨g,s,k,fun a m=>?_,t,d.map (SA.den ρ),c.map (SA.den ρ)++i,?_,by simpa using j⟩
   ·obtain⟨y,Q,E⟩:=qbi.1 (show a∈L.flatten by rw[h1];simp[m]);exact q y Q a E
   ·rw[h1]at B;exact IsRow.r (by simpa using B)
 |obj o'=>
  obtain⟨g,⟨h1,j,k⟩,s⟩:=h;obtain⟨t,I,d,c,M,O⟩:=k ρ;have f:o=o':=f;exact⟨g,s,h1,fun a m=>SA.below_mono (yh _) (j a m),t,d,c,⟨I,f.trans M⟩,O⟩
theorem zoz{C:Ctx}{ρ:Rho}{h:List (List (Nat×Ent))}{nx:Nat}{w:World}{p:Pl}{n:Nat}{K:List SA->Prop}(g:rd h p n K)(s:Sat C ρ h nx w):
  ∃l,K l/\l.length=n/\(∀a∈l,a.below nx)/\∃t j d,zpr w (ρ p.i p.k) t (j++l.map (SA.den ρ)++d)/\j.length=p.e*p.sz+p.o:=by
 have x:∀e,lget h p.i=some e->e.has p.k->rdB (e.at p.k) p n K->∃l,K l/\l.length=n/\(∀a∈l,a.below nx)/\∃t j d,zpr w (ρ p.i p.k) t (j++l.map (SA.den ρ)++d)/\j.length=p.e*p.sz+p.o:=by
  intro e q A hb;obtain⟨o,E,u⟩:=s.blk _ e q _ A;obtain⟨l,h1,G,I,t,j,d,J,L⟩:=zrf hb u (s.wf _ e q _ A);exact⟨l,h1,G,I,t,j,d,⟨o,E,J⟩,L⟩
 unfold rd at g;split at g
 ·rename_i b q;split at g
  ·rename_i A;exact x _ q A g
  ·exact g.elim
 ·rename_i c b q;obtain⟨O,g⟩:=g;split at g
  ·rename_i A;exact x _ q ⟨O,A⟩ g
  ·exact g.elim
 ·rename_i m c f q;exact x _ q g.1 g.2
 ·rename_i F q;obtain⟨B,y,g⟩:=g;exact x _ q (by simp[Ent.has,y]) (by simpa[Ent.at,y]using g)
 ·rename_i b q;split at g
  ·rename_i F M;obtain⟨B,y,g⟩:=g;have Q:=s.lnk _ _ q p.k;obtain⟨o,E,u⟩:=s.blk 0 _ M (b p.k) (by simp[Ent.has,y]);have D:=s.wf 0 _ M (b p.k) (by simp[Ent.has,y]);simp only[Ent.at,y,yi]at u D;rw[s.id0,<-Q]at E;obtain⟨l,h1,G,I,t,j,d,J,L⟩:=zrf g u D;exact⟨l,h1,G,I,t,j,d,⟨o,E,J⟩,L⟩
  ·exact g.elim
 ·exact g.elim
 ·exact g.elim
theorem z3o{ρ:Rho}{b:SB}{p:Pl}{vs:List SA}{nx:Nat}{K:SB->Prop}{o:Obj}(h:wrB b p vs K)(k:b.ok ρ o)(g:b.below nx)(O:∀a∈vs,a.below nx):
  ∃E,K E/\E.below nx/\∃t d old c,IsRow o t (d++old++c)/\d.length=p.e*p.sz+p.o/\old.length=vs.length/\∀A,IsRow A t (d++vs.map (SA.den ρ)++c)->E.ok ρ A:=by
 cases b with
 |cells t l=>
  simp only[wrB]at h;split at h
  ·rename_i l' m;obtain⟨d,old,c,h1,j,q,s⟩:=zgj _ _ _ _ m;refine⟨_,h,?_,t,d.map (SA.den ρ),old.map (SA.den ρ),c.map (SA.den ρ),?_,by simpa using q,by simpa using s,?_⟩
   ·intro a ha;rw[j]at ha;simp at ha;rcases ha with ha | ha | ha
    ·exact g a (by rw[h1];simp[ha])
    ·exact O a ha
    ·exact g a (by rw[h1];simp[ha])
   ·simp only[SB.ok]at k;rw[h1]at k;simpa using k
   ·intro A i;simp only[SB.ok];rw[j];simpa using i
  ·exact h.elim
 |arr t sz L room=>
  simp only[wrB]at h;obtain⟨G,S,f,T,D⟩:=k;split at h
  ·rename_i M;have M:=qm M;obtain⟨x,m,w⟩:=h;split at w
   ·rename_i V R;obtain⟨d,old,c,h1,j,q,s⟩:=zgj _ _ _ _ R;obtain⟨B,n,X,Y,Z⟩:=zjn L p.e x G m
    have Q:V.length=sz:=by
     have:=G x (yr m);rw[h1]at this;rw[j];simp at this ⊢;omega
    refine⟨_,w,?_,t,(B++d).map (SA.den ρ),old.map (SA.den ρ),(c++n).map (SA.den ρ)++f,?_,?_,by simpa using s,fun A i=>⟨?_,?_,f,?_,?_⟩⟩
    ·intro y hy a ha;rcases qb2 hy with hy | hy
     ·exact g y hy a ha
     ·subst hy;rw[j]at ha;simp at ha;rcases ha with ha | ha | ha
      ·exact g x (yr m) a (by rw[h1];simp[ha])
      ·exact O a ha
      ·exact g x (yr m) a (by rw[h1];simp[ha])
    ·rw[X,h1]at D;simpa using D
    ·simp[q,Y,M]
    ·intro y hy;rcases qb2 hy with hy | hy
     ·exact G y hy
     ·subst hy;exact Q
    ·simpa using S
    ·simpa using T
    ·rw[Z V,j];simpa using i
   ·exact w.elim
  ·obtain⟨W,I,u,m,w⟩:=h;obtain⟨d,old,c,h1,j,q,s⟩:=zgj _ _ _ _ m
   have U:∀a∈L.flatten,a.below nx:=fun a ha=>by
    obtain⟨y,hy,J⟩:=qbi.1 ha;exact g y hy a J
   refine⟨_,w,?_,t,d.map (SA.den ρ),old.map (SA.den ρ),c.map (SA.den ρ)++f,?_,by simpa using q,by simpa using s,?_⟩
   ·intro y hy a ha;have ha:a∈W.flatten:=qbi.2 ⟨y,hy,ha⟩;rw[j]at ha;simp at ha;rcases ha with ha | ha | ha
    ·exact U a (by rw[h1];simp[ha])
    ·exact O a ha
    ·exact U a (by rw[h1];simp[ha])
   ·rw[h1]at D;simpa using D
   ·intro A i;refine⟨I,by rw[u];exact S,f,by rw[u];exact T,?_⟩;rw[j];simpa using i
 |obj o=>exact h.elim
theorem zfb(w:World)(g b:Nat)(a:Array Value)(h:b≠g):(w.setRow g a).heap[b]? =w.heap[b]?:=by
 simp only[World.setRow,qdk];rw[if_neg (fun e=>h e.symm)]
theorem zwe{C:Ctx}{ρ:Rho}{h:List (List (Nat×Ent))}{nx:Nat}{w:World}{p:Pl}{vs:List SA}{K:List (List (Nat×Ent))->Prop}(l:wr h p vs K)(s:Sat C ρ h nx w)
  (X:∀a∈vs,a.below nx):
  ∃D t j old g,K D/\RowAt w (ρ p.i p.k) t (j++old++g)/\j.length=p.e*p.sz+p.o/\old.length=vs.length/\
   Sat C ρ D nx (w.setRow (ρ p.i p.k) (j++vs.map (SA.den ρ)++g).toArray):=by
 have B:∀e (e':SB->Ent),lget h p.i=some e->e.plain=true->(∀d,(e' d).plain=true)->e.has p.k->(∀d q,(e' d).has q↔e.has q)->(∀d q,q≠p.k->e.has q->(e' d).at q=e.at q)->(∀d,(e' d).at p.k=d)->
   wrB (e.at p.k) p vs (fun d=>K (lput h p.i (e' d)))->∃D t j old g,K D/\RowAt w (ρ p.i p.k) t (j++old++g)/\j.length=p.e*p.sz+p.o/\old.length=vs.length/\
   Sat C ρ D nx (w.setRow (ρ p.i p.k) (j++vs.map (SA.den ρ)++g).toArray):=by
  intro e e' u L E x hh I y hb;obtain⟨o,R,M⟩:=s.blk _ e u _ x;obtain⟨d,h1,S,t,j,old,g,T,U,Q,V⟩:=z3o hb M (s.wf _ e u _ x) X;obtain⟨O,G,rfl⟩:=T;refine⟨_,t,j,old,g,h1,⟨_,R,O,G,rfl⟩,U,Q,?_⟩;exact s.upd p.k u L (E d) x (hh d) _ (I d) (by rw[y];exact V _ ⟨O,by simp at G ⊢;rw[Q]at G;exact G,rfl⟩) (by rw[y];exact S) rfl rfl rfl (by simp) (setRow_heap w _ _ _ t _ R) (fun b J=>zfb w _ b _ J)
 unfold wr at l;split at l
 ·rename_i b u;split at l
  ·rename_i x;exact B _ (fun d=>.one d) u rfl (fun _=>rfl) x (fun _ _=>Iff.rfl) (fun d q n A=>absurd (A.trans x.symm) n) (fun _=>rfl) l
  ·exact l.elim
 ·rename_i c b u;obtain⟨W,l⟩:=l;split at l
  ·rename_i x;exact B _ (fun d=>.opt c d) u rfl (fun _=>rfl) ⟨W,x⟩ (fun _ _=>Iff.rfl) (fun d q n A=>absurd (A.2.trans x.symm) n) (fun _=>rfl) l
  ·exact l.elim
 ·rename_i m c f u;exact B _ (fun d=>.fam m c fun k=>if k=p.k then d else f k) u rfl (fun _=>rfl) l.1 (fun _ _=>Iff.rfl) (fun d q n _=>by simp[Ent.at,n]) (fun _=>by simp[Ent.at]) l.2
 ·exact l.elim
 ·exact l.elim
 ·exact l.elim
 ·exact l.elim
end Sx
