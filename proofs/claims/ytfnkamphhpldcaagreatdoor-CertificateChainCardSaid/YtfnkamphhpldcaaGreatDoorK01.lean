import Derived.WalkKit
import Derived.Laws.CopyOwn
set_option maxHeartbeats 64000000
namespace Sx
open Go
theorem oo{p:Prop}(h:p:=by omega):p:=h
theorem dd{p:Prop}(h:p:=by decide):p:=h
theorem ss{p:Prop}(h:p:=by simp):p:=h
abbrev nb:=@Nat.le_of_ble_eq_true
abbrev od:=@of_decide_eq_true
abbrev oe:=@of_decide_eq_false
abbrev qa:=@List.length_map
abbrev qb:=@List.length_append
abbrev qc:=@List.getElem?_eq_getElem
abbrev qd:=@Bool.and_eq_true
abbrev qe:=@List.take_succ_eq_append_getElem
abbrev qf:=@List.length_cons
abbrev qg:=@Int.toNat_natCast
abbrev qh:=@List.getElem?_eq_some_iff
abbrev qi:=@List.mem_cons
abbrev qj:=@Nat.le_refl
abbrev qk:=@List.take_of_length_le
abbrev ql:=@List.append_assoc
abbrev qm:=@Nat.eq_of_beq_eq_true
abbrev qn:=@List.length_take
abbrev qo:=@List.all_eq_true
abbrev qp:=@List.not_mem_nil
abbrev qq:=@List.map_append
abbrev qs:=@List.mem_singleton
abbrev qt:=@List.getElem_mem
abbrev qu:=@List.getElem?_map
abbrev qv:=@List.length_nil
abbrev qw:=@List.nil_append
abbrev qx:=@List.append_nil
abbrev qy:=@List.map_congr_left
abbrev qz:=@Nat.zero_add
abbrev q5:=@List.eq_nil_of_length_eq_zero
abbrev q8:=@List.map_map
abbrev q9:=@List.map_cons
abbrev ji:=@List.drop_eq_getElem_cons
abbrev jj:=@List.getElem?_append_left
abbrev jk:=@List.mem_map
abbrev jm:=@Nat.le_trans
abbrev jo:=@Int.tdiv_eq_ediv_of_nonneg
abbrev jp:=@Array.getElem?_eq_some_iff
abbrev jq:=@List.getElem?_append_right
abbrev js:=@Nat.zero_le
abbrev jt:=@Option.isSome_iff_exists
abbrev ju:=@Nat.mod_eq_of_lt
abbrev jv:=@Bool.false_and
abbrev jw:=@List.flatten_cons
abbrev jx:=@Bool.false_eq_true
abbrev jy:=@Int.natCast_nonneg
abbrev jz:=@List.cons_append
abbrev yd:=@List.mem_append
abbrev yf:=@List.mem_of_mem_take
abbrev yg:=@List.drop_of_length_le
abbrev yh:=@Option.getD_some
abbrev yi:=@List.flatten_append
abbrev yj:=@List.mem_cons_of_mem
abbrev yk:=@Bool.and_false
abbrev yl:=@List.length_drop
abbrev ym:=@Nat.zero_lt_one
abbrev yp:=@List.getD_eq_getElem?_getD
abbrev yq:=@Nat.lt_of_le_of_lt
abbrev yr:=@List.getElem_map
abbrev yt:=@List.length_singleton
abbrev yu:=@List.map_nil
abbrev yv:=@List.take_length
abbrev yw:=@List.take_append_drop
abbrev yx:=@List.mem_of_getElem?
abbrev yy:=@Nat.lt_of_lt_of_le
abbrev yz:=@Bool.true_and
abbrev y4:=@Int.tmod_eq_emod_of_nonneg
abbrev y5:=@List.drop_zero
abbrev y6:=@List.flatten_nil
abbrev y8:=@List.length_eq_zero_iff
abbrev y9:=@List.size_toArray
abbrev qaa:=@Nat.mul_le_mul_right
abbrev qab:=@List.getElem?_drop
abbrev qac:=@Nat.le_succ
abbrev qad:=@List.getElem?_eq_none
abbrev qae:=@Nat.mul_comm
abbrev qaf:=@Array.replicate_succ
abbrev qag:=@Array.replicate_zero
abbrev qah:=@Nat.mul_le_mul
abbrev qai:=@Bool.or_eq_true
abbrev qaj:=@List.foldl_cons
abbrev qak:=@List.append_toArray
abbrev qal:=@Bool.not_eq_true'
abbrev qam:=@List.length_filter_le
abbrev qan:=@List.length_zip
abbrev qao:=@Nat.min_eq_left
abbrev qap:=@UInt8.toNat_ofNat'
abbrev qaq:=@List.mem_of_mem_drop
abbrev qar:=@Nat.add_sub_cancel_left
abbrev qas:=@List.foldl_append
abbrev qat:=@List.push_toArray
abbrev qau:=@Nat.add_zero
abbrev qav:=@Option.map_eq_some_iff
abbrev qaw:=@Int.toNat_of_nonneg
abbrev qax:=@List.length_zipWith
abbrev qay:=@List.range_succ
abbrev qaz:=@List.length_replicate
abbrev qa0:=@List.set_cons_zero
abbrev qa1:=@Nat.mod_lt
abbrev qa2:=@Nat.succ_mul
abbrev qa3:=@List.mem_append_left
abbrev qa4:=@Nat.pow_le_pow_right
abbrev qa5:=@Int.natCast_mul
abbrev qa6:=@Int.le_trans
abbrev qa7:=@Nat.sub_zero
abbrev qa8:=@Bool.false_or
abbrev qa9:=@Array.getElem?_append_left
abbrev qba:=@Int.fdiv_eq_ediv_of_nonneg
abbrev qbb:=@Int.mul_le_mul
abbrev qbc:=@Nat.ble_eq_true_of_le
abbrev qbd:=@List.any_eq_false
abbrev qbe:=@List.ext_getElem?
abbrev qbf:=@List.getElem?_set
abbrev qbg:=@Nat.le_succ_of_le
abbrev qbh:=@List.getElem?_take_of_lt
abbrev qbi:=@List.length_pos_iff
abbrev qbj:=@List.getElem?_cons_succ
abbrev qbk:=@List.mem_flatten
abbrev qbl:=@List.take_take
abbrev qbm:=@List.drop_eq_nil_of_le
abbrev qbn:=@List.mem_cons_self
abbrev qbo:=@Nat.eq_zero_or_pos
abbrev qbp:=@List.length_set
abbrev qbq:=@UInt8.toNat_inj
abbrev qbr:=@List.all_cons
abbrev qbs:=@Nat.add_assoc
abbrev qbt:=@List.mem_append_right
abbrev qbu:=@List.set_append_right
abbrev qbv:=@UInt8.le_iff_toNat_le
abbrev qbw:=@Nat.two_pow_add_eq_or_of_lt
abbrev qbx:=@List.foldl_nil
abbrev qby:=@List.getElem?_set_ne
abbrev qbz:=@List.getElem_zipWith
abbrev qb0:=@List.mem_iff_getElem
abbrev qb1:=@Nat.add_mul
abbrev qb2:=@Nat.div_lt_of_lt_mul
abbrev qb3:=@List.map_flatten
abbrev qb4:=@List.map_set
abbrev qb5:=@Nat.add_comm
abbrev qb6:=@Array.getElem?_eq_getElem
abbrev qb7:=@List.mem_or_eq_of_mem_set
abbrev qb8:=@List.length_flatten
abbrev qb9:=@List.replicate_succ
abbrev qca:=@Nat.mul_le_mul_left
abbrev qcb:=@Nat.div_le_self
abbrev qcc:=@Nat.not_lt_zero
abbrev qcd:=@Int.tmod_lt_of_pos
abbrev qce:=@List.mem_replicate
abbrev qcf:=@List.zip_cons_cons
abbrev qcg:=@Int.mul_nonneg
abbrev qch:=@List.getElem?_set_self
abbrev qci:=@Nat.le_of_eq
abbrev qcj:=@Nat.lt_or_ge
abbrev qck:=@Nat.pow_succ
abbrev qcl:=@UInt8.toNat_lt
abbrev qcm:=@List.getElem?_toArray
abbrev qcn:=@Int.mul_le_mul_of_nonneg_right
abbrev qco:=@Int.not_lt
abbrev qcp:=@Nat.and_two_pow_sub_one_eq_mod
abbrev qcq:=@Nat.lt_succ_self
abbrev qcr:=@Nat.mul_assoc
abbrev qcs:=@Bool.or_eq_false_iff
abbrev qct:=@List.take_append_of_le_length
abbrev qcu:=@Nat.add_le_add_right
abbrev qcv:=@Int.natCast_add
abbrev qcw:=@Int.tmod_nonneg
abbrev qcx:=@List.all_append
abbrev qcy:=@Nat.and_le_left
abbrev qcz:=@Nat.ne_of_lt
abbrev qc0:=@List.drop_left
abbrev qc1:=@List.filter_append
abbrev qc2:=@List.mem_range
abbrev qc3:=@List.set_cons_succ
abbrev qc4:=@Nat.xor_lt_two_pow
abbrev qc5:=@Array.mapM_eq_mapM_toList
abbrev qc6:=@List.getLast?_eq_getElem?
abbrev qc7:=@Bool.eq_false_iff
abbrev qc8:=@List.all_eq_false
abbrev qc9:=@List.map_id
abbrev qda:=@Nat.mul_one
abbrev qdb:=@Bool.and_true
abbrev qdc:=@Int.mul_tdiv_cancel_left
abbrev qdd:=@List.eq_of_mem_replicate
abbrev qde:=@List.map_take
abbrev qdf:=@Array.toList_inj
abbrev qdg:=@List.all_reverse
abbrev qdh:=@List.getElem_zip
abbrev qdi:=@Option.bind_some
abbrev qdj:=@Int.zero_mul
abbrev qdk:=@List.append_eq_nil_iff
abbrev qdl:=@List.filter_eq_nil_iff
abbrev qdm:=@List.length_eq_one_iff
abbrev qdn:=@List.sum_replicate_nat
abbrev qdo:=@Nat.sub_self
abbrev qdp:=@Nat.zero_mul
abbrev qdq:=@Bool.eq_iff_iff
abbrev qdr:=@List.mem_filter
abbrev qds:=@List.of_mem_zip
abbrev qdt:=@List.take_left'
abbrev qdu:=@Nat.div_add_mod
abbrev qdv:=@Option.map_some
abbrev qdw:=@Array.getElem?_modify
abbrev qdx:=@List.singleton_append
abbrev qdy:=@List.drop_drop
abbrev qdz:=@List.replicate_succ'
abbrev qd0:=@Array.getElem?_push
abbrev qd1:=@Array.length_toList
abbrev qd2:=@List.filter_eq_self
abbrev qd3:=@List.getElem?_range
abbrev qd4:=@List.take_succ_cons
abbrev qd5:=@Nat.div_mul_le_self
abbrev qd6:=@Int.neg_tdiv
abbrev qd7:=@Int.neg_tmod
abbrev qd8:=@Nat.min_self
abbrev qd9:=@Int.pow_pos
abbrev qea:=@Nat.mul_add
theorem tv:True:=.intro
abbrev Rho:=Nat->Nat->Nat
structure Pl where
 i:Nat
 k:Nat
 e:Nat
 sz:Nat
 o:Nat
def Pl.addr(ρ:Rho)(p:Pl):Addr:=⟨ρ p.i p.k,p.e*p.sz+p.o,none⟩
inductive SA where
 |int (k:IntKind) (n:Int)
 |lit (b:Bool)
 |bool (b:Bool)
 |str (s:List UInt8)
 |ptr (p:Pl)
 |slice (nil:Bool) (i k e sz len cap:Nat)
 |nilptr
 |nilfn
 |nilif
 |ifc (t:TypeId) (v:Value)
 |glob (g:Nat)
 |fn (f:Fn) (cap:List Pl)
 |iter (i k:Nat)
 |map (i k:Nat)
 |nilmap
 |nilsl
def SA.den(ρ:Rho):SA->Value
 |.int k n=>.int k n
 |.lit b=>.bool b
 |.bool b=>.bool b
 |.str s=>.string ⟨s.toArray⟩
 |.ptr p=>.pointer (some (p.addr ρ))
 |.slice nil i k e sz len cap=>.slice (if nil then none else some ⟨ρ i k,e*sz,none⟩) len cap
 |.nilptr=>.pointer none
 |.nilfn=>.nilFunc
 |.nilif=>.nilIface
 |.ifc t v=>.iface t v
 |.glob g=>.pointer (some ⟨g,0,none⟩)
 |.fn f cap=>.func f #[] (cap.map fun p=>Value.pointer (some (p.addr ρ))).toArray
 |.iter i k=>.pointer (some ⟨ρ i k,0,none⟩)
 |.map i k=>.map (some (ρ i k))
 |.nilmap=>.map none
 |.nilsl=>.slice none 0 0
def SA.below(n:Nat):SA->Prop
 |.ptr p=>p.i < n
 |.slice nil i ..=>nil=true\/i < n
 |.fn _ cap=>∀p∈cap,p.i < n
 |.iter i _=>i < n
 |.map i _=>i < n
 |_=>True
variable {n:Nat}
theorem SA.below_mono{m:Nat}(h:n<=m){a:SA}(b:a.below n):a.below m:=by
 cases a<;>simp only[SA.below]at*<;>first | omega | (intro p c;have:=b p c;omega) | exact b.imp id (fun d=>by omega) | trivial
variable {ρ:Rho}
theorem SA.den_congr{c:Rho}(h:∀i,i < n->c i=ρ i){a:SA}(b:a.below n):a.den c=a.den ρ:=by
 cases a<;>simp only[SA.below]at b<;>simp only[SA.den,Pl.addr]
 ·rw[h _ b]
 ·rename_i nil i k e sz f cap;cases nil with
  |true=>rfl
  |false=>simp only[jx,false_or]at b;rw[h _ b]
 ·congr 2
  exact qy fun p d=>by rw[h _ (b p d)]
 ·rw[h _ b]
 ·rw[h _ b]
theorem SA.one(ρ:Rho)(a:SA):(a.den ρ).oneCell'=true:=by cases a<;>rfl
inductive SC where
 |va (a:SA)
 |agg (l:List SA)
def SC.den(ρ:Rho):SC->Value
 |.va a=>a.den ρ
 |.agg l=>.agg (l.map (SA.den ρ)).toArray
inductive SV where
 |va (a:SA)
 |agg (l:List SA)
 |tup (l:List SC)
 |junk
def SC.v:SC->SV
 |.va a=>.va a
 |.agg l=>.agg l
def SC.below(n:Nat):SC->Prop
 |.va a=>a.below n
 |.agg l=>∀a∈l,a.below n
def SV.below(n:Nat):SV->Prop
 |.va a=>a.below n
 |.agg l=>∀a∈l,a.below n
 |.tup l=>∀c∈l,c.below n
 |.junk=>True
theorem SC.below_mono{m:Nat}(h:n<=m){a:SC}(b:a.below n):a.below m:=by
 cases a with
 |va a=>exact SA.below_mono h b
 |agg l=>exact fun a c=>SA.below_mono h (b a c)
theorem SV.below_mono{m:Nat}(h:n<=m){a:SV}(b:a.below n):a.below m:=by
 cases a with
 |va a=>exact SA.below_mono h b
 |agg l=>exact fun a d=>SA.below_mono h (b a d)
 |tup l=>exact fun c d=>SC.below_mono h (b c d)
 |junk=>trivial
theorem io{b:Rho}(h:∀i,i < n->b i=ρ i){l:List SA}(d:∀a∈l,a.below n):l.map (SA.den b)=l.map (SA.den ρ):=
 qy fun a c=>SA.den_congr h (d a c)
def SV.rel(ρ:Rho):SV->Value->Prop
 |.va a,v=>v=a.den ρ
 |.agg l,v=>v=.agg (l.map (SA.den ρ)).toArray
 |.tup l,v=>v=.tuple (l.map (SC.den ρ)).toArray
 |.junk,_=>True
theorem SV.rel_congr{e:Rho}(h:∀i,i < n->e i=ρ i){s:SV}(b:s.below n){v:Value}(d:s.rel ρ v):s.rel e v:=by
 cases s with
 |va a=>simp only[SV.rel]at*;rw[d,SA.den_congr h b]
 |agg l=>simp only[SV.rel]at*;rw[d,io h b]
 |tup l=>
  simp only[SV.rel]at*;rw[d];congr 2;refine qy fun c f=>?_
  have hb:=b c f;cases c with
  |va a=>exact(SA.den_congr h hb).symm
  |agg l=>simp only[SC.den];rw[io h hb]
 |junk=>trivial
def relL(ρ:Rho):List SV->List Value->Prop
 |[],[]=>True
 |s::ss,v::vs=>s.rel ρ v/\relL ρ ss vs
 |_,_=>False
inductive SB where
 |cells (t:TypeId) (l:List SA)
 |arr (t:TypeId) (sz:Nat) (L:List (List SA)) (room:Nat)
 |obj (o:Obj)
def NoFr(a:Nat×Nat)(n:Nat):Prop:=∀j,j < n->¬(a.1<=j/\j < a.2)
theorem NoFr.zero(n:Nat):NoFr (0,0) n:=fun _ _ h=>absurd h.2 (qcc _)
def IsRow(o:Obj)(t:TypeId)(a:List Value):Prop:=∃b,NoFr b a.length/\o=.cells a.toArray t b
def SB.ok(ρ:Rho):SB->Obj->Prop
 |.cells t l,o=>IsRow o t (l.map (SA.den ρ))
 |.arr t sz L room,o=>(∀x∈L,x.length=sz)/\L.length<=room/\
   ∃tail:List Value,tail.length=(room - L.length)*sz/\IsRow o t (L.flatten.map (SA.den ρ)++tail)
 |.obj o',o=>o=o'
def SB.below(n:Nat):SB->Prop
 |.cells _ l=>∀a∈l,a.below n
 |.arr _ _ L _=>∀x∈L,∀a∈x,a.below n
 |.obj _=>True
theorem SB.below_mono{m:Nat}(h:n<=m){b:SB}(hb:b.below n):b.below m:=by
 cases b with
 |cells t l=>exact fun a c=>SA.below_mono h (hb a c)
 |arr t sz L room=>exact fun x d a c=>SA.below_mono h (hb x d a c)
 |obj o=>trivial
theorem SB.ok_congr{e:Rho}(h:∀i,i < n->e i=ρ i){b:SB}(hb:b.below n){o:Obj}(d:b.ok ρ o):b.ok e o:=by
 cases b with
 |cells t l=>simp only[SB.ok]at*;rw[io h hb];exact d
 |arr t sz L room=>
  simp only[SB.ok]at*;obtain⟨h1,f,tail,g,j⟩:=d;refine⟨h1,f,tail,g,?_⟩;rw[io h (l:=L.flatten) (fun a k=>by obtain⟨x,m,c⟩:=qbk.1 k;exact hb x m a c)];exact j
 |obj o=>exact d
abbrev Fz:=Nat->Option SB
def Fz.le(F a:Fz):Prop:=∀b B,F b=some B->a b=some B
theorem Fz.r(F:Fz):Fz.le F F:=fun _ _ h=>h
theorem Fz.t{F G H:Fz}(h:Fz.le F G)(a:Fz.le G H):Fz.le F H:=fun b B hb=>a b B (h b B hb)
inductive Ent where
 |one (b:SB)
 |opt (c:Bool) (b:SB)
 |fam (n:Nat) (c:Nat->Bool) (f:Nat->SB)
 |gone
 |frz (F:Fz)
 |lnk (b:Nat->Nat)
def Ent.isFz:Ent->Bool
 |.frz _=>true
 |_=>false
def Ent.has:Ent->Nat->Prop
 |.one _,k=>k=0
 |.opt c _,k=>c=true/\k=0
 |.fam n c _,k=>k < n/\c k=true
 |.gone,_=>False
 |.frz F,k=>(F k).isSome=true
 |.lnk _,_=>False
def Ent.at:Ent->Nat->SB
 |.one b,_=>b
 |.opt _ b,_=>b
 |.fam _ _ f,k=>f k
 |.gone,_=>.cells 0 []
 |.frz F,k=>(F k).getD (.cells 0 [])
 |.lnk _,_=>.cells 0 []
def aget{β:Type}:List (Nat×β)->Nat->Option β
 |[],_=>none
 |(m,v)::r,n=>match Nat.beq n m with
  |true=>some v
  |false=>aget r n
def lget{β:Type}:List (List (Nat×β))->Nat->Option β
 |[],_=>none
 |l::r,n=>match aget l n with
  |some v=>some v
  |none=>lget r n
def lput{β:Type}(l:List (List (Nat×β)))(n:Nat)(v:β):List (List (Nat×β)):=
 match l with
 |[]=>[[(n,v)]]
 |x::r=>((n,v)::x)::r
theorem aR{β:Type}(l:List (List (Nat×β)))(n:Nat)(v:β):lget (lput l n v) n=some v:=by
 cases l with
 |nil=>simp[lput,lget,aget]
 |cons x r=>simp[lput,lget,aget]
theorem aN{β:Type}(l:List (List (Nat×β)))(n m:Nat)(v:β)(h:m≠n):lget (lput l n v) m=lget l m:=by
 have hb:Nat.beq m n=false:=by
  cases hh:Nat.beq m n with
  |false=>rfl
  |true=>exact absurd (qm hh) h
 cases l with
 |nil=>simp[lput,lget,aget,hb]
 |cons x r=>simp[lput,lget,aget,hb]
inductive Dk where
 |fn (f:FuncId)
 |clo (f:FuncId)
 |col
structure St where
 t:List (List (Nat×SV))
 h:List (List (Nat×Ent))
 nx:Nat
 n0:Nat
 nt:Nat
 d:List (Dk×List SA)
def St.owns(h:List (List (Nat×Ent)))(i k:Nat):Prop:=∃e,lget h i=some e/\e.has k
structure Ctx where
 w0:World
 ρ0:Rho
 n0:Nat
 B:Nat->Prop
 R:Nat->Prop
structure Sat(C:Ctx)(ρ:Rho)(h:List (List (Nat×Ent)))(nx:Nat)(w:World):Prop where
 lt:∀i e,lget h i=some e->i < nx
 blk:∀i e,lget h i=some e->∀k,e.has k->∃o,w.heap[ρ i k]? =some o/\(e.at k).ok ρ o
 wf:∀i e,lget h i=some e->∀k,e.has k->(e.at k).below nx
 inj:∀i k i' k',St.owns h i k->St.owns h i' k'->ρ i k=ρ i' k'->i=i'/\k=k'
 anch:∀i,i < C.n0->∀k,ρ i k=C.ρ0 i k
 n0:C.n0<=nx
 n1:1<=C.n0
 os:w.os=C.w0.os
 tape:w.tape=C.w0.tape
 output:w.output=C.w0.output
 size:C.w0.heap.size<=w.heap.size
 fr:∀b,b < C.w0.heap.size->¬C.B b->w.heap[b]? =C.w0.heap[b]?
 own:∀i k,St.owns h i k->(i=0/\C.R k)\/C.B (ρ i k)\/C.w0.heap.size<=ρ i k
 fz:∃F,lget h 0=some (.frz F)/\∀b B,F b=some B->B.below 1
 id0:∀k,ρ 0 k=k
 only:∀i F,lget h i=some (.frz F)->i=0
 lnk:∀i b,lget h i=some (.lnk b)->∀k,ρ i k=b k
def blkOf:List Value->Nat
 |.pointer (some p)::_=>p.block
 |_=>0
def defV:Dk->List Value->Deferred
 |.fn f,vs=>{ target:=.fn (.func f) #[],args:=vs.toArray }
 |.clo f,vs=>{ target:=.fn (.func f) vs.toArray,args:=#[] }
 |.col,vs=>{ target:=.collected (blkOf vs),args:=#[] }
def defOf(ρ:Rho)(x:Dk×List SA):Deferred:=defV x.1 (x.2.map (SA.den ρ))
structure Den(C:Ctx)(ρ:Rho)(st:St)(a:Act)(w:World):Prop where
 sat:Sat C ρ st.h st.nx w
 nt:a.tmps.size=st.nt
 tm:∀n s,lget st.t n=some s->∃v,a.tmps[n]? =some v/\s.rel ρ v
 tw:∀n s,lget st.t n=some s->s.below st.nx
 n0:C.n0=st.n0
 df:a.defers=st.d.map (defOf ρ)
 dw:∀x∈st.d,∀a∈x.2,a.below st.nx
inductive SE where
 |normal
 |ret
 |exit (id:Nat)
 |panic (v:Value)
def SE.to:SE->Exit
 |.normal=>.normal
 |.ret=>.ret
 |.exit id=>.exit id
 |.panic v=>.panic [{ v,recovered:=false }]
def Up(C:Ctx)(Q:SE->St->Prop):Exit->Act->World->Prop:=
 fun e a w=>∃b c ρ,Q b c/\e=b.to/\Den C ρ c a w
@[irreducible] def WP (P:Program) (c:Code) (st:St) (Q:SE->St->Prop):Prop:=
 ∀C ρ a w,Den C ρ st a w->c.wp P (Up C Q) a w
inductive Out where
 |ret (v:SV)
 |panic (v:Value)
def Out.rel(ρ:Rho):Out->Ending->Prop
 |.ret s,e=>∃v,e=.returned v/\s.rel ρ v
 |.panic v,e=>e=.panicked [{ v,recovered:=false }]
@[irreducible] def Enters (P:Program) (f:FuncId):Prop:=∀(args:Array Value) (w:World),(callFunc f args).run P w=.ok (.enter f args) w
theorem enters_of{P:Program}{f:FuncId}{fn:Func}{c:Code}(b:P.funcs[f]? =some fn)(hb:fn.body=some c)(d:(fn.name== "runtime.NumGoroutine")=false):Enters P f:=by
 unfold Enters;intro args w;have a:¬fn.name= "runtime.NumGoroutine" :=by simpa using d
 simp[callFunc,b,hb,a]
@[irreducible] def za7 (P:Program) (f:FuncId) (args:List SV) (h:List (List (Nat×Ent))) (nx:Nat) (K:Out->List (List (Nat×Ent))->Nat->Prop):Prop:=
 ∀C ρ w vs,Sat C ρ h nx w->relL ρ args vs->(∀s∈args,s.below nx)->
  Enters P f/\Calls P f vs.toArray w fun e w'=>∃out h' nx' ρ',K out h' nx'/\out.rel ρ' e/\Sat C ρ' h' nx' w'/\(∀i,i < nx->ρ' i=ρ i)/\nx<=nx'/\(match out with | .ret s=>s.below nx' | .panic _=>True)
variable {e:Ent}{h:List (List (Nat×Ent))}{i:Nat}
theorem eR{k:Nat}(d:St.owns (lput h n e) i k):(i=n/\e.has k)\/(i≠n/\St.owns h i k):=by
 obtain⟨e',a,c⟩:=d;by_cases b:i=n
 ·subst b;rw[aR]at a;cases a;exact .inl ⟨rfl,c⟩
 ·rw[aN _ _ _ _ b]at a;exact .inr ⟨b,e',a,c⟩
def Ent.plain:Ent->Bool
 |.one _=>true
 |.opt _ _=>true
 |.fam _ _ _=>true
 |_=>false
theorem Ent.plain_ne(h:e.plain=true):(∀F,e≠.frz F)/\(∀b,e≠.lnk b):=by
 cases e<;>simp[Ent.plain]at h ⊢
variable {C:Ctx}{nx:Nat}{w:World}
theorem Sat.pos(s:Sat C ρ h nx w):0 < nx:=by
 obtain⟨F,a,_⟩:=s.fz;exact s.lt 0 _ a
theorem Sat.ne0(s:Sat C ρ h nx w)(a:lget h i=some e)(c:e.plain=true):i≠0:=by
 rintro rfl;obtain⟨F,b,_⟩:=s.fz;rw[b]at a;cases a;cases c
def rext(ρ:Rho)(nx b:Nat):Rho:=fun i k=>if i=nx then b else ρ i k
theorem eK{b:Nat}(h:i < nx):rext ρ nx b i=ρ i:=by
 funext k;simp[rext,qcz h]
theorem dg(ρ:Rho)(nx b k:Nat):rext ρ nx b nx k=b:=by simp[rext]
theorem Sat.world{a:World}(s:Sat C ρ h nx w)
  (hh:a.heap=w.heap)(g:a.os=w.os)(l:a.tape=w.tape)(j:a.output=w.output):Sat C ρ h nx a:=
 { s with
  blk:=fun i e d k f=>by rw[hh];exact s.blk i e d k f
  os:=g.trans s.os,tape:=l.trans s.tape,output:=j.trans s.output
  size:=by rw[hh];exact s.size
  fr:=fun b hb c=>by rw[hh];exact s.fr b hb c }
theorem Sat.drew(s:Sat C ρ h nx w):Sat C ρ h nx w.drew:=
 s.world rfl rfl rfl rfl
theorem Sat.blt(s:Sat C ρ h nx w){k:Nat}(c:St.owns h i k):ρ i k < w.heap.size:=by
 obtain⟨e,a,b⟩:=c;obtain⟨o,hb,_⟩:=s.blk i e a k b;exact(jp.1 hb).1
theorem hpush(w:World)(o:Obj)(i:Nat)(h:i < w.heap.size):(w.alloc o).heap[i]? =w.heap[i]?:=by
 show(w.heap.push o)[i]? =w.heap[i]?;rw[qd0,if_neg (qcz h)]
theorem Sat.new(s:Sat C ρ h nx w)(b:SB)(o:Obj)
  (hb:b.below nx)(B:b.ok ρ o):Sat C (rext ρ nx w.heap.size) (lput h nx (.one b)) (nx+1) (w.alloc o):=by
 have a:∀i,i < nx->rext ρ nx w.heap.size i=ρ i:=fun i c=>eK c
 have d:∀i k,St.owns h i k->i < nx:=fun i k ⟨e,f,_⟩=>s.lt i e f
 refine{ lt:=?_,blk:=?_,wf:=?_,inj:=?_,anch:=?_,n0:=qbg s.n0,n1:=s.n1,os:=s.os,tape:=s.tape,output:=s.output,size:=?_,fr:=?_,own:=?_,fz:=by rw[aN _ _ _ _ (qcz s.pos)];exact s.fz,id0:=fun k=>by rw[a 0 s.pos];exact s.id0 k,only:=?_,lnk:=?_ }
 ·intro i e f;by_cases c:i=nx
  ·omega
  ·rw[aN _ _ _ _ c]at f;have:=s.lt i e f;omega
 ·intro i e f k l;by_cases c:i=nx
  ·subst c;rw[aR]at f;cases f
   refine⟨o,?_,SB.ok_congr a hb B⟩;rw[dg];show(w.heap.push o)[w.heap.size]? =some o;simp
  ·rw[aN _ _ _ _ c]at f;have A:=s.lt i e f;obtain⟨I,g,p⟩:=s.blk i e f k l;refine⟨I,?_,SB.ok_congr a (s.wf i e f k l) p⟩;rw[a i A,hpush w o _ (jp.1 g).1];exact g
 ·intro i e f k l;by_cases c:i=nx
  ·subst c;rw[aR]at f;cases f;exact SB.below_mono (qac _) hb
  ·rw[aN _ _ _ _ c]at f;exact SB.below_mono (qac _) (s.wf i e f k l)
 ·intro i k i' J h1 D j;rcases eR h1 with⟨rfl,l⟩ | ⟨c,m⟩<;>rcases eR D with⟨rfl,y⟩ | ⟨G,g⟩
  ·simp only[Ent.has]at l y;exact⟨rfl,by omega⟩
  ·rw[dg,a i' (d _ _ g)]at j;have:=s.blt g;omega
  ·rw[dg,a i (d _ _ m)]at j;have:=s.blt m;omega
  ·rw[a i (d _ _ m),a i' (d _ _ g)]at j;exact s.inj _ _ _ _ m g j
 ·intro i c k;have:=s.n0;rw[a i oo];exact s.anch i c k
 ·have:=s.size;show _<=(w.heap.push o).size;simp;omega
 ·intro u x E;have:=s.size;rw[hpush w o _ oo];exact s.fr u x E
 ·intro i k h1;rcases eR h1 with⟨rfl,l⟩ | ⟨c,m⟩
  ·right;right;rw[dg];exact s.size
  ·rw[a i (d _ _ m)];exact s.own _ _ m
 ·intro i F q;by_cases c:i=nx
  ·subst c;rw[aR]at q;cases q
  ·rw[aN _ _ _ _ c]at q;exact s.only i F q
 ·intro i u n k;by_cases c:i=nx
  ·subst c;rw[aR]at n;cases n
  ·rw[aN _ _ _ _ c]at n;rw[a i (s.lt i _ n)];exact s.lnk i u n k
theorem Sat.upd{G:World}(s:Sat C ρ h nx w){e':Ent}(k:Nat)(y:lget h i=some e)(Y:e.plain=true)(B:e'.plain=true)
  (W:e.has k)(q:∀f,e'.has f↔e.has f)(o':Obj)(I:∀f,f≠k->e.has f->e'.at f=e.at f)(aa:(e'.at k).ok ρ o')(V:(e'.at k).below nx)
  (ab:G.os=w.os)(ht:G.tape=w.tape)(hp:G.output=w.output)(ac:G.heap.size=w.heap.size)
  (K:G.heap[ρ i k]? =some o')(x:∀b,b≠ρ i k->G.heap[b]? =w.heap[b]?):Sat C ρ (lput h i e') nx G:=by
 have E:∀f,e'.has f->St.owns h i f:=fun f j=>⟨e,y,(q f).1 j⟩
 have n:∀i' f,St.owns (lput h i e') i' f->St.owns h i' f:=by
  intro i' f Z;rcases eR Z with⟨rfl,j⟩ | ⟨_,Z⟩
  ·exact E _ j
  ·exact Z
 have J:=s.ne0 y Y
 have A:∀O Q R,St.owns h O Q->e.has R->ρ O Q=ρ i R->O=i/\Q=R:=fun O Q R h1 T l=>
  s.inj _ _ _ _ h1 ⟨e,y,T⟩ l
 refine{ lt:=?_,blk:=?_,wf:=?_,inj:=fun a b c d h1 T l=>s.inj a b c d (n _ _ h1) (n _ _ T) l,anch:=s.anch,n0:=s.n0,n1:=s.n1,os:=ab.trans s.os,tape:=ht.trans s.tape,output:=hp.trans s.output,size:=by rw[ac];exact s.size,fr:=?_,own:=fun a b h1=>s.own a b (n _ _ h1),fz:=by rw[aN _ _ _ _ (Ne.symm J)];exact s.fz,id0:=s.id0,only:=?_,lnk:=?_ }
 ·intro i' S g;by_cases m:i'=i
  ·subst m;exact s.lt _ e y
  ·rw[aN _ _ _ _ m]at g;exact s.lt _ _ g
 ·intro i' S g f j;by_cases m:i'=i
  ·subst m;rw[aR]at g;cases g
   by_cases p:f=k
   ·subst p;exact⟨o',K,aa⟩
   ·have o:=(q f).1 j;obtain⟨o1,D,u⟩:=s.blk _ e y f o;refine⟨o1,?_,by rw[I f p o];exact u⟩;rw[x _ (fun l=>p (A _ _ _ ⟨e,y,o⟩ W l).2)];exact D
  ·rw[aN _ _ _ _ m]at g;obtain⟨o1,D,u⟩:=s.blk _ _ g f j;refine⟨o1,?_,u⟩;rw[x _ (fun l=>m (A _ _ _ ⟨S,g,j⟩ W l).1)];exact D
 ·intro i' S g f j;by_cases m:i'=i
  ·subst m;rw[aR]at g;cases g
   by_cases p:f=k
   ·subst p;exact V
   ·have o:=(q f).1 j;rw[I f p o];exact s.wf _ e y f o
  ·rw[aN _ _ _ _ m]at g;exact s.wf _ _ g f j
 ·intro b hb hB
  have X:b≠ρ i k:=by
   intro U;subst U;rcases s.own i k ⟨e,y,W⟩with h1 | h1 | h1
   ·exact J h1.1
   ·exact hB h1
   ·omega
  rw[x b X];exact s.fr b hb hB
 ·intro i' F L;by_cases m:i'=i
  ·subst m;rw[aR]at L;cases L;exact absurd rfl ((Ent.plain_ne B).1 F)
  ·rw[aN _ _ _ _ m]at L;exact s.only i' F L
 ·intro i' b' M f;by_cases m:i'=i
  ·subst m;rw[aR]at M;cases M;exact absurd rfl ((Ent.plain_ne B).2 b')
  ·rw[aN _ _ _ _ m]at M;exact s.lnk i' b' M f
theorem Sat.forget(s:Sat C ρ h nx w)(x:i < nx)(n:i≠0):Sat C ρ (lput h i .gone) nx w:=by
 have g:∀i' j,St.owns (lput h i .gone) i' j->St.owns h i' j:=by
  intro i' j o;rcases eR o with⟨rfl,f⟩ | ⟨_,o⟩
  ·exact f.elim
  ·exact o
 refine{ s with lt:=?_,blk:=?_,wf:=?_,inj:=fun a b c d h1 u m=>s.inj a b c d (g _ _ h1) (g _ _ u) m,own:=fun a b h1=>s.own a b (g _ _ h1),fz:=by rw[aN _ _ _ _ (Ne.symm n)];exact s.fz,only:=?_,lnk:=?_ }
 ·intro i' p e;by_cases hh:i'=i
  ·subst hh;exact x
  ·rw[aN _ _ _ _ hh]at e;exact s.lt _ _ e
 ·intro i' p e j f;by_cases hh:i'=i
  ·subst hh;rw[aR]at e;cases e;exact f.elim
  ·rw[aN _ _ _ _ hh]at e;exact s.blk _ _ e j f
 ·intro i' p e j f;by_cases hh:i'=i
  ·subst hh;rw[aR]at e;cases e;exact f.elim
  ·rw[aN _ _ _ _ hh]at e;exact s.wf _ _ e j f
 ·intro i' F k;by_cases hh:i'=i
  ·subst hh;rw[aR]at k;cases k
  ·rw[aN _ _ _ _ hh]at k;exact s.only i' F k
 ·intro i' q l j;by_cases hh:i'=i
  ·subst hh;rw[aR]at l;cases l
  ·rw[aN _ _ _ _ hh]at l;exact s.lnk i' q l j
theorem Sat.move{G:World}(s:Sat C ρ h nx w)(L:lget h i=some e)(Z:e.plain=true)(U:e.has 0)
  (b:SB)(o':Obj)(ab:b.ok ρ o')(K:b.below nx)
  (ac:G.os=w.os)(ht:G.tape=w.tape)(hp:G.output=w.output)(ad:G.heap.size=w.heap.size)
  (O:G.heap[ρ i 0]? =some o')(y:∀b,b≠ρ i 0->G.heap[b]? =w.heap[b]?):
  Sat C (rext ρ nx (ρ i 0)) (lput (lput h i .gone) nx (.one b)) (nx+1) G:=by
 have g:∀j,j < nx->rext ρ nx (ρ i 0) j=ρ j:=fun j X=>eK X
 have M:=s.lt i e L
 have d:∀i' o,St.owns (lput h i .gone) i' o->St.owns h i' o/\i'≠i:=by
  intro i' o x;rcases eR x with⟨rfl,m⟩ | ⟨E,x⟩
  ·exact m.elim
  ·exact⟨x,E⟩
 have n:∀i' o,St.owns h i' o->i' < nx:=fun i' o ⟨J,c,_⟩=>s.lt i' J c
 have p:∀T k1,St.owns h T k1->ρ T k1=ρ i 0->T=i:=fun T k1 h1 l=>
  (s.inj _ _ _ _ h1 ⟨e,L,U⟩ l).1
 have B:=s.ne0 L Z;have u:=s.forget M B;refine{ lt:=?_,blk:=?_,wf:=?_,inj:=?_,anch:=?_,n0:=qbg s.n0,n1:=s.n1,os:=ac.trans s.os,tape:=ht.trans s.tape,output:=hp.trans s.output,size:=by rw[ad];exact s.size,fr:=?_,own:=?_,fz:=by rw[aN _ _ _ _ (qcz s.pos)];exact u.fz,id0:=fun k=>by rw[g 0 s.pos];exact s.id0 k,only:=?_,lnk:=?_ }
 ·intro i' J c;by_cases hh:i'=nx
  ·omega
  ·rw[aN _ _ _ _ hh]at c;have:=u.lt _ _ c;omega
 ·intro i' J c o m;by_cases hh:i'=nx
  ·subst hh;rw[aR]at c;cases c
   exact⟨o',by rw[dg];exact O,SB.ok_congr g K ab⟩
  ·rw[aN _ _ _ _ hh]at c;have D:=u.lt _ _ c;obtain⟨o1,aa,R⟩:=u.blk _ _ c o m;refine⟨o1,?_,SB.ok_congr g (u.wf _ _ c o m) R⟩;have⟨f,q⟩:=d i' o ⟨J,c,m⟩;rw[g _ D,y _ (fun l=>q (p _ _ f l))];exact aa
 ·intro i' J c o m;by_cases hh:i'=nx
  ·subst hh;rw[aR]at c;cases c;exact SB.below_mono (qac _) K
  ·rw[aN _ _ _ _ hh]at c;exact SB.below_mono (qac _) (u.wf _ _ c o m)
 ·intro a k a' o h1 h2 l;rcases eR h1 with⟨rfl,hk⟩ | ⟨hi,x⟩<;>rcases eR h2 with⟨rfl,m⟩ | ⟨ae,Q⟩
  ·simp only[Ent.has]at hk m;exact⟨rfl,by omega⟩
  ·have⟨f,q⟩:=d _ _ Q;rw[dg,g _ (n _ _ f)]at l;exact absurd (p _ _ f l.symm) q
  ·have⟨f,q⟩:=d _ _ x;rw[dg,g _ (n _ _ f)]at l;exact absurd (p _ _ f l) q
  ·have⟨f,Y⟩:=d _ _ x;have⟨A,af⟩:=d _ _ Q;rw[g _ (n _ _ f),g _ (n _ _ A)]at l;exact s.inj _ _ _ _ f A l
 ·intro j X k;have:=s.n0;rw[g j oo];exact s.anch j X k
 ·intro I V hB
  have E:I≠ρ i 0:=by
   intro W;subst W;rcases s.own i 0 ⟨e,L,U⟩with h1 | h1 | h1
   ·exact B h1.1
   ·exact hB h1
   ·omega
  rw[y I E];exact s.fr I V hB
 ·intro a k h1;rcases eR h1 with⟨rfl,hk⟩ | ⟨hi,x⟩
  ·rw[dg];exact .inr ((s.own i 0 ⟨e,L,U⟩).resolve_left (fun h=>B h.1))
  ·have⟨f,Y⟩:=d _ _ x;rw[g _ (n _ _ f)];exact s.own _ _ f
 ·intro i' F S;by_cases hh:i'=nx
  ·subst hh;rw[aR]at S;cases S
  ·rw[aN _ _ _ _ hh]at S;exact u.only i' F S
 ·intro i' I D o;by_cases hh:i'=nx
  ·subst hh;rw[aR]at D;cases D
  ·rw[aN _ _ _ _ hh]at D;rw[g _ (u.lt _ _ D)];exact u.lnk i' I D o
theorem Den.heap{k:Rho}{j:St}{a:Act}{m:World}{l:List (List (Nat×Ent))}{e:Nat}(d:Den C ρ j a w)
  (s:Sat C k l e m)(f:∀i,i < j.nx->k i=ρ i)(g:j.nx<=e):Den C k { j with h:=l,nx:=e } a m where
 sat:=s
 nt:=d.nt
 tm:=fun n x c=>by
  obtain⟨v,p,o⟩:=d.tm n x c;exact⟨v,p,SV.rel_congr f (d.tw n x c) o⟩
 tw:=fun n x c=>SV.below_mono g (d.tw n x c)
 n0:=d.n0
 df:=by
  rw[d.df];refine qy fun x c=>?_
  simp only[defOf];rw[io f (d.dw x c)]
 dw:=fun x c b hb=>SA.below_mono g (d.dw x c b hb)
theorem Den.put{f:St}{a:Act}(d:Den C ρ f a w)(n:Nat)(h:n < f.nt)(s:SV)(v:Value)(i:s.rel ρ v)(hb:s.below f.nx):
  Den C ρ { f with t:=lput f.t n s } (a.put (some n) v) w where
 sat:=d.sat
 nt:=by simp[Act.put,d.nt]
 tm:=fun m x b=>by
  by_cases c:m=n
  ·subst c;rw[aR]at b;cases b
   exact⟨v,by simp[Act.put,d.nt,h],i⟩
  ·rw[aN _ _ _ _ c]at b;obtain⟨u,j,g⟩:=d.tm m x b;refine⟨u,?_,g⟩;simp only[Act.put];rw[Array.getElem?_setIfInBounds_ne (fun e=>c e.symm)];exact j
 tw:=fun m x b=>by
  by_cases c:m=n
  ·subst c;rw[aR]at b;cases b;exact hb
  ·rw[aN _ _ _ _ c]at b;exact d.tw m x b
 n0:=d.n0
 df:=d.df
 dw:=d.dw
def takeN{α:Type}:Nat->List α->Option (List α)
 |0,_=>some []
 |_+1,[]=>none
 |n+1,x::r=>match takeN n r with
  |some xs=>some (x::xs)
  |none=>none
def dm{α:Type}:List α->Nat->Nat->Option (List α)
 |l,0,n=>takeN n l
 |[],_+1,_=>none
 |_::r,o+1,n=>dm r o n
def setN{α:Type}:List α->List α->Option (List α)
 |l,[]=>some l
 |[],_::_=>none
 |_::r,x::xs=>match setN r xs with
  |some r'=>some (x::r')
  |none=>none
def setAt{α:Type}:List α->Nat->List α->Option (List α)
 |l,0,xs=>setN l xs
 |[],_+1,_=>none
 |y::r,o+1,xs=>match setAt r o xs with
  |some r'=>some (y::r')
  |none=>none
theorem uR{α:Type}:∀(n:Nat) (l b:List α),takeN n l=some b->∃a,l=b++a/\b.length=n
 |0,l,b,h=>by simp[takeN]at h;subst h;exact⟨l,rfl,rfl⟩
 |n+1,[],b,h=>by simp[takeN]at h
 |n+1,x::r,b,h=>by
  simp only[takeN]at h;split at h
  ·rename_i e d;cases h
   obtain⟨a,h1,c⟩:=uR n r e d;exact⟨a,by rw[h1];rfl,by simp[c]⟩
  ·cases h
theorem gJ{α:Type}:∀(l:List α) (o n:Nat) (c:List α),dm l o n=some c->∃b a,l=b++c++a/\b.length=o/\c.length=n
 |l,0,n,c,h=>by
  have e:takeN n l=some c:=by cases l<;>simpa[dm]using h
  obtain⟨a,h1,d⟩:=uR n l c e;exact⟨[],a,by simpa using h1,rfl,d⟩
 |[],o+1,n,c,h=>by simp[dm]at h
 |y::r,o+1,n,c,h=>by
  simp only[dm]at h;obtain⟨b,a,h1,d,f⟩:=gJ r o n c h;exact⟨y::b,a,by rw[h1];rfl,by simp[d],f⟩
theorem wv{α:Type}:∀(l c b:List α),setN l c=some b->∃old a,l=old++a/\b=c++a/\old.length=c.length
 |l,[],b,h=>by
  have:l=b:=by cases l<;>simpa[setN]using h
  subst this;exact⟨[],l,rfl,rfl,rfl⟩
 |[],_::_,b,h=>by simp[setN]at h
 |y::r,x::c,b,h=>by
  simp only[setN]at h;split at h
  ·rename_i g f;cases h
   obtain⟨old,a,h1,d,e⟩:=wv r c g f;exact⟨y::old,a,by rw[h1];rfl,by rw[d];rfl,by simp[e]⟩
  ·cases h
theorem jU{α:Type}:∀(l:List α) (o:Nat) (c d:List α),setAt l o c=some d->∃b old a,l=b++old++a/\d=b++c++a/\b.length=o/\old.length=c.length
 |l,0,c,d,h=>by
  have g:setN l c=some d:=by cases l<;>simpa[setAt]using h
  obtain⟨old,a,h1,e,f⟩:=wv l c d g;exact⟨[],old,a,by simpa using h1,by simpa using e,rfl,f⟩
 |[],o+1,c,d,h=>by simp[setAt]at h
 |y::r,o+1,c,d,h=>by
  simp only[setAt]at h;split at h
  ·rename_i k j;cases h
   obtain⟨b,old,a,h1,e,f,i⟩:=jU r o c k j;exact⟨y::b,old,a,by rw[h1];rfl,by rw[e];rfl,by simp[f],i⟩
  ·cases h
theorem oH{α:Type}{sz:Nat}:∀(L:List (List α)) (e:Nat) (x:List α),(∀y∈L,y.length=sz)->L[e]? =some x->
  ∃b a,L.flatten=b++x++a/\b.length=e*sz/\∀c,(L.set e c).flatten=b++c++a
 |[],e,x,_,h=>by simp at h
 |y::L,0,x,hl,h=>by
  simp at h;subst h;exact⟨[],L.flatten,by simp,by simp,fun c=>by simp⟩
 |y::L,e+1,x,hl,h=>by
  simp at h;obtain⟨b,a,h1,d,f⟩:=oH L e x (fun z g=>hl z (by simp[g])) h;refine⟨y++b,a,by simp[h1],?_,fun c=>?_⟩
  ·have:=hl y ss;simp[d,this,qa2];omega
  ·have:=f c;simp[this]
def RowAt(w:World)(b:Nat)(t:TypeId)(a:List Value):Prop:=∃o,w.heap[b]? =some o/\IsRow o t a
variable {a:List Value}{t:TypeId}
theorem RowAt.cell{b:Nat}(h:RowAt w b t a)(j:Nat):w.cell? ⟨b,j,none⟩=a[j]?:=by
 obtain⟨o,d,c,_,rfl⟩:=h;have:=cell_of_row w b j a.toArray t c d;simpa using this
theorem RowAt.free{b:Nat}(h:RowAt w b t a)(j:Nat)(c:j < a.length):w.frozen? ⟨b,j,none⟩=false:=by
 obtain⟨o,e,f,d,rfl⟩:=h;have:=d j c;simp only[World.frozen?,e];simp;intro h1;have g:=d j c;omega
theorem jE{P:Program}(g a:Nat)(t:TypeId):∀(vs:List Value) (i:Nat) (b:List Value) (w:World),RowAt w g t b->a+i+vs.length<=b.length->(∀v∈vs,v.oneCell'=true)->
  (storeCells ⟨g,a,none⟩ vs i).run P w=.ok () (w.setRow g (b.take (a+i)++vs++b.drop (a+i+vs.length)).toArray)
 |[],i,b,w,hg,_,_=>by
  obtain⟨o,k,f,n,rfl⟩:=hg;simp only[storeCells,qx,qv,qau,yw];rw[setRow_self w g b.toArray t f k];rfl
 |v::rest,i,b,w,hg,hl,h1=>by
  have m:a+i < b.length:=by simp at hl;omega
  have h:(⟨g,a,none⟩:Addr).add i=⟨g,a+i,none⟩:=by unfold Addr.add;split<;>simp_all
  have c:w.cell? ⟨g,a+i,none⟩=some b[a+i]:=by rw[hg.cell];simp[m]
  have j:w.frozen? ⟨g,a+i,none⟩=false:=hg.free _ m;obtain⟨o,k,f,n,rfl⟩:=hg
  have l:(store ((⟨g,a,none⟩:Addr).add i) v).run P w=.ok () (w.setRow g (b.toArray.setIfInBounds (a+i) v)):=by
   rw[h,run_store P w _ v _ (h1 v ss),c];simp[j,setCell_eq_setRow w g (a+i) b.toArray t f v k]
  have d:RowAt (w.setRow g (b.toArray.setIfInBounds (a+i) v)) g t (b.set (a+i) v):=
   ⟨_,setRow_heap w g _ _ t f k,f,by simpa using n,by simp⟩
  have ih:=jE (P:=P) g a t rest (i+1) (b.set (a+i) v) _ d (by simp at hl ⊢;omega) (fun x p=>h1 x (by simp[p]));simp only[storeCells,Sem.run_bind,l,Result.andThen_ok,ih,setRow_setRow]
  congr 3
  have e:=list_seg_step b (a+i) v rest (by simp at hl ⊢;omega);simpa[qbs]using e
def RdO(o:Obj)(d n:Nat)(e:List SA):Prop:=e.length=n/\(∀a∈e,a.below 0)/\∀ρ:Rho,∃(t:TypeId) (f:Nat×Nat) (c b:List Value),o=.cells (c++e.map (SA.den ρ)++b).toArray t f/\c.length=d
def rdB(b:SB)(p:Pl)(n:Nat)(K:List SA->Prop):Prop:=
 match b with
 |.cells _ l=>match dm l (p.e*p.sz+p.o) n with
  |some a=>K a
  |none=>False
 |.arr _ sz L _=>match Nat.beq p.sz sz with
  |true=>∃x,L[p.e]? =some x/\(match dm x p.o n with
   |some a=>K a
   |none=>False)
  |false=>∃a,dm L.flatten (p.e*p.sz+p.o) n=some a/\K a
 |.obj o=>∃a,RdO o (p.e*p.sz+p.o) n a/\K a
def rd(h:List (List (Nat×Ent)))(p:Pl)(n:Nat)(K:List SA->Prop):Prop:=
 match lget h p.i with
 |some (.one b)=>(match p.k with
  |0=>rdB b p n K
  |_+1=>False)
 |some (.opt c b)=>c=true/\(match p.k with
  |0=>rdB b p n K
  |_+1=>False)
 |some (.fam m c f)=>(p.k < m/\c p.k=true)/\rdB (f p.k) p n K
 |some (.frz F)=>∃B,F p.k=some B/\rdB B p n K
 |some (.lnk b)=>(match lget h 0 with
  |some (.frz F)=>∃B,F (b p.k)=some B/\rdB B p n K
  |_=>False)
 |some .gone=>False
 |none=>False
def wrB(b:SB)(p:Pl)(vs:List SA)(K:SB->Prop):Prop:=
 match b with
 |.cells t l=>match setAt l (p.e*p.sz+p.o) vs with
  |some l'=>K (.cells t l')
  |none=>False
 |.arr t sz L room=>match Nat.beq p.sz sz with
  |true=>∃x,L[p.e]? =some x/\(match setAt x p.o vs with
   |some x'=>K (.arr t sz (L.set p.e x') room)
   |none=>False)
  |false=>∃a,(∀x∈a,x.length=sz)/\a.length=L.length/\setAt L.flatten (p.e*p.sz+p.o) vs=some a.flatten/\K (.arr t sz a room)
 |.obj _=>False
def wr(h:List (List (Nat×Ent)))(p:Pl)(vs:List SA)(K:List (List (Nat×Ent))->Prop):Prop:=
 match lget h p.i with
 |some (.one b)=>(match p.k with
  |0=>wrB b p vs fun a=>K (lput h p.i (.one a))
  |_+1=>False)
 |some (.opt c b)=>c=true/\(match p.k with
  |0=>wrB b p vs fun a=>K (lput h p.i (.opt c a))
  |_+1=>False)
 |some (.fam m c f)=>(p.k < m/\c p.k=true)/\wrB (f p.k) p vs fun a=>K (lput h p.i (.fam m c fun k=>if k=p.k then a else f k))
 |some (.frz _)=>False
 |some (.lnk _)=>False
 |some .gone=>False
 |none=>False
def rg(o:Obj)(t:TypeId)(a:List Value):Prop:=∃b,o=.cells a.toArray t b
theorem IsRow.r{o:Obj}(h:IsRow o t a):rg o t a:=let⟨b,_,e⟩:=h;⟨b,e⟩
def kM(w:World)(b:Nat)(t:TypeId)(a:List Value):Prop:=∃o,w.heap[b]? =some o/\rg o t a
theorem kM.cell{b:Nat}(h:kM w b t a)(j:Nat):w.cell? ⟨b,j,none⟩=a[j]?:=by
 obtain⟨o,d,c,rfl⟩:=h;have:=cell_of_row w b j a.toArray t c d;simpa using this
theorem wm{b:SB}{p:Pl}{K:List SA->Prop}{o:Obj}(h:rdB b p n K)(f:b.ok ρ o)(m:b.below nx):
  ∃g,K g/\g.length=n/\(∀a∈g,a.below nx)/\∃t d c,rg o t (d++g.map (SA.den ρ)++c)/\d.length=p.e*p.sz+p.o:=by
 cases b with
 |cells t l=>
  simp only[rdB]at h;split at h
  ·rename_i g B;obtain⟨d,c,h1,i,j⟩:=gJ _ _ _ _ B;refine⟨g,h,j,fun a k=>m a (by rw[h1];simp[k]),t,d.map (SA.den ρ),c.map (SA.den ρ),?_,by simpa using i⟩;simp only[SB.ok]at f;rw[h1]at f;exact IsRow.r (by simpa using f)
  ·exact h.elim
 |arr t sz L room=>
  simp only[rdB]at h;obtain⟨I,S,tail,T,A⟩:=f;split at h
  ·rename_i E;have E:=qm E;obtain⟨x,B,q⟩:=h;split at q
   ·rename_i g s;obtain⟨d,c,h1,i,j⟩:=gJ _ _ _ _ s;obtain⟨w,u,Q,R,_⟩:=oH L p.e x I B;refine⟨g,q,j,fun a k=>m x (yx B) a (by rw[h1];simp[k]),t,(w++d).map (SA.den ρ),(c++u).map (SA.den ρ)++tail,?_,?_⟩
    ·rw[Q,h1]at A;exact IsRow.r (by simpa using A)
    ·simp[i,R,E]
   ·exact q.elim
  ·obtain⟨g,s,q⟩:=h;obtain⟨d,c,h1,i,j⟩:=gJ _ _ _ _ s;refine⟨g,q,j,fun a k=>?_,t,d.map (SA.den ρ),c.map (SA.den ρ)++tail,?_,by simpa using i⟩
   ·obtain⟨y,O,D⟩:=qbk.1 (show a∈L.flatten by rw[h1];simp[k]);exact m y O a D
   ·rw[h1]at A;exact IsRow.r (by simpa using A)
 |obj o'=>
  obtain⟨g,⟨h1,i,j⟩,q⟩:=h;obtain⟨t,G,d,c,J,M⟩:=j ρ;have f:o=o':=f;exact⟨g,q,h1,fun a k=>SA.below_mono (js _) (i a k),t,d,c,⟨G,f.trans J⟩,M⟩
theorem px{p:Pl}{K:List SA->Prop}(g:rd h p n K)(s:Sat C ρ h nx w):
  ∃l,K l/\l.length=n/\(∀a∈l,a.below nx)/\∃t j d,kM w (ρ p.i p.k) t (j++l.map (SA.den ρ)++d)/\j.length=p.e*p.sz+p.o:=by
 have x:∀e,lget h p.i=some e->e.has p.k->rdB (e.at p.k) p n K->∃l,K l/\l.length=n/\(∀a∈l,a.below nx)/\∃t j d,kM w (ρ p.i p.k) t (j++l.map (SA.den ρ)++d)/\j.length=p.e*p.sz+p.o:=by
  intro e q A hb;obtain⟨o,E,u⟩:=s.blk _ e q _ A;obtain⟨l,h1,G,I,t,j,d,J,L⟩:=wm hb u (s.wf _ e q _ A);exact⟨l,h1,G,I,t,j,d,⟨o,E,J⟩,L⟩
 unfold rd at g;split at g
 ·rename_i b q;split at g
  ·rename_i A;exact x _ q A g
  ·exact g.elim
 ·rename_i c b q;obtain⟨O,g⟩:=g;split at g
  ·rename_i A;exact x _ q ⟨O,A⟩ g
  ·exact g.elim
 ·rename_i m c f q;exact x _ q g.1 g.2
 ·rename_i F q;obtain⟨B,y,g⟩:=g;exact x _ q (by simp[Ent.has,y]) (by simpa[Ent.at,y]using g)
 ·rename_i b q;split at g
  ·rename_i F M;obtain⟨B,y,g⟩:=g;have Q:=s.lnk _ _ q p.k;obtain⟨o,E,u⟩:=s.blk 0 _ M (b p.k) (by simp[Ent.has,y]);have D:=s.wf 0 _ M (b p.k) (by simp[Ent.has,y]);simp only[Ent.at,y,yh]at u D;rw[s.id0,<-Q]at E;obtain⟨l,h1,G,I,t,j,d,J,L⟩:=wm g u D;exact⟨l,h1,G,I,t,j,d,⟨o,E,J⟩,L⟩
  ·exact g.elim
 ·exact g.elim
 ·exact g.elim
theorem Ba{b:SB}{p:Pl}{vs:List SA}{K:SB->Prop}{o:Obj}(h:wrB b p vs K)(j:b.ok ρ o)(f:b.below nx)(M:∀a∈vs,a.below nx):
  ∃D,K D/\D.below nx/\∃t d old c,IsRow o t (d++old++c)/\d.length=p.e*p.sz+p.o/\old.length=vs.length/\∀w,IsRow w t (d++vs.map (SA.den ρ)++c)->D.ok ρ w:=by
 cases b with
 |cells t l=>
  simp only[wrB]at h;split at h
  ·rename_i Z k;obtain⟨d,old,c,h1,i,n,q⟩:=jU _ _ _ _ k;refine⟨_,h,?_,t,d.map (SA.den ρ),old.map (SA.den ρ),c.map (SA.den ρ),?_,by simpa using n,by simpa using q,?_⟩
   ·intro a ha;rw[i]at ha;simp at ha;rcases ha with ha | ha | ha
    ·exact f a (by rw[h1];simp[ha])
    ·exact M a ha
    ·exact f a (by rw[h1];simp[ha])
   ·simp only[SB.ok]at j;rw[h1]at j;simpa using j
   ·intro w g;simp only[SB.ok];rw[i];simpa using g
  ·exact h.elim
 |arr t sz L room=>
  simp only[wrB]at h;obtain⟨E,R,tail,S,B⟩:=j;split at h
  ·rename_i J;have J:=qm J;obtain⟨x,k,u⟩:=h;split at u
   ·rename_i U Q;obtain⟨d,old,c,h1,i,n,q⟩:=jU _ _ _ _ Q;obtain⟨A,m,W,X,Y⟩:=oH L p.e x E k
    have O:U.length=sz:=by
     have:=E x (yx k);rw[h1]at this;rw[i];simp at this ⊢;omega
    refine⟨_,u,?_,t,(A++d).map (SA.den ρ),old.map (SA.den ρ),(c++m).map (SA.den ρ)++tail,?_,?_,by simpa using q,fun w g=>⟨?_,?_,tail,?_,?_⟩⟩
    ·intro y hy a ha;rcases qb7 hy with hy | hy
     ·exact f y hy a ha
     ·subst hy;rw[i]at ha;simp at ha;rcases ha with ha | ha | ha
      ·exact f x (yx k) a (by rw[h1];simp[ha])
      ·exact M a ha
      ·exact f x (yx k) a (by rw[h1];simp[ha])
    ·rw[W,h1]at B;simpa using B
    ·simp[n,X,J]
    ·intro y hy;rcases qb7 hy with hy | hy
     ·exact E y hy
     ·subst hy;exact O
    ·simpa using R
    ·simpa using S
    ·rw[Y U,i];simpa using g
   ·exact u.elim
  ·obtain⟨V,G,s,k,u⟩:=h;obtain⟨d,old,c,h1,i,n,q⟩:=jU _ _ _ _ k
   have T:∀a∈L.flatten,a.below nx:=fun a ha=>by
    obtain⟨y,hy,I⟩:=qbk.1 ha;exact f y hy a I
   refine⟨_,u,?_,t,d.map (SA.den ρ),old.map (SA.den ρ),c.map (SA.den ρ)++tail,?_,by simpa using n,by simpa using q,?_⟩
   ·intro y hy a ha;have ha:a∈V.flatten:=qbk.2 ⟨y,hy,ha⟩;rw[i]at ha;simp at ha;rcases ha with ha | ha | ha
    ·exact T a (by rw[h1];simp[ha])
    ·exact M a ha
    ·exact T a (by rw[h1];simp[ha])
   ·rw[h1]at B;simpa using B
   ·intro w g;refine⟨G,by rw[s];exact R,tail,by rw[s];exact S,?_⟩;rw[i];simpa using g
 |obj o=>exact h.elim
theorem lg(w:World)(g b:Nat)(a:Array Value)(h:b≠g):(w.setRow g a).heap[b]? =w.heap[b]?:=by
 simp only[World.setRow,qdw];rw[if_neg (fun e=>h e.symm)]
theorem yN{p:Pl}{vs:List SA}{K:List (List (Nat×Ent))->Prop}(l:wr h p vs K)(s:Sat C ρ h nx w)
  (X:∀a∈vs,a.below nx):
  ∃D t j old g,K D/\RowAt w (ρ p.i p.k) t (j++old++g)/\j.length=p.e*p.sz+p.o/\old.length=vs.length/\
   Sat C ρ D nx (w.setRow (ρ p.i p.k) (j++vs.map (SA.den ρ)++g).toArray):=by
 have B:∀e (e':SB->Ent),lget h p.i=some e->e.plain=true->(∀d,(e' d).plain=true)->e.has p.k->(∀d q,(e' d).has q↔e.has q)->(∀d q,q≠p.k->e.has q->(e' d).at q=e.at q)->(∀d,(e' d).at p.k=d)->
   wrB (e.at p.k) p vs (fun d=>K (lput h p.i (e' d)))->∃D t j old g,K D/\RowAt w (ρ p.i p.k) t (j++old++g)/\j.length=p.e*p.sz+p.o/\old.length=vs.length/\
   Sat C ρ D nx (w.setRow (ρ p.i p.k) (j++vs.map (SA.den ρ)++g).toArray):=by
  intro e e' u L E x hh I y hb;obtain⟨o,R,M⟩:=s.blk _ e u _ x;obtain⟨d,h1,S,t,j,old,g,T,U,Q,V⟩:=Ba hb M (s.wf _ e u _ x) X;obtain⟨O,G,rfl⟩:=T;refine⟨_,t,j,old,g,h1,⟨_,R,O,G,rfl⟩,U,Q,?_⟩;exact s.upd p.k u L (E d) x (hh d) _ (I d) (by rw[y];exact V _ ⟨O,by simp at G ⊢;rw[Q]at G;exact G,rfl⟩) (by rw[y];exact S) rfl rfl rfl ss (setRow_heap w _ _ _ t _ R) (fun b J=>lg w _ b _ J)
 unfold wr at l;split at l
 ·rename_i b u;split at l
  ·rename_i x;exact B _ (fun d=>.one d) u rfl (fun _=>rfl) x (fun _ _=>Iff.rfl) (fun d q n A=>absurd (A.trans x.symm) n) (fun _=>rfl) l
  ·exact l.elim
 ·rename_i c b u;obtain⟨W,l⟩:=l;split at l
  ·rename_i x;exact B _ (fun d=>.opt c d) u rfl (fun _=>rfl) ⟨W,x⟩ (fun _ _=>Iff.rfl) (fun d q n A=>absurd (A.2.trans x.symm) n) (fun _=>rfl) l
  ·exact l.elim
 ·rename_i m c f u;exact B _ (fun d=>.fam m c fun k=>if k=p.k then d else f k) u rfl (fun _=>rfl) l.1 (fun _ _=>Iff.rfl) (fun d q n _=>by simp[Ent.at,n]) (fun _=>by simp[Ent.at]) l.2
 ·exact l.elim
 ·exact l.elim
 ·exact l.elim
 ·exact l.elim
end Sx
