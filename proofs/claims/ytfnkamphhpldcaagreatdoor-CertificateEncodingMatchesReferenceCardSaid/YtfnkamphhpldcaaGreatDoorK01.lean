import Derived.WalkKit
import Derived.Laws.CopyOwn
set_option maxHeartbeats 64000000
namespace Sx
open Go
theorem oo{p:Prop}(h:p:=by omega):p:=h
theorem dd{p:Prop}(h:p:=by decide):p:=h
theorem ss{p:Prop}(h:p:=by simp):p:=h
abbrev nb:=@Nat.le_of_ble_eq_true
abbrev od:=@of_decide_eq_true
abbrev oe:=@of_decide_eq_false
abbrev qa:=@List.length_map
abbrev qb:=@List.length_append
abbrev qc:=@List.getElem?_eq_getElem
abbrev qd:=@Bool.and_eq_true
abbrev qe:=@List.length_cons
abbrev qf:=@List.take_succ_eq_append_getElem
abbrev qg:=@List.getElem?_eq_some_iff
abbrev qh:=@List.mem_cons
abbrev qi:=@Nat.le_refl
abbrev qj:=@List.append_assoc
abbrev qk:=@List.length_take
abbrev ql:=@List.take_of_length_le
abbrev qm:=@Nat.eq_of_beq_eq_true
abbrev qn:=@Int.toNat_natCast
abbrev qo:=@List.map_append
abbrev qp:=@List.all_eq_true
abbrev qq:=@List.not_mem_nil
abbrev qs:=@List.mem_singleton
abbrev qt:=@List.getElem?_map
abbrev qu:=@List.length_nil
abbrev qv:=@List.nil_append
abbrev qw:=@List.map_cons
abbrev qx:=@List.getElem_mem
abbrev qy:=@List.append_nil
abbrev qz:=@List.mem_map
abbrev q8:=@Nat.le_trans
abbrev q9:=@Nat.zero_add
abbrev ji:=@List.eq_nil_of_length_eq_zero
abbrev jj:=@List.drop_eq_getElem_cons
abbrev jk:=@Array.getElem?_eq_some_iff
abbrev jm:=@List.flatten_cons
abbrev jo:=@List.getElem?_append_left
abbrev jp:=@List.map_congr_left
abbrev jq:=@List.map_map
abbrev js:=@Option.isSome_iff_exists
abbrev jt:=@List.getElem?_append_right
abbrev ju:=@Nat.mod_eq_of_lt
abbrev jv:=@Bool.false_and
abbrev jw:=@Int.tdiv_eq_ediv_of_nonneg
abbrev jx:=@Nat.zero_le
abbrev jy:=@Bool.false_eq_true
abbrev jz:=@Int.natCast_nonneg
abbrev yd:=@List.cons_append
abbrev yf:=@List.mem_append
abbrev yg:=@List.drop_of_length_le
abbrev yh:=@List.mem_of_mem_take
abbrev yi:=@List.length_singleton
abbrev yj:=@List.length_drop
abbrev yk:=@Option.getD_some
abbrev yl:=@List.take_append_drop
abbrev ym:=@List.mem_cons_of_mem
abbrev yp:=@List.take_length
abbrev yq:=@Bool.and_false
abbrev yr:=@List.getD_eq_getElem?_getD
abbrev yt:=@Nat.lt_of_le_of_lt
abbrev yu:=@List.flatten_append
abbrev yv:=@List.getElem_map
abbrev yw:=@List.mem_of_getElem?
abbrev yx:=@Nat.zero_lt_one
abbrev yy:=@List.map_nil
abbrev yz:=@List.getElem?_drop
abbrev y4:=@Nat.lt_of_lt_of_le
abbrev y5:=@List.length_replicate
abbrev y6:=@List.length_eq_zero_iff
abbrev y8:=@List.drop_zero
abbrev y9:=@List.size_toArray
abbrev qaa:=@Int.tmod_eq_emod_of_nonneg
abbrev qab:=@Bool.true_and
abbrev qac:=@Array.replicate_succ
abbrev qad:=@Array.replicate_zero
abbrev qae:=@List.append_toArray
abbrev qaf:=@Nat.le_succ
abbrev qag:=@Nat.add_sub_cancel_left
abbrev qah:=@Bool.or_eq_true
abbrev qai:=@List.foldl_cons
abbrev qaj:=@List.flatten_nil
abbrev qak:=@Option.map_eq_some_iff
abbrev qal:=@List.push_toArray
abbrev qam:=@List.getElem?_eq_none
abbrev qan:=@List.length_filter_le
abbrev qao:=@List.length_zip
abbrev qap:=@Nat.add_zero
abbrev qaq:=@Nat.min_eq_left
abbrev qar:=@Nat.mul_comm
abbrev qas:=@List.mem_of_mem_drop
abbrev qat:=@Nat.mul_le_mul_right
abbrev qau:=@Nat.pow_le_pow_right
abbrev qav:=@Bool.not_eq_true'
abbrev qaw:=@Nat.mul_le_mul
abbrev qax:=@List.set_cons_zero
abbrev qay:=@UInt8.toNat_ofNat'
abbrev qaz:=@List.getElem?_take_of_lt
abbrev qa0:=@List.mem_append_left
abbrev qa1:=@List.replicate_succ'
abbrev qa2:=@List.getElem?_cons_succ
abbrev qa3:=@List.length_pos_iff
abbrev qa4:=@Int.le_trans
abbrev qa5:=@Nat.sub_zero
abbrev qa6:=@Bool.false_or
abbrev qa7:=@List.mem_flatten
abbrev qa8:=@Array.getElem?_append_left
abbrev qa9:=@Int.fdiv_eq_ediv_of_nonneg
abbrev qba:=@Nat.mod_lt
abbrev qbb:=@Nat.ble_eq_true_of_le
abbrev qbc:=@List.ext_getElem?
abbrev qbd:=@List.foldl_append
abbrev qbe:=@Nat.le_succ_of_le
abbrev qbf:=@Nat.add_assoc
abbrev qbg:=@List.drop_drop
abbrev qbh:=@List.take_take
abbrev qbi:=@Nat.add_mul
abbrev qbj:=@List.drop_eq_nil_of_le
abbrev qbk:=@List.mem_cons_self
abbrev qbl:=@Nat.eq_zero_or_pos
abbrev qbm:=@List.length_set
abbrev qbn:=@List.mem_append_right
abbrev qbo:=@List.set_append_right
abbrev qbp:=@List.any_eq_false
abbrev qbq:=@Nat.two_pow_add_eq_or_of_lt
abbrev qbr:=@Int.mul_le_mul
abbrev qbs:=@List.drop_left
abbrev qbt:=@List.foldl_nil
abbrev qbu:=@List.getElem?_set_ne
abbrev qbv:=@List.map_flatten
abbrev qbw:=@List.map_set
abbrev qbx:=@Nat.pow_succ
abbrev qby:=@Array.getElem?_eq_getElem
abbrev qbz:=@List.mem_or_eq_of_mem_set
abbrev qb0:=@List.length_flatten
abbrev qb1:=@List.length_zipWith
abbrev qb2:=@List.replicate_succ
abbrev qb3:=@Nat.mul_le_mul_left
abbrev qb4:=@List.all_cons
abbrev qb5:=@Nat.mul_assoc
abbrev qb6:=@Int.natCast_mul
abbrev qb7:=@Nat.div_le_self
abbrev qb8:=@Nat.not_lt_zero
abbrev qb9:=@Int.tmod_lt_of_pos
abbrev qca:=@List.mem_replicate
abbrev qcb:=@List.zip_cons_cons
abbrev qcc:=@List.getElem?_set_self
abbrev qcd:=@List.length_range
abbrev qce:=@List.mem_range
abbrev qcf:=@Nat.lt_or_ge
abbrev qcg:=@Nat.succ_mul
abbrev qch:=@List.getElem?_toArray
abbrev qci:=@Array.toList_inj
abbrev qcj:=@Int.mul_le_mul_of_nonneg_right
abbrev qck:=@Int.not_lt
abbrev qcl:=@Nat.and_two_pow_sub_one_eq_mod
abbrev qcm:=@Nat.lt_succ_self
abbrev qcn:=@List.mem_iff_getElem
abbrev qco:=@List.take_append_of_le_length
abbrev qcp:=@Nat.add_le_add_right
abbrev qcq:=@Nat.mul_one
abbrev qcr:=@Int.natCast_add
abbrev qcs:=@Int.tmod_nonneg
abbrev qct:=@List.range_succ
abbrev qcu:=@Nat.and_le_left
abbrev qcv:=@Array.length_toList
abbrev qcw:=@Nat.add_comm
abbrev qcx:=@Nat.le_of_eq
abbrev qcy:=@Nat.ne_of_lt
abbrev qcz:=@Int.mul_nonneg
abbrev qc0:=@List.filter_append
abbrev qc1:=@List.getElem?_take
abbrev qc2:=@List.set_cons_succ
abbrev qc3:=@Nat.xor_lt_two_pow
abbrev qc4:=@Option.isSome_none
abbrev qc5:=@UInt8.toNat_lt
abbrev qc6:=@Array.mapM_eq_mapM_toList
abbrev qc7:=@Bool.eq_false_iff
abbrev qc8:=@List.getElem?_set
abbrev qc9:=@List.map_id
abbrev qda:=@Int.mul_tdiv_cancel_left
abbrev qdb:=@List.map_take
abbrev qdc:=@List.all_reverse
abbrev qdd:=@List.drop_length
abbrev qde:=@List.getElem_zip
abbrev qdf:=@Option.bind_some
abbrev qdg:=@List.append_eq_nil_iff
abbrev qdh:=@List.getElem_cons_succ
abbrev qdi:=@List.sum_replicate_nat
abbrev qdj:=@Nat.sub_self
abbrev qdk:=@Bool.eq_iff_iff
abbrev qdl:=@List.mem_filter
abbrev qdm:=@List.of_mem_zip
abbrev qdn:=@List.take_left'
abbrev qdo:=@Option.map_some
abbrev qdp:=@UInt8.toNat_inj
abbrev qdq:=@Array.getElem?_modify
abbrev qdr:=@Array.getElem?_toList
abbrev qds:=@List.singleton_append
abbrev qdt:=@List.drop_take
abbrev qdu:=@Nat.div_lt_of_lt_mul
abbrev qdv:=@Array.getElem?_push
abbrev qdw:=@Int.toNat_of_nonneg
abbrev qdx:=@List.getElem?_range
abbrev qdy:=@List.take_succ_cons
abbrev qdz:=@Nat.div_mul_le_self
abbrev qd0:=@Bool.and_true
abbrev qd1:=@Nat.min_self
abbrev qd2:=@Int.le_refl
abbrev qd3:=@Int.pow_pos
abbrev qd4:=@Nat.mul_add
theorem tv:True:=.intro
abbrev Rho:=Nat->Nat->Nat
structure Pl where
 i:Nat
 k:Nat
 e:Nat
 sz:Nat
 o:Nat
def Pl.addr(ρ:Rho)(p:Pl):Addr:=⟨ρ p.i p.k,p.e*p.sz+p.o,none⟩
inductive SA where
 |int (k:IntKind) (n:Int)
 |lit (b:Bool)
 |bool (b:Bool)
 |str (s:List UInt8)
 |ptr (p:Pl)
 |slice (nil:Bool) (i k e sz len cap:Nat)
 |nilptr
 |nilfn
 |nilif
 |ifc (t:TypeId) (v:Value)
 |glob (g:Nat)
 |fn (f:Fn) (cap:List Pl)
 |iter (i k:Nat)
 |map (i k:Nat)
 |nilmap
 |nilsl
 |odd (a:Addr)
def SA.den(ρ:Rho):SA->Value
 |.int k n=>.int k n
 |.lit b=>.bool b
 |.bool b=>.bool b
 |.str s=>.string ⟨s.toArray⟩
 |.ptr p=>.pointer (some (p.addr ρ))
 |.slice nil i k e sz len cap=>.slice (if nil then none else some ⟨ρ i k,e*sz,none⟩) len cap
 |.nilptr=>.pointer none
 |.nilfn=>.nilFunc
 |.nilif=>.nilIface
 |.ifc t v=>.iface t v
 |.glob g=>.pointer (some ⟨g,0,none⟩)
 |.fn f cap=>.func f #[] (cap.map fun p=>Value.pointer (some (p.addr ρ))).toArray
 |.iter i k=>.pointer (some ⟨ρ i k,0,none⟩)
 |.map i k=>.map (some (ρ i k))
 |.nilmap=>.map none
 |.nilsl=>.slice none 0 0
 |.odd a=>.slice (some a) 0 0
def SA.below(n:Nat):SA->Prop
 |.ptr p=>p.i < n
 |.slice nil i ..=>nil=true\/i < n
 |.fn _ cap=>∀p∈cap,p.i < n
 |.iter i _=>i < n
 |.map i _=>i < n
 |_=>True
variable {n:Nat}
theorem SA.below_mono{m:Nat}(h:n<=m){a:SA}(b:a.below n):a.below m:=by
 cases a<;>simp only[SA.below]at*<;>first | omega | (intro p c;have:=b p c;omega) | exact b.imp id (fun d=>by omega) | trivial
variable {ρ:Rho}
theorem SA.den_congr{c:Rho}(h:∀i,i < n->c i=ρ i){a:SA}(b:a.below n):a.den c=a.den ρ:=by
 cases a<;>simp only[SA.below]at b<;>simp only[SA.den,Pl.addr]
 ·rw[h _ b]
 ·rename_i nil i k e sz len cap;cases nil with
  |true=>rfl
  |false=>simp only[jy,false_or]at b;rw[h _ b]
 ·congr 2
  exact jp fun p d=>by rw[h _ (b p d)]
 ·rw[h _ b]
 ·rw[h _ b]
theorem SA.one(ρ:Rho)(a:SA):(a.den ρ).oneCell'=true:=by cases a<;>rfl
inductive SC where
 |va (a:SA)
 |agg (l:List SA)
def SC.den(ρ:Rho):SC->Value
 |.va a=>a.den ρ
 |.agg l=>.agg (l.map (SA.den ρ)).toArray
inductive SV where
 |va (a:SA)
 |agg (l:List SA)
 |tup (l:List SC)
 |junk
def SC.v:SC->SV
 |.va a=>.va a
 |.agg l=>.agg l
def SC.below(n:Nat):SC->Prop
 |.va a=>a.below n
 |.agg l=>∀a∈l,a.below n
def SV.below(n:Nat):SV->Prop
 |.va a=>a.below n
 |.agg l=>∀a∈l,a.below n
 |.tup l=>∀c∈l,c.below n
 |.junk=>True
theorem SC.below_mono{m:Nat}(h:n<=m){a:SC}(b:a.below n):a.below m:=by
 cases a with
 |va a=>exact SA.below_mono h b
 |agg l=>exact fun a c=>SA.below_mono h (b a c)
theorem SV.below_mono{m:Nat}(h:n<=m){a:SV}(b:a.below n):a.below m:=by
 cases a with
 |va a=>exact SA.below_mono h b
 |agg l=>exact fun a d=>SA.below_mono h (b a d)
 |tup l=>exact fun c d=>SC.below_mono h (b c d)
 |junk=>trivial
theorem il{b:Rho}(h:∀i,i < n->b i=ρ i){l:List SA}(d:∀a∈l,a.below n):l.map (SA.den b)=l.map (SA.den ρ):=
 jp fun a c=>SA.den_congr h (d a c)
def SV.rel(ρ:Rho):SV->Value->Prop
 |.va a,v=>v=a.den ρ
 |.agg l,v=>v=.agg (l.map (SA.den ρ)).toArray
 |.tup l,v=>v=.tuple (l.map (SC.den ρ)).toArray
 |.junk,_=>True
theorem SV.rel_congr{f:Rho}(h:∀i,i < n->f i=ρ i){s:SV}(b:s.below n){v:Value}(d:s.rel ρ v):s.rel f v:=by
 cases s with
 |va a=>simp only[SV.rel]at*;rw[d,SA.den_congr h b]
 |agg l=>simp only[SV.rel]at*;rw[d,il h b]
 |tup l=>
  simp only[SV.rel]at*;rw[d];congr 2;refine jp fun c g=>?_
  have e:=b c g;cases c with
  |va a=>exact(SA.den_congr h e).symm
  |agg l=>simp only[SC.den];rw[il h e]
 |junk=>trivial
def relL(ρ:Rho):List SV->List Value->Prop
 |[],[]=>True
 |s::ss,v::vs=>s.rel ρ v/\relL ρ ss vs
 |_,_=>False
inductive SB where
 |cells (t:TypeId) (l:List SA)
 |arr (t:TypeId) (sz:Nat) (L:List (List SA)) (room:Nat)
 |obj (o:Obj)
def NoFr(fr:Nat×Nat)(n:Nat):Prop:=∀j,j < n->¬(fr.1<=j/\j < fr.2)
theorem NoFr.zero(n:Nat):NoFr (0,0) n:=fun _ _ h=>absurd h.2 (qb8 _)
def IsRow(o:Obj)(t:TypeId)(cs:List Value):Prop:=∃fr,NoFr fr cs.length/\o=.cells cs.toArray t fr
def SB.ok(ρ:Rho):SB->Obj->Prop
 |.cells t l,o=>IsRow o t (l.map (SA.den ρ))
 |.arr t sz L room,o=>(∀x∈L,x.length=sz)/\L.length<=room/\
   ∃a:List Value,a.length=(room - L.length)*sz/\IsRow o t (L.flatten.map (SA.den ρ)++a)
 |.obj o',o=>o=o'
def SB.below(n:Nat):SB->Prop
 |.cells _ l=>∀a∈l,a.below n
 |.arr _ _ L _=>∀x∈L,∀a∈x,a.below n
 |.obj _=>True
theorem SB.below_mono{m:Nat}(h:n<=m){b:SB}(d:b.below n):b.below m:=by
 cases b with
 |cells t l=>exact fun a c=>SA.below_mono h (d a c)
 |arr t sz L room=>exact fun x e a c=>SA.below_mono h (d x e a c)
 |obj o=>trivial
theorem SB.ok_congr{g:Rho}(h:∀i,i < n->g i=ρ i){b:SB}(f:b.below n){o:Obj}(e:b.ok ρ o):b.ok g o:=by
 cases b with
 |cells t l=>simp only[SB.ok]at*;rw[il h f];exact e
 |arr t sz L room=>
  simp only[SB.ok]at*;obtain⟨h1,j,c,k,m⟩:=e;refine⟨h1,j,c,k,?_⟩;rw[il h (l:=L.flatten) (fun a p=>by obtain⟨x,q,d⟩:=qa7.1 p;exact f x q a d)];exact m
 |obj o=>exact e
abbrev Fz:=Nat->Option SB
def Fz.le(F a:Fz):Prop:=∀b B,F b=some B->a b=some B
theorem Fz.r(F:Fz):Fz.le F F:=fun _ _ h=>h
theorem Fz.t{F G H:Fz}(h:Fz.le F G)(a:Fz.le G H):Fz.le F H:=fun b B c=>a b B (h b B c)
inductive Ent where
 |one (b:SB)
 |opt (c:Bool) (b:SB)
 |fam (n:Nat) (c:Nat->Bool) (f:Nat->SB)
 |gone
 |frz (F:Fz)
 |lnk (b:Nat->Nat)
def Ent.isFz:Ent->Bool
 |.frz _=>true
 |_=>false
def Ent.has:Ent->Nat->Prop
 |.one _,k=>k=0
 |.opt c _,k=>c=true/\k=0
 |.fam n c _,k=>k < n/\c k=true
 |.gone,_=>False
 |.frz F,k=>(F k).isSome=true
 |.lnk _,_=>False
def Ent.at:Ent->Nat->SB
 |.one b,_=>b
 |.opt _ b,_=>b
 |.fam _ _ f,k=>f k
 |.gone,_=>.cells 0 []
 |.frz F,k=>(F k).getD (.cells 0 [])
 |.lnk _,_=>.cells 0 []
def aget{β:Type}:List (Nat×β)->Nat->Option β
 |[],_=>none
 |(m,v)::r,n=>match Nat.beq n m with
  |true=>some v
  |false=>aget r n
def lget{β:Type}:List (List (Nat×β))->Nat->Option β
 |[],_=>none
 |l::r,n=>match aget l n with
  |some v=>some v
  |none=>lget r n
def lput{β:Type}(l:List (List (Nat×β)))(n:Nat)(v:β):List (List (Nat×β)):=
 match l with
 |[]=>[[(n,v)]]
 |x::r=>((n,v)::x)::r
theorem aR{β:Type}(l:List (List (Nat×β)))(n:Nat)(v:β):lget (lput l n v) n=some v:=by
 cases l with
 |nil=>simp[lput,lget,aget]
 |cons x r=>simp[lput,lget,aget]
theorem aM{β:Type}(l:List (List (Nat×β)))(n m:Nat)(v:β)(h:m≠n):lget (lput l n v) m=lget l m:=by
 have a:Nat.beq m n=false:=by
  cases b:Nat.beq m n with
  |false=>rfl
  |true=>exact absurd (qm b) h
 cases l with
 |nil=>simp[lput,lget,aget,a]
 |cons x r=>simp[lput,lget,aget,a]
inductive Dk where
 |fn (f:FuncId)
 |clo (f:FuncId)
 |col
structure St where
 t:List (List (Nat×SV))
 h:List (List (Nat×Ent))
 nx:Nat
 n0:Nat
 nt:Nat
 d:List (Dk×List SA)
def St.owns(h:List (List (Nat×Ent)))(i k:Nat):Prop:=∃e,lget h i=some e/\e.has k
structure Ctx where
 w0:World
 ρ0:Rho
 n0:Nat
 B:Nat->Prop
 R:Nat->Prop
structure Sat(C:Ctx)(ρ:Rho)(h:List (List (Nat×Ent)))(nx:Nat)(w:World):Prop where
 lt:∀i e,lget h i=some e->i < nx
 blk:∀i e,lget h i=some e->∀k,e.has k->∃o,w.heap[ρ i k]? =some o/\(e.at k).ok ρ o
 wf:∀i e,lget h i=some e->∀k,e.has k->(e.at k).below nx
 inj:∀i k i' k',St.owns h i k->St.owns h i' k'->ρ i k=ρ i' k'->i=i'/\k=k'
 anch:∀i,i < C.n0->∀k,ρ i k=C.ρ0 i k
 n0:C.n0<=nx
 n1:1<=C.n0
 os:w.os=C.w0.os
 tape:w.tape=C.w0.tape
 output:w.output=C.w0.output
 size:C.w0.heap.size<=w.heap.size
 fr:∀b,b < C.w0.heap.size->¬C.B b->w.heap[b]? =C.w0.heap[b]?
 own:∀i k,St.owns h i k->(i=0/\C.R k)\/C.B (ρ i k)\/C.w0.heap.size<=ρ i k
 fz:∃F,lget h 0=some (.frz F)/\∀b B,F b=some B->B.below 1
 id0:∀k,ρ 0 k=k
 only:∀i F,lget h i=some (.frz F)->i=0
 lnk:∀i b,lget h i=some (.lnk b)->∀k,ρ i k=b k
def blkOf:List Value->Nat
 |.pointer (some p)::_=>p.block
 |_=>0
def defV:Dk->List Value->Deferred
 |.fn f,vs=>{ target:=.fn (.func f) #[],args:=vs.toArray }
 |.clo f,vs=>{ target:=.fn (.func f) vs.toArray,args:=#[] }
 |.col,vs=>{ target:=.collected (blkOf vs),args:=#[] }
def defOf(ρ:Rho)(x:Dk×List SA):Deferred:=defV x.1 (x.2.map (SA.den ρ))
structure Den(C:Ctx)(ρ:Rho)(st:St)(a:Act)(w:World):Prop where
 sat:Sat C ρ st.h st.nx w
 nt:a.tmps.size=st.nt
 tm:∀n s,lget st.t n=some s->∃v,a.tmps[n]? =some v/\s.rel ρ v
 tw:∀n s,lget st.t n=some s->s.below st.nx
 n0:C.n0=st.n0
 df:a.defers=st.d.map (defOf ρ)
 dw:∀x∈st.d,∀a∈x.2,a.below st.nx
inductive SE where
 |normal
 |ret
 |exit (id:Nat)
 |panic (v:Value)
def SE.to:SE->Exit
 |.normal=>.normal
 |.ret=>.ret
 |.exit id=>.exit id
 |.panic v=>.panic [{ v,recovered:=false }]
def Up(C:Ctx)(Q:SE->St->Prop):Exit->Act->World->Prop:=
 fun e a w=>∃b c ρ,Q b c/\e=b.to/\Den C ρ c a w
@[irreducible] def WP (P:Program) (c:Code) (st:St) (Q:SE->St->Prop):Prop:=
 ∀C ρ a w,Den C ρ st a w->c.wp P (Up C Q) a w
inductive Out where
 |ret (v:SV)
 |panic (v:Value)
def Out.rel(ρ:Rho):Out->Ending->Prop
 |.ret s,e=>∃v,e=.returned v/\s.rel ρ v
 |.panic v,e=>e=.panicked [{ v,recovered:=false }]
@[irreducible] def Enters (P:Program) (f:FuncId):Prop:=∀(args:Array Value) (w:World),(callFunc f args).run P w=.ok (.enter f args) w
theorem enters_of{P:Program}{f:FuncId}{fn:Func}{c:Code}(d:P.funcs[f]? =some fn)(b:fn.body=some c)(e:(fn.name== "runtime.NumGoroutine")=false):Enters P f:=by
 unfold Enters;intro args w;have a:¬fn.name= "runtime.NumGoroutine" :=by simpa using e
 simp[callFunc,d,b,a]
@[irreducible] def za6 (P:Program) (f:FuncId) (args:List SV) (h:List (List (Nat×Ent))) (nx:Nat) (K:Out->List (List (Nat×Ent))->Nat->Prop):Prop:=
 ∀C ρ w vs,Sat C ρ h nx w->relL ρ args vs->(∀s∈args,s.below nx)->
  Enters P f/\Calls P f vs.toArray w fun e w'=>∃out h' nx' ρ',K out h' nx'/\out.rel ρ' e/\Sat C ρ' h' nx' w'/\(∀i,i < nx->ρ' i=ρ i)/\nx<=nx'/\(match out with | .ret s=>s.below nx' | .panic _=>True)
variable {e:Ent}{h:List (List (Nat×Ent))}{i:Nat}
theorem eD{k:Nat}(d:St.owns (lput h n e) i k):(i=n/\e.has k)\/(i≠n/\St.owns h i k):=by
 obtain⟨e',a,c⟩:=d;by_cases b:i=n
 ·subst b;rw[aR]at a;cases a;exact .inl ⟨rfl,c⟩
 ·rw[aM _ _ _ _ b]at a;exact .inr ⟨b,e',a,c⟩
def Ent.plain:Ent->Bool
 |.one _=>true
 |.opt _ _=>true
 |.fam _ _ _=>true
 |_=>false
theorem Ent.plain_ne(h:e.plain=true):(∀F,e≠.frz F)/\(∀b,e≠.lnk b):=by
 cases e<;>simp[Ent.plain]at h ⊢
variable {C:Ctx}{nx:Nat}{w:World}
theorem Sat.pos(s:Sat C ρ h nx w):0 < nx:=by
 obtain⟨F,a,_⟩:=s.fz;exact s.lt 0 _ a
theorem Sat.ne0(s:Sat C ρ h nx w)(a:lget h i=some e)(c:e.plain=true):i≠0:=by
 rintro rfl;obtain⟨F,b,_⟩:=s.fz;rw[b]at a;cases a;cases c
def rext(ρ:Rho)(nx b:Nat):Rho:=fun i k=>if i=nx then b else ρ i k
theorem eA{b:Nat}(h:i < nx):rext ρ nx b i=ρ i:=by
 funext k;simp[rext,qcy h]
theorem dm(ρ:Rho)(nx b k:Nat):rext ρ nx b nx k=b:=by simp[rext]
theorem Sat.world{a:World}(s:Sat C ρ h nx w)
  (c:a.heap=w.heap)(l:a.os=w.os)(n:a.tape=w.tape)(m:a.output=w.output):Sat C ρ h nx a:=
 { s with
  blk:=fun i e g k j=>by rw[c];exact s.blk i e g k j
  os:=l.trans s.os,tape:=n.trans s.tape,output:=m.trans s.output
  size:=by rw[c];exact s.size
  fr:=fun b f d=>by rw[c];exact s.fr b f d }
theorem Sat.drew(s:Sat C ρ h nx w):Sat C ρ h nx w.drew:=
 s.world rfl rfl rfl rfl
theorem Sat.blt(s:Sat C ρ h nx w){k:Nat}(d:St.owns h i k):ρ i k < w.heap.size:=by
 obtain⟨e,b,c⟩:=d;obtain⟨o,a,_⟩:=s.blk i e b k c;exact(jk.1 a).1
theorem hpush(w:World)(o:Obj)(i:Nat)(h:i < w.heap.size):(w.alloc o).heap[i]? =w.heap[i]?:=by
 show(w.heap.push o)[i]? =w.heap[i]?;rw[qdv,if_neg (qcy h)]
theorem Sat.new(s:Sat C ρ h nx w)(b:SB)(o:Obj)
  (D:b.below nx)(B:b.ok ρ o):Sat C (rext ρ nx w.heap.size) (lput h nx (.one b)) (nx+1) (w.alloc o):=by
 have a:∀i,i < nx->rext ρ nx w.heap.size i=ρ i:=fun i c=>eA c
 have d:∀i k,St.owns h i k->i < nx:=fun i k ⟨e,f,_⟩=>s.lt i e f
 refine{ lt:=?_,blk:=?_,wf:=?_,inj:=?_,anch:=?_,n0:=qbe s.n0,n1:=s.n1,os:=s.os,tape:=s.tape,output:=s.output,size:=?_,fr:=?_,own:=?_,fz:=by rw[aM _ _ _ _ (qcy s.pos)];exact s.fz,id0:=fun k=>by rw[a 0 s.pos];exact s.id0 k,only:=?_,lnk:=?_ }
 ·intro i e f;by_cases c:i=nx
  ·omega
  ·rw[aM _ _ _ _ c]at f;have:=s.lt i e f;omega
 ·intro i e f k l;by_cases c:i=nx
  ·subst c;rw[aR]at f;cases f
   refine⟨o,?_,SB.ok_congr a D B⟩;rw[dm];show(w.heap.push o)[w.heap.size]? =some o;simp
  ·rw[aM _ _ _ _ c]at f;have A:=s.lt i e f;obtain⟨J,g,p⟩:=s.blk i e f k l;refine⟨J,?_,SB.ok_congr a (s.wf i e f k l) p⟩;rw[a i A,hpush w o _ (jk.1 g).1];exact g
 ·intro i e f k l;by_cases c:i=nx
  ·subst c;rw[aR]at f;cases f;exact SB.below_mono (qaf _) D
  ·rw[aM _ _ _ _ c]at f;exact SB.below_mono (qaf _) (s.wf i e f k l)
 ·intro i k i' K h1 E j;rcases eD h1 with⟨rfl,l⟩ | ⟨c,m⟩<;>rcases eD E with⟨rfl,y⟩ | ⟨I,g⟩
  ·simp only[Ent.has]at l y;exact⟨rfl,by omega⟩
  ·rw[dm,a i' (d _ _ g)]at j;have:=s.blt g;omega
  ·rw[dm,a i (d _ _ m)]at j;have:=s.blt m;omega
  ·rw[a i (d _ _ m),a i' (d _ _ g)]at j;exact s.inj _ _ _ _ m g j
 ·intro i c k;have:=s.n0;rw[a i oo];exact s.anch i c k
 ·have:=s.size;show _<=(w.heap.push o).size;simp;omega
 ·intro u x G;have:=s.size;rw[hpush w o _ oo];exact s.fr u x G
 ·intro i k h1;rcases eD h1 with⟨rfl,l⟩ | ⟨c,m⟩
  ·right;right;rw[dm];exact s.size
  ·rw[a i (d _ _ m)];exact s.own _ _ m
 ·intro i F q;by_cases c:i=nx
  ·subst c;rw[aR]at q;cases q
  ·rw[aM _ _ _ _ c]at q;exact s.only i F q
 ·intro i u n k;by_cases c:i=nx
  ·subst c;rw[aR]at n;cases n
  ·rw[aM _ _ _ _ c]at n;rw[a i (s.lt i _ n)];exact s.lnk i u n k
theorem Sat.upd{G:World}(s:Sat C ρ h nx w){e':Ent}(k:Nat)(y:lget h i=some e)(Y:e.plain=true)(B:e'.plain=true)
  (W:e.has k)(q:∀f,e'.has f↔e.has f)(o':Obj)(I:∀f,f≠k->e.has f->e'.at f=e.at f)(aa:(e'.at k).ok ρ o')(V:(e'.at k).below nx)
  (ab:G.os=w.os)(ht:G.tape=w.tape)(hp:G.output=w.output)(ac:G.heap.size=w.heap.size)
  (K:G.heap[ρ i k]? =some o')(x:∀b,b≠ρ i k->G.heap[b]? =w.heap[b]?):Sat C ρ (lput h i e') nx G:=by
 have E:∀f,e'.has f->St.owns h i f:=fun f j=>⟨e,y,(q f).1 j⟩
 have n:∀i' f,St.owns (lput h i e') i' f->St.owns h i' f:=by
  intro i' f Z;rcases eD Z with⟨rfl,j⟩ | ⟨_,Z⟩
  ·exact E _ j
  ·exact Z
 have J:=s.ne0 y Y
 have A:∀O Q R,St.owns h O Q->e.has R->ρ O Q=ρ i R->O=i/\Q=R:=fun O Q R h1 T l=>
  s.inj _ _ _ _ h1 ⟨e,y,T⟩ l
 refine{ lt:=?_,blk:=?_,wf:=?_,inj:=fun a b c d h1 T l=>s.inj a b c d (n _ _ h1) (n _ _ T) l,anch:=s.anch,n0:=s.n0,n1:=s.n1,os:=ab.trans s.os,tape:=ht.trans s.tape,output:=hp.trans s.output,size:=by rw[ac];exact s.size,fr:=?_,own:=fun a b h1=>s.own a b (n _ _ h1),fz:=by rw[aM _ _ _ _ (Ne.symm J)];exact s.fz,id0:=s.id0,only:=?_,lnk:=?_ }
 ·intro i' S g;by_cases m:i'=i
  ·subst m;exact s.lt _ e y
  ·rw[aM _ _ _ _ m]at g;exact s.lt _ _ g
 ·intro i' S g f j;by_cases m:i'=i
  ·subst m;rw[aR]at g;cases g
   by_cases p:f=k
   ·subst p;exact⟨o',K,aa⟩
   ·have o:=(q f).1 j;obtain⟨o1,D,u⟩:=s.blk _ e y f o;refine⟨o1,?_,by rw[I f p o];exact u⟩;rw[x _ (fun l=>p (A _ _ _ ⟨e,y,o⟩ W l).2)];exact D
  ·rw[aM _ _ _ _ m]at g;obtain⟨o1,D,u⟩:=s.blk _ _ g f j;refine⟨o1,?_,u⟩;rw[x _ (fun l=>m (A _ _ _ ⟨S,g,j⟩ W l).1)];exact D
 ·intro i' S g f j;by_cases m:i'=i
  ·subst m;rw[aR]at g;cases g
   by_cases p:f=k
   ·subst p;exact V
   ·have o:=(q f).1 j;rw[I f p o];exact s.wf _ e y f o
  ·rw[aM _ _ _ _ m]at g;exact s.wf _ _ g f j
 ·intro b hb hB
  have X:b≠ρ i k:=by
   intro U;subst U;rcases s.own i k ⟨e,y,W⟩with h1 | h1 | h1
   ·exact J h1.1
   ·exact hB h1
   ·omega
  rw[x b X];exact s.fr b hb hB
 ·intro i' F L;by_cases m:i'=i
  ·subst m;rw[aR]at L;cases L;exact absurd rfl ((Ent.plain_ne B).1 F)
  ·rw[aM _ _ _ _ m]at L;exact s.only i' F L
 ·intro i' b' M f;by_cases m:i'=i
  ·subst m;rw[aR]at M;cases M;exact absurd rfl ((Ent.plain_ne B).2 b')
  ·rw[aM _ _ _ _ m]at M;exact s.lnk i' b' M f
theorem Sat.forget(s:Sat C ρ h nx w)(y:i < nx)(o:i≠0):Sat C ρ (lput h i .gone) nx w:=by
 have g:∀i' k,St.owns (lput h i .gone) i' k->St.owns h i' k:=by
  intro i' k p;rcases eD p with⟨rfl,f⟩ | ⟨_,p⟩
  ·exact f.elim
  ·exact p
 refine{ s with lt:=?_,blk:=?_,wf:=?_,inj:=fun a b c d h1 x n=>s.inj a b c d (g _ _ h1) (g _ _ x) n,own:=fun a b h1=>s.own a b (g _ _ h1),fz:=by rw[aM _ _ _ _ (Ne.symm o)];exact s.fz,only:=?_,lnk:=?_ }
 ·intro i' q e;by_cases j:i'=i
  ·subst j;exact y
  ·rw[aM _ _ _ _ j]at e;exact s.lt _ _ e
 ·intro i' q e k f;by_cases j:i'=i
  ·subst j;rw[aR]at e;cases e;exact f.elim
  ·rw[aM _ _ _ _ j]at e;exact s.blk _ _ e k f
 ·intro i' q e k f;by_cases j:i'=i
  ·subst j;rw[aR]at e;cases e;exact f.elim
  ·rw[aM _ _ _ _ j]at e;exact s.wf _ _ e k f
 ·intro i' F l;by_cases j:i'=i
  ·subst j;rw[aR]at l;cases l
  ·rw[aM _ _ _ _ j]at l;exact s.only i' F l
 ·intro i' u m k;by_cases j:i'=i
  ·subst j;rw[aR]at m;cases m
  ·rw[aM _ _ _ _ j]at m;exact s.lnk i' u m k
theorem Sat.move{I:World}(s:Sat C ρ h nx w)(M:lget h i=some e)(aa:e.plain=true)(V:e.has 0)
  (b:SB)(o':Obj)(ac:b.ok ρ o')(L:b.below nx)
  (ad:I.os=w.os)(ht:I.tape=w.tape)(hp:I.output=w.output)(ae:I.heap.size=w.heap.size)
  (Q:I.heap[ρ i 0]? =some o')(A:∀b,b≠ρ i 0->I.heap[b]? =w.heap[b]?):
  Sat C (rext ρ nx (ρ i 0)) (lput (lput h i .gone) nx (.one b)) (nx+1) I:=by
 have g:∀j,j < nx->rext ρ nx (ρ i 0) j=ρ j:=fun j Y=>eA Y
 have O:=s.lt i e M
 have d:∀i' o,St.owns (lput h i .gone) i' o->St.owns h i' o/\i'≠i:=by
  intro i' o y;rcases eD y with⟨rfl,m⟩ | ⟨G,y⟩
  ·exact m.elim
  ·exact⟨y,G⟩
 have n:∀i' o,St.owns h i' o->i' < nx:=fun i' o ⟨K,c,_⟩=>s.lt i' K c
 have q:∀U k1,St.owns h U k1->ρ U k1=ρ i 0->U=i:=fun U k1 h1 l=>
  (s.inj _ _ _ _ h1 ⟨e,M,V⟩ l).1
 have D:=s.ne0 M aa;have x:=s.forget O D;refine{ lt:=?_,blk:=?_,wf:=?_,inj:=?_,anch:=?_,n0:=qbe s.n0,n1:=s.n1,os:=ad.trans s.os,tape:=ht.trans s.tape,output:=hp.trans s.output,size:=by rw[ae];exact s.size,fr:=?_,own:=?_,fz:=by rw[aM _ _ _ _ (qcy s.pos)];exact x.fz,id0:=fun k=>by rw[g 0 s.pos];exact s.id0 k,only:=?_,lnk:=?_ }
 ·intro i' K c;by_cases p:i'=nx
  ·omega
  ·rw[aM _ _ _ _ p]at c;have:=x.lt _ _ c;omega
 ·intro i' K c o m;by_cases p:i'=nx
  ·subst p;rw[aR]at c;cases c
   exact⟨o',by rw[dm];exact Q,SB.ok_congr g L ac⟩
  ·rw[aM _ _ _ _ p]at c;have E:=x.lt _ _ c;obtain⟨o1,ab,S⟩:=x.blk _ _ c o m;refine⟨o1,?_,SB.ok_congr g (x.wf _ _ c o m) S⟩;have⟨f,u⟩:=d i' o ⟨K,c,m⟩;rw[g _ E,A _ (fun l=>u (q _ _ f l))];exact ab
 ·intro i' K c o m;by_cases p:i'=nx
  ·subst p;rw[aR]at c;cases c;exact SB.below_mono (qaf _) L
  ·rw[aM _ _ _ _ p]at c;exact SB.below_mono (qaf _) (x.wf _ _ c o m)
 ·intro a k a' o h1 h2 l;rcases eD h1 with⟨rfl,hk⟩ | ⟨hi,y⟩<;>rcases eD h2 with⟨rfl,m⟩ | ⟨af,R⟩
  ·simp only[Ent.has]at hk m;exact⟨rfl,by omega⟩
  ·have⟨f,u⟩:=d _ _ R;rw[dm,g _ (n _ _ f)]at l;exact absurd (q _ _ f l.symm) u
  ·have⟨f,u⟩:=d _ _ y;rw[dm,g _ (n _ _ f)]at l;exact absurd (q _ _ f l) u
  ·have⟨f,Z⟩:=d _ _ y;have⟨B,ag⟩:=d _ _ R;rw[g _ (n _ _ f),g _ (n _ _ B)]at l;exact s.inj _ _ _ _ f B l
 ·intro j Y k;have:=s.n0;rw[g j oo];exact s.anch j Y k
 ·intro J W hB
  have G:J≠ρ i 0:=by
   intro X;subst X;rcases s.own i 0 ⟨e,M,V⟩with h1 | h1 | h1
   ·exact D h1.1
   ·exact hB h1
   ·omega
  rw[A J G];exact s.fr J W hB
 ·intro a k h1;rcases eD h1 with⟨rfl,hk⟩ | ⟨hi,y⟩
  ·rw[dm];exact .inr ((s.own i 0 ⟨e,M,V⟩).resolve_left (fun h=>D h.1))
  ·have⟨f,Z⟩:=d _ _ y;rw[g _ (n _ _ f)];exact s.own _ _ f
 ·intro i' F T;by_cases p:i'=nx
  ·subst p;rw[aR]at T;cases T
  ·rw[aM _ _ _ _ p]at T;exact x.only i' F T
 ·intro i' J E o;by_cases p:i'=nx
  ·subst p;rw[aR]at E;cases E
  ·rw[aM _ _ _ _ p]at E;rw[g _ (x.lt _ _ E)];exact x.lnk i' J E o
theorem Den.heap{k:Rho}{j:St}{a:Act}{m:World}{l:List (List (Nat×Ent))}{e:Nat}(d:Den C ρ j a w)
  (s:Sat C k l e m)(f:∀i,i < j.nx->k i=ρ i)(g:j.nx<=e):Den C k { j with h:=l,nx:=e } a m where
 sat:=s
 nt:=d.nt
 tm:=fun n x c=>by
  obtain⟨v,q,p⟩:=d.tm n x c;exact⟨v,q,SV.rel_congr f (d.tw n x c) p⟩
 tw:=fun n x c=>SV.below_mono g (d.tw n x c)
 n0:=d.n0
 df:=by
  rw[d.df];refine jp fun x c=>?_
  simp only[defOf];rw[il f (d.dw x c)]
 dw:=fun x c b o=>SA.below_mono g (d.dw x c b o)
theorem Den.put{f:St}{a:Act}(d:Den C ρ f a w)(n:Nat)(i:n < f.nt)(s:SV)(v:Value)(j:s.rel ρ v)(h:s.below f.nx):
  Den C ρ { f with t:=lput f.t n s } (a.put (some n) v) w where
 sat:=d.sat
 nt:=by simp[Act.put,d.nt]
 tm:=fun m x b=>by
  by_cases c:m=n
  ·subst c;rw[aR]at b;cases b
   exact⟨v,by simp[Act.put,d.nt,i],j⟩
  ·rw[aM _ _ _ _ c]at b;obtain⟨u,k,g⟩:=d.tm m x b;refine⟨u,?_,g⟩;simp only[Act.put];rw[Array.getElem?_setIfInBounds_ne (fun e=>c e.symm)];exact k
 tw:=fun m x b=>by
  by_cases c:m=n
  ·subst c;rw[aR]at b;cases b;exact h
  ·rw[aM _ _ _ _ c]at b;exact d.tw m x b
 n0:=d.n0
 df:=d.df
 dw:=d.dw
def takeN{α:Type}:Nat->List α->Option (List α)
 |0,_=>some []
 |_+1,[]=>none
 |n+1,x::r=>match takeN n r with
  |some xs=>some (x::xs)
  |none=>none
def dA{α:Type}:List α->Nat->Nat->Option (List α)
 |l,0,n=>takeN n l
 |[],_+1,_=>none
 |_::r,o+1,n=>dA r o n
def setN{α:Type}:List α->List α->Option (List α)
 |l,[]=>some l
 |[],_::_=>none
 |_::r,x::xs=>match setN r xs with
  |some r'=>some (x::r')
  |none=>none
def setAt{α:Type}:List α->Nat->List α->Option (List α)
 |l,0,xs=>setN l xs
 |[],_+1,_=>none
 |y::r,o+1,xs=>match setAt r o xs with
  |some r'=>some (y::r')
  |none=>none
theorem ua{α:Type}:∀(n:Nat) (l xs:List α),takeN n l=some xs->∃a,l=xs++a/\xs.length=n
 |0,l,xs,h=>by simp[takeN]at h;subst h;exact⟨l,rfl,rfl⟩
 |n+1,[],xs,h=>by simp[takeN]at h
 |n+1,x::r,xs,h=>by
  simp only[takeN]at h;split at h
  ·rename_i d c;cases h
   obtain⟨a,h1,b⟩:=ua n r d c;exact⟨a,by rw[h1];rfl,by simp[b]⟩
  ·cases h
theorem gu{α:Type}:∀(l:List α) (o n:Nat) (xs:List α),dA l o n=some xs->∃pre a,l=pre++xs++a/\pre.length=o/\xs.length=n
 |l,0,n,xs,h=>by
  have c:takeN n l=some xs:=by cases l<;>simpa[dA]using h
  obtain⟨a,h1,b⟩:=ua n l xs c;exact⟨[],a,by simpa using h1,rfl,b⟩
 |[],o+1,n,xs,h=>by simp[dA]at h
 |y::r,o+1,n,xs,h=>by
  simp only[dA]at h;obtain⟨pre,a,h1,b,d⟩:=gu r o n xs h;exact⟨y::pre,a,by rw[h1];rfl,by simp[b],d⟩
theorem vS{α:Type}:∀(l xs b:List α),setN l xs=some b->∃old a,l=old++a/\b=xs++a/\old.length=xs.length
 |l,[],b,h=>by
  have:l=b:=by cases l<;>simpa[setN]using h
  subst this;exact⟨[],l,rfl,rfl,rfl⟩
 |[],_::_,b,h=>by simp[setN]at h
 |y::r,x::xs,b,h=>by
  simp only[setN]at h;split at h
  ·rename_i f e;cases h
   obtain⟨old,a,h1,c,d⟩:=vS r xs f e;exact⟨y::old,a,by rw[h1];rfl,by rw[c];rfl,by simp[d]⟩
  ·cases h
theorem jK{α:Type}:∀(l:List α) (o:Nat) (xs b:List α),setAt l o xs=some b->∃pre old a,l=pre++old++a/\b=pre++xs++a/\pre.length=o/\old.length=xs.length
 |l,0,xs,b,h=>by
  have e:setN l xs=some b:=by cases l<;>simpa[setAt]using h
  obtain⟨old,a,h1,c,d⟩:=vS l xs b e;exact⟨[],old,a,by simpa using h1,by simpa using c,rfl,d⟩
 |[],o+1,xs,b,h=>by simp[setAt]at h
 |y::r,o+1,xs,b,h=>by
  simp only[setAt]at h;split at h
  ·rename_i i g;cases h
   obtain⟨pre,old,a,h1,c,d,f⟩:=jK r o xs i g;exact⟨y::pre,old,a,by rw[h1];rfl,by rw[c];rfl,by simp[d],f⟩
  ·cases h
theorem ou{α:Type}{sz:Nat}:∀(L:List (List α)) (e:Nat) (x:List α),(∀y∈L,y.length=sz)->L[e]? =some x->
  ∃pre a,L.flatten=pre++x++a/\pre.length=e*sz/\∀b,(L.set e b).flatten=pre++b++a
 |[],e,x,_,h=>by simp at h
 |y::L,0,x,hl,h=>by
  simp at h;subst h;exact⟨[],L.flatten,by simp,by simp,fun b=>by simp⟩
 |y::L,e+1,x,hl,h=>by
  simp at h;obtain⟨pre,a,h1,c,d⟩:=ou L e x (fun z f=>hl z (by simp[f])) h;refine⟨y++pre,a,by simp[h1],?_,fun b=>?_⟩
  ·have:=hl y ss;simp[c,this,qcg];omega
  ·have:=d b;simp[this]
def RowAt(w:World)(b:Nat)(t:TypeId)(cs:List Value):Prop:=∃o,w.heap[b]? =some o/\IsRow o t cs
variable {cs:List Value}{t:TypeId}
theorem RowAt.cell{b:Nat}(h:RowAt w b t cs)(j:Nat):w.cell? ⟨b,j,none⟩=cs[j]?:=by
 obtain⟨o,a,fr,_,rfl⟩:=h;have:=cell_of_row w b j cs.toArray t fr a;simpa using this
theorem RowAt.free{b:Nat}(h:RowAt w b t cs)(j:Nat)(a:j < cs.length):w.frozen? ⟨b,j,none⟩=false:=by
 obtain⟨o,d,fr,c,rfl⟩:=h;have:=c j a;simp only[World.frozen?,d];simp;intro h1;have e:=c j a;omega
theorem jB{P:Program}(g off:Nat)(t:TypeId):∀(vs:List Value) (i:Nat) (cs:List Value) (w:World),RowAt w g t cs->off+i+vs.length<=cs.length->(∀v∈vs,v.oneCell'=true)->
  (storeCells ⟨g,off,none⟩ vs i).run P w=.ok () (w.setRow g (cs.take (off+i)++vs++cs.drop (off+i+vs.length)).toArray)
 |[],i,cs,w,hg,_,_=>by
  obtain⟨o,f,fr,k,rfl⟩:=hg;simp only[storeCells,qy,qu,qap,yl];rw[setRow_self w g cs.toArray t fr f];rfl
 |v::rest,i,cs,w,hg,hl,h1=>by
  have j:off+i < cs.length:=by simp at hl;omega
  have c:(⟨g,off,none⟩:Addr).add i=⟨g,off+i,none⟩:=by unfold Addr.add;split<;>simp_all
  have a:w.cell? ⟨g,off+i,none⟩=some cs[off+i]:=by rw[hg.cell];simp[j]
  have d:w.frozen? ⟨g,off+i,none⟩=false:=hg.free _ j;obtain⟨o,f,fr,k,rfl⟩:=hg
  have h:(store ((⟨g,off,none⟩:Addr).add i) v).run P w=.ok () (w.setRow g (cs.toArray.setIfInBounds (off+i) v)):=by
   rw[c,run_store P w _ v _ (h1 v ss),a];simp[d,setCell_eq_setRow w g (off+i) cs.toArray t fr v f]
  have b:RowAt (w.setRow g (cs.toArray.setIfInBounds (off+i) v)) g t (cs.set (off+i) v):=
   ⟨_,setRow_heap w g _ _ t fr f,fr,by simpa using k,by simp⟩
  have ih:=jB (P:=P) g off t rest (i+1) (cs.set (off+i) v) _ b (by simp at hl ⊢;omega) (fun x l=>h1 x (by simp[l]));simp only[storeCells,Sem.run_bind,h,Result.andThen_ok,ih,setRow_setRow]
  congr 3
  have e:=list_seg_step cs (off+i) v rest (by simp at hl ⊢;omega);simpa[qbf]using e
def RdO(o:Obj)(off n:Nat)(xs:List SA):Prop:=xs.length=n/\(∀a∈xs,a.below 1)/\∀ρ:Rho,(∀k,ρ 0 k=k)->∃(t:TypeId) (fr:Nat×Nat) (pre b:List Value),o=.cells (pre++xs.map (SA.den ρ)++b).toArray t fr/\pre.length=off
def rdB(b:SB)(p:Pl)(n:Nat)(K:List SA->Prop):Prop:=
 match b with
 |.cells _ l=>match dA l (p.e*p.sz+p.o) n with
  |some xs=>K xs
  |none=>False
 |.arr _ sz L _=>match Nat.beq p.sz sz with
  |true=>∃x,L[p.e]? =some x/\(match dA x p.o n with
   |some xs=>K xs
   |none=>False)
  |false=>∃xs,dA L.flatten (p.e*p.sz+p.o) n=some xs/\K xs
 |.obj o=>∃xs,RdO o (p.e*p.sz+p.o) n xs/\K xs
def rd(h:List (List (Nat×Ent)))(p:Pl)(n:Nat)(K:List SA->Prop):Prop:=
 match lget h p.i with
 |some (.one b)=>(match p.k with
  |0=>rdB b p n K
  |_+1=>False)
 |some (.opt c b)=>c=true/\(match p.k with
  |0=>rdB b p n K
  |_+1=>False)
 |some (.fam m c f)=>(p.k < m/\c p.k=true)/\rdB (f p.k) p n K
 |some (.frz F)=>∃B,F p.k=some B/\rdB B p n K
 |some (.lnk b)=>(match lget h 0 with
  |some (.frz F)=>∃B,F (b p.k)=some B/\rdB B p n K
  |_=>False)
 |some .gone=>False
 |none=>False
def wrB(b:SB)(p:Pl)(vs:List SA)(K:SB->Prop):Prop:=
 match b with
 |.cells t l=>match setAt l (p.e*p.sz+p.o) vs with
  |some l'=>K (.cells t l')
  |none=>False
 |.arr t sz L room=>match Nat.beq p.sz sz with
  |true=>∃x,L[p.e]? =some x/\(match setAt x p.o vs with
   |some x'=>K (.arr t sz (L.set p.e x') room)
   |none=>False)
  |false=>∃a,(∀x∈a,x.length=sz)/\a.length=L.length/\setAt L.flatten (p.e*p.sz+p.o) vs=some a.flatten/\K (.arr t sz a room)
 |.obj _=>False
def wr(h:List (List (Nat×Ent)))(p:Pl)(vs:List SA)(K:List (List (Nat×Ent))->Prop):Prop:=
 match lget h p.i with
 |some (.one b)=>(match p.k with
  |0=>wrB b p vs fun a=>K (lput h p.i (.one a))
  |_+1=>False)
 |some (.opt c b)=>c=true/\(match p.k with
  |0=>wrB b p vs fun a=>K (lput h p.i (.opt c a))
  |_+1=>False)
 |some (.fam m c f)=>(p.k < m/\c p.k=true)/\wrB (f p.k) p vs fun a=>K (lput h p.i (.fam m c fun k=>if k=p.k then a else f k))
 |some (.frz _)=>False
 |some (.lnk _)=>False
 |some .gone=>False
 |none=>False
def qN(o:Obj)(t:TypeId)(cs:List Value):Prop:=∃fr,o=.cells cs.toArray t fr
theorem IsRow.r{o:Obj}(h:IsRow o t cs):qN o t cs:=let⟨fr,_,e⟩:=h;⟨fr,e⟩
def kF(w:World)(b:Nat)(t:TypeId)(cs:List Value):Prop:=∃o,w.heap[b]? =some o/\qN o t cs
theorem kF.cell{b:Nat}(h:kF w b t cs)(j:Nat):w.cell? ⟨b,j,none⟩=cs[j]?:=by
 obtain⟨o,a,fr,rfl⟩:=h;have:=cell_of_row w b j cs.toArray t fr a;simpa using this
theorem vl{b:SB}{p:Pl}{K:List SA->Prop}{o:Obj}(I:∀k,ρ 0 k=k)(O:0 < nx)(h:rdB b p n K)(d:b.ok ρ o)(m:b.below nx):
  ∃xs,K xs/\xs.length=n/\(∀a∈xs,a.below nx)/\∃t pre c,qN o t (pre++xs.map (SA.den ρ)++c)/\pre.length=p.e*p.sz+p.o:=by
 cases b with
 |cells t l=>
  simp only[rdB]at h;split at h
  ·rename_i xs B;obtain⟨pre,c,h1,g,i⟩:=gu _ _ _ _ B;refine⟨xs,h,i,fun a j=>m a (by rw[h1];simp[j]),t,pre.map (SA.den ρ),c.map (SA.den ρ),?_,by simpa using g⟩;simp only[SB.ok]at d;rw[h1]at d;exact IsRow.r (by simpa using d)
  ·exact h.elim
 |arr t sz L room=>
  simp only[rdB]at h;obtain⟨G,T,f,U,A⟩:=d;split at h
  ·rename_i E;have E:=qm E;obtain⟨x,B,q⟩:=h;split at q
   ·rename_i xs s;obtain⟨pre,c,h1,g,i⟩:=gu _ _ _ _ s;obtain⟨w,u,R,S,_⟩:=ou L p.e x G B;refine⟨xs,q,i,fun a j=>m x (yw B) a (by rw[h1];simp[j]),t,(w++pre).map (SA.den ρ),(c++u).map (SA.den ρ)++f,?_,?_⟩
    ·rw[R,h1]at A;exact IsRow.r (by simpa using A)
    ·simp[g,S,E]
   ·exact q.elim
  ·obtain⟨xs,s,q⟩:=h;obtain⟨pre,c,h1,g,i⟩:=gu _ _ _ _ s;refine⟨xs,q,i,fun a j=>?_,t,pre.map (SA.den ρ),c.map (SA.den ρ)++f,?_,by simpa using g⟩
   ·obtain⟨y,Q,D⟩:=qa7.1 (show a∈L.flatten by rw[h1];simp[j]);exact m y Q a D
   ·rw[h1]at A;exact IsRow.r (by simpa using A)
 |obj o'=>
  obtain⟨xs,⟨h1,g,i⟩,q⟩:=h;obtain⟨t,fr,pre,c,J,M⟩:=i ρ I;have d:o=o':=d;exact⟨xs,q,h1,fun a j=>SA.below_mono O (g a j),t,pre,c,⟨fr,d.trans J⟩,M⟩
theorem pr{p:Pl}{K:List SA->Prop}(g:rd h p n K)(s:Sat C ρ h nx w):
  ∃xs,K xs/\xs.length=n/\(∀a∈xs,a.below nx)/\∃t pre d,kF w (ρ p.i p.k) t (pre++xs.map (SA.den ρ)++d)/\pre.length=p.e*p.sz+p.o:=by
 have q:∀e,lget h p.i=some e->e.has p.k->rdB (e.at p.k) p n K->∃xs,K xs/\xs.length=n/\(∀a∈xs,a.below nx)/\∃t pre d,kF w (ρ p.i p.k) t (pre++xs.map (SA.den ρ)++d)/\pre.length=p.e*p.sz+p.o:=by
  intro e j x L;obtain⟨o,A,l⟩:=s.blk _ e j _ x;obtain⟨xs,h1,D,E,t,pre,d,G,I⟩:=vl s.id0 s.pos L l (s.wf _ e j _ x);exact⟨xs,h1,D,E,t,pre,d,⟨o,A,G⟩,I⟩
 unfold rd at g;split at g
 ·rename_i b j;split at g
  ·rename_i x;exact q _ j x g
  ·exact g.elim
 ·rename_i c b j;obtain⟨M,g⟩:=g;split at g
  ·rename_i x;exact q _ j ⟨M,x⟩ g
  ·exact g.elim
 ·rename_i m c f j;exact q _ j g.1 g.2
 ·rename_i F j;obtain⟨B,u,g⟩:=g;exact q _ j (by simp[Ent.has,u]) (by simpa[Ent.at,u]using g)
 ·rename_i b j;split at g
  ·rename_i F J;obtain⟨B,u,g⟩:=g;have O:=s.lnk _ _ j p.k;obtain⟨o,A,l⟩:=s.blk 0 _ J (b p.k) (by simp[Ent.has,u]);have y:=s.wf 0 _ J (b p.k) (by simp[Ent.has,u]);simp only[Ent.at,u,yk]at l y;rw[s.id0,<-O]at A;obtain⟨xs,h1,D,E,t,pre,d,G,I⟩:=vl s.id0 s.pos g l y;exact⟨xs,h1,D,E,t,pre,d,⟨o,A,G⟩,I⟩
  ·exact g.elim
 ·exact g.elim
 ·exact g.elim
theorem Aj{b:SB}{p:Pl}{vs:List SA}{K:SB->Prop}{o:Obj}(h:wrB b p vs K)(j:b.ok ρ o)(f:b.below nx)(M:∀a∈vs,a.below nx):
  ∃D,K D/\D.below nx/\∃t pre old c,IsRow o t (pre++old++c)/\pre.length=p.e*p.sz+p.o/\old.length=vs.length/\∀w,IsRow w t (pre++vs.map (SA.den ρ)++c)->D.ok ρ w:=by
 cases b with
 |cells t l=>
  simp only[wrB]at h;split at h
  ·rename_i Z k;obtain⟨pre,old,c,h1,i,n,q⟩:=jK _ _ _ _ k;refine⟨_,h,?_,t,pre.map (SA.den ρ),old.map (SA.den ρ),c.map (SA.den ρ),?_,by simpa using n,by simpa using q,?_⟩
   ·intro a ha;rw[i]at ha;simp at ha;rcases ha with ha | ha | ha
    ·exact f a (by rw[h1];simp[ha])
    ·exact M a ha
    ·exact f a (by rw[h1];simp[ha])
   ·simp only[SB.ok]at j;rw[h1]at j;simpa using j
   ·intro w g;simp only[SB.ok];rw[i];simpa using g
  ·exact h.elim
 |arr t sz L room=>
  simp only[wrB]at h;obtain⟨E,R,d,S,B⟩:=j;split at h
  ·rename_i J;have J:=qm J;obtain⟨x,k,u⟩:=h;split at u
   ·rename_i U Q;obtain⟨pre,old,c,h1,i,n,q⟩:=jK _ _ _ _ Q;obtain⟨A,m,W,X,Y⟩:=ou L p.e x E k
    have O:U.length=sz:=by
     have:=E x (yw k);rw[h1]at this;rw[i];simp at this ⊢;omega
    refine⟨_,u,?_,t,(A++pre).map (SA.den ρ),old.map (SA.den ρ),(c++m).map (SA.den ρ)++d,?_,?_,by simpa using q,fun w g=>⟨?_,?_,d,?_,?_⟩⟩
    ·intro y hy a ha;rcases qbz hy with hy | hy
     ·exact f y hy a ha
     ·subst hy;rw[i]at ha;simp at ha;rcases ha with ha | ha | ha
      ·exact f x (yw k) a (by rw[h1];simp[ha])
      ·exact M a ha
      ·exact f x (yw k) a (by rw[h1];simp[ha])
    ·rw[W,h1]at B;simpa using B
    ·simp[n,X,J]
    ·intro y hy;rcases qbz hy with hy | hy
     ·exact E y hy
     ·subst hy;exact O
    ·simpa using R
    ·simpa using S
    ·rw[Y U,i];simpa using g
   ·exact u.elim
  ·obtain⟨V,G,s,k,u⟩:=h;obtain⟨pre,old,c,h1,i,n,q⟩:=jK _ _ _ _ k
   have T:∀a∈L.flatten,a.below nx:=fun a ha=>by
    obtain⟨y,hy,I⟩:=qa7.1 ha;exact f y hy a I
   refine⟨_,u,?_,t,pre.map (SA.den ρ),old.map (SA.den ρ),c.map (SA.den ρ)++d,?_,by simpa using n,by simpa using q,?_⟩
   ·intro y hy a ha;have ha:a∈V.flatten:=qa7.2 ⟨y,hy,ha⟩;rw[i]at ha;simp at ha;rcases ha with ha | ha | ha
    ·exact T a (by rw[h1];simp[ha])
    ·exact M a ha
    ·exact T a (by rw[h1];simp[ha])
   ·rw[h1]at B;simpa using B
   ·intro w g;refine⟨G,by rw[s];exact R,d,by rw[s];exact S,?_⟩;rw[i];simpa using g
 |obj o=>exact h.elim
theorem kX(w:World)(g b:Nat)(cs:Array Value)(h:b≠g):(w.setRow g cs).heap[b]? =w.heap[b]?:=by
 simp only[World.setRow,qdq];rw[if_neg (fun e=>h e.symm)]
theorem xS{p:Pl}{vs:List SA}{K:List (List (Nat×Ent))->Prop}(j:wr h p vs K)(s:Sat C ρ h nx w)
  (X:∀a∈vs,a.below nx):
  ∃B t pre old g,K B/\RowAt w (ρ p.i p.k) t (pre++old++g)/\pre.length=p.e*p.sz+p.o/\old.length=vs.length/\
   Sat C ρ B nx (w.setRow (ρ p.i p.k) (pre++vs.map (SA.den ρ)++g).toArray):=by
 have A:∀e (e':SB->Ent),lget h p.i=some e->e.plain=true->(∀d,(e' d).plain=true)->e.has p.k->(∀d n,(e' d).has n↔e.has n)->(∀d n,n≠p.k->e.has n->(e' d).at n=e.at n)->(∀d,(e' d).at p.k=d)->
   wrB (e.at p.k) p vs (fun d=>K (lput h p.i (e' d)))->∃B t pre old g,K B/\RowAt w (ρ p.i p.k) t (pre++old++g)/\pre.length=p.e*p.sz+p.o/\old.length=vs.length/\
   Sat C ρ B nx (w.setRow (ρ p.i p.k) (pre++vs.map (SA.den ρ)++g).toArray):=by
  intro e e' q J D u W G x U;obtain⟨o,O,L⟩:=s.blk _ e q _ u;obtain⟨d,h1,Q,t,pre,old,g,R,S,M,T⟩:=Aj U L (s.wf _ e q _ u) X;obtain⟨fr,E,rfl⟩:=R;refine⟨_,t,pre,old,g,h1,⟨_,O,fr,E,rfl⟩,S,M,?_⟩;exact s.upd p.k q J (D d) u (W d) _ (G d) (by rw[x];exact T _ ⟨fr,by simp at E ⊢;rw[M]at E;exact E,rfl⟩) (by rw[x];exact Q) rfl rfl rfl ss (setRow_heap w _ _ _ t _ O) (fun b I=>kX w _ b _ I)
 unfold wr at j;split at j
 ·rename_i b q;split at j
  ·rename_i u;exact A _ (fun d=>.one d) q rfl (fun _=>rfl) u (fun _ _=>Iff.rfl) (fun d n l y=>absurd (y.trans u.symm) l) (fun _=>rfl) j
  ·exact j.elim
 ·rename_i c b q;obtain⟨V,j⟩:=j;split at j
  ·rename_i u;exact A _ (fun d=>.opt c d) q rfl (fun _=>rfl) ⟨V,u⟩ (fun _ _=>Iff.rfl) (fun d n l y=>absurd (y.2.trans u.symm) l) (fun _=>rfl) j
  ·exact j.elim
 ·rename_i m c f q;exact A _ (fun d=>.fam m c fun k=>if k=p.k then d else f k) q rfl (fun _=>rfl) j.1 (fun _ _=>Iff.rfl) (fun d n l _=>by simp[Ent.at,l]) (fun _=>by simp[Ent.at]) j.2
 ·exact j.elim
 ·exact j.elim
 ·exact j.elim
 ·exact j.elim
end Sx
