import Derived.Test.YtfnkamphhpldcaaGreatDoorK01
set_option maxHeartbeats 64000000
namespace Sx
open Go
abbrev Hp:=List (List (Nat×Ent))
abbrev Kt:=SV->Hp->Nat->Prop
structure TI where
 d:TypeDesc
 size:Nat
 bytes:Nat
 zero:List SA
def aggD:TypeDesc->Bool
 |.struct _=>true
 |.array _ _=>true
 |_=>false
def zval(ρ:Rho)(i:TI):Value:=
 match aggD i.d with
 |true=>.agg (i.zero.map (SA.den ρ)).toArray
 |false=>(i.zero.headD .nilptr).den ρ
structure TI.ok(P:Program)(t:TypeId)(i:TI):Prop where
 und:P.underlying t=some i.d
 inf:∃f,P.info? t=some f/\f.size=i.size/\f.bytes=i.bytes/\∀ρ,f.zero=some (zval ρ i)
 len:i.zero.length=i.size
 bel:∀a∈i.zero,a.below 0
 one:aggD i.d=false->i.size=1
abbrev Tys:=TypeId->Option TI
def Tys.Ok(P:Program)(Θ:Tys):Prop:=∀t i,Θ t=some i->TI.ok P t i
def nth{α:Type}:List α->Nat->Option α
 |[],_=>none
 |x::_,0=>some x
 |_::r,n+1=>nth r n
theorem fO{α:Type}:∀(l:List α) (n:Nat),nth l n=l[n]?
 |[],n=>by simp[nth]
 |x::r,0=>by simp[nth]
 |x::r,n+1=>by simp[nth,fO r n]
def svA:Value->Option SA
 |.int k n=>some (.int k n)
 |.bool b=>some (.lit b)
 |.string s=>some (.str s.data.toList)
 |.pointer none=>some .nilptr
 |.slice none 0 0=>some .nilsl
 |.map none=>some .nilmap
 |.nilFunc=>some .nilfn
 |.nilIface=>some .nilif
 |.iface t v=>some (.ifc t v)
 |_=>none
def svAs:List Value->Option (List SA)
 |[]=>some []
 |v::r=>match svA v with
  |some a=>match svAs r with
   |some l=>some (a::l)
   |none=>none
  |none=>none
def svOf:Value->SV
 |.agg cs=>match svAs cs.toList with
  |some l=>.agg l
  |none=>.junk
 |.tuple ⟨[]⟩=>.tup []
 |v=>match svA v with
  |some a=>.va a
  |none=>.junk
theorem qY{ρ:Rho}{v:Value}{a:SA}(h:svA v=some a):v=a.den ρ/\a.below 0:=by
 unfold svA at h;split at h<;>cases h<;>simp[SA.den,SA.below]
theorem xM{ρ:Rho}:∀{vs:List Value} {l:List SA},svAs vs=some l->vs=l.map (SA.den ρ)/\∀a∈l,a.below 0
 |[],l,h=>by simp[svAs]at h;subst h;simp
 |v::r,l,h=>by
  simp only[svAs]at h;split at h
  ·rename_i a e;split at h
   ·rename_i g f;cases h
    obtain⟨h1,b⟩:=qY (ρ:=ρ) e;obtain⟨c,d⟩:=xM (ρ:=ρ) f;refine⟨by simp[h1,c],?_⟩;intro x hx;rcases qi.1 hx with rfl | hx
    ·exact b
    ·exact d x hx
   ·cases h
  ·cases h
theorem xN(ρ:Rho)(v:Value):(svOf v).rel ρ v/\(svOf v).below 0:=by
 unfold svOf;split
 ·rename_i e;split
  ·rename_i l d;obtain⟨h1,b⟩:=xM (ρ:=ρ) d;refine⟨?_,b⟩;simp only[SV.rel];rw[<-h1]
  ·exact⟨tv,tv⟩
 ·exact⟨rfl,by simp[SV.below]⟩
 ·split
  ·rename_i a c;obtain⟨h1,b⟩:=qY (ρ:=ρ) c;exact⟨h1,b⟩
  ·exact⟨tv,tv⟩
def ev(t:List (List (Nat×SV))):Operand->SV
 |.tmp n=>match lget t n with
  |some s=>s
  |none=>.junk
 |.const v=>svOf v
 |.global g=>.va (.glob g)
 |.func f=>.va (.fn (.func f) [])
theorem aU{C:Ctx}{ρ:Rho}{b:St}{a:Act}{w:World}(d:Den C ρ b a w)(x:Operand):(ev b.t x).rel ρ (a.eval x)/\(ev b.t x).below b.nx:=by
 cases x with
 |tmp n=>
  simp only[ev];split
  ·rename_i s c;obtain⟨v,h,e⟩:=d.tm n s c;refine⟨?_,d.tw n s c⟩;have:a.eval (.tmp n)=v:=by simp[Act.eval,h]
   rw[this];exact e
  ·exact⟨tv,tv⟩
 |const v=>exact⟨(xN ρ v).1,SV.below_mono (js _) (xN ρ v).2⟩
 |global g=>exact⟨rfl,tv⟩
 |func f=>exact⟨rfl,by simp[ev,SV.below,SA.below]⟩
def Yld(P:Program)(s:Sem Value)(C:Ctx)(ρ:Rho)(nx:Nat)(w:World)(K:Kt):Prop:=
 ∃v d sv c a b,s.run P w=.ok v d/\sv.rel b v/\sv.below a/\K sv c a/\Sat C b c a d/\(∀i,i < nx->b i=ρ i)/\nx<=a
theorem Yld.same{P:Program}{s:Sem Value}{C:Ctx}{ρ:Rho}{h:Hp}{nx:Nat}{w:World}{K:Kt}(b:Sat C ρ h nx w)(v:Value)(sv:SV)(a:s.run P w=.ok v w)(d:sv.rel ρ v)(hb:sv.below nx)
  (c:K sv h nx):Yld P s C ρ nx w K:=
 ⟨v,w,sv,h,nx,ρ,a,d,hb,c,b,fun _ _=>rfl,qj _⟩
def YldS(P:Program)(s:Sem Value)(ρ:Rho)(h:Hp)(nx:Nat)(w:World)(K:Kt):Prop:=
 ∃v sv,s.run P w=.ok v w/\sv.rel ρ v/\sv.below nx/\K sv h nx
theorem YldS.mk{P:Program}{s:Sem Value}{C:Ctx}{ρ:Rho}{h:Hp}{nx:Nat}{w:World}{K:Kt}(_sat:Sat C ρ h nx w)(v:Value)(sv:SV)(a:s.run P w=.ok v w)(c:sv.rel ρ v)(hb:sv.below nx)
  (b:K sv h nx):YldS P s ρ h nx w K:=⟨v,sv,a,c,hb,b⟩
theorem YldS.yld{P:Program}{s:Sem Value}{C:Ctx}{ρ:Rho}{h:Hp}{nx:Nat}{w:World}{K:Kt}(y:YldS P s ρ h nx w K)(a:Sat C ρ h nx w):Yld P s C ρ nx w K:=by
 obtain⟨v,sv,h1,b,c,d⟩:=y;exact Yld.same a v sv h1 b c d
section
variable {P:Program} {Θ:Tys} {C:Ctx} {ρ:Rho} {h:Hp} {nx:Nat} {w:World} {K:Kt}
theorem aY{t:TypeId}{i:TI}(hΘ:Θ.Ok P)(a:Θ t=some i)(w:World):(underlying t).run P w=.ok i.d w:=run_underlying (hΘ t i a).und w
theorem na{t:TypeId}{i:TI}(hΘ:Θ.Ok P)(a:Θ t=some i)(w:World):(isAgg t).run P w=.ok (aggD i.d) w:=by
 unfold isAgg;rw[Sem.run_bind,aY hΘ a];cases i.d<;>rfl
theorem dy{t:TypeId}{i:TI}(hΘ:Θ.Ok P)(b:Θ t=some i)(w:World):(Go.sizeOf t).run P w=.ok i.size w:=by
 obtain⟨f,h1,a,_,_⟩:=(hΘ t i b).inf;simp[Go.sizeOf,typeInfo,h1,a]
theorem iI{t:TypeId}{i:TI}(hΘ:Θ.Ok P)(b:Θ t=some i)(w:World)(ρ:Rho):(zeroValue t).run P w=.ok (zval ρ i) w:=by
 obtain⟨f,h1,_,_,a⟩:=(hΘ t i b).inf;simp[zeroValue,typeInfo,h1,a ρ]
theorem jW{t:TypeId}{i:TI}(b:TI.ok P t i)(ρ:Rho):(zval ρ i).cells=(i.zero.map (SA.den ρ)).toArray:=by
 unfold zval;cases e:aggD i.d with
 |true=>rfl
 |false=>
  have h1:=b.one e;have c:=b.len;rw[h1]at c
  match f:i.zero,c with
  |[a],_=>cases a<;>rfl
def cellsOf:SV->Option (List SA)
 |.va a=>some [a]
 |.agg l=>some l
 |_=>none
theorem ox{ρ:Rho}{s:SV}{l:List SA}{v:Value}(b:cellsOf s=some l)(c:s.rel ρ v):v.cells=(l.map (SA.den ρ)).toArray:=by
 cases s with
 |va a=>simp[cellsOf]at b;subst b;simp only[SV.rel]at c;subst c;cases a<;>rfl
 |agg l'=>simp[cellsOf]at b;subst b;simp only[SV.rel]at c;subst c;rfl
 |tup l=>simp[cellsOf]at b
 |junk=>simp[cellsOf]at b
theorem oq{n:Nat}{s:SV}{l:List SA}(b:cellsOf s=some l)(hb:s.below n):∀a∈l,a.below n:=by
 cases s with
 |va a=>simp[cellsOf]at b;subst b;intro x c;simp at c;subst c;exact hb
 |agg l'=>simp[cellsOf]at b;subst b;exact hb
 |tup l=>simp[cellsOf]at b
 |junk=>simp[cellsOf]at b
def pnew(nx:Nat):SV:=.va (.ptr ⟨nx,0,0,0,0⟩)
theorem sQ(c:Sat C ρ h nx w)(t:TypeId)(l:List SA)(d:Array Value)(g:d=(l.map (SA.den ρ)).toArray)(hb:∀a∈l,a.below nx)(s:Sem Value)
  (b:s.run P w=.ok (.pointer (some ⟨w.heap.size,0,none⟩)) (w.alloc (.cells d t (0,0))))
  (f:K (pnew nx) (lput h nx (.one (.cells t l))) (nx+1)):Yld P s C ρ nx w K:=by
 refine⟨_,_,_,_,_,rext ρ nx w.heap.size,b,?_,?_,f,c.new (.cells t l) _ hb ⟨(0,0),NoFr.zero _,by rw[g]⟩,fun i e=>eK e,qac _⟩
 ·simp[SV.rel,pnew,SA.den,Pl.addr,dg]
 ·simp[SV.below,pnew,SA.below]
def qH(Θ:Tys)(t:TypeId)(h:Hp)(nx:Nat)(K:Kt):Prop:=
 match Θ t with
 |some i=>K (pnew nx) (lput h nx (.one (.cells t i.zero))) (nx+1)
 |none=>False
theorem EJ(hΘ:Θ.Ok P){t:TypeId}(b:qH Θ t h nx K)(d:Sat C ρ h nx w):Yld P (Instr.alloc t true (.tuple #[])) C ρ nx w K:=by
 unfold qH at b;split at b
 ·rename_i i c;refine sQ d t i.zero _ rfl (fun a e=>SA.below_mono (js _) ((hΘ t i c).bel a e)) _ ?_ b;simp[Instr.alloc,iI hΘ c w ρ,newVar,newRow,jW (hΘ t i c) ρ]
 ·exact b.elim
def s_box(t:TypeId)(x:SV)(h:Hp)(nx:Nat)(K:Kt):Prop:=
 match cellsOf x with
 |some l=>K (pnew nx) (lput h nx (.one (.cells t l))) (nx+1)
 |none=>False
theorem yax{t:TypeId}{x:SV}{v:Value}(a:s_box t x h nx K)(b:Sat C ρ h nx w)(d:x.rel ρ v)(hb:x.below nx):Yld P (Instr.box t v) C ρ nx w K:=by
 unfold s_box at a;split at a
 ·rename_i l c;refine sQ b t l _ rfl (oq c hb) _ ?_ a;simp[Instr.box,newVar,newRow,ox c d]
 ·exact a.elim
def eL(Θ:Tys)(t:TypeId)(x:SV)(h:Hp)(nx:Nat)(K:Kt):Prop:=
 match Θ t,x with
 |some i,.va (.ptr p)=>rd h p i.size fun b=>match aggD i.d with
  |true=>K (.agg b) h nx
  |false=>match b with
   |[a]=>K (.va a) h nx
   |_=>False
 |_,_=>False
theorem addr_add(b o n:Nat):(⟨b,o,none⟩:Addr).add n=⟨b,o+n,none⟩:=by unfold Addr.add;split<;>simp_all
theorem oC(hΘ:Θ.Ok P){t:TypeId}{x:SV}{v:Value}(m:eL Θ t x h nx K)(s:Sat C ρ h nx w)(A:x.rel ρ v):∃u sv,(Instr.loadAt t v).run P w=.ok u w/\sv.rel ρ u/\sv.below nx/\K sv h nx:=by
 unfold eL at m;split at m
 ·rename_i i p q;simp only[SV.rel,SA.den]at A;subst A;obtain⟨l,f,g,d,t',I,D,c,b⟩:=px m s
  have y:(loadCells ⟨ρ p.i p.k,p.e*p.sz+p.o,none⟩ (l.map (SA.den ρ)).length).run P w=.ok (l.map (SA.den ρ)).toArray w:=
   run_loadCells_list (P:=P) w _ _ (fun j u B=>by
    rw[addr_add,c.cell,<-b];have G:j < (l.map (SA.den ρ)).length:=(qh.1 B).1;rw[ql,jq oo,qar,jj G];exact B)
  split at f
  ·rename_i n;refine⟨.agg (l.map (SA.den ρ)).toArray,.agg l,?_,rfl,d,f⟩;simp only[qa,g]at y;simp[Instr.loadAt,Instr.sureAddr,Pl.addr,loadVar,na hΘ q,n,dy hΘ q,y]
  ·rename_i n;split at f
   ·rename_i a;refine⟨a.den ρ,.va a,?_,rfl,d a ss,f⟩
    have E:w.cell? ⟨ρ p.i p.k,p.e*p.sz+p.o,none⟩=some (a.den ρ):=by
     rw[c.cell,<-b];simp
    simp[Instr.loadAt,Instr.sureAddr,Pl.addr,loadVar,na hΘ q,n,E]
   ·exact f.elim
 ·exact m.elim
theorem AW(hΘ:Θ.Ok P){t:TypeId}{x:SV}{v:Value}(f:eL Θ t x h nx K)(a:Sat C ρ h nx w)(e:x.rel ρ v):Yld P (Instr.loadAt t v) C ρ nx w K:=by
 obtain⟨u,sv,h1,b,c,d⟩:=oC hΘ f a e;exact Yld.same a u sv h1 b c d
def kJ(Θ:Tys)(t:TypeId)(x y:SV)(h:Hp)(nx:Nat)(K:Kt):Prop:=
 match Θ t,x,cellsOf y with
 |some i,.va (.ptr p),some vs=>match Nat.beq vs.length i.size with
  |true=>wr h p vs fun a=>K (.tup []) a nx
  |false=>False
 |_,_,_=>False
theorem oN(hΘ:Θ.Ok P){t:TypeId}{x y:SV}{v u:Value}(j:kJ Θ t x y h nx K)(D:Sat C ρ h nx w)(E:x.rel ρ v)(B:y.rel ρ u)(hb:y.below nx):
  ∃G A,(Instr.storeAt t v u).run P w=.ok () G/\K (.tup []) A nx/\Sat C ρ A nx G:=by
 unfold kJ at j;split at j
 ·rename_i i p vs L s;split at j
  ·rename_i b;have b:=qm b;simp only[SV.rel,SA.den]at E;subst E;obtain⟨A,t',g,old,c,M,m,f,l,n⟩:=yN j D (oq s hb)
   have q:=jE (P:=P) (ρ p.i p.k) (p.e*p.sz+p.o) t' (vs.map (SA.den ρ)) 0 _ w m (by simp;omega) (by
    intro z O;obtain⟨a,_,rfl⟩:=jk.1 O;exact SA.one ρ a)
   refine⟨_,A,?_,M,n⟩;have d:=ox s B;have I:List.take (p.e*p.sz+p.o+0) (g++old++c)=g:=by rw[qau,<-f];simp
   have J:List.drop (p.e*p.sz+p.o+0+(vs.map (SA.den ρ)).length) (g++old++c)=c:=by
    rw[qau,<-f,qa,<-l];simp
   rw[I,J]at q;simp[Instr.storeAt,Instr.sureAddr,Pl.addr,storeVar,dy hΘ L,d,b,q]
  ·exact j.elim
 ·exact j.elim
end
section
variable {P:Program} {Θ:Tys} {C:Ctx} {ρ:Rho} {h:Hp} {nx:Nat} {w:World} {K:Kt}
def gH(Θ:Tys)(t:TypeId)(x:SV)(f:Nat)(h:Hp)(nx:Nat)(K:Kt):Prop:=
 match Θ t,x with
 |some ⟨.struct fields,_,_,_⟩,.va (.ptr p)=>match nth fields.toList f with
  |some fl=>match Θ fl.type with
   |some j=>match j.size with
    |0=>False
    |_+1=>K (.va (.ptr ⟨p.i,p.k,p.e,p.sz,p.o+fl.offset⟩)) h nx
   |none=>False
  |none=>False
 |_,_=>False
theorem sT(hΘ:Θ.Ok P){t:TypeId}{x:SV}{v:Value}{f:Nat}(d:gH Θ t x f h nx K)(q:Sat C ρ h nx w)(u:x.rel ρ v)(hb:x.below nx):
  YldS P (Instr.fieldAt t v f) ρ h nx w K:=by
 unfold gH at d;split at d
 ·rename_i g a b c p y;split at d
  ·rename_i l s;split at d
   ·rename_i j A;split at d
    ·exact d.elim
    ·rename_i m B;simp only[SV.rel,SA.den]at u;subst u;have n:g[f]? =some l:=by rw[fO]at s;simpa using s
     refine YldS.mk q (.pointer (some (⟨ρ p.i p.k,p.e*p.sz+(p.o+l.offset),none⟩))) (.va (.ptr ⟨p.i,p.k,p.e,p.sz,p.o+l.offset⟩)) ?_ (by simp[SV.rel,SA.den,Pl.addr]) (show p.i < nx from hb) d;simp[Instr.fieldAt,aY hΘ y,n,Instr.sureAddr,Pl.addr,fieldPlace,dy hΘ A,B,addr_add,qbs]
   ·exact d.elim
  ·exact d.elim
 ·exact d.elim
def hU(Θ:Tys)(t:TypeId)(x:SV)(f:Nat)(h:Hp)(nx:Nat)(K:Kt):Prop:=
 match Θ t,x with
 |some ⟨.struct fields,_,_,_⟩,.agg l=>match nth fields.toList f with
  |some fl=>match Θ fl.type with
   |some j=>match dm l fl.offset j.size with
    |some xs=>match aggD j.d with
     |true=>K (.agg xs) h nx
     |false=>match xs with
      |[a]=>K (.va a) h nx
      |_=>False
    |none=>False
   |none=>False
  |none=>False
 |_,_=>False
theorem yC(hΘ:Θ.Ok P){t:TypeId}{j:TI}(e:Θ t=some j)(l:List SA)(b:Nat)(f:List SA)(n:dm l b j.size=some f)(w:World):
  (aggD j.d=true->(part t (l.map (SA.den ρ)).toArray b).run P w=.ok (.agg (f.map (SA.den ρ)).toArray) w)/\
  (aggD j.d=false->∀a,f=[a]->(part t (l.map (SA.den ρ)).toArray b).run P w=.ok (a.den ρ) w):=by
 obtain⟨o,i,h1,g,k⟩:=gJ _ _ _ _ n;constructor
 ·intro c;simp only[part,Sem.run_bind,na hΘ e,c,Result.andThen_ok,if_true,dy hΘ e,Sem.run_pure]
  congr 2
  rw[h1];simp[<-g,<-k]
 ·intro c a m;subst m;have:(l.map (SA.den ρ)).toArray[b]? =some (a.den ρ):=by rw[h1];simp[<-g]
  simp only[part,Sem.run_bind,na hΘ e,c,Result.andThen_ok,jx,if_false,this,Sem.run_pure]
theorem uM(hΘ:Θ.Ok P){t:TypeId}{x:SV}{v:Value}{f:Nat}(d:hU Θ t x f h nx K)(k:Sat C ρ h nx w)(s:x.rel ρ v)(hb:x.below nx):
  YldS P (Instr.field t v f) ρ h nx w K:=by
 unfold hU at d;split at d
 ·rename_i e a b c l q;split at d
  ·rename_i o p;split at d
   ·rename_i j E;split at d
    ·rename_i n u;simp only[SV.rel]at s;subst s;have i:e[f]? =some o:=by rw[fO]at p;simpa using p
     obtain⟨G,y,h1,A,B⟩:=gJ _ _ _ _ u;have g:∀a∈n,a.below nx:=fun a D=>hb a (by rw[h1];simp[D])
     obtain⟨I,J⟩:=yC (ρ:=ρ) hΘ E l o.offset n u w;split at d
     ·rename_i m;refine YldS.mk k _ (.agg n) ?_ rfl g d;simp[Instr.field,aY hΘ q,i,asAgg,I m]
     ·rename_i m;split at d
      ·rename_i a;refine YldS.mk k _ (.va a) ?_ rfl (g a ss) d;simp[Instr.field,aY hΘ q,i,asAgg,J m a rfl]
      ·exact d.elim
    ·exact d.elim
   ·exact d.elim
  ·exact d.elim
 ·exact d.elim
def gI(Θ:Tys)(t:TypeId)(x y:SV)(h:Hp)(nx:Nat)(K:Kt):Prop:=
 match Θ t,x,y with
 |some ⟨.array n elem,_,_,_⟩,.va (.ptr p),.va (.int _ z)=>match Θ elem with
  |some j=>(0<=z/\z < (n:Int))/\(match p.sz with
   |0=>K (.va (.ptr ⟨p.i,p.k,z.toNat,j.size,p.o⟩)) h nx
   |_+1=>K (.va (.ptr ⟨p.i,p.k,p.e,p.sz,p.o+z.toNat*j.size⟩)) h nx)
  |none=>False
 |some ⟨.slice elem,_,_,_⟩,.va (.slice nil i k e sz a _),.va (.int _ z)=>match Θ elem with
  |some j=>match Nat.beq sz j.size with
   |true=>nil=false/\(0<=z/\z < (a:Int))/\K (.va (.ptr ⟨i,k,e+z.toNat,sz,0⟩)) h nx
   |false=>match Nat.beq sz 1 with
    |true=>nil=false/\(0<=z/\z < (a:Int))/\K (.va (.ptr ⟨i,k,e+z.toNat*j.size,1,0⟩)) h nx
    |false=>False
  |none=>False
 |_,_,_=>False
theorem sU(hΘ:Θ.Ok P){t:TypeId}{x y:SV}{v u:Value}(d:gI Θ t x y h nx K)(l:Sat C ρ h nx w)(m:x.rel ρ v)(g:y.rel ρ u)(hb:x.below nx):
  YldS P (Instr.indexAt t v u) ρ h nx w K:=by
 unfold gI at d;split at d
 ·rename_i n q a b c p G z B;split at d
  ·rename_i j D;obtain⟨s,d⟩:=d;simp only[SV.rel,SA.den]at m g;subst m;subst g
   have A:(Instr.indexAt t (.pointer (some (p.addr ρ))) (.int G z)).run P w=.ok (.pointer (some ⟨ρ p.i p.k,p.e*p.sz+p.o+z.toNat*j.size,none⟩)) w:=by
    simp[Instr.indexAt,asIntOf,aY hΘ B,Instr.sureAddr,s,dy hΘ D,Pl.addr,addr_add]
   split at d
   ·rename_i f;refine YldS.mk l _ (.va (.ptr ⟨p.i,p.k,z.toNat,j.size,p.o⟩)) A ?_ (show p.i < nx from hb) d;simp[SV.rel,SA.den,Pl.addr,f,qb5]
   ·refine YldS.mk l _ (.va (.ptr ⟨p.i,p.k,p.e,p.sz,p.o+z.toNat*j.size⟩)) A ?_ (show p.i < nx from hb) d;simp[SV.rel,SA.den,Pl.addr,qbs]
  ·exact d.elim
 ·rename_i q a b c nil i k e sz I cap G z B;split at d
  ·rename_i j D;split at d
   ·rename_i f;have f:=qm f;obtain⟨E,s,d⟩:=d;subst E;simp only[SV.rel,SA.den,jx,if_false]at m g;subst m;subst g;refine YldS.mk l (.pointer (some ⟨ρ i k,e*sz+z.toNat*j.size,none⟩)) (.va (.ptr ⟨i,k,e+z.toNat,sz,0⟩)) ?_ ?_ ?_ d
    ·simp[Instr.indexAt,asIntOf,aY hΘ B,s,dy hΘ D,addr_add]
    ·simp[SV.rel,SA.den,Pl.addr,f,qb1]
    ·simpa[SV.below,SA.below]using hb
   ·split at d
    ·rename_i f;have f:=qm f;obtain⟨E,s,d⟩:=d;subst E;subst f;simp only[SV.rel,SA.den,jx,if_false]at m g;subst m;subst g;refine YldS.mk l (.pointer (some ⟨ρ i k,e*1+z.toNat*j.size,none⟩)) (.va (.ptr ⟨i,k,e+z.toNat*j.size,1,0⟩)) ?_ ?_ ?_ d
     ·simp[Instr.indexAt,asIntOf,aY hΘ B,s,dy hΘ D,addr_add]
     ·simp[SV.rel,SA.den,Pl.addr]
     ·simpa[SV.below,SA.below]using hb
    ·exact d.elim
  ·exact d.elim
 ·exact d.elim
def ic(Θ:Tys)(t:TypeId)(x y:SV)(h:Hp)(nx:Nat)(K:Kt):Prop:=
 match Θ t,x,y with
 |some ⟨.string,_,_,_⟩,.va (.str s),.va (.int _ z)=>0<=z/\∃b,s[z.toNat]? =some b/\K (.va (.int .u8 b.toNat)) h nx
 |some ⟨.array n elem,_,_,_⟩,.agg l,.va (.int _ z)=>match Θ elem with
  |some j=>(0<=z/\z < (n:Int))/\∃c,dm l (z.toNat*j.size) j.size=some c/\(match aggD j.d with
   |true=>K (.agg c) h nx
   |false=>match c with
    |[a]=>K (.va a) h nx
    |_=>False)
  |none=>False
 |_,_,_=>False
theorem oQ{α:Type}:∀{l:List α} {i:Nat} {a:α},l[i]? =some a->dm l (i*1) 1=some [a]
 |[],i,a,h=>by simp at h
 |x::r,0,a,h=>by simp at h;subst h;rfl
 |x::r,i+1,a,h=>by
  have:=oQ (l:=r) (i:=i) (a:=a) (by simpa using h);rw[qda]at this ⊢;exact this
theorem uN(hΘ:Θ.Ok P){t:TypeId}{x y:SV}{v u:Value}(d:ic Θ t x y h nx K)(f:Sat C ρ h nx w)(m:x.rel ρ v)(e:y.rel ρ u)(hb:x.below nx):
  YldS P (Instr.index t v u) ρ h nx w K:=by
 unfold ic at d;split at d
 ·rename_i a b c s M z k;obtain⟨p,b,g,d⟩:=d;simp only[SV.rel,SA.den]at m e;subst m;subst e;refine YldS.mk f (.int .u8 b.toNat) (.va (.int .u8 b.toNat)) ?_ rfl trivial d
  have o:(⟨s.toArray⟩:ByteArray)[z.toNat]? =some b:=by
   have B:=(qh.1 g).1;have S:=(qh.1 g).2;rw[getElem?_pos (⟨s.toArray⟩:ByteArray) z.toNat (by simpa[ByteArray.size]using B)]
   congr 1
  simp[Instr.index,asIntOf,aY hΘ k,p,o]
 ·rename_i n E a b c l M z k;split at d
  ·rename_i j A;obtain⟨p,D,o,d⟩:=d;simp only[SV.rel,SA.den]at m e;subst m;subst e;obtain⟨O,G,h1,I,J⟩:=gJ _ _ _ _ o;have i:∀a∈D,a.below nx:=fun a L=>hb a (by rw[h1];simp[L])
   obtain⟨Q,R⟩:=yC (ρ:=ρ) hΘ A l _ D o w;split at d
   ·rename_i q;refine YldS.mk f _ (.agg D) ?_ rfl i d;simp[Instr.index,asIntOf,aY hΘ k,p,dy hΘ A,Q q]
   ·rename_i q;split at d
    ·rename_i a;refine YldS.mk f _ (.va a) ?_ rfl (i a ss) d;simp[Instr.index,asIntOf,aY hΘ k,p,dy hΘ A,R q a rfl]
    ·exact d.elim
  ·exact d.elim
 ·exact d.elim
def opInt:Option SV->Option (Option Int)
 |none=>some none
 |some (.va (.int _ z))=>some (some z)
 |_=>none
def bnds(a cap:Nat)(b c:Option Int)(K:Nat->Nat->Prop):Prop:=
 match c with
 |none=>match b with
  |none=>K 0 a
  |some l=>(0<=l/\l<=(a:Int))/\K l.toNat a
 |some z=>(0<=z/\z<=(cap:Int))/\(match b with
  |none=>K 0 z.toNat
  |some l=>(0<=l/\l<=z)/\K l.toNat z.toNat)
def relO(ρ:Rho):Option SV->Option Value->Prop
 |none,none=>True
 |some s,some v=>s.rel ρ v
 |_,_=>False
theorem g8{isS:Bool}{b cap:Nat}{j g:Option SV}{e d:Option Value}{m f:Option Int}{K:Nat->Nat->Prop}(c:opInt j=some m)(hh:opInt g=some f)(o:relO ρ j e)(n:relO ρ g d)
  (hb:bnds b cap m f K)(w:World):∃l hh,K l hh/\l<=hh/\(hh<=cap\/(f=none/\hh=b))/\(Instr.sliceBounds isS b cap e d none).run P w=.ok (l,hh,cap) w:=by
 have u:(j=none/\e=none/\m=none)\/∃k z,j=some (.va (.int k z))/\e=some (.int k z)/\m=some z:=by
  cases j with
  |none=>cases e with
   |none=>left;simp[opInt]at c;simp[c]
   |some v=>exact o.elim
  |some s=>cases e with
   |none=>cases s<;>exact o.elim
   |some v=>
    right;cases s with
    |va a=>cases a<;>simp[opInt]at c<;>(simp only[relO,SV.rel,SA.den]at o;subst o;exact⟨_,_,rfl,rfl,c.symm⟩)
    |agg l=>simp[opInt]at c
    |tup l=>simp[opInt]at c
    |junk=>simp[opInt]at c
 have q:(g=none/\d=none/\f=none)\/∃k z,g=some (.va (.int k z))/\d=some (.int k z)/\f=some z:=by
  cases g with
  |none=>cases d with
   |none=>left;simp[opInt]at hh;simp[hh]
   |some v=>exact n.elim
  |some s=>cases d with
   |none=>cases s<;>exact n.elim
   |some v=>
    right;cases s with
    |va a=>cases a<;>simp[opInt]at hh<;>(simp only[relO,SV.rel,SA.den]at n;subst n;exact⟨_,_,rfl,rfl,hh.symm⟩)
    |agg l=>simp[opInt]at hh
    |tup l=>simp[opInt]at hh
    |junk=>simp[opInt]at hh
 rcases u with⟨-,rfl,rfl⟩ | ⟨D,p,-,rfl,rfl⟩<;>rcases q with⟨-,rfl,rfl⟩ | ⟨B,y,-,rfl,rfl⟩<;>simp only[bnds]at hb
 ·exact⟨0,b,hb,by omega,.inr ⟨rfl,rfl⟩,by simp[Instr.sliceBounds]⟩
 ·obtain⟨i,hb⟩:=hb;exact⟨0,y.toNat,hb,by omega,.inl oo,by simp[Instr.sliceBounds,Instr.sliceBound,asIntOf,i]⟩
 ·obtain⟨i,hb⟩:=hb;exact⟨p.toNat,b,hb,by omega,.inr ⟨rfl,rfl⟩,by simp[Instr.sliceBounds,Instr.sliceBound,asIntOf,i]⟩
 ·obtain⟨i,x,hb⟩:=hb;refine⟨p.toNat,y.toNat,hb,by omega,.inl oo,?_⟩;have A:0<=p/\p<=(y.toNat:Int):=⟨x.1,by omega⟩
  simp only[Instr.sliceBounds,Instr.sliceBound,asIntOf,Sem.run_bind,Sem.run_pure,Result.andThen_ok,if_pos i,if_pos A]
def ie(Θ:Tys)(t:TypeId)(x:SV)(c b mx:Option SV)(h:Hp)(nx:Nat)(K:Kt):Prop:=
 match mx with
 |some _=>False
 |none=>match opInt c,opInt b with
  |some l',some h'=>match Θ t,x with
   |some ⟨.string,_,_,_⟩,.va (.str s)=>bnds s.length s.length l' h' fun l m=>K (.va (.str ((s.take m).drop l))) h nx
   |some ⟨.slice elem,_,_,_⟩,.va (.slice nil i k e sz len cap)=>match Θ elem with
    |some j=>match Nat.beq sz j.size with
     |true=>bnds len cap l' h' fun l m=>K (.va (.slice nil i k (if cap=l then e else e+l) sz (m - l) (cap - l))) h nx
     |false=>match Nat.beq sz 1 with
      |true=>bnds len cap l' h' fun l m=>K (.va (.slice nil i k (if cap=l then e else e+l*j.size) sz (m - l) (cap - l))) h nx
      |false=>match nil with
       |true=>bnds len cap l' h' fun l m=>K (.va (.slice nil i k e sz (m - l) (cap - l))) h nx
       |false=>False
    |none=>False
   |some ⟨.slice elem,_,_,_⟩,.va .nilsl=>(match Θ elem with
    |some _=>bnds 0 0 l' h' fun _ _=>K (.va .nilsl) h nx
    |none=>False)
   |some ⟨.pointer arr,_,_,_⟩,.va (.ptr p)=>(match Θ arr with
    |some ⟨.array n elem,_,_,_⟩=>(match Θ elem with
     |some j=>bnds n n l' h' fun l m=>K (.va (.slice false p.i p.k (if n=l then p.e*p.sz+p.o else p.e*p.sz+p.o+l*j.size) 1 (m - l) (n - l))) h nx
     |none=>False)
    |_=>False)
   |some ⟨.array n elem,_,_,_⟩,.va (.ptr p)=>(match Θ elem with
    |some j=>bnds n n l' h' fun l m=>K (.va (.slice false p.i p.k (if n=l then p.e*p.sz+p.o else p.e*p.sz+p.o+l*j.size) 1 (m - l) (n - l))) h nx
    |none=>False)
   |_,_=>False
  |_,_=>False
theorem DE(s:List UInt8)(l m:Nat):(⟨s.toArray⟩:ByteArray).extract l m=⟨((s.take m).drop l).toArray⟩:=by
 apply ByteArray.ext;simp[ByteArray.data_extract,List.drop_take]
theorem uO(hΘ:Θ.Ok P){t:TypeId}{x:SV}{v:Value}{T S mx:Option SV}{V U O:Option Value}(f:ie Θ t x T S mx h nx K)(A:Sat C ρ h nx w)(G:x.rel ρ v)
  (M:relO ρ T V)(L:relO ρ S U)(rm:relO ρ mx O)(hb:x.below nx):YldS P (Instr.sliceAt t v V U O) ρ h nx w K:=by
 unfold ie at f;split at f
 ·exact f.elim
 ·have R:O=none:=by cases O with
   |none=>rfl
   |some v=>exact rm.elim
  subst R;split at f
  ·rename_i l' h' y u;split at f
   ·rename_i a b c s g;simp only[SV.rel,SA.den]at G;subst G;obtain⟨l,m,B,D,o,d⟩:=g8 (P:=P) (isS:=false) y u M L f w;refine YldS.mk A (.string ⟨((s.take m).drop l).toArray⟩) (.va (.str ((s.take m).drop l))) ?_ rfl trivial B;have q:(⟨s.toArray⟩:ByteArray).size=s.length:=by simp[ByteArray.size]
    simp[Instr.sliceAt,aY hΘ g,Instr.slice,q,d,DE]
   ·rename_i E a b c nil i k e sz Z cap g;simp only[SV.rel,SA.den]at G;subst G;split at f
    ·rename_i j I;split at f
     ·rename_i q;have q:=qm q;obtain⟨l,m,B,D,o,d⟩:=g8 (P:=P) (isS:=true) y u M L f w;refine YldS.mk A (.slice (if cap=l then(if nil=true then none else some ⟨ρ i k,e*sz,none⟩)else(if nil=true then none else some (⟨ρ i k,e*sz,none⟩:Addr)).map (·.add (l*j.size))) (m - l) (cap - l)) _ ?_ ?_ ?_ B
      ·simp[Instr.sliceAt,aY hΘ g,Instr.slice,d,dy hΘ I]
      ·simp only[SV.rel,SA.den];cases nil<;>by_cases J:cap=l<;>simp[J,addr_add,q,qb1]
      ·exact hb
     ·split at f
      ·rename_i q;have q:=qm q;subst q;obtain⟨l,m,B,D,o,d⟩:=g8 (P:=P) (isS:=true) y u M L f w;refine YldS.mk A (.slice (if cap=l then(if nil=true then none else some ⟨ρ i k,e*1,none⟩)else(if nil=true then none else some (⟨ρ i k,e*1,none⟩:Addr)).map (·.add (l*j.size))) (m - l) (cap - l)) _ ?_ ?_ ?_ B
       ·simp[Instr.sliceAt,aY hΘ g,Instr.slice,d,dy hΘ I]
       ·simp only[SV.rel,SA.den];cases nil<;>by_cases J:cap=l<;>simp[J,addr_add]
       ·exact hb
      ·split at f
       ·obtain⟨l,m,B,D,o,d⟩:=g8 (P:=P) (isS:=true) y u M L f w;refine YldS.mk A (.slice none (m - l) (cap - l)) (.va (.slice true i k e sz (m - l) (cap - l))) ?_ (by simp[SV.rel,SA.den]) (.inl rfl) B;simp[Instr.sliceAt,aY hΘ g,Instr.slice,d,dy hΘ I]
       ·exact f.elim
    ·exact f.elim
   ·rename_i E a b c g;simp only[SV.rel,SA.den]at G;subst G;split at f
    ·rename_i j I;obtain⟨l,m,B,D,o,d⟩:=g8 (P:=P) (isS:=true) y u M L f w;have Y:m=0:=by omega
     have Q:l=0:=by omega
     subst Y;subst Q;refine YldS.mk A (.slice none 0 0) (.va .nilsl) ?_ rfl trivial B;simp[Instr.sliceAt,aY hΘ g,Instr.slice,d,dy hΘ I]
    ·exact f.elim
   ·rename_i W a b c p g;simp only[SV.rel,SA.den]at G;subst G;split at f
    ·rename_i n E a2 b2 c2 X;split at f
     ·rename_i j I;obtain⟨l,m,B,D,o,d⟩:=g8 (P:=P) (isS:=false) y u M L f w;refine YldS.mk A (.slice (some (if n=l then p.addr ρ else(p.addr ρ).add (l*j.size))) (m - l) (n - l)) _ ?_ ?_ ?_ B
      ·simp[Instr.sliceAt,aY hΘ g,aY hΘ X,Instr.slice,asAddr,d,dy hΘ I]
      ·simp only[SV.rel,SA.den,Pl.addr];by_cases J:n=l<;>simp[J,addr_add]
      ·exact .inr hb
     ·exact f.elim
    ·exact f.elim
   ·rename_i n E a b c p g;simp only[SV.rel,SA.den]at G;subst G;split at f
    ·rename_i j I;obtain⟨l,m,B,D,o,d⟩:=g8 (P:=P) (isS:=false) y u M L f w;refine YldS.mk A (.slice (some (if n=l then p.addr ρ else(p.addr ρ).add (l*j.size))) (m - l) (n - l)) _ ?_ ?_ ?_ B
     ·simp[Instr.sliceAt,aY hΘ g,Instr.sureAddr,d,dy hΘ I]
     ·simp only[SV.rel,SA.den,Pl.addr];by_cases J:n=l<;>simp[J,addr_add]
     ·exact .inr hb
    ·exact f.elim
   ·exact f.elim
  ·exact f.elim
end
section
variable {P:Program} {Θ:Tys} {C:Ctx} {ρ:Rho} {h:Hp} {nx:Nat} {w:World} {K:Kt}
def places(Θ:Tys):List Field->Option (List (Nat×Nat))
 |[]=>some []
 |f::r=>match Θ f.type with
  |some j=>match places Θ r with
   |some l=>some ((f.offset,j.size)::l)
   |none=>none
  |none=>none
def sfill(b:Nat->Option (Nat×Nat))(a:List SA):List (Nat×SV)->Option (List SA)
 |[]=>some a
 |(i,v)::r=>match b i,cellsOf v with
  |some (off,size),some vs=>match Nat.beq vs.length size with
   |true=>match setAt a off vs with
    |some c=>sfill b c r
    |none=>none
   |false=>none
  |_,_=>none
theorem foldl_set(a:Nat):∀(vs:List Value) (j:Nat) (b:List Value),a+j+vs.length<=b.length->
  (vs.zipIdx j).foldl (fun(c:Array Value) (x:Value×Nat)=>c.setIfInBounds (a+x.2) x.1) b.toArray=(b.take (a+j)++vs++b.drop (a+j+vs.length)).toArray
 |[],j,b,_=>by simp
 |v::r,j,b,hl=>by
  simp only[List.zipIdx_cons,qaj];have:=foldl_set a r (j+1) (b.set (a+j) v) (by simp at hl ⊢;omega);simp only[List.setIfInBounds_toArray];rw[this]
  congr 1
  have e:=list_seg_step b (a+j) v r (by simp at hl ⊢;omega);simpa[qbs]using e
theorem mT{E:Nat->Option (Nat×Nat)}:∀(parts:List (Nat×SV)) (f:List (Nat×Value)) (b out:List SA),sfill E b parts=some out->
  f.length=parts.length->(∀(j:Nat) (p:Nat×SV) (q:Nat×Value),parts[j]? =some p->f[j]? =some q->p.1=q.1/\p.2.rel ρ q.2)->
  Instr.fill E (b.map (SA.den ρ)).toArray f=some (out.map (SA.den ρ)).toArray/\
   (∀n,(∀a∈b,a.below n)->(∀p∈parts,p.2.below n)->∀a∈out,a.below n)/\out.length=b.length
 |[],f,b,out,hs,hl,_=>by
  simp[sfill]at hs;subst hs;have:f=[]:=by simpa using hl
  subst this;exact⟨rfl,fun n y _=>y,rfl⟩
 |(i,s)::r,[],b,out,_,hl,_=>by simp at hl
 |(i,s)::r,(i',v)::vr,b,out,hs,hl,hrel=>by
  simp only[sfill]at hs;split at hs
  ·rename_i e I vs l o;split at hs
   ·rename_i d;have d:=qm d;split at hs
    ·rename_i c y;obtain⟨h1,B⟩:=hrel 0 (i,s) (i',v) ss ss;simp only at h1 B;subst h1;obtain⟨T,old,G,u,A,R,S⟩:=jU _ _ _ _ y;obtain⟨U,V,W⟩:=mT r vr c out hs (by simpa using hl) (fun j p q l Q=>hrel (j+1) p q (by simpa using l) (by simpa using Q));have g:=ox o B;refine⟨?_,fun n D m a ha=>V n ?_ (fun p l=>m p (by simp[l])) a ha,?_⟩
     ·simp only[Instr.fill,l,g];have k:¬(e+vs.length>b.length):=by rw[u];simp;omega
      simp only[y9,qa,d,ne_eq,not_true_eq_false,decide_false,qa8];rw[d]at k;simp only[k,decide_false,jx,if_false];have O:=foldl_set e (vs.map (SA.den ρ)) 0 (b.map (SA.den ρ)) (by simp;omega)
      have L:((vs.map (SA.den ρ)).toArray.zipIdx).foldl (fun(c:Array Value) (x:Value×Nat)=>c.setIfInBounds (e+x.2) x.1) (b.map (SA.den ρ)).toArray=(c.map (SA.den ρ)).toArray:=by
       rw[<-Array.foldl_toList];simp only[Array.toList_zipIdx];rw[O,u,A];simp[<-R,<-S,List.drop_append]
      have M:(fun(J:Array Value) (x:Value×Nat)=>match x with | (c,j)=>J.setIfInBounds (e+j) c)=(fun(c:Array Value) (x:Value×Nat)=>c.setIfInBounds (e+x.2) x.1):=rfl;rw[M,L];exact U
     ·intro a ha;rw[A]at ha;simp at ha;rcases ha with ha | ha | ha
      ·exact D a (by rw[u];simp[ha])
      ·exact oq o (m (i,s) ss) a ha
      ·exact D a (by rw[u];simp[ha])
     ·rw[W,u,A];simp;omega
    ·cases hs
   ·cases hs
  ·cases hs
theorem we(hΘ:Θ.Ok P):∀(a:List Field) (l:List (Nat×Nat)),places Θ a=some l->∀w,(a.mapM fun f=>do pure (f.offset,<-Go.sizeOf f.type):Sem (List (Nat×Nat))).run P w=.ok l w
 |[],l,hs,w=>by simp[places]at hs;subst hs;rfl
 |f::r,l,hs,w=>by
  simp only[places]at hs;split at hs
  ·rename_i j b;split at hs
   ·rename_i d c;cases hs
    have ih:=we hΘ r d c w;simp only[List.mapM_cons,Sem.run_bind,dy hΘ b,Result.andThen_ok,Sem.run_pure,ih]
   ·cases hs
  ·cases hs
def qI(Θ:Tys)(t:TypeId)(parts:List (Nat×SV))(h:Hp)(nx:Nat)(K:Kt):Prop:=
 match Θ t with
 |some ⟨.struct fields,_,_,zero⟩=>match places Θ fields.toList with
  |some pl=>match sfill (nth pl) zero parts with
   |some cs=>K (.agg cs) h nx
   |none=>False
  |none=>False
 |some ⟨.array _ elem,_,_,zero⟩=>match Θ elem with
  |some j=>match sfill (fun i=>some (i*j.size,j.size)) zero parts with
   |some cs=>K (.agg cs) h nx
   |none=>False
  |none=>False
 |_=>False
theorem EK(hΘ:Θ.Ok P){t:TypeId}{parts:List (Nat×SV)}{g:Array (Nat×Value)}(d:qI Θ t parts h nx K)(s:Sat C ρ h nx w)(E:g.size=parts.length)
  (G:∀(j:Nat) (p:Nat×SV) (q:Nat×Value),parts[j]? =some p->g[j]? =some q->p.1=q.1/\p.2.rel ρ q.2)(hb:∀p∈parts,p.2.below nx):YldS P (Instr.build t g) ρ h nx w K:=by
 unfold qI at d;split at d
 ·rename_i c a b zero m;split at d
  ·rename_i D y;split at d
   ·rename_i k l;obtain⟨f1,f2,_⟩:=mT (ρ:=ρ) parts g.toList zero k l (by simpa using E) (fun j p q x A=>G j p q x (by simpa using A));refine YldS.mk s (.agg (k.map (SA.den ρ)).toArray) (.agg k) ?_ rfl (f2 nx (fun a u=>SA.below_mono (js _) ((hΘ t _ m).bel a u)) hb) d
    have J:(c.mapM fun f=>do pure (f.offset,<-Go.sizeOf f.type):Sem (Array (Nat×Nat))).run P w=.ok D.toArray w:=by
     rw[qc5,Sem.run_map,we hΘ _ _ y w];rfl
    have B:(zval ρ ⟨.struct c,a,b,zero⟩).cells=(zero.map (SA.den ρ)).toArray:=rfl;have e:(fun i=>D.toArray[i]?)=nth D:=by funext i;rw[fO];simp
    simp only[Instr.build,Sem.run_bind,iI hΘ m w ρ,Result.andThen_ok,aY hΘ m,J,B,e,f1];rfl
   ·exact d.elim
  ·exact d.elim
 ·rename_i n o a b zero m;split at d
  ·rename_i j I;split at d
   ·rename_i k l;obtain⟨f1,f2,_⟩:=mT (ρ:=ρ) parts g.toList zero k l (by simpa using E) (fun j p q x A=>G j p q x (by simpa using A));refine YldS.mk s (.agg (k.map (SA.den ρ)).toArray) (.agg k) ?_ rfl (f2 nx (fun a u=>SA.below_mono (js _) ((hΘ t _ m).bel a u)) hb) d;have B:(zval ρ ⟨.array n o,a,b,zero⟩).cells=(zero.map (SA.den ρ)).toArray:=rfl;simp only[Instr.build,Sem.run_bind,iI hΘ m w ρ,Result.andThen_ok,aY hΘ m,dy hΘ I,B,f1];rfl
   ·exact d.elim
  ·exact d.elim
 ·exact d.elim
end
section
variable {P:Program} {Θ:Tys} {C:Ctx} {ρ:Rho} {h:Hp} {nx:Nat} {w:World} {K:Kt}
def chunk{α:Type}(sz:Nat):Nat->List α->List (List α)
 |0,_=>[]
 |n+1,l=>l.take sz::chunk sz n (l.drop sz)
theorem sV{α:Type}(sz:Nat):∀(n:Nat) (l:List α),l.length=n*sz->(chunk sz n l).flatten=l
 |0,l,h=>by simp at h;simp[chunk,h]
 |n+1,l,h=>by
  simp only[chunk,jw];rw[sV sz n (l.drop sz) (by simp[h,qa2])];exact yw sz l
theorem oZ{α:Type}(sz:Nat):∀(n:Nat) (l:List α),(chunk sz n l).length=n
 |0,l=>rfl
 |n+1,l=>by simp[chunk,oZ sz n]
theorem wF{α:Type}(sz:Nat):∀(n:Nat) (l:List α),l.length=n*sz->∀x∈chunk sz n l,x.length=sz
 |0,l,h,x,hx=>by simp[chunk]at hx
 |n+1,l,h,x,hx=>by
  simp only[chunk,qi]at hx;rcases hx with rfl | hx
  ·simp[h,qa2]
  ·exact wF sz n (l.drop sz) (by simp[h,qa2]) x hx
theorem vv{α:Type}(sz:Nat):∀(n:Nat) (l:List α),∀x∈chunk sz n l,∀a∈x,a∈l
 |0,l,x,hx=>by simp[chunk]at hx
 |n+1,l,x,hx=>by
  simp only[chunk,qi]at hx;rcases hx with rfl | hx
  ·intro a b;exact yf b
  ·intro a b;exact qaq (vv sz n (l.drop sz) x hx a b)
theorem tp(zs:List Value):∀n,((Array.range (n*zs.length)).map (zs.toArray[· % zs.length]!))=((List.replicate n zs).flatten).toArray:=by
 intro n;apply Array.ext';simp only[Array.toList_map,Array.toList_range]
 induction n with
 |zero=>simp
 |succ n ih=>
  rw[qa2,qb5,List.range_add,qq,qb9,jw];simp only[q8]
  congr 1
  ·apply qbe;intro i;by_cases a:i < zs.length
   ·simp[a,ju a]
   ·simp[a]
  ·rw[<-ih];apply qy;intro i _;simp[Nat.add_mod_left]
def ot(Θ:Tys)(t:TypeId)(a:Nat)(parts:List (Nat×SV))(h:Hp)(nx:Nat)(K:Kt):Prop:=
 match Θ t with
 |some ⟨.slice elem,_,_,_⟩=>match Θ elem with
  |some j=>match j.size with
   |0=>False
   |_+1=>match Nat.ble (a*j.size) 16777216 with
    |true=>match sfill (fun i=>some (i*j.size,j.size)) (List.replicate a j.zero).flatten parts with
     |some cs=>K (.va (.slice false nx 0 0 j.size a a)) (lput h nx (.one (.arr elem j.size (chunk j.size a cs) a))) (nx+1)
     |none=>False
    |false=>False
  |none=>False
 |_=>False
theorem CP(hΘ:Θ.Ok P){t:TypeId}{c:Nat}{parts:List (Nat×SV)}{f:Array (Nat×Value)}(d:ot Θ t c parts h nx K)(M:Sat C ρ h nx w)(Q:f.size=parts.length)
  (T:∀(j:Nat) (p:Nat×SV) (q:Nat×Value),parts[j]? =some p->f[j]? =some q->p.1=q.1/\p.2.rel ρ q.2)(hb:∀p∈parts,p.2.below nx):Yld P (Instr.buildSlice t c f) C ρ nx w K:=by
 unfold ot at d;split at d
 ·rename_i e a b W y;split at d
  ·rename_i j A;split at d
   ·exact d.elim
   ·rename_i V U;split at d
    ·rename_i s;have s:=nb s;split at d
     ·rename_i n G;have l:=hΘ e j A;have m:=l.len;obtain⟨f1,f2,f3⟩:=mT (ρ:=ρ) parts f.toList _ n G (by simpa using Q) (fun j p q R S=>T j p q R (by simpa using S))
      have g:n.length=c*j.size:=by
       rw[f3];simp[m]
      have E:∀a∈n,a.below nx:=f2 nx (fun a D=>by
       obtain⟨x,J,o⟩:=qbk.1 D;rw[(qce.1 J).2]at o;exact SA.below_mono (js _) (l.bel a o)) hb
      have L:=jW l ρ
      have k:((Array.range (c*j.size)).map ((zval ρ j).cells[· % (zval ρ j).cells.size]!))=((List.replicate c j.zero).flatten.map (SA.den ρ)).toArray:=by
       have:=tp (j.zero.map (SA.den ρ)) c;simp only[qa,m]at this;rw[L];simp only[y9,qa,m];rw[this];congr 1;simp
      have u:(Instr.buildSlice t c f).run P w=.ok (.slice (some ⟨w.heap.size,0,none⟩) c c) (w.alloc (.cells (n.map (SA.den ρ)).toArray e (0,0))):=by
       have h1:¬(c*j.size>2^24):=by omega
       by_cases B:c*j.size=0
       ·have I:c=0:=by rcases Nat.mul_eq_zero.1 B with h' | h'<;>omega
        subst I;have O:((Array.range (0*j.size)).map (fun x=>((#[]:Array Value))[x % (#[]:Array Value).size]!))=((List.replicate 0 j.zero).flatten.map (SA.den ρ)).toArray:=by simp
        simp only[Instr.buildSlice,Sem.run_bind,aY hΘ y,Result.andThen_ok,dy hΘ A,if_neg h1,if_pos B,Sem.run_pure];simp only[O,f1,newRow,Sem.run_bind,Sem.run_pure,run_newObj,Result.andThen_ok];rfl
       ·simp only[Instr.buildSlice,Sem.run_bind,aY hΘ y,Result.andThen_ok,dy hΘ A,if_neg h1,if_neg B,Sem.run_pure,iI hΘ A w ρ,k,f1,newRow,run_newObj];rfl
      refine⟨_,_,_,_,_,rext ρ nx w.heap.size,u,?_,?_,d,M.new (.arr e j.size (chunk j.size c n) c) _ (fun x J a D=>E a (vv _ _ _ x J a D)) ?_,fun i y=>eK y,qac _⟩
      ·simp[SV.rel,SA.den,dg]
      ·simp[SV.below,SA.below]
      ·refine⟨wF _ _ _ g,by rw[oZ];exact qj _,[],by simp[oZ],(0,0),NoFr.zero _,?_⟩;rw[sV _ _ _ g];simp
     ·exact d.elim
    ·exact d.elim
  ·exact d.elim
 ·exact d.elim
def rdEls(h:Hp)(i k e sz n:Nat)(K:List (List SA)->Prop):Prop:=
 match lget h i with
 |some (.one (.arr _ sz' L _))=>(match k with
  |0=>match Nat.beq sz sz' with
   |true=>e+n<=L.length/\∃X,(L.drop e).take n=X/\K X
   |false=>False
  |_+1=>False)
 |some (.opt c (.arr _ sz' L _))=>c=true/\(match k with
  |0=>match Nat.beq sz sz' with
   |true=>e+n<=L.length/\∃X,(L.drop e).take n=X/\K X
   |false=>False
  |_+1=>False)
 |some (.frz F)=>∃t L r,F k=some (.arr t sz L r)/\e+n<=L.length/\∃X,(L.drop e).take n=X/\K X
 |some (.lnk b)=>(match lget h 0 with
  |some (.frz F)=>∃t L r,F (b k)=some (.arr t sz L r)/\e+n<=L.length/\∃X,(L.drop e).take n=X/\K X
  |_=>False)
 |some (.fam m c f)=>(k < m/\c k=true)/\(match f k with
  |.arr _ sz' L _=>match Nat.beq sz sz' with
   |true=>e+n<=L.length/\∃X,(L.drop e).take n=X/\K X
   |false=>False
  |_=>False)
 |_=>False
theorem gD{α:Type}{sz:Nat}:∀(L:List (List α)),(∀y∈L,y.length=sz)->L.flatten.length=L.length*sz
 |[],_=>by simp
 |y::L,h=>by
  have:=gD L (fun z a=>h z (by simp[a]));simp[this,h y ss,qa2,qb5]
theorem tO{i k e sz n:Nat}{K:List (List SA)->Prop}(d:rdEls h i k e sz n K)(s:Sat C ρ h nx w):
  ∃X,K X/\X.length=n/\(∀x∈X,x.length=sz)/\(∀x∈X,∀a∈x,a.below nx)/\∃t q p,RowAt w (ρ i k) t (q++X.flatten.map (SA.den ρ)++p)/\q.length=e*sz:=by
 have A:∀i k D t j L g,lget h i=some D->D.has k->D.at k=.arr t j L g->Nat.beq sz j=true->e+n<=L.length->(∃X,(L.drop e).take n=X/\K X)->
   ∃X,K X/\X.length=n/\(∀x∈X,x.length=sz)/\(∀x∈X,∀a∈x,a.below nx)/\∃t q p,RowAt w (ρ i k) t (q++X.flatten.map (SA.den ρ)++p)/\q.length=e*sz:=by
  intro i k D t j L g l U Q B Z O;obtain⟨X,rfl,O⟩:=O;have B:=qm B;subst B;obtain⟨o,ho,I⟩:=s.blk _ D l _ U;have G:=s.wf _ D l _ U;rw[Q]at I G;obtain⟨S,g2,tail,g3,T⟩:=I;refine⟨_,O,by simp;omega,fun x R=>S x (qaq (yf R)),fun x R=>G x (qaq (yf R)),t,(L.take e).flatten.map (SA.den ρ),((L.drop e).drop n).flatten.map (SA.den ρ)++tail,⟨o,ho,?_⟩,?_⟩
  ·have V:L.flatten=(L.take e).flatten++(((L.drop e).take n).flatten++((L.drop e).drop n).flatten):=by
    rw[<-yi,<-yi,yw,yw]
   rw[V]at T;simpa[ql]using T
  ·rw[qa,gD (L.take e) (fun y hy=>S y (yf hy))];rw[qn,qao oo]
 have u:=A i k;unfold rdEls at d;split at d
 ·rename_i t j L g l;split at d
  ·split at d
   ·rename_i hb;exact u _ _ _ _ _ l rfl rfl hb d.1 d.2
   ·exact d.elim
  ·exact d.elim
 ·rename_i c t j L g l;obtain⟨W,d⟩:=d;split at d
  ·split at d
   ·rename_i hb;exact u _ _ _ _ _ l ⟨W,rfl⟩ rfl hb d.1 d.2
   ·exact d.elim
  ·exact d.elim
 ·rename_i F l;obtain⟨t,L,r,E,h1,J⟩:=d;exact u _ t sz L r l (by simp[Ent.has,E]) (by simp[Ent.at,E]) ss h1 J
 ·rename_i b l;split at d
  ·rename_i F M;obtain⟨t,L,r,E,h1,J⟩:=d;rw[s.lnk _ _ l k,<-s.id0 (b k)];exact A 0 (b k) _ t sz L r M (by simp[Ent.has,E]) (by simp[Ent.at,E]) ss h1 J
  ·exact d.elim
 ·rename_i m c f l;obtain⟨hm,d⟩:=d;split at d
  ·rename_i t j L g Y;split at d
   ·rename_i hb;exact u _ _ _ _ _ l hm Y hb d.1 d.2
   ·exact d.elim
  ·exact d.elim
 ·exact d.elim
theorem jG(s:List UInt8):(s.map fun b=>[SA.int .u8 b.toNat]).flatten=s.map fun b=>SA.int .u8 b.toNat:=by
 induction s with
 |nil=>rfl
 |cons b r ih=>simpa using ih
def src(Θ:Tys)(t:TypeId)(x:SV)(sz:Nat)(h:Hp)(K:List (List SA)->Prop):Prop:=
 match Θ t,x with
 |some ⟨.slice _,_,_,_⟩,.va (.slice nil i k e sz' len _)=>match nil with
  |true=>len=0/\K []
  |false=>match Nat.beq sz' sz with
   |true=>rdEls h i k e sz len K
   |false=>match Nat.beq sz' 1 with
    |true=>∃X:List (List SA),X.length=len/\(∀x∈X,x.length=sz)/\(len=0\/rd h ⟨i,k,e,1,0⟩ (len*sz) fun a=>a=X.flatten)/\K X
    |false=>False
 |some ⟨.slice _,_,_,_⟩,.va .nilsl=>K []
 |some ⟨.string,_,_,_⟩,.va (.str s)=>match Nat.beq sz 1 with
  |true=>K (s.map fun b=>[SA.int .u8 b.toNat])
  |false=>False
 |_,_=>False
theorem A3(hΘ:Θ.Ok P){t:TypeId}{x:SV}{v:Value}{sz:Nat}{K:List (List SA)->Prop}(l:src Θ t x sz h K)(s:Sat C ρ h nx w)(m:x.rel ρ v):
  ∃X,K X/\(∀x∈X,x.length=sz)/\(∀x∈X,∀a∈x,a.below nx)/\(∀d,(Builtin.lenOf v).run P d=.ok X.length d)/\
   (∀d,d.heap=w.heap->(Builtin.firstCells sz X.length v).run P d=.ok (X.flatten.map (SA.den ρ)).toArray d)/\
   ((∃e,P.underlying t=some (.slice e))\/P.underlying t=some .string):=by
 unfold src at l;split at l
 ·rename_i el a b c nil i k e S aa cap J;have y:((∃e,P.underlying t=some (.slice e))\/P.underlying t=some .string):=.inl ⟨_,(hΘ t _ J).und⟩;split at l
  ·obtain⟨T,I⟩:=l;subst T;simp only[SV.rel,SA.den,if_true]at m;subst m;exact⟨[],I,by simp,by simp,fun d=>rfl,fun d _=>rfl,y⟩
  ·split at l
   ·rename_i q;have q:=qm q;subst q;simp only[SV.rel,SA.den,jx,if_false]at m;subst m;obtain⟨X,I,O,h1,V,t',D,B,p,n⟩:=tO l s;refine⟨X,I,h1,V,fun d=>by rw[O];rfl,fun d A=>?_,y⟩
    have g:RowAt d (ρ i k) t' (D++X.flatten.map (SA.den ρ)++B):=by
     obtain⟨o,Q,L⟩:=p;exact⟨o,by rw[A];exact Q,L⟩
    have G:=gD X h1
    have f:(loadCells ⟨ρ i k,e*S,none⟩ (X.flatten.map (SA.den ρ)).length).run P d=.ok (X.flatten.map (SA.den ρ)).toArray d:=
     run_loadCells_list (P:=P) d _ _ (fun j u y=>by
      rw[addr_add,g.cell,<-n];have M:j < (X.flatten.map (SA.den ρ)).length:=(qh.1 y).1;rw[ql,jq oo,qar,jj M];exact y)
    rw[qa,G]at f;exact f
   ·split at l
    ·rename_i q;have q:=qm q;subst q;simp only[SV.rel,SA.den,jx,if_false]at m;subst m;obtain⟨X,O,h1,hrd,I⟩:=l;have G:=gD X h1
     have E:(∀x∈X,∀a∈x,a.below nx)/\∀d,d.heap=w.heap->(loadCells ⟨ρ i k,e*1,none⟩ (X.flatten.map (SA.den ρ)).length).run P d=.ok (X.flatten.map (SA.den ρ)).toArray d:=by
      rcases hrd with T | hrd
      ·have W:X=[]:=q5 oo;subst W;exact⟨by simp,fun d _=>run_loadCells_list (P:=P) d _ _ (fun j u y=>by simp at y)⟩
      ·obtain⟨xs,R,g1,U,t',D,B,p,n⟩:=px hrd s;subst R;refine⟨fun x m a Y=>U a (qbk.2 ⟨x,m,Y⟩),fun d A=>?_⟩
       have g:kM d (ρ i k) t' (D++X.flatten.map (SA.den ρ)++B):=by
        obtain⟨o,Q,L⟩:=p;exact⟨o,by rw[A];exact Q,L⟩
       exact run_loadCells_list (P:=P) d _ _ (fun j u y=>by
        rw[addr_add,g.cell];have Z:D.length=e*1:=by simpa using n
        rw[<-Z];have M:j < (X.flatten.map (SA.den ρ)).length:=(qh.1 y).1;rw[ql,jq oo,qar,jj M];exact y)
     refine⟨X,I,h1,E.1,fun d=>by rw[O];rfl,fun d A=>?_,y⟩;have f:=E.2 d A;rw[qa,G]at f;exact f
    ·exact l.elim
 ·rename_i el a b c J;simp only[SV.rel,SA.den]at m;subst m;exact⟨[],l,by simp,by simp,fun d=>rfl,fun d _=>rfl,.inl ⟨_,(hΘ t _ J).und⟩⟩
 ·rename_i a b c s' J;split at l
  ·rename_i q;have q:=qm q;subst q;simp only[SV.rel,SA.den]at m;subst m;refine⟨_,l,by simp,by simp[SA.below],fun d=>by simp[Builtin.lenOf,ByteArray.size],fun d _=>?_,.inr (hΘ t _ J).und⟩;simp only[Builtin.firstCells,Sem.run_pure]
   congr 1
   rw[jG s'];apply Array.ext';simp[ByteArray.data_extract,SA.den]
  ·exact l.elim
 ·exact l.elim
end
end Sx
