import Derived.Test.YtfnkamphhpldcaaGreatDoorK01
set_option maxHeartbeats 64000000
namespace Sx
open Go
abbrev Hp:=List (List (Nat×Ent))
abbrev Kt:=SV->Hp->Nat->Prop
structure TI where
 d:TypeDesc
 size:Nat
 bytes:Nat
 zero:List SA
def aggD:TypeDesc->Bool
 |.struct _=>true
 |.array _ _=>true
 |_=>false
def zval(ρ:Rho)(i:TI):Value:=
 match aggD i.d with
 |true=>.agg (i.zero.map (SA.den ρ)).toArray
 |false=>(i.zero.headD .nilptr).den ρ
structure TI.ok(P:Program)(t:TypeId)(i:TI):Prop where
 und:P.underlying t=some i.d
 inf:∃f,P.info? t=some f/\f.size=i.size/\f.bytes=i.bytes/\∀ρ,f.zero=some (zval ρ i)
 len:i.zero.length=i.size
 bel:∀a∈i.zero,a.below 0
 one:aggD i.d=false->i.size=1
abbrev Tys:=TypeId->Option TI
def Tys.Ok(P:Program)(Θ:Tys):Prop:=∀t i,Θ t=some i->TI.ok P t i
def nth{α:Type}:List α->Nat->Option α
 |[],_=>none
 |x::_,0=>some x
 |_::r,n+1=>nth r n
theorem fG{α:Type}:∀(l:List α) (n:Nat),nth l n=l[n]?
 |[],n=>by simp[nth]
 |x::r,0=>by simp[nth]
 |x::r,n+1=>by simp[nth,fG r n]
def svA:Value->Option SA
 |.int k n=>some (.int k n)
 |.bool b=>some (.lit b)
 |.string s=>some (.str s.data.toList)
 |.pointer none=>some .nilptr
 |.slice none 0 0=>some .nilsl
 |.map none=>some .nilmap
 |.nilFunc=>some .nilfn
 |.nilIface=>some .nilif
 |.iface t v=>some (.ifc t v)
 |_=>none
def svAs:List Value->Option (List SA)
 |[]=>some []
 |v::r=>match svA v with
  |some a=>match svAs r with
   |some l=>some (a::l)
   |none=>none
  |none=>none
def svOf:Value->SV
 |.agg cs=>match svAs cs.toList with
  |some l=>.agg l
  |none=>.junk
 |.tuple ⟨[]⟩=>.tup []
 |v=>match svA v with
  |some a=>.va a
  |none=>.junk
theorem qI{ρ:Rho}{v:Value}{a:SA}(h:svA v=some a):v=a.den ρ/\a.below 0:=by
 unfold svA at h;split at h<;>cases h<;>simp[SA.den,SA.below]
theorem xf{ρ:Rho}:∀{vs:List Value} {l:List SA},svAs vs=some l->vs=l.map (SA.den ρ)/\∀a∈l,a.below 0
 |[],l,h=>by simp[svAs]at h;subst h;simp
 |v::r,l,h=>by
  simp only[svAs]at h;split at h
  ·rename_i a e;split at h
   ·rename_i g f;cases h
    obtain⟨h1,b⟩:=qI (ρ:=ρ) e;obtain⟨c,d⟩:=xf (ρ:=ρ) f;refine⟨by simp[h1,c],?_⟩;intro x hx;rcases qh.1 hx with rfl | hx
    ·exact b
    ·exact d x hx
   ·cases h
  ·cases h
theorem xg(ρ:Rho)(v:Value):(svOf v).rel ρ v/\(svOf v).below 0:=by
 unfold svOf;split
 ·rename_i cs;split
  ·rename_i l d;obtain⟨h1,b⟩:=xf (ρ:=ρ) d;refine⟨?_,b⟩;simp only[SV.rel];rw[<-h1]
  ·exact⟨tv,tv⟩
 ·exact⟨rfl,by simp[SV.below]⟩
 ·split
  ·rename_i a c;obtain⟨h1,b⟩:=qI (ρ:=ρ) c;exact⟨h1,b⟩
  ·exact⟨tv,tv⟩
def ev(t:List (List (Nat×SV))):Operand->SV
 |.tmp n=>match lget t n with
  |some s=>s
  |none=>.junk
 |.const v=>svOf v
 |.global g=>.va (.glob g)
 |.func f=>.va (.fn (.func f) [])
theorem aT{C:Ctx}{ρ:Rho}{b:St}{a:Act}{w:World}(d:Den C ρ b a w)(x:Operand):(ev b.t x).rel ρ (a.eval x)/\(ev b.t x).below b.nx:=by
 cases x with
 |tmp n=>
  simp only[ev];split
  ·rename_i s c;obtain⟨v,h,e⟩:=d.tm n s c;refine⟨?_,d.tw n s c⟩;have:a.eval (.tmp n)=v:=by simp[Act.eval,h]
   rw[this];exact e
  ·exact⟨tv,tv⟩
 |const v=>exact⟨(xg ρ v).1,SV.below_mono (jx _) (xg ρ v).2⟩
 |global g=>exact⟨rfl,tv⟩
 |func f=>exact⟨rfl,by simp[ev,SV.below,SA.below]⟩
def Yld(P:Program)(s:Sem Value)(C:Ctx)(ρ:Rho)(nx:Nat)(w:World)(K:Kt):Prop:=
 ∃v d sv c a b,s.run P w=.ok v d/\sv.rel b v/\sv.below a/\K sv c a/\Sat C b c a d/\(∀i,i < nx->b i=ρ i)/\nx<=a
theorem Yld.same{P:Program}{s:Sem Value}{C:Ctx}{ρ:Rho}{h:Hp}{nx:Nat}{w:World}{K:Kt}(b:Sat C ρ h nx w)(v:Value)(sv:SV)(a:s.run P w=.ok v w)(e:sv.rel ρ v)(c:sv.below nx)
  (d:K sv h nx):Yld P s C ρ nx w K:=
 ⟨v,w,sv,h,nx,ρ,a,e,c,d,b,fun _ _=>rfl,qi _⟩
def YldS(P:Program)(s:Sem Value)(ρ:Rho)(h:Hp)(nx:Nat)(w:World)(K:Kt):Prop:=
 ∃v sv,s.run P w=.ok v w/\sv.rel ρ v/\sv.below nx/\K sv h nx
theorem YldS.mk{P:Program}{s:Sem Value}{C:Ctx}{ρ:Rho}{h:Hp}{nx:Nat}{w:World}{K:Kt}(_sat:Sat C ρ h nx w)(v:Value)(sv:SV)(a:s.run P w=.ok v w)(d:sv.rel ρ v)(b:sv.below nx)
  (c:K sv h nx):YldS P s ρ h nx w K:=⟨v,sv,a,d,b,c⟩
theorem YldS.yld{P:Program}{s:Sem Value}{C:Ctx}{ρ:Rho}{h:Hp}{nx:Nat}{w:World}{K:Kt}(y:YldS P s ρ h nx w K)(a:Sat C ρ h nx w):Yld P s C ρ nx w K:=by
 obtain⟨v,sv,h1,b,c,d⟩:=y;exact Yld.same a v sv h1 b c d
section
variable {P:Program} {Θ:Tys} {C:Ctx} {ρ:Rho} {h:Hp} {nx:Nat} {w:World} {K:Kt}
theorem aV{t:TypeId}{i:TI}(hΘ:Θ.Ok P)(a:Θ t=some i)(w:World):(underlying t).run P w=.ok i.d w:=run_underlying (hΘ t i a).und w
theorem mS{t:TypeId}{i:TI}(hΘ:Θ.Ok P)(a:Θ t=some i)(w:World):(isAgg t).run P w=.ok (aggD i.d) w:=by
 unfold isAgg;rw[Sem.run_bind,aV hΘ a];cases i.d<;>rfl
theorem dz{t:TypeId}{i:TI}(hΘ:Θ.Ok P)(b:Θ t=some i)(w:World):(Go.sizeOf t).run P w=.ok i.size w:=by
 obtain⟨f,h1,a,_,_⟩:=(hΘ t i b).inf;simp[Go.sizeOf,typeInfo,h1,a]
theorem iG{t:TypeId}{i:TI}(hΘ:Θ.Ok P)(b:Θ t=some i)(w:World)(ρ:Rho):(zeroValue t).run P w=.ok (zval ρ i) w:=by
 obtain⟨f,h1,_,_,a⟩:=(hΘ t i b).inf;simp[zeroValue,typeInfo,h1,a ρ]
theorem jN{t:TypeId}{i:TI}(b:TI.ok P t i)(ρ:Rho):(zval ρ i).cells=(i.zero.map (SA.den ρ)).toArray:=by
 unfold zval;cases e:aggD i.d with
 |true=>rfl
 |false=>
  have h1:=b.one e;have c:=b.len;rw[h1]at c
  match f:i.zero,c with
  |[a],_=>cases a<;>rfl
def cellsOf:SV->Option (List SA)
 |.va a=>some [a]
 |.agg l=>some l
 |_=>none
theorem nW{ρ:Rho}{s:SV}{l:List SA}{v:Value}(b:cellsOf s=some l)(c:s.rel ρ v):v.cells=(l.map (SA.den ρ)).toArray:=by
 cases s with
 |va a=>simp[cellsOf]at b;subst b;simp only[SV.rel]at c;subst c;cases a<;>rfl
 |agg l'=>simp[cellsOf]at b;subst b;simp only[SV.rel]at c;subst c;rfl
 |tup l=>simp[cellsOf]at b
 |junk=>simp[cellsOf]at b
theorem nK{n:Nat}{s:SV}{l:List SA}(b:cellsOf s=some l)(c:s.below n):∀a∈l,a.below n:=by
 cases s with
 |va a=>simp[cellsOf]at b;subst b;intro x d;simp at d;subst d;exact c
 |agg l'=>simp[cellsOf]at b;subst b;exact c
 |tup l=>simp[cellsOf]at b
 |junk=>simp[cellsOf]at b
def pnew(nx:Nat):SV:=.va (.ptr ⟨nx,0,0,0,0⟩)
theorem rN(c:Sat C ρ h nx w)(t:TypeId)(l:List SA)(cs:Array Value)(g:cs=(l.map (SA.den ρ)).toArray)(d:∀a∈l,a.below nx)(s:Sem Value)
  (b:s.run P w=.ok (.pointer (some ⟨w.heap.size,0,none⟩)) (w.alloc (.cells cs t (0,0))))
  (f:K (pnew nx) (lput h nx (.one (.cells t l))) (nx+1)):Yld P s C ρ nx w K:=by
 refine⟨_,_,_,_,_,rext ρ nx w.heap.size,b,?_,?_,f,c.new (.cells t l) _ d ⟨(0,0),NoFr.zero _,by rw[g]⟩,fun i e=>eA e,qaf _⟩
 ·simp[SV.rel,pnew,SA.den,Pl.addr,dm]
 ·simp[SV.below,pnew,SA.below]
def pM(Θ:Tys)(t:TypeId)(h:Hp)(nx:Nat)(K:Kt):Prop:=
 match Θ t with
 |some i=>K (pnew nx) (lput h nx (.one (.cells t i.zero))) (nx+1)
 |none=>False
theorem DQ(hΘ:Θ.Ok P){t:TypeId}(b:pM Θ t h nx K)(d:Sat C ρ h nx w):Yld P (Instr.alloc t true (.tuple #[])) C ρ nx w K:=by
 unfold pM at b;split at b
 ·rename_i i c;refine rN d t i.zero _ rfl (fun a e=>SA.below_mono (jx _) ((hΘ t i c).bel a e)) _ ?_ b;simp[Instr.alloc,iG hΘ c w ρ,newVar,newRow,jN (hΘ t i c) ρ]
 ·exact b.elim
def s_box(t:TypeId)(x:SV)(h:Hp)(nx:Nat)(K:Kt):Prop:=
 match cellsOf x with
 |some l=>K (pnew nx) (lput h nx (.one (.cells t l))) (nx+1)
 |none=>False
theorem BZ{t:TypeId}{x:SV}{v:Value}(a:s_box t x h nx K)(b:Sat C ρ h nx w)(e:x.rel ρ v)(d:x.below nx):Yld P (Instr.box t v) C ρ nx w K:=by
 unfold s_box at a;split at a
 ·rename_i l c;refine rN b t l _ rfl (nK c d) _ ?_ a;simp[Instr.box,newVar,newRow,nW c e]
 ·exact a.elim
def eC(Θ:Tys)(t:TypeId)(x:SV)(h:Hp)(nx:Nat)(K:Kt):Prop:=
 match Θ t,x with
 |some i,.va (.ptr p)=>rd h p i.size fun xs=>match aggD i.d with
  |true=>K (.agg xs) h nx
  |false=>match xs with
   |[a]=>K (.va a) h nx
   |_=>False
 |_,_=>False
theorem addr_add(b o n:Nat):(⟨b,o,none⟩:Addr).add n=⟨b,o+n,none⟩:=by unfold Addr.add;split<;>simp_all
theorem nS(hΘ:Θ.Ok P){t:TypeId}{x:SV}{v:Value}(l:eC Θ t x h nx K)(q:Sat C ρ h nx w)(y:x.rel ρ v):∃u sv,(Instr.loadAt t v).run P w=.ok u w/\sv.rel ρ u/\sv.below nx/\K sv h nx:=by
 unfold eC at l;split at l
 ·rename_i i p n;simp only[SV.rel,SA.den]at y;subst y;obtain⟨xs,f,g,d,t',pre,B,c,b⟩:=pr l q
  have s:(loadCells ⟨ρ p.i p.k,p.e*p.sz+p.o,none⟩ (xs.map (SA.den ρ)).length).run P w=.ok (xs.map (SA.den ρ)).toArray w:=
   run_loadCells_list (P:=P) w _ _ (fun j u A=>by
    rw[addr_add,c.cell,<-b];have E:j < (xs.map (SA.den ρ)).length:=(qg.1 A).1;rw[qj,jt oo,qag,jo E];exact A)
  split at f
  ·rename_i m;refine⟨.agg (xs.map (SA.den ρ)).toArray,.agg xs,?_,rfl,d,f⟩;simp only[qa,g]at s;simp[Instr.loadAt,Instr.sureAddr,Pl.addr,loadVar,mS hΘ n,m,dz hΘ n,s]
  ·rename_i m;split at f
   ·rename_i a;refine⟨a.den ρ,.va a,?_,rfl,d a ss,f⟩
    have D:w.cell? ⟨ρ p.i p.k,p.e*p.sz+p.o,none⟩=some (a.den ρ):=by
     rw[c.cell,<-b];simp
    simp[Instr.loadAt,Instr.sureAddr,Pl.addr,loadVar,mS hΘ n,m,D]
   ·exact f.elim
 ·exact l.elim
theorem zU(hΘ:Θ.Ok P){t:TypeId}{x:SV}{v:Value}(f:eC Θ t x h nx K)(a:Sat C ρ h nx w)(e:x.rel ρ v):Yld P (Instr.loadAt t v) C ρ nx w K:=by
 obtain⟨u,sv,h1,b,c,d⟩:=nS hΘ f a e;exact Yld.same a u sv h1 b c d
def g7(Θ:Tys)(t:TypeId)(x y:SV)(h:Hp)(nx:Nat)(K:Kt):Prop:=
 match Θ t,x,cellsOf y with
 |some i,.va (.ptr p),some vs=>match Nat.beq vs.length i.size with
  |true=>wr h p vs fun a=>K (.tup []) a nx
  |false=>False
 |_,_,_=>False
theorem jJ(hΘ:Θ.Ok P){t:TypeId}{x y:SV}{v u:Value}(g:g7 Θ t x y h nx K)(B:Sat C ρ h nx w)(D:x.rel ρ v)(A:y.rel ρ u)(J:y.below nx):
  ∃E s,(Instr.storeAt t v u).run P w=.ok () E/\K (.tup []) s nx/\Sat C ρ s nx E:=by
 unfold g7 at g;split at g
 ·rename_i i p vs L q;split at g
  ·rename_i b;have b:=qm b;simp only[SV.rel,SA.den]at D;subst D;obtain⟨s,t',pre,old,c,M,l,f,j,m⟩:=xS g B (nK q J)
   have n:=jB (P:=P) (ρ p.i p.k) (p.e*p.sz+p.o) t' (vs.map (SA.den ρ)) 0 _ w l (by simp;omega) (by
    intro z O;obtain⟨a,_,rfl⟩:=qz.1 O;exact SA.one ρ a)
   refine⟨_,s,?_,M,m⟩;have d:=nW q A;have G:List.take (p.e*p.sz+p.o+0) (pre++old++c)=pre:=by rw[qap,<-f];simp
   have I:List.drop (p.e*p.sz+p.o+0+(vs.map (SA.den ρ)).length) (pre++old++c)=c:=by
    rw[qap,<-f,qa,<-j];simp
   rw[G,I]at n;simp[Instr.storeAt,Instr.sureAddr,Pl.addr,storeVar,dz hΘ L,d,b,n]
  ·exact g.elim
 ·exact g.elim
end
section
variable {P:Program} {Θ:Tys} {C:Ctx} {ρ:Rho} {h:Hp} {nx:Nat} {w:World} {K:Kt}
def gq(Θ:Tys)(t:TypeId)(x:SV)(f:Nat)(h:Hp)(nx:Nat)(K:Kt):Prop:=
 match Θ t,x with
 |some ⟨.struct fields,_,_,_⟩,.va (.ptr p)=>match nth fields.toList f with
  |some fl=>match Θ fl.type with
   |some j=>match j.size with
    |0=>False
    |_+1=>K (.va (.ptr ⟨p.i,p.k,p.e,p.sz,p.o+fl.offset⟩)) h nx
   |none=>False
  |none=>False
 |_,_=>False
theorem sM(hΘ:Θ.Ok P){t:TypeId}{x:SV}{v:Value}{f:Nat}(d:gq Θ t x f h nx K)(q:Sat C ρ h nx w)(u:x.rel ρ v)(y:x.below nx):
  YldS P (Instr.fieldAt t v f) ρ h nx w K:=by
 unfold gq at d;split at d
 ·rename_i g a b c p A;split at d
  ·rename_i l s;split at d
   ·rename_i j B;split at d
    ·exact d.elim
    ·rename_i m D;simp only[SV.rel,SA.den]at u;subst u;have n:g[f]? =some l:=by rw[fG]at s;simpa using s
     refine YldS.mk q (.pointer (some (⟨ρ p.i p.k,p.e*p.sz+(p.o+l.offset),none⟩))) (.va (.ptr ⟨p.i,p.k,p.e,p.sz,p.o+l.offset⟩)) ?_ (by simp[SV.rel,SA.den,Pl.addr]) (show p.i < nx from y) d;simp[Instr.fieldAt,aV hΘ A,n,Instr.sureAddr,Pl.addr,fieldPlace,dz hΘ B,D,addr_add,qbf]
   ·exact d.elim
  ·exact d.elim
 ·exact d.elim
def gY(Θ:Tys)(t:TypeId)(x:SV)(f:Nat)(h:Hp)(nx:Nat)(K:Kt):Prop:=
 match Θ t,x with
 |some ⟨.struct fields,_,_,_⟩,.agg l=>match nth fields.toList f with
  |some fl=>match Θ fl.type with
   |some j=>match dA l fl.offset j.size with
    |some xs=>match aggD j.d with
     |true=>K (.agg xs) h nx
     |false=>match xs with
      |[a]=>K (.va a) h nx
      |_=>False
    |none=>False
   |none=>False
  |none=>False
 |_,_=>False
theorem xI(hΘ:Θ.Ok P){t:TypeId}{j:TI}(c:Θ t=some j)(l:List SA)(off:Nat)(xs:List SA)(k:dA l off j.size=some xs)(w:World):
  (aggD j.d=true->(part t (l.map (SA.den ρ)).toArray off).run P w=.ok (.agg (xs.map (SA.den ρ)).toArray) w)/\
  (aggD j.d=false->∀a,xs=[a]->(part t (l.map (SA.den ρ)).toArray off).run P w=.ok (a.den ρ) w):=by
 obtain⟨pre,f,h1,e,g⟩:=gu _ _ _ _ k;constructor
 ·intro b;simp only[part,Sem.run_bind,mS hΘ c,b,Result.andThen_ok,if_true,dz hΘ c,Sem.run_pure]
  congr 2
  rw[h1];simp[<-e,<-g]
 ·intro b a i;subst i;have:(l.map (SA.den ρ)).toArray[off]? =some (a.den ρ):=by rw[h1];simp[<-e]
  simp only[part,Sem.run_bind,mS hΘ c,b,Result.andThen_ok,jy,if_false,this,Sem.run_pure]
theorem tW(hΘ:Θ.Ok P){t:TypeId}{x:SV}{v:Value}{f:Nat}(d:gY Θ t x f h nx K)(k:Sat C ρ h nx w)(q:x.rel ρ v)(D:x.below nx):
  YldS P (Instr.field t v f) ρ h nx w K:=by
 unfold gY at d;split at d
 ·rename_i e a b c l p;split at d
  ·rename_i n o;split at d
   ·rename_i j E;split at d
    ·rename_i xs s;simp only[SV.rel]at q;subst q;have i:e[f]? =some n:=by rw[fG]at o;simpa using o
     obtain⟨pre,u,h1,y,A⟩:=gu _ _ _ _ s;have g:∀a∈xs,a.below nx:=fun a B=>D a (by rw[h1];simp[B])
     obtain⟨G,I⟩:=xI (ρ:=ρ) hΘ E l n.offset xs s w;split at d
     ·rename_i m;refine YldS.mk k _ (.agg xs) ?_ rfl g d;simp[Instr.field,aV hΘ p,i,asAgg,G m]
     ·rename_i m;split at d
      ·rename_i a;refine YldS.mk k _ (.va a) ?_ rfl (g a ss) d;simp[Instr.field,aV hΘ p,i,asAgg,I m a rfl]
      ·exact d.elim
    ·exact d.elim
   ·exact d.elim
  ·exact d.elim
 ·exact d.elim
def gr(Θ:Tys)(t:TypeId)(x y:SV)(h:Hp)(nx:Nat)(K:Kt):Prop:=
 match Θ t,x,y with
 |some ⟨.array n elem,_,_,_⟩,.va (.ptr p),.va (.int _ z)=>match Θ elem with
  |some j=>(0<=z/\z < (n:Int))/\(match p.sz with
   |0=>K (.va (.ptr ⟨p.i,p.k,z.toNat,j.size,p.o⟩)) h nx
   |_+1=>K (.va (.ptr ⟨p.i,p.k,p.e,p.sz,p.o+z.toNat*j.size⟩)) h nx)
  |none=>False
 |some ⟨.slice elem,_,_,_⟩,.va (.slice nil i k e sz len _),.va (.int _ z)=>match Θ elem with
  |some j=>match Nat.beq sz j.size with
   |true=>nil=false/\(0<=z/\z < (len:Int))/\K (.va (.ptr ⟨i,k,e+z.toNat,sz,0⟩)) h nx
   |false=>match Nat.beq sz 1 with
    |true=>nil=false/\(0<=z/\z < (len:Int))/\K (.va (.ptr ⟨i,k,e+z.toNat*j.size,1,0⟩)) h nx
    |false=>False
  |none=>False
 |_,_,_=>False
theorem sN(hΘ:Θ.Ok P){t:TypeId}{x y:SV}{v u:Value}(d:gr Θ t x y h nx K)(l:Sat C ρ h nx w)(m:x.rel ρ v)(g:y.rel ρ u)(B:x.below nx):
  YldS P (Instr.indexAt t v u) ρ h nx w K:=by
 unfold gr at d;split at d
 ·rename_i n q a b c p I z D;split at d
  ·rename_i j E;obtain⟨s,d⟩:=d;simp only[SV.rel,SA.den]at m g;subst m;subst g
   have A:(Instr.indexAt t (.pointer (some (p.addr ρ))) (.int I z)).run P w=.ok (.pointer (some ⟨ρ p.i p.k,p.e*p.sz+p.o+z.toNat*j.size,none⟩)) w:=by
    simp[Instr.indexAt,asIntOf,aV hΘ D,Instr.sureAddr,s,dz hΘ E,Pl.addr,addr_add]
   split at d
   ·rename_i f;refine YldS.mk l _ (.va (.ptr ⟨p.i,p.k,z.toNat,j.size,p.o⟩)) A ?_ (show p.i < nx from B) d;simp[SV.rel,SA.den,Pl.addr,f,qcw]
   ·refine YldS.mk l _ (.va (.ptr ⟨p.i,p.k,p.e,p.sz,p.o+z.toNat*j.size⟩)) A ?_ (show p.i < nx from B) d;simp[SV.rel,SA.den,Pl.addr,qbf]
  ·exact d.elim
 ·rename_i q a b c nil i k e sz len cap I z D;split at d
  ·rename_i j E;split at d
   ·rename_i f;have f:=qm f;obtain⟨G,s,d⟩:=d;subst G;simp only[SV.rel,SA.den,jy,if_false]at m g;subst m;subst g;refine YldS.mk l (.pointer (some ⟨ρ i k,e*sz+z.toNat*j.size,none⟩)) (.va (.ptr ⟨i,k,e+z.toNat,sz,0⟩)) ?_ ?_ ?_ d
    ·simp[Instr.indexAt,asIntOf,aV hΘ D,s,dz hΘ E,addr_add]
    ·simp[SV.rel,SA.den,Pl.addr,f,qbi]
    ·simpa[SV.below,SA.below]using B
   ·split at d
    ·rename_i f;have f:=qm f;obtain⟨G,s,d⟩:=d;subst G;subst f;simp only[SV.rel,SA.den,jy,if_false]at m g;subst m;subst g;refine YldS.mk l (.pointer (some ⟨ρ i k,e*1+z.toNat*j.size,none⟩)) (.va (.ptr ⟨i,k,e+z.toNat*j.size,1,0⟩)) ?_ ?_ ?_ d
     ·simp[Instr.indexAt,asIntOf,aV hΘ D,s,dz hΘ E,addr_add]
     ·simp[SV.rel,SA.den,Pl.addr]
     ·simpa[SV.below,SA.below]using B
    ·exact d.elim
  ·exact d.elim
 ·exact d.elim
def gZ(Θ:Tys)(t:TypeId)(x y:SV)(h:Hp)(nx:Nat)(K:Kt):Prop:=
 match Θ t,x,y with
 |some ⟨.string,_,_,_⟩,.va (.str s),.va (.int _ z)=>0<=z/\∃b,s[z.toNat]? =some b/\K (.va (.int .u8 b.toNat)) h nx
 |some ⟨.array n elem,_,_,_⟩,.agg l,.va (.int _ z)=>match Θ elem with
  |some j=>(0<=z/\z < (n:Int))/\∃xs,dA l (z.toNat*j.size) j.size=some xs/\(match aggD j.d with
   |true=>K (.agg xs) h nx
   |false=>match xs with
    |[a]=>K (.va a) h nx
    |_=>False)
  |none=>False
 |_,_,_=>False
theorem og{α:Type}:∀{l:List α} {i:Nat} {a:α},l[i]? =some a->dA l (i*1) 1=some [a]
 |[],i,a,h=>by simp at h
 |x::r,0,a,h=>by simp at h;subst h;rfl
 |x::r,i+1,a,h=>by
  have:=og (l:=r) (i:=i) (a:=a) (by simpa using h);rw[qcq]at this ⊢;exact this
theorem tX(hΘ:Θ.Ok P){t:TypeId}{x y:SV}{v u:Value}(d:gZ Θ t x y h nx K)(f:Sat C ρ h nx w)(m:x.rel ρ v)(e:y.rel ρ u)(L:x.below nx):
  YldS P (Instr.index t v u) ρ h nx w K:=by
 unfold gZ at d;split at d
 ·rename_i a b c s M z k;obtain⟨p,b,g,d⟩:=d;simp only[SV.rel,SA.den]at m e;subst m;subst e;refine YldS.mk f (.int .u8 b.toNat) (.va (.int .u8 b.toNat)) ?_ rfl trivial d
  have o:(⟨s.toArray⟩:ByteArray)[z.toNat]? =some b:=by
   have B:=(qg.1 g).1;have R:=(qg.1 g).2;rw[getElem?_pos (⟨s.toArray⟩:ByteArray) z.toNat (by simpa[ByteArray.size]using B)]
   congr 1
  simp[Instr.index,asIntOf,aV hΘ k,p,o]
 ·rename_i n D a b c l M z k;split at d
  ·rename_i j A;obtain⟨p,xs,o,d⟩:=d;simp only[SV.rel,SA.den]at m e;subst m;subst e;obtain⟨pre,E,h1,G,I⟩:=gu _ _ _ _ o;have i:∀a∈xs,a.below nx:=fun a J=>L a (by rw[h1];simp[J])
   obtain⟨O,Q⟩:=xI (ρ:=ρ) hΘ A l _ xs o w;split at d
   ·rename_i q;refine YldS.mk f _ (.agg xs) ?_ rfl i d;simp[Instr.index,asIntOf,aV hΘ k,p,dz hΘ A,O q]
   ·rename_i q;split at d
    ·rename_i a;refine YldS.mk f _ (.va a) ?_ rfl (i a ss) d;simp[Instr.index,asIntOf,aV hΘ k,p,dz hΘ A,Q q a rfl]
    ·exact d.elim
  ·exact d.elim
 ·exact d.elim
def opInt:Option SV->Option (Option Int)
 |none=>some none
 |some (.va (.int _ z))=>some (some z)
 |_=>none
def bnds(len cap:Nat)(a b:Option Int)(K:Nat->Nat->Prop):Prop:=
 match b with
 |none=>match a with
  |none=>K 0 len
  |some l=>(0<=l/\l<=(len:Int))/\K l.toNat len
 |some z=>(0<=z/\z<=(cap:Int))/\(match a with
  |none=>K 0 z.toNat
  |some l=>(0<=l/\l<=z)/\K l.toNat z.toNat)
def relO(ρ:Rho):Option SV->Option Value->Prop
 |none,none=>True
 |some s,some v=>s.rel ρ v
 |_,_=>False
theorem fU{isS:Bool}{len cap:Nat}{m i:Option SV}{f e:Option Value}{n g:Option Int}{K:Nat->Nat->Prop}(d:opInt m=some n)(b:opInt i=some g)(p:relO ρ m f)(o:relO ρ i e)
  (c:bnds len cap n g K)(w:World):∃l b,K l b/\l<=b/\(b<=cap\/(g=none/\b=len))/\(Instr.sliceBounds isS len cap f e none).run P w=.ok (l,b,cap) w:=by
 have x:(m=none/\f=none/\n=none)\/∃k z,m=some (.va (.int k z))/\f=some (.int k z)/\n=some z:=by
  cases m with
  |none=>cases f with
   |none=>left;simp[opInt]at d;simp[d]
   |some v=>exact p.elim
  |some s=>cases f with
   |none=>cases s<;>exact p.elim
   |some v=>
    right;cases s with
    |va a=>cases a<;>simp[opInt]at d<;>(simp only[relO,SV.rel,SA.den]at p;subst p;exact⟨_,_,rfl,rfl,d.symm⟩)
    |agg l=>simp[opInt]at d
    |tup l=>simp[opInt]at d
    |junk=>simp[opInt]at d
 have u:(i=none/\e=none/\g=none)\/∃k z,i=some (.va (.int k z))/\e=some (.int k z)/\g=some z:=by
  cases i with
  |none=>cases e with
   |none=>left;simp[opInt]at b;simp[b]
   |some v=>exact o.elim
  |some s=>cases e with
   |none=>cases s<;>exact o.elim
   |some v=>
    right;cases s with
    |va a=>cases a<;>simp[opInt]at b<;>(simp only[relO,SV.rel,SA.den]at o;subst o;exact⟨_,_,rfl,rfl,b.symm⟩)
    |agg l=>simp[opInt]at b
    |tup l=>simp[opInt]at b
    |junk=>simp[opInt]at b
 rcases x with⟨-,rfl,rfl⟩ | ⟨E,q,-,rfl,rfl⟩<;>rcases u with⟨-,rfl,rfl⟩ | ⟨D,A,-,rfl,rfl⟩<;>simp only[bnds]at c
 ·exact⟨0,len,c,by omega,.inr ⟨rfl,rfl⟩,by simp[Instr.sliceBounds]⟩
 ·obtain⟨j,c⟩:=c;exact⟨0,A.toNat,c,by omega,.inl oo,by simp[Instr.sliceBounds,Instr.sliceBound,asIntOf,j]⟩
 ·obtain⟨j,c⟩:=c;exact⟨q.toNat,len,c,by omega,.inr ⟨rfl,rfl⟩,by simp[Instr.sliceBounds,Instr.sliceBound,asIntOf,j]⟩
 ·obtain⟨j,y,c⟩:=c;refine⟨q.toNat,A.toNat,c,by omega,.inl oo,?_⟩;have B:0<=q/\q<=(A.toNat:Int):=⟨y.1,by omega⟩
  simp only[Instr.sliceBounds,Instr.sliceBound,asIntOf,Sem.run_bind,Sem.run_pure,Result.andThen_ok,if_pos j,if_pos B]
def g5(Θ:Tys)(t:TypeId)(x:SV)(c b mx:Option SV)(h:Hp)(nx:Nat)(K:Kt):Prop:=
 match mx with
 |some _=>False
 |none=>match opInt c,opInt b with
  |some l',some h'=>match Θ t,x with
   |some ⟨.string,_,_,_⟩,.va (.str s)=>bnds s.length s.length l' h' fun l m=>K (.va (.str ((s.take m).drop l))) h nx
   |some ⟨.slice elem,_,_,_⟩,.va (.slice nil i k e sz len cap)=>match Θ elem with
    |some j=>match Nat.beq sz j.size with
     |true=>bnds len cap l' h' fun l m=>K (.va (.slice nil i k (if cap=l then e else e+l) sz (m - l) (cap - l))) h nx
     |false=>match Nat.beq sz 1 with
      |true=>bnds len cap l' h' fun l m=>K (.va (.slice nil i k (if cap=l then e else e+l*j.size) sz (m - l) (cap - l))) h nx
      |false=>match nil with
       |true=>bnds len cap l' h' fun l m=>K (.va (.slice nil i k e sz (m - l) (cap - l))) h nx
       |false=>False
    |none=>False
   |some ⟨.slice elem,_,_,_⟩,.va .nilsl=>(match Θ elem with
    |some _=>bnds 0 0 l' h' fun _ _=>K (.va .nilsl) h nx
    |none=>False)
   |some ⟨.slice elem,_,_,_⟩,.va (.odd p)=>(match Θ elem with
    |some _=>bnds 0 0 l' h' fun _ _=>K (.va (.odd p)) h nx
    |none=>False)
   |some ⟨.pointer arr,_,_,_⟩,.va (.ptr p)=>(match Θ arr with
    |some ⟨.array n elem,_,_,_⟩=>(match Θ elem with
     |some j=>bnds n n l' h' fun l m=>K (.va (.slice false p.i p.k (if n=l then p.e*p.sz+p.o else p.e*p.sz+p.o+l*j.size) 1 (m - l) (n - l))) h nx
     |none=>False)
    |_=>False)
   |some ⟨.array n elem,_,_,_⟩,.va (.ptr p)=>(match Θ elem with
    |some j=>bnds n n l' h' fun l m=>K (.va (.slice false p.i p.k (if n=l then p.e*p.sz+p.o else p.e*p.sz+p.o+l*j.size) 1 (m - l) (n - l))) h nx
    |none=>False)
   |_,_=>False
  |_,_=>False
theorem Du(s:List UInt8)(l m:Nat):(⟨s.toArray⟩:ByteArray).extract l m=⟨((s.take m).drop l).toArray⟩:=by
 apply ByteArray.ext;simp[ByteArray.data_extract,qdt]
theorem tY(hΘ:Θ.Ok P){t:TypeId}{x:SV}{v:Value}{V U mx:Option SV}{X W R:Option Value}(f:g5 Θ t x V U mx h nx K)(A:Sat C ρ h nx w)(G:x.rel ρ v)
  (L:relO ρ V X)(J:relO ρ U W)(rm:relO ρ mx R)(Q:x.below nx):YldS P (Instr.sliceAt t v X W R) ρ h nx w K:=by
 unfold g5 at f;split at f
 ·exact f.elim
 ·have T:R=none:=by cases R with
   |none=>rfl
   |some v=>exact rm.elim
  subst T;split at f
  ·rename_i l' h' y u;split at f
   ·rename_i a b c s g;simp only[SV.rel,SA.den]at G;subst G;obtain⟨l,m,B,D,o,d⟩:=fU (P:=P) (isS:=false) y u L J f w;refine YldS.mk A (.string ⟨((s.take m).drop l).toArray⟩) (.va (.str ((s.take m).drop l))) ?_ rfl trivial B;have q:(⟨s.toArray⟩:ByteArray).size=s.length:=by simp[ByteArray.size]
    simp[Instr.sliceAt,aV hΘ g,Instr.slice,q,d,Du]
   ·rename_i E a b c nil i k e sz len cap g;simp only[SV.rel,SA.den]at G;subst G;split at f
    ·rename_i j I;split at f
     ·rename_i q;have q:=qm q;obtain⟨l,m,B,D,o,d⟩:=fU (P:=P) (isS:=true) y u L J f w;refine YldS.mk A (.slice (if cap=l then(if nil=true then none else some ⟨ρ i k,e*sz,none⟩)else(if nil=true then none else some (⟨ρ i k,e*sz,none⟩:Addr)).map (·.add (l*j.size))) (m - l) (cap - l)) _ ?_ ?_ ?_ B
      ·simp[Instr.sliceAt,aV hΘ g,Instr.slice,d,dz hΘ I]
      ·simp only[SV.rel,SA.den];cases nil<;>by_cases M:cap=l<;>simp[M,addr_add,q,qbi]
      ·exact Q
     ·split at f
      ·rename_i q;have q:=qm q;subst q;obtain⟨l,m,B,D,o,d⟩:=fU (P:=P) (isS:=true) y u L J f w;refine YldS.mk A (.slice (if cap=l then(if nil=true then none else some ⟨ρ i k,e*1,none⟩)else(if nil=true then none else some (⟨ρ i k,e*1,none⟩:Addr)).map (·.add (l*j.size))) (m - l) (cap - l)) _ ?_ ?_ ?_ B
       ·simp[Instr.sliceAt,aV hΘ g,Instr.slice,d,dz hΘ I]
       ·simp only[SV.rel,SA.den];cases nil<;>by_cases M:cap=l<;>simp[M,addr_add]
       ·exact Q
      ·split at f
       ·obtain⟨l,m,B,D,o,d⟩:=fU (P:=P) (isS:=true) y u L J f w;refine YldS.mk A (.slice none (m - l) (cap - l)) (.va (.slice true i k e sz (m - l) (cap - l))) ?_ (by simp[SV.rel,SA.den]) (.inl rfl) B;simp[Instr.sliceAt,aV hΘ g,Instr.slice,d,dz hΘ I]
       ·exact f.elim
    ·exact f.elim
   ·rename_i E a b c g;simp only[SV.rel,SA.den]at G;subst G;split at f
    ·rename_i j I;obtain⟨l,m,B,D,o,d⟩:=fU (P:=P) (isS:=true) y u L J f w;have S:m=0:=by omega
     have O:l=0:=by omega
     subst S;subst O;refine YldS.mk A (.slice none 0 0) (.va .nilsl) ?_ rfl trivial B;simp[Instr.sliceAt,aV hΘ g,Instr.slice,d,dz hΘ I]
    ·exact f.elim
   ·rename_i E a b c p g;simp only[SV.rel,SA.den]at G;subst G;split at f
    ·rename_i j I;obtain⟨l,m,B,D,o,d⟩:=fU (P:=P) (isS:=true) y u L J f w;have S:m=0:=by omega
     have O:l=0:=by omega
     subst S;subst O;refine YldS.mk A (.slice (some p) 0 0) (.va (.odd p)) ?_ rfl trivial B;simp[Instr.sliceAt,aV hΘ g,Instr.slice,d,dz hΘ I]
    ·exact f.elim
   ·rename_i Y a b c p g;simp only[SV.rel,SA.den]at G;subst G;split at f
    ·rename_i n E a2 b2 c2 Z;split at f
     ·rename_i j I;obtain⟨l,m,B,D,o,d⟩:=fU (P:=P) (isS:=false) y u L J f w;refine YldS.mk A (.slice (some (if n=l then p.addr ρ else(p.addr ρ).add (l*j.size))) (m - l) (n - l)) _ ?_ ?_ ?_ B
      ·simp[Instr.sliceAt,aV hΘ g,aV hΘ Z,Instr.slice,asAddr,d,dz hΘ I]
      ·simp only[SV.rel,SA.den,Pl.addr];by_cases M:n=l<;>simp[M,addr_add]
      ·exact .inr Q
     ·exact f.elim
    ·exact f.elim
   ·rename_i n E a b c p g;simp only[SV.rel,SA.den]at G;subst G;split at f
    ·rename_i j I;obtain⟨l,m,B,D,o,d⟩:=fU (P:=P) (isS:=false) y u L J f w;refine YldS.mk A (.slice (some (if n=l then p.addr ρ else(p.addr ρ).add (l*j.size))) (m - l) (n - l)) _ ?_ ?_ ?_ B
     ·simp[Instr.sliceAt,aV hΘ g,Instr.sureAddr,d,dz hΘ I]
     ·simp only[SV.rel,SA.den,Pl.addr];by_cases M:n=l<;>simp[M,addr_add]
     ·exact .inr Q
    ·exact f.elim
   ·exact f.elim
  ·exact f.elim
end
section
variable {P:Program} {Θ:Tys} {C:Ctx} {ρ:Rho} {h:Hp} {nx:Nat} {w:World} {K:Kt}
def places(Θ:Tys):List Field->Option (List (Nat×Nat))
 |[]=>some []
 |f::r=>match Θ f.type with
  |some j=>match places Θ r with
   |some l=>some ((f.offset,j.size)::l)
   |none=>none
  |none=>none
def sfill(b:Nat->Option (Nat×Nat))(a:List SA):List (Nat×SV)->Option (List SA)
 |[]=>some a
 |(i,v)::r=>match b i,cellsOf v with
  |some (off,size),some vs=>match Nat.beq vs.length size with
   |true=>match setAt a off vs with
    |some c=>sfill b c r
    |none=>none
   |false=>none
  |_,_=>none
theorem foldl_set(off:Nat):∀(vs:List Value) (j:Nat) (cs:List Value),off+j+vs.length<=cs.length->
  (vs.zipIdx j).foldl (fun(c:Array Value) (x:Value×Nat)=>c.setIfInBounds (off+x.2) x.1) cs.toArray=(cs.take (off+j)++vs++cs.drop (off+j+vs.length)).toArray
 |[],j,cs,_=>by simp
 |v::r,j,cs,hl=>by
  simp only[List.zipIdx_cons,qai];have:=foldl_set off r (j+1) (cs.set (off+j) v) (by simp at hl ⊢;omega);simp only[List.setIfInBounds_toArray];rw[this]
  congr 1
  have e:=list_seg_step cs (off+j) v r (by simp at hl ⊢;omega);simpa[qbf]using e
theorem mA{D:Nat->Option (Nat×Nat)}:∀(parts:List (Nat×SV)) (e:List (Nat×Value)) (b out:List SA),sfill D b parts=some out->
  e.length=parts.length->(∀(j:Nat) (p:Nat×SV) (q:Nat×Value),parts[j]? =some p->e[j]? =some q->p.1=q.1/\p.2.rel ρ q.2)->
  Instr.fill D (b.map (SA.den ρ)).toArray e=some (out.map (SA.den ρ)).toArray/\
   (∀n,(∀a∈b,a.below n)->(∀p∈parts,p.2.below n)->∀a∈out,a.below n)/\out.length=b.length
 |[],e,b,out,hs,hl,_=>by
  simp[sfill]at hs;subst hs;have:e=[]:=by simpa using hl
  subst this;exact⟨rfl,fun n u _=>u,rfl⟩
 |(i,s)::r,[],b,out,_,hl,_=>by simp at hl
 |(i,s)::r,(i',v)::vr,b,out,hs,hl,hrel=>by
  simp only[sfill]at hs;split at hs
  ·rename_i off G vs k m;split at hs
   ·rename_i d;have d:=qm d;split at hs
    ·rename_i c u;obtain⟨h1,A⟩:=hrel 0 (i,s) (i',v) ss ss;simp only at h1 A;subst h1;obtain⟨pre,old,E,o,y,O,Q⟩:=jK _ _ _ _ u;obtain⟨R,S,T⟩:=mA r vr c out hs (by simpa using hl) (fun j p q k M=>hrel (j+1) p q (by simpa using k) (by simpa using M));have f:=nW m A;refine⟨?_,fun n B l a ha=>S n ?_ (fun p k=>l p (by simp[k])) a ha,?_⟩
     ·simp only[Instr.fill,k,f];have g:¬(off+vs.length>b.length):=by rw[o];simp;omega
      simp only[y9,qa,d,ne_eq,not_true_eq_false,decide_false,qa6];rw[d]at g;simp only[g,decide_false,jy,if_false];have L:=foldl_set off (vs.map (SA.den ρ)) 0 (b.map (SA.den ρ)) (by simp;omega)
      have I:((vs.map (SA.den ρ)).toArray.zipIdx).foldl (fun(c:Array Value) (x:Value×Nat)=>c.setIfInBounds (off+x.2) x.1) (b.map (SA.den ρ)).toArray=(c.map (SA.den ρ)).toArray:=by
       rw[<-Array.foldl_toList];simp only[Array.toList_zipIdx];rw[L,o,y];simp[<-O,<-Q,List.drop_append]
      have J:(fun(cs:Array Value) (x:Value×Nat)=>match x with | (c,j)=>cs.setIfInBounds (off+j) c)=(fun(c:Array Value) (x:Value×Nat)=>c.setIfInBounds (off+x.2) x.1):=rfl;rw[J,I];exact R
     ·intro a ha;rw[y]at ha;simp at ha;rcases ha with ha | ha | ha
      ·exact B a (by rw[o];simp[ha])
      ·exact nK m (l (i,s) ss) a ha
      ·exact B a (by rw[o];simp[ha])
     ·rw[T,o,y];simp;omega
    ·cases hs
   ·cases hs
  ·cases hs
theorem vN(hΘ:Θ.Ok P):∀(a:List Field) (l:List (Nat×Nat)),places Θ a=some l->∀w,(a.mapM fun f=>do pure (f.offset,<-Go.sizeOf f.type):Sem (List (Nat×Nat))).run P w=.ok l w
 |[],l,hs,w=>by simp[places]at hs;subst hs;rfl
 |f::r,l,hs,w=>by
  simp only[places]at hs;split at hs
  ·rename_i j b;split at hs
   ·rename_i d c;cases hs
    have ih:=vN hΘ r d c w;simp only[List.mapM_cons,Sem.run_bind,dz hΘ b,Result.andThen_ok,Sem.run_pure,ih]
   ·cases hs
  ·cases hs
def pO(Θ:Tys)(t:TypeId)(parts:List (Nat×SV))(h:Hp)(nx:Nat)(K:Kt):Prop:=
 match Θ t with
 |some ⟨.struct fields,_,_,zero⟩=>match places Θ fields.toList with
  |some pl=>match sfill (nth pl) zero parts with
   |some cs=>K (.agg cs) h nx
   |none=>False
  |none=>False
 |some ⟨.array _ elem,_,_,zero⟩=>match Θ elem with
  |some j=>match sfill (fun i=>some (i*j.size,j.size)) zero parts with
   |some cs=>K (.agg cs) h nx
   |none=>False
  |none=>False
 |_=>False
theorem DR(hΘ:Θ.Ok P){t:TypeId}{parts:List (Nat×SV)}{g:Array (Nat×Value)}(d:pO Θ t parts h nx K)(o:Sat C ρ h nx w)(E:g.size=parts.length)
  (G:∀(j:Nat) (p:Nat×SV) (q:Nat×Value),parts[j]? =some p->g[j]? =some q->p.1=q.1/\p.2.rel ρ q.2)(D:∀p∈parts,p.2.below nx):YldS P (Instr.build t g) ρ h nx w K:=by
 unfold pO at d;split at d
 ·rename_i c a b zero l;split at d
  ·rename_i B x;split at d
   ·rename_i cs k;obtain⟨f1,f2,_⟩:=mA (ρ:=ρ) parts g.toList zero cs k (by simpa using E) (fun j p q u y=>G j p q u (by simpa using y));refine YldS.mk o (.agg (cs.map (SA.den ρ)).toArray) (.agg cs) ?_ rfl (f2 nx (fun a s=>SA.below_mono (jx _) ((hΘ t _ l).bel a s)) D) d
    have J:(c.mapM fun f=>do pure (f.offset,<-Go.sizeOf f.type):Sem (Array (Nat×Nat))).run P w=.ok B.toArray w:=by
     rw[qc6,Sem.run_map,vN hΘ _ _ x w];rfl
    have A:(zval ρ ⟨.struct c,a,b,zero⟩).cells=(zero.map (SA.den ρ)).toArray:=rfl;have e:(fun i=>B.toArray[i]?)=nth B:=by funext i;rw[fG];simp
    simp only[Instr.build,Sem.run_bind,iG hΘ l w ρ,Result.andThen_ok,aV hΘ l,J,A,e,f1];rfl
   ·exact d.elim
  ·exact d.elim
 ·rename_i n m a b zero l;split at d
  ·rename_i j I;split at d
   ·rename_i cs k;obtain⟨f1,f2,_⟩:=mA (ρ:=ρ) parts g.toList zero cs k (by simpa using E) (fun j p q u y=>G j p q u (by simpa using y));refine YldS.mk o (.agg (cs.map (SA.den ρ)).toArray) (.agg cs) ?_ rfl (f2 nx (fun a s=>SA.below_mono (jx _) ((hΘ t _ l).bel a s)) D) d;have A:(zval ρ ⟨.array n m,a,b,zero⟩).cells=(zero.map (SA.den ρ)).toArray:=rfl;simp only[Instr.build,Sem.run_bind,iG hΘ l w ρ,Result.andThen_ok,aV hΘ l,dz hΘ I,A,f1];rfl
   ·exact d.elim
  ·exact d.elim
 ·exact d.elim
end
section
variable {P:Program} {Θ:Tys} {C:Ctx} {ρ:Rho} {h:Hp} {nx:Nat} {w:World} {K:Kt}
def chunk{α:Type}(sz:Nat):Nat->List α->List (List α)
 |0,_=>[]
 |n+1,l=>l.take sz::chunk sz n (l.drop sz)
theorem sP{α:Type}(sz:Nat):∀(n:Nat) (l:List α),l.length=n*sz->(chunk sz n l).flatten=l
 |0,l,h=>by simp at h;simp[chunk,h]
 |n+1,l,h=>by
  simp only[chunk,jm];rw[sP sz n (l.drop sz) (by simp[h,qcg])];exact yl sz l
theorem oK{α:Type}(sz:Nat):∀(n:Nat) (l:List α),(chunk sz n l).length=n
 |0,l=>rfl
 |n+1,l=>by simp[chunk,oK sz n]
theorem wg{α:Type}(sz:Nat):∀(n:Nat) (l:List α),l.length=n*sz->∀x∈chunk sz n l,x.length=sz
 |0,l,h,x,hx=>by simp[chunk]at hx
 |n+1,l,h,x,hx=>by
  simp only[chunk,qh]at hx;rcases hx with rfl | hx
  ·simp[h,qcg]
  ·exact wg sz n (l.drop sz) (by simp[h,qcg]) x hx
theorem uS{α:Type}(sz:Nat):∀(n:Nat) (l:List α),∀x∈chunk sz n l,∀a∈x,a∈l
 |0,l,x,hx=>by simp[chunk]at hx
 |n+1,l,x,hx=>by
  simp only[chunk,qh]at hx;rcases hx with rfl | hx
  ·intro a b;exact yh b
  ·intro a b;exact qas (uS sz n (l.drop sz) x hx a b)
theorem td(zs:List Value):∀n,((Array.range (n*zs.length)).map (zs.toArray[· % zs.length]!))=((List.replicate n zs).flatten).toArray:=by
 intro n;apply Array.ext';simp only[Array.toList_map,Array.toList_range]
 induction n with
 |zero=>simp
 |succ n ih=>
  rw[qcg,qcw,List.range_add,qo,qb2,jm];simp only[jq]
  congr 1
  ·apply qbc;intro i;by_cases a:i < zs.length
   ·simp[a,ju a]
   ·simp[a]
  ·rw[<-ih];apply jp;intro i _;simp[Nat.add_mod_left]
def nT(Θ:Tys)(t:TypeId)(len:Nat)(parts:List (Nat×SV))(h:Hp)(nx:Nat)(K:Kt):Prop:=
 match Θ t with
 |some ⟨.slice elem,_,_,_⟩=>match Θ elem with
  |some j=>match j.size with
   |0=>False
   |_+1=>match Nat.ble (len*j.size) 16777216 with
    |true=>match sfill (fun i=>some (i*j.size,j.size)) (List.replicate len j.zero).flatten parts with
     |some cs=>K (.va (.slice false nx 0 0 j.size len len)) (lput h nx (.one (.arr elem j.size (chunk j.size len cs) len))) (nx+1)
     |none=>False
    |false=>False
  |none=>False
 |_=>False
theorem CK(hΘ:Θ.Ok P){t:TypeId}{len:Nat}{parts:List (Nat×SV)}{e:Array (Nat×Value)}(c:nT Θ t len parts h nx K)(J:Sat C ρ h nx w)(O:e.size=parts.length)
  (S:∀(j:Nat) (p:Nat×SV) (q:Nat×Value),parts[j]? =some p->e[j]? =some q->p.1=q.1/\p.2.rel ρ q.2)(M:∀p∈parts,p.2.below nx):Yld P (Instr.buildSlice t len e) C ρ nx w K:=by
 unfold nT at c;split at c
 ·rename_i d a b V s;split at c
  ·rename_i j u;split at c
   ·exact c.elim
   ·rename_i U T;split at c
    ·rename_i n;have n:=nb n;split at c
     ·rename_i cs D;have k:=hΘ d j u;have l:=k.len;obtain⟨f1,f2,f3⟩:=mA (ρ:=ρ) parts e.toList _ cs D (by simpa using O) (fun j p q Q R=>S j p q Q (by simpa using R))
      have f:cs.length=len*j.size:=by
       rw[f3];simp[l]
      have B:∀a∈cs,a.below nx:=f2 nx (fun a A=>by
       obtain⟨x,G,m⟩:=qa7.1 A;rw[(qca.1 G).2]at m;exact SA.below_mono (jx _) (k.bel a m)) M
      have I:=jN k ρ
      have g:((Array.range (len*j.size)).map ((zval ρ j).cells[· % (zval ρ j).cells.size]!))=((List.replicate len j.zero).flatten.map (SA.den ρ)).toArray:=by
       have:=td (j.zero.map (SA.den ρ)) len;simp only[qa,l]at this;rw[I];simp only[y9,qa,l];rw[this];congr 1;simp
      have o:(Instr.buildSlice t len e).run P w=.ok (.slice (some ⟨w.heap.size,0,none⟩) len len) (w.alloc (.cells (cs.map (SA.den ρ)).toArray d (0,0))):=by
       have h1:¬(len*j.size>2^24):=by omega
       by_cases y:len*j.size=0
       ·have E:len=0:=by rcases Nat.mul_eq_zero.1 y with h' | h'<;>omega
        subst E;have L:((Array.range (0*j.size)).map (fun x=>((#[]:Array Value))[x % (#[]:Array Value).size]!))=((List.replicate 0 j.zero).flatten.map (SA.den ρ)).toArray:=by simp
        simp only[Instr.buildSlice,Sem.run_bind,aV hΘ s,Result.andThen_ok,dz hΘ u,if_neg h1,if_pos y,Sem.run_pure];simp only[L,f1,newRow,Sem.run_bind,Sem.run_pure,run_newObj,Result.andThen_ok];rfl
       ·simp only[Instr.buildSlice,Sem.run_bind,aV hΘ s,Result.andThen_ok,dz hΘ u,if_neg h1,if_neg y,Sem.run_pure,iG hΘ u w ρ,g,f1,newRow,run_newObj];rfl
      refine⟨_,_,_,_,_,rext ρ nx w.heap.size,o,?_,?_,c,J.new (.arr d j.size (chunk j.size len cs) len) _ (fun x G a A=>B a (uS _ _ _ x G a A)) ?_,fun i s=>eA s,qaf _⟩
      ·simp[SV.rel,SA.den,dm]
      ·simp[SV.below,SA.below]
      ·refine⟨wg _ _ _ f,by rw[oK];exact qi _,[],by simp[oK],(0,0),NoFr.zero _,?_⟩;rw[sP _ _ _ f];simp
     ·exact c.elim
    ·exact c.elim
  ·exact c.elim
 ·exact c.elim
def rdEls(h:Hp)(i k e sz n:Nat)(K:List (List SA)->Prop):Prop:=
 match lget h i with
 |some (.one (.arr _ sz' L _))=>(match k with
  |0=>match Nat.beq sz sz' with
   |true=>e+n<=L.length/\∃X,(L.drop e).take n=X/\K X
   |false=>False
  |_+1=>False)
 |some (.opt c (.arr _ sz' L _))=>c=true/\(match k with
  |0=>match Nat.beq sz sz' with
   |true=>e+n<=L.length/\∃X,(L.drop e).take n=X/\K X
   |false=>False
  |_+1=>False)
 |some (.frz F)=>∃t L r,F k=some (.arr t sz L r)/\e+n<=L.length/\∃X,(L.drop e).take n=X/\K X
 |some (.lnk b)=>(match lget h 0 with
  |some (.frz F)=>∃t L r,F (b k)=some (.arr t sz L r)/\e+n<=L.length/\∃X,(L.drop e).take n=X/\K X
  |_=>False)
 |some (.fam m c f)=>(k < m/\c k=true)/\(match f k with
  |.arr _ sz' L _=>match Nat.beq sz sz' with
   |true=>e+n<=L.length/\∃X,(L.drop e).take n=X/\K X
   |false=>False
  |_=>False)
 |_=>False
theorem gh{α:Type}{sz:Nat}:∀(L:List (List α)),(∀y∈L,y.length=sz)->L.flatten.length=L.length*sz
 |[],_=>by simp
 |y::L,h=>by
  have:=gh L (fun z a=>h z (by simp[a]));simp[this,h y ss,qcg,qcw]
theorem tI{i k e sz n:Nat}{K:List (List SA)->Prop}(d:rdEls h i k e sz n K)(s:Sat C ρ h nx w):
  ∃X,K X/\X.length=n/\(∀x∈X,x.length=sz)/\(∀x∈X,∀a∈x,a.below nx)/\∃t pre p,RowAt w (ρ i k) t (pre++X.flatten.map (SA.den ρ)++p)/\pre.length=e*sz:=by
 have u:∀i k B t j L g,lget h i=some B->B.has k->B.at k=.arr t j L g->Nat.beq sz j=true->e+n<=L.length->(∃X,(L.drop e).take n=X/\K X)->
   ∃X,K X/\X.length=n/\(∀x∈X,x.length=sz)/\(∀x∈X,∀a∈x,a.below nx)/\∃t pre p,RowAt w (ρ i k) t (pre++X.flatten.map (SA.den ρ)++p)/\pre.length=e*sz:=by
  intro i k B t j L g l V R A aa Q;obtain⟨X,rfl,Q⟩:=Q;have A:=qm A;subst A;obtain⟨o,ho,I⟩:=s.blk _ B l _ V;have G:=s.wf _ B l _ V;rw[R]at I G;obtain⟨T,g2,J,g3,U⟩:=I;refine⟨_,Q,by simp;omega,fun x S=>T x (qas (yh S)),fun x S=>G x (qas (yh S)),t,(L.take e).flatten.map (SA.den ρ),((L.drop e).drop n).flatten.map (SA.den ρ)++J,⟨o,ho,?_⟩,?_⟩
  ·have W:L.flatten=(L.take e).flatten++(((L.drop e).take n).flatten++((L.drop e).drop n).flatten):=by
    rw[<-yu,<-yu,yl,yl]
   rw[W]at U;simpa[qj]using U
  ·rw[qa,gh (L.take e) (fun y hy=>T y (yh hy))];rw[qk,qaq oo]
 have q:=u i k;unfold rdEls at d;split at d
 ·rename_i t j L g l;split at d
  ·split at d
   ·rename_i E;exact q _ _ _ _ _ l rfl rfl E d.1 d.2
   ·exact d.elim
  ·exact d.elim
 ·rename_i c t j L g l;obtain⟨Y,d⟩:=d;split at d
  ·split at d
   ·rename_i E;exact q _ _ _ _ _ l ⟨Y,rfl⟩ rfl E d.1 d.2
   ·exact d.elim
  ·exact d.elim
 ·rename_i F l;obtain⟨t,L,r,D,h1,M⟩:=d;exact q _ t sz L r l (by simp[Ent.has,D]) (by simp[Ent.at,D]) ss h1 M
 ·rename_i b l;split at d
  ·rename_i F O;obtain⟨t,L,r,D,h1,M⟩:=d;rw[s.lnk _ _ l k,<-s.id0 (b k)];exact u 0 (b k) _ t sz L r O (by simp[Ent.has,D]) (by simp[Ent.at,D]) ss h1 M
  ·exact d.elim
 ·rename_i m c f l;obtain⟨hm,d⟩:=d;split at d
  ·rename_i t j L g Z;split at d
   ·rename_i E;exact q _ _ _ _ _ l hm Z E d.1 d.2
   ·exact d.elim
  ·exact d.elim
 ·exact d.elim
theorem jE(s:List UInt8):(s.map fun b=>[SA.int .u8 b.toNat]).flatten=s.map fun b=>SA.int .u8 b.toNat:=by
 induction s with
 |nil=>rfl
 |cons b r ih=>simpa using ih
def src(Θ:Tys)(t:TypeId)(x:SV)(sz:Nat)(h:Hp)(K:List (List SA)->Prop):Prop:=
 match Θ t,x with
 |some ⟨.slice _,_,_,_⟩,.va (.slice nil i k e sz' len _)=>match nil with
  |true=>len=0/\K []
  |false=>match Nat.beq sz' sz with
   |true=>rdEls h i k e sz len K
   |false=>match Nat.beq sz' 1 with
    |true=>∃X:List (List SA),X.length=len/\(∀x∈X,x.length=sz)/\(len=0\/rd h ⟨i,k,e,1,0⟩ (len*sz) fun xs=>xs=X.flatten)/\K X
    |false=>False
 |some ⟨.slice _,_,_,_⟩,.va .nilsl=>K []
 |some ⟨.slice _,_,_,_⟩,.va (.odd _)=>K []
 |some ⟨.string,_,_,_⟩,.va (.str s)=>match Nat.beq sz 1 with
  |true=>K (s.map fun b=>[SA.int .u8 b.toNat])
  |false=>False
 |_,_=>False
theorem Ab(hΘ:Θ.Ok P){t:TypeId}{x:SV}{v:Value}{sz:Nat}{K:List (List SA)->Prop}(g:src Θ t x sz h K)(s:Sat C ρ h nx w)(m:x.rel ρ v):
  ∃X,K X/\(∀x∈X,x.length=sz)/\(∀x∈X,∀a∈x,a.below nx)/\(∀d,(Builtin.lenOf v).run P d=.ok X.length d)/\
   (∀d,d.heap=w.heap->(Builtin.firstCells sz X.length v).run P d=.ok (X.flatten.map (SA.den ρ)).toArray d)/\
   ((∃e,P.underlying t=some (.slice e))\/P.underlying t=some .string):=by
 unfold src at g;split at g
 ·rename_i el a b c nil i k e S len cap I;have n:((∃e,P.underlying t=some (.slice e))\/P.underlying t=some .string):=.inl ⟨_,(hΘ t _ I).und⟩;split at g
  ·obtain⟨T,J⟩:=g;subst T;simp only[SV.rel,SA.den,if_true]at m;subst m;exact⟨[],J,by simp,by simp,fun d=>rfl,fun d _=>rfl,n⟩
  ·split at g
   ·rename_i A;have A:=qm A;subst A;simp only[SV.rel,SA.den,jy,if_false]at m;subst m;obtain⟨X,J,L,h1,V,t',pre,D,y,q⟩:=tI g s;refine⟨X,J,h1,V,fun d=>by rw[L];rfl,fun d B=>?_,n⟩
    have l:RowAt d (ρ i k) t' (pre++X.flatten.map (SA.den ρ)++D):=by
     obtain⟨o,Q,M⟩:=y;exact⟨o,by rw[B];exact Q,M⟩
    have G:=gh X h1
    have f:(loadCells ⟨ρ i k,e*S,none⟩ (X.flatten.map (SA.den ρ)).length).run P d=.ok (X.flatten.map (SA.den ρ)).toArray d:=
     run_loadCells_list (P:=P) d _ _ (fun j u n=>by
      rw[addr_add,l.cell,<-q];have O:j < (X.flatten.map (SA.den ρ)).length:=(qg.1 n).1;rw[qj,jt oo,qag,jo O];exact n)
    rw[qa,G]at f;exact f
   ·split at g
    ·rename_i A;have A:=qm A;subst A;simp only[SV.rel,SA.den,jy,if_false]at m;subst m;obtain⟨X,L,h1,hrd,J⟩:=g;have G:=gh X h1
     have E:(∀x∈X,∀a∈x,a.below nx)/\∀d,d.heap=w.heap->(loadCells ⟨ρ i k,e*1,none⟩ (X.flatten.map (SA.den ρ)).length).run P d=.ok (X.flatten.map (SA.den ρ)).toArray d:=by
      rcases hrd with T | hrd
      ·have W:X=[]:=ji oo;subst W;exact⟨by simp,fun d _=>run_loadCells_list (P:=P) d _ _ (fun j u n=>by simp at n)⟩
      ·obtain⟨xs,R,g1,U,t',pre,D,y,q⟩:=pr hrd s;subst R;refine⟨fun x m a Y=>U a (qa7.2 ⟨x,m,Y⟩),fun d B=>?_⟩
       have l:kF d (ρ i k) t' (pre++X.flatten.map (SA.den ρ)++D):=by
        obtain⟨o,Q,M⟩:=y;exact⟨o,by rw[B];exact Q,M⟩
       exact run_loadCells_list (P:=P) d _ _ (fun j u n=>by
        rw[addr_add,l.cell];have Z:pre.length=e*1:=by simpa using q
        rw[<-Z];have O:j < (X.flatten.map (SA.den ρ)).length:=(qg.1 n).1;rw[qj,jt oo,qag,jo O];exact n)
     refine⟨X,J,h1,E.1,fun d=>by rw[L];rfl,fun d B=>?_,n⟩;have f:=E.2 d B;rw[qa,G]at f;exact f
    ·exact g.elim
 ·rename_i el a b c I;simp only[SV.rel,SA.den]at m;subst m;exact⟨[],g,by simp,by simp,fun d=>rfl,fun d _=>rfl,.inl ⟨_,(hΘ t _ I).und⟩⟩
 ·rename_i el a b c p I;simp only[SV.rel,SA.den]at m;subst m
  exact⟨[],g,by simp,by simp,fun d=>rfl,fun d _=>by
   have L:=run_loadCells_list (P:=P) d p [] (fun j u n=>by simp at n);simpa[Builtin.firstCells]using L,.inl ⟨_,(hΘ t _ I).und⟩⟩
 ·rename_i a b c s' I;split at g
  ·rename_i A;have A:=qm A;subst A;simp only[SV.rel,SA.den]at m;subst m;refine⟨_,g,by simp,by simp[SA.below],fun d=>by simp[Builtin.lenOf,ByteArray.size],fun d _=>?_,.inr (hΘ t _ I).und⟩;simp only[Builtin.firstCells,Sem.run_pure]
   congr 1
   rw[jE s'];apply Array.ext';simp[ByteArray.data_extract,SA.den]
  ·exact g.elim
 ·exact g.elim
end
end Sx
