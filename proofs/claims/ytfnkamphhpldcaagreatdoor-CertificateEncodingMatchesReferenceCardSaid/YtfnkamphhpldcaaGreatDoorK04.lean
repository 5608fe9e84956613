import Derived.Test.YtfnkamphhpldcaaGreatDoorK03
set_option maxHeartbeats 64000000
namespace Sx
open Go
@[irreducible] def Br (b:Bool) (x y:Prop):Prop:=(b=true->x)/\(b=false->y)
variable {x y:Prop}
theorem br{b:Bool}(h1:b=true->x)(a:b=false->y):Br b x y:=by unfold Br;exact⟨h1,a⟩
theorem brd{b:Bool}(h:¬b=true)(k:y):Br b x y:=br (fun g=>absurd g h) fun _=>k
theorem bre{b:Bool}(h:¬b=false)(k:x):Br b x y:=br (fun _=>k) fun g=>absurd g h
variable {p:Prop}
theorem bri[Decidable p](h:p)(k:x):Br (decide p) x y:=br (fun _=>k) fun g=>absurd h (oe g)
theorem brj[Decidable p](h:¬p)(k:y):Br (decide p) x y:=br (fun g=>absurd (od g) h) fun _=>k
theorem gae{q:Prop}(h:¬q)(k:x):(p->x)/\(q->y):=⟨fun _=>k,fun g=>absurd g h⟩
theorem gaf{q:Prop}(h:¬p)(k:y):(p->x)/\(q->y):=⟨fun g=>absurd g h,fun _=>k⟩
section
variable {P:Program} {Θ:Tys} {C:Ctx} {ρ:Rho} {h:Hp} {nx:Nat} {w:World} {K:Kt}
theorem uf{α:Type}{sz:Nat}(L:List (List α))(e:Nat)(c:∀y∈L,y.length=sz)(b:e<=L.length):L.flatten.take (e*sz)=(L.take e).flatten/\L.flatten.drop (e*sz)=(L.drop e).flatten:=by
 have h1:(L.take e).flatten.length=e*sz:=by
  rw[qb0,jp (g:=fun _=>sz) (fun y d=>c y (yh d)),List.map_const',qdi,qk,qaq b]
 have a:L.flatten=(L.take e).flatten++(L.drop e).flatten:=by rw[<-yu,yl]
 rw[a];exact⟨qdn h1,List.drop_left' h1⟩
def clrB(j:TI)(e sz len:Nat)(b:SB)(K:SB->Prop):Prop:=
 match b with
 |.arr t' sz' L room=>(match Nat.beq sz sz',Nat.beq sz j.size with
  |true,true=>e+len<=L.length/\K (.arr t' sz' (L.take e++List.replicate len j.zero++L.drop (e+len)) room)
  |_,_=>False)
 |_=>False
def pP(Θ:Tys)(ts:List TypeId)(x:SV)(h:Hp)(nx:Nat)(K:Kt):Prop:=
 match ts,x with
 |[t],.va (.slice false i 0 e sz len _)=>(match Θ t with
  |some ⟨.slice elem,_,_,_⟩=>(match Θ elem,lget h i with
   |some j,some (.one b)=>clrB j e sz len b fun a=>K (.tup []) (lput h i (.one a)) nx
   |some j,some (.opt c b)=>c=true/\clrB j e sz len b fun a=>K (.tup []) (lput h i (.opt c a)) nx
   |_,_=>False)
  |_=>False)
 |_,_=>False
theorem Eo(hΘ:Θ.Ok P){ts:List TypeId}{ty:TypeId}{x:SV}{v:Value}(q:pP Θ ts x h nx K)(Q:Sat C ρ h nx w)(hr:x.rel ρ v):Yld P (Builtin.clear_ ts.toArray ty #[v]) C ρ nx w K:=by
 unfold pP at q;split at q
 ·rename_i t i e sz len cap;split at q
  ·rename_i y a b c hi
   have af:∀(j:TI) (B:Ent) (e':SB->Ent),Θ y=some j->lget h i=some B->B.plain=true->(∀k,(e' k).plain=true)->B.has 0->(∀k O,(e' k).has O↔B.has O)->(∀O,B.has O->O=0)->(∀k,(e' k).at 0=k)->
     clrB j e sz len (B.at 0) (fun k=>K (.tup []) (lput h i (e' k)) nx)->Yld P (Builtin.clear_ [t].toArray ty #[v]) C ρ nx w K:=by
    intro j B e' R D aj aa h0 X ah T f;unfold clrB at f;split at f
    ·rename_i t' ao L an V;split at f
     ·rename_i J u;have J:=qm J;have u:=qm u;subst J;obtain⟨Z,Y⟩:=f;have E:=hΘ y j R;have ae:=E.len;obtain⟨o,ho,U⟩:=Q.blk i _ D 0 h0;rw[V]at U;obtain⟨S,G,d,I,fr,W,rfl⟩:=U;have l:=Q.wf i _ D 0 h0;rw[V]at l;have l:∀x∈L,∀a∈x,a.below nx:=l;simp only[SV.rel,SA.den,jy,if_false]at hr;subst hr;have ak:∀n,(List.replicate n j.zero).flatten.length=n*sz:=fun n=>by simp[ae,u]
      have s:L.flatten.length=L.length*sz:=by
       rw[qb0,jp (g:=fun _=>sz) S,List.map_const',qdi]
      obtain⟨f1,_⟩:=uf L e S oo;obtain⟨_,f2⟩:=uf L (e+len) S Z
      let zs:=(List.replicate len j.zero).flatten.map (SA.den ρ)
      have M:zs.length=len*sz:=by simp only[zs,qa];exact ak len
      have am:e*sz+len*sz<=L.length*sz:=by rw[<-qbi];exact qat _ Z
      have ab:RowAt w (ρ i 0) t' (L.flatten.map (SA.den ρ)++d):=⟨_,ho,fr,W,rfl⟩
      have ad:=jB (P:=P) (ρ i 0) (e*sz) t' zs 0 _ w ab (by simp only[qb,qa,s,M];omega) (by
       intro z hz;obtain⟨a,_,rfl⟩:=qz.1 hz;exact SA.one ρ a)
      have A:(List.take (e*sz+0) (L.flatten.map (SA.den ρ)++d)++zs++List.drop (e*sz+0+zs.length) (L.flatten.map (SA.den ρ)++d))=(L.take e++List.replicate len j.zero++L.drop (e+len)).flatten.map (SA.den ρ)++d:=by
       rw[qap,M,<-qbi,qco (by rw[qa,s];omega),List.drop_append_of_le_length (by rw[qa,s,qbi];omega),<-qdb,<-List.map_drop,f1,f2];simp only[yu,qo,qj];rfl
      rw[A]at ad
      have al:(Builtin.zeroCells (zval ρ j).cells len).toList=zs:=by
       have:=td (j.zero.map (SA.den ρ)) len;unfold Builtin.zeroCells;rw[jN E ρ];simp only[qa]at this;simp only[y9,qa];rw[this];simp only[zs];simp
      have p:(L.take e++List.replicate len j.zero++L.drop (e+len)).length=L.length:=by
       simp only[qb,qk,y5,yj];omega
      have ac:(Builtin.clear_ [t].toArray ty #[.slice (some ⟨ρ i 0,e*sz,none⟩) len cap]).run P w=.ok (.tuple #[]) (w.setRow (ρ i 0) ((L.take e++List.replicate len j.zero++L.drop (e+len)).flatten.map (SA.den ρ)++d).toArray):=by
       cases len with
       |zero=>
        have e0:(L.take e++List.replicate 0 j.zero++L.drop (e+0))=L:=by simp
        rw[e0,setRow_self w _ _ t' fr ho];simp[Builtin.clear_,aV hΘ hi]
       |succ m=>simp[Builtin.clear_,aV hΘ hi,iG hΘ R w ρ,al,ad]
      refine⟨_,_,.tup [],_,nx,ρ,ac,rfl,by simp[SV.below],Y,?_,fun _ _=>rfl,qi _⟩;refine Q.upd 0 D aj (aa _) h0 (X _) _ (fun O ai ag=>absurd (ah O ag) ai) ?_ ?_ rfl rfl rfl ss (setRow_heap w _ _ _ t' _ ho) (fun b hb=>kX w _ b _ hb)
      ·rw[T];refine⟨fun x hx=>?_,by rw[p];exact G,d,by rw[p];exact I,fr,?_,rfl⟩
       ·rcases yf.1 hx with hx | hx
        ·rcases yf.1 hx with hx | hx
         ·exact S x (yh hx)
         ·rw[(qca.1 hx).2,ae,u]
        ·exact S x (qas hx)
       ·have:(((L.take e++List.replicate len j.zero++L.drop (e+len)).flatten.map (SA.den ρ)++d)).length=(L.flatten.map (SA.den ρ)++d).length:=by
         rw[<-A];simp only[qap,qb,qk,yj,qa,s,M];omega
        rw[this];exact W
      ·rw[T];intro x hx a ha;rcases yf.1 hx with hx | hx
       ·rcases yf.1 hx with hx | hx
        ·exact l x (yh hx) a ha
        ·rw[(qca.1 hx).2]at ha;exact SA.below_mono (jx _) (E.bel a ha)
       ·exact l x (qas hx) a ha
     ·exact f.elim
    ·exact f.elim
   split at q
   ·rename_i j b R D;exact af j _ (fun k=>.one k) R D rfl (fun _=>rfl) rfl (fun _ _=>Iff.rfl) (fun _ Y=>Y) (fun _=>rfl) q
   ·rename_i j c b R D;exact af j _ (fun k=>.opt c k) R D rfl (fun _=>rfl) ⟨q.1,rfl⟩ (fun _ _=>Iff.rfl) (fun _ Y=>Y.2) (fun _=>rfl) q.2
   ·exact q.elim
  ·exact q.elim
 ·exact q.elim
def nz(Θ:Tys)(ts:List TypeId)(x y:SV)(h:Hp)(nx:Nat)(K:Kt):Prop:=
 match ts,x,y with
 |t::_,.va (.slice false i k e sz len _),.va (.slice false i' k' e' sz' len' _)=>(match Θ t with
  |some ⟨.slice elem,_,_,_⟩=>(match Θ elem with
   |some j=>(match Nat.beq j.size 1 with
    |true=>rd h ⟨i',k',e',sz',0⟩ (Nat.min len' len) fun xs=>wr h ⟨i,k,e,sz,0⟩ xs fun a=>K (.va (.int .i64 (Nat.min len' len:Nat))) a nx
    |false=>False)
   |none=>False)
  |_=>False)
 |_,_,_=>False
theorem zT(hΘ:Θ.Ok P){ts:List TypeId}{ty:TypeId}{x y:SV}{v u:Value}(m:nz Θ ts x y h nx K)(Q:Sat C ρ h nx w)(V:x.rel ρ v)(I:y.rel ρ u):Yld P (Builtin.copy_ ts.toArray ty #[v,u]) C ρ nx w K:=by
 unfold nz at m;split at m
 ·rename_i t r i k e sz len cap i' W e' s l A;split at m
  ·rename_i T a b c hi;split at m
   ·rename_i j hj;split at m
    ·rename_i p;have p:=qm p;simp only[SV.rel,SA.den,jy,if_false]at V I;subst V;subst I;obtain⟨xs,hw,B,R,t1,pre,X,J,G⟩:=pr m Q;obtain⟨h',t',f,old,d,hk,o,n,D,M⟩:=xS hw Q R
     have g:(loadCells ⟨ρ i' W,e'*s,none⟩ (xs.map (SA.den ρ)).length).run P w=.ok (xs.map (SA.den ρ)).toArray w:=
      run_loadCells_list (P:=P) w _ _ (fun z q U=>by
       have hp:pre.length=e'*s:=G;rw[addr_add,J.cell,<-hp];have S:z < (xs.map (SA.den ρ)).length:=(qg.1 U).1;rw[qj,jt oo,qag,jo S];exact U)
     rw[qa,B]at g;have E:f.length=e*sz:=n
     have O:=jB (P:=P) (ρ i k) (e*sz) t' (xs.map (SA.den ρ)) 0 _ w o (by simp only[qb,qa];omega) (by
      intro z S;obtain⟨q,_,rfl⟩:=qz.1 S;exact SA.one ρ q)
     have Y:List.take (e*sz+0) (f++old++d)=f:=by rw[qap,<-E];simp
     have Z:List.drop (e*sz+0+(xs.map (SA.den ρ)).length) (f++old++d)=d:=by
      rw[qap,<-E,qa,<-D];simp
     rw[Y,Z]at O
     have L:(Builtin.copy_ (t::r).toArray ty #[.slice (some ⟨ρ i k,e*sz,none⟩) len cap,.slice (some ⟨ρ i' W,e'*s,none⟩) l A]).run P w=.ok (.int .i64 (Nat.min l len:Nat)) (w.setRow (ρ i k) (f++xs.map (SA.den ρ)++d).toArray):=by
      simp[Builtin.copy_,aV hΘ hi,Builtin.lenOf,Builtin.firstCells,dz hΘ hj,p,g,O,goInt]
     exact⟨_,_,.va (.int .i64 (Nat.min l len:Nat)),h',nx,ρ,L,rfl,tv,hk,M,fun _ _=>rfl,qi _⟩
    ·exact m.elim
   ·exact m.elim
  ·exact m.elim
 ·exact m.elim
def nv:SA->Option Value
 |.int k n=>some (.int k n)
 |.lit b=>some (.bool b)
 |.bool b=>some (.bool b)
 |.str s=>some (.string ⟨s.toArray⟩)
 |.fn f []=>some (.func f #[] #[])
 |_=>none
theorem Eg{ρ:Rho}{a:SA}{v:Value}(h:nv a=some v):a.den ρ=v:=by
 unfold nv at h;split at h<;>cases h<;>rfl
def svM:Value->Option SA
 |.func f ⟨[]⟩ ⟨[]⟩=>some (.fn f [])
 |v=>svA v
theorem yb4{ρ:Rho}{v:Value}{a:SA}(h:svM v=some a):v=a.den ρ/\a.below 0:=by
 unfold svM at h;split at h
 ·cases h;exact⟨rfl,by simp[SA.below]⟩
 ·exact qI h
def keyV:SA->Option Value
 |.int k n=>some (.int k n)
 |.str s=>some (.string ⟨s.toArray⟩)
 |_=>none
theorem wx{ρ:Rho}{a:SA}{v:Value}(h:keyV a=some v):a.den ρ=v:=by
 unfold keyV at h;split at h<;>cases h<;>rfl
def kB:TypeDesc->Bool
 |.int _=>true
 |.string=>true
 |_=>false
theorem nN{a:TypeId}{d:TypeDesc}{k:Value}{w:World}(b:∀w,(underlying a).run P w=.ok d w)(c:kB d=true)(e:Bool)(n:Nat):(Instr.checkKey e (n+1) a k).run P w=.ok () w:=by
 unfold Instr.checkKey;simp only[Sem.run_bind,b,Result.andThen];cases d<;>first | rfl | cases c
def oZ(Θ:Tys)(t:TypeId)(r:Option SV)(h:Hp)(nx:Nat)(K:Kt):Prop:=
 match r,Θ t with
 |none,_=>K (.va (.map nx 0)) (lput h nx (.one (.obj (.map #[] 0)))) (nx+1)
 |some (.va (.int _ _)),some ⟨.map _ _,_,_,_⟩=>K (.va (.map nx 0)) (lput h nx (.one (.obj (.map #[] 0)))) (nx+1)
 |_,_=>False
theorem Df(hΘ:Θ.Ok P){t:TypeId}{r:Option SV}{v:Option Value}(f:oZ Θ t r h nx K)(j:Sat C ρ h nx w)(d:relO ρ r v):Yld P (Instr.makeMap t v) C ρ nx w K:=by
 have fin:K (.va (.map nx 0)) (lput h nx (.one (.obj (.map #[] 0)))) (nx+1)->(Instr.makeMap t v).run P w=.ok (.map (some w.heap.size)) (w.alloc (.map #[] 0))->Yld P (Instr.makeMap t v) C ρ nx w K:=by
  intro l e;refine⟨_,_,_,_,_,rext ρ nx w.heap.size,e,?_,?_,l,j.new (.obj (.map #[] 0)) _ trivial rfl,fun i g=>eA g,qaf _⟩
  ·simp[SV.rel,SA.den,dm]
  ·simp[SV.below,SA.below]
 unfold oZ at f;split at f
 ·match v,d with
  |none,_=>exact fin f (by simp[Instr.makeMap])
 ·rename_i k n o m a b c g
  match v,d with
  |some v,d=>
   simp only[relO,SV.rel,SA.den]at d;subst d;exact fin f (by simp[Instr.makeMap,aV hΘ g,asInt,asIntOf])
 ·exact f.elim
def lR(Θ:Tys)(t:TypeId)(m k x:SV)(h:Hp)(nx:Nat)(K:Kt):Prop:=
 match Θ t,m,k,x with
 |some ⟨.map kt _,_,_,_⟩,.va (.map i 0),.va ka,.va xa=>(match Θ kt,lget h i,keyV ka,nv xa with
  |some j,some (.one (.obj (.map ⟨l⟩ clock))),some kv,some xv=>(match kB j.d,Instr.findNow j.d kv l 0 with
   |true,some none=>K (.tup []) (lput h i (.one (.obj (.map ⟨l++[⟨kv,xv,clock⟩]⟩ (clock+1))))) nx
   |_,_=>False)
  |_,_,_,_=>False)
 |_,_,_,_=>False
theorem tK(hΘ:Θ.Ok P){t:TypeId}{m k x:SV}{R q vx:Value}(e:lR Θ t m k x h nx K)(n:Sat C ρ h nx w)(G:m.rel ρ R)(y:k.rel ρ q)(L:x.rel ρ vx):
  ∃S O,(Instr.mapUpdate t R q vx).run P w=.ok () S/\K (.tup []) O nx/\Sat C ρ O nx S:=by
 unfold lR at e;split at e
 ·rename_i W X a b c i Z xa U;split at e
  ·rename_i j l d kv xv V D B M;split at e
   ·rename_i J u;simp only[SV.rel]at G y L;rw[wx B]at y;rw[Eg M]at L;simp only[SA.den]at G;subst G;subst y;subst L;obtain⟨o,Q,g⟩:=n.blk i _ D 0 rfl;have g:o=.map ⟨l⟩ d:=g;subst g;have f:=fun w=>aV (P:=P) hΘ V w
    have s:(Instr.findKey W q l).run P w=.ok none w:=by
     simp[Instr.findKey,f,u]
    have E:ρ i 0 < w.heap.size:=n.blt ⟨_,D,rfl⟩
    have p:(Instr.mapUpdate t (.map (some (ρ i 0))) q vx).run P w=.ok () { w with heap:=w.heap.setIfInBounds (ρ i 0) (.map ⟨l++[⟨q,vx,d⟩]⟩ (d+1)) }:=by
     simp[Instr.mapUpdate,aV hΘ U,MapKept.run_getObj_map Q,nN f J,s,MapKept.run_setObj_map _ Q]
    refine⟨_,_,p,e,?_⟩;refine n.upd 0 D rfl rfl rfl (fun _=>Iff.rfl) _ (fun Y I A=>absurd A I) rfl trivial rfl rfl rfl ss (by simp[E]) (fun b T=>by simp[Ne.symm T])
   ·exact e.elim
  ·exact e.elim
 ·exact e.elim
def keyEq:SA->Value->Option Bool
 |.int k a,.int k' b=>if k=k' then some (decide (a=b))else none
 |.str s,.string b=>some (decide (s=b.data.toList))
 |_,_=>none
def lkup(k:SA):List MapEntry->(Option Value->Prop)->Prop
 |[],X=>X none
 |e::r,X=>match keyEq k e.key with
  |some b=>Br b (X (some e.val)) (lkup k r X)
  |none=>False
def kdOk:TypeDesc->SA->Bool
 |.int _,.int _ _=>true
 |.string,.str _=>true
 |_,_=>false
theorem Er{d:TypeDesc}{k:SA}{j v:Value}{b:Bool}(g:kB d=true)(e:kdOk d k=true)(i:keyV k=some j)(h:keyEq k v=some b):Instr.sameNow d j v=some b:=by
 unfold keyEq at h;split at h
 ·rename_i l a m c;cases i
  split at h
  ·rename_i f;subst f;cases h
   cases d with
   |int k0=>simp only[Instr.sameNow,if_true];congr 1
   |string=>simp[kdOk]at e
   |_=>cases g
  ·cases h
 ·rename_i s c;cases i;cases h
  cases d with
  |int k0=>simp[kdOk]at e
  |string=>
   simp only[Instr.sameNow]
   congr 1
   rw[beq_toListBytes,toList_mk,qdk,ByteArray.toList_eq];simp
  |_=>cases g
 ·cases h
theorem vy{d:TypeDesc}{k:SA}{j:Value}(c:kB d=true)(a:kdOk d k=true)(f:keyV k=some j):
  ∀(l:List MapEntry) (X:Option Value->Prop) (i:Nat),lkup k l X->∃r,Instr.findNow d j l i=some r/\X (r.map (·.2))
 |[],X,i,h=>⟨none,rfl,h⟩
 |e::r,X,i,h=>by
  simp only[lkup]at h;split at h
  ·rename_i b n;have g:=Er c a f n;unfold Br at h;cases b with
   |true=>exact⟨some (i,e.val),by simp[Instr.findNow,g],h.1 rfl⟩
   |false=>
    obtain⟨o,h1,m⟩:=vy c a f r X (i+1) (h.2 rfl);exact⟨o,by simp[Instr.findNow,g,h1],m⟩
  ·exact h.elim
def px(Θ:Tys)(t:TypeId)(x k:SV)(ok:Bool)(h:Hp)(nx:Nat)(K:Kt):Prop:=
 match Θ t,x,k with
 |some ⟨.map kt et,_,_,_⟩,.va (.map i 0),.va ka=>(match Θ kt,Θ et,lget h i,keyV ka with
  |some j,some je,some (.one (.obj (.map ⟨l⟩ _))),some _=>(match kB j.d,aggD je.d,kdOk j.d ka with
   |true,false,true=>lkup ka l fun r=>(match r with
    |some v=>(match svM v with
     |some a=>K (match ok with | true=>.tup [.va a,.va (.lit true)] | false=>.va a) h nx
     |none=>False)
    |none=>K (match ok with | true=>.tup [.va (je.zero.headD .nilptr),.va (.lit false)] | false=>.va (je.zero.headD .nilptr)) h nx)
   |_,_,_=>False)
  |_,_,_,_=>False)
 |_,_,_=>False
theorem Do(hΘ:Θ.Ok P){t:TypeId}{x k:SV}{ok:Bool}{T E:Value}(f:px Θ t x k ok h nx K)(O:Sat C ρ h nx w)(L:x.rel ρ T)(J:k.rel ρ E):YldS P (Instr.lookup t T E ok) ρ h nx w K:=by
 unfold px at f;split at f
 ·rename_i kt U a b c i ka R;split at f
  ·rename_i j s l g kv Y A Z B;split at f
   ·rename_i q G I;simp only[SV.rel]at L J;rw[wx B]at J;simp only[SA.den]at L;subst L;subst J;obtain⟨o,S,m⟩:=O.blk i _ Z 0 rfl;have m:o=.map ⟨l⟩ g:=m;subst m;have d:=fun w=>aV (P:=P) hΘ Y w
    obtain⟨r,X,u⟩:=vy q I B l _ 0 f
    have y:(Instr.findKey kt E l).run P w=.ok r w:=by
     simp[Instr.findKey,d,X]
    have M:zval ρ s=(s.zero.headD .nilptr).den ρ:=by unfold zval;rw[G]
    have e:(Instr.lookup t (.map (some (ρ i 0))) E ok).run P w=.ok (match r with | some (_,v)=>if ok then .tuple #[v,.bool true]else v | none=>if ok then .tuple #[zval ρ s,.bool false]else zval ρ s) w:=by
     cases r with
     |none=>simp[Instr.lookup,aV hΘ R,MapKept.run_getObj_map S,nN d q,y,iG hΘ A w ρ]
     |some p=>obtain⟨n,v⟩:=p;simp[Instr.lookup,aV hΘ R,MapKept.run_getObj_map S,nN d q,y]
    cases r with
    |none=>
     simp only[Option.map_none]at u;refine⟨_,_,e,?_,?_,u⟩
     ·cases ok<;>simp[SV.rel,M,SC.den,SA.den]
     ·have D:(s.zero.headD .nilptr).below nx:=by
       have W:=(hΘ U s A).bel;cases D:s.zero with
       |nil=>trivial
       |cons a r=>exact SA.below_mono (jx _) (W a (by simp[D]))
      cases ok
      ·exact D
      ·intro c hc;rcases qh.1 hc with rfl | hc
       ·exact D
       ·rw[qs.1 hc];trivial
    |some p=>
     obtain⟨n,v⟩:=p;simp only[qdo]at u;split at u
     ·rename_i a V;obtain⟨h1,Q⟩:=yb4 (ρ:=ρ) V;refine⟨_,_,e,?_,?_,u⟩
      ·cases ok<;>simp[SV.rel,SC.den,SA.den,h1]
      ·cases ok
       ·exact SA.below_mono (jx _) Q
       ·intro c hc;rcases qh.1 hc with rfl | hc
        ·exact SA.below_mono (jx _) Q
        ·rw[qs.1 hc];trivial
     ·exact u.elim
   ·exact f.elim
  ·exact f.elim
 ·exact f.elim
end
def i8:Operand->Bool
 |.const .nilIface=>true
 |_=>false
def mU(Θ:Tys)(a:BinOp)(t:TypeId)(x:SV)(h:Hp)(nx:Nat)(K:Kt):Prop:=
 match Θ t with
 |some ⟨.interface _,_,_,_⟩=>(match x,a with
  |.va .nilif,.eql=>K (.va (.lit true)) h nx
  |.va .nilif,.neq=>K (.va (.lit false)) h nx
  |.va (.ifc _ _),.eql=>K (.va (.lit false)) h nx
  |.va (.ifc _ _),.neq=>K (.va (.lit true)) h nx
  |_,_=>False)
 |_=>False
variable {t:TypeId}
theorem ld{P:Program}{Θ:Tys}{i:TI}{g:Array (String×TypeId)}(hΘ:Θ.Ok P)(c:Θ t=some i)(a:i.d=.interface g)(v:Value)(b:Bool)(f:(v=.nilIface/\b=true)\/(∃ty u,v=.iface ty u/\b=false))(w:World):
  (Op.equal t v .nilIface).run P w=.ok b w:=by
 have e:Op.maxDepth=9999+1:=rfl;unfold Op.equal;rw[e,Op.equalIn];simp only[Sem.run_bind,aV hΘ c,a,Result.andThen_ok];rcases f with⟨rfl,rfl⟩ | ⟨ty,u,rfl,rfl⟩<;>rfl
theorem Ep{P:Program}{Θ:Tys}{C:Ctx}{ρ:Rho}{h:Hp}{nx:Nat}{w:World}{K:Kt}(hΘ:Θ.Ok P){k:BinOp}{o m:Operand}{x:SV}{v u:Value}(i:i8 m=true)(n:u=.nilIface)(d:mU Θ k t x h nx K)(e:Sat C ρ h nx w)(f:x.rel ρ v):
  YldS P (do eqGuard k t o m v u;binOp k t v u) ρ h nx w K:=by
 subst n
 have j:∃u,m=.const u:=by
  unfold i8 at i;split at i
  ·exact⟨_,rfl⟩
  ·cases i
 obtain⟨u,rfl⟩:=j;unfold mU at d;split at d
 ·rename_i p a b c g;split at d
  ·simp only[SV.rel,SA.den]at f;subst f;exact bX (r:=.bool true) (by unfold eqGuard;simp) (by show(do pure (Value.bool (<-Op.equal t .nilIface .nilIface)):Sem Value).run P w=_;simp only[Sem.run_bind,ld hΘ g rfl _ true (.inl ⟨rfl,rfl⟩),Result.andThen_ok,Sem.run_pure]) e (sv:=.va (.lit true)) rfl trivial d
  ·simp only[SV.rel,SA.den]at f;subst f;exact bX (r:=.bool false) (by unfold eqGuard;simp) (by show(do pure (Value.bool (!(<-Op.equal t .nilIface .nilIface))):Sem Value).run P w=_;simp only[Sem.run_bind,ld hΘ g rfl _ true (.inl ⟨rfl,rfl⟩),Result.andThen_ok,Sem.run_pure];rfl) e (sv:=.va (.lit false)) rfl trivial d
  ·rename_i ty l;simp only[SV.rel,SA.den]at f;subst f;exact bX (r:=.bool false) (by unfold eqGuard;simp) (by show(do pure (Value.bool (<-Op.equal t (.iface ty l) .nilIface)):Sem Value).run P w=_;simp only[Sem.run_bind,ld hΘ g rfl _ false (.inr ⟨_,_,rfl,rfl⟩),Result.andThen_ok,Sem.run_pure]) e (sv:=.va (.lit false)) rfl trivial d
  ·rename_i ty l;simp only[SV.rel,SA.den]at f;subst f;exact bX (r:=.bool true) (by unfold eqGuard;simp) (by show(do pure (Value.bool (!(<-Op.equal t (.iface ty l) .nilIface))):Sem Value).run P w=_;simp only[Sem.run_bind,ld hΘ g rfl _ false (.inr ⟨_,_,rfl,rfl⟩),Result.andThen_ok,Sem.run_pure];rfl) e (sv:=.va (.lit true)) rfl trivial d
  ·exact d.elim
 ·exact d.elim
def kM:Operand->Bool
 |.const (.pointer none)=>true
 |_=>false
def kU(Θ:Tys)(a:BinOp)(t:TypeId)(x:SV)(h:Hp)(nx:Nat)(K:Kt):Prop:=
 match Θ t with
 |some ⟨.pointer _,_,_,_⟩=>(match x,a with
  |.va .nilptr,.eql=>K (.va (.lit true)) h nx
  |.va .nilptr,.neq=>K (.va (.lit false)) h nx
  |.va (.ptr _),.eql=>K (.va (.lit false)) h nx
  |.va (.ptr _),.neq=>K (.va (.lit true)) h nx
  |_,_=>False)
 |_=>False
theorem ll{P:Program}{Θ:Tys}{i:TI}{e:TypeId}(hΘ:Θ.Ok P)(c:Θ t=some i)(b:i.d=.pointer e)(a:Option Addr)(w:World):
  (Op.equal t (.pointer a) (.pointer none)).run P w=.ok a.isNone w:=by
 have e:Op.maxDepth=9999+1:=rfl;unfold Op.equal;rw[e,Op.equalIn];simp only[Sem.run_bind,aV hΘ c,b,Result.andThen_ok];cases a<;>rfl
theorem zV{P:Program}{Θ:Tys}{C:Ctx}{ρ:Rho}{h:Hp}{nx:Nat}{w:World}{K:Kt}(hΘ:Θ.Ok P){i:BinOp}{k l:Operand}{x:SV}{v u:Value}(j:u=.pointer none)(d:kU Θ i t x h nx K)(e:Sat C ρ h nx w)(f:x.rel ρ v):
  YldS P (do eqGuard i t k l v u;binOp i t v u) ρ h nx w K:=by
 subst j;unfold kU at d;split at d
 ·rename_i m a b c g;split at d
  ·simp only[SV.rel,SA.den]at f;subst f;exact bX (r:=.bool true) (by unfold eqGuard;simp) (by show(do pure (Value.bool (<-Op.equal t (.pointer none) (.pointer none))):Sem Value).run P w=_;simp only[Sem.run_bind,ll hΘ g rfl,Result.andThen_ok,Sem.run_pure];rfl) e (sv:=.va (.lit true)) rfl trivial d
  ·simp only[SV.rel,SA.den]at f;subst f;exact bX (r:=.bool false) (by unfold eqGuard;simp) (by show(do pure (Value.bool (!(<-Op.equal t (.pointer none) (.pointer none)))):Sem Value).run P w=_;simp only[Sem.run_bind,ll hΘ g rfl,Result.andThen_ok,Sem.run_pure];rfl) e (sv:=.va (.lit false)) rfl trivial d
  ·rename_i p;simp only[SV.rel,SA.den]at f;subst f;exact bX (r:=.bool false) (by unfold eqGuard;simp) (by show(do pure (Value.bool (<-Op.equal t (.pointer (some (p.addr ρ))) (.pointer none))):Sem Value).run P w=_;simp only[Sem.run_bind,ll hΘ g rfl,Result.andThen_ok,Sem.run_pure];rfl) e (sv:=.va (.lit false)) rfl trivial d
  ·rename_i p;simp only[SV.rel,SA.den]at f;subst f;exact bX (r:=.bool true) (by unfold eqGuard;simp) (by show(do pure (Value.bool (!(<-Op.equal t (.pointer (some (p.addr ρ))) (.pointer none)))):Sem Value).run P w=_;simp only[Sem.run_bind,ll hΘ g rfl,Result.andThen_ok,Sem.run_pure];rfl) e (sv:=.va (.lit true)) rfl trivial d
  ·exact d.elim
 ·exact d.elim
def sC(Θ:Tys)(t:TypeId)(x:SV)(h:Hp)(nx:Nat)(K:Kt):Prop:=
 match Θ t with
 |some ⟨.interface _,_,_,_⟩=>False
 |some _=>match x with
  |.va (.int k n)=>K (.va (.ifc t (.int k n))) h nx
  |.va (.str s)=>K (.va (.ifc t (.string ⟨s.toArray⟩))) h nx
  |_=>False
 |none=>False
def plsOf:List SV->Option (List Pl)
 |[]=>some []
 |.va (.ptr p)::r=>match plsOf r with
  |some l=>some (p::l)
  |none=>none
 |_::_=>none
def evL(t:List (List (Nat×SV))):List Operand->List SV
 |[]=>[]
 |x::r=>ev t x::evL t r
def evP(t:List (List (Nat×SV))):List (Nat×Operand)->List (Nat×SV)
 |[]=>[]
 |p::r=>(p.1,ev t p.2)::evP t r
def sB(f:Fn)(first:List Operand)(caps:List SV)(h:Hp)(nx:Nat)(K:Kt):Prop:=
 match first,plsOf caps with
 |[],some l=>K (.va (.fn f l)) h nx
 |_,_=>False
def evO(t:List (List (Nat×SV))):Option Operand->Option SV
 |none=>none
 |some x=>some (ev t x)
abbrev Kp:=Value->Hp->Nat->Prop
def s_call(P:Program)(Θ:Tys)(t:List (List (Nat×SV)))(c:Call)(h:Hp)(nx:Nat)(K:Kt)(KP:Kp):Prop:=
 match c.callee with
 |.builtin b=>(match b,evL t c.args.toList with
  |.len,[x]=>s_len Θ c.argTypes.toList x h nx K
  |.cap,[x]=>s_cap Θ c.argTypes.toList x h nx K
  |.append,[x,y]=>pw Θ c.argTypes.toList x y h nx K
  |.min,[x,y]=>s_min x y h nx K
  |.max,[x,y]=>s_max x y h nx K
  |.clear,[x]=>pP Θ c.argTypes.toList x h nx K
  |.copy,[x,y]=>nz Θ c.argTypes.toList x y h nx K
  |_,_=>False)
 |.value f=>(match ev t f with
  |.va (.fn (.func g) cap)=>za6 P g (evL t c.args.toList++cap.map fun p=>SV.va (.ptr p)) h nx fun out d a=>(match out with
   |.ret v=>K v d a
   |.panic v=>KP v d a)
  |_=>False)
 |.invoke _ _=>False
def gp:SV->SV
 |.va (.glob g)=>.va (.ptr ⟨0,g,0,0,0⟩)
 |x=>x
theorem yc8{C:Ctx}{ρ:Rho}{h:Hp}{nx:Nat}{w:World}(s:Sat C ρ h nx w){x:SV}{v:Value}(a:x.rel ρ v):(gp x).rel ρ v:=by
 unfold gp;split
 ·rename_i g;simp only[SV.rel,SA.den,Pl.addr]at*;rw[a,s.id0]
 ·exact a
def sop(P:Program)(Θ:Tys)(t:List (List (Nat×SV)))(o:Op)(h:Hp)(nx:Nat)(K:Kt)(KP:Kp):Prop:=
 match o with
 |.move x=>K (ev t x) h nx
 |.assign x=>K (ev t x) h nx
 |.pick c a b=>ii (ev t c) (ev t a) (ev t b) h nx K
 |.alloc e=>pM Θ e h nx K
 |.box e x=>s_box e (ev t x) h nx K
 |.build ty ps=>pO Θ ty (evP t ps.toList) h nx K
 |.buildSlice ty n ps=>nT Θ ty n (evP t ps.toList) h nx K
 |.load ty a=>eC Θ ty (gp (ev t a)) h nx K
 |.store ty a v=>g7 Θ ty (ev t a) (ev t v) h nx K
 |.nilCheck x=>(match ev t x with
  |.va (.ptr p)=>K (.va (.ptr p)) h nx
  |.va (.fn (.func f) c)=>K (.va (.fn (.func f) c)) h nx
  |_=>False)
 |.binOp op ty x y _=>(match i8 y with
  |true=>mU Θ op ty (ev t x) h nx K
  |false=>(match kM y with
   |true=>kU Θ op ty (ev t x) h nx K
   |false=>s_bin P Θ op ty (ev t x) (ev t y) h nx K))
 |.unOp op _ x=>s_un op (ev t x) h nx K
 |.convert s d x=>kS Θ s d (ev t x) h nx K
 |.makeInterface ty x=>sC Θ ty (ev t x) h nx K
 |.makeFunc f a c=>sB f a.toList (evL t c.toList) h nx K
 |.slice ty x lo hi mx=>g5 Θ ty (ev t x) (evO t lo) (evO t hi) (evO t mx) h nx K
 |.fieldAddr ty x f=>gq Θ ty (ev t x) f h nx K
 |.field ty x f=>gY Θ ty (ev t x) f h nx K
 |.indexAddr ty x i=>gr Θ ty (ev t x) (ev t i) h nx K
 |.index ty x i=>gZ Θ ty (ev t x) (ev t i) h nx K
 |.extract x i=>(match ev t x with
  |.tup l=>(match nth l i with
   |some c=>K c.v h nx
   |none=>False)
  |_=>False)
 |.call c=>s_call P Θ t c h nx K KP
 |.makeMap ty r=>oZ Θ ty (evO t r) h nx K
 |.mapUpdate ty m k x=>lR Θ ty (ev t m) (ev t k) (ev t x) h nx K
 |.insert ty m k x=>lR Θ ty (ev t m) (ev t k) (ev t x) h nx K
 |.lookup ty x k ok=>px Θ ty (ev t x) (ev t k) ok h nx K
 |.panic x=>(match ev t x with
  |.va (.ifc ty v)=>KP (.iface ty v) h nx
  |_=>False)
 |_=>False
section
variable {P:Program} {Θ:Tys} {C:Ctx} {ρ:Rho} {st:St} {a:Act} {w:World} {K:Kt} {KP:Kp}
def Upon(P:Program)(o:Oper)(C:Ctx)(ρ:Rho)(st:St)(a:Act)(K:Kt)(KP:Kp)(r:Result Next):Prop:=
 o.upon P a (fun f g=>∃v sv c b d,f=a.put o.dst v/\K sv c b/\sv.rel d v/\sv.below b/\Den C d { st with h:=c,nx:=b } a g/\(∀i,i < st.nx->d i=ρ i)/\st.nx<=b)
  (fun e f g=>∃v c b d,e=.panic [{ v,recovered:=false }]/\KP v c b/\Den C d { st with h:=c,nx:=b } f g) r
theorem cG{o:Oper}{s:Sem Value}(d:Den C ρ st a w)(l:Yld P s C ρ st.nx w K):Upon P o C ρ st a K KP ((do pure (Next.value (<-s)):Sem Next).run P w):=by
 obtain⟨v,n,sv,f,b,m,h1,g,i,j,k,c,e⟩:=l;simp only[Sem.run_bind,h1,Result.andThen_ok,Sem.run_pure];exact⟨v,sv,f,b,m,rfl,j,g,i,d.heap k c e,c,e⟩
theorem kx(d:Den C ρ st a w):∀l:List Operand,relL ρ (evL st.t l) (l.map a.eval)/\∀s∈evL st.t l,s.below st.nx
 |[]=>⟨tv,by simp[evL]⟩
 |x::r=>by
  obtain⟨h1,b⟩:=kx d r;obtain⟨c,e⟩:=aT d x;refine⟨⟨c,h1⟩,?_⟩;intro s hs;simp only[evL,qh]at hs;rcases hs with rfl | hs
  ·exact e
  ·exact b s hs
theorem pT(d:Den C ρ st a w):∀l:List (Nat×Operand),(∀(j:Nat) (p:Nat×SV) (q:Nat×Value),(evP st.t l)[j]? =some p->(l.map fun x=>(x.1,a.eval x.2))[j]? =some q->p.1=q.1/\p.2.rel ρ q.2)/\
  (evP st.t l).length=l.length/\∀p∈evP st.t l,p.2.below st.nx
 |[]=>⟨by simp[evP],rfl,by simp[evP]⟩
 |x::r=>by
  obtain⟨h1,c,e⟩:=pT d r;obtain⟨f,g⟩:=aT d x.2;refine⟨?_,by simp[evP,c],?_⟩
  ·intro j p q hp b;cases j with
   |zero=>simp[evP]at hp b;subst hp;subst b;exact⟨rfl,f⟩
   |succ j=>exact h1 j p q (by simpa[evP]using hp) (by simpa using b)
  ·intro p hp;simp only[evP,qh]at hp;rcases hp with rfl | hp
   ·exact g
   ·exact e p hp
theorem mz(d:Den C ρ st a w)(x:Option Operand):relO ρ (evO st.t x) (x.map a.eval):=by
 cases x with
 |none=>trivial
 |some x=>exact(aT d x).1
theorem vO{ρ:Rho}{n:Nat}:∀{l:List SV} {c:List Pl} {vs:List Value},plsOf l=some c->relL ρ l vs->(∀s∈l,s.below n)->vs=c.map (fun p=>Value.pointer (some (p.addr ρ)))/\∀p∈c,p.i < n
 |[],c,vs,h,hr,_=>by
  simp[plsOf]at h;subst h;cases vs with
  |nil=>exact⟨rfl,by simp⟩
  |cons v r=>exact hr.elim
 |s::r,c,vs,h,hr,hb=>by
  cases vs with
  |nil=>exact hr.elim
  |cons v vr=>
   unfold plsOf at h;split at h
   ·rename_i b;cases b
   ·rename_i p j b;cases b
    split at h
    ·rename_i g e;cases h
     obtain⟨h1,d⟩:=vO (ρ:=ρ) (n:=n) e hr.2 (fun s f=>hb s (by simp[f]));refine⟨?_,?_⟩
     ·have:=hr.1;simp only[SV.rel,SA.den]at this;rw[this,h1];rfl
     ·intro q hq;rcases qh.1 hq with rfl | hq
      ·exact hb (.va (.ptr q)) ss
      ·exact d q hq
    ·cases h
   ·cases h
theorem tJ{ρ:Rho}:∀{a b:List SV} {x y:List Value},relL ρ a x->relL ρ b y->relL ρ (a++b) (x++y)
 |[],_,[],_,_,h=>h
 |[],_,_::_,_,h,_=>h.elim
 |_::_,_,[],_,h,_=>h.elim
 |_::_,_,_::_,_,h1,h2=>⟨h1.1,tJ h1.2 h2⟩
theorem vm{ρ:Rho}:∀l:List Pl,relL ρ (l.map fun p=>SV.va (.ptr p)) (l.map fun p=>Value.pointer (some (p.addr ρ)))
 |[]=>trivial
 |_::r=>⟨rfl,vm r⟩
theorem lJ(hΘ:Θ.Ok P){o:Oper}(hs:sop P Θ st.t o.op st.h st.nx K KP)(d:Den C ρ st a w):Upon P o C ρ st a K KP ((execOp a.eval o).run P w):=by
 obtain⟨D,V,type,pos,B,guard⟩:=o;cases V
 case move x=>exact cG (s:=pure (a.eval x)) d (Yld.same d.sat _ _ rfl (aT d x).1 (aT d x).2 hs)
 case assign x=>exact cG (s:=pure (a.eval x)) d (Yld.same d.sat _ _ rfl (aT d x).1 (aT d x).2 hs)
 case pick c x y=>
  have:=cG (KP:=KP) (o:=⟨D,.pick c x y,type,pos,B,guard⟩) d (YldS.yld (vP (P:=P) hs d.sat (aT d c).1 (aT d x).1 (aT d y).1 (aT d x).2 (aT d y).2) d.sat);simpa[execOp]using this
 case alloc e=>exact cG d (DQ hΘ hs d.sat)
 case box e x=>exact cG d (BZ hs d.sat (aT d x).1 (aT d x).2)
 case build ty ps=>
  obtain⟨h1,M,O⟩:=pT d ps.toList;refine cG d (YldS.yld (DR hΘ hs d.sat (by simp[M]) (fun j p q Q hq=>h1 j p q Q ?_) O) d.sat);simpa using hq
 case buildSlice ty n ps=>
  obtain⟨h1,M,O⟩:=pT d ps.toList;refine cG d (CK hΘ hs d.sat (by simp[M]) (fun j p q Q hq=>h1 j p q Q ?_) O);simpa using hq
 case load ty x=>exact cG d (zU hΘ hs d.sat (yc8 d.sat (aT d x).1))
 case store ty x y=>
  obtain⟨Y,S,h1,M,O⟩:=jJ hΘ hs d.sat (aT d x).1 (aT d y).1 (aT d y).2
  have:(execOp a.eval ⟨D,.store ty x y,type,pos,B,guard⟩).run P w=.ok .skip Y:=by
   simp[execOp,h1]
  rw[this];exact⟨undef,.tup [],S,st.nx,ρ,rfl,M,rfl,by simp[SV.below],d.heap O (fun _ _=>rfl) (qi _),fun _ _=>rfl,qi _⟩
 case nilCheck x=>
  simp only[sop]at hs;have I:=aT d x;split at hs
  ·rename_i p L;rw[L]at I;have R:a.eval x=.pointer (some (p.addr ρ)):=I.1;have:(execOp a.eval ⟨D,.nilCheck x,type,pos,B,guard⟩).run P w=.ok (.value (.pointer (some (p.addr ρ)))) w:=by simp[execOp,R]
   rw[this];exact⟨_,_,st.h,st.nx,ρ,rfl,hs,rfl,I.2,d,fun _ _=>rfl,qi _⟩
  ·rename_i f c L;rw[L]at I;have R:a.eval x=_:=I.1;simp only[SA.den]at R;have:(execOp a.eval ⟨D,.nilCheck x,type,pos,B,guard⟩).run P w=.ok (.value (a.eval x)) w:=by simp[execOp,R]
   rw[this];exact⟨_,_,st.h,st.nx,ρ,rfl,hs,I.1,I.2,d,fun _ _=>rfl,qi _⟩
  ·exact hs.elim
 case binOp V ty x y ty'=>
  have hs:(match i8 y with
   |true=>mU Θ V ty (ev st.t x) st.h st.nx K
   |false=>(match kM y with
    |true=>kU Θ V ty (ev st.t x) st.h st.nx K
    |false=>s_bin P Θ V ty (ev st.t x) (ev st.t y) st.h st.nx K)):=hs
  cases U:i8 y with
  |true=>
   rw[U]at hs
   have L:a.eval y=.nilIface:=by
    unfold i8 at U;split at U
    ·rfl
    ·cases U
   exact cG d (YldS.yld (Ep hΘ U L hs d.sat (aT d x).1) d.sat)
  |false=>
   rw[U]at hs
   have hs:(match kM y with
    |true=>kU Θ V ty (ev st.t x) st.h st.nx K
    |false=>s_bin P Θ V ty (ev st.t x) (ev st.t y) st.h st.nx K):=hs
   cases Q:kM y with
   |true=>
    rw[Q]at hs
    have L:a.eval y=.pointer none:=by
     unfold kM at Q;split at Q
     ·rfl
     ·cases Q
    exact cG d (YldS.yld (zV hΘ L hs d.sat (aT d x).1) d.sat)
   |false=>
    rw[Q]at hs;exact cG d (YldS.yld (xJ hΘ hs d.sat (aT d x).1 (aT d y).1) d.sat)
 case unOp V ty x=>exact cG d (YldS.yld (rv hs d.sat (aT d x).1) d.sat)
 case convert s dd x=>exact cG d (zS hΘ hs d.sat (aT d x).1)
 case makeInterface ty x=>
  simp only[sop]at hs;have I:=aT d x;unfold sC at hs;split at hs
  ·exact hs.elim
  ·rename_i i U hi
   have hu:∀v,(Instr.makeInterface ty v).run P w=.ok (.iface ty v) w:=by
    intro v;simp only[Instr.makeInterface,Sem.run_bind,aV hΘ hi,Result.andThen_ok];cases hd:i.d<;>first | rfl | skip
    rename_i ms;obtain⟨i1,i2,i3,i4⟩:=i;simp only at hd;subst hd;exact(U ms i2 i3 i4 rfl).elim
   split at hs
   ·rename_i k n L;rw[L]at I;exact cG d (Yld.same d.sat _ (.va (.ifc ty (.int k n))) (hu _) (by rw[I.1];rfl) trivial hs)
   ·rename_i s L;rw[L]at I;exact cG d (Yld.same d.sat _ (.va (.ifc ty (.string ⟨s.toArray⟩))) (hu _) (by rw[I.1];rfl) trivial hs)
   ·exact hs.elim
  ·exact hs.elim
 case makeFunc f first caps=>
  simp only[sop]at hs;unfold sB at hs;split at hs
  ·rename_i l hf hl;have ae:first= #[]:=by simpa using hf
   subst ae;obtain⟨h1,M⟩:=kx d caps.toList;obtain⟨O,h4⟩:=vO hl h1 M;refine cG d (Yld.same d.sat (.func f #[] (caps.map a.eval)) (.va (.fn f l)) (by simp[Instr.makeFunc]) ?_ h4 hs);simp only[SV.rel,SA.den]
   congr 1
   rw[<-O];apply Array.ext';simp
  ·exact hs.elim
 case slice ty x lo hi mx=>exact cG d (YldS.yld (tY hΘ hs d.sat (aT d x).1 (mz d lo) (mz d hi) (mz d mx) (aT d x).2) d.sat)
 case fieldAddr ty x f=>exact cG d (YldS.yld (sM hΘ hs d.sat (aT d x).1 (aT d x).2) d.sat)
 case field ty x f=>exact cG d (YldS.yld (tW hΘ hs d.sat (aT d x).1 (aT d x).2) d.sat)
 case indexAddr ty x i=>exact cG d (YldS.yld (sN hΘ hs d.sat (aT d x).1 (aT d i).1 (aT d x).2) d.sat)
 case index ty x i=>exact cG d (YldS.yld (tX hΘ hs d.sat (aT d x).1 (aT d i).1 (aT d x).2) d.sat)
 case extract x i=>
  simp only[sop]at hs;have I:=aT d x;split at hs
  ·rename_i l L;rw[L]at I;split at hs
   ·rename_i c Z;have R:a.eval x=.tuple (l.map (SC.den ρ)).toArray:=I.1;rw[fG]at Z;have aa:c∈l:=yw Z;refine cG d (Yld.same d.sat (c.den ρ) c.v ?_ ?_ ?_ hs)
    ·simp[R,Instr.extract,Z]
    ·cases c<;>rfl
    ·have:=I.2 c aa;cases c<;>exact this
   ·exact hs.elim
  ·exact hs.elim
 case call c=>
  simp only[sop]at hs;unfold s_call at hs;obtain⟨ad,args,A⟩:=c;obtain⟨h1,M⟩:=kx d args.toList;split at hs
  ·rename_i b J;simp only at J;subst J
   have two:∀x y,evL st.t args.toList=[x,y]->∃v u,args.map a.eval= #[v,u]/\x.rel ρ v/\y.rel ρ u:=by
    intro x y E;rw[E]at h1
    match W:args.toList.map a.eval,h1 with
    |[v,u],h1=>exact⟨v,u,by apply Array.ext';simpa using W,h1.1,h1.2.1⟩
   split at hs
   ·rename_i x E;rw[E]at h1
    match W:args.toList.map a.eval,h1 with
    |[v],h1=>
     have G:args.map a.eval= #[v]:=by apply Array.ext';simpa using W
     have:=cG (KP:=KP) (o:=⟨D,.call ⟨.builtin .len,args,A⟩,type,pos,B,guard⟩) d (YldS.yld (xK (ty:=type) hΘ hs d.sat h1.1) d.sat);simpa[execOp,resolve,invoke,builtin,G]using this
   ·rename_i x E;rw[E]at h1
    match W:args.toList.map a.eval,h1 with
    |[v],h1=>
     have G:args.map a.eval= #[v]:=by apply Array.ext';simpa using W
     have:=cG (KP:=KP) (o:=⟨D,.call ⟨.builtin .cap,args,A⟩,type,pos,B,guard⟩) d (YldS.yld (B0 (ty:=type) hΘ hs d.sat h1.1) d.sat);simpa[execOp,resolve,invoke,builtin,G]using this
   ·rename_i x y E;obtain⟨v,u,G,I,X⟩:=two x y E;have:=cG (KP:=KP) (o:=⟨D,.call ⟨.builtin .append,args,A⟩,type,pos,B,guard⟩) d (Dn (ty':=type) hΘ hs d.sat I X);simpa[execOp,resolve,invoke,builtin,G]using this
   ·rename_i x y E;obtain⟨v,u,G,I,X⟩:=two x y E;have:=cG (KP:=KP) (o:=⟨D,.call ⟨.builtin .min,args,A⟩,type,pos,B,guard⟩) d (YldS.yld (xN (P:=P) (ts:=A) (ty:=type) hs d.sat I X) d.sat);simpa[execOp,resolve,invoke,builtin,G]using this
   ·rename_i x y E;obtain⟨v,u,G,I,X⟩:=two x y E;have:=cG (KP:=KP) (o:=⟨D,.call ⟨.builtin .max,args,A⟩,type,pos,B,guard⟩) d (YldS.yld (xM (P:=P) (ts:=A) (ty:=type) hs d.sat I X) d.sat);simpa[execOp,resolve,invoke,builtin,G]using this
   ·rename_i x E;rw[E]at h1
    match W:args.toList.map a.eval,h1 with
    |[v],h1=>
     have G:args.map a.eval= #[v]:=by apply Array.ext';simpa using W
     have:=cG (KP:=KP) (o:=⟨D,.call ⟨.builtin .clear,args,A⟩,type,pos,B,guard⟩) d (Eo (ty:=type) hΘ hs d.sat h1.1);simpa[execOp,resolve,invoke,builtin,G]using this
   ·rename_i x y E;obtain⟨v,u,G,I,X⟩:=two x y E;have:=cG (KP:=KP) (o:=⟨D,.call ⟨.builtin .copy,args,A⟩,type,pos,B,guard⟩) d (zT (ty:=type) hΘ hs d.sat I X);simpa[execOp,resolve,invoke,builtin,G]using this
   ·exact hs.elim
  ·rename_i f J;simp only at J;subst J;split at hs
   ·rename_i g cap L;have hf:=aT d f;rw[L]at hf;have R:a.eval f=.func (.func g) #[] (cap.map fun p=>Value.pointer (some (p.addr ρ))).toArray:=hf.1;unfold za6 at hs
    obtain⟨T,Z⟩:=hs C ρ w (args.toList.map a.eval++cap.map fun p=>Value.pointer (some (p.addr ρ))) d.sat (tJ h1 (vm cap)) (by
     intro s hs;rcases yf.1 hs with hs | hs
     ·exact M s hs
     ·obtain⟨p,Q,rfl⟩:=qz.1 hs;exact hf.2 p Q)
    unfold Enters at T
    have ab:(execOp a.eval ⟨D,.call ⟨.value f,args,A⟩,type,pos,B,guard⟩).run P w=.ok (.enter g (args.toList.map a.eval++cap.map fun p=>Value.pointer (some (p.addr ρ))).toArray) w:=by
     have e1:(#[]++args.map a.eval)++(cap.map fun p=>Value.pointer (some (p.addr ρ))).toArray=(args.toList.map a.eval++cap.map fun p=>Value.pointer (some (p.addr ρ))).toArray:=by
      apply Array.ext';simp
     simp only[execOp,resolve,R,Deferred.ofValue,Sem.run_bind,Sem.run_pure,Result.andThen_ok,invoke,e1,T]
    rw[ab];refine Z.mono ?_;rintro e Y ⟨out,S,ac,ρ',k1,k2,k3,k4,k5,k6⟩;cases out with
    |ret s=>
     obtain⟨v,rfl,hr⟩:=k2;exact⟨v,s,S,ac,ρ',rfl,k1,hr,k6,d.heap k3 k4 k5,k4,k5⟩
    |panic v=>
     simp only[Out.rel]at k2;subst k2;exact⟨v,S,ac,ρ',rfl,k1,d.heap k3 k4 k5⟩
   ·exact hs.elim
  ·exact hs.elim
 case makeMap ty r=>exact cG d (Df hΘ hs d.sat (mz d r))
 case mapUpdate ty m k x=>
  obtain⟨Y,S,h1,M,O⟩:=tK hΘ hs d.sat (aT d m).1 (aT d k).1 (aT d x).1
  have:(execOp a.eval ⟨D,.mapUpdate ty m k x,type,pos,B,guard⟩).run P w=.ok .skip Y:=by
   simp[execOp,h1]
  rw[this];exact⟨undef,.tup [],S,st.nx,ρ,rfl,M,rfl,by simp[SV.below],d.heap O (fun _ _=>rfl) (qi _),fun _ _=>rfl,qi _⟩
 case insert ty m k x=>
  obtain⟨Y,S,h1,M,O⟩:=tK hΘ hs d.sat (aT d m).1 (aT d k).1 (aT d x).1
  have:(execOp a.eval ⟨D,.insert ty m k x,type,pos,B,guard⟩).run P w=.ok .skip Y:=by
   simp[execOp,h1]
  rw[this];exact⟨undef,.tup [],S,st.nx,ρ,rfl,M,rfl,by simp[SV.below],d.heap O (fun _ _=>rfl) (qi _),fun _ _=>rfl,qi _⟩
 case lookup ty x k ok=>exact cG d (YldS.yld (Do hΘ hs d.sat (aT d x).1 (aT d k).1) d.sat)
 case panic x=>
  simp only[sop]at hs;have I:=aT d x;split at hs
  ·rename_i ty v L;rw[L]at I;have R:a.eval x=.iface ty v:=I.1;have:(execOp a.eval ⟨D,.panic x,type,pos,B,guard⟩).run P w=.halt (.panic (.iface ty v)) w:=by simp[execOp,R,Instr.panic]
   rw[this];exact⟨_,st.h,st.nx,ρ,rfl,hs,d⟩
  ·exact hs.elim
 all_goals exact hs.elim
end
end Sx
