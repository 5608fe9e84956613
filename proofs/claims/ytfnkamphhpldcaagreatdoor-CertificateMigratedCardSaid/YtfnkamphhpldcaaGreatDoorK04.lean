import Derived.Test.YtfnkamphhpldcaaGreatDoorK03
set_option maxHeartbeats 64000000
namespace Sx
open Go
@[irreducible] def Br (b:Bool) (x y:Prop):Prop:=(b = true → x) ∧ (b = false → y)
theorem br {b:Bool} {x y:Prop} (h1:b = true → x) (a:b = false → y):Br b x y:=by unfold Br; exact ⟨h1,a⟩
theorem brd {b:Bool} {x y:Prop} (h:¬ b = true) (k:y):Br b x y:=br (fun g=>absurd g h) fun _=>k
theorem bre {b:Bool} {x y:Prop} (h:¬ b = false) (k:x):Br b x y:=br (fun _=>k) fun g=>absurd g h
theorem bri {p x y:Prop} [Decidable p] (h:p) (k:x):Br (decide p) x y:=br (fun _=>k) fun g=>absurd h (oe g)
theorem brj {p x y:Prop} [Decidable p] (h:¬ p) (k:y):Br (decide p) x y:=br (fun g=>absurd (od g) h) fun _=>k
theorem gae {p q x y:Prop} (h:¬ q) (k:x):(p → x) ∧ (q → y):=⟨fun _=>k,fun g=>absurd g h⟩
theorem gaf {p q x y:Prop} (h:¬ p) (k:y):(p → x) ∧ (q → y):=⟨fun g=>absurd g h,fun _=>k⟩
section
variable {P:Program} {Θ:Tys} {C:Ctx} {ρ:Rho} {h:Hp} {nx:Nat} {w:World} {K:Kt}
theorem zl5 {α:Type} {sz:Nat} (L:List (List α)) (e:Nat) (a:∀ y ∈ L,y.length = sz) (d:e ≤ L.length):L.flatten.take (e * sz) = (L.take e).flatten ∧ L.flatten.drop (e * sz) = (L.drop e).flatten:=by
 have h1:(L.take e).flatten.length = e * sz:=by
  rw [qbt,q8 (g:=fun _=>sz) (fun y c=>a y (yf c)),List.map_const',qc8,qq,qap d]
 have b:L.flatten = (L.take e).flatten ++ (L.drop e).flatten:=by rw [← yl,y4]
 rw [b];exact ⟨qdb h1,List.drop_left' h1⟩
def clrB (j:TI) (e sz a:Nat) (b:SB) (K:SB → Prop):Prop:=
 match b with
 |.arr t' sz' L room=>(match Nat.beq sz sz',Nat.beq sz j.size with
  |true,true=>e + a ≤ L.length ∧ K (.arr t' sz' (L.take e ++ List.replicate a j.zero ++ L.drop (e + a)) room)
  |_,_=>False)
 |_=>False
def zsh (Θ:Tys) (ts:List TypeId) (x:SV) (h:Hp) (nx:Nat) (K:Kt):Prop:=
 match ts,x with
 |[t],.va (.slice false i 0 e sz len _)=>(match Θ t with
  |some ⟨.slice elem,_,_,_⟩=>(match Θ elem,lget h i with
   |some j,some (.one b)=>clrB j e sz len b fun a=>K (.tup []) (lput h i (.one a)) nx
   |some j,some (.opt c b)=>c = true ∧ clrB j e sz len b fun a=>K (.tup []) (lput h i (.opt c a)) nx
   |_,_=>False)
  |_=>False)
 |_,_=>False
theorem zvk (hΘ:Θ.Ok P) {ts:List TypeId} {ty:TypeId} {x:SV} {v:Value} (s:zsh Θ ts x h nx K) (G:Sat C ρ h nx w) (hr:x.rel ρ v):Yld P (Builtin.clear_ ts.toArray ty #[v]) C ρ nx w K:=by
 unfold zsh at s;split at s
 ·rename_i t i e sz d cap;split at s
  ·rename_i A a b c hi
   have af:∀ (j:TI) (I:Ent) (e':SB → Ent),Θ A = some j → lget h i = some I → I.plain = true → (∀ l,(e' l).plain = true) → I.has 0 → (∀ l S,(e' l).has S ↔ I.has S) → (∀ S,I.has S → S = 0) → (∀ l,(e' l).at 0 = l) →
     clrB j e sz d (I.at 0) (fun l=>K (.tup []) (lput h i (e' l)) nx) → Yld P (Builtin.clear_ [t].toArray ty #[v]) C ρ nx w K:=by
    intro j I e' T O aj ae h0 U ah Y k;unfold clrB at k;split at k
    ·rename_i t' ao L am W;split at k
     ·rename_i J u;have J:=qk J;have u:=qk u;subst J;obtain ⟨V,hk⟩:=k;have R:=hΘ A j T;have X:=R.len;obtain ⟨o,ho,ad⟩:=G.blk i _ O 0 h0;rw [W] at ad;obtain ⟨hL,M,f,E,fr,ab,rfl⟩:=ad;have p:=G.wf i _ O 0 h0;rw [W] at p;have p:∀ x ∈ L,∀ a ∈ x,a.below nx:=p;simp only [SV.rel,SA.den,ju,if_false] at hr; subst hr;have ak:∀ n,(List.replicate n j.zero).flatten.length = n * sz:=fun n=>by simp [qbt,X,u]
      have y:L.flatten.length = L.length * sz:=by
       rw [qbt,q8 (g:=fun _=>sz) hL,List.map_const',qc8]
      obtain ⟨f1,_⟩:=zl5 L e hL (by omega);obtain ⟨_,f2⟩:=zl5 L (e + d) hL V
      let Q:=(List.replicate d j.zero).flatten.map (SA.den ρ)
      have D:Q.length = d * sz:=by simp only [Q,qa]; exact ak d
      have an:e * sz + d * sz ≤ L.length * sz:=by rw [← qbm]; exact qaz _ V
      have ac:RowAt w (ρ i 0) t' (L.flatten.map (SA.den ρ) ++ f):=⟨_,ho,fr,ab,rfl⟩
      have Z:=zcj (P:=P) (ρ i 0) (e * sz) t' Q 0 _ w ac (by simp only [qd,qa,y,D]; omega) (by
       intro z hz; obtain ⟨a,_,rfl⟩:=qz.1 hz; exact SA.one ρ a)
      have B:(List.take (e * sz + 0) (L.flatten.map (SA.den ρ) ++ f) ++ Q ++ List.drop (e * sz + 0 + Q.length) (L.flatten.map (SA.den ρ) ++ f)) = (L.take e ++ List.replicate d j.zero ++ L.drop (e + d)).flatten.map (SA.den ρ) ++ f:=by
       rw [qas,D,← qbm,qcg (by rw [qa,y]; omega),List.drop_append_of_le_length (by rw [qa,y,qbm]; omega),← qc1,← List.map_drop,f1,f2];simp only [yl,jj,ql]; rfl
      rw [B] at Z
      have ai:(Builtin.zeroCells (zval ρ j).cells d).toList = Q:=by
       have:=zjj (j.zero.map (SA.den ρ)) d;unfold Builtin.zeroCells;rw [zfm R ρ];simp only [qa] at this;simp only [qaa,qa];rw [this]; simp only [Q]; simp [qbo]
      have q:(L.take e ++ List.replicate d j.zero ++ L.drop (e + d)).length = L.length:=by
       simp only [qd,qq,qbh,yu]; omega
      have aa:(Builtin.clear_ [t].toArray ty #[.slice (some ⟨ρ i 0,e * sz,none⟩) d cap]).run P w = .ok (.tuple #[]) (w.setRow (ρ i 0) ((L.take e ++ List.replicate d j.zero ++ L.drop (e + d)).flatten.map (SA.den ρ) ++ f).toArray):=by
       cases d with
       |zero=>
        have e0:(L.take e ++ List.replicate 0 j.zero ++ L.drop (e + 0)) = L:=by simp
        rw [e0,setRow_self w _ _ t' fr ho];simp [Builtin.clear_,zau hΘ hi]
       |succ m=>simp [Builtin.clear_,zau hΘ hi,zgu hΘ T w ρ,ai,Z]
      refine ⟨_,_,.tup [],_,nx,ρ,aa,rfl,by simp [SV.below],hk,?_,fun _ _=>rfl,qm _⟩;refine G.upd 0 O aj (ae _) h0 (U _) _ (fun S al ag=>absurd (ah S ag) al) ?_ ?_ rfl rfl rfl (by simp) (setRow_heap w _ _ _ t' _ ho) (fun b hb=>zem w _ b _ hb)
      ·rw [Y];refine ⟨fun x hx=>?_,by rw [q]; exact M,f,by rw [q]; exact E,fr,?_,rfl⟩
       ·rcases ym.1 hx with hx | hx
        ·rcases ym.1 hx with hx | hx
         ·exact hL x (yf hx)
         ·rw [(qb3.1 hx).2,X,u]
        ·exact hL x (qam hx)
       ·have:(((L.take e ++ List.replicate d j.zero ++ L.drop (e + d)).flatten.map (SA.den ρ) ++ f)).length = (L.flatten.map (SA.den ρ) ++ f).length:=by
         rw [← B];simp only [qas,qd,qq,yu,qa,y,D]; omega
        rw [this]; exact ab
      ·rw [Y];intro x hx a ha;rcases ym.1 hx with hx | hx
       ·rcases ym.1 hx with hx | hx
        ·exact p x (yf hx) a ha
        ·rw [(qb3.1 hx).2] at ha;exact SA.below_mono (yj _) (R.bel a ha)
       ·exact p x (qam hx) a ha
     ·exact k.elim
    ·exact k.elim
   split at s
   ·rename_i j b T O;exact af j _ (fun l=>.one l) T O rfl (fun _=>rfl) rfl (fun _ _=>Iff.rfl) (fun _ hk=>hk) (fun _=>rfl) s
   ·rename_i j c b T O;exact af j _ (fun l=>.opt c l) T O rfl (fun _=>rfl) ⟨s.1,rfl⟩ (fun _ _=>Iff.rfl) (fun _ hk=>hk.2) (fun _=>rfl) s.2
   ·exact s.elim
  ·exact s.elim
 ·exact s.elim
def zy7 (Θ:Tys) (ts:List TypeId) (x y:SV) (h:Hp) (nx:Nat) (K:Kt):Prop:=
 match ts,x,y with
 |t :: _,.va (.slice false i k e sz len _),.va (.slice false i' k' e' sz' len' _)=>(match Θ t with
  |some ⟨.slice elem,_,_,_⟩=>(match Θ elem with
   |some j=>(match Nat.beq j.size 1 with
    |true=>rd h ⟨i',k',e',sz',0⟩ (Nat.min len' len) fun b=>wr h ⟨i,k,e,sz,0⟩ b fun a=>K (.va (.int .i64 (Nat.min len' len:Nat))) a nx
    |false=>False)
   |none=>False)
  |_=>False)
 |_,_,_=>False
theorem zz1 (hΘ:Θ.Ok P) {ts:List TypeId} {ty:TypeId} {x y:SV} {v u:Value} (m:zy7 Θ ts x y h nx K) (E:Sat C ρ h nx w) (Z:x.rel ρ v) (I:y.rel ρ u):Yld P (Builtin.copy_ ts.toArray ty #[v,u]) C ρ nx w K:=by
 unfold zy7 at m;split at m
 ·rename_i t r i k e sz o cap i' k' e' A g Q;split at m
  ·rename_i X a b c hi;split at m
   ·rename_i j hj;split at m
    ·rename_i p;have p:=qk p;simp only [SV.rel,SA.den,ju,if_false] at Z I; subst Z; subst I;obtain ⟨B,hw,J,V,t1,U,Y,D,R⟩:=zn0 m E;obtain ⟨h',t',f,old,d,hk,n,s,L,S⟩:=zs4 hw E V
     have l:(loadCells ⟨ρ i' k',e' * A,none⟩ (B.map (SA.den ρ)).length).run P w = .ok (B.map (SA.den ρ)).toArray w:=
      run_loadCells_list (P:=P) w _ _ (fun z q W=>by
       have hp:U.length = e' * A:=R;rw [addr_add,D.cell,← hp];have T:z < (B.map (SA.den ρ)).length:=(qi.1 W).1;rw [ql,jy (by omega),qal,jw T]; exact W)
     rw [qa,J] at l;have O:f.length = e * sz:=s
     have G:=zcj (P:=P) (ρ i k) (e * sz) t' (B.map (SA.den ρ)) 0 _ w n (by simp only [qd,qa]; omega) (by
      intro z T; obtain ⟨q,_,rfl⟩:=qz.1 T; exact SA.one ρ q)
     have e1:List.take (e * sz + 0) (f ++ old ++ d) = f:=by rw [qas,← O]; simp
     have e2:List.drop (e * sz + 0 + (B.map (SA.den ρ)).length) (f ++ old ++ d) = d:=by
      rw [qas,← O,qa,← L]; simp [ql]
     rw [e1,e2] at G
     have M:(Builtin.copy_ (t :: r).toArray ty #[.slice (some ⟨ρ i k,e * sz,none⟩) o cap,.slice (some ⟨ρ i' k',e' * A,none⟩) g Q]).run P w = .ok (.int .i64 (Nat.min g o:Nat)) (w.setRow (ρ i k) (f ++ B.map (SA.den ρ) ++ d).toArray):=by
      simp [Builtin.copy_,zau hΘ hi,Builtin.lenOf,Builtin.firstCells,zdr hΘ hj,p,l,G,goInt]
     exact ⟨_,_,.va (.int .i64 (Nat.min g o:Nat)),h',nx,ρ,M,rfl,tv,hk,S,fun _ _=>rfl,qm _⟩
    ·exact m.elim
   ·exact m.elim
  ·exact m.elim
 ·exact m.elim
def zy4:SA → Option Value
 |.int k n=>some (.int k n)
 |.lit b=>some (.bool b)
 |.bool b=>some (.bool b)
 |.str s=>some (.string ⟨s.toArray⟩)
 |.fn f []=>some (.func f #[] #[])
 |_=>none
theorem zv6 {ρ:Rho} {a:SA} {v:Value} (h:zy4 a = some v):a.den ρ = v:=by
 unfold zy4 at h;split at h<;>cases h<;>rfl
def svM:Value → Option SA
 |.func f ⟨[]⟩ ⟨[]⟩=>some (.fn f [])
 |v=>svA v
theorem z9q {ρ:Rho} {v:Value} {a:SA} (h:svM v = some a):v = a.den ρ ∧ a.below 0:=by
 unfold svM at h;split at h
 ·cases h; exact ⟨rfl,by simp [SA.below]⟩
 ·exact zsj h
def keyV:SA → Option Value
 |.int k n=>some (.int k n)
 |.str s=>some (.string ⟨s.toArray⟩)
 |_=>none
theorem ztp {ρ:Rho} {a:SA} {v:Value} (h:keyV a = some v):a.den ρ = v:=by
 unfold keyV at h;split at h<;>cases h<;>rfl
def zj7:TypeDesc → Bool
 |.int _=>true
 |.string=>true
 |_=>false
theorem zfw {a:TypeId} {d:TypeDesc} {k:Value} {w:World} (c:∀ w,(underlying a).run P w = .ok d w) (b:zj7 d = true) (e:Bool) (n:Nat):(Instr.checkKey e (n + 1) a k).run P w = .ok () w:=by
 unfold Instr.checkKey;simp only [Sem.run_bind,c,Result.andThen];cases d<;>first | rfl | cases b
def zlq (Θ:Tys) (t:TypeId) (r:Option SV) (h:Hp) (nx:Nat) (K:Kt):Prop:=
 match r,Θ t with
 |none,_=>K (.va (.map nx 0)) (lput h nx (.one (.obj (.map #[] 0)))) (nx + 1)
 |some (.va (.int _ _)),some ⟨.map _ _,_,_,_⟩=>K (.va (.map nx 0)) (lput h nx (.one (.obj (.map #[] 0)))) (nx + 1)
 |_,_=>False
theorem zqr (hΘ:Θ.Ok P) {t:TypeId} {r:Option SV} {v:Option Value} (d:zlq Θ t r h nx K) (j:Sat C ρ h nx w) (f:relO ρ r v):Yld P (Instr.makeMap t v) C ρ nx w K:=by
 have g:K (.va (.map nx 0)) (lput h nx (.one (.obj (.map #[] 0)))) (nx + 1) → (Instr.makeMap t v).run P w = .ok (.map (some w.heap.size)) (w.alloc (.map #[] 0)) → Yld P (Instr.makeMap t v) C ρ nx w K:=by
  intro m e;refine ⟨_,_,_,_,_,rext ρ nx w.heap.size,e,?_,?_,m,j.new (.obj (.map #[] 0)) _ trivial rfl,fun i l=>zd4 l,qac _⟩
  ·simp [SV.rel,SA.den,zbm]
  ·simp [SV.below,SA.below]
 unfold zlq at d;split at d
 ·match v,f with
  |none,_=>exact g d (by simp [Instr.makeMap])
 ·rename_i k n p o a b c l
  match v,f with
  |some v,f=>
   simp only [relO,SV.rel,SA.den] at f; subst f;exact g d (by simp [Instr.makeMap,zau hΘ l,asInt,asIntOf])
 ·exact d.elim
def zj3 (Θ:Tys) (t:TypeId) (m k x:SV) (h:Hp) (nx:Nat) (K:Kt):Prop:=
 match Θ t,m,k,x with
 |some ⟨.map kt _,_,_,_⟩,.va (.map i 0),.va ka,.va xa=>(match Θ kt,lget h i,keyV ka,zy4 xa with
  |some j,some (.one (.obj (.map ⟨l⟩ clock))),some kv,some xv=>(match zj7 j.d,Instr.findNow j.d kv l 0 with
   |true,some none=>K (.tup []) (lput h i (.one (.obj (.map ⟨l ++ [⟨kv,xv,clock⟩]⟩ (clock + 1))))) nx
   |_,_=>False)
  |_,_,_,_=>False)
 |_,_,_,_=>False
theorem zlu (hΘ:Θ.Ok P) {t:TypeId} {m k x:SV} {O q vx:Value} (e:zj3 Θ t m k x h nx K) (g:Sat C ρ h nx w) (L:m.rel ρ O) (y:k.rel ρ q) (u:x.rel ρ vx) :
  ∃ R S,(Instr.mapUpdate t O q vx).run P w = .ok () R ∧ K (.tup []) S nx ∧ Sat C ρ S nx R:=by
 unfold zj3 at e;split at e
 ·rename_i W et a b c i X Y U;split at e
  ·rename_i j l d Z xv T D G J;split at e
   ·rename_i A E;simp only [SV.rel] at L y u;rw [ztp G] at y;rw [zv6 J] at u;simp only [SA.den] at L;subst L; subst y; subst u;obtain ⟨o,Q,n⟩:=g.blk i _ D 0 rfl;have n:o = .map ⟨l⟩ d:=n;subst n;have f:=fun w=>zau (P:=P) hΘ T w
    have I:(Instr.findKey W q l).run P w = .ok none w:=by
     simp [Instr.findKey,f,E]
    have s:ρ i 0 < w.heap.size:=g.blt ⟨_,D,rfl⟩
    have p:(Instr.mapUpdate t (.map (some (ρ i 0))) q vx).run P w = .ok () { w with heap:=w.heap.setIfInBounds (ρ i 0) (.map ⟨l ++ [⟨q,vx,d⟩]⟩ (d + 1)) }:=by
     simp [Instr.mapUpdate,zau hΘ U,MapKept.run_getObj_map Q,zfw f A,I,MapKept.run_setObj_map _ Q]
    refine ⟨_,_,p,e,?_⟩;refine g.upd 0 D rfl rfl rfl (fun _=>Iff.rfl) _ (fun k' M B=>absurd B M) rfl trivial rfl rfl rfl (by simp) (by simp [s]) (fun b V=>by simp [Array.getElem?_setIfInBounds,Ne.symm V])
   ·exact e.elim
  ·exact e.elim
 ·exact e.elim
def keyEq:SA → Value → Option Bool
 |.int k a,.int k' b=>if k = k' then some (decide (a = b)) else none
 |.str s,.string b=>some (decide (s = b.data.toList))
 |_,_=>none
def lkup (k:SA):List MapEntry → (Option Value → Prop) → Prop
 |[],X=>X none
 |e :: r,X=>match keyEq k e.key with
  |some b=>Br b (X (some e.val)) (lkup k r X)
  |none=>False
def kdOk:TypeDesc → SA → Bool
 |.int _,.int _ _=>true
 |.string,.str _=>true
 |_,_=>false
theorem zv9 {d:TypeDesc} {k:SA} {g v:Value} {b:Bool} (j:zj7 d = true) (e:kdOk d k = true) (i:keyV k = some g) (h:keyEq k v = some b):Instr.sameNow d g v = some b:=by
 unfold keyEq at h;split at h
 ·rename_i l a m c;cases i
  split at h
  ·rename_i f;subst f; cases h
   cases d with
   |int k0=>simp only [Instr.sameNow,if_true]; congr 1
   |string=>simp [kdOk] at e
   |_=>cases j
  ·cases h
 ·rename_i s c;cases i; cases h
  cases d with
  |int k0=>simp [kdOk] at e
  |string=>
   simp only [Instr.sameNow]
   congr 1
   rw [beq_toListBytes,toList_mk,Bool.eq_iff_iff,ByteArray.toList_eq];simp
  |_=>cases j
 ·cases h
theorem zp1 {d:TypeDesc} {k:SA} {c:Value} (j:zj7 d = true) (a:kdOk d k = true) (g:keyV k = some c) :
  ∀ (l:List MapEntry) (X:Option Value → Prop) (i:Nat),lkup k l X → ∃ r,Instr.findNow d c l i = some r ∧ X (r.map (·.2))
 |[],X,i,h=>⟨none,rfl,h⟩
 |e :: r,X,i,h=>by
  simp only [lkup] at h;split at h
  ·rename_i b n;have f:=zv9 j a g n;unfold Br at h;cases b with
   |true=>exact ⟨some (i,e.val),by simp [Instr.findNow,f],h.1 rfl⟩
   |false=>
    obtain ⟨o,h1,m⟩:=zp1 j a g r X (i + 1) (h.2 rfl);exact ⟨o,by simp [Instr.findNow,f,h1],m⟩
  ·exact h.elim
def zn1 (Θ:Tys) (t:TypeId) (x k:SV) (ok:Bool) (h:Hp) (nx:Nat) (K:Kt):Prop:=
 match Θ t,x,k with
 |some ⟨.map kt et,_,_,_⟩,.va (.map i 0),.va ka=>(match Θ kt,Θ et,lget h i,keyV ka with
  |some j,some je,some (.one (.obj (.map ⟨l⟩ _))),some _=>(match zj7 j.d,aggD je.d,kdOk j.d ka with
   |true,false,true=>lkup ka l fun r=>(match r with
    |some v=>(match svM v with
     |some a=>K (match ok with | true=>.tup [.va a,.va (.lit true)] | false=>.va a) h nx
     |none=>False)
    |none=>K (match ok with | true=>.tup [.va (je.zero.headD .nilptr),.va (.lit false)] | false=>.va (je.zero.headD .nilptr)) h nx)
   |_,_,_=>False)
  |_,_,_,_=>False)
 |_,_,_=>False
theorem zsn (hΘ:Θ.Ok P) {t:TypeId} {x k:SV} {ok:Bool} {Q E:Value} (e:zn1 Θ t x k ok h nx K) (L:Sat C ρ h nx w) (I:x.rel ρ Q) (J:k.rel ρ E):YldS P (Instr.lookup t Q E ok) ρ h nx w K:=by
 unfold zn1 at e;split at e
 ·rename_i Y W a b c i ka T;split at e
  ·rename_i j m l s kv hj y U A;split at e
   ·rename_i g O G;simp only [SV.rel] at I J;rw [ztp A] at J;simp only [SA.den] at I;subst I; subst J;obtain ⟨o,R,q⟩:=L.blk i _ U 0 rfl;have q:o = .map ⟨l⟩ s:=q;subst q;have d:=fun w=>zau (P:=P) hΘ hj w
    obtain ⟨r,Z,u⟩:=zp1 g G A l _ 0 e
    have B:(Instr.findKey Y E l).run P w = .ok r w:=by
     simp [Instr.findKey,d,Z]
    have M:zval ρ m = (m.zero.headD .nilptr).den ρ:=by unfold zval; rw [O]
    have f:(Instr.lookup t (.map (some (ρ i 0))) E ok).run P w = .ok (match r with | some (_,v)=>if ok then .tuple #[v,.bool true] else v | none=>if ok then .tuple #[zval ρ m,.bool false] else zval ρ m) w:=by
     cases r with
     |none=>simp [Instr.lookup,zau hΘ T,MapKept.run_getObj_map R,zfw d g,B,zgu hΘ y w ρ]
     |some p=>obtain ⟨n,v⟩:=p; simp [Instr.lookup,zau hΘ T,MapKept.run_getObj_map R,zfw d g,B]
    cases r with
    |none=>
     simp only [Option.map_none] at u;refine ⟨_,_,f,?_,?_,u⟩
     ·cases ok<;>simp [SV.rel,M,SC.den,SA.den]
     ·have D:(m.zero.headD .nilptr).below nx:=by
       have V:=(hΘ W m y).bel;cases D:m.zero with
       |nil=>trivial
       |cons a r=>exact SA.below_mono (yj _) (V a (by simp [D]))
      cases ok
      ·exact D
      ·intro c hc;rcases qj.1 hc with rfl | hc
       ·exact D
       ·rw [qu.1 hc]; trivial
    |some p=>
     obtain ⟨n,v⟩:=p;simp only [qda] at u;split at u
     ·rename_i a X;obtain ⟨h1,S⟩:=z9q (ρ:=ρ) X;refine ⟨_,_,f,?_,?_,u⟩
      ·cases ok<;>simp [SV.rel,SC.den,SA.den,h1]
      ·cases ok
       ·exact SA.below_mono (yj _) S
       ·intro c hc;rcases qj.1 hc with rfl | hc
        ·exact SA.below_mono (yj _) S
        ·rw [qu.1 hc]; trivial
     ·exact u.elim
   ·exact e.elim
  ·exact e.elim
 ·exact e.elim
end
def zlw:Operand → Bool
 |.const .nilIface=>true
 |_=>false
def znd (Θ:Tys) (a:BinOp) (t:TypeId) (x:SV) (h:Hp) (nx:Nat) (K:Kt):Prop:=
 match Θ t with
 |some ⟨.interface _,_,_,_⟩=>(match x,a with
  |.va .nilif,.eql=>K (.va (.lit true)) h nx
  |.va .nilif,.neq=>K (.va (.lit false)) h nx
  |.va (.ifc _ _),.eql=>K (.va (.lit false)) h nx
  |.va (.ifc _ _),.neq=>K (.va (.lit true)) h nx
  |_,_=>False)
 |_=>False
theorem zf1 {P:Program} {Θ:Tys} {t:TypeId} {i:TI} {a:Array (String × TypeId)} (hΘ:Θ.Ok P) (g:Θ t = some i) (f:i.d = .interface a) (v:Value) (b:Bool) (c:(v = .nilIface ∧ b = true) ∨ (∃ ty u,v = .iface ty u ∧ b = false)) (w:World) :
  (Op.equal t v .nilIface).run P w = .ok b w:=by
 have e:Op.maxDepth = 9999 + 1:=rfl;unfold Op.equal;rw [e,Op.equalIn];simp only [Sem.run_bind,zau hΘ g,f,Result.andThen_ok];rcases c with ⟨rfl,rfl⟩ | ⟨ty,u,rfl,rfl⟩<;>rfl
theorem zwb {P:Program} {Θ:Tys} {C:Ctx} {ρ:Rho} {h:Hp} {nx:Nat} {w:World} {K:Kt} (hΘ:Θ.Ok P) {j:BinOp} {t:TypeId} {n k:Operand} {x:SV} {v u:Value} (i:zlw k = true) (o:u = .nilIface) (d:znd Θ j t x h nx K) (e:Sat C ρ h nx w) (f:x.rel ρ v) :
  YldS P (do eqGuard j t n k v u; binOp j t v u) ρ h nx w K:=by
 subst o
 have m:∃ u,k = .const u:=by
  unfold zlw at i;split at i
  ·exact ⟨_,rfl⟩
  ·cases i
 obtain ⟨u,rfl⟩:=m;unfold znd at d;split at d
 ·rename_i p a b c g;split at d
  ·simp only [SV.rel,SA.den] at f; subst f;exact zbj (r:=.bool true) (by unfold eqGuard; simp) (by show (do pure (Value.bool (← Op.equal t .nilIface .nilIface)):Sem Value).run P w = _; simp only [Sem.run_bind,zf1 hΘ g rfl _ true (.inl ⟨rfl,rfl⟩),Result.andThen_ok,Sem.run_pure]) e (sv:=.va (.lit true)) rfl trivial d
  ·simp only [SV.rel,SA.den] at f; subst f;exact zbj (r:=.bool false) (by unfold eqGuard; simp) (by show (do pure (Value.bool (!(← Op.equal t .nilIface .nilIface))):Sem Value).run P w = _; simp only [Sem.run_bind,zf1 hΘ g rfl _ true (.inl ⟨rfl,rfl⟩),Result.andThen_ok,Sem.run_pure]; rfl) e (sv:=.va (.lit false)) rfl trivial d
  ·rename_i ty l;simp only [SV.rel,SA.den] at f; subst f;exact zbj (r:=.bool false) (by unfold eqGuard; simp) (by show (do pure (Value.bool (← Op.equal t (.iface ty l) .nilIface)):Sem Value).run P w = _; simp only [Sem.run_bind,zf1 hΘ g rfl _ false (.inr ⟨_,_,rfl,rfl⟩),Result.andThen_ok,Sem.run_pure]) e (sv:=.va (.lit false)) rfl trivial d
  ·rename_i ty l;simp only [SV.rel,SA.den] at f; subst f;exact zbj (r:=.bool true) (by unfold eqGuard; simp) (by show (do pure (Value.bool (!(← Op.equal t (.iface ty l) .nilIface))):Sem Value).run P w = _; simp only [Sem.run_bind,zf1 hΘ g rfl _ false (.inr ⟨_,_,rfl,rfl⟩),Result.andThen_ok,Sem.run_pure]; rfl) e (sv:=.va (.lit true)) rfl trivial d
  ·exact d.elim
 ·exact d.elim
def zqp:Operand → Bool
 |.const (.pointer none)=>true
 |_=>false
def zq5 (Θ:Tys) (a:BinOp) (t:TypeId) (x:SV) (h:Hp) (nx:Nat) (K:Kt):Prop:=
 match Θ t with
 |some ⟨.pointer _,_,_,_⟩=>(match x,a with
  |.va .nilptr,.eql=>K (.va (.lit true)) h nx
  |.va .nilptr,.neq=>K (.va (.lit false)) h nx
  |.va (.ptr _),.eql=>K (.va (.lit false)) h nx
  |.va (.ptr _),.neq=>K (.va (.lit true)) h nx
  |_,_=>False)
 |_=>False
theorem zgv {P:Program} {Θ:Tys} {t:TypeId} {i:TI} {e:TypeId} (hΘ:Θ.Ok P) (c:Θ t = some i) (b:i.d = .pointer e) (a:Option Addr) (w:World) :
  (Op.equal t (.pointer a) (.pointer none)).run P w = .ok a.isNone w:=by
 have e:Op.maxDepth = 9999 + 1:=rfl;unfold Op.equal;rw [e,Op.equalIn];simp only [Sem.run_bind,zau hΘ c,b,Result.andThen_ok];cases a<;>rfl
theorem zw6 {P:Program} {Θ:Tys} {C:Ctx} {ρ:Rho} {h:Hp} {nx:Nat} {w:World} {K:Kt} (hΘ:Θ.Ok P) {i:BinOp} {t:TypeId} {j l:Operand} {x:SV} {v u:Value} (k:u = .pointer none) (d:zq5 Θ i t x h nx K) (e:Sat C ρ h nx w) (f:x.rel ρ v) :
  YldS P (do eqGuard i t j l v u; binOp i t v u) ρ h nx w K:=by
 subst k;unfold zq5 at d;split at d
 ·rename_i m a b c g;split at d
  ·simp only [SV.rel,SA.den] at f; subst f;exact zbj (r:=.bool true) (by unfold eqGuard; simp) (by show (do pure (Value.bool (← Op.equal t (.pointer none) (.pointer none))):Sem Value).run P w = _; simp only [Sem.run_bind,zgv hΘ g rfl,Result.andThen_ok,Sem.run_pure]; rfl) e (sv:=.va (.lit true)) rfl trivial d
  ·simp only [SV.rel,SA.den] at f; subst f;exact zbj (r:=.bool false) (by unfold eqGuard; simp) (by show (do pure (Value.bool (!(← Op.equal t (.pointer none) (.pointer none)))):Sem Value).run P w = _; simp only [Sem.run_bind,zgv hΘ g rfl,Result.andThen_ok,Sem.run_pure]; rfl) e (sv:=.va (.lit false)) rfl trivial d
  ·rename_i p;simp only [SV.rel,SA.den] at f; subst f;exact zbj (r:=.bool false) (by unfold eqGuard; simp) (by show (do pure (Value.bool (← Op.equal t (.pointer (some (p.addr ρ))) (.pointer none))):Sem Value).run P w = _; simp only [Sem.run_bind,zgv hΘ g rfl,Result.andThen_ok,Sem.run_pure]; rfl) e (sv:=.va (.lit false)) rfl trivial d
  ·rename_i p;simp only [SV.rel,SA.den] at f; subst f;exact zbj (r:=.bool true) (by unfold eqGuard; simp) (by show (do pure (Value.bool (!(← Op.equal t (.pointer (some (p.addr ρ))) (.pointer none)))):Sem Value).run P w = _; simp only [Sem.run_bind,zgv hΘ g rfl,Result.andThen_ok,Sem.run_pure]; rfl) e (sv:=.va (.lit true)) rfl trivial d
  ·exact d.elim
 ·exact d.elim
def z7w (Θ:Tys) (t:TypeId) (x:SV) (h:Hp) (nx:Nat) (K:Kt):Prop:=
 match Θ t with
 |some ⟨.interface _,_,_,_⟩=>False
 |some _=>match x with
  |.va (.int k n)=>K (.va (.ifc t (.int k n))) h nx
  |.va (.str s)=>K (.va (.ifc t (.string ⟨s.toArray⟩))) h nx
  |_=>False
 |none=>False
def plsOf:List SV → Option (List Pl)
 |[]=>some []
 |.va (.ptr p) :: r=>match plsOf r with
  |some l=>some (p :: l)
  |none=>none
 |_ :: _=>none
def evL (t:List (List (Nat × SV))):List Operand → List SV
 |[]=>[]
 |x :: r=>ev t x :: evL t r
def evP (t:List (List (Nat × SV))):List (Nat × Operand) → List (Nat × SV)
 |[]=>[]
 |p :: r=>(p.1,ev t p.2) :: evP t r
def z7z (f:Fn) (first:List Operand) (caps:List SV) (h:Hp) (nx:Nat) (K:Kt):Prop:=
 match first,plsOf caps with
 |[],some l=>K (.va (.fn f l)) h nx
 |_,_=>False
def evO (t:List (List (Nat × SV))):Option Operand → Option SV
 |none=>none
 |some x=>some (ev t x)
abbrev Kp:=Value → Hp → Nat → Prop
def s_call (P:Program) (Θ:Tys) (t:List (List (Nat × SV))) (c:Call) (h:Hp) (nx:Nat) (K:Kt) (KP:Kp):Prop:=
 match c.callee with
 |.builtin b=>(match b,evL t c.args.toList with
  |.len,[x]=>s_len Θ c.argTypes.toList x h nx K
  |.cap,[x]=>s_cap Θ c.argTypes.toList x h nx K
  |.append,[x,y]=>zng Θ c.argTypes.toList x y h nx K
  |.min,[x,y]=>s_min x y h nx K
  |.max,[x,y]=>s_max x y h nx K
  |.clear,[x]=>zsh Θ c.argTypes.toList x h nx K
  |.copy,[x,y]=>zy7 Θ c.argTypes.toList x y h nx K
  |_,_=>False)
 |.value f=>(match ev t f with
  |.va (.fn (.func g) cap)=>zba P g (evL t c.args.toList ++ cap.map fun p=>SV.va (.ptr p)) h nx fun out d a=>(match out with
   |.ret v=>K v d a
   |.panic v=>KP v d a)
  |_=>False)
 |.invoke _ _=>False
def gp:SV → SV
 |.va (.glob g)=>.va (.ptr ⟨0,g,0,0,0⟩)
 |x=>x
theorem yb2 {C:Ctx} {ρ:Rho} {h:Hp} {nx:Nat} {w:World} (s:Sat C ρ h nx w) {x:SV} {v:Value} (a:x.rel ρ v):(gp x).rel ρ v:=by
 unfold gp;split
 ·rename_i g;simp only [SV.rel,SA.den,Pl.addr] at *;rw [a,s.id0]
 ·exact a
def sop (P:Program) (Θ:Tys) (t:List (List (Nat × SV))) (o:Op) (h:Hp) (nx:Nat) (K:Kt) (KP:Kp):Prop:=
 match o with
 |.move x=>K (ev t x) h nx
 |.assign x=>K (ev t x) h nx
 |.pick c a b=>zka (ev t c) (ev t a) (ev t b) h nx K
 |.alloc e=>zrd Θ e h nx K
 |.box e x=>s_box e (ev t x) h nx K
 |.build ty ps=>zr3 Θ ty (evP t ps.toList) h nx K
 |.buildSlice ty n ps=>zgf Θ ty n (evP t ps.toList) h nx K
 |.load ty a=>zfr Θ ty (gp (ev t a)) h nx K
 |.store ty a v=>zkc Θ ty (ev t a) (ev t v) h nx K
 |.nilCheck x=>(match ev t x with
  |.va (.ptr p)=>K (.va (.ptr p)) h nx
  |.va (.fn (.func f) c)=>K (.va (.fn (.func f) c)) h nx
  |_=>False)
 |.binOp op ty x y _=>(match zlw y with
  |true=>znd Θ op ty (ev t x) h nx K
  |false=>(match zqp y with
   |true=>zq5 Θ op ty (ev t x) h nx K
   |false=>s_bin P Θ op ty (ev t x) (ev t y) h nx K))
 |.unOp op _ x=>s_un op (ev t x) h nx K
 |.convert s d x=>zp3 Θ s d (ev t x) h nx K
 |.makeInterface ty x=>z7w Θ ty (ev t x) h nx K
 |.makeFunc f a c=>z7z f a.toList (evL t c.toList) h nx K
 |.slice ty x lo hi mx=>zhe Θ ty (ev t x) (evO t lo) (evO t hi) (evO t mx) h nx K
 |.fieldAddr ty x f=>zdn Θ ty (ev t x) f h nx K
 |.field ty x f=>zhq Θ ty (ev t x) f h nx K
 |.indexAddr ty x i=>zdm Θ ty (ev t x) (ev t i) h nx K
 |.index ty x i=>zhi Θ ty (ev t x) (ev t i) h nx K
 |.extract x i=>(match ev t x with
  |.tup l=>(match nth l i with
   |some c=>K c.v h nx
   |none=>False)
  |_=>False)
 |.call c=>s_call P Θ t c h nx K KP
 |.makeMap ty r=>zlq Θ ty (evO t r) h nx K
 |.mapUpdate ty m k x=>zj3 Θ ty (ev t m) (ev t k) (ev t x) h nx K
 |.insert ty m k x=>zj3 Θ ty (ev t m) (ev t k) (ev t x) h nx K
 |.lookup ty x k ok=>zn1 Θ ty (ev t x) (ev t k) ok h nx K
 |.panic x=>(match ev t x with
  |.va (.ifc ty v)=>KP (.iface ty v) h nx
  |_=>False)
 |_=>False
section
variable {P:Program} {Θ:Tys} {C:Ctx} {ρ:Rho} {st:St} {a:Act} {w:World} {K:Kt} {KP:Kp}
def Upon (P:Program) (o:Oper) (C:Ctx) (ρ:Rho) (st:St) (a:Act) (K:Kt) (KP:Kp) (r:Result Next):Prop:=
 o.upon P a (fun f g=>∃ v sv d b c,f = a.put o.dst v ∧ K sv d b ∧ sv.rel c v ∧ sv.below b ∧ Den C c { st with h:=d,nx:=b } a g ∧ (∀ i,i < st.nx → c i = ρ i) ∧ st.nx ≤ b)
  (fun e f g=>∃ v d b c,e = .panic [{ v,recovered:=false }] ∧ KP v d b ∧ Den C c { st with h:=d,nx:=b } f g) r
theorem zbc {o:Oper} {s:Sem Value} (d:Den C ρ st a w) (m:Yld P s C ρ st.nx w K):Upon P o C ρ st a K KP ((do pure (Next.value (← s)):Sem Next).run P w):=by
 obtain ⟨v,n,sv,j,b,i,h1,k,g,l,f,e,c⟩:=m;simp only [Sem.run_bind,h1,Result.andThen_ok,Sem.run_pure];exact ⟨v,sv,j,b,i,rfl,l,k,g,d.heap f e c,e,c⟩
theorem zku (d:Den C ρ st a w):∀ l:List Operand,relL ρ (evL st.t l) (l.map a.eval) ∧ ∀ s ∈ evL st.t l,s.below st.nx
 |[]=>⟨tv,by simp [evL]⟩
 |x :: r=>by
  obtain ⟨h1,c⟩:=zku d r;obtain ⟨b,e⟩:=za4 d x;refine ⟨⟨b,h1⟩,?_⟩;intro s hs;simp only [evL,qj] at hs;rcases hs with rfl | hs
  ·exact e
  ·exact c s hs
theorem zsc (d:Den C ρ st a w):∀ l:List (Nat × Operand),(∀ (j:Nat) (p:Nat × SV) (q:Nat × Value),(evP st.t l)[j]? = some p → (l.map fun x=>(x.1,a.eval x.2))[j]? = some q → p.1 = q.1 ∧ p.2.rel ρ q.2) ∧
  (evP st.t l).length = l.length ∧ ∀ p ∈ evP st.t l,p.2.below st.nx
 |[]=>⟨by simp [evP],rfl,by simp [evP]⟩
 |x :: r=>by
  obtain ⟨h1,f,e⟩:=zsc d r;obtain ⟨g,c⟩:=za4 d x.2;refine ⟨?_,by simp [evP,f],?_⟩
  ·intro j p q hp b;cases j with
   |zero=>simp [evP] at hp b; subst hp; subst b; exact ⟨rfl,g⟩
   |succ j=>exact h1 j p q (by simpa [evP] using hp) (by simpa using b)
  ·intro p hp;simp only [evP,qj] at hp;rcases hp with rfl | hp
   ·exact c
   ·exact e p hp
theorem znh (d:Den C ρ st a w) (x:Option Operand):relO ρ (evO st.t x) (x.map a.eval):=by
 cases x with
 |none=>trivial
 |some x=>exact (za4 d x).1
theorem zpw {ρ:Rho} {n:Nat}:∀ {l:List SV} {c:List Pl} {vs:List Value},plsOf l = some c → relL ρ l vs → (∀ s ∈ l,s.below n) → vs = c.map (fun p=>Value.pointer (some (p.addr ρ))) ∧ ∀ p ∈ c,p.i < n
 |[],c,vs,h,hr,_=>by
  simp [plsOf] at h; subst h;cases vs with
  |nil=>exact ⟨rfl,by simp⟩
  |cons v r=>exact hr.elim
 |s :: r,c,vs,h,hr,hb=>by
  cases vs with
  |nil=>exact hr.elim
  |cons v vr=>
   unfold plsOf at h;split at h
   ·rename_i b; cases b
   ·rename_i p g b;cases b
    split at h
    ·rename_i j d;cases h
     obtain ⟨h1,e⟩:=zpw (ρ:=ρ) (n:=n) d hr.2 (fun s f=>hb s (by simp [f]));refine ⟨?_,?_⟩
     ·have:=hr.1; simp only [SV.rel,SA.den] at this; rw [this,h1]; rfl
     ·intro q hq;rcases qj.1 hq with rfl | hq
      ·exact hb (.va (.ptr q)) (by simp)
      ·exact e q hq
    ·cases h
   ·cases h
theorem zlc {ρ:Rho}:∀ {a b:List SV} {x y:List Value},relL ρ a x → relL ρ b y → relL ρ (a ++ b) (x ++ y)
 |[],b,[],y,_,h=>h
 |[],b,v :: x,y,h,_=>h.elim
 |s :: a,b,[],y,h,_=>h.elim
 |s :: a,b,v :: x,y,h1,h2=>⟨h1.1,zlc h1.2 h2⟩
theorem zo1 {ρ:Rho}:∀ l:List Pl,relL ρ (l.map fun p=>SV.va (.ptr p)) (l.map fun p=>Value.pointer (some (p.addr ρ)))
 |[]=>trivial
 |p :: r=>⟨rfl,zo1 r⟩
theorem zh0 (hΘ:Θ.Ok P) {o:Oper} (hs:sop P Θ st.t o.op st.h st.nx K KP) (d:Den C ρ st a w):Upon P o C ρ st a K KP ((execOp a.eval o).run P w):=by
 obtain ⟨D,S,type,pos,B,guard⟩:=o;cases S
 case move x=>exact zbc (s:=pure (a.eval x)) d (Yld.same d.sat _ _ rfl (za4 d x).1 (za4 d x).2 hs)
 case assign x=>exact zbc (s:=pure (a.eval x)) d (Yld.same d.sat _ _ rfl (za4 d x).1 (za4 d x).2 hs)
 case pick c x y=>
  have:=zbc (KP:=KP) (o:=⟨D,.pick c x y,type,pos,B,guard⟩) d (YldS.yld (zqi (P:=P) hs d.sat (za4 d c).1 (za4 d x).1 (za4 d y).1 (za4 d x).2 (za4 d y).2) d.sat);simpa [execOp] using this
 case alloc e=>exact zbc d (zv7 hΘ hs d.sat)
 case box e x=>exact zbc d (z6y hs d.sat (za4 d x).1 (za4 d x).2)
 case build ty ps=>
  obtain ⟨h1,M,Q⟩:=zsc d ps.toList;refine zbc d (YldS.yld (zv3 hΘ hs d.sat (by simp [M]) (fun j p q O hq=>h1 j p q O ?_) Q) d.sat);simpa using hq
 case buildSlice ty n ps=>
  obtain ⟨h1,M,Q⟩:=zsc d ps.toList;refine zbc d (zks hΘ hs d.sat (by simp [M]) (fun j p q O hq=>h1 j p q O ?_) Q);simpa using hq
 case load ty x=>exact zbc d (zw2 hΘ hs d.sat (yb2 d.sat (za4 d x).1))
 case store ty x y=>
  obtain ⟨Y,V,h1,M,Q⟩:=zi4 hΘ hs d.sat (za4 d x).1 (za4 d y).1 (za4 d y).2
  have:(execOp a.eval ⟨D,.store ty x y,type,pos,B,guard⟩).run P w = .ok .skip Y:=by
   simp [execOp,h1]
  rw [this];exact ⟨undef,.tup [],V,st.nx,ρ,rfl,M,rfl,by simp [SV.below],d.heap Q (fun _ _=>rfl) (qm _),fun _ _=>rfl,qm _⟩
 case nilCheck x=>
  simp only [sop] at hs;have G:=za4 d x;split at hs
  ·rename_i p J;rw [J] at G;have R:a.eval x = .pointer (some (p.addr ρ)):=G.1;have:(execOp a.eval ⟨D,.nilCheck x,type,pos,B,guard⟩).run P w = .ok (.value (.pointer (some (p.addr ρ)))) w:=by simp [execOp,R]
   rw [this];exact ⟨_,_,st.h,st.nx,ρ,rfl,hs,rfl,G.2,d,fun _ _=>rfl,qm _⟩
  ·rename_i f c J;rw [J] at G;have R:a.eval x = _:=G.1;simp only [SA.den] at R;have:(execOp a.eval ⟨D,.nilCheck x,type,pos,B,guard⟩).run P w = .ok (.value (a.eval x)) w:=by simp [execOp,R]
   rw [this];exact ⟨_,_,st.h,st.nx,ρ,rfl,hs,G.1,G.2,d,fun _ _=>rfl,qm _⟩
  ·exact hs.elim
 case binOp S ty x y ty'=>
  have hs:(match zlw y with
   |true=>znd Θ S ty (ev st.t x) st.h st.nx K
   |false=>(match zqp y with
    |true=>zq5 Θ S ty (ev st.t x) st.h st.nx K
    |false=>s_bin P Θ S ty (ev st.t x) (ev st.t y) st.h st.nx K)):=hs
  cases U:zlw y with
  |true=>
   rw [U] at hs
   have J:a.eval y = .nilIface:=by
    unfold zlw at U;split at U
    ·rfl
    ·cases U
   exact zbc d (YldS.yld (zwb hΘ U J hs d.sat (za4 d x).1) d.sat)
  |false=>
   rw [U] at hs
   have hs:(match zqp y with
    |true=>zq5 Θ S ty (ev st.t x) st.h st.nx K
    |false=>s_bin P Θ S ty (ev st.t x) (ev st.t y) st.h st.nx K):=hs
   cases O:zqp y with
   |true=>
    rw [O] at hs
    have J:a.eval y = .pointer none:=by
     unfold zqp at O;split at O
     ·rfl
     ·cases O
    exact zbc d (YldS.yld (zw6 hΘ J hs d.sat (za4 d x).1) d.sat)
   |false=>
    rw [O] at hs;exact zbc d (YldS.yld (ztn hΘ hs d.sat (za4 d x).1 (za4 d y).1) d.sat)
 case unOp S ty x=>exact zbc d (YldS.yld (zwp hs d.sat (za4 d x).1) d.sat)
 case convert s dd x=>exact zbc d (zye hΘ hs d.sat (za4 d x).1)
 case makeInterface ty x=>
  simp only [sop] at hs;have G:=za4 d x;unfold z7w at hs;split at hs
  ·exact hs.elim
  ·rename_i i U hi
   have hu:∀ v,(Instr.makeInterface ty v).run P w = .ok (.iface ty v) w:=by
    intro v;simp only [Instr.makeInterface,Sem.run_bind,zau hΘ hi,Result.andThen_ok];cases hd:i.d<;>first | rfl | skip
    rename_i ms;obtain ⟨i1,i2,i3,i4⟩:=i;simp only at hd; subst hd;exact (U ms i2 i3 i4 rfl).elim
   split at hs
   ·rename_i k n J;rw [J] at G;exact zbc d (Yld.same d.sat _ (.va (.ifc ty (.int k n))) (hu _) (by rw [G.1]; rfl) trivial hs)
   ·rename_i s J;rw [J] at G;exact zbc d (Yld.same d.sat _ (.va (.ifc ty (.string ⟨s.toArray⟩))) (hu _) (by rw [G.1]; rfl) trivial hs)
   ·exact hs.elim
  ·exact hs.elim
 case makeFunc f first caps=>
  simp only [sop] at hs;unfold z7z at hs;split at hs
  ·rename_i l hf hl;have ad:first = #[]:=by simpa using hf
   subst ad;obtain ⟨h1,M⟩:=zku d caps.toList;obtain ⟨Q,h4⟩:=zpw hl h1 M;refine zbc d (Yld.same d.sat (.func f #[] (caps.map a.eval)) (.va (.fn f l)) (by simp [Instr.makeFunc]) ?_ h4 hs);simp only [SV.rel,SA.den]
   congr 1
   rw [← Q]; apply Array.ext'; simp
  ·exact hs.elim
 case slice ty x lo hi mx=>exact zbc d (YldS.yld (zmk hΘ hs d.sat (za4 d x).1 (znh d lo) (znh d hi) (znh d mx) (za4 d x).2) d.sat)
 case fieldAddr ty x f=>exact zbc d (YldS.yld (zg9 hΘ hs d.sat (za4 d x).1 (za4 d x).2) d.sat)
 case field ty x f=>exact zbc d (YldS.yld (zl3 hΘ hs d.sat (za4 d x).1 (za4 d x).2) d.sat)
 case indexAddr ty x i=>exact zbc d (YldS.yld (zha hΘ hs d.sat (za4 d x).1 (za4 d i).1 (za4 d x).2) d.sat)
 case index ty x i=>exact zbc d (YldS.yld (zl1 hΘ hs d.sat (za4 d x).1 (za4 d i).1 (za4 d x).2) d.sat)
 case extract x i=>
  simp only [sop] at hs;have G:=za4 d x;split at hs
  ·rename_i l J;rw [J] at G;split at hs
   ·rename_i c hc;have R:a.eval x = .tuple (l.map (SC.den ρ)).toArray:=G.1;rw [zic] at hc;have Z:c ∈ l:=yw hc;refine zbc d (Yld.same d.sat (c.den ρ) c.v ?_ ?_ ?_ hs)
    ·simp [R,Instr.extract,hc]
    ·cases c<;>rfl
    ·have:=G.2 c Z; cases c<;>exact this
   ·exact hs.elim
  ·exact hs.elim
 case call c=>
  simp only [sop] at hs;unfold s_call at hs;obtain ⟨ac,args,A⟩:=c;obtain ⟨h1,M⟩:=zku d args.toList;split at hs
  ·rename_i b L;simp only at L; subst L
   have two:∀ x y,evL st.t args.toList = [x,y] → ∃ v u,args.map a.eval = #[v,u] ∧ x.rel ρ v ∧ y.rel ρ u:=by
    intro x y E;rw [E] at h1
    match X:args.toList.map a.eval,h1 with
    |[v,u],h1=>exact ⟨v,u,by apply Array.ext'; simpa using X,h1.1,h1.2.1⟩
   split at hs
   ·rename_i x E;rw [E] at h1
    match X:args.toList.map a.eval,h1 with
    |[v],h1=>
     have I:args.map a.eval = #[v]:=by apply Array.ext'; simpa using X
     have:=zbc (KP:=KP) (o:=⟨D,.call ⟨.builtin .len,args,A⟩,type,pos,B,guard⟩) d (YldS.yld (zty (ty:=type) hΘ hs d.sat h1.1) d.sat);simpa [execOp,resolve,invoke,builtin,I] using this
   ·rename_i x E;rw [E] at h1
    match X:args.toList.map a.eval,h1 with
    |[v],h1=>
     have I:args.map a.eval = #[v]:=by apply Array.ext'; simpa using X
     have:=zbc (KP:=KP) (o:=⟨D,.call ⟨.builtin .cap,args,A⟩,type,pos,B,guard⟩) d (YldS.yld (z07 (ty:=type) hΘ hs d.sat h1.1) d.sat);simpa [execOp,resolve,invoke,builtin,I] using this
   ·rename_i x y E;obtain ⟨v,u,I,G,W⟩:=two x y E;have:=zbc (KP:=KP) (o:=⟨D,.call ⟨.builtin .append,args,A⟩,type,pos,B,guard⟩) d (zrs (ty':=type) hΘ hs d.sat G W);simpa [execOp,resolve,invoke,builtin,I] using this
   ·rename_i x y E;obtain ⟨v,u,I,G,W⟩:=two x y E;have:=zbc (KP:=KP) (o:=⟨D,.call ⟨.builtin .min,args,A⟩,type,pos,B,guard⟩) d (YldS.yld (zvf (P:=P) (ts:=A) (ty:=type) hs d.sat G W) d.sat);simpa [execOp,resolve,invoke,builtin,I] using this
   ·rename_i x y E;obtain ⟨v,u,I,G,W⟩:=two x y E;have:=zbc (KP:=KP) (o:=⟨D,.call ⟨.builtin .max,args,A⟩,type,pos,B,guard⟩) d (YldS.yld (ztq (P:=P) (ts:=A) (ty:=type) hs d.sat G W) d.sat);simpa [execOp,resolve,invoke,builtin,I] using this
   ·rename_i x E;rw [E] at h1
    match X:args.toList.map a.eval,h1 with
    |[v],h1=>
     have I:args.map a.eval = #[v]:=by apply Array.ext'; simpa using X
     have:=zbc (KP:=KP) (o:=⟨D,.call ⟨.builtin .clear,args,A⟩,type,pos,B,guard⟩) d (zvk (ty:=type) hΘ hs d.sat h1.1);simpa [execOp,resolve,invoke,builtin,I] using this
   ·rename_i x y E;obtain ⟨v,u,I,G,W⟩:=two x y E;have:=zbc (KP:=KP) (o:=⟨D,.call ⟨.builtin .copy,args,A⟩,type,pos,B,guard⟩) d (zz1 (ty:=type) hΘ hs d.sat G W);simpa [execOp,resolve,invoke,builtin,I] using this
   ·exact hs.elim
  ·rename_i f L;simp only at L; subst L;split at hs
   ·rename_i g cap J;have hf:=za4 d f;rw [J] at hf;have R:a.eval f = .func (.func g) #[] (cap.map fun p=>Value.pointer (some (p.addr ρ))).toArray:=hf.1;unfold zba at hs
    obtain ⟨T,hc⟩:=hs C ρ w (args.toList.map a.eval ++ cap.map fun p=>Value.pointer (some (p.addr ρ))) d.sat (zlc h1 (zo1 cap)) (by
     intro s hs;rcases ym.1 hs with hs | hs
     ·exact M s hs
     ·obtain ⟨p,O,rfl⟩:=qz.1 hs; exact hf.2 p O)
    unfold Enters at T
    have ab:(execOp a.eval ⟨D,.call ⟨.value f,args,A⟩,type,pos,B,guard⟩).run P w = .ok (.enter g (args.toList.map a.eval ++ cap.map fun p=>Value.pointer (some (p.addr ρ))).toArray) w:=by
     have e1:(#[] ++ args.map a.eval) ++ (cap.map fun p=>Value.pointer (some (p.addr ρ))).toArray = (args.toList.map a.eval ++ cap.map fun p=>Value.pointer (some (p.addr ρ))).toArray:=by
      apply Array.ext'; simp
     simp only [execOp,resolve,R,Deferred.ofValue,Sem.run_bind,Sem.run_pure,Result.andThen_ok,invoke,e1,T]
    rw [ab];refine hc.mono ?_;rintro e Y ⟨out,V,aa,ρ',k1,k2,k3,k4,k5,k6⟩;cases out with
    |ret s=>
     obtain ⟨v,rfl,hr⟩:=k2;exact ⟨v,s,V,aa,ρ',rfl,k1,hr,k6,d.heap k3 k4 k5,k4,k5⟩
    |panic v=>
     simp only [Out.rel] at k2;subst k2;exact ⟨v,V,aa,ρ',rfl,k1,d.heap k3 k4 k5⟩
   ·exact hs.elim
  ·exact hs.elim
 case makeMap ty r=>exact zbc d (zqr hΘ hs d.sat (znh d r))
 case mapUpdate ty m k x=>
  obtain ⟨Y,V,h1,M,Q⟩:=zlu hΘ hs d.sat (za4 d m).1 (za4 d k).1 (za4 d x).1
  have:(execOp a.eval ⟨D,.mapUpdate ty m k x,type,pos,B,guard⟩).run P w = .ok .skip Y:=by
   simp [execOp,h1]
  rw [this];exact ⟨undef,.tup [],V,st.nx,ρ,rfl,M,rfl,by simp [SV.below],d.heap Q (fun _ _=>rfl) (qm _),fun _ _=>rfl,qm _⟩
 case insert ty m k x=>
  obtain ⟨Y,V,h1,M,Q⟩:=zlu hΘ hs d.sat (za4 d m).1 (za4 d k).1 (za4 d x).1
  have:(execOp a.eval ⟨D,.insert ty m k x,type,pos,B,guard⟩).run P w = .ok .skip Y:=by
   simp [execOp,h1]
  rw [this];exact ⟨undef,.tup [],V,st.nx,ρ,rfl,M,rfl,by simp [SV.below],d.heap Q (fun _ _=>rfl) (qm _),fun _ _=>rfl,qm _⟩
 case lookup ty x k ok=>exact zbc d (YldS.yld (zsn hΘ hs d.sat (za4 d x).1 (za4 d k).1) d.sat)
 case panic x=>
  simp only [sop] at hs;have G:=za4 d x;split at hs
  ·rename_i ty v J;rw [J] at G;have R:a.eval x = .iface ty v:=G.1;have:(execOp a.eval ⟨D,.panic x,type,pos,B,guard⟩).run P w = .halt (.panic (.iface ty v)) w:=by simp [execOp,R,Instr.panic]
   rw [this];exact ⟨_,st.h,st.nx,ρ,rfl,hs,d⟩
  ·exact hs.elim
 all_goals exact hs.elim
end
end Sx
