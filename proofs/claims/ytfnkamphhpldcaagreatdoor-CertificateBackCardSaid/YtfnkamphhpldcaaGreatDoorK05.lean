import Derived.Test.YtfnkamphhpldcaaGreatDoorK04
set_option maxHeartbeats 64000000
namespace Sx
open Go
@[irreducible] def Br (b:Bool) (x y:Prop):Prop:=(b = true → x) ∧ (b = false → y)
theorem br {b:Bool} {x y:Prop} (h1:b = true → x) (h2:b = false → y):Br b x y:=by unfold Br; exact ⟨h1,h2⟩
theorem brd {b:Bool} {x y:Prop} (h:¬ b = true) (k:y):Br b x y:=br (fun g=>absurd g h) fun _=>k
theorem bre {b:Bool} {x y:Prop} (h:¬ b = false) (k:x):Br b x y:=br (fun _=>k) fun g=>absurd g h
theorem bri {p x y:Prop} [Decidable p] (h:p) (k:x):Br (decide p) x y:=br (fun _=>k) fun g=>absurd h (oe g)
theorem brj {p x y:Prop} [Decidable p] (h:¬ p) (k:y):Br (decide p) x y:=br (fun g=>absurd (od g) h) fun _=>k
theorem gae {p q x y:Prop} (h:¬ q) (k:x):(p → x) ∧ (q → y):=⟨fun _=>k,fun g=>absurd g h⟩
theorem gaf {p q x y:Prop} (h:¬ p) (k:y):(p → x) ∧ (q → y):=⟨fun g=>absurd g h,fun _=>k⟩
section
variable {P:Program} {Θ:Tys} {C:Ctx} {ρ:Rho} {h:Hp} {nx:Nat} {w:World} {K:Kt}
theorem zlb {α:Type} {sz:Nat} (L:List (List α)) (e:Nat) (hl:∀ y ∈ L,y.length = sz) (he:e ≤ L.length):L.flatten.take (e * sz) = (L.take e).flatten ∧ L.flatten.drop (e * sz) = (L.drop e).flatten:=by
 have h1:(L.take e).flatten.length = e * sz:=by
  rw [qbf,jx (g:=fun _=>sz) (fun y hy=>hl y (jv hy)),List.map_const',qcp,qn,qag he]
 have h2:L.flatten = (L.take e).flatten ++ (L.drop e).flatten:=by rw [← yh,yw]
 rw [h2]
 exact ⟨qcv h1,List.drop_left' h1⟩
def clrB (j:TI) (e sz len:Nat) (b:SB) (K:SB → Prop):Prop:=
 match b with
 |.arr t' sz' L room=>(match Nat.beq sz sz',Nat.beq sz j.size with
  |true,true=>e + len ≤ L.length ∧ K (.arr t' sz' (L.take e ++ List.replicate len j.zero ++ L.drop (e + len)) room)
  |_,_=>False)
 |_=>False
def zqn (Θ:Tys) (ts:List TypeId) (x:SV) (h:Hp) (nx:Nat) (K:Kt):Prop:=
 match ts,x with
 |[t],.va (.slice false i 0 e sz len _)=>(match Θ t with
  |some ⟨.slice elem,_,_,_⟩=>(match Θ elem,lget h i with
   |some j,some (.one b)=>clrB j e sz len b fun b'=>K (.tup []) (lput h i (.one b')) nx
   |some j,some (.opt c b)=>c = true ∧ clrB j e sz len b fun b'=>K (.tup []) (lput h i (.opt c b')) nx
   |_,_=>False)
  |_=>False)
 |_,_=>False
theorem ztb (hΘ:Θ.Ok P) {ts:List TypeId} {ty:TypeId} {x:SV} {v:Value} (hs:zqn Θ ts x h nx K) (sat:Sat C ρ h nx w) (hr:x.rel ρ v):Yld P (Builtin.clear_ ts.toArray ty #[v]) C ρ nx w K:=by
 unfold zqn at hs
 split at hs
 ·rename_i t i e sz len cap
  split at hs
  ·rename_i elem a b c hi
   have key:∀ (j:TI) (en:Ent) (e':SB → Ent),Θ elem = some j → lget h i = some en → en.plain = true → (∀ b',(e' b').plain = true) → en.has 0 → (∀ b' k',(e' b').has k' ↔ en.has k') → (∀ k',en.has k' → k' = 0) → (∀ b',(e' b').at 0 = b') →
     clrB j e sz len (en.at 0) (fun b'=>K (.tup []) (lput h i (e' b')) nx) → Yld P (Builtin.clear_ [t].toArray ty #[v]) C ρ nx w K:=by
    intro j en e' hj hl hpl hpl' h0 hhas hk0 hat hcl
    unfold clrB at hcl
    split at hcl
    ·rename_i t' sz' L room heq
     split at hcl
     ·rename_i hz1 hz2
      have hz1:=qg hz1
      have hz2:=qg hz2
      subst hz1
      obtain ⟨hle,hk⟩:=hcl
      have hok:=hΘ elem j hj
      have hzl:=hok.len
      obtain ⟨o,ho,hbo⟩:=sat.blk i _ hl 0 h0
      rw [heq] at hbo
      obtain ⟨hL,hroom,tail,htail,fr,hfr,rfl⟩:=hbo
      have hbl:=sat.wf i _ hl 0 h0
      rw [heq] at hbl
      have hbl:∀ x ∈ L,∀ a ∈ x,a.below nx:=hbl
      simp only [SV.rel,SA.den,jm,if_false] at hr; subst hr
      have hrl:∀ n,(List.replicate n j.zero).flatten.length = n * sz:=fun n=>by simp [qbf,hzl,hz2]
      have hfl:L.flatten.length = L.length * sz:=by
       rw [qbf,jx (g:=fun _=>sz) hL,List.map_const',qcp]
      obtain ⟨f1,_⟩:=zlb L e hL (by omega)
      obtain ⟨_,f2⟩:=zlb L (e + len) hL hle
      let zs:=(List.replicate len j.zero).flatten.map (SA.den ρ)
      have hzs:zs.length = len * sz:=by simp only [zs,qb]; exact hrl len
      have hsum:e * sz + len * sz ≤ L.length * sz:=by rw [← qa8]; exact qas _ hle
      have hrow:RowAt w (ρ i 0) t' (L.flatten.map (SA.den ρ) ++ tail):=⟨_,ho,fr,hfr,rfl⟩
      have hst:=zb9 (P:=P) (ρ i 0) (e * sz) t' zs 0 _ w hrow (by simp only [qa,qb,hfl,hzs]; omega) (by
       intro z hz; obtain ⟨a,_,rfl⟩:=q9.1 hz; exact SA.one ρ a)
      have hnew:(List.take (e * sz + 0) (L.flatten.map (SA.den ρ) ++ tail) ++ zs ++ List.drop (e * sz + 0 + zs.length) (L.flatten.map (SA.den ρ) ++ tail)) = (L.take e ++ List.replicate len j.zero ++ L.drop (e + len)).flatten.map (SA.den ρ) ++ tail:=by
       rw [qah,hzs,← qa8,qbx (by rw [qb,hfl]; omega),List.drop_append_of_le_length (by rw [qb,hfl,qa8]; omega),← qck,← List.map_drop,f1,f2]
       simp only [yh,q5,qk]; rfl
      rw [hnew] at hst
      have hzc:(Builtin.zeroCells (zval ρ j).cells len).toList = zs:=by
       have:=zir (j.zero.map (SA.den ρ)) len
       unfold Builtin.zeroCells
       rw [zfb hok ρ]
       simp only [qb] at this
       simp only [yv,qb]
       rw [this]; simp only [zs]; simp [qcn]
      have hlen2:(L.take e ++ List.replicate len j.zero ++ L.drop (e + len)).length = L.length:=by
       simp only [qa,qn,qa5,yj]; omega
      have hrun:(Builtin.clear_ [t].toArray ty #[.slice (some ⟨ρ i 0,e * sz,none⟩) len cap]).run P w = .ok (.tuple #[]) (w.setRow (ρ i 0) ((L.take e ++ List.replicate len j.zero ++ L.drop (e + len)).flatten.map (SA.den ρ) ++ tail).toArray):=by
       cases len with
       |zero=>
        have e0:(L.take e ++ List.replicate 0 j.zero ++ L.drop (e + 0)) = L:=by simp
        rw [e0,setRow_self w _ _ t' fr ho]
        simp [Builtin.clear_,zas hΘ hi]
       |succ m=>simp [Builtin.clear_,zas hΘ hi,zgj hΘ hj w ρ,hzc,hst]
      refine ⟨_,_,.tup [],_,nx,ρ,hrun,rfl,by simp [SV.below],hk,?_,fun _ _=>rfl,qf _⟩
      refine sat.upd 0 hl hpl (hpl' _) h0 (hhas _) _ (fun k' hne hk'=>absurd (hk0 k' hk') hne) ?_ ?_ rfl rfl rfl (by simp) (setRow_heap w _ _ _ t' _ ho) (fun b hb=>zea w _ b _ hb)
      ·rw [hat]
       refine ⟨fun x hx=>?_,by rw [hlen2]; exact hroom,tail,by rw [hlen2]; exact htail,fr,?_,rfl⟩
       ·rcases yl.1 hx with hx | hx
        ·rcases yl.1 hx with hx | hx
         ·exact hL x (jv hx)
         ·rw [(qbl.1 hx).2,hzl,hz2]
        ·exact hL x (qae hx)
       ·have:(((L.take e ++ List.replicate len j.zero ++ L.drop (e + len)).flatten.map (SA.den ρ) ++ tail)).length = (L.flatten.map (SA.den ρ) ++ tail).length:=by
         rw [← hnew]
         simp only [qah,qa,qn,yj,qb,hfl,hzs]; omega
        rw [this]; exact hfr
      ·rw [hat]
       intro x hx a ha
       rcases yl.1 hx with hx | hx
       ·rcases yl.1 hx with hx | hx
        ·exact hbl x (jv hx) a ha
        ·rw [(qbl.1 hx).2] at ha
         exact SA.below_mono (yq _) (hok.bel a ha)
       ·exact hbl x (qae hx) a ha
     ·exact hcl.elim
    ·exact hcl.elim
   split at hs
   ·rename_i j b hj hl
    exact key j _ (fun b'=>.one b') hj hl rfl (fun _=>rfl) rfl (fun _ _=>Iff.rfl) (fun _ hk=>hk) (fun _=>rfl) hs
   ·rename_i j c b hj hl
    exact key j _ (fun b'=>.opt c b') hj hl rfl (fun _=>rfl) ⟨hs.1,rfl⟩ (fun _ _=>Iff.rfl) (fun _ hk=>hk.2) (fun _=>rfl) hs.2
   ·exact hs.elim
  ·exact hs.elim
 ·exact hs.elim
def zvw (Θ:Tys) (ts:List TypeId) (x y:SV) (h:Hp) (nx:Nat) (K:Kt):Prop:=
 match ts,x,y with
 |t :: _,.va (.slice false i k e sz len _),.va (.slice false i' k' e' sz' len' _)=>(match Θ t with
  |some ⟨.slice elem,_,_,_⟩=>(match Θ elem with
   |some j=>(match Nat.beq j.size 1 with
    |true=>rd h ⟨i',k',e',sz',0⟩ (Nat.min len' len) fun xs=>wr h ⟨i,k,e,sz,0⟩ xs fun h'=>K (.va (.int .i64 (Nat.min len' len:Nat))) h' nx
    |false=>False)
   |none=>False)
  |_=>False)
 |_,_,_=>False
theorem zvc (hΘ:Θ.Ok P) {ts:List TypeId} {ty:TypeId} {x y:SV} {v u:Value} (hs:zvw Θ ts x y h nx K) (sat:Sat C ρ h nx w) (hr:x.rel ρ v) (hr':y.rel ρ u):Yld P (Builtin.copy_ ts.toArray ty #[v,u]) C ρ nx w K:=by
 unfold zvw at hs
 split at hs
 ·rename_i t r i k e sz len cap i' k' e' sz' len' cap'
  split at hs
  ·rename_i elem a b c hi
   split at hs
   ·rename_i j hj
    split at hs
    ·rename_i hsz
     have hsz:=qg hsz
     simp only [SV.rel,SA.den,jm,if_false] at hr hr'; subst hr; subst hr'
     obtain ⟨xs,hw,hlen,hbl,t1,pre,post,hrow,hpre⟩:=zl1 hs sat
     obtain ⟨h',t',pre',old,post',hk,hrow',hpre',hold,hsat⟩:=zrb hw sat hbl
     have hload:(loadCells ⟨ρ i' k',e' * sz',none⟩ (xs.map (SA.den ρ)).length).run P w = .ok (xs.map (SA.den ρ)).toArray w:=
      run_loadCells_list (P:=P) w _ _ (fun z q hq=>by
       have hp:pre.length = e' * sz':=hpre
       rw [addr_add,hrow.cell,← hp]
       have hz:z < (xs.map (SA.den ρ)).length:=(qh.1 hq).1
       rw [qk,jz (by omega),qac,js hz]; exact hq)
     rw [qb,hlen] at hload
     have hp':pre'.length = e * sz:=hpre'
     have hst:=zb9 (P:=P) (ρ i k) (e * sz) t' (xs.map (SA.den ρ)) 0 _ w hrow' (by simp only [qa,qb]; omega) (by
      intro z hz; obtain ⟨q,_,rfl⟩:=q9.1 hz; exact SA.one ρ q)
     have e1:List.take (e * sz + 0) (pre' ++ old ++ post') = pre':=by rw [qah,← hp']; simp
     have e2:List.drop (e * sz + 0 + (xs.map (SA.den ρ)).length) (pre' ++ old ++ post') = post':=by
      rw [qah,← hp',qb,← hold]; simp [qk]
     rw [e1,e2] at hst
     have hrun:(Builtin.copy_ (t :: r).toArray ty #[.slice (some ⟨ρ i k,e * sz,none⟩) len cap,.slice (some ⟨ρ i' k',e' * sz',none⟩) len' cap']).run P w = .ok (.int .i64 (Nat.min len' len:Nat)) (w.setRow (ρ i k) (pre' ++ xs.map (SA.den ρ) ++ post').toArray):=by
      simp [Builtin.copy_,zas hΘ hi,Builtin.lenOf,Builtin.firstCells,zdc hΘ hj,hsz,hload,hst,goInt]
     exact ⟨_,_,.va (.int .i64 (Nat.min len' len:Nat)),h',nx,ρ,hrun,rfl,tv,hk,hsat,fun _ _=>rfl,qf _⟩
    ·exact hs.elim
   ·exact hs.elim
  ·exact hs.elim
 ·exact hs.elim
def zw0:SA → Option Value
 |.int k n=>some (.int k n)
 |.lit b=>some (.bool b)
 |.bool b=>some (.bool b)
 |.str s=>some (.string ⟨s.toArray⟩)
 |.fn f []=>some (.func f #[] #[])
 |_=>none
theorem ztn {ρ:Rho} {a:SA} {v:Value} (h:zw0 a = some v):a.den ρ = v:=by
 unfold zw0 at h
 split at h<;>cases h<;>rfl
def svM:Value → Option SA
 |.func f ⟨[]⟩ ⟨[]⟩=>some (.fn f [])
 |v=>svA v
theorem z3z {ρ:Rho} {v:Value} {a:SA} (h:svM v = some a):v = a.den ρ ∧ a.below 0:=by
 unfold svM at h
 split at h
 ·cases h; exact ⟨rfl,by simp [SA.below]⟩
 ·exact zpe h
def keyV:SA → Option Value
 |.int k n=>some (.int k n)
 |.str s=>some (.string ⟨s.toArray⟩)
 |_=>none
theorem zqx {ρ:Rho} {a:SA} {v:Value} (h:keyV a = some v):a.den ρ = v:=by
 unfold keyV at h
 split at h<;>cases h<;>rfl
def zkl:TypeDesc → Bool
 |.int _=>true
 |.string=>true
 |_=>false
theorem zfo {kt:TypeId} {d:TypeDesc} {k:Value} {w:World} (hd:∀ w,(underlying kt).run P w = .ok d w) (hk:zkl d = true) (e:Bool) (n:Nat):(Instr.checkKey e (n + 1) kt k).run P w = .ok () w:=by
 unfold Instr.checkKey
 simp only [Sem.run_bind,hd,Result.andThen]
 cases d<;>first | rfl | cases hk
def zkc (Θ:Tys) (t:TypeId) (r:Option SV) (h:Hp) (nx:Nat) (K:Kt):Prop:=
 match r,Θ t with
 |none,_=>K (.va (.map nx 0)) (lput h nx (.one (.obj (.map #[] 0)))) (nx + 1)
 |some (.va (.int _ _)),some ⟨.map _ _,_,_,_⟩=>K (.va (.map nx 0)) (lput h nx (.one (.obj (.map #[] 0)))) (nx + 1)
 |_,_=>False
theorem zo5 (hΘ:Θ.Ok P) {t:TypeId} {r:Option SV} {v:Option Value} (hs:zkc Θ t r h nx K) (sat:Sat C ρ h nx w) (hr:relO ρ r v):Yld P (Instr.makeMap t v) C ρ nx w K:=by
 have fin:K (.va (.map nx 0)) (lput h nx (.one (.obj (.map #[] 0)))) (nx + 1) → (Instr.makeMap t v).run P w = .ok (.map (some w.heap.size)) (w.alloc (.map #[] 0)) → Yld P (Instr.makeMap t v) C ρ nx w K:=by
  intro hk hrun
  refine ⟨_,_,_,_,_,rext ρ nx w.heap.size,hrun,?_,?_,hk,sat.new (.obj (.map #[] 0)) _ trivial rfl,fun i hi=>zdp hi,yz _⟩
  ·simp [SV.rel,SA.den,zbc]
  ·simp [SV.below,SA.below]
 unfold zkc at hs
 split at hs
 ·match v,hr with
  |none,_=>exact fin hs (by simp [Instr.makeMap])
 ·rename_i k n kt et a b c hi
  match v,hr with
  |some v,hr=>
   simp only [relO,SV.rel,SA.den] at hr; subst hr
   exact fin hs (by simp [Instr.makeMap,zas hΘ hi,asInt,asIntOf])
 ·exact hs.elim
def zi5 (Θ:Tys) (t:TypeId) (m k x:SV) (h:Hp) (nx:Nat) (K:Kt):Prop:=
 match Θ t,m,k,x with
 |some ⟨.map kt _,_,_,_⟩,.va (.map i 0),.va ka,.va xa=>(match Θ kt,lget h i,keyV ka,zw0 xa with
  |some j,some (.one (.obj (.map ⟨l⟩ clock))),some kv,some xv=>(match zkl j.d,Instr.findNow j.d kv l 0 with
   |true,some none=>K (.tup []) (lput h i (.one (.obj (.map ⟨l ++ [⟨kv,xv,clock⟩]⟩ (clock + 1))))) nx
   |_,_=>False)
  |_,_,_,_=>False)
 |_,_,_,_=>False
theorem zji (hΘ:Θ.Ok P) {t:TypeId} {m k x:SV} {vm vk vx:Value} (hs:zi5 Θ t m k x h nx K) (sat:Sat C ρ h nx w) (hm:m.rel ρ vm) (hk:k.rel ρ vk) (hx:x.rel ρ vx) :
  ∃ w' h',(Instr.mapUpdate t vm vk vx).run P w = .ok () w' ∧ K (.tup []) h' nx ∧ Sat C ρ h' nx w':=by
 unfold zi5 at hs
 split at hs
 ·rename_i kt et a b c i ka xa hi
  split at hs
  ·rename_i j l clock kv xv hj hl hkv hxv
   split at hs
   ·rename_i hsk hfn
    simp only [SV.rel] at hm hk hx
    rw [zqx hkv] at hk
    rw [ztn hxv] at hx
    simp only [SA.den] at hm
    subst hm; subst hk; subst hx
    obtain ⟨o,ho,hok⟩:=sat.blk i _ hl 0 rfl
    have hok:o = .map ⟨l⟩ clock:=hok
    subst hok
    have hund:=fun w=>zas (P:=P) hΘ hj w
    have hfk:(Instr.findKey kt vk l).run P w = .ok none w:=by
     simp [Instr.findKey,hund,hfn]
    have hlt:ρ i 0 < w.heap.size:=sat.blt ⟨_,hl,rfl⟩
    have hrun:(Instr.mapUpdate t (.map (some (ρ i 0))) vk vx).run P w = .ok () { w with heap:=w.heap.setIfInBounds (ρ i 0) (.map ⟨l ++ [⟨vk,vx,clock⟩]⟩ (clock + 1)) }:=by
     simp [Instr.mapUpdate,zas hΘ hi,MapKept.run_getObj_map ho,zfo hund hsk,hfk,MapKept.run_setObj_map _ ho]
    refine ⟨_,_,hrun,hs,?_⟩
    refine sat.upd 0 hl rfl rfl rfl (fun _=>Iff.rfl) _ (fun k' hne hk'=>absurd hk' hne) rfl trivial rfl rfl rfl (by simp) (by simp [hlt]) (fun b hb=>by simp [Array.getElem?_setIfInBounds,Ne.symm hb])
   ·exact hs.elim
  ·exact hs.elim
 ·exact hs.elim
def keyEq:SA → Value → Option Bool
 |.int k a,.int k' b=>if k = k' then some (decide (a = b)) else none
 |.str s,.string b=>some (decide (s = b.data.toList))
 |_,_=>none
def lkup (k:SA):List MapEntry → (Option Value → Prop) → Prop
 |[],X=>X none
 |e :: r,X=>match keyEq k e.key with
  |some b=>Br b (X (some e.val)) (lkup k r X)
  |none=>False
def kdOk:TypeDesc → SA → Bool
 |.int _,.int _ _=>true
 |.string,.str _=>true
 |_,_=>false
theorem ztc {d:TypeDesc} {k:SA} {kv v:Value} {b:Bool} (hd:zkl d = true) (hd2:kdOk d k = true) (hk:keyV k = some kv) (h:keyEq k v = some b):Instr.sameNow d kv v = some b:=by
 unfold keyEq at h
 split at h
 ·rename_i k1 a k2 c
  cases hk
  split at h
  ·rename_i hkk
   subst hkk; cases h
   cases d with
   |int k0=>simp only [Instr.sameNow,if_true]; congr 1
   |string=>simp [kdOk] at hd2
   |_=>cases hd
  ·cases h
 ·rename_i s c
  cases hk; cases h
  cases d with
  |int k0=>simp [kdOk] at hd2
  |string=>
   simp only [Instr.sameNow]
   congr 1
   rw [beq_toListBytes,toList_mk,Bool.eq_iff_iff,ByteArray.toList_eq]
   simp
  |_=>cases hd
 ·cases h
theorem zo7 {d:TypeDesc} {k:SA} {kv:Value} (hd:zkl d = true) (hd2:kdOk d k = true) (hk:keyV k = some kv) :
  ∀ (l:List MapEntry) (X:Option Value → Prop) (i:Nat),lkup k l X → ∃ r,Instr.findNow d kv l i = some r ∧ X (r.map (·.2))
 |[],X,i,h=>⟨none,rfl,h⟩
 |e :: r,X,i,h=>by
  simp only [lkup] at h
  split at h
  ·rename_i b hb
   have hs:=ztc hd hd2 hk hb
   unfold Br at h
   cases b with
   |true=>exact ⟨some (i,e.val),by simp [Instr.findNow,hs],h.1 rfl⟩
   |false=>
    obtain ⟨r',h1,h2⟩:=zo7 hd hd2 hk r X (i + 1) (h.2 rfl)
    exact ⟨r',by simp [Instr.findNow,hs,h1],h2⟩
  ·exact h.elim
def zmy (Θ:Tys) (t:TypeId) (x k:SV) (ok:Bool) (h:Hp) (nx:Nat) (K:Kt):Prop:=
 match Θ t,x,k with
 |some ⟨.map kt et,_,_,_⟩,.va (.map i 0),.va ka=>(match Θ kt,Θ et,lget h i,keyV ka with
  |some j,some je,some (.one (.obj (.map ⟨l⟩ _))),some _=>(match zkl j.d,aggD je.d,kdOk j.d ka with
   |true,false,true=>lkup ka l fun r=>(match r with
    |some v=>(match svM v with
     |some a=>K (match ok with | true=>.tup [.va a,.va (.lit true)] | false=>.va a) h nx
     |none=>False)
    |none=>K (match ok with | true=>.tup [.va (je.zero.headD .nilptr),.va (.lit false)] | false=>.va (je.zero.headD .nilptr)) h nx)
   |_,_,_=>False)
  |_,_,_,_=>False)
 |_,_,_=>False
theorem zp7 (hΘ:Θ.Ok P) {t:TypeId} {x k:SV} {ok:Bool} {vx vk:Value} (hs:zmy Θ t x k ok h nx K) (sat:Sat C ρ h nx w) (hx:x.rel ρ vx) (hk:k.rel ρ vk):YldS P (Instr.lookup t vx vk ok) ρ h nx w K:=by
 unfold zmy at hs
 split at hs
 ·rename_i kt et a b c i ka hi
  split at hs
  ·rename_i j je l clock kv hj hje hl hkv
   split at hs
   ·rename_i hsk hag hd2
    simp only [SV.rel] at hx hk
    rw [zqx hkv] at hk
    simp only [SA.den] at hx
    subst hx; subst hk
    obtain ⟨o,ho,hok⟩:=sat.blk i _ hl 0 rfl
    have hok:o = .map ⟨l⟩ clock:=hok
    subst hok
    have hund:=fun w=>zas (P:=P) hΘ hj w
    obtain ⟨r,hf,hX⟩:=zo7 hsk hd2 hkv l _ 0 hs
    have hfk:(Instr.findKey kt vk l).run P w = .ok r w:=by
     simp [Instr.findKey,hund,hf]
    have hzv:zval ρ je = (je.zero.headD .nilptr).den ρ:=by unfold zval; rw [hag]
    have hrun:(Instr.lookup t (.map (some (ρ i 0))) vk ok).run P w = .ok (match r with | some (_,v)=>if ok then .tuple #[v,.bool true] else v | none=>if ok then .tuple #[zval ρ je,.bool false] else zval ρ je) w:=by
     cases r with
     |none=>simp [Instr.lookup,zas hΘ hi,MapKept.run_getObj_map ho,zfo hund hsk,hfk,zgj hΘ hje w ρ]
     |some p=>obtain ⟨n,v⟩:=p; simp [Instr.lookup,zas hΘ hi,MapKept.run_getObj_map ho,zfo hund hsk,hfk]
    cases r with
    |none=>
     simp only [Option.map_none] at hX
     refine ⟨_,_,hrun,?_,?_,hX⟩
     ·cases ok<;>simp [SV.rel,hzv,SC.den,SA.den]
     ·have hz:(je.zero.headD .nilptr).below nx:=by
       have hb:=(hΘ et je hje).bel
       cases hz:je.zero with
       |nil=>trivial
       |cons a r=>exact SA.below_mono (yq _) (hb a (by simp [hz]))
      cases ok
      ·exact hz
      ·intro c hc
       rcases qj.1 hc with rfl | hc
       ·exact hz
       ·rw [qy.1 hc]; trivial
    |some p=>
     obtain ⟨n,v⟩:=p
     simp only [qct] at hX
     split at hX
     ·rename_i a ha
      obtain ⟨h1,h2⟩:=z3z (ρ:=ρ) ha
      refine ⟨_,_,hrun,?_,?_,hX⟩
      ·cases ok<;>simp [SV.rel,SC.den,SA.den,h1]
      ·cases ok
       ·exact SA.below_mono (yq _) h2
       ·intro c hc
        rcases qj.1 hc with rfl | hc
        ·exact SA.below_mono (yq _) h2
        ·rw [qy.1 hc]; trivial
     ·exact hX.elim
   ·exact hs.elim
  ·exact hs.elim
 ·exact hs.elim
end
def zky:Operand → Bool
 |.const .nilIface=>true
 |_=>false
def zlz (Θ:Tys) (op:BinOp) (t:TypeId) (x:SV) (h:Hp) (nx:Nat) (K:Kt):Prop:=
 match Θ t with
 |some ⟨.interface _,_,_,_⟩=>(match x,op with
  |.va .nilif,.eql=>K (.va (.lit true)) h nx
  |.va .nilif,.neq=>K (.va (.lit false)) h nx
  |.va (.ifc _ _),.eql=>K (.va (.lit false)) h nx
  |.va (.ifc _ _),.neq=>K (.va (.lit true)) h nx
  |_,_=>False)
 |_=>False
theorem zfh {P:Program} {Θ:Tys} {t:TypeId} {i:TI} {ms:Array (String × TypeId)} (hΘ:Θ.Ok P) (hi:Θ t = some i) (hd:i.d = .interface ms) (v:Value) (b:Bool) (hv:(v = .nilIface ∧ b = true) ∨ (∃ ty u,v = .iface ty u ∧ b = false)) (w:World) :
  (Op.equal t v .nilIface).run P w = .ok b w:=by
 have e:Op.maxDepth = 9999 + 1:=rfl
 unfold Op.equal
 rw [e,Op.equalIn]
 simp only [Sem.run_bind,zas hΘ hi,hd,Result.andThen_ok]
 rcases hv with ⟨rfl,rfl⟩ | ⟨ty,u,rfl,rfl⟩<;>rfl
theorem ztj {P:Program} {Θ:Tys} {C:Ctx} {ρ:Rho} {h:Hp} {nx:Nat} {w:World} {K:Kt} (hΘ:Θ.Ok P) {op:BinOp} {t:TypeId} {xo yo:Operand} {x:SV} {v u:Value} (hy:zky yo = true) (hu:u = .nilIface) (hs:zlz Θ op t x h nx K) (sat:Sat C ρ h nx w) (hr:x.rel ρ v) :
  YldS P (do eqGuard op t xo yo v u; binOp op t v u) ρ h nx w K:=by
 subst hu
 have hyc:∃ u,yo = .const u:=by
  unfold zky at hy
  split at hy
  ·exact ⟨_,rfl⟩
  ·cases hy
 obtain ⟨u,rfl⟩:=hyc
 unfold zlz at hs
 split at hs
 ·rename_i ms a b c hi
  split at hs
  ·simp only [SV.rel,SA.den] at hr; subst hr
   exact za9 (r:=.bool true) (by unfold eqGuard; simp) (by show (do pure (Value.bool (← Op.equal t .nilIface .nilIface)):Sem Value).run P w = _; simp only [Sem.run_bind,zfh hΘ hi rfl _ true (.inl ⟨rfl,rfl⟩),Result.andThen_ok,Sem.run_pure]) sat (sv:=.va (.lit true)) rfl trivial hs
  ·simp only [SV.rel,SA.den] at hr; subst hr
   exact za9 (r:=.bool false) (by unfold eqGuard; simp) (by show (do pure (Value.bool (!(← Op.equal t .nilIface .nilIface))):Sem Value).run P w = _; simp only [Sem.run_bind,zfh hΘ hi rfl _ true (.inl ⟨rfl,rfl⟩),Result.andThen_ok,Sem.run_pure]; rfl) sat (sv:=.va (.lit false)) rfl trivial hs
  ·rename_i ty u2
   simp only [SV.rel,SA.den] at hr; subst hr
   exact za9 (r:=.bool false) (by unfold eqGuard; simp) (by show (do pure (Value.bool (← Op.equal t (.iface ty u2) .nilIface)):Sem Value).run P w = _; simp only [Sem.run_bind,zfh hΘ hi rfl _ false (.inr ⟨_,_,rfl,rfl⟩),Result.andThen_ok,Sem.run_pure]) sat (sv:=.va (.lit false)) rfl trivial hs
  ·rename_i ty u2
   simp only [SV.rel,SA.den] at hr; subst hr
   exact za9 (r:=.bool true) (by unfold eqGuard; simp) (by show (do pure (Value.bool (!(← Op.equal t (.iface ty u2) .nilIface))):Sem Value).run P w = _; simp only [Sem.run_bind,zfh hΘ hi rfl _ false (.inr ⟨_,_,rfl,rfl⟩),Result.andThen_ok,Sem.run_pure]; rfl) sat (sv:=.va (.lit true)) rfl trivial hs
  ·exact hs.elim
 ·exact hs.elim
def zok:Operand → Bool
 |.const (.pointer none)=>true
 |_=>false
def znn (Θ:Tys) (op:BinOp) (t:TypeId) (x:SV) (h:Hp) (nx:Nat) (K:Kt):Prop:=
 match Θ t with
 |some ⟨.pointer _,_,_,_⟩=>(match x,op with
  |.va .nilptr,.eql=>K (.va (.lit true)) h nx
  |.va .nilptr,.neq=>K (.va (.lit false)) h nx
  |.va (.ptr _),.eql=>K (.va (.lit false)) h nx
  |.va (.ptr _),.neq=>K (.va (.lit true)) h nx
  |_,_=>False)
 |_=>False
theorem zgk {P:Program} {Θ:Tys} {t:TypeId} {i:TI} {e:TypeId} (hΘ:Θ.Ok P) (hi:Θ t = some i) (hd:i.d = .pointer e) (a:Option Addr) (w:World) :
  (Op.equal t (.pointer a) (.pointer none)).run P w = .ok a.isNone w:=by
 have e:Op.maxDepth = 9999 + 1:=rfl
 unfold Op.equal
 rw [e,Op.equalIn]
 simp only [Sem.run_bind,zas hΘ hi,hd,Result.andThen_ok]
 cases a<;>rfl
theorem zv8 {P:Program} {Θ:Tys} {C:Ctx} {ρ:Rho} {h:Hp} {nx:Nat} {w:World} {K:Kt} (hΘ:Θ.Ok P) {op:BinOp} {t:TypeId} {xo yo:Operand} {x:SV} {v u:Value} (hu:u = .pointer none) (hs:znn Θ op t x h nx K) (sat:Sat C ρ h nx w) (hr:x.rel ρ v) :
  YldS P (do eqGuard op t xo yo v u; binOp op t v u) ρ h nx w K:=by
 subst hu
 unfold znn at hs
 split at hs
 ·rename_i ms a b c hi
  split at hs
  ·simp only [SV.rel,SA.den] at hr; subst hr
   exact za9 (r:=.bool true) (by unfold eqGuard; simp) (by show (do pure (Value.bool (← Op.equal t (.pointer none) (.pointer none))):Sem Value).run P w = _; simp only [Sem.run_bind,zgk hΘ hi rfl,Result.andThen_ok,Sem.run_pure]; rfl) sat (sv:=.va (.lit true)) rfl trivial hs
  ·simp only [SV.rel,SA.den] at hr; subst hr
   exact za9 (r:=.bool false) (by unfold eqGuard; simp) (by show (do pure (Value.bool (!(← Op.equal t (.pointer none) (.pointer none)))):Sem Value).run P w = _; simp only [Sem.run_bind,zgk hΘ hi rfl,Result.andThen_ok,Sem.run_pure]; rfl) sat (sv:=.va (.lit false)) rfl trivial hs
  ·rename_i p
   simp only [SV.rel,SA.den] at hr; subst hr
   exact za9 (r:=.bool false) (by unfold eqGuard; simp) (by show (do pure (Value.bool (← Op.equal t (.pointer (some (p.addr ρ))) (.pointer none))):Sem Value).run P w = _; simp only [Sem.run_bind,zgk hΘ hi rfl,Result.andThen_ok,Sem.run_pure]; rfl) sat (sv:=.va (.lit false)) rfl trivial hs
  ·rename_i p
   simp only [SV.rel,SA.den] at hr; subst hr
   exact za9 (r:=.bool true) (by unfold eqGuard; simp) (by show (do pure (Value.bool (!(← Op.equal t (.pointer (some (p.addr ρ))) (.pointer none)))):Sem Value).run P w = _; simp only [Sem.run_bind,zgk hΘ hi rfl,Result.andThen_ok,Sem.run_pure]; rfl) sat (sv:=.va (.lit true)) rfl trivial hs
  ·exact hs.elim
 ·exact hs.elim
def z2k (Θ:Tys) (t:TypeId) (x:SV) (h:Hp) (nx:Nat) (K:Kt):Prop:=
 match Θ t with
 |some ⟨.interface _,_,_,_⟩=>False
 |some _=>match x with
  |.va (.int k n)=>K (.va (.ifc t (.int k n))) h nx
  |.va (.str s)=>K (.va (.ifc t (.string ⟨s.toArray⟩))) h nx
  |_=>False
 |none=>False
def plsOf:List SV → Option (List Pl)
 |[]=>some []
 |.va (.ptr p) :: r=>match plsOf r with
  |some l=>some (p :: l)
  |none=>none
 |_ :: _=>none
def evL (t:List (List (Nat × SV))):List Operand → List SV
 |[]=>[]
 |x :: r=>ev t x :: evL t r
def evP (t:List (List (Nat × SV))):List (Nat × Operand) → List (Nat × SV)
 |[]=>[]
 |p :: r=>(p.1,ev t p.2) :: evP t r
def z2d (f:Fn) (first:List Operand) (caps:List SV) (h:Hp) (nx:Nat) (K:Kt):Prop:=
 match first,plsOf caps with
 |[],some l=>K (.va (.fn f l)) h nx
 |_,_=>False
def evO (t:List (List (Nat × SV))):Option Operand → Option SV
 |none=>none
 |some x=>some (ev t x)
abbrev Kp:=Value → Hp → Nat → Prop
def s_call (P:Program) (Θ:Tys) (t:List (List (Nat × SV))) (c:Call) (h:Hp) (nx:Nat) (K:Kt) (KP:Kp):Prop:=
 match c.callee with
 |.builtin b=>(match b,evL t c.args.toList with
  |.len,[x]=>s_len Θ c.argTypes.toList x h nx K
  |.cap,[x]=>s_cap Θ c.argTypes.toList x h nx K
  |.append,[x,y]=>zlv Θ c.argTypes.toList x y h nx K
  |.min,[x,y]=>s_min x y h nx K
  |.max,[x,y]=>s_max x y h nx K
  |.clear,[x]=>zqn Θ c.argTypes.toList x h nx K
  |.copy,[x,y]=>zvw Θ c.argTypes.toList x y h nx K
  |_,_=>False)
 |.value f=>(match ev t f with
  |.va (.fn (.func g) cap)=>za6 P g (evL t c.args.toList ++ cap.map fun p=>SV.va (.ptr p)) h nx fun out h' nx'=>(match out with
   |.ret v=>K v h' nx'
   |.panic v=>KP v h' nx')
  |_=>False)
 |.invoke _ _=>False
def gp:SV → SV
 |.va (.glob g)=>.va (.ptr ⟨0,g,0,0,0⟩)
 |x=>x
theorem z6v {C:Ctx} {ρ:Rho} {h:Hp} {nx:Nat} {w:World} (s:Sat C ρ h nx w) {x:SV} {v:Value} (hr:x.rel ρ v):(gp x).rel ρ v:=by
 unfold gp
 split
 ·rename_i g
  simp only [SV.rel,SA.den,Pl.addr] at *
  rw [hr,s.id0]
 ·exact hr
def sop (P:Program) (Θ:Tys) (t:List (List (Nat × SV))) (o:Op) (h:Hp) (nx:Nat) (K:Kt) (KP:Kp):Prop:=
 match o with
 |.move x=>K (ev t x) h nx
 |.assign x=>K (ev t x) h nx
 |.pick c a b=>zj2 (ev t c) (ev t a) (ev t b) h nx K
 |.alloc e=>zpk Θ e h nx K
 |.box e x=>s_box e (ev t x) h nx K
 |.build ty ps=>zqk Θ ty (evP t ps.toList) h nx K
 |.buildSlice ty n ps=>zf8 Θ ty n (evP t ps.toList) h nx K
 |.load ty a=>ze6 Θ ty (gp (ev t a)) h nx K
 |.store ty a v=>zjf Θ ty (ev t a) (ev t v) h nx K
 |.nilCheck x=>(match ev t x with
  |.va (.ptr p)=>K (.va (.ptr p)) h nx
  |.va (.fn (.func f) c)=>K (.va (.fn (.func f) c)) h nx
  |_=>False)
 |.binOp op ty x y _=>(match zky y with
  |true=>zlz Θ op ty (ev t x) h nx K
  |false=>(match zok y with
   |true=>znn Θ op ty (ev t x) h nx K
   |false=>s_bin P Θ op ty (ev t x) (ev t y) h nx K))
 |.unOp op _ x=>s_un op (ev t x) h nx K
 |.convert s d x=>zoy Θ s d (ev t x) h nx K
 |.makeInterface ty x=>z2k Θ ty (ev t x) h nx K
 |.makeFunc f a c=>z2d f a.toList (evL t c.toList) h nx K
 |.slice ty x lo hi mx=>zgz Θ ty (ev t x) (evO t lo) (evO t hi) (evO t mx) h nx K
 |.fieldAddr ty x f=>zc7 Θ ty (ev t x) f h nx K
 |.field ty x f=>zgs Θ ty (ev t x) f h nx K
 |.indexAddr ty x i=>zc6 Θ ty (ev t x) (ev t i) h nx K
 |.index ty x i=>zg0 Θ ty (ev t x) (ev t i) h nx K
 |.extract x i=>(match ev t x with
  |.tup l=>(match nth l i with
   |some c=>K c.v h nx
   |none=>False)
  |_=>False)
 |.call c=>s_call P Θ t c h nx K KP
 |.makeMap ty r=>zkc Θ ty (evO t r) h nx K
 |.mapUpdate ty m k x=>zi5 Θ ty (ev t m) (ev t k) (ev t x) h nx K
 |.insert ty m k x=>zi5 Θ ty (ev t m) (ev t k) (ev t x) h nx K
 |.lookup ty x k ok=>zmy Θ ty (ev t x) (ev t k) ok h nx K
 |.panic x=>(match ev t x with
  |.va (.ifc ty v)=>KP (.iface ty v) h nx
  |_=>False)
 |_=>False
section
variable {P:Program} {Θ:Tys} {C:Ctx} {ρ:Rho} {st:St} {a:Act} {w:World} {K:Kt} {KP:Kp}
def Upon (P:Program) (o:Oper) (C:Ctx) (ρ:Rho) (st:St) (a:Act) (K:Kt) (KP:Kp) (r:Result Next):Prop:=
 o.upon P a (fun a' w'=>∃ v sv h' nx' ρ',a' = a.put o.dst v ∧ K sv h' nx' ∧ sv.rel ρ' v ∧ sv.below nx' ∧ Den C ρ' { st with h:=h',nx:=nx' } a w' ∧ (∀ i,i < st.nx → ρ' i = ρ i) ∧ st.nx ≤ nx')
  (fun e a' w'=>∃ v h' nx' ρ',e = .panic [{ v,recovered:=false }] ∧ KP v h' nx' ∧ Den C ρ' { st with h:=h',nx:=nx' } a' w') r
theorem za7 {o:Oper} {s:Sem Value} (d:Den C ρ st a w) (hy:Yld P s C ρ st.nx w K):Upon P o C ρ st a K KP ((do pure (Next.value (← s)):Sem Next).run P w):=by
 obtain ⟨v,w',sv,h',nx',ρ',h1,h2,h3,h4,h5,h6,h7⟩:=hy
 simp only [Sem.run_bind,h1,Result.andThen_ok,Sem.run_pure]
 exact ⟨v,sv,h',nx',ρ',rfl,h4,h2,h3,d.heap h5 h6 h7,h6,h7⟩
theorem zi8 (d:Den C ρ st a w):∀ l:List Operand,relL ρ (evL st.t l) (l.map a.eval) ∧ ∀ s ∈ evL st.t l,s.below st.nx
 |[]=>⟨tv,by simp [evL]⟩
 |x :: r=>by
  obtain ⟨h1,h2⟩:=zi8 d r
  obtain ⟨h3,h4⟩:=zay d x
  refine ⟨⟨h3,h1⟩,?_⟩
  intro s hs
  simp only [evL,qj] at hs
  rcases hs with rfl | hs
  ·exact h4
  ·exact h2 s hs
theorem zp2 (d:Den C ρ st a w):∀ l:List (Nat × Operand),(∀ (j:Nat) (p:Nat × SV) (q:Nat × Value),(evP st.t l)[j]? = some p → (l.map fun x=>(x.1,a.eval x.2))[j]? = some q → p.1 = q.1 ∧ p.2.rel ρ q.2) ∧
  (evP st.t l).length = l.length ∧ ∀ p ∈ evP st.t l,p.2.below st.nx
 |[]=>⟨by simp [evP],rfl,by simp [evP]⟩
 |x :: r=>by
  obtain ⟨h1,h2,h3⟩:=zp2 d r
  obtain ⟨h4,h5⟩:=zay d x.2
  refine ⟨?_,by simp [evP,h2],?_⟩
  ·intro j p q hp hq
   cases j with
   |zero=>simp [evP] at hp hq; subst hp; subst hq; exact ⟨rfl,h4⟩
   |succ j=>exact h1 j p q (by simpa [evP] using hp) (by simpa using hq)
  ·intro p hp
   simp only [evP,qj] at hp
   rcases hp with rfl | hp
   ·exact h5
   ·exact h3 p hp
theorem zmp (d:Den C ρ st a w) (x:Option Operand):relO ρ (evO st.t x) (x.map a.eval):=by
 cases x with
 |none=>trivial
 |some x=>exact (zay d x).1
theorem zos {ρ:Rho} {n:Nat}:∀ {l:List SV} {ps:List Pl} {vs:List Value},plsOf l = some ps → relL ρ l vs → (∀ s ∈ l,s.below n) → vs = ps.map (fun p=>Value.pointer (some (p.addr ρ))) ∧ ∀ p ∈ ps,p.i < n
 |[],ps,vs,h,hr,_=>by
  simp [plsOf] at h; subst h
  cases vs with
  |nil=>exact ⟨rfl,by simp⟩
  |cons v r=>exact hr.elim
 |s :: r,ps,vs,h,hr,hb=>by
  cases vs with
  |nil=>exact hr.elim
  |cons v vr=>
   unfold plsOf at h
   split at h
   ·rename_i heq; cases heq
   ·rename_i p r' heq
    cases heq
    split at h
    ·rename_i l' hl
     cases h
     obtain ⟨h1,h2⟩:=zos (ρ:=ρ) (n:=n) hl hr.2 (fun s hs=>hb s (by simp [hs]))
     refine ⟨?_,?_⟩
     ·have:=hr.1; simp only [SV.rel,SA.den] at this; rw [this,h1]; rfl
     ·intro q hq
      rcases qj.1 hq with rfl | hq
      ·exact hb (.va (.ptr q)) (by simp)
      ·exact h2 q hq
    ·cases h
   ·cases h
theorem zka {ρ:Rho}:∀ {a b:List SV} {x y:List Value},relL ρ a x → relL ρ b y → relL ρ (a ++ b) (x ++ y)
 |[],b,[],y,_,h=>h
 |[],b,v :: x,y,h,_=>h.elim
 |s :: a,b,[],y,h,_=>h.elim
 |s :: a,b,v :: x,y,h1,h2=>⟨h1.1,zka h1.2 h2⟩
theorem zog {ρ:Rho}:∀ l:List Pl,relL ρ (l.map fun p=>SV.va (.ptr p)) (l.map fun p=>Value.pointer (some (p.addr ρ)))
 |[]=>trivial
 |p :: r=>⟨rfl,zog r⟩
theorem zg7 (hΘ:Θ.Ok P) {o:Oper} (hs:sop P Θ st.t o.op st.h st.nx K KP) (d:Den C ρ st a w):Upon P o C ρ st a K KP ((execOp a.eval o).run P w):=by
 obtain ⟨dst,op,type,pos,after,guard⟩:=o
 cases op
 case move x=>exact za7 (s:=pure (a.eval x)) d (Yld.same d.sat _ _ rfl (zay d x).1 (zay d x).2 hs)
 case assign x=>exact za7 (s:=pure (a.eval x)) d (Yld.same d.sat _ _ rfl (zay d x).1 (zay d x).2 hs)
 case pick c x y=>
  have:=za7 (KP:=KP) (o:=⟨dst,.pick c x y,type,pos,after,guard⟩) d (YldS.yld (znt (P:=P) hs d.sat (zay d c).1 (zay d x).1 (zay d y).1 (zay d x).2 (zay d y).2) d.sat)
  simpa [execOp] using this
 case alloc e=>exact za7 d (ztr hΘ hs d.sat)
 case box e x=>exact za7 d (zzw hs d.sat (zay d x).1 (zay d x).2)
 case build ty ps=>
  obtain ⟨h1,h2,h3⟩:=zp2 d ps.toList
  refine za7 d (YldS.yld (zs8 hΘ hs d.sat (by simp [h2]) (fun j p q hp hq=>h1 j p q hp ?_) h3) d.sat)
  simpa using hq
 case buildSlice ty n ps=>
  obtain ⟨h1,h2,h3⟩:=zp2 d ps.toList
  refine za7 d (zj8 hΘ hs d.sat (by simp [h2]) (fun j p q hp hq=>h1 j p q hp ?_) h3)
  simpa using hq
 case load ty x=>exact za7 d (zww hΘ hs d.sat (z6v d.sat (zay d x).1))
 case store ty x y=>
  obtain ⟨w',h',h1,h2,h3⟩:=zic hΘ hs d.sat (zay d x).1 (zay d y).1 (zay d y).2
  have:(execOp a.eval ⟨dst,.store ty x y,type,pos,after,guard⟩).run P w = .ok .skip w':=by
   simp [execOp,h1]
  rw [this]
  exact ⟨undef,.tup [],h',st.nx,ρ,rfl,h2,rfl,by simp [SV.below],d.heap h3 (fun _ _=>rfl) (qf _),fun _ _=>rfl,qf _⟩
 case nilCheck x=>
  simp only [sop] at hs
  have hx:=zay d x
  split at hs
  ·rename_i p he
   rw [he] at hx
   have hv:a.eval x = .pointer (some (p.addr ρ)):=hx.1
   have:(execOp a.eval ⟨dst,.nilCheck x,type,pos,after,guard⟩).run P w = .ok (.value (.pointer (some (p.addr ρ)))) w:=by simp [execOp,hv]
   rw [this]
   exact ⟨_,_,st.h,st.nx,ρ,rfl,hs,rfl,hx.2,d,fun _ _=>rfl,qf _⟩
  ·rename_i f c he
   rw [he] at hx
   have hv:a.eval x = _:=hx.1
   simp only [SA.den] at hv
   have:(execOp a.eval ⟨dst,.nilCheck x,type,pos,after,guard⟩).run P w = .ok (.value (a.eval x)) w:=by simp [execOp,hv]
   rw [this]
   exact ⟨_,_,st.h,st.nx,ρ,rfl,hs,hx.1,hx.2,d,fun _ _=>rfl,qf _⟩
  ·exact hs.elim
 case binOp op ty x y ty'=>
  have hs:(match zky y with
   |true=>zlz Θ op ty (ev st.t x) st.h st.nx K
   |false=>(match zok y with
    |true=>znn Θ op ty (ev st.t x) st.h st.nx K
    |false=>s_bin P Θ op ty (ev st.t x) (ev st.t y) st.h st.nx K)):=hs
  cases hn:zky y with
  |true=>
   rw [hn] at hs
   have he:a.eval y = .nilIface:=by
    unfold zky at hn
    split at hn
    ·rfl
    ·cases hn
   exact za7 d (YldS.yld (ztj hΘ hn he hs d.sat (zay d x).1) d.sat)
  |false=>
   rw [hn] at hs
   have hs:(match zok y with
    |true=>znn Θ op ty (ev st.t x) st.h st.nx K
    |false=>s_bin P Θ op ty (ev st.t x) (ev st.t y) st.h st.nx K):=hs
   cases hp:zok y with
   |true=>
    rw [hp] at hs
    have he:a.eval y = .pointer none:=by
     unfold zok at hp
     split at hp
     ·rfl
     ·cases hp
    exact za7 d (YldS.yld (zv8 hΘ he hs d.sat (zay d x).1) d.sat)
   |false=>
    rw [hp] at hs
    exact za7 d (YldS.yld (zrk hΘ hs d.sat (zay d x).1 (zay d y).1) d.sat)
 case unOp op ty x=>exact za7 d (YldS.yld (zwj hs d.sat (zay d x).1) d.sat)
 case convert s dd x=>exact za7 d (zuo hΘ hs d.sat (zay d x).1)
 case makeInterface ty x=>
  simp only [sop] at hs
  have hx:=zay d x
  unfold z2k at hs
  split at hs
  ·exact hs.elim
  ·rename_i i hn hi
   have hu:∀ v,(Instr.makeInterface ty v).run P w = .ok (.iface ty v) w:=by
    intro v
    simp only [Instr.makeInterface,Sem.run_bind,zas hΘ hi,Result.andThen_ok]
    cases hd:i.d<;>first | rfl | skip
    rename_i ms
    obtain ⟨i1,i2,i3,i4⟩:=i
    simp only at hd; subst hd
    exact (hn ms i2 i3 i4 rfl).elim
   split at hs
   ·rename_i k n he
    rw [he] at hx
    exact za7 d (Yld.same d.sat _ (.va (.ifc ty (.int k n))) (hu _) (by rw [hx.1]; rfl) trivial hs)
   ·rename_i s he
    rw [he] at hx
    exact za7 d (Yld.same d.sat _ (.va (.ifc ty (.string ⟨s.toArray⟩))) (hu _) (by rw [hx.1]; rfl) trivial hs)
   ·exact hs.elim
  ·exact hs.elim
 case makeFunc f first caps=>
  simp only [sop] at hs
  unfold z2d at hs
  split at hs
  ·rename_i l hf hl
   have hf':first = #[]:=by simpa using hf
   subst hf'
   obtain ⟨h1,h2⟩:=zi8 d caps.toList
   obtain ⟨h3,h4⟩:=zos hl h1 h2
   refine za7 d (Yld.same d.sat (.func f #[] (caps.map a.eval)) (.va (.fn f l)) (by simp [Instr.makeFunc]) ?_ h4 hs)
   simp only [SV.rel,SA.den]
   congr 1
   rw [← h3]; apply Array.ext'; simp
  ·exact hs.elim
 case slice ty x lo hi mx=>exact za7 d (YldS.yld (zlj hΘ hs d.sat (zay d x).1 (zmp d lo) (zmp d hi) (zmp d mx) (zay d x).2) d.sat)
 case fieldAddr ty x f=>exact za7 d (YldS.yld (zgq hΘ hs d.sat (zay d x).1 (zay d x).2) d.sat)
 case field ty x f=>exact za7 d (YldS.yld (zlg hΘ hs d.sat (zay d x).1 (zay d x).2) d.sat)
 case indexAddr ty x i=>exact za7 d (YldS.yld (zgr hΘ hs d.sat (zay d x).1 (zay d i).1 (zay d x).2) d.sat)
 case index ty x i=>exact za7 d (YldS.yld (zlq hΘ hs d.sat (zay d x).1 (zay d i).1 (zay d x).2) d.sat)
 case extract x i=>
  simp only [sop] at hs
  have hx:=zay d x
  split at hs
  ·rename_i l he
   rw [he] at hx
   split at hs
   ·rename_i c hc
    have hv:a.eval x = .tuple (l.map (SC.den ρ)).toArray:=hx.1
    rw [zht] at hc
    have hmem:c ∈ l:=yi hc
    refine za7 d (Yld.same d.sat (c.den ρ) c.v ?_ ?_ ?_ hs)
    ·simp [hv,Instr.extract,hc]
    ·cases c<;>rfl
    ·have:=hx.2 c hmem; cases c<;>exact this
   ·exact hs.elim
  ·exact hs.elim
 case call c=>
  simp only [sop] at hs
  unfold s_call at hs
  obtain ⟨callee,args,argTypes⟩:=c
  obtain ⟨h1,h2⟩:=zi8 d args.toList
  split at hs
  ·rename_i b hcal
   simp only at hcal; subst hcal
   have two:∀ x y,evL st.t args.toList = [x,y] → ∃ v u,args.map a.eval = #[v,u] ∧ x.rel ρ v ∧ y.rel ρ u:=by
    intro x y hxy
    rw [hxy] at h1
    match hm:args.toList.map a.eval,h1 with
    |[v,u],h1=>exact ⟨v,u,by apply Array.ext'; simpa using hm,h1.1,h1.2.1⟩
   split at hs
   ·rename_i x hxy
    rw [hxy] at h1
    match hm:args.toList.map a.eval,h1 with
    |[v],h1=>
     have hma:args.map a.eval = #[v]:=by apply Array.ext'; simpa using hm
     have:=za7 (KP:=KP) (o:=⟨dst,.call ⟨.builtin .len,args,argTypes⟩,type,pos,after,guard⟩) d (YldS.yld (zrn (ty:=type) hΘ hs d.sat h1.1) d.sat)
     simpa [execOp,resolve,invoke,builtin,hma] using this
   ·rename_i x hxy
    rw [hxy] at h1
    match hm:args.toList.map a.eval,h1 with
    |[v],h1=>
     have hma:args.map a.eval = #[v]:=by apply Array.ext'; simpa using hm
     have:=za7 (KP:=KP) (o:=⟨dst,.call ⟨.builtin .cap,args,argTypes⟩,type,pos,after,guard⟩) d (YldS.yld (zxj (ty:=type) hΘ hs d.sat h1.1) d.sat)
     simpa [execOp,resolve,invoke,builtin,hma] using this
   ·rename_i x y hxy
    obtain ⟨v,u,hma,hx,hy⟩:=two x y hxy
    have:=za7 (KP:=KP) (o:=⟨dst,.call ⟨.builtin .append,args,argTypes⟩,type,pos,after,guard⟩) d (zps (ty':=type) hΘ hs d.sat hx hy)
    simpa [execOp,resolve,invoke,builtin,hma] using this
   ·rename_i x y hxy
    obtain ⟨v,u,hma,hx,hy⟩:=two x y hxy
    have:=za7 (KP:=KP) (o:=⟨dst,.call ⟨.builtin .min,args,argTypes⟩,type,pos,after,guard⟩) d (YldS.yld (zqy (P:=P) (ts:=argTypes) (ty:=type) hs d.sat hx hy) d.sat)
    simpa [execOp,resolve,invoke,builtin,hma] using this
   ·rename_i x y hxy
    obtain ⟨v,u,hma,hx,hy⟩:=two x y hxy
    have:=za7 (KP:=KP) (o:=⟨dst,.call ⟨.builtin .max,args,argTypes⟩,type,pos,after,guard⟩) d (YldS.yld (zq8 (P:=P) (ts:=argTypes) (ty:=type) hs d.sat hx hy) d.sat)
    simpa [execOp,resolve,invoke,builtin,hma] using this
   ·rename_i x hxy
    rw [hxy] at h1
    match hm:args.toList.map a.eval,h1 with
    |[v],h1=>
     have hma:args.map a.eval = #[v]:=by apply Array.ext'; simpa using hm
     have:=za7 (KP:=KP) (o:=⟨dst,.call ⟨.builtin .clear,args,argTypes⟩,type,pos,after,guard⟩) d (ztb (ty:=type) hΘ hs d.sat h1.1)
     simpa [execOp,resolve,invoke,builtin,hma] using this
   ·rename_i x y hxy
    obtain ⟨v,u,hma,hx,hy⟩:=two x y hxy
    have:=za7 (KP:=KP) (o:=⟨dst,.call ⟨.builtin .copy,args,argTypes⟩,type,pos,after,guard⟩) d (zvc (ty:=type) hΘ hs d.sat hx hy)
    simpa [execOp,resolve,invoke,builtin,hma] using this
   ·exact hs.elim
  ·rename_i f hcal
   simp only at hcal; subst hcal
   split at hs
   ·rename_i g cap he
    have hf:=zay d f
    rw [he] at hf
    have hv:a.eval f = .func (.func g) #[] (cap.map fun p=>Value.pointer (some (p.addr ρ))).toArray:=hf.1
    unfold za6 at hs
    obtain ⟨hent,hc⟩:=hs C ρ w (args.toList.map a.eval ++ cap.map fun p=>Value.pointer (some (p.addr ρ))) d.sat (zka h1 (zog cap)) (by
     intro s hs
     rcases yl.1 hs with hs | hs
     ·exact h2 s hs
     ·obtain ⟨p,hp,rfl⟩:=q9.1 hs; exact hf.2 p hp)
    unfold Enters at hent
    have hrun:(execOp a.eval ⟨dst,.call ⟨.value f,args,argTypes⟩,type,pos,after,guard⟩).run P w = .ok (.enter g (args.toList.map a.eval ++ cap.map fun p=>Value.pointer (some (p.addr ρ))).toArray) w:=by
     have e1:(#[] ++ args.map a.eval) ++ (cap.map fun p=>Value.pointer (some (p.addr ρ))).toArray = (args.toList.map a.eval ++ cap.map fun p=>Value.pointer (some (p.addr ρ))).toArray:=by
      apply Array.ext'; simp
     simp only [execOp,resolve,hv,Deferred.ofValue,Sem.run_bind,Sem.run_pure,Result.andThen_ok,invoke,e1,hent]
    rw [hrun]
    refine hc.mono ?_
    rintro e w' ⟨out,h',nx',ρ',k1,k2,k3,k4,k5,k6⟩
    cases out with
    |ret s=>
     obtain ⟨v,rfl,hr⟩:=k2
     exact ⟨v,s,h',nx',ρ',rfl,k1,hr,k6,d.heap k3 k4 k5,k4,k5⟩
    |panic v=>
     simp only [Out.rel] at k2
     subst k2
     exact ⟨v,h',nx',ρ',rfl,k1,d.heap k3 k4 k5⟩
   ·exact hs.elim
  ·exact hs.elim
 case makeMap ty r=>exact za7 d (zo5 hΘ hs d.sat (zmp d r))
 case mapUpdate ty m k x=>
  obtain ⟨w',h',h1,h2,h3⟩:=zji hΘ hs d.sat (zay d m).1 (zay d k).1 (zay d x).1
  have:(execOp a.eval ⟨dst,.mapUpdate ty m k x,type,pos,after,guard⟩).run P w = .ok .skip w':=by
   simp [execOp,h1]
  rw [this]
  exact ⟨undef,.tup [],h',st.nx,ρ,rfl,h2,rfl,by simp [SV.below],d.heap h3 (fun _ _=>rfl) (qf _),fun _ _=>rfl,qf _⟩
 case insert ty m k x=>
  obtain ⟨w',h',h1,h2,h3⟩:=zji hΘ hs d.sat (zay d m).1 (zay d k).1 (zay d x).1
  have:(execOp a.eval ⟨dst,.insert ty m k x,type,pos,after,guard⟩).run P w = .ok .skip w':=by
   simp [execOp,h1]
  rw [this]
  exact ⟨undef,.tup [],h',st.nx,ρ,rfl,h2,rfl,by simp [SV.below],d.heap h3 (fun _ _=>rfl) (qf _),fun _ _=>rfl,qf _⟩
 case lookup ty x k ok=>exact za7 d (YldS.yld (zp7 hΘ hs d.sat (zay d x).1 (zay d k).1) d.sat)
 case panic x=>
  simp only [sop] at hs
  have hx:=zay d x
  split at hs
  ·rename_i ty v he
   rw [he] at hx
   have hv:a.eval x = .iface ty v:=hx.1
   have:(execOp a.eval ⟨dst,.panic x,type,pos,after,guard⟩).run P w = .halt (.panic (.iface ty v)) w:=by simp [execOp,hv,Instr.panic]
   rw [this]
   exact ⟨_,st.h,st.nx,ρ,rfl,hs,d⟩
  ·exact hs.elim
 all_goals exact hs.elim
end
end Sx
