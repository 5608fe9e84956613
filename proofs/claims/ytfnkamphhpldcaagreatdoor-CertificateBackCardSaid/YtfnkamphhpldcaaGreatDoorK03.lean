import Derived.Test.YtfnkamphhpldcaaGreatDoorK02
set_option maxHeartbeats 64000000
namespace Sx
open Go
section
variable {P:Program} {Θ:Tys} {C:Ctx} {ρ:Rho} {h:Hp} {nx:Nat} {w:World} {K:Kt}
def chunk {α:Type} (sz:Nat):Nat → List α → List (List α)
 |0,_=>[]
 |n + 1,l=>l.take sz :: chunk sz n (l.drop sz)
theorem zg6 {α:Type} (sz:Nat):∀ (n:Nat) (l:List α),l.length = n * sz → (chunk sz n l).flatten = l
 |0,l,h=>by simp at h; simp [chunk,h]
 |n + 1,l,h=>by
  simp only [chunk,jy]
  rw [zg6 sz n (l.drop sz) (by simp [h,qbn])]
  exact yw sz l
theorem zj0 {α:Type} (sz:Nat):∀ (n:Nat) (l:List α),(chunk sz n l).length = n
 |0,l=>rfl
 |n + 1,l=>by simp [chunk,zj0 sz n]
theorem zrq {α:Type} (sz:Nat):∀ (n:Nat) (l:List α),l.length = n * sz → ∀ x ∈ chunk sz n l,x.length = sz
 |0,l,h,x,hx=>by simp [chunk] at hx
 |n + 1,l,h,x,hx=>by
  simp only [chunk,qj] at hx
  rcases hx with rfl | hx
  ·simp [h,qbn]
  ·exact zrq sz n (l.drop sz) (by simp [h,qbn]) x hx
theorem zot {α:Type} (sz:Nat):∀ (n:Nat) (l:List α),∀ x ∈ chunk sz n l,∀ a ∈ x,a ∈ l
 |0,l,x,hx=>by simp [chunk] at hx
 |n + 1,l,x,hx=>by
  simp only [chunk,qj] at hx
  rcases hx with rfl | hx
  ·intro a ha; exact jv ha
  ·intro a ha; exact qae (zot sz n (l.drop sz) x hx a ha)
theorem zir (zs:List Value):∀ n,((Array.range (n * zs.length)).map (zs.toArray[· % zs.length]!)) = ((List.replicate n zs).flatten).toArray:=by
 intro n
 apply Array.ext'
 simp only [Array.toList_map,Array.toList_range]
 induction n with
 |zero=>simp
 |succ n ih=>
  rw [qbn,qb4,List.range_add,q5,qbh,jy]
  simp only [yd]
  congr 1
  ·apply qbp
   intro i
   by_cases hi:i < zs.length
   ·simp [hi,jo hi]
   ·simp [hi]
  ·rw [← ih]
   apply jx
   intro i _
   simp [Nat.add_mod_left]
def zf8 (Θ:Tys) (t:TypeId) (len:Nat) (parts:List (Nat × SV)) (h:Hp) (nx:Nat) (K:Kt):Prop:=
 match Θ t with
 |some ⟨.slice elem,_,_,_⟩=>match Θ elem with
  |some j=>match j.size with
   |0=>False
   |_ + 1=>match Nat.ble (len * j.size) 16777216 with
    |true=>match sfill (fun i=>some (i * j.size,j.size)) (List.replicate len j.zero).flatten parts with
     |some cs=>K (.va (.slice false nx 0 0 j.size len len)) (lput h nx (.one (.arr elem j.size (chunk j.size len cs) len))) (nx + 1)
     |none=>False
    |false=>False
  |none=>False
 |_=>False
theorem zj8 (hΘ:Θ.Ok P) {t:TypeId} {len:Nat} {parts:List (Nat × SV)} {vps:Array (Nat × Value)} (hs:zf8 Θ t len parts h nx K) (sat:Sat C ρ h nx w) (hl:vps.size = parts.length)
  (hr:∀ (j:Nat) (p:Nat × SV) (q:Nat × Value),parts[j]? = some p → vps[j]? = some q → p.1 = q.1 ∧ p.2.rel ρ q.2) (hb:∀ p ∈ parts,p.2.below nx):Yld P (Instr.buildSlice t len vps) C ρ nx w K:=by
 unfold zf8 at hs
 split at hs
 ·rename_i elem a b zz hi
  split at hs
  ·rename_i j hj
   split at hs
   ·exact hs.elim
   ·rename_i sz' hsz
    split at hs
    ·rename_i hle
     have hle:=nb hle
     split at hs
     ·rename_i cs hcs
      have hok:=hΘ elem j hj
      have hzl:=hok.len
      obtain ⟨f1,f2,f3⟩:=zl8 (ρ:=ρ) parts vps.toList _ cs hcs (by simpa using hl) (fun j p q hp hq=>hr j p q hp (by simpa using hq))
      have hcsl:cs.length = len * j.size:=by
       rw [f3]; simp [qbf,hzl]
      have hbl:∀ a ∈ cs,a.below nx:=f2 nx (fun a ha=>by
       obtain ⟨x,hx,hax⟩:=qax.1 ha
       rw [(qbl.1 hx).2] at hax
       exact SA.below_mono (yq _) (hok.bel a hax)) hb
      have hzc:=zfb hok ρ
      have hinit:((Array.range (len * j.size)).map ((zval ρ j).cells[· % (zval ρ j).cells.size]!)) = ((List.replicate len j.zero).flatten.map (SA.den ρ)).toArray:=by
       have:=zir (j.zero.map (SA.den ρ)) len
       simp only [qb,hzl] at this
       rw [hzc]
       simp only [yv,qb,hzl]
       rw [this]; congr 1; simp [qcn]
      have hrun:(Instr.buildSlice t len vps).run P w = .ok (.slice (some ⟨w.heap.size,0,none⟩) len len) (w.alloc (.cells (cs.map (SA.den ρ)).toArray elem (0,0))):=by
       have h1:¬ (len * j.size > 2 ^ 24):=by omega
       by_cases h0:len * j.size = 0
       ·have hl0:len = 0:=by rcases Nat.mul_eq_zero.1 h0 with h' | h'<;>omega
        subst hl0
        have e1:((Array.range (0 * j.size)).map (fun x=>((#[]:Array Value))[x % (#[]:Array Value).size]!)) = ((List.replicate 0 j.zero).flatten.map (SA.den ρ)).toArray:=by simp
        simp only [Instr.buildSlice,Sem.run_bind,zas hΘ hi,Result.andThen_ok,zdc hΘ hj,if_neg h1,if_pos h0,Sem.run_pure]
        simp only [e1,f1,newRow,Sem.run_bind,Sem.run_pure,run_newObj,Result.andThen_ok]
        rfl
       ·simp only [Instr.buildSlice,Sem.run_bind,zas hΘ hi,Result.andThen_ok,zdc hΘ hj,if_neg h1,if_neg h0,Sem.run_pure,zgj hΘ hj w ρ,hinit,f1,newRow,run_newObj]
        rfl
      refine ⟨_,_,_,_,_,rext ρ nx w.heap.size,hrun,?_,?_,hs,sat.new (.arr elem j.size (chunk j.size len cs) len) _ (fun x hx a ha=>hbl a (zot _ _ _ x hx a ha)) ?_,fun i hi=>zdp hi,yz _⟩
      ·simp [SV.rel,SA.den,zbc]
      ·simp [SV.below,SA.below]
      ·refine ⟨zrq _ _ _ hcsl,by rw [zj0]; exact qf _,[],by simp [zj0],(0,0),NoFr.zero _,?_⟩
       rw [zg6 _ _ _ hcsl]; simp
     ·exact hs.elim
    ·exact hs.elim
  ·exact hs.elim
 ·exact hs.elim
def rdEls (h:Hp) (i k e sz n:Nat) (K:List (List SA) → Prop):Prop:=
 match lget h i with
 |some (.one (.arr _ sz' L _))=>(match k with
  |0=>match Nat.beq sz sz' with
   |true=>e + n ≤ L.length ∧ ∃ X,(L.drop e).take n = X ∧ K X
   |false=>False
  |_ + 1=>False)
 |some (.opt c (.arr _ sz' L _))=>c = true ∧ (match k with
  |0=>match Nat.beq sz sz' with
   |true=>e + n ≤ L.length ∧ ∃ X,(L.drop e).take n = X ∧ K X
   |false=>False
  |_ + 1=>False)
 |some (.frz F)=>∃ t L r,F k = some (.arr t sz L r) ∧ e + n ≤ L.length ∧ ∃ X,(L.drop e).take n = X ∧ K X
 |some (.lnk b)=>(match lget h 0 with
  |some (.frz F)=>∃ t L r,F (b k) = some (.arr t sz L r) ∧ e + n ≤ L.length ∧ ∃ X,(L.drop e).take n = X ∧ K X
  |_=>False)
 |some (.fam m c f)=>(k < m ∧ c k = true) ∧ (match f k with
  |.arr _ sz' L _=>match Nat.beq sz sz' with
   |true=>e + n ≤ L.length ∧ ∃ X,(L.drop e).take n = X ∧ K X
   |false=>False
  |_=>False)
 |_=>False
theorem zb3 {α:Type} {sz:Nat}:∀ (L:List (List α)),(∀ y ∈ L,y.length = sz) → L.flatten.length = L.length * sz
 |[],_=>by simp
 |y :: L,h=>by
  have:=zb3 L (fun z hz=>h z (by simp [hz]))
  simp [this,h y (by simp),qbn,qb4]
theorem zke {i k e sz n:Nat} {K:List (List SA) → Prop} (hr:rdEls h i k e sz n K) (s:Sat C ρ h nx w) :
  ∃ X,K X ∧ X.length = n ∧ (∀ x ∈ X,x.length = sz) ∧ (∀ x ∈ X,∀ a ∈ x,a.below nx) ∧ ∃ t pre post,RowAt w (ρ i k) t (pre ++ X.flatten.map (SA.den ρ) ++ post) ∧ pre.length = e * sz:=by
 have key0:∀ i k en t sz' L room,lget h i = some en → en.has k → en.at k = .arr t sz' L room → Nat.beq sz sz' = true → e + n ≤ L.length → (∃ X,(L.drop e).take n = X ∧ K X) →
   ∃ X,K X ∧ X.length = n ∧ (∀ x ∈ X,x.length = sz) ∧ (∀ x ∈ X,∀ a ∈ x,a.below nx) ∧ ∃ t pre post,RowAt w (ρ i k) t (pre ++ X.flatten.map (SA.den ρ) ++ post) ∧ pre.length = e * sz:=by
  intro i k en t sz' L room he hk hat hsz hle hK
  obtain ⟨X,rfl,hK⟩:=hK
  have hsz:=qg hsz
  subst hsz
  obtain ⟨o,ho,hok⟩:=s.blk _ en he _ hk
  have hbl:=s.wf _ en he _ hk
  rw [hat] at hok hbl
  obtain ⟨g1,g2,tail,g3,g4⟩:=hok
  refine ⟨_,hK,by simp; omega,fun x hx=>g1 x (qae (jv hx)),fun x hx=>hbl x (qae (jv hx)),t,(L.take e).flatten.map (SA.den ρ),((L.drop e).drop n).flatten.map (SA.den ρ) ++ tail,⟨o,ho,?_⟩,?_⟩
  ·have e1:L.flatten = (L.take e).flatten ++ (((L.drop e).take n).flatten ++ ((L.drop e).drop n).flatten):=by
    rw [← yh,← yh,yw,yw]
   rw [e1] at g4
   simpa [qk] using g4
  ·rw [qb,zb3 (L.take e) (fun y hy=>g1 y (jv hy))]
   rw [qn,qag (by omega)]
 have key:=key0 i k
 unfold rdEls at hr
 split at hr
 ·rename_i t sz' L room he
  split at hr
  ·split at hr
   ·rename_i hb; exact key _ _ _ _ _ he rfl rfl hb hr.1 hr.2
   ·exact hr.elim
  ·exact hr.elim
 ·rename_i c t sz' L room he
  obtain ⟨hc,hr⟩:=hr
  split at hr
  ·split at hr
   ·rename_i hb; exact key _ _ _ _ _ he ⟨hc,rfl⟩ rfl hb hr.1 hr.2
   ·exact hr.elim
  ·exact hr.elim
 ·rename_i F he
  obtain ⟨t,L,r,hF,h1,h2⟩:=hr
  exact key _ t sz L r he (by simp [Ent.has,hF]) (by simp [Ent.at,hF]) (by simp) h1 h2
 ·rename_i b he
  split at hr
  ·rename_i F hF0
   obtain ⟨t,L,r,hF,h1,h2⟩:=hr
   rw [s.lnk _ _ he k,← s.id0 (b k)]
   exact key0 0 (b k) _ t sz L r hF0 (by simp [Ent.has,hF]) (by simp [Ent.at,hF]) (by simp) h1 h2
  ·exact hr.elim
 ·rename_i m c f he
  obtain ⟨hm,hr⟩:=hr
  split at hr
  ·rename_i t sz' L room hf
   split at hr
   ·rename_i hb; exact key _ _ _ _ _ he hm hf hb hr.1 hr.2
   ·exact hr.elim
  ·exact hr.elim
 ·exact hr.elim
theorem zdn (s:List UInt8):(s.map fun b=>[SA.int .u8 b.toNat]).flatten = s.map fun b=>SA.int .u8 b.toNat:=by
 induction s with
 |nil=>rfl
 |cons b r ih=>simpa using ih
def src (Θ:Tys) (t:TypeId) (x:SV) (sz:Nat) (h:Hp) (K:List (List SA) → Prop):Prop:=
 match Θ t,x with
 |some ⟨.slice _,_,_,_⟩,.va (.slice nil i k e sz' len _)=>match nil with
  |true=>len = 0 ∧ K []
  |false=>match Nat.beq sz' sz with
   |true=>rdEls h i k e sz len K
   |false=>match Nat.beq sz' 1 with
    |true=>∃ X:List (List SA),X.length = len ∧ (∀ x ∈ X,x.length = sz) ∧ (len = 0 ∨ rd h ⟨i,k,e,1,0⟩ (len * sz) fun xs=>xs = X.flatten) ∧ K X
    |false=>False
 |some ⟨.slice _,_,_,_⟩,.va .nilsl=>K []
 |some ⟨.string,_,_,_⟩,.va (.str s)=>match Nat.beq sz 1 with
  |true=>K (s.map fun b=>[SA.int .u8 b.toNat])
  |false=>False
 |_,_=>False
theorem zu5 (hΘ:Θ.Ok P) {t:TypeId} {x:SV} {v:Value} {sz:Nat} {K:List (List SA) → Prop} (hr:src Θ t x sz h K) (s:Sat C ρ h nx w) (hx:x.rel ρ v) :
  ∃ X,K X ∧ (∀ x ∈ X,x.length = sz) ∧ (∀ x ∈ X,∀ a ∈ x,a.below nx) ∧ (∀ w',(Builtin.lenOf v).run P w' = .ok X.length w') ∧
   (∀ w',w'.heap = w.heap → (Builtin.firstCells sz X.length v).run P w' = .ok (X.flatten.map (SA.den ρ)).toArray w') ∧
   ((∃ e,P.underlying t = some (.slice e)) ∨ P.underlying t = some .string):=by
 unfold src at hr
 split at hr
 ·rename_i el a b c nil i k e sz' len cap ht
  have hu:((∃ e,P.underlying t = some (.slice e)) ∨ P.underlying t = some .string):=.inl ⟨_,(hΘ t _ ht).und⟩
  split at hr
  ·obtain ⟨h0,hK⟩:=hr
   subst h0
   simp only [SV.rel,SA.den,if_true] at hx; subst hx
   exact ⟨[],hK,by simp,by simp,fun w'=>rfl,fun w' _=>rfl,hu⟩
  ·split at hr
   ·rename_i hs
    have hs:=qg hs
    subst hs
    simp only [SV.rel,SA.den,jm,if_false] at hx; subst hx
    obtain ⟨X,hK,hl,h1,h2,t',pre,post,hrow,hpre⟩:=zke hr s
    refine ⟨X,hK,h1,h2,fun w'=>by rw [hl]; rfl,fun w' hw'=>?_,hu⟩
    have hrow':RowAt w' (ρ i k) t' (pre ++ X.flatten.map (SA.den ρ) ++ post):=by
     obtain ⟨o,ho,hi⟩:=hrow; exact ⟨o,by rw [hw']; exact ho,hi⟩
    have hfl:=zb3 X h1
    have hload:(loadCells ⟨ρ i k,e * sz',none⟩ (X.flatten.map (SA.den ρ)).length).run P w' = .ok (X.flatten.map (SA.den ρ)).toArray w':=
     run_loadCells_list (P:=P) w' _ _ (fun j u hu=>by
      rw [addr_add,hrow'.cell,← hpre]
      have hj:j < (X.flatten.map (SA.den ρ)).length:=(qh.1 hu).1
      rw [qk,jz (by omega),qac,js hj]; exact hu)
    rw [qb,hfl] at hload
    exact hload
   ·split at hr
    ·rename_i hs
     have hs:=qg hs
     subst hs
     simp only [SV.rel,SA.den,jm,if_false] at hx; subst hx
     obtain ⟨X,hl,h1,hrd,hK⟩:=hr
     have hfl:=zb3 X h1
     have hall:(∀ x ∈ X,∀ a ∈ x,a.below nx) ∧ ∀ w',w'.heap = w.heap → (loadCells ⟨ρ i k,e * 1,none⟩ (X.flatten.map (SA.den ρ)).length).run P w' = .ok (X.flatten.map (SA.den ρ)).toArray w':=by
      rcases hrd with h0 | hrd
      ·have hX:X = []:=qay (by omega)
       subst hX
       exact ⟨by simp,fun w' _=>run_loadCells_list (P:=P) w' _ _ (fun j u hu=>by simp at hu)⟩
      ·obtain ⟨xs,hxs,g1,g2,t',pre,post,hrow,hpre⟩:=zl1 hrd s
       subst hxs
       refine ⟨fun x hx a ha=>g2 a (qax.2 ⟨x,hx,ha⟩),fun w' hw'=>?_⟩
       have hrow':znh w' (ρ i k) t' (pre ++ X.flatten.map (SA.den ρ) ++ post):=by
        obtain ⟨o,ho,hi⟩:=hrow; exact ⟨o,by rw [hw']; exact ho,hi⟩
       exact run_loadCells_list (P:=P) w' _ _ (fun j u hu=>by
        rw [addr_add,hrow'.cell]
        have hp:pre.length = e * 1:=by simpa using hpre
        rw [← hp]
        have hj:j < (X.flatten.map (SA.den ρ)).length:=(qh.1 hu).1
        rw [qk,jz (by omega),qac,js hj]; exact hu)
     refine ⟨X,hK,h1,hall.1,fun w'=>by rw [hl]; rfl,fun w' hw'=>?_,hu⟩
     have hload:=hall.2 w' hw'
     rw [qb,hfl] at hload
     exact hload
    ·exact hr.elim
 ·rename_i el a b c ht
  simp only [SV.rel,SA.den] at hx; subst hx
  exact ⟨[],hr,by simp,by simp,fun w'=>rfl,fun w' _=>rfl,.inl ⟨_,(hΘ t _ ht).und⟩⟩
 ·rename_i a b c s' ht
  split at hr
  ·rename_i hs
   have hs:=qg hs
   subst hs
   simp only [SV.rel,SA.den] at hx; subst hx
   refine ⟨_,hr,by simp,by simp [SA.below],fun w'=>by simp [Builtin.lenOf,ByteArray.size],fun w' _=>?_,.inr (hΘ t _ ht).und⟩
   simp only [Builtin.firstCells,Sem.run_pure]
   congr 1
   rw [zdn s']
   apply Array.ext'
   simp [ByteArray.data_extract,SA.den]
  ·exact hr.elim
 ·exact hr.elim
end
section
variable {P:Program} {Θ:Tys} {C:Ctx} {ρ:Rho} {h:Hp} {nx:Nat} {w:World} {K:Kt}
def base (h:Hp) (i k e sz elem len cap:Nat) (F:List (List SA) → Prop):Prop:=
 match lget h i with
 |some (.one (.arr t sz' L room))=>(match k with
  |0=>match Nat.beq sz sz',Nat.beq t elem with
   |true,true=>e = 0 ∧ len = L.length ∧ cap = room ∧ F L
   |_,_=>False
  |_ + 1=>False)
 |some (.opt c (.arr t sz' L room))=>c = true ∧ (match k with
  |0=>match Nat.beq sz sz',Nat.beq t elem with
   |true,true=>e = 0 ∧ len = L.length ∧ cap = room ∧ F L
   |_,_=>False
  |_ + 1=>False)
 |some (.fam m c f)=>(match k with      -- a block that has been written as a family of one: the slice may end ahead of the row
  |0=>(match f 0 with
   |.arr t sz' L room=>(match Nat.beq sz sz',Nat.beq t elem with
    |true,true=>(0 < m ∧ c 0 = true) ∧ e = 0 ∧ len ≤ L.length ∧ cap = room ∧ F (L.take len)
    |_,_=>False)
   |_=>False)
  |_ + 1=>False)
 |_=>False
theorem zha {α:Type} (L:List (List α)) (n:Nat):L.flatten = (L.take n).flatten ++ (L.drop n).flatten:=by
 rw [← yh,yw]
theorem zz1 {ρ:Rho} {t sz room:Nat} {L:List (List SA)} {o:Obj} (n:Nat) (h:(SB.arr t sz L room).ok ρ o):(SB.arr t sz (L.take n) room).ok ρ o:=by
 obtain ⟨g1,g2,tail,g3,g4⟩:=h
 refine ⟨fun x hx=>g1 x (jv hx),?_,(L.drop n).flatten.map (SA.den ρ) ++ tail,?_,?_⟩
 ·rw [qn]; omega
 ·rw [qa,qb,g3]
  have h1:(L.drop n).flatten.length = (L.drop n).length * sz:=zb3 _ (fun x hx=>g1 x (qae hx))
  rw [h1,yj,qn,← qa8]
  congr 1; omega
 ·rw [zha L n,q5,qk] at g4; exact g4
def zjc (Θ:Tys) (ts:List TypeId) (x y:SV) (h:Hp) (nx:Nat) (K:Kt):Prop:=
 match ts with
 |[tx,ty]=>match Θ tx,x with
  |some ⟨.slice elem,_,_,_⟩,.va (.slice nil i k e sz len cap)=>match Θ elem with
   |some j=>match j.size,j.bytes with
    |0,_=>False
    |_,0=>False
    |_,_=>src Θ ty y j.size h fun X=>match nil with
     |true=>len = 0 ∧ cap = 0 ∧ (match X with
      |[]=>K (.va .nilsl) h nx
      |x0 :: X'=>(x0 :: X').length * j.bytes ≤ 140737488355328 ∧ ∀ c,(x0 :: X').length ≤ c → K (.va (.slice false nx 0 0 j.size (x0 :: X').length c)) (lput h nx (.one (.arr elem j.size (x0 :: X') c))) (nx + 1))
     |false=>match Nat.beq sz j.size with
      |true=>base h i k e sz elem len cap fun L=>(len + X.length) * j.bytes ≤ 140737488355328 ∧ ∀ c,len + X.length ≤ c →
        K (.va (.slice false nx 0 0 j.size (len + X.length) c)) (lput (lput h i .gone) nx (.one (.arr elem j.size (L ++ X) c))) (nx + 1)
      |false=>False
   |none=>False
  |_,_=>False
 |_=>False
def zjl (Θ:Tys) (ts:List TypeId) (x y:SV) (h:Hp) (nx:Nat) (K:Kt):Prop:=
 match ts with
 |[tx,ty]=>match Θ tx,Θ ty,x,y with
  |some ⟨.slice elem,_,_,_⟩,some ⟨.int .i64,_,_,_⟩,.va (.slice true _ _ _ _ len cap),.va (.int .i64 n)=>match Θ elem with
   |some j=>match j.size,j.bytes with
    |0,_=>False
    |_,0=>False
    |_,_=>len = 0 ∧ cap = 0 ∧ 0 < n ∧ n * j.bytes ≤ 140737488355328 ∧ ∀ c,n.toNat ≤ c → K (.va (.slice false nx 0 0 j.size n.toNat c)) (lput h nx (.one (.arr elem j.size [] c))) (nx + 1)
   |none=>False
  |_,_,_,_=>False
 |_=>False
def zhg (Θ:Tys) (ts:List TypeId) (x y:SV) (h:Hp) (nx:Nat) (K:Kt):Prop:=
 match y with
 |.va (.int _ _)=>zjl Θ ts x y h nx K
 |_=>zjc Θ ts x y h nx K
def zlv (Θ:Tys) (ts:List TypeId) (x y:SV) (h:Hp) (nx:Nat) (K:Kt):Prop:=
 match x with
 |.va .nilsl=>zhg Θ ts (.va (.slice true 0 0 0 0 0 0)) y h nx K
 |x=>zhg Θ ts x y h nx K
theorem zfk (zs:List Value) (n:Nat):(Builtin.zeroCells zs.toArray n).toList.length = n * zs.length:=by
 simp [Builtin.zeroCells]
theorem zr3 (tx ty ty' elem:TypeId) (inf:TypeInfo) (z:Value) (ht:P.underlying tx = some (.slice elem)) (hi:P.info? elem = some inf) (hz:inf.zero = some z)
  (hu:(∃ e,P.underlying ty = some (.slice e)) ∨ P.underlying ty = some .string)
  (b:Option Addr) (sLen sCap n:Nat) (x:Value) (olds news:List Value)
  (hlen:∀ w',(Builtin.lenOf x).run P w' = .ok n w')
  (hfo:(Builtin.firstCells inf.size sLen (.slice b sLen sCap)).run P w.drew = .ok olds.toArray w.drew)
  (hf:(Builtin.firstCells inf.size n x).run P w.drew = .ok news.toArray w.drew)
  (hg:sCap < sLen + n) (h63:((sLen + n:Nat):Int) ≤ 9223372036854775807) (hfit:Builtin.nextslicecap (sLen + n) sCap * inf.bytes ≤ 281474976710656) :
  (Builtin.append_ #[tx,ty] ty' #[.slice b sLen sCap,x]).run P w =
   .ok (.slice (some ⟨w.heap.size,0,none⟩) (sLen + n) (grownCap w (sLen + n) sCap elem))
    (w.drew.alloc (.cells (olds.toArray ++ news.toArray ++ Builtin.zeroCells z.cells (grownCap w (sLen + n) sCap elem - (sLen + n))) elem)):=by
 have hn:¬ (sLen + n ≤ sCap):=by omega
 have h63':¬ (9223372036854775807 < ((sLen:Int) + (n:Int))):=by omega
 have h48':¬ (281474976710656 < Builtin.nextslicecap (sLen + n) sCap * inf.bytes):=by omega
 rcases hu with ⟨e',hd⟩ | hd<;>simp [Builtin.append_,run_underlying ht,run_underlying hd,Go.sizeOf,typeInfo,zeroValue,hi,hz,hlen,hn,h63',h48',Question.forced,hf,hfo,newRow,grownCap]
 all_goals (congr 2; apply Array.ext'; simp [qk])
theorem z0w (tx ty ty' elem:TypeId) (inf:TypeInfo) (ht:P.underlying tx = some (.slice elem)) (hi:P.info? elem = some inf)
  (hu:(∃ e,P.underlying ty = some (.slice e)) ∨ P.underlying ty = some .string)
  (g t:Nat) (sLen sCap n:Nat) (x:Value) (olds news cells:List Value)
  (hlen:∀ w',(Builtin.lenOf x).run P w' = .ok n w')
  (hf:(Builtin.firstCells inf.size n x).run P w = .ok news.toArray w) (hrow:RowAt w g t (olds ++ cells)) (hol:olds.length = sLen * inf.size) (hnl:news.length ≤ cells.length)
  (h1:∀ v ∈ news,v.oneCell' = true) (hg:sLen + n ≤ sCap) :
  (Builtin.append_ #[tx,ty] ty' #[.slice (some ⟨g,0,none⟩) sLen sCap,x]).run P w =
   .ok (.slice (some ⟨g,0,none⟩) (sLen + n) sCap) (w.setRow g (olds ++ news ++ cells.drop news.length).toArray):=by
 have hst:=zb9 (P:=P) g (sLen * inf.size) t news 0 _ w hrow (by simp; omega) h1
 have e1:List.take (sLen * inf.size + 0) (olds ++ cells) = olds:=by rw [qah,← hol]; simp
 have e2:List.drop (sLen * inf.size + 0 + news.length) (olds ++ cells) = cells.drop news.length:=by rw [qah,← hol]; simp [List.drop_append]
 rw [e1,e2] at hst
 rcases hu with ⟨e',hd⟩ | hd<;>simp [Builtin.append_,run_underlying ht,run_underlying hd,Go.sizeOf,typeInfo,hi,hlen,hg,hf,addr_add,hst]
theorem zr6 {t:TypeId} {j:TI} (hok:TI.ok P t j) (elem:TypeId) (Y:List (List SA)) (hY:∀ x ∈ Y,x.length = j.size) (c:Nat) (hc:Y.length ≤ c) :
  (SB.arr elem j.size Y c).ok ρ (.cells ((Y.flatten.map (SA.den ρ)).toArray ++ Builtin.zeroCells (zval ρ j).cells (c - Y.length)) elem (0,0)):=by
 refine ⟨hY,hc,(Builtin.zeroCells (zval ρ j).cells (c - Y.length)).toList,?_,(0,0),NoFr.zero _,?_⟩
 ·rw [zfb hok ρ,zfk]; simp [hok.len]
 ·congr 1; apply Array.ext'; simp
theorem zoe (hΘ:Θ.Ok P) {ts:List TypeId} {ty':TypeId} {x y:SV} {v u:Value} (hs:zjc Θ ts x y h nx K) (sat:Sat C ρ h nx w) (hr:x.rel ρ v) (hr':y.rel ρ u) :
  Yld P (Builtin.append_ ts.toArray ty' #[v,u]) C ρ nx w K:=by
 unfold zjc at hs
 split at hs
 ·rename_i tx ty
  split at hs
  ·rename_i elem a b c nil i k e sz len cap hi
   split at hs
   ·rename_i j hj
    split at hs
    ·exact hs.elim
    ·exact hs.elim
    ·rename_i hsz0 hby0
     obtain ⟨X,hX,hXl,hXb,hlen,hf,hu⟩:=zu5 hΘ hs sat hr'
     obtain ⟨inf,hinf,hisz,hiby,hiz⟩:=(hΘ elem j hj).inf
     have hbpos:1 ≤ j.bytes:=by
      rcases qca j.bytes with h0 | h0
      ·exact absurd h0 (fun h0=>hby0 h0)
      ·exact h0
     have ht:=(hΘ tx _ hi).und
     have hXf:=zb3 X hXl
     have hdrew:(w.drew).heap = w.heap:=rfl
     split at hX
     ·-- a nil slice
      obtain ⟨h0,h1,hX⟩:=hX
      subst h0; subst h1
      simp only [SV.rel,SA.den,if_true] at hr; subst hr
      cases X with
      |nil=>-- nothing is appended
       have hfw:=hf w rfl
       refine Yld.same sat (.slice none 0 0) (.va .nilsl) ?_ (by simp [SV.rel,SA.den]) trivial hX
       simp only [qp] at hlen hfw
       rcases hu with ⟨e',hd⟩ | hd<;>simp [Builtin.append_,run_underlying ht,run_underlying hd,Go.sizeOf,typeInfo,hinf,hlen,hisz,hfw]
      |cons x0 X'=>
       obtain ⟨hroom,hX⟩:=hX
       have hgrow:=zr3 (w:=w) tx ty ty' elem inf (zval ρ j) ht hinf (hiz ρ) hu none 0 0 (x0 :: X').length u [] _ hlen (by rfl) (by rw [hisz]; exact hf w.drew hdrew) (by simp) (by have:=qbg (x0 :: X').length hbpos; omega) (by rw [hiby]; exact growslice_fits (by simp) (by rw [ji]; exact hroom))
       simp only [ji] at hgrow
       have hcap:(x0 :: X').length ≤ grownCap w (x0 :: X').length 0 elem:=by simp only [grownCap,Question.cut]; omega
       refine ⟨_,_,_,_,_,rext ρ nx w.heap.size,hgrow,?_,?_,hX _ hcap,?_,fun i hi=>zdp hi,yz _⟩
       ·simp [SV.rel,SA.den,zbc]
       ·simp [SV.below,SA.below]
       ·have:=(sat.drew).new (.arr elem j.size (x0 :: X') (grownCap w (x0 :: X').length 0 elem)) _ hXb (zr6 (ρ:=ρ) (hΘ elem j hj) elem _ hXl _ hcap)
        have e0:(([]:List Value).toArray ++ (((x0 :: X').flatten.map (SA.den ρ))).toArray) = (((x0 :: X').flatten.map (SA.den ρ))).toArray:=by apply Array.ext'; simp
        rw [e0]
        exact this
     ·-- a slice with memory
      split at hX
      ·rename_i hszb
       have hszb:=qg hszb
       subst hszb
       have key:∀ en room L,lget h i = some en → en.plain = true → en.has 0 → (∀ o,(en.at 0).ok ρ o → (SB.arr elem j.size L room).ok ρ o) → ((en.at 0).below nx → (SB.arr elem j.size L room).below nx) → k = 0 → e = 0 → len = L.length → cap = room →
         (len + X.length) * j.bytes ≤ 140737488355328 → (∀ c,len + X.length ≤ c → K (.va (.slice false nx 0 0 j.size (len + X.length) c)) (lput (lput h i .gone) nx (.one (.arr elem j.size (L ++ X) c))) (nx + 1)) →
         Yld P (Builtin.append_ #[tx,ty] ty' #[v,u]) C ρ nx w K:=by
        intro en room L he hnr hk0 hat hatb hk he0 hll hcr hroom hK
        subst hk; subst he0; subst hll; subst hcr
        simp only [SV.rel,SA.den,jm,if_false,Nat.zero_mul] at hr; subst hr
        obtain ⟨o,ho,hok⟩:=sat.blk _ en he _ hk0
        have hbl:=sat.wf _ en he _ hk0
        replace hok:=hat _ hok
        replace hbl:=hatb hbl
        obtain ⟨g1,g2,tail,g3,g4⟩:=hok
        have hLf:=zb3 L g1
        have hY:∀ x ∈ L ++ X,x.length = j.size:=fun x hx=>by
         rcases yl.1 hx with hx | hx
         ·exact g1 x hx
         ·exact hXl x hx
        have hYb:(SB.arr elem j.size (L ++ X) cap).below nx:=fun x hx=>by
         rcases yl.1 hx with hx | hx
         ·exact hbl x hx
         ·exact hXb x hx
        have hilt:=sat.lt _ _ he
        by_cases hfit:L.length + X.length ≤ cap
        ·-- in place
         have hone:∀ v ∈ X.flatten.map (SA.den ρ),v.oneCell' = true:=by
          intro z hz; obtain ⟨a,_,rfl⟩:=q9.1 hz; exact SA.one ρ a
         have htl:(X.flatten.map (SA.den ρ)).length ≤ tail.length:=by
          rw [qb,hXf,g3]; exact qas _ (by omega)
         have hrow:RowAt w (ρ i 0) elem (L.flatten.map (SA.den ρ) ++ tail):=⟨o,ho,g4⟩
         have hrun:=z0w (w:=w) tx ty ty' elem inf ht hinf hu (ρ i 0) elem L.length cap X.length u (L.flatten.map (SA.den ρ)) (X.flatten.map (SA.den ρ)) tail hlen (by rw [hisz]; exact hf w rfl) hrow (by rw [qb,hLf,hisz]) htl hone hfit
         obtain ⟨fr,hfr,rfl⟩:=g4
         refine ⟨_,_,_,_,_,rext ρ nx (ρ i 0),hrun,?_,?_,hK _ hfit,?_,fun i hi=>zdp hi,yz _⟩
         ·simp [SV.rel,SA.den,zbc]
         ·simp [SV.below,SA.below]
         ·refine sat.move he hnr hk0 (.arr elem j.size (L ++ X) cap) _ ⟨hY,by simpa using hfit,tail.drop (X.flatten.map (SA.den ρ)).length,?_,fr,?_,?_⟩ hYb rfl rfl rfl (by simp) (setRow_heap w _ _ _ elem fr ho) (fun b hb'=>zea w _ b _ hb')
          ·rw [yj,qb,hXf,g3,← Nat.sub_mul]; congr 1; simp; omega
          ·intro q hq; apply hfr q
           simp only [qa,qb,yj,yh] at hq htl ⊢
           omega
          ·simp [yh]
        ·-- it grows
         have hload:(Builtin.firstCells inf.size L.length (.slice (some ⟨ρ i 0,0,none⟩) L.length cap)).run P w.drew = .ok (L.flatten.map (SA.den ρ)).toArray w.drew:=by
          have hrow:RowAt w.drew (ρ i 0) elem (L.flatten.map (SA.den ρ) ++ tail):=⟨o,ho,g4⟩
          have hl2:(loadCells ⟨ρ i 0,0,none⟩ (L.flatten.map (SA.den ρ)).length).run P w.drew = .ok (L.flatten.map (SA.den ρ)).toArray w.drew:=
           run_loadCells_list (P:=P) w.drew _ _ (fun q z hz=>by
            rw [addr_add,hrow.cell,ji]
            rw [js (qh.1 hz).1]; exact hz)
          rw [qb,hLf] at hl2
          rw [hisz]; exact hl2
         have hgrow:=zr3 (w:=w) tx ty ty' elem inf (zval ρ j) ht hinf (hiz ρ) hu (some ⟨ρ i 0,0,none⟩) L.length cap X.length u _ _ hlen hload (by rw [hisz]; exact hf w.drew hdrew) (by omega) (by have:=qbg (L.length + X.length) hbpos; omega) (by rw [hiby]; exact growslice_fits (by omega) hroom)
         have hcap:L.length + X.length ≤ grownCap w (L.length + X.length) cap elem:=by simp only [grownCap,Question.cut]; omega
         refine ⟨_,_,_,_,_,rext ρ nx w.heap.size,hgrow,?_,?_,hK _ hcap,?_,fun i hi=>zdp hi,yz _⟩
         ·simp [SV.rel,SA.den,zbc]
         ·simp [SV.below,SA.below]
         ·have hg:=zr6 (ρ:=ρ) (hΘ elem j hj) elem (L ++ X) hY (grownCap w (L.length + X.length) cap elem) (by simpa using hcap)
          have:=((sat.drew).forget hilt (sat.ne0 he hnr)).new (.arr elem j.size (L ++ X) (grownCap w (L.length + X.length) cap elem)) _ hYb hg
          have e0:((L.flatten.map (SA.den ρ)).toArray ++ (X.flatten.map (SA.den ρ)).toArray) = ((L ++ X).flatten.map (SA.den ρ)).toArray:=by apply Array.ext'; simp [yh]
          rw [e0,← qa]
          rw [qa]
          simp only [qa] at this
          exact this
       unfold base at hX
       split at hX
       ·rename_i t sz' L room he
        split at hX
        ·split at hX
         ·rename_i h1 h2
          have h1:=qg h1
          have h2:=qg h2
          subst h1; subst h2
          exact key _ room L he rfl rfl (fun _ h=>h) (fun h=>h) rfl hX.1 hX.2.1 hX.2.2.1 hX.2.2.2.1 hX.2.2.2.2
         ·exact hX.elim
        ·exact hX.elim
       ·rename_i cc t sz' L room he
        obtain ⟨hc,hX⟩:=hX
        split at hX
        ·split at hX
         ·rename_i h1 h2
          have h1:=qg h1
          have h2:=qg h2
          subst h1; subst h2
          exact key _ room L he rfl ⟨hc,rfl⟩ (fun _ h=>h) (fun h=>h) rfl hX.1 hX.2.1 hX.2.2.1 hX.2.2.2.1 hX.2.2.2.2
         ·exact hX.elim
        ·exact hX.elim
       ·rename_i m cc f he
        split at hX
        ·split at hX
         ·rename_i t sz' L room hf0
          split at hX
          ·rename_i h1 h2
           have h1:=qg h1
           have h2:=qg h2
           subst h1; subst h2
           obtain ⟨hm,he0,hle,hcr,hX⟩:=hX
           have hat:(Ent.fam m cc f).at 0 = .arr t j.size L room:=hf0
           refine key _ room (L.take len) he rfl hm (fun o h=>zz1 len (by rw [hat] at h; exact h)) (fun h=>?_) rfl he0 (by rw [qn]; omega) hcr hX.1 hX.2
           rw [hat] at h
           exact fun x hx=>h x (jv hx)
          ·exact hX.elim
         ·exact hX.elim
        ·exact hX.elim
       ·exact hX.elim
      ·exact hX.elim
   ·exact hs.elim
  ·exact hs.elim
 ·exact hs.elim
theorem zu1 (tx ty ty' elem:TypeId) (inf:TypeInfo) (z:Value) (ht:P.underlying tx = some (.slice elem)) (hi:P.info? elem = some inf) (hz:inf.zero = some z)
  (hu:P.underlying ty = some (.int .i64)) (n:Int) (hn:0 < n) (hsz:inf.size ≠ 0) (hby:1 ≤ inf.bytes) (hroom:n * inf.bytes ≤ 140737488355328) :
  (Builtin.append_ #[tx,ty] ty' #[.slice none 0 0,.int .i64 n]).run P w =
   .ok (.slice (some ⟨w.heap.size,0,none⟩) n.toNat (grownCap w n.toNat 0 elem))
    (w.drew.alloc (.cells (Builtin.zeroCells z.cells n.toNat ++ Builtin.zeroCells z.cells (grownCap w n.toNat 0 elem - n.toNat)) elem)):=by
 have hle:n ≤ n * inf.bytes:=by
  have:=Int.mul_le_mul_of_nonneg_left (show (1:Int) ≤ inf.bytes by omega) (show 0 ≤ n by omega)
  omega
 have hw:IntKind.i64.wrap n = n:=IntWalk.i64_in _ (by omega)
 have h0:¬ n < 0:=by omega
 have h1:¬ (281474976710656 < n * (inf.bytes:Int)):=by omega
 have h2:¬ n ≤ 0:=by omega
 have h2':¬ n.toNat = 0:=by omega
 have hnat:n.toNat * inf.bytes ≤ 140737488355328:=by
  have:((n.toNat:Nat):Int) * (inf.bytes:Int) ≤ 140737488355328:=by rw [qc2 (by omega)]; exact hroom
  rw [← qbi] at this
  omega
 have h63':¬ (9223372036854775807 < n):=by omega
 have hm:max n 0 = n:=by omega
 have h63'':¬ (9223372036854775807 < ((n.toNat:Nat):Int)):=by omega
 have h48':¬ (281474976710656 < Builtin.nextslicecap n.toNat 0 * inf.bytes):=by
  have:=growslice_fits (need:=n.toNat) (old:=0) (bytes:=inf.bytes) (by omega) (by simpa using hnat)
  omega
 simp [Builtin.append_,run_underlying ht,run_underlying hu,Go.sizeOf,typeInfo,zeroValue,hi,hz,hw,h0,h1,h2,h2',hsz,h63',h63'',h48',Question.forced,Builtin.firstCells,newRow,grownCap,asInt,asIntOf,hm]
 intro h; exact absurd h (Nat.mul_ne_zero h2' hsz)
theorem zo2 (hΘ:Θ.Ok P) {ts:List TypeId} {ty':TypeId} {x y:SV} {v u:Value} (hs:zjl Θ ts x y h nx K) (sat:Sat C ρ h nx w) (hr:x.rel ρ v) (hr':y.rel ρ u) :
  Yld P (Builtin.append_ ts.toArray ty' #[v,u]) C ρ nx w K:=by
 unfold zjl at hs
 split at hs
 ·rename_i tx ty
  split at hs
  ·rename_i elem a b c a2 b2 c2 _ _ _ _ len cap n hi hi2
   split at hs
   ·rename_i j hj
    split at hs
    ·exact hs.elim
    ·exact hs.elim
    ·rename_i hsz0 hby0
     obtain ⟨h0,h1,hn,hroom,hK⟩:=hs
     subst h0; subst h1
     simp only [SV.rel,SA.den,if_true] at hr hr'; subst hr; subst hr'
     obtain ⟨inf,hinf,hisz,hiby,hiz⟩:=(hΘ elem j hj).inf
     have hbpos:1 ≤ j.bytes:=by
      rcases qca j.bytes with h0 | h0
      ·exact absurd h0 (fun h0=>hby0 h0)
      ·exact h0
     have hspos:j.size ≠ 0:=fun h0=>hsz0 h0
     have hrun:=zu1 (w:=w) tx ty ty' elem inf (zval ρ j) (hΘ tx _ hi).und hinf (hiz ρ) (hΘ ty _ hi2).und n hn (by rw [hisz]; exact hspos) (by rw [hiby]; exact hbpos) (by rw [hiby]; exact hroom)
     have hcap:n.toNat ≤ grownCap w n.toNat 0 elem:=by simp only [grownCap,Question.cut]; omega
     refine ⟨_,_,_,_,_,rext ρ nx w.heap.size,hrun,?_,?_,hK _ hcap,?_,fun i hi=>zdp hi,yz _⟩
     ·simp [SV.rel,SA.den,zbc]
     ·simp [SV.below,SA.below]
     ·refine (sat.drew).new (.arr elem j.size [] (grownCap w n.toNat 0 elem)) _ (fun x hx=>by cases hx) ⟨fun x hx=>(by cases hx),by simp,(Builtin.zeroCells (zval ρ j).cells n.toNat ++ Builtin.zeroCells (zval ρ j).cells (grownCap w n.toNat 0 elem - n.toNat)).toList,?_,(0,0),NoFr.zero _,?_⟩
      ·rw [Array.toList_append,qa,zfb (hΘ elem j hj) ρ,zfk,zfk,← qa8]
       simp [(hΘ elem j hj).len]
       rw [Nat.add_sub_cancel' hcap]
      ·simp
   ·exact hs.elim
  ·exact hs.elim
 ·exact hs.elim
theorem zii (hΘ:Θ.Ok P) {ts:List TypeId} {ty':TypeId} {x y:SV} {v u:Value} (hs:zhg Θ ts x y h nx K) (sat:Sat C ρ h nx w) (hr:x.rel ρ v) (hr':y.rel ρ u) :
  Yld P (Builtin.append_ ts.toArray ty' #[v,u]) C ρ nx w K:=by
 unfold zhg at hs
 split at hs
 ·exact zo2 hΘ hs sat hr hr'
 ·exact zoe hΘ hs sat hr hr'
theorem zps (hΘ:Θ.Ok P) {ts:List TypeId} {ty':TypeId} {x y:SV} {v u:Value} (hs:zlv Θ ts x y h nx K) (sat:Sat C ρ h nx w) (hr:x.rel ρ v) (hr':y.rel ρ u) :
  Yld P (Builtin.append_ ts.toArray ty' #[v,u]) C ρ nx w K:=by
 unfold zlv at hs
 split at hs
 ·exact zii hΘ hs sat (by simpa [SV.rel,SA.den] using hr) hr'
 ·exact zii hΘ hs sat hr hr'
end
section
variable {P:Program} {Θ:Tys} {C:Ctx} {ρ:Rho} {h:Hp} {nx:Nat} {w:World} {K:Kt}
def s_len (Θ:Tys) (ts:List TypeId) (x:SV) (h:Hp) (nx:Nat) (K:Kt):Prop:=
 match ts with
 |[t]=>match Θ t,x with
  |some ⟨.string,_,_,_⟩,.va (.str s)=>K (.va (.int .i64 s.length)) h nx
  |some ⟨.slice _,_,_,_⟩,.va (.slice _ _ _ _ _ len _)=>K (.va (.int .i64 len)) h nx
  |some ⟨.slice _,_,_,_⟩,.va .nilsl=>K (.va (.int .i64 0)) h nx
  |some ⟨.array n _,_,_,_⟩,_=>K (.va (.int .i64 n)) h nx
  |_,_=>False
 |_=>False
theorem zrn (hΘ:Θ.Ok P) {ts:List TypeId} {ty:TypeId} {x:SV} {v:Value} (hs:s_len Θ ts x h nx K) (sat:Sat C ρ h nx w) (hr:x.rel ρ v):YldS P (Builtin.len_ ts.toArray ty #[v]) ρ h nx w K:=by
 unfold s_len at hs
 split at hs
 ·rename_i t
  split at hs
  ·rename_i a b c s hi
   simp only [SV.rel,SA.den] at hr; subst hr
   refine YldS.mk sat (.int .i64 s.length) (.va (.int .i64 s.length)) ?_ rfl trivial hs
   have hsz:(⟨s.toArray⟩:ByteArray).size = s.length:=by simp [ByteArray.size]
   simp [Builtin.len_,zas hΘ hi,hsz,goInt]
  ·rename_i el a b c nil i k e sz len cap hi
   simp only [SV.rel,SA.den] at hr; subst hr
   refine YldS.mk sat (.int .i64 len) (.va (.int .i64 len)) ?_ rfl trivial hs
   simp [Builtin.len_,zas hΘ hi,goInt]
  ·rename_i el a b c hi
   simp only [SV.rel,SA.den] at hr; subst hr
   refine YldS.mk sat (.int .i64 0) (.va (.int .i64 0)) ?_ rfl trivial hs
   simp [Builtin.len_,zas hΘ hi,goInt]
  ·rename_i n el a b c hi
   refine YldS.mk sat (.int .i64 n) (.va (.int .i64 n)) ?_ rfl trivial hs
   simp [Builtin.len_,zas hΘ hi,goInt]
  ·exact hs.elim
 ·exact hs.elim
def s_cap (Θ:Tys) (ts:List TypeId) (x:SV) (h:Hp) (nx:Nat) (K:Kt):Prop:=
 match ts with
 |[t]=>match Θ t,x with
  |some ⟨.slice _,_,_,_⟩,.va (.slice _ _ _ _ _ _ cap)=>K (.va (.int .i64 cap)) h nx
  |some ⟨.slice _,_,_,_⟩,.va .nilsl=>K (.va (.int .i64 0)) h nx
  |_,_=>False
 |_=>False
theorem zxj (hΘ:Θ.Ok P) {ts:List TypeId} {ty:TypeId} {x:SV} {v:Value} (hs:s_cap Θ ts x h nx K) (sat:Sat C ρ h nx w) (hr:x.rel ρ v):YldS P (Builtin.cap_ ts.toArray ty #[v]) ρ h nx w K:=by
 unfold s_cap at hs
 split at hs
 ·rename_i t
  split at hs
  ·rename_i el a b c nil i k e sz len cap hi
   simp only [SV.rel,SA.den] at hr; subst hr
   refine YldS.mk sat (.int .i64 cap) (.va (.int .i64 cap)) ?_ rfl trivial hs
   simp [Builtin.cap_,zas hΘ hi,goInt]
  ·rename_i el a b c hi
   simp only [SV.rel,SA.den] at hr; subst hr
   refine YldS.mk sat (.int .i64 0) (.va (.int .i64 0)) ?_ rfl trivial hs
   simp [Builtin.cap_,zas hΘ hi,goInt]
  ·exact hs.elim
 ·exact hs.elim
def s_min (x y:SV) (h:Hp) (nx:Nat) (K:Kt):Prop:=
 match x,y with
 |.va (.int k a),.va (.int _ b)=>K (.va (.int k (if b < a then b else a))) h nx
 |_,_=>False
theorem zqy {ts:Array TypeId} {ty:TypeId} {x y:SV} {v u:Value} (hs:s_min x y h nx K) (sat:Sat C ρ h nx w) (hr:x.rel ρ v) (hr':y.rel ρ u):YldS P (Builtin.min_ ts ty #[v,u]) ρ h nx w K:=by
 unfold s_min at hs
 split at hs
 ·rename_i k a k' b
  simp only [SV.rel,SA.den] at hr hr'; subst hr; subst hr'
  exact YldS.mk sat _ (.va (.int k (if b < a then b else a))) (by simp [Builtin.min_,Builtin.min2]; rfl) rfl trivial hs
 ·exact hs.elim
def s_max (x y:SV) (h:Hp) (nx:Nat) (K:Kt):Prop:=
 match x,y with
 |.va (.int k a),.va (.int _ b)=>K (.va (.int k (if b > a then b else a))) h nx
 |_,_=>False
theorem zq8 {ts:Array TypeId} {ty:TypeId} {x y:SV} {v u:Value} (hs:s_max x y h nx K) (sat:Sat C ρ h nx w) (hr:x.rel ρ v) (hr':y.rel ρ u):YldS P (Builtin.max_ ts ty #[v,u]) ρ h nx w K:=by
 unfold s_max at hs
 split at hs
 ·rename_i k a k' b
  simp only [SV.rel,SA.den] at hr hr'; subst hr; subst hr'
  exact YldS.mk sat _ (.va (.int k (if b > a then b else a))) (by simp [Builtin.max_,Builtin.max2]; rfl) rfl trivial hs
 ·exact hs.elim
def bAnd (k:IntKind) (a b:Int):Int:=k.wrap ((BitVec.ofInt k.bits a &&& BitVec.ofInt k.bits b).toNat:Int)
def bOr (k:IntKind) (a b:Int):Int:=k.wrap ((BitVec.ofInt k.bits a ||| BitVec.ofInt k.bits b).toNat:Int)
def bXor (k:IntKind) (a b:Int):Int:=k.wrap ((BitVec.ofInt k.bits a ^^^ BitVec.ofInt k.bits b).toNat:Int)
def zmo (k:IntKind) (a b:Int):Int:=k.wrap ((BitVec.ofInt k.bits a &&& ~~~(BitVec.ofInt k.bits b)).toNat:Int)
def shlI (k:IntKind) (a b:Int):Int:=k.wrap (a * 2 ^ (min b.toNat k.bits))
def shrI (k:IntKind) (a b:Int):Int:=a.fdiv (2 ^ (min b.toNat k.bits))
@[irreducible] def AggEq (P:Program) (t:TypeId) (l m:List SA) (b:Bool):Prop:=
 ∀ (ρ:Rho) (w:World) (op:BinOp) (x y:Operand),(eqGuard op t x y (.agg (l.map (SA.den ρ)).toArray) (.agg (m.map (SA.den ρ)).toArray)).run P w = .ok () w ∧
  (Op.equal t (.agg (l.map (SA.den ρ)).toArray) (.agg (m.map (SA.den ρ)).toArray)).run P w = .ok b w
def s_bin (P:Program) (Θ:Tys) (op:BinOp) (t:TypeId) (x y:SV) (h:Hp) (nx:Nat) (K:Kt):Prop:=
 match x,y with
 |.va (.int k a),.va (.int k' b)=>match op with
  |.shl=>0 ≤ b ∧ K (.va (.int k (shlI k a b))) h nx
  |.shr=>0 ≤ b ∧ K (.va (.int k (shrI k a b))) h nx
  |op=>match decide (k = k') with
   |false=>False
   |true=>match op with
    |.add=>K (.va (.int k (k.wrap (a + b)))) h nx
    |.sub=>K (.va (.int k (k.wrap (a - b)))) h nx
    |.mul=>K (.va (.int k (k.wrap (a * b)))) h nx
    |.quo=>b ≠ 0 ∧ K (.va (.int k (k.wrap (a.tdiv b)))) h nx
    |.rem=>b ≠ 0 ∧ K (.va (.int k (a.tmod b))) h nx
    |.and=>K (.va (.int k (bAnd k a b))) h nx
    |.or=>K (.va (.int k (bOr k a b))) h nx
    |.xor=>K (.va (.int k (bXor k a b))) h nx
    |.andNot=>K (.va (.int k (zmo k a b))) h nx
    |.eql=>K (.va (.bool (decide (a = b)))) h nx
    |.neq=>K (.va (.bool (!decide (a = b)))) h nx
    |.lss=>K (.va (.bool (decide (a < b)))) h nx
    |.leq=>K (.va (.bool (decide (a ≤ b)))) h nx
    |.gtr=>K (.va (.bool (decide (b < a)))) h nx
    |.geq=>K (.va (.bool (decide (b ≤ a)))) h nx
    |_=>False
 |.va (.str a),.va (.str b)=>match op with
  |.add=>a.length + b.length ≤ 9223372036854775807 ∧ K (.va (.str (a ++ b))) h nx
  |.eql=>K (.va (.bool (a == b))) h nx
  |.neq=>K (.va (.bool (!(a == b)))) h nx
  |.lss=>K (.va (.bool (Op.bytesLess a b))) h nx
  |_=>False
 |.va (.lit a),.va (.bool b)=>boolOp op a b
 |.va (.bool a),.va (.lit b)=>boolOp op a b
 |.va (.bool a),.va (.bool b)=>boolOp op a b
 |.va (.lit a),.va (.lit b)=>boolOp op a b
 |.va (.slice n _ _ _ _ _ _),.va .nilsl=>nilOp op n
 |.va .nilsl,.va .nilsl=>nilOp op true
 |.agg l,.agg m=>match op with
  |.eql=>∃ b,AggEq P t l m b ∧ K (.va (.bool b)) h nx
  |.neq=>∃ b,AggEq P t l m b ∧ K (.va (.bool (!b))) h nx
  |_=>False
 |_,_=>False
where
 nilOp (op:BinOp) (n:Bool):Prop:=match Θ t with
  |some ⟨.slice _,_,_,_⟩=>match op with
   |.eql=>K (.va (.bool n)) h nx
   |.neq=>K (.va (.bool (!n))) h nx
   |_=>False
  |_=>False
 boolOp (op:BinOp) (a b:Bool):Prop:=match Θ t with
  |some ⟨.bool,_,_,_⟩=>match op with
   |.eql=>K (.va (.bool (a == b))) h nx
   |.neq=>K (.va (.bool (!(a == b)))) h nx
   |_=>False
  |_=>False
theorem toList_mk (s:List UInt8):(⟨s.toArray⟩:ByteArray).toList = s:=by simp
theorem za9 {op:BinOp} {t:TypeId} {xo yo:Operand} {v u r:Value} {sv:SV} (hg:(eqGuard op t xo yo v u).run P w = .ok () w) (hb:(binOp op t v u).run P w = .ok r w) (sat:Sat C ρ h nx w) (hr:sv.rel ρ r) (hbl:sv.below nx) (hk:K sv h nx) :
  YldS P (do eqGuard op t xo yo v u; binOp op t v u) ρ h nx w K:=
 YldS.mk sat r sv (by simp [hg,hb]) hr hbl hk
theorem zbx {op:BinOp} {t:TypeId} {xo yo:Operand} {k k':IntKind} {a b:Int}:(eqGuard op t xo yo (.int k a) (.int k' b)).run P w = .ok () w:=by
 unfold eqGuard; cases op<;>rfl
theorem zhw {op:BinOp} {t:TypeId} {xo yo:Operand} {a b:ByteArray}:(eqGuard op t xo yo (.string a) (.string b)).run P w = .ok () w:=by
 unfold eqGuard; cases op<;>rfl
theorem zle {op:BinOp} {t:TypeId} {xo yo:Operand} {a b:Bool}:(eqGuard op t xo yo (.bool a) (.bool b)).run P w = .ok () w:=by
 unfold eqGuard; cases op<;>rfl
theorem zlo {t:TypeId} {i:TI} (hΘ:Θ.Ok P) (hi:Θ t = some i) (hd:i.d = .bool) (a b:Bool) (w:World):(Op.equal t (.bool a) (.bool b)).run P w = .ok (a == b) w:=by
 have e:Op.maxDepth = 9999 + 1:=rfl
 unfold Op.equal
 rw [e,Op.equalIn]
 simp only [Sem.run_bind,zas hΘ hi,hd,Result.andThen_ok]
 rfl
theorem zhb (hΘ:Θ.Ok P) {op:BinOp} {t:TypeId} {xo yo:Operand} {a b:Bool} (hs:s_bin.boolOp Θ t h nx K op a b) (sat:Sat C ρ h nx w) :
  YldS P (do eqGuard op t xo yo (.bool a) (.bool b); binOp op t (.bool a) (.bool b)) ρ h nx w K:=by
 unfold s_bin.boolOp at hs
 split at hs
 ·rename_i i1 i2 i3 hi
  split at hs
  ·exact za9 zle (r:=.bool (a == b)) (by show (do pure (Value.bool (← Op.equal t (.bool a) (.bool b))):Sem Value).run P w = _; simp only [Sem.run_bind,zlo hΘ hi rfl,Result.andThen_ok,Sem.run_pure]) sat (sv:=.va (.bool (a == b))) rfl trivial hs
  ·exact za9 zle (r:=.bool (!(a == b))) (by show (do pure (Value.bool (!(← Op.equal t (.bool a) (.bool b)))):Sem Value).run P w = _; simp only [Sem.run_bind,zlo hΘ hi rfl,Result.andThen_ok,Sem.run_pure]) sat (sv:=.va (.bool (!(a == b)))) rfl trivial hs
  ·exact hs.elim
 ·exact hs.elim
theorem zjx {op:BinOp} {t:TypeId} {xo yo:Operand} {a b:Option Addr} {l c l' c':Nat}:(eqGuard op t xo yo (.slice a l c) (.slice b l' c')).run P w = .ok () w:=by
 unfold eqGuard; cases op<;>rfl
theorem zkf {t el:TypeId} {i:TI} (hΘ:Θ.Ok P) (hi:Θ t = some i) (hd:i.d = .slice el) (a:Option Addr) (l c:Nat) (w:World):(Op.equal t (.slice a l c) (.slice none 0 0)).run P w = .ok a.isNone w:=by
 have e:Op.maxDepth = 9999 + 1:=rfl
 unfold Op.equal
 rw [e,Op.equalIn]
 simp only [Sem.run_bind,zas hΘ hi,hd,Result.andThen_ok]
 cases a<;>rfl
theorem zsu (hΘ:Θ.Ok P) {op:BinOp} {t:TypeId} {xo yo:Operand} {n:Bool} {a:Option Addr} {l c:Nat} (hn:a.isNone = n) (hs:s_bin.nilOp Θ t h nx K op n) (sat:Sat C ρ h nx w) :
  YldS P (do eqGuard op t xo yo (.slice a l c) (.slice none 0 0); binOp op t (.slice a l c) (.slice none 0 0)) ρ h nx w K:=by
 subst hn
 unfold s_bin.nilOp at hs
 split at hs
 ·rename_i i1 i2 i3 i4 hi
  split at hs
  ·exact za9 zjx (r:=.bool a.isNone) (by show (do pure (Value.bool (← Op.equal t _ _)):Sem Value).run P w = _; simp only [Sem.run_bind,zkf hΘ hi rfl,Result.andThen_ok,Sem.run_pure]) sat (sv:=.va (.bool a.isNone)) rfl trivial hs
  ·exact za9 zjx (r:=.bool (!a.isNone)) (by show (do pure (Value.bool (!(← Op.equal t _ _))):Sem Value).run P w = _; simp only [Sem.run_bind,zkf hΘ hi rfl,Result.andThen_ok,Sem.run_pure]) sat (sv:=.va (.bool (!a.isNone))) rfl trivial hs
  ·exact hs.elim
 ·exact hs.elim
end
end Sx
