import Derived.Test.YtfnkamphhpldcaaGreatDoorK07
import Derived.OrdersHeld
set_option maxHeartbeats 64000000
namespace Sx
open Go
def SA.bB (n:Nat):SA → Bool
 |.ptr p=>Nat.ble (p.i + 1) n
 |.slice nil i ..=>Nat.ble (i + 1) n || nil
 |.fn _ cap=>cap.all fun p=>Nat.ble (p.i + 1) n
 |.iter i _=>Nat.ble (i + 1) n
 |.map i _=>Nat.ble (i + 1) n
 |_=>true
def SC.bB (n:Nat):SC → Bool
 |.va a=>a.bB n
 |.agg l=>l.all (SA.bB n)
def SV.bB (n:Nat):SV → Bool
 |.va a=>a.bB n
 |.agg l=>l.all (SA.bB n)
 |.tup l=>l.all (SC.bB n)
 |.junk=>true
theorem SA.bB_ok {n:Nat} {a:SA} (h:a.bB n = true):a.below n:=by
 cases a<;>simp only [SA.bB,SA.below] at *<;>first | trivial | exact nb h | skip
 ·rename_i nil i k e sz len cap
  simp only [y6] at h
  rcases h with h | h
  ·exact .inr (nb h)
  ·exact .inl h
 ·intro p hp
  exact nb (qo.1 h p hp)
theorem SV.bB_ok {n:Nat} {v:SV} (h:v.bB n = true):v.below n:=by
 cases v with
 |va a=>exact SA.bB_ok h
 |agg l=>exact fun a ha=>SA.bB_ok (qo.1 h a ha)
 |tup l=>
  intro c hc
  have:=qo.1 h c hc
  cases c with
  |va a=>exact SA.bB_ok this
  |agg l=>exact fun a ha=>SA.bB_ok (qo.1 this a ha)
 |junk=>trivial
def Out.bB (n:Nat):Out → Bool
 |.ret v=>v.bB n
 |.panic _=>true
theorem Out.bB_ok {n:Nat} {o:Out} (h:o.bB n = true):o.below n:=by
 cases o with
 |ret v=>exact SV.bB_ok h
 |panic v=>trivial
def SB.bB (n:Nat):SB → Bool
 |.cells _ l=>l.all (SA.bB n)
 |.arr _ _ L _=>L.all fun x=>x.all (SA.bB n)
 |.obj _=>true
theorem SB.bB_ok {n:Nat} {b:SB} (h:b.bB n = true):b.below n:=by
 cases b with
 |cells t l=>exact fun a ha=>SA.bB_ok (qo.1 h a ha)
 |arr t sz L room=>exact fun x hx a ha=>SA.bB_ok (qo.1 (qo.1 h x hx) a ha)
 |obj o=>trivial
theorem Sat.freeze {C:Ctx} {ρ:Rho} {h:Hp} {nx:Nat} {w:World} (S:Sat C ρ h nx w) {i:Nat} {e:Ent} {F:Fz} (he:lget h i = some e) (hp:e.plain = true) (hF:lget h 0 = some (.frz F)) (f:Nat → SB)
  (hf:∀ k,e.has k → (e.at k).ren (resP h) = f k) (hb:∀ k,e.has k → (f k).below 1) :
  ∃ F',Fz.le F F' ∧ (∀ k,e.has k → F (ρ i k) = none ∧ F' (ρ i k) = some (f k)) ∧ Sat C ρ (lput (lput h i (.lnk (ρ i))) 0 (.frz F')) nx w:=by
 classical
 have hi0:=S.ne0 he hp
 obtain ⟨Fs,hFs,hFb⟩:=S.fz
 rw [hF] at hFs; cases hFs
 let F':Fz:=fun x=>if hx:∃ k,e.has k ∧ ρ i k = x then some (f (Classical.choose hx)) else F x
 have none1:∀ k,e.has k → F (ρ i k) = none:=by
  intro k hk
  cases hz:F (ρ i k) with
  |none=>rfl
  |some B=>
   have h0:St.owns h 0 (ρ i k):=⟨_,hF,by simp [Ent.has,hz]⟩
   have:=S.inj _ _ _ _ h0 ⟨e,he,hk⟩ (S.id0 _)
   exact absurd this.1.symm hi0
 have at1:∀ k,e.has k → F' (ρ i k) = some (f k):=by
  intro k hk
  have hx:∃ k',e.has k' ∧ ρ i k' = ρ i k:=⟨k,hk,rfl⟩
  simp only [F']
  rw [dif_pos hx]
  have hc:=Classical.choose_spec hx
  have:=(S.inj _ _ _ _ ⟨e,he,hc.1⟩ ⟨e,he,hk⟩ hc.2).2
  rw [this]
 have cases1:∀ x B,F' x = some B → (∃ k,e.has k ∧ ρ i k = x ∧ B = f k) ∨ F x = some B:=by
  intro x B hB
  simp only [F'] at hB
  split at hB
  ·rename_i hx
   have hc:=Classical.choose_spec hx
   cases hB
   exact .inl ⟨_,hc.1,hc.2,rfl⟩
  ·exact .inr hB
 have le1:Fz.le F F':=by
  intro x B hB
  simp only [F']
  split
  ·rename_i hx
   obtain ⟨k,hk,rfl⟩:=hx
   rw [none1 k hk] at hB; cases hB
  ·exact hB
 have okf:∀ k,e.has k → ∀ o,(e.at k).ok ρ o → (f k).ok ρ o:=by
  intro k hk o ho
  rw [← hf k hk]
  refine (SB.ok_ren (resP h) ρ _ o).2 ?_
  rw [zm7 S]; exact ho
 refine ⟨F',le1,fun k hk=>⟨none1 k hk,at1 k hk⟩,?_⟩
 have look:∀ j x,lget (lput (lput h i (.lnk (ρ i))) 0 (.frz F')) j = some x → (j = 0 ∧ x = .frz F') ∨ (j = i ∧ x = .lnk (ρ i)) ∨ (j ≠ 0 ∧ j ≠ i ∧ lget h j = some x):=by
  intro j x hx
  by_cases hj:j = 0
  ·subst hj; rw [zaf] at hx; cases hx; exact .inl ⟨rfl,rfl⟩
  ·rw [zad _ _ _ _ hj] at hx
   by_cases hji:j = i
   ·subst hji; rw [zaf] at hx; cases hx; exact .inr (.inl ⟨rfl,rfl⟩)
   ·rw [zad _ _ _ _ hji] at hx; exact .inr (.inr ⟨hj,hji,hx⟩)
 -- what is owned was owned
 have own1:∀ j k,St.owns (lput (lput h i (.lnk (ρ i))) 0 (.frz F')) j k → ∃ j' k',St.owns h j' k' ∧ ρ j' k' = ρ j k ∧ ((j' = j ∧ k' = k) ∨ (j = 0 ∧ j' = i)):=by
  rintro j k ⟨x,hx,hk⟩
  rcases look j x hx with ⟨rfl,rfl⟩ | ⟨rfl,rfl⟩ | ⟨h1,h2,h3⟩
  ·obtain ⟨B,hB⟩:=qw.1 hk
   rcases cases1 k B hB with ⟨k',hk',he',_⟩ | hB'
   ·exact ⟨i,k',⟨e,he,hk'⟩,by rw [S.id0]; exact he',.inr ⟨rfl,rfl⟩⟩
   ·exact ⟨0,k,⟨_,hF,by simp [Ent.has,hB']⟩,rfl,.inl ⟨rfl,rfl⟩⟩
  ·exact hk.elim
  ·exact ⟨j,k,⟨x,h3,hk⟩,rfl,.inl ⟨rfl,rfl⟩⟩
 refine { lt:=?_,blk:=?_,wf:=?_,inj:=?_,anch:=S.anch,n0:=S.n0,n1:=S.n1,os:=S.os,tape:=S.tape,output:=S.output,size:=S.size,fr:=S.fr,own:=?_,fz:=⟨F',zaf _ _ _,?_⟩,id0:=S.id0,only:=?_,lnk:=?_ }
 ·intro j x hx
  rcases look j x hx with ⟨rfl,rfl⟩ | ⟨rfl,rfl⟩ | ⟨h1,h2,h3⟩
  ·exact S.pos
  ·exact S.lt _ _ he
  ·exact S.lt _ _ h3
 ·intro j x hx k hk
  rcases look j x hx with ⟨rfl,rfl⟩ | ⟨rfl,rfl⟩ | ⟨h1,h2,h3⟩
  ·obtain ⟨B,hB⟩:=qw.1 hk
   simp only [Ent.at,hB,ju]
   rw [S.id0]
   rcases cases1 k B hB with ⟨k',hk',he',rfl⟩ | hB'
   ·obtain ⟨o,ho,hok⟩:=S.blk _ e he k' hk'
    rw [he'] at ho
    exact ⟨o,ho,okf k' hk' o hok⟩
   ·obtain ⟨o,ho,hok⟩:=S.blk 0 _ hF k (by simp [Ent.has,hB'])
    simp only [Ent.at,hB',ju] at hok
    rw [S.id0] at ho
    exact ⟨o,ho,hok⟩
  ·exact hk.elim
  ·exact S.blk _ _ h3 k hk
 ·intro j x hx k hk
  rcases look j x hx with ⟨rfl,rfl⟩ | ⟨rfl,rfl⟩ | ⟨h1,h2,h3⟩
  ·obtain ⟨B,hB⟩:=qw.1 hk
   simp only [Ent.at,hB,ju]
   rcases cases1 k B hB with ⟨k',hk',he',rfl⟩ | hB'
   ·exact SB.below_mono S.pos (hb k' hk')
   ·exact SB.below_mono S.pos (hFb k B hB')
  ·exact hk.elim
  ·exact S.wf _ _ h3 k hk
 ·intro j k j' k' h1 h2 heq
  obtain ⟨a,b,o1,r1,c1⟩:=own1 j k h1
  obtain ⟨a',b',o2,r2,c2⟩:=own1 j' k' h2
  have:=S.inj _ _ _ _ o1 o2 (by rw [r1,r2]; exact heq)
  rcases c1 with ⟨rfl,rfl⟩ | ⟨rfl,rfl⟩<;>rcases c2 with ⟨rfl,rfl⟩ | ⟨rfl,rfl⟩
  ·exact this
  ·exfalso
   have hj:=this.1
   subst hj
   obtain ⟨x,hx,hk⟩:=h1
   rcases look _ x hx with ⟨h0,_⟩ | ⟨_,rfl⟩ | ⟨_,h2',_⟩
   ·exact hi0 h0
   ·exact hk.elim
   ·exact h2' rfl
  ·exfalso
   have hj:=this.1
   subst hj
   obtain ⟨x,hx,hk⟩:=h2
   rcases look _ x hx with ⟨h0,_⟩ | ⟨_,rfl⟩ | ⟨_,h2',_⟩
   ·exact hi0 h0
   ·exact hk.elim
   ·exact h2' rfl
  ·rw [S.id0,S.id0] at heq; exact ⟨rfl,heq⟩
 ·intro j k ho
  obtain ⟨a,b,o1,r1,c1⟩:=own1 j k ho
  have:=S.own a b o1
  rw [r1] at this
  rcases c1 with ⟨rfl,rfl⟩ | ⟨rfl,rfl⟩
  ·exact this
  ·exact .inr (this.resolve_left (fun h=>hi0 h.1))
 ·intro b B hB
  rcases cases1 b B hB with ⟨k',hk',he',rfl⟩ | hB'
  ·exact hb k' hk'
  ·exact hFb b B hB'
 ·intro j F1 hF1
  rcases look j _ hF1 with ⟨rfl,_⟩ | ⟨_,h⟩ | ⟨_,_,h3⟩
  ·rfl
  ·cases h
  ·exact S.only _ _ h3
 ·intro j b hl k
  rcases look j _ hl with ⟨_,h⟩ | ⟨rfl,h⟩ | ⟨_,_,h3⟩
  ·cases h
  ·cases h; rfl
  ·exact S.lnk _ _ h3 k
section
variable {P:Program} {h:Hp} {nx:Nat} {i:Nat} {e:Ent} {F:Fz}
theorem za0 {f:FuncId} {args:List SV} {K:Out → Hp → Nat → Prop} (i:Nat) (fb:Nat → SB) (he:lget h i = some e) (hF:lget h 0 = some (.frz F)) (hp:e.plain = true)
  (hf:∀ k,e.has k → (e.at k).ren (resP h) = fb k) (hb:∀ k,e.has k → (fb k).below 1)
  (hk:∀ b F',Fz.le F F' → (∀ k,e.has k → F' (b k) = some (fb k)) → za6 P f args (lput (lput h i (.lnk b)) 0 (.frz F')) nx K):za6 P f args h nx K:=by
 unfold za6 at *
 intro C ρ w vs S hr hbl
 obtain ⟨F',h1,h2,S'⟩:=S.freeze he hp hF fb hf hb
 exact hk (ρ i) F' h1 (fun k hk'=>(h2 k hk').2) C ρ w vs S' hr hbl
theorem zbl {n:Nat} {K0:Out → Fz → List (Nat × Ent) → Nat → Prop} {out:Out} (i:Nat) (fb:Nat → SB) (he:lget h i = some e) (hF:lget h 0 = some (.frz F)) (hp:e.plain = true)
  (hf:∀ k,e.has k → (e.at k).ren (resP h) = fb k) (hb:∀ k,e.has k → (fb k).below 1)
  (hk:∀ b F',Fz.le F F' → (∀ k,e.has k → F' (b k) = some (fb k)) → Cln n K0 out (lput (lput h i (.lnk b)) 0 (.frz F')) nx):Cln n K0 out h nx:=by
 unfold Cln at *
 intro C ρ w en hn S hr hbl
 obtain ⟨F',h1,h2,S'⟩:=S.freeze he hp hF fb hf hb
 exact hk (ρ i) F' h1 (fun k hk'=>(h2 k hk').2) C ρ w en hn S' hr hbl
theorem zi7 {c:Code} {st:St} {Q:SE → St → Prop} (i:Nat) (fb:Nat → SB) (he:lget st.h i = some e) (hF:lget st.h 0 = some (.frz F)) (hp:e.plain = true)
  (hf:∀ k,e.has k → (e.at k).ren (resP st.h) = fb k) (hb:∀ k,e.has k → (fb k).below 1)
  (hk:∀ b F',Fz.le F F' → (∀ k,e.has k → F' (b k) = some (fb k)) → WP P c { st with h:=lput (lput st.h i (.lnk b)) 0 (.frz F') } Q):WP P c st Q:=by
 unfold WP at *
 intro C ρ a w D
 obtain ⟨F',h1,h2,S'⟩:=D.sat.freeze he hp hF fb hf hb
 exact hk (ρ i) F' h1 (fun k hk'=>(h2 k hk').2) C ρ a w { sat:=S',nt:=D.nt,tm:=D.tm,tw:=D.tw,n0:=D.n0,df:=D.df,dw:=D.dw }
theorem borrow {f:FuncId} {args:List SV} {K:Out → Hp → Nat → Prop} (i:Nat) (fb:Nat → SB) (he:lget h i = some e) (hF:lget h 0 = some (.frz F)) (hp:e.plain = true)
  (hf:∀ k,e.has k → (e.at k).ren (resP h) = fb k) (hb:∀ k,e.has k → (fb k).below 1)
  (hk:∀ b F',Fz.le F F' → (∀ k,e.has k → F' (b k) = some (fb k)) → za6 P f args (lput (lput h i (.lnk b)) 0 (.frz F')) nx
   (fun out h' nx'=>∃ F2,lget h' 0 = some (.frz F2) ∧ Fz.le F' F2 ∧ lget h' i = some (.lnk b) ∧ (∀ k,e.has k → ∀ (ρ ρ':Rho) (o:Obj),(∀ j,j < nx → ρ' j = ρ j) → (fb k).ok ρ' o → (e.at k).ok ρ' o) ∧ K out (lput (lput h' i e) 0 (.frz F)) nx')):za6 P f args h nx K:=by
 unfold za6 at *
 intro C ρ w vs S hr hbl
 obtain ⟨F',h1,h2,S'⟩:=S.freeze he hp hF fb hf hb
 obtain ⟨hen,hcall⟩:=hk (ρ i) F' h1 (fun k hk'=>(h2 k hk').2) C ρ w vs S' hr hbl
 refine ⟨hen,hcall.mono ?_⟩
 rintro en w' ⟨out,h',nx',ρ',⟨F2,g0,gle,gi,gok,hK⟩,k2,S2,k4,k5,k6⟩
 refine ⟨out,_,nx',ρ',hK,k2,?_,k4,k5,k6⟩
 have hi0:=S.ne0 he hp
 obtain ⟨Fs,hFs,hFb⟩:=S.fz
 rw [hF] at hFs; cases hFs
 have hρi:ρ' i = ρ i:=k4 i (S.lt _ _ he)
 have look:∀ j x,lget (lput (lput h' i e) 0 (.frz F)) j = some x → (j = 0 ∧ x = .frz F) ∨ (j = i ∧ x = e) ∨ (j ≠ 0 ∧ j ≠ i ∧ lget h' j = some x):=by
  intro j x hx
  by_cases hj:j = 0
  ·subst hj; rw [zaf] at hx; cases hx; exact .inl ⟨rfl,rfl⟩
  ·rw [zad _ _ _ _ hj] at hx
   by_cases hji:j = i
   ·subst hji; rw [zaf] at hx; cases hx; exact .inr (.inl ⟨rfl,rfl⟩)
   ·rw [zad _ _ _ _ hji] at hx; exact .inr (.inr ⟨hj,hji,hx⟩)
 have f2:∀ k,e.has k → F2 (ρ i k) = some (fb k):=fun k hk'=>gle _ _ (h2 k hk').2
 have own1:∀ j k,St.owns (lput (lput h' i e) 0 (.frz F)) j k → (j ≠ i ∧ St.owns h' j k) ∨ (j = i ∧ e.has k ∧ St.owns h' 0 (ρ i k)):=by
  rintro j k ⟨x,hx,hk'⟩
  rcases look j x hx with ⟨rfl,rfl⟩ | ⟨rfl,rfl⟩ | ⟨q1,q2,q3⟩
  ·obtain ⟨B,hB⟩:=qw.1 hk'
   exact .inl ⟨Ne.symm hi0,_,g0,by simp [Ent.has,gle k B (h1 k B hB)]⟩
  ·exact .inr ⟨rfl,hk',_,g0,by simp [Ent.has,f2 k hk']⟩
  ·exact .inl ⟨q2,x,q3,hk'⟩
 have own0:∀ k,St.owns (lput (lput h' i e) 0 (.frz F)) 0 k → (F k).isSome = true:=by
  rintro k ⟨x,hx,hk'⟩
  rw [zaf] at hx; cases hx; exact hk'
 refine { lt:=?_,blk:=?_,wf:=?_,inj:=?_,anch:=S2.anch,n0:=S2.n0,n1:=S2.n1,os:=S2.os,tape:=S2.tape,output:=S2.output,size:=S2.size,fr:=S2.fr,own:=?_,fz:=⟨F,zaf _ _ _,hFb⟩,id0:=S2.id0,only:=?_,lnk:=?_ }
 ·intro j x hx
  rcases look j x hx with ⟨rfl,rfl⟩ | ⟨rfl,rfl⟩ | ⟨q1,q2,q3⟩
  ·exact S2.pos
  ·exact S2.lt _ _ gi
  ·exact S2.lt _ _ q3
 ·intro j x hx k hk'
  rcases look j x hx with ⟨rfl,rfl⟩ | ⟨rfl,rfl⟩ | ⟨q1,q2,q3⟩
  ·obtain ⟨B,hB⟩:=qw.1 hk'
   have hB2:=gle k B (h1 k B hB)
   obtain ⟨o,ho,hok⟩:=S2.blk 0 _ g0 k (by simp [Ent.has,hB2])
   simp only [Ent.at,hB2,hB,ju] at hok ⊢
   exact ⟨o,ho,hok⟩
  ·obtain ⟨o,ho,hok⟩:=S2.blk 0 _ g0 (ρ j k) (by simp [Ent.has,f2 k hk'])
   simp only [Ent.at,f2 k hk',ju] at hok
   rw [S2.id0] at ho
   refine ⟨o,by rw [hρi]; exact ho,?_⟩
   exact gok k hk' ρ ρ' o k4 hok
  ·exact S2.blk _ _ q3 k hk'
 ·intro j x hx k hk'
  rcases look j x hx with ⟨rfl,rfl⟩ | ⟨rfl,rfl⟩ | ⟨q1,q2,q3⟩
  ·obtain ⟨B,hB⟩:=qw.1 hk'
   simp only [Ent.at,hB,ju]
   exact SB.below_mono S2.pos (hFb k B hB)
  ·exact SB.below_mono k5 (S.wf _ _ he k hk')
  ·exact S2.wf _ _ q3 k hk'
 ·intro j k j' k' o1 o2 heq
  rcases own1 j k o1 with ⟨q1,q2⟩ | ⟨rfl,q2,q3⟩<;>rcases own1 j' k' o2 with ⟨r1,r2⟩ | ⟨rfl,r2,r3⟩
  ·exact S2.inj _ _ _ _ q2 r2 heq
  ·have:=S2.inj _ _ _ _ q2 r3 (by rw [heq,S2.id0,hρi])
   have hj:=this.1
   subst hj
   have hk2:=this.2
   subst hk2
   have:=own0 _ o1
   rw [(h2 k' r2).1] at this; cases this
  ·have:=S2.inj _ _ _ _ r2 q3 (by rw [← heq,S2.id0,hρi])
   have hj:=this.1
   subst hj
   have hk2:=this.2
   subst hk2
   have:=own0 _ o2
   rw [(h2 k q2).1] at this; cases this
  ·rw [hρi] at heq
   exact S.inj _ _ _ _ ⟨e,he,q2⟩ ⟨e,he,r2⟩ heq
 ·intro j k o1
  rcases own1 j k o1 with ⟨q1,q2⟩ | ⟨rfl,q2,q3⟩
  ·exact S2.own _ _ q2
  ·rw [hρi]; exact S.own _ _ ⟨e,he,q2⟩
 ·intro j F1 hF1
  rcases look j _ hF1 with ⟨rfl,_⟩ | ⟨rfl,h⟩ | ⟨_,_,h3⟩
  ·rfl
  ·rw [← h] at hp; cases hp
  ·exact S2.only _ _ h3
 ·intro j b hl k
  rcases look j _ hl with ⟨_,h⟩ | ⟨rfl,h⟩ | ⟨_,_,h3⟩
  ·cases h
  ·rw [← h] at hp; cases hp
  ·exact S2.lnk _ _ h3 k
end
def SA.z:SA → Bool
 |.ptr p=>Nat.beq p.i 0
 |.slice _ i ..=>Nat.beq i 0
 |.fn _ cap=>cap.all fun p=>Nat.beq p.i 0
 |.iter i _=>Nat.beq i 0
 |.map i _=>Nat.beq i 0
 |_=>true
def SC.z:SC → Bool
 |.va a=>a.z
 |.agg l=>l.all SA.z
def SV.z:SV → Bool
 |.va a=>a.z
 |.agg l=>l.all SA.z
 |.tup l=>l.all SC.z
 |.junk=>true
def Out.z:Out → Bool
 |.ret v=>v.z
 |.panic _=>true
theorem SA.z_below {a:SA} (h:a.z = true):a.below 1:=by
 cases a with
 |ptr p=>have:=qg (show Nat.beq p.i 0 = true from h); show p.i < 1; omega
 |slice nil i k e sz len cap=>have:=qg (show Nat.beq i 0 = true from h); right; omega
 |fn f cap=>
  intro p hp
  have:=qg (qo.1 (show (cap.all fun p=>Nat.beq p.i 0) = true from h) p hp); omega
 |iter i k=>have:=qg (show Nat.beq i 0 = true from h); show i < 1; omega
 |map i k=>have:=qg (show Nat.beq i 0 = true from h); show i < 1; omega
 |_=>trivial
theorem SV.z_below {v:SV} (h:v.z = true):v.below 1:=by
 cases v with
 |va a=>exact SA.z_below h
 |agg l=>exact fun a ha=>SA.z_below (qo.1 h a ha)
 |tup l=>
  intro c hc
  have:=qo.1 h c hc
  cases c with
  |va a=>exact SA.z_below this
  |agg l=>exact fun a ha=>SA.z_below (qo.1 this a ha)
 |junk=>trivial
theorem Out.z_below {o:Out} (h:o.z = true):o.below 1:=by
 cases o with
 |ret v=>exact SV.z_below h
 |panic v=>trivial
theorem zdl {α:Type} {f:α → α}:∀ {l:List α},(∀ a ∈ l,f a = a) → l.map f = l
 |[],_=>rfl
 |a :: r,h=>by simp only [qx]; rw [h a (by simp),zdl (fun a ha=>h a (by simp [ha]))]
theorem SA.ren_id {a:SA} {μ:Mu} (h:a.z = true ∨ ∀ i k,μ i k = (i,k)) (h0:∀ k,μ 0 k = (0,k)):a.ren μ = a:=by
 have key:∀ i k,(Nat.beq i 0 = true ∨ ∀ i k,μ i k = (i,k)) → μ i k = (i,k):=by
  intro i k h
  rcases h with h | h
  ·rw [qg h]; exact h0 k
  ·exact h i k
 cases a with
 |ptr p=>obtain ⟨i,k,e,sz,o⟩:=p; simp [SA.ren,Pl.ren,key i k h]
 |slice nil i k e sz len cap=>simp [SA.ren,key i k h]
 |fn f cap=>
  simp only [SA.ren]
  congr 1
  refine zdl fun p hp=>?_
  obtain ⟨i,k,e,sz,o⟩:=p
  have:Nat.beq i 0 = true ∨ ∀ i k,μ i k = (i,k):=h.imp (fun h=>qo.1 (show (cap.all fun p=>Nat.beq p.i 0) = true from h) _ hp) id
  simp [Pl.ren,key i k this]
 |iter i k=>simp [SA.ren,key i k h]
 |map i k=>simp [SA.ren,key i k h]
 |_=>rfl
theorem SV.ren_id {v:SV} {μ:Mu} (h:v.z = true ∨ ∀ i k,μ i k = (i,k)) (h0:∀ k,μ 0 k = (0,k)):v.ren μ = v:=by
 cases v with
 |va a=>simp only [SV.ren]; rw [SA.ren_id h h0]
 |agg l=>simp only [SV.ren]; rw [zdl fun a ha=>SA.ren_id (h.imp (fun h=>qo.1 h a ha) id) h0]
 |tup l=>
  simp only [SV.ren]
  rw [zdl fun c hc=>?_]
  have h':c.z = true ∨ ∀ i k,μ i k = (i,k):=h.imp (fun h=>qo.1 (show l.all SC.z = true from h) _ hc) id
  cases c with
  |va a=>simp only [SC.ren]; rw [SA.ren_id h' h0]
  |agg l=>simp only [SC.ren]; rw [zdl fun a ha=>SA.ren_id (h'.imp (fun h=>qo.1 (show l.all SA.z = true from h) a ha) id) h0]
 |junk=>rfl
theorem Out.ren_id {o:Out} {μ:Mu} (h:o.z = true ∨ ∀ i k,μ i k = (i,k)) (h0:∀ k,μ 0 k = (0,k)):o.ren μ = o:=by
 cases o with
 |ret v=>simp only [Out.ren]; rw [SV.ren_id h h0]
 |panic v=>rfl
theorem zmn (i k:Nat):sig [] i k = (i,k):=rfl
theorem zru:∀ l:List SV,ze1 (sig []) l = l
 |[]=>rfl
 |s :: r=>by simp only [ze1]; rw [SV.ren_id (.inr zmn) (zmn 0),zru r]
def FoK (F:Fz) (Q:Out → Fz → Prop):Out → Fz → List (Nat × Ent) → Nat → Prop:=fun o F' h m=>Fz.le F F' ∧ h = [] ∧ m = 1 ∧ o.z = true ∧ Q o F'
def Fo (P:Program) (F:Fz) (f:FuncId) (args:List SV) (Q:Out → Fz → Prop):Prop:=za6 P f args [[(0,.frz F)]] 1 (Cln 1 (FoK F Q))
def Pu (P:Program) (f:FuncId) (args:List SV) (v:SV):Prop:=∀ F,Fo P F f args fun o F'=>o = .ret v ∧ F' = F
theorem endFo {F F1:Fz} {Q:Out → Fz → Prop} {u:Out} {h:Hp} {nx:Nat} (out:Out) (F':Fz) (hF:lget h 0 = some (.frz F1)) (hle:Fz.le F F') (hle':Fz.le F' F1) (hq:Q out F') (ho:outE out (u.ren (resP h))) (hb:out.z = true) :
  Cln 1 (FoK F Q) u h nx:=
 clean [] out F' [] 1 ⟨hle,rfl,rfl,hb,hq⟩ (by rw [Out.ren_id (.inr zmn) (zmn 0)]; exact ho) rfl rfl (Out.z_below hb) trivial ⟨by simp only [entE,aget,Ent.ren]; rw [hF]; exact hle',tv⟩
theorem endPu {F F1:Fz} {v:SV} {u:Out} {h:Hp} {nx:Nat} (hF:lget h 0 = some (.frz F1)) (hle:Fz.le F F1) (ho:outE (.ret v) (u.ren (resP h))) (hb:v.z = true) :
  Cln 1 (FoK F fun o F'=>o = .ret v ∧ F' = F) u h nx:=
 endFo (.ret v) F hF (Fz.r F) hle ⟨rfl,rfl⟩ ho hb
theorem Fo.ct {P:Program} {F:Fz} {f:FuncId} {args:List SV} {Q:Out → Fz → Prop} (h:Fo P F f args Q):Ct P f args F [] 1 fun o F' h m=>h = [] ∧ m = 1 ∧ o.z = true ∧ Q o F':=h
theorem useFo {P:Program} {F:Fz} {f:FuncId} {args0 args:List SV} {Q:Out → Fz → Prop} {H:Hp} {NX:Nat} {K:Out → Hp → Nat → Prop} (hc:Fo P F f args0 Q) (hF:lget H 0 = some (.frz F)) (hargs:argsE args0 (ze1 (resP H) args)) (hb:(args0.all SV.z) = true)
  (hk:∀ out F',Fz.le F F' → Q out F' → K out (lput H 0 (.frz F')) NX):za6 P f args H NX K:=by
 refine use hc.ct [] hF (by rw [zru]; exact hargs) rfl trivial (fun s hs=>SV.z_below (qo.1 hb s hs)) trivial ?_
 rintro out0 F0 _ _ hle ⟨rfl,rfl,hz,hq⟩
 have e:Out.ren (tau [] 1 NX) out0 = out0:=Out.ren_id (.inl hz) (fun k=>rfl)
 rw [e]
 exact hk out0 F0 hle hq
theorem usePu {P:Program} {F:Fz} {f:FuncId} {args0 args:List SV} {v:SV} {H:Hp} {NX:Nat} {K:Out → Hp → Nat → Prop} (hc:Fo P F f args0 fun o F'=>o = .ret v ∧ F' = F) (hF:lget H 0 = some (.frz F)) (hargs:argsE args0 (ze1 (resP H) args)) (hb:(args0.all SV.z) = true)
  (hk:K (.ret v) (lput H 0 (.frz F)) NX):za6 P f args H NX K:=by
 refine useFo hc hF hargs hb ?_
 rintro out F' _ ⟨rfl,rfl⟩
 exact hk
theorem fo_of {P:Program} {Θ:Tys} (hΘ:Θ.Ok P) {f:FuncId} {fn:Func} {c:Code} {args:List SV} {F:Fz} {Q:Out → Fz → Prop} (hf:P.funcs[f]? = some fn) (hb:fn.body = some c) (hn:(fn.name == "runtime.NumGoroutine") = false)
  (nt:Nat) (rs:List ResultVar) (hnt:fn.ntmps = nt) (hrs:fn.results.toList = rs) (hl:Nat.ble args.length nt = true)
  (hx:sx P Θ c ⟨[zeh 0 args],[[(0,.frz F)]],1,1,nt,[]⟩ (endQ Θ rs (Cln 1 (FoK F Q)))):Fo P F f args Q:=
 zg1 hΘ hf hb hn nt rs hnt hrs hl (zci hΘ _ _ _ hx)
theorem ct_of {P:Program} {Θ:Tys} (hΘ:Θ.Ok P) {f:FuncId} {fn:Func} {c:Code} {args:List SV} {F:Fz} {hp:List (Nat × Ent)} {n:Nat} {K0:Out → Fz → List (Nat × Ent) → Nat → Prop} (hf:P.funcs[f]? = some fn) (hb:fn.body = some c) (hn:(fn.name == "runtime.NumGoroutine") = false)
  (nt:Nat) (rs:List ResultVar) (hnt:fn.ntmps = nt) (hrs:fn.results.toList = rs) (hl:Nat.ble args.length nt = true)
  (hx:sx P Θ c ⟨[zeh 0 args],[(0,.frz F) :: hp],n,n,nt,[]⟩ (endQ Θ rs (Cln n (fun o F0 h0 n0=>Fz.le F F0 ∧ K0 o F0 h0 n0)))):Ct P f args F hp n K0:=
 zg1 hΘ hf hb hn nt rs hnt hrs hl (zci hΘ _ _ _ hx)
def SlR {α:Type} (F:Fz) (t sz:Nat) (R:List SA → α → Prop) (a:SA) (l:List α):Prop:=
 ∃ nil b e cap L room,a = .slice nil 0 b e sz l.length cap ∧ (nil = true → l = []) ∧ (nil = false → F b = some (.arr t sz L room)) ∧ e + l.length ≤ L.length ∧
  ∀ (k:Nat) x,l[k]? = some x → ∃ y,L[e + k]? = some y ∧ R y x
def Sl {α:Type} (F:Fz) (t sz:Nat) (enc:α → List SA) (a:SA) (l:List α):Prop:=
 ∃ nil b e cap L room,a = .slice nil 0 b e sz l.length cap ∧ (nil = true → l = []) ∧ (nil = false → F b = some (.arr t sz L room)) ∧ e + l.length ≤ L.length ∧ (L.drop e).take l.length = l.map enc
theorem SlR.mono {α:Type} {F F':Fz} {t sz:Nat} {R R':List SA → α → Prop} {a:SA} {l:List α} (h:SlR F t sz R a l) (hle:Fz.le F F') (hr:∀ y x,R y x → R' y x):SlR F' t sz R' a l:=by
 obtain ⟨nil,b,e,cap,L,room,h1,h2,h3,h4,h5⟩:=h
 refine ⟨nil,b,e,cap,L,room,h1,h2,fun hn=>hle _ _ (h3 hn),h4,fun k x hx=>?_⟩
 obtain ⟨y,hy,hR⟩:=h5 k x hx
 exact ⟨y,hy,hr y x hR⟩
theorem Sl.mono {α:Type} {F F':Fz} {t sz:Nat} {enc:α → List SA} {a:SA} {l:List α} (h:Sl F t sz enc a l) (hle:Fz.le F F'):Sl F' t sz enc a l:=by
 obtain ⟨nil,b,e,cap,L,room,h1,h2,h3,h4⟩:=h
 exact ⟨nil,b,e,cap,L,room,h1,h2,fun hn=>hle _ _ (h3 hn),h4⟩
theorem Sl.nil {α:Type} {F:Fz} {t sz:Nat} {enc:α → List SA}:Sl F t sz enc (.slice true 0 0 0 sz 0 0) []:=⟨true,0,0,0,[],0,rfl,fun _=>rfl,(fun h=>by cases h),by simp,rfl⟩
theorem Sl.new {α:Type} {F:Fz} {t sz:Nat} {enc:α → List SA} {b cap room:Nat} {l:List α} (hF:F b = some (.arr t sz (l.map enc) room)):Sl F t sz enc (.slice false 0 b 0 sz l.length cap) l:=
 ⟨false,b,0,cap,_,room,rfl,(fun h=>by cases h),fun _=>hF,by simp,by simp [qm]⟩
theorem Sl.lt {α:Type} {nil:Bool} {l:List α} (hn:nil = true → l = []) {k:Nat} (hk:k < l.length):nil = false:=by
 cases nil with
 |false=>rfl
 |true=>rw [hn rfl] at hk; cases hk
theorem Sl.at {α:Type} {enc:α → List SA} {e:Nat} {L:List (List SA)} {l:List α} (h:(L.drop e).take l.length = l.map enc) {k:Nat} (hk:k < l.length):L[e + (k:Int).toNat]? = some (enc l[k]):=by
 have h1:((L.drop e).take l.length)[k]? = some (enc l[k]):=by rw [h]; simp [hk]
 rw [qau hk,qab] at h1
 simpa using h1
def memN (i:Nat):List Nat → Bool
 |[]=>false
 |j :: r=>Nat.beq i j || memN i r
def nj (K:SV → Prop):SV → Prop
 |.va a=>K (.va a)
 |.agg l=>K (.agg l)
 |.tup l=>K (.tup l)
 |.junk=>False
theorem zuu {K:SV → Prop} {v:SV} (h:nj K v):K v ∧ v ≠ .junk:=by
 cases v<;>first | exact ⟨h,by simp⟩ | exact h.elim
def sval (P:Program) (Θ:Tys) (ids:List Nat) (t:List (List (Nat × SV))) (o:Op) (h:Hp) (nx:Nat) (K:SV → Prop):Prop:=
 match o with
 |.move x=>K (ev t x)
 |.assign x=>K (ev t x)
 |.pick c a b=>zj2 (ev t c) (ev t a) (ev t b) h nx fun v _ _=>nj K v
 |.load ty a=>(match ev t a with
  |.va (.ptr p)=>memN p.i (0 :: ids) = true ∧ ze6 Θ ty (.va (.ptr p)) h nx fun v _ _=>nj K v
  |_=>False)
 |.nilCheck x=>(match ev t x with
  |.va (.ptr p)=>K (.va (.ptr p))
  |.va (.fn (.func f) c)=>K (.va (.fn (.func f) c))
  |_=>False)
 |.binOp op ty x y _=>s_bin P Θ op ty (ev t x) (ev t y) h nx fun v _ _=>nj K v
 |.unOp op _ x=>s_un op (ev t x) h nx fun v _ _=>nj K v
 |.convert s d x=>(match ev t x with
  |.va (.int k n)=>zoy Θ s d (.va (.int k n)) h nx fun v _ _=>nj K v
  |_=>False)
 |.slice ty x lo hi mx=>zgz Θ ty (ev t x) (evO t lo) (evO t hi) (evO t mx) h nx fun v _ _=>nj K v
 |.fieldAddr ty x f=>zc7 Θ ty (ev t x) f h nx fun v _ _=>nj K v
 |.field ty x f=>zgs Θ ty (ev t x) f h nx fun v _ _=>nj K v
 |.indexAddr ty x i=>zc6 Θ ty (ev t x) (ev t i) h nx fun v _ _=>nj K v
 |.index ty x i=>zg0 Θ ty (ev t x) (ev t i) h nx fun v _ _=>nj K v
 |.extract x i=>(match ev t x with
  |.tup l=>(match nth l i with
   |some c=>K c.v
   |none=>False)
  |_=>False)
 |.call c=>(match c.callee with
  |.builtin b=>(match b,evL t c.args.toList with
   |.len,[x]=>s_len Θ c.argTypes.toList x h nx fun v _ _=>nj K v
   |.min,[x,y]=>s_min x y h nx fun v _ _=>nj K v
   |.max,[x,y]=>s_max x y h nx fun v _ _=>nj K v
   |_,_=>False)
  |_=>False)
 |_=>False
section
variable {P:Program} {Θ:Tys} {h h1:Hp} {nx nx1:Nat} {K:SV → Prop}
theorem z1t {c a b:SV} (hs:zj2 c a b h nx fun v _ _=>K v):∃ sv,K sv ∧ zj2 c a b h1 nx1 fun v _ _=>v = sv:=by
 unfold zj2 at *
 split at hs
 ·exact ⟨_,hs,rfl⟩
 ·exact ⟨_,hs,rfl⟩
 ·rename_i c
  split at hs
  ·exact ⟨_,hs,rfl⟩
  ·exact ⟨_,hs,rfl⟩
  ·exact ⟨_,hs,rfl⟩
  ·exact ⟨_,hs,rfl⟩
  ·cases c with
   |true=>exact ⟨_,hs.1 rfl,fun _=>rfl,(fun h=>by cases h)⟩
   |false=>exact ⟨_,hs.2 rfl,(fun h=>by cases h),fun _=>rfl⟩
 ·exact hs.elim
theorem z4w {op:BinOp} {t:TypeId} {x y:SV} (hs:s_bin P Θ op t x y h nx fun v _ _=>K v):∃ sv,K sv ∧ s_bin P Θ op t x y h1 nx1 fun v _ _=>v = sv:=by
 have hbool:∀ a b,s_bin.boolOp Θ t h nx (fun v _ _=>K v) op a b → ∃ sv,K sv ∧ s_bin.boolOp Θ t h1 nx1 (fun v _ _=>v = sv) op a b:=by
  intro a b hs
  unfold s_bin.boolOp at *
  split at hs
  ·split at hs
   ·exact ⟨_,hs,rfl⟩
   ·exact ⟨_,hs,rfl⟩
   ·exact hs.elim
  ·exact hs.elim
 have hnil:∀ a,s_bin.nilOp Θ t h nx (fun v _ _=>K v) op a → ∃ sv,K sv ∧ s_bin.nilOp Θ t h1 nx1 (fun v _ _=>v = sv) op a:=by
  intro a hs
  unfold s_bin.nilOp at *
  split at hs
  ·split at hs
   ·exact ⟨_,hs,rfl⟩
   ·exact ⟨_,hs,rfl⟩
   ·exact hs.elim
  ·exact hs.elim
 unfold s_bin at *
 split at hs
 ·split at hs
  ·exact ⟨_,hs.2,hs.1,rfl⟩
  ·exact ⟨_,hs.2,hs.1,rfl⟩
  ·split at hs
   ·exact hs.elim
   ·rename_i g1 g2 g3 hk
    split at hs
    all_goals first
     |exact hs.elim
     |exact ⟨_,hs,rfl⟩
     |exact ⟨_,hs.2,hs.1,rfl⟩
 ·split at hs
  ·exact ⟨_,hs.2,hs.1,rfl⟩
  ·exact ⟨_,hs,rfl⟩
  ·exact ⟨_,hs,rfl⟩
  ·exact ⟨_,hs,rfl⟩
  ·exact hs.elim
 ·exact hbool _ _ hs
 ·exact hbool _ _ hs
 ·exact hbool _ _ hs
 ·exact hbool _ _ hs
 ·exact hnil _ hs
 ·exact hnil _ hs
 ·split at hs
  ·obtain ⟨b,h1,h2⟩:=hs; exact ⟨_,h2,b,h1,rfl⟩
  ·obtain ⟨b,h1,h2⟩:=hs; exact ⟨_,h2,b,h1,rfl⟩
  ·exact hs.elim
 ·exact hs.elim
theorem z6z {op:UnOp} {x:SV} (hs:s_un op x h nx fun v _ _=>K v):∃ sv,K sv ∧ s_un op x h1 nx1 fun v _ _=>v = sv:=by
 unfold s_un at *
 split at hs<;>first | exact hs.elim | exact ⟨_,hs,rfl⟩
theorem zfg {len cap:Nat} {lo hi:Option Int} {F:Nat → Nat → SV} (hs:bnds len cap lo hi fun l m=>K (F l m)):∃ sv,K sv ∧ bnds len cap lo hi fun l m=>F l m = sv:=by
 unfold bnds at *
 split at hs
 ·split at hs
  ·exact ⟨_,hs,rfl⟩
  ·exact ⟨_,hs.2,hs.1,rfl⟩
 ·obtain ⟨g,hs⟩:=hs
  split at hs
  ·exact ⟨_,hs,g,rfl⟩
  ·exact ⟨_,hs.2,g,hs.1,rfl⟩
theorem zxb {t:TypeId} {x:SV} {lo hi mx:Option SV} (hs:zgz Θ t x lo hi mx h nx fun v _ _=>K v):∃ sv,K sv ∧ zgz Θ t x lo hi mx h1 nx1 fun v _ _=>v = sv:=by
 unfold zgz at *
 split at hs
 ·exact hs.elim
 ·split at hs
  ·rename_i l' h' e1 e2
   split at hs
   ·rename_i e3
    obtain ⟨sv,g1,g2⟩:=zfg hs
    exact ⟨sv,g1,by simp only [e1,e2,e3]; exact g2⟩
   ·rename_i elem a b c nil i k e sz len cap e3
    split at hs
    ·rename_i j e4
     split at hs
     ·rename_i e5
      obtain ⟨sv,g1,g2⟩:=zfg hs
      exact ⟨sv,g1,by simp only [e1,e2,e3,e4,e5]; exact g2⟩
     ·rename_i e5
      split at hs
      ·rename_i e6
       obtain ⟨sv,g1,g2⟩:=zfg hs
       exact ⟨sv,g1,by simp only [e1,e2,e3,e4,e5,e6]; exact g2⟩
      ·rename_i e6
       split at hs
       ·obtain ⟨sv,g1,g2⟩:=zfg hs
        exact ⟨sv,g1,by simp only [e1,e2,e3,e4,e5,e6]; exact g2⟩
       ·exact hs.elim
    ·exact hs.elim
   ·rename_i e3
    split at hs
    ·rename_i e4
     obtain ⟨sv,g1,g2⟩:=zfg (F:=fun _ _=>SV.va .nilsl) hs
     exact ⟨sv,g1,by simp only [e1,e2,e3,e4]; exact g2⟩
    ·exact hs.elim
   ·rename_i e3
    split at hs
    ·rename_i e4
     split at hs
     ·rename_i e5
      obtain ⟨sv,g1,g2⟩:=zfg hs
      exact ⟨sv,g1,by simp only [e1,e2,e3,e4,e5]; exact g2⟩
     ·exact hs.elim
    ·exact hs.elim
   ·rename_i e3
    split at hs
    ·rename_i e4
     obtain ⟨sv,g1,g2⟩:=zfg hs
     exact ⟨sv,g1,by simp only [e1,e2,e3,e4]; exact g2⟩
    ·exact hs.elim
   ·exact hs.elim
  ·exact hs.elim
theorem zlu {t:TypeId} {x:SV} {f:Nat} (hs:zc7 Θ t x f h nx fun v _ _=>K v):∃ sv,K sv ∧ zc7 Θ t x f h1 nx1 fun v _ _=>v = sv:=by
 unfold zc7 at *
 split at hs
 ·rename_i e1
  split at hs
  ·rename_i e2
   split at hs
   ·rename_i e3
    split at hs
    ·exact hs.elim
    ·rename_i e4
     exact ⟨_,hs,by simp only [e1,e2,e3,e4]⟩
   ·exact hs.elim
  ·exact hs.elim
 ·exact hs.elim
theorem zt2 {t:TypeId} {x:SV} {f:Nat} (hs:zgs Θ t x f h nx fun v _ _=>K v):∃ sv,K sv ∧ zgs Θ t x f h1 nx1 fun v _ _=>v = sv:=by
 unfold zgs at *
 split at hs
 ·rename_i e1
  split at hs
  ·rename_i e2
   split at hs
   ·rename_i e3
    split at hs
    ·rename_i e4
     split at hs
     ·rename_i e5
      exact ⟨_,hs,by simp only [e1,e2,e3,e4,e5]⟩
     ·rename_i e5
      split at hs
      ·exact ⟨_,hs,by simp only [e1,e2,e3,e4,e5]⟩
      ·exact hs.elim
    ·exact hs.elim
   ·exact hs.elim
  ·exact hs.elim
 ·exact hs.elim
theorem zm6 {t:TypeId} {x y:SV} (hs:zc6 Θ t x y h nx fun v _ _=>K v):∃ sv,K sv ∧ zc6 Θ t x y h1 nx1 fun v _ _=>v = sv:=by
 unfold zc6 at *
 split at hs
 ·rename_i e1
  split at hs
  ·rename_i e2
   obtain ⟨g,hs⟩:=hs
   split at hs
   ·rename_i e3
    exact ⟨_,hs,by simp only [e1,e2,e3]; exact ⟨g,tv⟩⟩
   ·rename_i e3
    exact ⟨_,hs,by simp only [e1,e2,e3]; exact ⟨g,tv⟩⟩
  ·exact hs.elim
 ·rename_i e1
  split at hs
  ·rename_i e2
   split at hs
   ·rename_i e3
    obtain ⟨g1,g2,hs⟩:=hs
    exact ⟨_,hs,by simp only [e1,e2,e3]; exact ⟨g1,g2,tv⟩⟩
   ·rename_i e3
    split at hs
    ·rename_i e4
     obtain ⟨g1,g2,hs⟩:=hs
     exact ⟨_,hs,by simp only [e1,e2,e3,e4]; exact ⟨g1,g2,tv⟩⟩
    ·exact hs.elim
  ·exact hs.elim
 ·exact hs.elim
theorem zvg {t:TypeId} {x y:SV} (hs:zg0 Θ t x y h nx fun v _ _=>K v):∃ sv,K sv ∧ zg0 Θ t x y h1 nx1 fun v _ _=>v = sv:=by
 unfold zg0 at *
 split at hs
 ·rename_i e1
  obtain ⟨g,b,hb,hs⟩:=hs
  exact ⟨_,hs,by simp only [e1]; exact ⟨g,b,hb,rfl⟩⟩
 ·rename_i e1
  split at hs
  ·rename_i e2
   obtain ⟨g,xs,e3,hs⟩:=hs
   split at hs
   ·rename_i e4
    exact ⟨_,hs,by simp only [e1,e2,e4]; exact ⟨g,xs,e3,rfl⟩⟩
   ·rename_i e4
    split at hs
    ·exact ⟨_,hs,by simp only [e1,e2,e4]; exact ⟨g,_,e3,rfl⟩⟩
    ·exact hs.elim
  ·exact hs.elim
 ·exact hs.elim
theorem z3e {ts:List TypeId} {x:SV} (hs:s_len Θ ts x h nx fun v _ _=>K v):∃ sv,K sv ∧ s_len Θ ts x h1 nx1 fun v _ _=>v = sv:=by
 unfold s_len at *
 split at hs
 ·split at hs
  ·rename_i e1; exact ⟨_,hs,by simp only [e1]⟩
  ·rename_i e1; exact ⟨_,hs,by simp only [e1]⟩
  ·rename_i e1; exact ⟨_,hs,by simp only [e1]⟩
  ·rename_i e1; exact ⟨_,hs,by simp only [e1]⟩
  ·exact hs.elim
 ·exact hs.elim
theorem z5z {x y:SV} (hs:s_min x y h nx fun v _ _=>K v):∃ sv,K sv ∧ s_min x y h1 nx1 fun v _ _=>v = sv:=by
 unfold s_min at *
 split at hs
 ·exact ⟨_,hs,rfl⟩
 ·exact hs.elim
theorem z4b {x y:SV} (hs:s_max x y h nx fun v _ _=>K v):∃ sv,K sv ∧ s_max x y h1 nx1 fun v _ _=>v = sv:=by
 unfold s_max at *
 split at hs
 ·exact ⟨_,hs,rfl⟩
 ·exact hs.elim
theorem zj5 {b:SB} {p:Pl} {n:Nat} {F:List SA → Prop} (hs:rdB b p n F):∃ xs,F xs ∧ rdB b p n fun ys=>ys = xs:=by
 unfold rdB at *
 split at hs
 ·split at hs
  ·exact ⟨_,hs,rfl⟩
  ·exact hs.elim
 ·split at hs
  ·obtain ⟨x,hx,hs⟩:=hs
   split at hs
   ·rename_i e1; exact ⟨_,hs,x,hx,by simp only [e1]⟩
   ·exact hs.elim
  ·obtain ⟨xs,h1,h2⟩:=hs
   exact ⟨xs,h2,xs,h1,rfl⟩
 ·obtain ⟨xs,h1,h2⟩:=hs
  exact ⟨xs,h2,xs,h1,rfl⟩
theorem z6p {p:Pl} {n:Nat} {F:List SA → Prop} (hs:rd h p n F):∃ xs,F xs ∧ rd h p n fun ys=>ys = xs:=by
 unfold rd at *
 split at hs
 ·rename_i e1
  split at hs
  ·rename_i e2
   obtain ⟨xs,g1,g2⟩:=zj5 hs
   exact ⟨xs,g1,g2⟩
  ·exact hs.elim
 ·rename_i e1
  obtain ⟨hc,hs⟩:=hs
  split at hs
  ·rename_i e2
   obtain ⟨xs,g1,g2⟩:=zj5 hs
   exact ⟨xs,g1,hc,g2⟩
  ·exact hs.elim
 ·rename_i e1
  obtain ⟨hc,hs⟩:=hs
  obtain ⟨xs,g1,g2⟩:=zj5 hs
  exact ⟨xs,g1,hc,g2⟩
 ·rename_i e1
  obtain ⟨B,hB,hs⟩:=hs
  obtain ⟨xs,g1,g2⟩:=zj5 hs
  exact ⟨xs,g1,B,hB,g2⟩
 ·rename_i e1
  split at hs
  ·rename_i e2
   obtain ⟨B,hB,hs⟩:=hs
   obtain ⟨xs,g1,g2⟩:=zj5 hs
   exact ⟨xs,g1,B,hB,g2⟩
  ·exact hs.elim
 ·exact hs.elim
 ·exact hs.elim
def geE (x y:Option Ent):Prop:=
 match x,y with
 |some (.frz F'),some (.frz F)=>Fz.le F F'
 |_,_=>False
def Keep (h h1:Hp) (i:Nat):Prop:=geE (lget h1 0) (lget h 0) ∧ (i = 0 ∨ lget h1 i = lget h i)
theorem zhv {b:SB} {p:Pl} {n:Nat} {F G:List SA → Prop} (hb:rdB b p n F) (hfg:∀ xs,F xs → G xs):rdB b p n G:=by
 unfold rdB at *
 split at hb
 ·split at hb
  ·exact hfg _ hb
  ·exact hb.elim
 ·split at hb
  ·obtain ⟨x,hx,hb⟩:=hb
   refine ⟨x,hx,?_⟩
   split at hb
   ·exact hfg _ hb
   ·exact hb.elim
  ·obtain ⟨xs,h1,h2⟩:=hb
   exact ⟨xs,h1,hfg _ h2⟩
 ·obtain ⟨xs,h1,h2⟩:=hb
  exact ⟨xs,h1,hfg _ h2⟩
theorem zv5 {p:Pl} {n:Nat} {F G:List SA → Prop} (hs:rd h p n F) (hfg:∀ xs,F xs → G xs):rd h p n G:=by
 unfold rd at *
 split at hs
 ·split at hs
  ·exact zhv hs hfg
  ·exact hs.elim
 ·obtain ⟨hc,hs⟩:=hs
  split at hs
  ·exact ⟨hc,zhv hs hfg⟩
  ·exact hs.elim
 ·exact ⟨hs.1,zhv hs.2 hfg⟩
 ·obtain ⟨B,hB,hs⟩:=hs; exact ⟨B,hB,zhv hs hfg⟩
 ·split at hs
  ·obtain ⟨B,hB,hs⟩:=hs; exact ⟨B,hB,zhv hs hfg⟩
  ·exact hs.elim
 ·exact hs.elim
 ·exact hs.elim
theorem z4u {p:Pl} {n:Nat} {F:List SA → Prop} (hs:rd h p n F) (hk:Keep h h1 p.i):rd h1 p n F:=by
 obtain ⟨h0,hi⟩:=hk
 unfold geE at h0
 split at h0
 ·rename_i F1 F0 e1 e0
  by_cases hz:p.i = 0
  ·unfold rd at *
   rw [hz] at hs ⊢
   rw [e0] at hs
   rw [e1]
   obtain ⟨B,hB,hs⟩:=hs
   exact ⟨B,h0 _ B hB,hs⟩
  ·have hi:=hi.resolve_left hz
   unfold rd at *
   rw [hi,e1]
   rw [e0] at hs
   split at hs<;>rename_i e2
   all_goals first
    |exact hs
    |exact hs.elim
    |(obtain ⟨B,hB,hs⟩:=hs; first | exact ⟨B,hB,hs⟩ | exact ⟨B,h0 _ B hB,hs⟩)
 ·exact h0.elim
theorem zxq {t:TypeId} {p:Pl} (hs:ze6 Θ t (.va (.ptr p)) h nx fun v _ _=>K v):∃ sv,K sv ∧ ze6 Θ t (.va (.ptr p)) h nx fun v _ _=>v = sv:=by
 unfold ze6 at *
 split at hs
 ·rename_i i q e1 e2
  cases e2
  obtain ⟨xs,g1,g2⟩:=z6p hs
  split at g1
  ·rename_i e3
   refine ⟨_,g1,?_⟩
   exact zv5 g2 (fun ys hy=>by subst hy; simp only [e3])
  ·rename_i e3
   split at g1
   ·refine ⟨_,g1,?_⟩
    exact zv5 g2 (fun ys hy=>by subst hy; simp only [e3])
   ·exact g1.elim
 ·exact hs.elim
theorem zuv {t:TypeId} {p:Pl} {G:SV → Prop} (hs:ze6 Θ t (.va (.ptr p)) h nx fun v _ _=>G v) (hl:Keep h h1 p.i):ze6 Θ t (.va (.ptr p)) h1 nx1 fun v _ _=>G v:=by
 unfold ze6 at *
 split at hs
 ·rename_i i q e1 e2
  cases e2
  exact z4u hs hl
 ·exact hs.elim
end
end Sx
