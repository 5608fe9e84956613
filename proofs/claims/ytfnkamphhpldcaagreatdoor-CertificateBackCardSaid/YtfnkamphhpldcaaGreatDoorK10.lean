import Derived.Test.YtfnkamphhpldcaaGreatDoorK09
set_option maxHeartbeats 64000000
namespace Sx
open Go
def ckI (s:List (Nat × Mv)) (upd jl:List (Nat × SV)) (hup:List (Nat × Ent)) (n0 nt N0 N:Nat):Bool:=
 (jl.all fun p=>zgn p.2 && Nat.ble (p.1 + 1) nt) && (upd.all fun p=>Nat.ble (p.1 + 1) nt) && Nat.ble n0 N0 && Nat.ble N0 N && (upd.all fun p=>p.2.bB N) && chkS s hup N0 N
theorem leI {T:List (List (Nat × SV))} {upd jl:List (Nat × SV)} {H:Hp} {hup:List (Nat × Ent)} {n0 nt N0 N:Nat} (s:List (Nat × Mv)) (hH:WfH H N0) (hT:WfT T N0)
  (hc:ckI s upd jl hup n0 nt N0 N = true) (wh:bH N hup) (ht:leT s T upd) (hh:leH s H hup):Le ⟨T,H,N0,n0,nt,[]⟩ ⟨upd :: jl :: T,hup :: H,N,n0,nt,[]⟩:=by
 simp only [ckI,qd] at hc
 obtain ⟨⟨⟨⟨⟨c1,c2⟩,c3⟩,c4⟩,c5⟩,c6⟩:=hc
 exact zpi N s hH hT c4 c3 (fun _ h=>nomatch h) c1 c2 c6 (bT_of c5) wh ht hh
theorem leR {T:List (List (Nat × SV))} {top upd jl:List (Nat × SV)} {H:Hp} {htop hup:List (Nat × Ent)} {nx1 n0 nt N0 N:Nat} (s:List (Nat × Mv)) (hH:WfH H N0) (hT:WfT T N0)
  (hc:(ckI s upd jl hup n0 nt N0 N && (top.all fun p=>(aget upd p.1).isSome || (aget jl p.1).isSome) && (htop.all fun p=>(aget hup p.1).isSome || Nat.ble N0 p.1)) = true)
  (wh:bH N hup) (ht:leT s (top :: jl :: T) upd) (hh:leH s (htop :: H) hup):Le ⟨top :: jl :: T,htop :: H,nx1,n0,nt,[]⟩ ⟨upd :: jl :: T,hup :: H,N,n0,nt,[]⟩:=by
 simp only [ckI,qd] at hc
 obtain ⟨⟨⟨⟨⟨⟨⟨c1,c2⟩,c3⟩,c4⟩,c5⟩,c6⟩,c7⟩,c8⟩:=hc
 exact zmh N0 N s hH hT c4 c3 (fun _ h=>nomatch h) c1 c2 c7 c8 c6 (bT_of c5) wh ht hh
theorem zjs {β:Type} {R:List (List (Nat × β))} {n:Nat}:∀ (ts:List (List (Nat × β))),(∀ l ∈ ts,aget l n = none) → lget (ts ++ R) n = lget R n
 |[],_=>rfl
 |l :: r,h=>by
  have h1:=h l (by simp)
  show (match aget l n with | some v=>some v | none=>lget (r ++ R) n) = _
  rw [h1]; exact zjs r fun l' hl'=>h l' (by simp [hl'])
theorem leRn {T:List (List (Nat × SV))} (ts:List (List (Nat × SV))) {upd jl:List (Nat × SV)} {H:Hp} (hs:List (List (Nat × Ent))) {hup:List (Nat × Ent)} {nx1 n0 nt N0 N:Nat} (s:List (Nat × Mv)) (hH:WfH H N0) (hT:WfT T N0)
  (hc:(ckI s upd jl hup n0 nt N0 N && (ts.all fun l=>l.all fun p=>(aget upd p.1).isSome || (aget jl p.1).isSome) && (hs.all fun l=>l.all fun p=>(aget hup p.1).isSome || Nat.ble N0 p.1)) = true)
  (wh:bH N hup) (ht:leT s (ts ++ (jl :: T)) upd) (hh:leH s (hs ++ H) hup):Le ⟨ts ++ (jl :: T),hs ++ H,nx1,n0,nt,[]⟩ ⟨upd :: jl :: T,hup :: H,N,n0,nt,[]⟩:=by
 simp only [ckI,qd] at hc
 obtain ⟨⟨⟨⟨⟨⟨⟨c1,c2⟩,c3⟩,c4⟩,c5⟩,c6⟩,c7⟩,c8⟩:=hc
 refine zt1 N0 N s hH hT (nb c4) (nb c3) (fun _ h=>nomatch h) ht ?_ c1 c2 hh ?_ c6 (bT_of c5) wh
 ·intro n h1 h2
  rw [zjs ts fun l hl=>zey (γ:=Nat) (f:=fun m=>(aget upd m).isSome || (aget jl m).isSome) (qo.1 c7 l hl) (by simp [h1,h2])]
  simp [lget,h2]
 ·intro i hi h1
  refine zjs hs fun l hl=>zey (γ:=Nat) (f:=fun m=>(aget hup m).isSome || Nat.ble N0 m) (qo.1 c8 l hl) ?_
  simp only [h1,Option.isSome_none,qa4]
  cases hb:Nat.ble N0 i with
  |false=>rfl
  |true=>have:=nb hb; omega
section
variable {P:Program} {h:Hp} {nx:Nat} {i:Nat} {e:Ent} {F:Fz}
theorem lend {f:FuncId} {args:List SV} {K:Out → Hp → Nat → Prop} (i:Nat) (fb:Nat → SB) (he:lget h i = some e) (hF:lget h 0 = some (.frz F)) (hp:e.plain = true)
  (hf:∀ k,e.has k → (e.at k).ren (resP h) = fb k) (hb:∀ k,e.has k → (fb k).below 1)
  (hk:∀ b F',Fz.le F F' → (∀ k,e.has k → F' (b k) = some (fb k)) → za6 P f args (lput (lput h i (.lnk b)) 0 (.frz F')) nx
   (fun out h' nx'=>∃ F2,lget h' 0 = some (.frz F2) ∧ Fz.le F' F2 ∧ lget h' i = some (.lnk b) ∧ K out (lput (lput h' i e) 0 (.frz F)) nx')):za6 P f args h nx K:=by
 unfold za6 at *
 intro C ρ w vs S hr hbl
 obtain ⟨F',h1,h2,S'⟩:=S.freeze he hp hF fb hf hb
 obtain ⟨hen,hcall⟩:=hk (ρ i) F' h1 (fun k hk'=>(h2 k hk').2) C ρ w vs S' hr hbl
 refine ⟨hen,hcall.mono ?_⟩
 rintro en w' ⟨out,h',nx',ρ',⟨F2,g0,gle,gi,hK⟩,k2,S2,k4,k5,k6⟩
 refine ⟨out,_,nx',ρ',hK,k2,?_,k4,k5,k6⟩
 have hi0:=S.ne0 he hp
 obtain ⟨Fs,hFs,hFb⟩:=S.fz
 rw [hF] at hFs; cases hFs
 have hρi:ρ' i = ρ i:=k4 i (S.lt _ _ he)
 have look:∀ j x,lget (lput (lput h' i e) 0 (.frz F)) j = some x → (j = 0 ∧ x = .frz F) ∨ (j = i ∧ x = e) ∨ (j ≠ 0 ∧ j ≠ i ∧ lget h' j = some x):=by
  intro j x hx
  by_cases hj:j = 0
  ·subst hj; rw [zaf] at hx; cases hx; exact .inl ⟨rfl,rfl⟩
  ·rw [zad _ _ _ _ hj] at hx
   by_cases hji:j = i
   ·subst hji; rw [zaf] at hx; cases hx; exact .inr (.inl ⟨rfl,rfl⟩)
   ·rw [zad _ _ _ _ hji] at hx; exact .inr (.inr ⟨hj,hji,hx⟩)
 have f2:∀ k,e.has k → F2 (ρ i k) = some (fb k):=fun k hk'=>gle _ _ (h2 k hk').2
 have own1:∀ j k,St.owns (lput (lput h' i e) 0 (.frz F)) j k → (j ≠ i ∧ St.owns h' j k) ∨ (j = i ∧ e.has k ∧ St.owns h' 0 (ρ i k)):=by
  rintro j k ⟨x,hx,hk'⟩
  rcases look j x hx with ⟨rfl,rfl⟩ | ⟨rfl,rfl⟩ | ⟨q1,q2,q3⟩
  ·obtain ⟨B,hB⟩:=qw.1 hk'
   exact .inl ⟨Ne.symm hi0,_,g0,by simp [Ent.has,gle k B (h1 k B hB)]⟩
  ·exact .inr ⟨rfl,hk',_,g0,by simp [Ent.has,f2 k hk']⟩
  ·exact .inl ⟨q2,x,q3,hk'⟩
 have own0:∀ k,St.owns (lput (lput h' i e) 0 (.frz F)) 0 k → (F k).isSome = true:=by
  rintro k ⟨x,hx,hk'⟩
  rw [zaf] at hx; cases hx; exact hk'
 refine { lt:=?_,blk:=?_,wf:=?_,inj:=?_,anch:=S2.anch,n0:=S2.n0,n1:=S2.n1,os:=S2.os,tape:=S2.tape,output:=S2.output,size:=S2.size,fr:=S2.fr,own:=?_,fz:=⟨F,zaf _ _ _,hFb⟩,id0:=S2.id0,only:=?_,lnk:=?_ }
 ·intro j x hx
  rcases look j x hx with ⟨rfl,rfl⟩ | ⟨rfl,rfl⟩ | ⟨q1,q2,q3⟩
  ·exact S2.pos
  ·exact S2.lt _ _ gi
  ·exact S2.lt _ _ q3
 ·intro j x hx k hk'
  rcases look j x hx with ⟨rfl,rfl⟩ | ⟨rfl,rfl⟩ | ⟨q1,q2,q3⟩
  ·obtain ⟨B,hB⟩:=qw.1 hk'
   have hB2:=gle k B (h1 k B hB)
   obtain ⟨o,ho,hok⟩:=S2.blk 0 _ g0 k (by simp [Ent.has,hB2])
   simp only [Ent.at,hB2,hB,ju] at hok ⊢
   exact ⟨o,ho,hok⟩
  ·obtain ⟨o,ho,hok⟩:=S2.blk 0 _ g0 (ρ j k) (by simp [Ent.has,f2 k hk'])
   simp only [Ent.at,f2 k hk',ju] at hok
   rw [S2.id0] at ho
   refine ⟨o,by rw [hρi]; exact ho,?_⟩
   rw [← hf k hk'] at hok
   refine SB.ok_congr (ρ:=(resP h).pull ρ') (n:=nx) (fun m hm=>?_) (S.wf _ _ he k hk') ((SB.ok_ren (resP h) ρ' _ o).1 hok)
   funext q
   simp only [Mu.pull,resP]
   split
   ·rename_i b hl
    rw [k4 m hm,S.lnk m b hl q,k4 0 S.pos,S.id0]
   ·rfl
  ·exact S2.blk _ _ q3 k hk'
 ·intro j x hx k hk'
  rcases look j x hx with ⟨rfl,rfl⟩ | ⟨rfl,rfl⟩ | ⟨q1,q2,q3⟩
  ·obtain ⟨B,hB⟩:=qw.1 hk'
   simp only [Ent.at,hB,ju]
   exact SB.below_mono S2.pos (hFb k B hB)
  ·exact SB.below_mono k5 (S.wf _ _ he k hk')
  ·exact S2.wf _ _ q3 k hk'
 ·intro j k j' k' o1 o2 heq
  rcases own1 j k o1 with ⟨q1,q2⟩ | ⟨rfl,q2,q3⟩<;>rcases own1 j' k' o2 with ⟨r1,r2⟩ | ⟨rfl,r2,r3⟩
  ·exact S2.inj _ _ _ _ q2 r2 heq
  ·have:=S2.inj _ _ _ _ q2 r3 (by rw [heq,S2.id0,hρi])
   have hj:=this.1
   subst hj
   have hk2:=this.2
   subst hk2
   have:=own0 _ o1
   rw [(h2 k' r2).1] at this; cases this
  ·have:=S2.inj _ _ _ _ r2 q3 (by rw [← heq,S2.id0,hρi])
   have hj:=this.1
   subst hj
   have hk2:=this.2
   subst hk2
   have:=own0 _ o2
   rw [(h2 k q2).1] at this; cases this
  ·rw [hρi] at heq
   exact S.inj _ _ _ _ ⟨e,he,q2⟩ ⟨e,he,r2⟩ heq
 ·intro j k o1
  rcases own1 j k o1 with ⟨q1,q2⟩ | ⟨rfl,q2,q3⟩
  ·exact S2.own _ _ q2
  ·rw [hρi]; exact S.own _ _ ⟨e,he,q2⟩
 ·intro j F1 hF1
  rcases look j _ hF1 with ⟨rfl,_⟩ | ⟨rfl,h⟩ | ⟨_,_,h3⟩
  ·rfl
  ·rw [← h] at hp; cases hp
  ·exact S2.only _ _ h3
 ·intro j b hl k
  rcases look j _ hl with ⟨_,h⟩ | ⟨rfl,h⟩ | ⟨_,_,h3⟩
  ·cases h
  ·rw [← h] at hp; cases hp
  ·exact S2.lnk _ _ h3 k
end
theorem SlR.lt {α:Type} {nil:Bool} {l:List α} (hn:nil = true → l = []) {k:Nat} (hk:k < l.length):nil = false:=Sl.lt hn hk
theorem SlR.at {α:Type} {R:List SA → α → Prop} {e:Nat} {L:List (List SA)} {l:List α} (h:∀ (k:Nat) x,l[k]? = some x → ∃ y,L[e + k]? = some y ∧ R y x) {k:Nat} (hk:k < l.length) :
  ∃ y,L[e + (k:Int).toNat]? = some y ∧ R y l[k]:=h k l[k] (by simp [hk])
theorem SlR.new {α:Type} {F:Fz} {t sz:Nat} {R:List SA → α → Prop} {b cap room:Nat} {L:List (List SA)} {l:List α} (hF:F b = some (.arr t sz L room)) (hl:L.length = l.length)
  (h:∀ (k:Nat) x,l[k]? = some x → ∃ y,L[k]? = some y ∧ R y x):SlR F t sz R (.slice false 0 b 0 sz l.length cap) l:=
 ⟨false,b,0,cap,L,room,rfl,fun h=>(nomatch h),fun _=>hF,by omega,fun k x hx=>by obtain ⟨y,h1,h2⟩:=h k x hx; exact ⟨y,by rw [ji]; exact h1,h2⟩⟩
def gA {α:Type} (sz i c:Nat):List α → SA
 |[]=>.nilsl
 |_ :: r=>.slice false i 0 0 sz (r.length + 1) c
def gE {α:Type} (t sz:Nat) (e:α → List SA) (c:Nat) (l:List α):Ent:=.opt (!l.isEmpty) (.arr t sz (l.map e) c)
def Plain {α:Type} (e:α → List SA):Prop:=∀ x,(∀ μ:Mu,(e x).map (SA.ren μ) = e x) ∧ ∀ a ∈ e x,a.below 0
theorem zcu {α:Type} {e:α → List SA} (he:Plain e) {L:List (List SA)} {l:List α} (h:L = l.map e) (t sz:Nat) (μ:Mu) (c:Nat):(SB.arr t sz L c).ren μ = SB.arr t sz (l.map e) c:=by
 subst h
 show SB.arr t sz ((l.map e).map (List.map (SA.ren μ))) c = _
 rw [yd]; congr 1
 exact jx fun x _=>(he x).1 μ
theorem zbk {α:Type} {e:α → List SA} (he:Plain e) (t sz n c:Nat) (l:List α):(SB.arr t sz (l.map e) c).below n:=by
 intro x hx a ha
 obtain ⟨y,_,rfl⟩:=q9.1 hx
 exact SA.below_mono (yq _) ((he y).2 a ha)
theorem zfv {α:Type} {e:α → List SA} (he:Plain e) (t sz c:Nat) (μ:Mu) (l:List α):(gE t sz e c l).ren μ = gE t sz e c l:=by
 show Ent.opt _ (SB.ren μ _) = _; rw [zcu he rfl]; rfl
theorem zai {α:Type} {e:α → List SA} (he:Plain e) (t sz n c:Nat) (l:List α):(gE t sz e c l).below n:=zbk he t sz n c l
theorem zav {α:Type} {e:α → List SA} (he:Plain e) {t sz c:Nat} {μ:Mu} {l:List α} {x:Option Ent} (h:subE x (gE t sz e c l)):subE x ((gE t sz e c l).ren μ):=by rw [zfv he]; exact h
theorem zax {α:Type} {e:α → List SA} (t sz c:Nat) (l:List α):subE (some (gE t sz e c l)) (gE t sz e c l):=⟨rfl,rfl⟩
theorem zcg {α:Type} {e:α → List SA} {t sz c:Nat} {l:List α} (L:List (List SA)) (h:L = l.map e):subE (some (.one (.arr t sz L c))) (gE t sz e c l):=by rw [h]; exact rfl
theorem zqu {α:Type} {μ:Mu} {i j:Nat} (h:μ i 0 = (j,0)) (sz c n:Nat) (l:List α) (x:α) (hn:n = l.length + 1):atomE ((gA sz i c (l ++ [x])).ren μ) (SA.slice false j 0 0 sz n c):=by
 subst hn
 cases l with
 |nil=>simp only [gA,qu,SA.ren,h]; exact ⟨rfl,rfl,rfl,.inr ⟨rfl,rfl,rfl,rfl⟩⟩
 |cons y r=>simp only [gA,jt,SA.ren,h]; exact ⟨rfl,by simp,rfl,.inr ⟨rfl,rfl,rfl,rfl⟩⟩
theorem zcq {α:Type} {ls:List (List α)} {k:Nat} (hk:k < ls.length):(ls.take (k + 1)).flatten = (ls.take k).flatten ++ ls[k]:=by
 rw [qi hk,yh]; simp
theorem zcm {α:Type} (ls:List (List α)) (k:Nat):(ls.take k).flatten.length ≤ ls.flatten.length:=by
 have h:=congrArg List.length (congrArg List.flatten (yw k ls))
 rw [yh,qa] at h; omega
end Sx
