import Derived.Test.YtfnkamphhpldcaaGreatDoorK08
import Derived.Test.YtfnkamphhpldcaaGreatDoorK33
import Derived.Test.YtfnkamphhpldcaaGreatDoorK34
set_option maxHeartbeats 64000000
namespace Sx
open Go
theorem Sat.more {C:Ctx} {ρ:Rho} {h:Hp} {nx:Nat} {w:World} (S:Sat C ρ h nx w):Sat C ρ h (nx + 1) w:=
 { S with
  lt:=fun i e a=>Nat.lt_succ_of_lt (S.lt i e a)
  wf:=fun i e a k b=>SB.below_mono (qac nx) (S.wf i e a k b)
  n0:=qa1 S.n0 }
theorem z7t {n:Nat} {a:Out → Fz → List (Nat × Ent) → Nat → Prop} {out:Out} {h:Hp} {nx:Nat} (c:out.below nx → out.below (nx + 1)) (d:Cln n a out h (nx + 1)):Cln n a out h nx:=by
 unfold Cln at *;intro C ρ w e f S h1 b;exact d C ρ w e f S.more h1 (c b)
section
variable {C:Ctx} {ρ:Rho} {h:Hp} {nx:Nat} {w:World}
theorem Sat.swapO (s:Sat C ρ h nx w) {i:Nat} {c:Bool} {b n:SB} (q:lget h i = some (.opt c b)) (B:∀ ρ o,b.ok ρ o → n.ok ρ o) (m:n.below nx):Sat C ρ (lput h i (.opt c n)) nx w:=by
 have A:=s.ne0 q rfl
 have g:∀ j k,St.owns (lput h i (.opt c n)) j k → St.owns h j k:=by
  rintro j k ⟨x,f,l⟩;by_cases e:j = i
  ·subst e; rw [zaf] at f; cases f; exact ⟨_,q,l⟩
  ·rw [zac _ _ _ _ e] at f; exact ⟨_,f,l⟩
 exact { s with
  lt:=fun j x f=>by
   by_cases e:j = i
   ·subst e; exact s.lt _ _ q
   ·rw [zac _ _ _ _ e] at f; exact s.lt _ _ f
  blk:=fun j x f k l=>by
   by_cases e:j = i
   ·subst e; rw [zaf] at f; cases f
    obtain ⟨o,h1,y⟩:=s.blk _ _ q k l;exact ⟨o,h1,B _ _ y⟩
   ·rw [zac _ _ _ _ e] at f; exact s.blk _ _ f k l
  wf:=fun j x f k l=>by
   by_cases e:j = i
   ·subst e; rw [zaf] at f; cases f
    exact m
   ·rw [zac _ _ _ _ e] at f; exact s.wf _ _ f k l
  inj:=fun a b c d h1 y=>s.inj a b c d (g _ _ h1) (g _ _ y)
  own:=fun a b h1=>s.own a b (g _ _ h1)
  fz:=by rw [zac _ _ _ _ (Ne.symm A)]; exact s.fz
  only:=fun j F p=>by
   by_cases e:j = i
   ·subst e; rw [zaf] at p; cases p
   ·rw [zac _ _ _ _ e] at p; exact s.only _ _ p
  lnk:=fun j b u=>by
   by_cases e:j = i
   ·subst e; rw [zaf] at u; cases u
   ·rw [zac _ _ _ _ e] at u; exact s.lnk _ _ u }
theorem yds {n:Nat} {g:Out → Fz → List (Nat × Ent) → Nat → Prop} {out:Out} (i:Nat) {c:Bool} {b:SB} (d:SB) (k:lget h i = some (.opt c b)) (f:∀ ρ o,b.ok ρ o → d.ok ρ o) (a:d.below nx) (l:Cln n g out (lput h i (.opt c d)) nx):Cln n g out h nx:=by
 unfold Cln at *;intro C ρ w e m S h1 j;exact l C ρ w e m (S.swapO k f a) h1 j
theorem Sat.swapR (s:Sat C ρ h nx w) {i:Nat} {b n:SB} (q:lget h i = some (.one b)) (B:∀ o,b.ok ρ o → n.ok ρ o) (m:n.below nx):Sat C ρ (lput h i (.one n)) nx w:=by
 have A:=s.ne0 q rfl
 have g:∀ j k,St.owns (lput h i (.one n)) j k → St.owns h j k:=by
  rintro j k ⟨x,f,l⟩;by_cases e:j = i
  ·subst e; rw [zaf] at f; cases f; exact ⟨_,q,l⟩
  ·rw [zac _ _ _ _ e] at f; exact ⟨_,f,l⟩
 exact { s with
  lt:=fun j x f=>by
   by_cases e:j = i
   ·subst e; exact s.lt _ _ q
   ·rw [zac _ _ _ _ e] at f; exact s.lt _ _ f
  blk:=fun j x f k l=>by
   by_cases e:j = i
   ·subst e; rw [zaf] at f; cases f
    obtain ⟨o,h1,y⟩:=s.blk _ _ q k l;exact ⟨o,h1,B _ y⟩
   ·rw [zac _ _ _ _ e] at f; exact s.blk _ _ f k l
  wf:=fun j x f k l=>by
   by_cases e:j = i
   ·subst e; rw [zaf] at f; cases f
    exact m
   ·rw [zac _ _ _ _ e] at f; exact s.wf _ _ f k l
  inj:=fun a b c d h1 y=>s.inj a b c d (g _ _ h1) (g _ _ y)
  own:=fun a b h1=>s.own a b (g _ _ h1)
  fz:=by rw [zac _ _ _ _ (Ne.symm A)]; exact s.fz
  only:=fun j F p=>by
   by_cases e:j = i
   ·subst e; rw [zaf] at p; cases p
   ·rw [zac _ _ _ _ e] at p; exact s.only _ _ p
  lnk:=fun j b u=>by
   by_cases e:j = i
   ·subst e; rw [zaf] at u; cases u
   ·rw [zac _ _ _ _ e] at u; exact s.lnk _ _ u }
theorem resT {P:Program} {c:Code} {e:St} {Q:SE → St → Prop} (d:Nat) {s:SV} (i:SV) (k:lget e.t d = some s) (j:s.ren (resP e.h) = i) (f:i.below e.nx) (l:WP P c { e with t:=lput e.t d i } Q):WP P c e Q:=by
 unfold WP at *;intro C ρ a w D;refine l C ρ a w { sat:=D.sat,nt:=D.nt,tm:=fun n x b=>?_,tw:=fun n x b=>?_,n0:=D.n0,df:=D.df,dw:=D.dw }
 ·by_cases g:n = d
  ·subst g;rw [zaf] at b;cases b
   obtain ⟨v,o,m⟩:=D.tm n _ k;refine ⟨v,o,?_⟩;rw [← j];refine (SV.rel_ren (resP e.h) ρ s v).2 ?_;rw [zif D.sat]; exact m
  ·rw [zac _ _ _ _ g] at b; exact D.tm n x b
 ·by_cases g:n = d
  ·subst g; rw [zaf] at b; cases b; exact f
  ·rw [zac _ _ _ _ g] at b; exact D.tw n x b
end
@[irreducible] def EndF {X:Type} (I:X → St) (μ:X → Nat) (x:X) (st:St):Prop:=∀ C ρ a w,Den C ρ st a w → ∃ x',μ x' < μ x ∧ ∃ ρ',Den C ρ' (I x') a w
def LQF {X:Type} (I:X → St) (μ:X → Nat) (x:X) (Q:SE → St → Prop):SE → St → Prop:=fun e a=>
 match e with
 |.normal=>EndF I μ x a
 |.ret=>Q .ret a
 |.exit id=>Q (.exit id) a
 |.panic v=>Q (.panic v) a
section
variable {P:Program} {st:St} {Q:SE → St → Prop}
theorem z0q {X:Type} {c:Code} (I:X → St) (μ:X → Nat) (J:X)
  (h:WfH st.h st.nx → WfT st.t st.nx → Le st (I J) ∧ ∀ x,WP P c (I x) (LQF I μ x Q)):WP P (.loop c) st Q:=by
 unfold WP;intro C ρ a w D;obtain ⟨G,O⟩:=h D.wfH D.wfT;unfold Le at G;obtain ⟨T,K⟩:=G C ρ a w D;have j:∀ a w,(∃ x ρ,Den C ρ (I x) a w) → ∃ n,∃ x ρ,μ x = n ∧ Den C ρ (I x) a w:=fun a w ⟨x,ρ,h⟩=>⟨μ x,x,ρ,rfl,h⟩
 let m:Act → World → Nat:=fun a w=>by
  classical exact if h:∃ n,∃ x ρ,μ x = n ∧ Den C ρ (I x) a w then Classical.choose (exists_least h) else 0
 refine wp_loop (fun a w=>∃ x ρ,Den C ρ (I x) a w) m ⟨J,T,K⟩ ?_;intro a w M;have y:=j a w M;have R:m a w = Classical.choose (exists_least y):=by simp only [m]; rw [dif_pos y]
 obtain ⟨x,U,A,L⟩:=(Classical.choose_spec (exists_least y)).1;have i:=O x;unfold WP at i;refine wp_mono (i C U a w L) ?_;rintro e q B ⟨S,b,p,o,rfl,l⟩;cases S with
 |normal=>
  have k:EndF I μ x b:=o;unfold EndF at k;obtain ⟨E,s,g,d⟩:=k C p q B l;refine ⟨⟨E,g,d⟩,?_⟩;have f:=j q B ⟨E,g,d⟩;have u:m q B = Classical.choose (exists_least f):=by simp only [m]; rw [dif_pos f]
  rw [R,u,← A];exact yr ((Classical.choose_spec (exists_least f)).2 _ ⟨E,g,rfl,d⟩) s
 |ret=>exact ⟨.ret,b,p,o,rfl,l⟩
 |exit id=>exact ⟨.exit id,b,p,o,rfl,l⟩
 |panic v=>exact ⟨.panic v,b,p,o,rfl,l⟩
theorem z2h {Θ:Tys} (hΘ:Θ.Ok P) {st:St} {a:Code} {X:Type} (upd:X → List (Nat × SV)) (jl:List Nat) (hup:X → List (Nat × Ent)) (N:Nat) (μ:X → Nat) (d:X)
  (e:WfH st.h st.nx → WfT st.t st.nx → Le st (LI st upd jl hup N d))
  (f:∀ x,WfH st.h st.nx → WfT st.t st.nx → sx P Θ a (LI st upd jl hup N x) (LQF (LI st upd jl hup N) μ x Q)):WP P (.loop a) st Q:=
 z0q (LI st upd jl hup N) μ d fun b c=>⟨e b c,fun x=>zcv hΘ _ _ _ (f x b c)⟩
variable {X:Type} {I:X → St} {μ:X → Nat} {x:X}
theorem zrt (h:∃ b,μ b < μ x ∧ Le st (I b)):EndF I μ x st:=by
 obtain ⟨b,h1,c⟩:=h;unfold EndF; unfold Le at c;exact fun C ρ a w D=>⟨b,h1,c C ρ a w D⟩
theorem zrs {e:Ent} {F:Fz} (i:Nat) (fb:Nat → SB) (m:lget st.h i = some e) (j:lget st.h 0 = some (.frz F)) (p:e.plain = true)
  (n:∀ k,e.has k → (e.at k).ren (resP st.h) = fb k) (l:∀ k,e.has k → (fb k).below 1)
  (o:∀ b c,Fz.le F c → (∀ k,e.has k → c (b k) = some (fb k)) → EndF I μ x { st with h:=lput (lput st.h i (.lnk b)) 0 (.frz c) }):EndF I μ x st:=by
 unfold EndF at *;intro C ρ a w D;obtain ⟨c,h1,g,f⟩:=D.sat.freeze m p j fb n l;exact o (ρ i) c h1 (fun k d=>(g k d).2) C ρ a w { sat:=f,nt:=D.nt,tm:=D.tm,tw:=D.tw,n0:=D.n0,df:=D.df,dw:=D.dw }
theorem ztg (i:Nat) {B:SB} (B':SB) (e:lget st.h i = some (.one B)) (d:B.ren (resP st.h) = B') (b:B'.below st.nx) (f:EndF I μ x { st with h:=lput st.h i (.one B') }):EndF I μ x st:=by
 unfold EndF at *;intro C ρ a w D
 have c:=D.sat.swapR e (fun o h=>by
  rw [← d];refine (SB.ok_ren (resP st.h) ρ _ o).2 ?_;rw [zif D.sat]; exact h) b
 exact f C ρ a w { sat:=c,nt:=D.nt,tm:=D.tm,tw:=D.tw,n0:=D.n0,df:=D.df,dw:=D.dw }
theorem relE {n:Nat} {a:Out → Fz → List (Nat × Ent) → Nat → Prop} {out:Out} (out':Out) {h:Hp} {nx:Nat} (g:∀ ρ e,out.rel ρ e → out'.rel ρ e) (c:out.below nx → out'.below nx) (d:Cln n a out' h nx):Cln n a out h nx:=by
 unfold Cln at *;intro C ρ w e f S h1 b;exact d C ρ w e f S (g ρ e h1) (c b)
end
end Sx
namespace Go.Proofs.YtfnkamphhpldcaaGreatDoor
open Go Sx
set_option maxRecDepth 100000
def lnF1 (s:Stp) (x:Ln):Ln:=if s.1 = 1 then foldL x else if s.1 = 2 then zq1 x else if s.1 = 3 then zqq s.2 x else limL s.2 x
def lnF (t:List Stp) (x:Ln):Ln:=t.foldl (fun x s=>lnF1 s x) x
theorem zoi:∀ (t:List Stp) (v:Val),v.lost = false → (∀ s ∈ t,1 ≤ s.1 ∧ s.1 ≤ 4) → runS t v = { v with lines:=v.lines.map (lnF t) }
 |[],v,_,_=>by
  have:(lnF []:Ln → Ln) = id:=rfl;rw [this,qcz]; rfl
 |s :: r,v,hv,h=>by
  have a:=h s (by simp)
  have h1:runS (s :: r) v = runS r (stepS s v):=by
   show runS r (if v.lost = true then v else stepS s v) = _;rw [hv]; rfl
  have b:stepS s v = { v with lines:=v.lines.map (lnF1 s) }:=by
   obtain ⟨k,n⟩:=s;replace a:1 ≤ k ∧ k ≤ 4:=a;have c:k = 1 ∨ k = 2 ∨ k = 3 ∨ k = 4:=by omega
   rcases c with rfl | rfl | rfl | rfl<;>rfl
  rw [h1,b,zoi r { v with lines:=v.lines.map (lnF1 s) } hv (fun x d=>h x (by simp [d]))];show _ = ({ v with lines:=v.lines.map (lnF r ∘ lnF1 s) }:Val);rw [← q9]
def StOk (p:Int) (t:List Stp):Prop:=t = [(6,0)] ∨ (zbb p t = true ∧ ∀ s ∈ t,s.1 ≠ 6)
theorem z2r {p:Int} (a:1 ≤ p ∧ p ≤ 8):∀ m ∈ nfs p,m = [(6,0)] ∨ ∀ s ∈ m,s.1 ≠ 6:=by
 rcases p8 a with rfl | rfl | rfl | rfl | rfl | rfl | rfl | rfl<;>decide +kernel
theorem yay {p:Int} {t:List Stp} (h:zbb p t = true) (a:normS t = t):StOk p t:=by
 have h1:=z2r (zlq h) t (by rw [← a]; exact z98 h);rcases h1 with h1 | h1
 ·exact .inl h1
 ·exact .inr ⟨h,h1⟩
theorem zbe {p:Int} {a:List Kp} (c:a.all zbi = true) (d:1 ≤ p ∧ p ≤ 8):StOk p (zak p a) ∧ zbb p (zak p a) = true ∧ normS (zak p a) = zak p a ∧ (p = 4 → 0 < (zak p a).length → zak p a = [(6,0)]) ∧ (nameK p = false → zak p a = []):=by
 have b:StOk p [] ∧ zbb p [] = true ∧ normS [] = [] ∧ (p = 4 → 0 < ([]:List Stp).length → ([]:List Stp) = [(6,0)]) ∧ (nameK p = false → ([]:List Stp) = []):=
  ⟨.inr ⟨nilV d,by simp⟩,nilV d,by decide,(fun _ h=>absurd h (by simp)),fun _=>rfl⟩
 induction a with
 |nil=>exact b
 |cons k r ih=>
  rw [qbw,qf] at c;rw [zak];split
  ·rename_i e;have h:=c.1;simp only [zbi,qf,yy,decide_eq_true_eq,qan,decide_eq_false_iff_not] at h;rw [e] at h;exact ⟨yay h.2.2.1 h.2.2.2.1,h.2.2.1,h.2.2.2.1,fun f _=>h.2.2.2.2.resolve_left (fun g=>g f),fun i=>absurd (h.1.symm.trans i) (by simp)⟩
  ·exact ih c.2
theorem zso {p:Int} {t:List Stp} (h:zbb p t = true) (b:∀ s ∈ t,s.1 ≠ 6) (d:p = 1 ∨ p = 2 ∨ p = 3):∀ s ∈ t,1 ≤ s.1 ∧ s.1 ≤ 4:=by
 intro s a;have h1:=zcs (k:=s.1) (n:=s.2) (zlq h) (zg7 h s a);have c:=b s a;omega
theorem z9x {p:Int} {s:Stp} (g:p = 1 ∨ p = 2 ∨ p = 3) (f:zbs p s = true) (b:s.1 ≠ 6) {x:Ln} (a:lnOk p [] x):lnOk p [] (lnF1 s x) ∧ (lnF1 s x).2.take 2 = if p = 3 then x.2.take 2 else (lnF1 s x).2.take 2:=by
 obtain ⟨k,n⟩:=s;have h1:=zcs (k:=k) (n:=n) (by omega) f;replace b:k ≠ 6:=b;rcases h1 with ⟨rfl,rfl,rfl⟩ | ⟨rfl,rfl,rfl⟩ | ⟨rfl,c,d⟩ | ⟨rfl,rfl,d⟩ | ⟨rfl,c,rfl⟩ | ⟨rfl,rfl⟩
 ·exact ⟨zxw rfl [] x a,rfl⟩
 ·exact ⟨zu1 rfl [] x a,rfl⟩
 ·have e:p = 3:=by omega
  subst e;exact ⟨zup (.inl rfl) (by omega) [] x a,zog n x.2⟩
 ·exact ⟨zt5 rfl [] x a,rfl⟩
 ·omega
 ·exact absurd rfl b
theorem zt7 {p:Int} (c:p = 1 ∨ p = 2 ∨ p = 3):∀ (t:List Stp),(∀ s ∈ t,zbs p s = true ∧ s.1 ≠ 6) → ∀ x:Ln,lnOk p [] x → lnOk p [] (lnF t x) ∧ (p = 3 → (lnF t x).2.take 2 = x.2.take 2)
 |[],_,x,hx=>⟨hx,fun _=>rfl⟩
 |s :: r,h,x,hx=>by
  have h1:=z9x c (h s (by simp)).1 (h s (by simp)).2 hx;have a:=zt7 c r (fun y d=>h y (by simp [d])) _ h1.1;refine ⟨a.1,fun b=>(a.2 b).trans ?_⟩;have:=h1.2
  rwa [if_pos b] at this
def lineR (t m:List Stp) (l:DLn):DLn:=(if t = [(6,0)] then [] else (lnF t (l.1,[])).1,if m = [(6,0)] then 0 else (lnF m ([],[l.2])).2.headD 0)
def cellR (k:List Stp) (c:Cel):Cel:=if c.sum = true then c else ⟨c.row,c.col,false,if k = [(6,0)] then 0 else (lnF k ([],[c.row,c.col,c.value])).2.getD 2 0,c.top,c.left⟩
theorem zyl {l:DLn}:dlnOk l = true ↔ lnOk 1 [] (l.1,[]) ∧ lnOk 2 [] ([],[l.2]):=by
 unfold dlnOk lnOk;rw [if_pos rfl,if_neg (by decide)];simp only [qf,decide_eq_true_eq,qan,inRW];constructor
 ·rintro ⟨⟨h1,a⟩,b⟩;exact ⟨⟨tv,h1,a⟩,tv,rfl,⟨b,tv⟩,fun h=>absurd rfl h⟩
 ·rintro ⟨⟨_,h1,a⟩,_,_,⟨b,_⟩,_⟩;exact ⟨⟨h1,a⟩,b⟩
theorem z9u {x:Ln} (h:lnOk 1 [] x):x = (x.1,[]):=by
 unfold lnOk at h;rw [if_pos rfl] at h;exact Prod.ext rfl h.1
theorem z9v {x:Ln} (h:lnOk 2 [] x):x = ([],[x.2.headD 0]):=by
 unfold lnOk at h;rw [if_neg (by decide)] at h;obtain ⟨s,n⟩:=x;obtain ⟨h1,a,_⟩:=h
 match n,a with
 |[z],_=>exact Prod.ext h1 rfl
theorem z9w {x:Ln} (h:lnOk 3 [] x):x = ([],[x.2.getD 0 0,x.2.getD 1 0,x.2.getD 2 0]):=by
 unfold lnOk at h;rw [if_neg (by decide)] at h;obtain ⟨s,n⟩:=x;obtain ⟨h1,d,_⟩:=h
 match n,d with
 |[a,b,c],_=>exact Prod.ext h1 rfl
theorem zz9 {p:Int} {t:List Stp} (h:zbb p t = true) (b:∀ s ∈ t,s.1 ≠ 6):∀ s ∈ t,zbs p s = true ∧ s.1 ≠ 6:=fun s a=>⟨zg7 h s a,b s a⟩
theorem znv {t m:List Stp} (j:StOk 1 t) (i:StOk 2 m) {l:DLn} (g:dlnOk l = true) :
  dlnOk (lineR t m l) = true ∧ (t ≠ [(6,0)] → lnF t (l.1,[]) = ((lineR t m l).1,[])) ∧ (m ≠ [(6,0)] → lnF m ([],[l.2]) = ([],[(lineR t m l).2])):=by
 obtain ⟨k,n⟩:=zyl.1 g
 have d:lnOk 1 [] ((lineR t m l).1,[]) ∧ (t ≠ [(6,0)] → lnF t (l.1,[]) = ((lineR t m l).1,[])):=by
  rcases j with rfl | ⟨c,b⟩
  ·refine ⟨?_,fun h=>absurd rfl h⟩;show lnOk 1 [] ([],[]);unfold lnOk; rw [if_pos rfl]; exact ⟨rfl,by decide,rfl⟩
  ·have h:=(zt7 (.inl rfl) t (zz9 c b) _ k).1;have a:t ≠ [(6,0)]:=fun e=>by subst e; exact b (6,0) (by simp) rfl
   have e:(lineR t m l).1 = (lnF t (l.1,[])).1:=if_neg a;rw [e,← z9u h];exact ⟨h,fun _=>rfl⟩
 have f:lnOk 2 [] ([],[(lineR t m l).2]) ∧ (m ≠ [(6,0)] → lnF m ([],[l.2]) = ([],[(lineR t m l).2])):=by
  rcases i with rfl | ⟨c,b⟩
  ·refine ⟨?_,fun h=>absurd rfl h⟩;show lnOk 2 [] ([],[0]);unfold lnOk; rw [if_neg (by decide)]; exact ⟨rfl,rfl,⟨by decide,tv⟩,fun h=>absurd rfl h⟩
  ·have h:=(zt7 (.inr (.inl rfl)) m (zz9 c b) _ n).1;have a:m ≠ [(6,0)]:=fun e=>by subst e; exact b (6,0) (by simp) rfl
   have e:(lineR t m l).2 = (lnF m ([],[l.2])).2.headD 0:=if_neg a;rw [e,← z9v h];exact ⟨h,fun _=>rfl⟩
 exact ⟨zyl.2 ⟨d.1,f.1⟩,d.2,f.2⟩
theorem z7o {c:Cel} (f:c.sum = false):celOk c = true ↔ lnOk 3 [] ([],[c.row,c.col,c.value]) ∧ c.top = 0 ∧ c.left = 0:=by
 unfold celOk lnOk;rw [f,if_neg (by decide)];simp only [qf,decide_eq_true_eq,inRW,jt,if_false];constructor
 ·rintro ⟨⟨h1,a⟩,⟨b,d⟩,e⟩;exact ⟨⟨tv,rfl,⟨h1,a,b,tv⟩,fun _ y g=>by cases g⟩,d,e⟩
 ·rintro ⟨⟨_,_,⟨h1,a,b,_⟩,_⟩,d,e⟩;exact ⟨⟨h1,a⟩,⟨b,d⟩,e⟩
theorem zcp (k:List Stp) (c:Cel):(cellR k c).sum = c.sum ∧ (cellR k c).row = c.row ∧ (cellR k c).col = c.col ∧ (cellR k c).top = c.top ∧ (cellR k c).left = c.left ∧ (c.sum = true → cellR k c = c):=by
 unfold cellR;split
 ·exact ⟨rfl,rfl,rfl,rfl,rfl,fun _=>rfl⟩
 ·rename_i h;exact ⟨by simpa using (Bool.not_eq_true _ ▸ h:c.sum = false).symm,rfl,rfl,rfl,rfl,fun h1=>absurd h1 h⟩
theorem zs7 {k:List Stp} (o:StOk 3 k) {c:Cel} (n:celOk c = true) :
  celOk (cellR k c) = true ∧ (c.sum = false → k ≠ [(6,0)] → lnF k ([],[c.row,c.col,c.value]) = ([],[c.row,c.col,(cellR k c).value])):=by
 by_cases b:c.sum = true
 ·rw [(zcp k c).2.2.2.2.2 b];exact ⟨n,fun h=>absurd (b.symm.trans h) (by simp)⟩
 ·have b:c.sum = false:=by simpa using b
  obtain ⟨i,q,p⟩:=(z7o b).1 n;have d:(cellR k c).sum = false:=(zcp k c).1.trans b;have l:cellR k c = ⟨c.row,c.col,false,if k = [(6,0)] then 0 else (lnF k ([],[c.row,c.col,c.value])).2.getD 2 0,c.top,c.left⟩:=by rw [cellR,b]; rfl
  have f:lnOk 3 [] ([],[c.row,c.col,(cellR k c).value]) ∧ (k ≠ [(6,0)] → lnF k ([],[c.row,c.col,c.value]) = ([],[c.row,c.col,(cellR k c).value])):=by
   rcases o with rfl | ⟨s,m⟩
   ·have e:(cellR [(6,0)] c).value = 0:=by rw [l]; rfl
    rw [e];refine ⟨?_,fun h=>absurd rfl h⟩;unfold lnOk at i ⊢;rw [if_neg (by decide)] at i ⊢;obtain ⟨_,_,⟨h1,a,_⟩,_⟩:=i;exact ⟨rfl,rfl,⟨h1,a,show (-1000000:Int) ≤ 0 ∧ (0:Int) ≤ 1000000 by decide,tv⟩,fun _ y u=>by cases u⟩
   ·have h:=zt7 (.inr (.inr rfl)) k (zz9 s m) _ i;have j:k ≠ [(6,0)]:=fun e=>by subst e; exact m (6,0) (by simp) rfl
    have e:(cellR k c).value = (lnF k ([],[c.row,c.col,c.value])).2.getD 2 0:=by rw [l]; exact if_neg j
    have g:=z9w h.1;have a:=h.2 rfl;rw [g] at a;have a:[(lnF k ([],[c.row,c.col,c.value])).2.getD 0 0,(lnF k ([],[c.row,c.col,c.value])).2.getD 1 0] = [c.row,c.col]:=a;simp only [List.cons.injEq,and_true] at a;rw [a.1,a.2,← e] at g;exact ⟨by rw [← g]; exact h.1,fun _=>g⟩
  refine ⟨(z7o d).2 ⟨?_,?_,?_⟩,fun _=>f.2⟩
  ·rw [(zcp k c).2.1,(zcp k c).2.2.1]; exact f.1
  ·rw [(zcp k c).2.2.2.1]; exact q
  ·rw [(zcp k c).2.2.2.2.1]; exact p
theorem zrc:∀ l m:List Cel,l.map (fun c=>(c.row,c.col)) = m.map (fun c=>(c.row,c.col)) → ascF l = ascF m
 |[],[],_=>rfl
 |[],_ :: _,h=>by simp at h
 |_ :: _,[],h=>by simp at h
 |[_],[_],_=>rfl
 |[_],_ :: _ :: _,h=>by simp at h
 |_ :: _ :: _,[_],h=>by simp at h
 |a :: b :: r,a' :: d :: r',h=>by
  have ih:=zrc (b :: r) (d :: r');simp only [qv,List.cons.injEq,Prod.mk.injEq] at h ih;have e:ltC a b = ltC a' d:=by unfold ltC; rw [h.1.1,h.1.2,h.2.1.1,h.2.1.2]
  show (ltC a b && ascF (b :: r)) = (ltC a' d && ascF (d :: r'));rw [e,ih h.2]
def frzC (x:Cel × Int):Cel:=⟨x.1.row,x.1.col,false,x.2,0,0⟩
def frzR (K:List Cel) (o:List Int):List Cel:=(K.zip o).map frzC
def runD (a:List Kp) (d:Dc):Option Dc:=
 let K:=d.cells.map (cellR (zak 3 a))
 let L:=d.lines.map (lineR (zak 1 a) (zak 2 a))
 let v:=if zak 7 a = [(6,0)] then loseV else runS (zak 7 a) (zci 7 d)
 if 0 < (zak 4 a).length then
  if (valsF K).all (fun n=>inR n (-1000000) 1000000) = true then some ⟨L,frzR K (valsF K),v.w,v.bits⟩ else none
 else some ⟨L,K,v.w,v.bits⟩
theorem run5:∀ (b:List Stp) (v u:Val),(∀ s ∈ b,s.1 = 5) → v.lost = false → v.lines = [] → u.lost = false → u.lines = [] → u.bits = [] → u.w = v.w → u.h = v.h →
  (runS b v).lost = false ∧ (runS b v).lines = [] ∧ runS b u = ⟨false,[],(runS b v).w,(runS b v).h,[]⟩
 |[],v,u,_,h1,h2,h3,h4,h5,h6,h7=>by
  obtain ⟨i,d,j,g,f⟩:=u;refine ⟨h1,h2,?_⟩;show (⟨i,d,j,g,f⟩:Val) = ⟨false,[],v.w,v.h,[]⟩;simp only at h3 h4 h5 h6 h7;rw [h3,h4,h5,h6,h7]
 |s :: r,v,u,hb,h1,h2,h3,h4,h5,h6,h7=>by
  have a:=hb s (by simp)
  have e:∀ x:Val,x.lost = false → runS (s :: r) x = runS r (halV x):=fun x c=>by
   show runS r (if x.lost = true then x else stepS s x) = _;rw [c];obtain ⟨k,n⟩:=s;replace a:k = 5:=a;subst a; rfl
  rw [e v h1,e u h3];refine run5 r (halV v) (halV u) (fun x c=>hb x (by simp [c])) rfl rfl rfl rfl ?_ ?_ ?_
  ·show (if u.bits = [] then [] else _) = [];rw [if_pos h5]
  ·show (u.w + 1) / 2 = (v.w + 1) / 2; rw [h6]
  ·show (u.h + 1) / 2 = (v.h + 1) / 2; rw [h7]
theorem ycx {v:Val} (n:VOK 7 v) (l:v.lost = false):hgt v.w v.bits = v.h ∧ rasOk v.w v.bits = true:=by
 obtain ⟨_,o,k,j⟩:=zit n l (.inr rfl);rw [if_pos rfl] at j;obtain ⟨a,c⟩:=j;have b:inR v.w 0 32 = true:=inRW.2 o;have d:v.bits.all bitK = true:=c;by_cases e:v.w = 0
 ·have g:v.h = 0:=by rw [e] at k; omega
  have i:v.bits = []:=by
   rw [e,Int.zero_mul] at a;exact y9.1 (by omega)
  have f:hgt v.w v.bits = 0:=by rw [hgt,if_pos (by omega)]
  refine ⟨by rw [f,g],?_⟩;rw [rasOk,b,d,e,i]; rfl
 ·have m:min v.w 1 = 1:=by omega
  have f:hgt v.w v.bits = v.h:=by rw [hgt,if_neg (by omega),a,qc1 _ e]
  refine ⟨f,?_⟩;rw [m] at k;rw [rasOk,b,d,f,decide_eq_true (show 0 < v.w by omega),decide_eq_true a,inRW.2 (show 1 ≤ v.h ∧ v.h ≤ 32 by omega)];simp
theorem yaz {b:List Stp} (h:zbb 7 b = true) (c:∀ s ∈ b,s.1 ≠ 6):∀ s ∈ b,s.1 = 5:=by
 intro s a;have h1:=zcs (k:=s.1) (n:=s.2) (by omega) (zg7 h s a);have d:=c s a;omega
def rasV (b:List Stp) (d:Dc):Val:=if b = [(6,0)] then loseV else runS b (zci 7 d)
theorem zzi {b:List Stp} (o:StOk 7 b) {d:Dc} (p:docOk d = true):rasOk (rasV b d).w (rasV b d).bits = true ∧
  (b ≠ [(6,0)] → runS b (zci 7 d) = ⟨false,[],(rasV b d).w,hgt (rasV b d).w (rasV b d).bits,(rasV b d).bits⟩ ∧ runS b (zci 6 d) = ⟨false,[],(rasV b d).w,hgt (rasV b d).w (rasV b d).bits,[]⟩):=by
 rcases o with rfl | ⟨m,l⟩
 ·exact ⟨show rasOk 0 [] = true by decide,fun h=>absurd rfl h⟩
 ·have j:b ≠ [(6,0)]:=fun e=>by subst e; exact l (6,0) (by simp) rfl
  have e:rasV b d = runS b (zci 7 d):=if_neg j;have n:=yaz m l;have g:=run5 b (zci 7 d) (zci 6 d) n rfl rfl rfl rfl rfl rfl rfl;have k:=ydg m (zhw (by omega) p);have i:=ycx k g.1;rw [e];refine ⟨i.2,fun _=>⟨?_,?_⟩⟩
  ·rw [i.1];have h1:=g.1;have f:=g.2.1
   revert h1 f
   generalize runS b (zci 7 d) = v;intro h1 f;obtain ⟨a,b,c,d,e⟩:=v;simp only at h1 f;rw [h1,f]
  ·rw [i.1]; exact g.2.2
theorem zw6 {n:Int} (h:-1000000 ≤ n ∧ n ≤ 1000000):zd2 n = n:=by
 unfold zd2;rw [if_neg (show ¬ (-1000000000000 > n) by omega),if_neg (by omega)]
theorem zls:∀ (l d:List Cel) (o:List Int),(∀ c ∈ l,c.sum = false ∧ -1000000 ≤ c.value ∧ c.value ≤ 1000000) → valsA l d o = o ++ l.map (·.value)
 |[],_,o,_=>by simp [valsA]
 |c :: r,d,o,h=>by
  have a:=h c (by simp);rw [valsA,zls r _ _ (fun x b=>h x (by simp [b]))]
  have e:valF d o c = c.value:=by
   rw [valF,a.1];exact zw6 a.2
  rw [e]; simp
theorem z7p {a:List Kp} (b:a.all zbi = true) {p:Int} (c:1 ≤ p ∧ p ≤ 8):zbb p (zb4 a p) = true ∧ normS (zb4 a p) = zb4 a p:=by
 have i:zbb p [(6,0)] = true ∧ normS [(6,0)] = [(6,0)]:=by
  refine ⟨?_,by decide⟩;rcases p8 c with rfl | rfl | rfl | rfl | rfl | rfl | rfl | rfl<;>decide
 by_cases d:p = 3
 ·subst d;by_cases g:decide (0 < (zak 4 a).length) = true
  ·rw [ziw (.inl ⟨rfl,rfl⟩) g]; exact i
  ·rw [zix (.inl ⟨rfl,rfl⟩) (by simpa using g)];have:=zbe b c;exact ⟨this.2.1,this.2.2.1⟩
 ·by_cases e:p = 5
  ·subst e;by_cases g:decide (0 < (zak 3 a).length) = true
   ·rw [ziw (.inr ⟨rfl,rfl⟩) g]; exact i
   ·rw [zix (.inr ⟨rfl,rfl⟩) (by simpa using g)];have:=zbe b c;exact ⟨this.2.1,this.2.2.1⟩
  ·by_cases f:p = 6
   ·subst f;rw [zrk];have h:=zbe b (p:=7) (by omega);refine ⟨z7d (by omega) ?_ ?_,h.2.2.1⟩
    ·exact (zlr h.2.1).2.1
    ·intro s j;have h1:=(zcs (p:=7) (k:=s.1) (n:=s.2) (by omega) (zg7 h.2.1 s j))
     obtain ⟨k,n⟩:=s;rcases h1 with ⟨_,h,_⟩ | ⟨_,h,_⟩ | ⟨_,h,_⟩ | ⟨_,h,_⟩ | ⟨rfl,_,rfl⟩ | ⟨rfl,rfl⟩
     ·omega
     ·omega
     ·omega
     ·omega
     ·decide
     ·decide
   ·rw [zhf d e f];have:=zbe b c;exact ⟨this.2.1,this.2.2.1⟩
theorem zrj {a:List Kp} (c:a.all zbi = true):clOk (zbh a) 1 = true:=by
 have h:∀ (n:Nat) (i:Nat),i + n ≤ 8 → clOk ((List.range' i n).map fun k:Nat=>((k:Int) + 1,zb4 a ((k:Int) + 1))) ((i:Int) + 1) = true:=by
  intro n
  induction n with
  |zero=>intro i _; rfl
  |succ n ih=>
   intro i d;have h1:=ih (i + 1) (by omega);have b:=z7p c (p:=(i:Int) + 1) (by omega);rw [List.range'_succ,qv,clOk,clAt];simp only [b.1,decide_eq_true b.2,decide_true,qab];exact h1
 have:=h 8 0 (by omega);rw [zbh,List.range_eq_range'];exact this
theorem z8f {p:Int} {a:List Kp} (h:¬ 0 < (zak p a).length):zak p a = []:=y9.1 (by omega)
theorem zo6 (c:Cel):cellR [] c = c:=by
 by_cases h:c.sum = true
 ·exact (zcp [] c).2.2.2.2.2 h
 ·have h:c.sum = false:=by simpa using h
  obtain ⟨a,b,s,v,t,l⟩:=c;replace h:s = false:=h;subst h; rfl
theorem z04 (k:List Stp) (K:List Cel):(K.map (cellR k)).map (fun c=>(c.row,c.col)) = K.map (fun c=>(c.row,c.col)):=by
 rw [q9];refine q8 fun c _=>?_
 have:=zcp k c;exact Prod.ext this.2.1 this.2.2.1
theorem zxy {K:List Cel} {o:List Int} (h:K.length ≤ o.length):(frzR K o).map (fun c=>(c.row,c.col)) = K.map (fun c=>(c.row,c.col)):=by
 have h1:=List.map_fst_zip h
 conv=>rhs; rw [← h1]
 rw [frzR,q9,q9]; rfl
theorem cells_ok {k:List Stp} (e:StOk 3 k) {d:Dc} (b:docOk d = true):ascF (d.cells.map (cellR k)) = true ∧ ∀ c ∈ d.cells.map (cellR k),celOk c = true:=by
 have h:=zbf b;refine ⟨(zrc _ _ (z04 k d.cells)).trans h.asc,fun c a=>?_⟩;obtain ⟨x,f,rfl⟩:=qz.1 a;exact (zs7 e (h.cel x f)).1
theorem znw {t m:List Stp} (e:StOk 1 t) (c:StOk 2 m) {d:Dc} (a:docOk d = true):(d.lines.map (lineR t m)).all dlnOk = true:=by
 have h:=zbf a;rw [qo];intro l b;obtain ⟨x,f,rfl⟩:=qz.1 b;exact (znv e c (h.ln x f)).1
theorem ycs {K:List Cel} {o:List Int} (k:o.length = K.length) (g:ascF K = true) (h:∀ c ∈ K,celOk c = true) (i:∀ n ∈ o,inR n (-1000000) 1000000 = true) :
  ascF (frzR K o) = true ∧ (∀ c ∈ frzR K o,celOk c = true) ∧ (frzR K o).length = K.length:=by
 refine ⟨(zrc _ _ (zxy (by omega))).trans g,fun c j=>?_,by rw [frzR,qa,qak]; omega⟩;obtain ⟨⟨a,n⟩,h1,rfl⟩:=qz.1 j;obtain ⟨d,e⟩:=qc9 h1;have b:=h a d;have f:=i n e;unfold celOk at b ⊢;simp only [qf] at b;show ((inR a.row 0 31 && inR a.col 0 31) && ((inR n (-1000000) 1000000 && true) && true)) = true;rw [b.1.1,b.1.2,f]; rfl
theorem zgy {L:List DLn} {K:List Cel} {w:Int} {s:List UInt8} (h1:L.length ≤ 64) (a:K.length ≤ 64) (b:ascF K = true) (d:L.all dlnOk = true) (e:∀ c ∈ K,celOk c = true) (f:rasOk w s = true):docOk ⟨L,K,w,s⟩ = true:=by
 show (((((decide (L.length ≤ 64) && decide (K.length ≤ 64)) && ascF K) && L.all dlnOk) && K.all celOk) && rasOk w s) = true;rw [decide_eq_true h1,decide_eq_true a,b,d,f,qo.2 e]; rfl
def midD (a:List Kp) (d:Dc):Dc:=⟨d.lines.map (lineR (zak 1 a) (zak 2 a)),d.cells.map (cellR (zak 3 a)),d.w,d.bits⟩
theorem z7u {e:List Kp} (b:e.all zbi = true) {d:Dc} (a:docOk d = true):docOk (midD e d) = true:=by
 have h:=zbf a;have c:=cells_ok (zbe b (p:=3) (by omega)).1 a;exact zgy (by rw [qa]; exact h.lines) (by rw [qa]; exact h.cells) c.1 (znw (zbe b (p:=1) (by omega)).1 (zbe b (p:=2) (by omega)).1 a) c.2 h.ras
theorem zmw {a:List Kp} {d e:Dc} (b:runD a d = some e):∃ K,e = ⟨(midD a d).lines,K,(rasV (zak 7 a) d).w,(rasV (zak 7 a) d).bits⟩ ∧
  ((¬ 0 < (zak 4 a).length ∧ K = (midD a d).cells) ∨ (0 < (zak 4 a).length ∧ (∀ n ∈ valsF (midD a d).cells,inR n (-1000000) 1000000 = true) ∧ K = frzR (midD a d).cells (valsF (midD a d).cells))):=by
 rw [runD] at b;split at b
 ·rename_i c;split at b
  ·rename_i f;exact ⟨_,(Option.some.inj b).symm,.inr ⟨c,qo.1 f,rfl⟩⟩
  ·cases b
 ·rename_i c;exact ⟨_,(Option.some.inj b).symm,.inl ⟨c,rfl⟩⟩
theorem zzr {i:List Kp} (f:i.all zbi = true) {d e:Dc} (c:docOk d = true) (j:runD i d = some e):docOk e = true:=by
 obtain ⟨K,rfl,h⟩:=zmw j;have a:=zbf (z7u f c);have g:=(zzi (zbe f (p:=7) (by omega)).1 c).1;rcases h with ⟨_,rfl⟩ | ⟨_,k,rfl⟩
 ·exact zgy a.lines a.cells a.asc (qo.2 a.ln) a.cel g
 ·have b:=ycs (zdh _) a.asc a.cel k;exact zgy a.lines (by rw [b.2.2]; exact a.cells) b.1 (qo.2 a.ln) b.2.1 g
theorem z7e {K:List Cel} (e:∀ n ∈ valsF K,inR n (-1000000) 1000000 = true):valsF (frzR K (valsF K)) = valsF K:=by
 have h:∀ c ∈ frzR K (valsF K),c.sum = false ∧ -1000000 ≤ c.value ∧ c.value ≤ 1000000:=fun c d=>by
  obtain ⟨⟨a,n⟩,h1,rfl⟩:=qz.1 d;exact ⟨rfl,inRW.1 (e n (qc9 h1).2)⟩
 have h1:=zls _ [] [] h;rw [valsF,h1,qw,frzR,q9];have b:(Cel.value ∘ frzC) = Prod.snd:=rfl;show List.map (Cel.value ∘ frzC) _ = _;rw [b,List.map_snd_zip (by rw [zdh]; exact qm _)]
theorem yea {K d:List Cel} {o:List Int} (h:d.map (fun c=>(c.row,c.col)) = K.map (fun c=>(c.row,c.col))):((d.zip o).map fun x=>(([],[x.1.row,x.1.col,x.2]):Ln)) = (K.zip o).map fun x=>([],[x.1.row,x.1.col,x.2]):=by
 induction d generalizing K o with
 |nil=>cases K with
  |nil=>rfl
  |cons _ _=>simp at h
 |cons a r ih=>cases K with
  |nil=>simp at h
  |cons b s=>
   simp only [qv,List.cons.injEq,Prod.mk.injEq] at h;cases o with
   |nil=>rfl
   |cons n o=>simp only [qb3,qv,h.1.1,h.1.2,ih h.2]
theorem val1 {t m:List Stp} (c:StOk 1 t) (h:StOk 2 m) {d:Dc} (f:docOk d = true) (b:t ≠ [(6,0)]) (K:List Cel) (w:Int) (s:List UInt8):runS t (zci 1 d) = zci 1 ⟨d.lines.map (lineR t m),K,w,s⟩:=by
 have e:=zbf f;have a:=c.resolve_left b;rw [zoi _ _ rfl (zso a.1 a.2 (.inl rfl))];show (⟨false,(d.lines.map fun l=>(l.1,[])).map (lnF t),0,0,[]⟩:Val) = ⟨false,(d.lines.map (lineR t m)).map (fun l=>(l.1,[])),0,0,[]⟩;rw [q9,q9]
 congr 1
 exact q8 fun l g=>(znv c h (e.ln l g)).2.1 b
theorem val2 {t m:List Stp} (h:StOk 1 t) (c:StOk 2 m) {d:Dc} (f:docOk d = true) (b:m ≠ [(6,0)]) (K:List Cel) (w:Int) (s:List UInt8):runS m (zci 2 d) = zci 2 ⟨d.lines.map (lineR t m),K,w,s⟩:=by
 have e:=zbf f;have a:=c.resolve_left b;rw [zoi _ _ rfl (zso a.1 a.2 (.inr (.inl rfl)))];show (⟨false,(d.lines.map fun l=>([],[l.2])).map (lnF m),0,0,[]⟩:Val) = ⟨false,(d.lines.map (lineR t m)).map (fun l=>([],[l.2])),0,0,[]⟩;rw [q9,q9]
 congr 1
 exact q8 fun l g=>(znv h c (e.ln l g)).2.2 b
theorem val3 {k:List Stp} (h:StOk 3 k) {d:Dc} (j:docOk d = true) (g:k ≠ [(6,0)]) (L:List DLn) (w:Int) (s:List UInt8):runS k (zci 3 d) = zci 3 ⟨L,d.cells.map (cellR k),w,s⟩:=by
 have i:=zbf j;have e:=h.resolve_left g;rw [zoi _ _ rfl (zso e.1 e.2 (.inr (.inr rfl)))];show (⟨false,((d.cells.filter (keepQ false)).map fun c=>([],[c.row,c.col,c.value])).map (lnF k),0,0,[]⟩:Val) = ⟨false,((d.cells.map (cellR k)).filter (keepQ false)).map (fun c=>([],[c.row,c.col,c.value])),0,0,[]⟩
 have l:(keepQ false ∘ cellR k) = keepQ false:=by
  funext c
  show ((cellR k c).sum == false) = (c.sum == false);rw [(zcp _ c).1]
 rw [List.filter_map,l,q9,q9]
 congr 1
 refine q8 fun c n=>?_
 obtain ⟨a,b⟩:=qck.1 n;have m:c.sum = false:=by simpa [keepQ] using b
 have f:=zcp k c;show lnF k ([],[c.row,c.col,c.value]) = ([],[(cellR k c).row,(cellR k c).col,(cellR k c).value]);rw [f.2.1,f.2.2.1];exact (zs7 h (i.cel c a)).2 m g
theorem zsc {a:List Kp} (g:a.all zbi = true) {d e:Dc} (i:docOk d = true) (q:runD a d = some e) {p:Int} (u:1 ≤ p ∧ p ≤ 8) :
  zb4 a p = [(6,0)] ∨ runS (zb4 a p) (zci p d) = zci p e:=by
 obtain ⟨K,rfl,h⟩:=zmw q;have G:=zbf i;have n:=zbe g (p:=1) (by omega);have o:=zbe g (p:=2) (by omega);have A:=zbe g (p:=3) (by omega);have B:=zbe g (p:=4) (by omega);have D:=zbe g (p:=5) (by omega);have E:=zbe g (p:=7) (by omega);have s8:=zbe g (p:=8) (by omega);have m:=(zzi E.1 i).2
 have l:K.length = d.cells.length:=by
  rcases h with ⟨_,rfl⟩ | ⟨_,_,rfl⟩
  ·exact qa _
  ·rw [frzR,qa,qak,zdh,qdk]; exact qa _
 rcases p8 u with rfl | rfl | rfl | rfl | rfl | rfl | rfl | rfl
 ·rw [zhf (by omega) (by omega) (by omega)];by_cases b:zak 1 a = [(6,0)]
  ·exact .inl b
  ·exact .inr (val1 n.1 o.1 i b _ _ _)
 ·rw [zhf (by omega) (by omega) (by omega)];by_cases b:zak 2 a = [(6,0)]
  ·exact .inl b
  ·exact .inr (val2 n.1 o.1 i b _ _ _)
 ·rcases h with ⟨f,rfl⟩ | ⟨f,-,rfl⟩
  ·rw [zix (.inl ⟨rfl,rfl⟩) (decide_eq_false f)];by_cases b:zak 3 a = [(6,0)]
   ·exact .inl b
   ·exact .inr (val3 A.1 i b _ _ _)
  ·exact .inl (ziw (.inl ⟨rfl,rfl⟩) (decide_eq_true f))
 ·rw [zhf (by omega) (by omega) (by omega)];rcases h with ⟨f,rfl⟩ | ⟨f,-,rfl⟩
  ·right;rw [z8f f];show (⟨false,(d.cells.filter (keepQ true)).map (fun c=>([],[c.row,c.col,c.top,c.left])),0,0,[]⟩:Val) = ⟨false,((d.cells.map (cellR (zak 3 a))).filter (keepQ true)).map (fun c=>([],[c.row,c.col,c.top,c.left])),0,0,[]⟩
   have w:(keepQ true ∘ cellR (zak 3 a)) = keepQ true:=by
    funext c
    show ((cellR (zak 3 a) c).sum == true) = (c.sum == true);rw [(zcp _ c).1]
   rw [List.filter_map,w,q9]
   congr 1
   refine q8 fun c I=>?_
   have j:=zcp (zak 3 a) c;show ([],[c.row,c.col,c.top,c.left]) = (([],[(cellR (zak 3 a) c).row,(cellR (zak 3 a) c).col,(cellR (zak 3 a) c).top,(cellR (zak 3 a) c).left]):Ln);rw [j.2.1,j.2.2.1,j.2.2.2.1,j.2.2.2.2.1]
  ·exact .inl (B.2.2.2.1 rfl f)
 ·by_cases k:0 < (zak 3 a).length
  ·exact .inl (ziw (.inr ⟨rfl,rfl⟩) (decide_eq_true k))
  ·right;rw [zix (.inr ⟨rfl,rfl⟩) (decide_eq_false k),D.2.2.2.2 rfl]
   have s:(midD a d).cells = d.cells:=by
    show d.cells.map (cellR (zak 3 a)) = _;rw [z8f k]
    conv=>rhs; rw [← qcz d.cells]
    exact q8 fun c _=>zo6 c
   rw [s] at h;show (⟨false,(d.cells.zip (valsF d.cells)).map (fun x=>([],[x.1.row,x.1.col,x.2])),0,0,[]⟩:Val) = ⟨false,(K.zip (valsF K)).map (fun x=>([],[x.1.row,x.1.col,x.2])),0,0,[]⟩
   congr 1
   rcases h with ⟨_,rfl⟩ | ⟨_,y,rfl⟩
   ·rfl
   ·rw [z7e y];exact (yea (zxy (by rw [zdh]; exact qm _))).symm
 ·rw [zrk];by_cases b:zak 7 a = [(6,0)]
  ·exact .inl b
  ·exact .inr (m b).2
 ·rw [zhf (by omega) (by omega) (by omega)];by_cases b:zak 7 a = [(6,0)]
  ·exact .inl b
  ·exact .inr (m b).1
 ·right;rw [zhf (by omega) (by omega) (by omega),s8.2.2.2.2 rfl];show (⟨false,[],(d.lines.length:Int),(d.cells.length:Int),[]⟩:Val) = ⟨false,[],((d.lines.map (lineR (zak 1 a) (zak 2 a))).length:Int),(K.length:Int),[]⟩;rw [qa,l]
theorem run_make {m:Mig} (j:migOk m = true) {d e:Dc} (c:docOk d = true) (n:runD m.keep d = some e):zdq m d e = true:=by
 have f:m.keep.all zbi = true:=by
  simp only [migOk,qf] at j;exact j.2.2.2.2.2
 have l:=zzr f c n
 have g:(zbh m.keep).all (chkAt (allB d) (allB e)) = true:=by
  rw [qo];intro x s;obtain ⟨k,i,rfl⟩:=qz.1 s;have a:k < 8:=qcr.1 i;have b:1 ≤ (k:Int) + 1 ∧ (k:Int) + 1 ≤ 8:=by omega
  unfold chkAt;rcases zsc f c n b with h | h
  ·rw [decide_eq_true (show ((k:Int) + 1,zb4 m.keep ((k:Int) + 1)).2 = [(6,0)] from h)]; rfl
  ·have o:atV (allB d) ((k:Int) + 1) = propB ((k:Int) + 1) d:=by
    unfold atV;rw [show ((k:Int) + 1 - 1).toNat = k by omega,zm7 d k a]; rfl
   have p:atV (allB e) ((k:Int) + 1) = propB ((k:Int) + 1) e:=by
    unfold atV;rw [show ((k:Int) + 1 - 1).toNat = k by omega,zm7 e k a]; rfl
   have q:zdb ((k:Int) + 1) (zb4 m.keep ((k:Int) + 1)) (atV (allB d) ((k:Int) + 1)) = (atV (allB e) ((k:Int) + 1),0):=by
    rw [o,p,zh9 b,zh9 b,zka (z7p f b).1 (zhw b c),h]
   show (_ || (decide ((zdb ((k:Int) + 1) (zb4 m.keep ((k:Int) + 1)) (atV (allB d) ((k:Int) + 1))).2 = 0) && decide ((zdb ((k:Int) + 1) (zb4 m.keep ((k:Int) + 1)) (atV (allB d) ((k:Int) + 1))).1 = atV (allB e) ((k:Int) + 1)))) = true;rw [q]; simp
 rw [zh0,j,c,l,zrj f,g]; rfl
def mrd (s:List UInt8) (p:Int):Ent:=.one (.cells 228 [.str s,.int .i64 p])
theorem zbg {n:Nat} (s:List UInt8) (p:Int):(mrd s p).below n:=(SB.bB_ok rfl:SB.below n (.cells 228 [.str s,.int .i64 p]))
theorem zf3 (F:Fz) (s:List UInt8) (p n x:Int) (f:s.length ≤ 1000000000000000000) (e:i64 p) (d:getI s p = (n,x,0)) :
  Ct Tryz.prog 90 [.va (.ptr ⟨1,0,0,0,0⟩)] F [(1,mrd s p)] 2
   (fun o b c n0=>F = b ∧ n0 = 2 ∧ o = .ret (.va (.int .i64 n)) ∧ c = [(1,mrd s x)]):=by
 have a:=ztw F s p f e;rw [d] at a;refine ct_of hΘ Tryz.func90 rfl (by decide) _ _ rfl rfl rfl ?_;refine drawP hΘ mixed (lk [0,1,2,3,4,5,6,7] (.alt 8 (lk [9,10,11,12,13,14,15] .done) .nil)) [1] (by kernel_rfl) ?_;conv=>whnf
 repeat' ((conv=>whnf); first
  |refine ⟨rfl,?_⟩
  |refine ⟨Fz.r _,rfl,?_⟩
  |refine ⟨Fz.r _,rfl,rfl,?_⟩
  |refine ⟨⟨by simp,by simp⟩,?_⟩
  |fail)
 refine usePu (a) rfl (zaa _) rfl ?_;refine ⟨Fz.r F,rfl,?_⟩;refine bre (by simp) ?_;exact clean [] (.ret (.va (.int .i64 n))) F [(1,mrd s x)] 2 ⟨Fz.r F,rfl,rfl,rfl,rfl⟩ (zah _) rfl rfl trivial ⟨zbg s _,tv⟩ ⟨Fz.r F,rfl,tv⟩
theorem zyv (F:Fz) (s:List UInt8) (p x:Int) (t:List UInt8) (f:s.length ≤ 1000000000000000000) (e:i64 p) (d:getS s p = (t,x,0)) :
  Ct Tryz.prog 91 [.va (.ptr ⟨1,0,0,0,0⟩)] F [(1,mrd s p)] 2
   (fun o b c n0=>F = b ∧ n0 = 2 ∧ o = .ret (.va (.str t)) ∧ c = [(1,mrd s x)]):=by
 have a:=zlm F s p f e;rw [d] at a;refine ct_of hΘ Tryz.func91 rfl (by decide) _ _ rfl rfl rfl ?_;refine drawP hΘ mixed (lk [0,1,2,3,4,5,6,7] (.alt 8 (lk [9,10,11,12,13,14,15] .done) .nil)) [1] (by kernel_rfl) ?_;conv=>whnf
 repeat' ((conv=>whnf); first
  |refine ⟨rfl,?_⟩
  |refine ⟨Fz.r _,rfl,?_⟩
  |refine ⟨Fz.r _,rfl,rfl,?_⟩
  |refine ⟨⟨by simp,by simp⟩,?_⟩
  |fail)
 refine usePu (a) rfl (zaa _) rfl ?_;refine ⟨Fz.r F,rfl,?_⟩;refine bre (by simp) ?_;exact clean [] (.ret (.va (.str t))) F [(1,mrd s x)] 2 ⟨Fz.r F,rfl,rfl,rfl,rfl⟩ (zah _) rfl rfl trivial ⟨zbg s _,tv⟩ ⟨Fz.r F,rfl,tv⟩
def rwE {α:Type} (q:Bool) (t sz:Nat) (e:α → List SA) (c:Nat) (l:List α):Ent:=.opt (!q) (.arr t sz (l.map e) c)
theorem zuu {α:Type} {e:α → List SA} (a:Plain e) (q:Bool) (t sz c:Nat) (μ:Mu) (l:List α):(rwE q t sz e c l).ren μ = rwE q t sz e c l:=by
 show Ent.opt _ (SB.ren μ _) = _; rw [zcw a rfl]; rfl
theorem zan {α:Type} {e:α → List SA} (a:Plain e) (q:Bool) (t sz n c:Nat) (l:List α):(rwE q t sz e c l).below n:=zbd a t sz n c l
theorem zar {α:Type} {e:α → List SA} (a:Plain e) {q:Bool} {t sz c:Nat} {μ:Mu} {l:List α} {x:Option Ent} (h:subE x (rwE q t sz e c l)):subE x ((rwE q t sz e c l).ren μ):=by rw [zuu a]; exact h
theorem zao {α:Type} {e:α → List SA} (q:Bool) (t sz c:Nat) (l:List α):subE (some (rwE q t sz e c l)) (rwE q t sz e c l):=⟨rfl,rfl⟩
theorem zut {α:Type} {e:α → List SA} {q:Bool} {t sz c:Nat} {l:List α} (L:List (List SA)) (h:L = l.map e):subE (some (.one (.arr t sz L c))) (rwE q t sz e c l):=by rw [h]; exact rfl
theorem zc5 {α:Type} {e:α → List SA} (a:Plain e) {q:Bool} {t sz c:Nat} {μ ν:Mu} {l:List α}:subE (some ((rwE q t sz e c l).ren ν)) ((rwE q t sz e c l).ren μ):=by
 rw [zuu a,zuu a]; exact zao _ _ _ _ _
theorem zw9 (F:Fz) (p:Bool) (s w u:Nat) (l:List DLn) (I:Sl F 148 2 encN (.slice p 0 s w 2 l.length u) l) (y:l.length ≤ 1000) :
  Ct Tryz.prog 86 [.va (.slice p 0 s w 2 l.length u)] F [] 1
   (fun o A G n0=>F = A ∧ n0 = 2 ∧ ∃ q c,(q = true → l = []) ∧ l.length ≤ c ∧ o = .ret (.va (.slice q 1 0 0 2 l.length c)) ∧ G = [(1,rwE q 148 2 encN c l)]):=by
 obtain ⟨J,B,E,D,L,b,k,f,g,d,e⟩:=I;cases k
 rcases p with _ | _
 ·have a:=g rfl;rcases l with _ | ⟨x,r⟩
  ·refine ct_of hΘ Tryz.func86 rfl (by decide) _ _ rfl rfl rfl ?_;refine brd (by decide) ?_;refine ⟨148,L,b,a,d,[],e,rfl,rfl,rfl,by decide,fun c i=>?_⟩;exact clean [(1,2)] (.ret (.va (.slice false 1 0 0 2 0 c))) F [(1,rwE false 148 2 encN c [])] 2 ⟨Fz.r F,rfl,rfl,false,c,fun h=>(nomatch h),yj _,rfl,rfl⟩ ⟨rfl,rfl,rfl,.inr ⟨rfl,rfl,rfl,rfl⟩⟩ rfl rfl (.inr (by decide)) ⟨zan zal _ _ _ _ _ _,tv⟩ ⟨Fz.r F,zar zal (zut (q:=false) (l:=[]) _ rfl),tv⟩
  ·replace y:r.length + 1 ≤ 1000:=y;have n:(0 + ((x :: r).map encN).length) * 24 ≤ 140737488355328:=by rw [qa,qh]; omega
   refine ct_of hΘ Tryz.func86 rfl (by decide) _ _ rfl rfl rfl ?_;refine brd (by decide) ?_;refine ⟨148,L,b,a,d,(x :: r).map encN,e,rfl,rfl,rfl,n,fun c' i=>?_⟩;have j:=i;clear i;exact clean [(1,2)] (.ret (.va (.slice false 1 0 0 2 (x :: r).length c'))) F [(1,rwE false 148 2 encN c' (x :: r))] 2 ⟨Fz.r F,rfl,rfl,false,c',fun h=>(nomatch h),by simpa using j,rfl,rfl⟩ ⟨rfl,(by first | rfl | (rw [qa]; omega)),(by first | rfl | (rw [qa]; omega)),.inr ⟨rfl,rfl,rfl,rfl⟩⟩ rfl rfl (.inr (by decide)) ⟨zan zal _ _ _ _ _ _,tv⟩ ⟨Fz.r F,zar zal (zut (q:=false) (l:=x :: r) _ rfl),tv⟩
 ·have m:=f rfl;subst m;refine ct_of hΘ Tryz.func86 rfl (by decide) _ _ rfl rfl rfl ?_;refine bre (by decide) ?_;refine z7t (fun _=>trivial) ?_;exact clean [(1,1)] (.ret (.va (.slice true 1 0 0 2 0 0))) F [(1,rwE true 148 2 encN 0 [])] 2 ⟨Fz.r F,rfl,rfl,true,0,fun _=>rfl,qm _,rfl,rfl⟩ ⟨rfl,rfl,rfl⟩ rfl rfl (.inl rfl) ⟨zan zal _ _ _ _ _ _,tv⟩ ⟨Fz.r F,rfl,tv⟩
theorem zw8 (F:Fz) (p:Bool) (s w u:Nat) (l:List Cel) (I:Sl F 151 6 encK (.slice p 0 s w 6 l.length u) l) (y:l.length ≤ 1000) :
  Ct Tryz.prog 87 [.va (.slice p 0 s w 6 l.length u)] F [] 1
   (fun o A G n0=>F = A ∧ n0 = 2 ∧ ∃ q c,(q = true → l = []) ∧ l.length ≤ c ∧ o = .ret (.va (.slice q 1 0 0 6 l.length c)) ∧ G = [(1,rwE q 151 6 encK c l)]):=by
 obtain ⟨J,B,E,D,L,b,k,f,g,d,e⟩:=I;cases k
 rcases p with _ | _
 ·have a:=g rfl;rcases l with _ | ⟨x,r⟩
  ·refine ct_of hΘ Tryz.func87 rfl (by decide) _ _ rfl rfl rfl ?_;refine brd (by decide) ?_;refine ⟨151,L,b,a,d,[],e,rfl,rfl,rfl,by decide,fun c i=>?_⟩;exact clean [(1,2)] (.ret (.va (.slice false 1 0 0 6 0 c))) F [(1,rwE false 151 6 encK c [])] 2 ⟨Fz.r F,rfl,rfl,false,c,fun h=>(nomatch h),yj _,rfl,rfl⟩ ⟨rfl,rfl,rfl,.inr ⟨rfl,rfl,rfl,rfl⟩⟩ rfl rfl (.inr (by decide)) ⟨zan zad _ _ _ _ _ _,tv⟩ ⟨Fz.r F,zar zad (zut (q:=false) (l:=[]) _ rfl),tv⟩
  ·replace y:r.length + 1 ≤ 1000:=y;have n:(0 + ((x :: r).map encK).length) * 48 ≤ 140737488355328:=by rw [qa,qh]; omega
   refine ct_of hΘ Tryz.func87 rfl (by decide) _ _ rfl rfl rfl ?_;refine brd (by decide) ?_;refine ⟨151,L,b,a,d,(x :: r).map encK,e,rfl,rfl,rfl,n,fun c' i=>?_⟩;have j:=i;clear i;exact clean [(1,2)] (.ret (.va (.slice false 1 0 0 6 (x :: r).length c'))) F [(1,rwE false 151 6 encK c' (x :: r))] 2 ⟨Fz.r F,rfl,rfl,false,c',fun h=>(nomatch h),by simpa using j,rfl,rfl⟩ ⟨rfl,(by first | rfl | (rw [qa]; omega)),(by first | rfl | (rw [qa]; omega)),.inr ⟨rfl,rfl,rfl,rfl⟩⟩ rfl rfl (.inr (by decide)) ⟨zan zad _ _ _ _ _ _,tv⟩ ⟨Fz.r F,zar zad (zut (q:=false) (l:=x :: r) _ rfl),tv⟩
 ·have m:=f rfl;subst m;refine ct_of hΘ Tryz.func87 rfl (by decide) _ _ rfl rfl rfl ?_;refine bre (by decide) ?_;refine z7t (fun _=>trivial) ?_;exact clean [(1,1)] (.ret (.va (.slice true 1 0 0 6 0 0))) F [(1,rwE true 151 6 encK 0 [])] 2 ⟨Fz.r F,rfl,rfl,true,0,fun _=>rfl,qm _,rfl,rfl⟩ ⟨rfl,rfl,rfl⟩ rfl rfl (.inl rfl) ⟨zan zad _ _ _ _ _ _,tv⟩ ⟨Fz.r F,rfl,tv⟩
end Go.Proofs.YtfnkamphhpldcaaGreatDoor
