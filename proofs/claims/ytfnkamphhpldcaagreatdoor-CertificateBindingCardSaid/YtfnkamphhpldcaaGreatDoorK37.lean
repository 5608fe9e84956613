import Derived.Test.YtfnkamphhpldcaaGreatDoorK08
import Derived.Test.YtfnkamphhpldcaaGreatDoorK24
import Derived.Test.YtfnkamphhpldcaaGreatDoorK34
import Derived.Test.YtfnkamphhpldcaaGreatDoorK35
set_option maxHeartbeats 64000000
namespace Sx
open Go
theorem Sat.more{C:Ctx}{ρ:Rho}{h:Hp}{nx:Nat}{w:World}(S:Sat C ρ h nx w):Sat C ρ h (nx+1) w:=
 { S with
  lt:=fun i e a=>Nat.lt_succ_of_lt (S.lt i e a)
  wf:=fun i e a k b=>SB.below_mono (qad nx) (S.wf i e a k b)
  n0:=qa9 S.n0 }
theorem z6p{n:Nat}{a:Out->Fz->List (Nat×Ent)->Nat->Prop}{out:Out}{h:Hp}{nx:Nat}(c:out.below nx->out.below (nx+1))(d:Cln n a out h (nx+1)):Cln n a out h nx:=by
 unfold Cln at*;intro C ρ w e f S h1 b;exact d C ρ w e f S.more h1 (c b)
section
variable {C:Ctx} {ρ:Rho} {h:Hp} {nx:Nat} {w:World}
theorem Sat.swapO(s:Sat C ρ h nx w){i:Nat}{c:Bool}{b n:SB}(q:lget h i=some (.opt c b))(B:∀ρ o,b.ok ρ o->n.ok ρ o)(m:n.below nx):Sat C ρ (lput h i (.opt c n)) nx w:=by
 have A:=s.ne0 q rfl
 have g:∀j k,St.owns (lput h i (.opt c n)) j k->St.owns h j k:=by
  rintro j k ⟨x,f,l⟩;by_cases e:j=i
  ·subst e;rw[zaf]at f;cases f;exact⟨_,q,l⟩
  ·rw[zac _ _ _ _ e]at f;exact⟨_,f,l⟩
 exact{ s with
  lt:=fun j x f=>by
   by_cases e:j=i
   ·subst e;exact s.lt _ _ q
   ·rw[zac _ _ _ _ e]at f;exact s.lt _ _ f
  blk:=fun j x f k l=>by
   by_cases e:j=i
   ·subst e;rw[zaf]at f;cases f
    obtain⟨o,h1,y⟩:=s.blk _ _ q k l;exact⟨o,h1,B _ _ y⟩
   ·rw[zac _ _ _ _ e]at f;exact s.blk _ _ f k l
  wf:=fun j x f k l=>by
   by_cases e:j=i
   ·subst e;rw[zaf]at f;cases f
    exact m
   ·rw[zac _ _ _ _ e]at f;exact s.wf _ _ f k l
  inj:=fun a b c d h1 y=>s.inj a b c d (g _ _ h1) (g _ _ y)
  own:=fun a b h1=>s.own a b (g _ _ h1)
  fz:=by rw[zac _ _ _ _ (Ne.symm A)];exact s.fz
  only:=fun j F p=>by
   by_cases e:j=i
   ·subst e;rw[zaf]at p;cases p
   ·rw[zac _ _ _ _ e]at p;exact s.only _ _ p
  lnk:=fun j b u=>by
   by_cases e:j=i
   ·subst e;rw[zaf]at u;cases u
   ·rw[zac _ _ _ _ e]at u;exact s.lnk _ _ u }
theorem yb9{n:Nat}{g:Out->Fz->List (Nat×Ent)->Nat->Prop}{out:Out}(i:Nat){c:Bool}{b:SB}(d:SB)(k:lget h i=some (.opt c b))(f:∀ρ o,b.ok ρ o->d.ok ρ o)(a:d.below nx)(l:Cln n g out (lput h i (.opt c d)) nx):Cln n g out h nx:=by
 unfold Cln at*;intro C ρ w e m S h1 j;exact l C ρ w e m (S.swapO k f a) h1 j
theorem Sat.swapR(s:Sat C ρ h nx w){i:Nat}{b n:SB}(q:lget h i=some (.one b))(B:∀o,b.ok ρ o->n.ok ρ o)(m:n.below nx):Sat C ρ (lput h i (.one n)) nx w:=by
 have A:=s.ne0 q rfl
 have g:∀j k,St.owns (lput h i (.one n)) j k->St.owns h j k:=by
  rintro j k ⟨x,f,l⟩;by_cases e:j=i
  ·subst e;rw[zaf]at f;cases f;exact⟨_,q,l⟩
  ·rw[zac _ _ _ _ e]at f;exact⟨_,f,l⟩
 exact{ s with
  lt:=fun j x f=>by
   by_cases e:j=i
   ·subst e;exact s.lt _ _ q
   ·rw[zac _ _ _ _ e]at f;exact s.lt _ _ f
  blk:=fun j x f k l=>by
   by_cases e:j=i
   ·subst e;rw[zaf]at f;cases f
    obtain⟨o,h1,y⟩:=s.blk _ _ q k l;exact⟨o,h1,B _ y⟩
   ·rw[zac _ _ _ _ e]at f;exact s.blk _ _ f k l
  wf:=fun j x f k l=>by
   by_cases e:j=i
   ·subst e;rw[zaf]at f;cases f
    exact m
   ·rw[zac _ _ _ _ e]at f;exact s.wf _ _ f k l
  inj:=fun a b c d h1 y=>s.inj a b c d (g _ _ h1) (g _ _ y)
  own:=fun a b h1=>s.own a b (g _ _ h1)
  fz:=by rw[zac _ _ _ _ (Ne.symm A)];exact s.fz
  only:=fun j F p=>by
   by_cases e:j=i
   ·subst e;rw[zaf]at p;cases p
   ·rw[zac _ _ _ _ e]at p;exact s.only _ _ p
  lnk:=fun j b u=>by
   by_cases e:j=i
   ·subst e;rw[zaf]at u;cases u
   ·rw[zac _ _ _ _ e]at u;exact s.lnk _ _ u }
theorem resT{P:Program}{c:Code}{e:St}{Q:SE->St->Prop}(d:Nat){s:SV}(i:SV)(k:lget e.t d=some s)(j:s.ren (resP e.h)=i)(f:i.below e.nx)(l:WP P c { e with t:=lput e.t d i } Q):WP P c e Q:=by
 unfold WP at*;intro C ρ a w D;refine l C ρ a w { sat:=D.sat,nt:=D.nt,tm:=fun n x b=>?_,tw:=fun n x b=>?_,n0:=D.n0,df:=D.df,dw:=D.dw }
 ·by_cases g:n=d
  ·subst g;rw[zaf]at b;cases b
   obtain⟨v,o,m⟩:=D.tm n _ k;refine⟨v,o,?_⟩;rw[<-j];refine(SV.rel_ren (resP e.h) ρ s v).2 ?_;rw[zit D.sat];exact m
  ·rw[zac _ _ _ _ g]at b;exact D.tm n x b
 ·by_cases g:n=d
  ·subst g;rw[zaf]at b;cases b;exact f
  ·rw[zac _ _ _ _ g]at b;exact D.tw n x b
end
@[irreducible] def EndF {X:Type} (I:X->St) (μ:X->Nat) (x:X) (st:St):Prop:=∀C ρ a w,Den C ρ st a w->∃x',μ x' < μ x/\∃ρ',Den C ρ' (I x') a w
def LQF{X:Type}(I:X->St)(μ:X->Nat)(x:X)(Q:SE->St->Prop):SE->St->Prop:=fun e a=>
 match e with
 |.normal=>EndF I μ x a
 |.ret=>Q .ret a
 |.exit id=>Q (.exit id) a
 |.panic v=>Q (.panic v) a
section
variable {P:Program} {st:St} {Q:SE->St->Prop}
theorem z1x{X:Type}{c:Code}(I:X->St)(μ:X->Nat)(J:X)
  (h:WfH st.h st.nx->WfT st.t st.nx->Le st (I J)/\∀x,WP P c (I x) (LQF I μ x Q)):WP P (.loop c) st Q:=by
 unfold WP;intro C ρ a w D;obtain⟨G,O⟩:=h D.wfH D.wfT;unfold Le at G;obtain⟨T,K⟩:=G C ρ a w D;have j:∀a w,(∃x ρ,Den C ρ (I x) a w)->∃n,∃x ρ,μ x=n/\Den C ρ (I x) a w:=fun a w ⟨x,ρ,h⟩=>⟨μ x,x,ρ,rfl,h⟩
 let m:Act->World->Nat:=fun a w=>by
  classical exact if h:∃n,∃x ρ,μ x=n/\Den C ρ (I x) a w then Classical.choose (exists_least h)else 0
 refine wp_loop (fun a w=>∃x ρ,Den C ρ (I x) a w) m ⟨J,T,K⟩ ?_;intro a w M;have y:=j a w M;have R:m a w=Classical.choose (exists_least y):=by simp only[m];rw[dif_pos y]
 obtain⟨x,U,A,L⟩:=(Classical.choose_spec (exists_least y)).1;have i:=O x;unfold WP at i;refine wp_mono (i C U a w L) ?_;rintro e q B ⟨S,b,p,o,rfl,l⟩;cases S with
 |normal=>
  have k:EndF I μ x b:=o;unfold EndF at k;obtain⟨E,s,g,d⟩:=k C p q B l;refine⟨⟨E,g,d⟩,?_⟩;have f:=j q B ⟨E,g,d⟩;have u:m q B=Classical.choose (exists_least f):=by simp only[m];rw[dif_pos f]
  rw[R,u,<-A];exact yp ((Classical.choose_spec (exists_least f)).2 _ ⟨E,g,rfl,d⟩) s
 |ret=>exact⟨.ret,b,p,o,rfl,l⟩
 |exit id=>exact⟨.exit id,b,p,o,rfl,l⟩
 |panic v=>exact⟨.panic v,b,p,o,rfl,l⟩
theorem z4a{Θ:Tys}(hΘ:Θ.Ok P){st:St}{a:Code}{X:Type}(upd:X->List (Nat×SV))(jl:List Nat)(hup:X->List (Nat×Ent))(N:Nat)(μ:X->Nat)(d:X)
  (e:WfH st.h st.nx->WfT st.t st.nx->Le st (LI st upd jl hup N d))
  (f:∀x,WfH st.h st.nx->WfT st.t st.nx->sx P Θ a (LI st upd jl hup N x) (LQF (LI st upd jl hup N) μ x Q)):WP P (.loop a) st Q:=
 z1x (LI st upd jl hup N) μ d fun b c=>⟨e b c,fun x=>zcx hΘ _ _ _ (f x b c)⟩
variable {X:Type} {I:X->St} {μ:X->Nat} {x:X}
theorem zss(h:∃b,μ b < μ x/\Le st (I b)):EndF I μ x st:=by
 obtain⟨b,h1,c⟩:=h;unfold EndF;unfold Le at c;exact fun C ρ a w D=>⟨b,h1,c C ρ a w D⟩
theorem zsr{e:Ent}{F:Fz}(i:Nat)(fb:Nat->SB)(m:lget st.h i=some e)(j:lget st.h 0=some (.frz F))(p:e.plain=true)
  (n:∀k,e.has k->(e.at k).ren (resP st.h)=fb k)(l:∀k,e.has k->(fb k).below 1)
  (o:∀b c,Fz.le F c->(∀k,e.has k->c (b k)=some (fb k))->EndF I μ x { st with h:=lput (lput st.h i (.lnk b)) 0 (.frz c) }):EndF I μ x st:=by
 unfold EndF at*;intro C ρ a w D;obtain⟨c,h1,g,f⟩:=D.sat.freeze m p j fb n l;exact o (ρ i) c h1 (fun k d=>(g k d).2) C ρ a w { sat:=f,nt:=D.nt,tm:=D.tm,tw:=D.tw,n0:=D.n0,df:=D.df,dw:=D.dw }
theorem zup(i:Nat){B:SB}(B':SB)(e:lget st.h i=some (.one B))(d:B.ren (resP st.h)=B')(b:B'.below st.nx)(f:EndF I μ x { st with h:=lput st.h i (.one B') }):EndF I μ x st:=by
 unfold EndF at*;intro C ρ a w D
 have c:=D.sat.swapR e (fun o h=>by
  rw[<-d];refine(SB.ok_ren (resP st.h) ρ _ o).2 ?_;rw[zit D.sat];exact h) b
 exact f C ρ a w { sat:=c,nt:=D.nt,tm:=D.tm,tw:=D.tw,n0:=D.n0,df:=D.df,dw:=D.dw }
theorem relE{n:Nat}{a:Out->Fz->List (Nat×Ent)->Nat->Prop}{out:Out}(out':Out){h:Hp}{nx:Nat}(g:∀ρ e,out.rel ρ e->out'.rel ρ e)(c:out.below nx->out'.below nx)(d:Cln n a out' h nx):Cln n a out h nx:=by
 unfold Cln at*;intro C ρ w e f S h1 b;exact d C ρ w e f S (g ρ e h1) (c b)
end
theorem oneW{P:Program}{c:Code}{d:St}{Q:SE->St->Prop}(i:Nat){b:SB}(e:lget d.h i=some (.opt true b))(f:WP P c { d with h:=lput d.h i (.one b) } Q):WP P c d Q:=by
 unfold WP at*;intro C ρ a w D;exact f C ρ a w { sat:=D.sat.ent e rfl rfl (fun k=>by simp[Ent.has]) (fun _ _=>rfl),nt:=D.nt,tm:=D.tm,tw:=D.tw,n0:=D.n0,df:=D.df,dw:=D.dw }
end Sx
namespace Go.Proofs.YtfnkamphhpldcaaGreatDoor
open Go Sx
set_option maxRecDepth 100000
def lnF1(s:Stp)(x:Ln):Ln:=if s.1=1 then foldL x else if s.1=2 then zrz x else if s.1=3 then zro s.2 x else limL s.2 x
def lnF(t:List Stp)(x:Ln):Ln:=t.foldl (fun x s=>lnF1 s x) x
theorem zo9:∀(t:List Stp) (v:Val),v.lost=false->(∀s∈t,1<=s.1/\s.1<=4)->runS t v={ v with lines:=v.lines.map (lnF t) }
 |[],v,_,_=>by
  have:(lnF []:Ln->Ln)=id:=rfl;rw[this,qc5];rfl
 |s::r,v,hv,h=>by
  have a:=h s (by simp)
  have h1:runS (s::r) v=runS r (stepS s v):=by
   show runS r (if v.lost=true then v else stepS s v)=_;rw[hv];rfl
  have b:stepS s v={ v with lines:=v.lines.map (lnF1 s) }:=by
   obtain⟨k,n⟩:=s;replace a:1<=k/\k<=4:=a;have c:k=1\/k=2\/k=3\/k=4:=by omega
   rcases c with rfl | rfl | rfl | rfl<;>rfl
  rw[h1,b,zo9 r { v with lines:=v.lines.map (lnF1 s) } hv (fun x d=>h x (by simp[d]))]
  simp_all[lnF,lnF1]
def StOk(p:Int)(t:List Stp):Prop:=t=[(6,0)]\/(za8 p t=true/\∀s∈t,s.1≠6)
theorem z4l{p:Int}(a:1<=p/\p<=8):∀m∈nfs p,m=[(6,0)]\/∀s∈m,s.1≠6:=by
 rcases p8 a with rfl | rfl | rfl | rfl | rfl | rfl | rfl | rfl<;>decide+kernel
theorem z94{p:Int}{t:List Stp}(h:za8 p t=true)(a:normS t=t):StOk p t:=by
 have h1:=z4l (zmc h) t (by rw[<-a];exact z9b h)
 grind[StOk,za8,normS]
theorem zbq{p:Int}{a:List Kp}(d:a.all zbf=true)(c:1<=p/\p<=8):StOk p (zak p a)/\za8 p (zak p a)=true/\normS (zak p a)=zak p a/\(p=4->0 < (zak p a).length->zak p a=[(6,0)])/\(nameK p=false->zak p a=[]):=by
 have b:StOk p []/\za8 p []=true/\normS []=[]/\(p=4->0 < ([]:List Stp).length->([]:List Stp)=[(6,0)])/\(nameK p=false->([]:List Stp)=[]):=
  ⟨.inr ⟨nilV c,by simp⟩,nilV c,by decide,(fun _ h=>absurd h (by simp)),fun _=>rfl⟩
 induction a with
 |nil=>exact b
 |cons k r ih=>
  grind[Bool.not_eq_true',decide_eq_false_iff_not,z94,zak,zbf]
theorem ztp{p:Int}{t:List Stp}(h:za8 p t=true)(b:∀s∈t,s.1≠6)(c:p=1\/p=2\/p=3):∀s∈t,1<=s.1/\s.1<=4:=by
 intro s a;have h1:=zcv (k:=s.1) (n:=s.2) (zmc h) (zhj h s a)
 grind
theorem z8u{p:Int}{s:Stp}(g:p=1\/p=2\/p=3)(f:zbt p s=true)(b:s.1≠6){x:Ln}(a:lnOk p [] x):lnOk p [] (lnF1 s x)/\(lnF1 s x).2.take 2=if p=3 then x.2.take 2 else(lnF1 s x).2.take 2:=by
 obtain⟨k,n⟩:=s;have h1:=zcv (k:=k) (n:=n) (by omega) f;replace b:k≠6:=b;rcases h1 with⟨rfl,rfl,rfl⟩ | ⟨rfl,rfl,rfl⟩ | ⟨rfl,c,d⟩ | ⟨rfl,rfl,d⟩ | ⟨rfl,c,rfl⟩ | ⟨rfl,rfl⟩
 ·exact⟨zy7 rfl [] x a,rfl⟩
 ·exact⟨zv8 rfl [] x a,rfl⟩
 ·have e:p=3:=by omega
  subst e;exact⟨zvv (.inl rfl) (by omega) [] x a,zo5 n x.2⟩
 ·exact⟨zvf rfl [] x a,rfl⟩
 ·omega
 omega
theorem zvh{p:Int}(a:p=1\/p=2\/p=3):∀(t:List Stp),(∀s∈t,zbt p s=true/\s.1≠6)->∀x:Ln,lnOk p [] x->lnOk p [] (lnF t x)/\(p=3->(lnF t x).2.take 2=x.2.take 2)
 |[],_,x,hx=>⟨hx,fun _=>rfl⟩
 |s::r,h,x,hx=>by
  have h1:=z8u a (h s (by simp)).1 (h s (by simp)).2 hx;have c:=zvh a r (fun y b=>h y (by simp[b])) _ h1.1
  grind[lnOk,lnF,zbt,lnF1]
def lineR(t m:List Stp)(l:DLn):DLn:=(if t=[(6,0)]then []else(lnF t (l.1,[])).1,if m=[(6,0)]then 0 else(lnF m ([],[l.2])).2.headD 0)
def cellR(k:List Stp)(c:Cel):Cel:=if c.sum=true then c else⟨c.row,c.col,false,if k=[(6,0)]then 0 else(lnF k ([],[c.row,c.col,c.value])).2.getD 2 0,c.top,c.left⟩
theorem zzu{l:DLn}:dlnOk l=true↔lnOk 1 [] (l.1,[])/\lnOk 2 [] ([],[l.2]):=by
 unfold dlnOk lnOk;rw[if_pos rfl,if_neg (by decide)];simp only[qd,decide_eq_true_eq,qao,inRW];constructor
 ·rintro⟨⟨h1,a⟩,b⟩;exact⟨⟨tv,h1,a⟩,tv,rfl,⟨b,tv⟩,fun h=>absurd rfl h⟩
 ·rintro⟨⟨_,h1,a⟩,_,_,⟨b,_⟩,_⟩;exact⟨⟨h1,a⟩,b⟩
theorem z8r{x:Ln}(h:lnOk 1 [] x):x=(x.1,[]):=by
 grind[Prod.ext,lnOk]
theorem z8s{x:Ln}(h:lnOk 2 [] x):x=([],[x.2.headD 0]):=by
 unfold lnOk at h;rw[if_neg (by simp)]at h;obtain⟨s,n⟩:=x;obtain⟨h1,a,_⟩:=h
 match n,a with
 |[z],_=>grind
theorem z8t{x:Ln}(h:lnOk 3 [] x):x=([],[x.2.getD 0 0,x.2.getD 1 0,x.2.getD 2 0]):=by
 unfold lnOk at h;rw[if_neg (by simp)]at h;obtain⟨s,n⟩:=x;obtain⟨h1,d,_⟩:=h
 match n,d with
 |[a,b,c],_=>grind
theorem z1g{p:Int}{t:List Stp}(h:za8 p t=true)(b:∀s∈t,s.1≠6):∀s∈t,zbt p s=true/\s.1≠6:=fun s a=>⟨zhj h s a,b s a⟩
theorem zoi{t m:List Stp}(f:StOk 1 t)(e:StOk 2 m){l:DLn}(d:dlnOk l=true):
  dlnOk (lineR t m l)=true/\(t≠[(6,0)]->lnF t (l.1,[])=((lineR t m l).1,[]))/\(m≠[(6,0)]->lnF m ([],[l.2])=([],[(lineR t m l).2])):=by
 obtain⟨i,j⟩:=zzu.1 d
 have a:lnOk 1 [] ((lineR t m l).1,[])/\(t≠[(6,0)]->lnF t (l.1,[])=((lineR t m l).1,[])):=by
  rcases f with rfl | ⟨g,c⟩
  ·grind[lnOk,lineR,lnF,StOk,dlnOk]
  ·grind[zvh,z1g,z8r,lineR,lnF,lnOk,StOk,dlnOk,za8]
 have b:lnOk 2 [] ([],[(lineR t m l).2])/\(m≠[(6,0)]->lnF m ([],[l.2])=([],[(lineR t m l).2])):=by
  rcases e with rfl | ⟨g,c⟩
  ·refine⟨?_,fun h=>absurd rfl h⟩;show lnOk 2 [] ([],[0]);unfold lnOk;rw[if_neg (by decide)];exact⟨rfl,rfl,⟨by decide,tv⟩,fun h=>absurd rfl h⟩
  ·grind[zvh,z1g,z8s,lineR,lnF,lnOk,StOk,dlnOk,za8]
 exact⟨zzu.2 ⟨a.1,b.1⟩,a.2,b.2⟩
theorem z6k{c:Cel}(f:c.sum=false):celOk c=true↔lnOk 3 [] ([],[c.row,c.col,c.value])/\c.top=0/\c.left=0:=by
 unfold celOk lnOk;rw[f,if_neg (by decide)];simp only[qd,decide_eq_true_eq,inRW];constructor
 ·rintro⟨⟨h1,a⟩,⟨b,d⟩,e⟩;exact⟨⟨tv,rfl,⟨h1,a,b,tv⟩,fun _ y g=>by grind⟩,d,e⟩
 ·rintro⟨⟨_,_,⟨h1,a,b,_⟩,_⟩,d,e⟩;exact⟨⟨h1,a⟩,⟨b,d⟩,e⟩
theorem zdi(k:List Stp)(c:Cel):(cellR k c).sum=c.sum/\(cellR k c).row=c.row/\(cellR k c).col=c.col/\(cellR k c).top=c.top/\(cellR k c).left=c.left/\(c.sum=true->cellR k c=c):=by
 grind[cellR]
theorem zua{k:List Stp}(n:StOk 3 k){c:Cel}(m:celOk c=true):
  celOk (cellR k c)=true/\(c.sum=false->k≠[(6,0)]->lnF k ([],[c.row,c.col,c.value])=([],[c.row,c.col,(cellR k c).value])):=by
 by_cases b:c.sum=true
 ·grind[zdi]
 ·have b:c.sum=false:=by simpa using b
  obtain⟨f,u,s⟩:=(z6k b).1 m;have l:(cellR k c).sum=false:=(zdi k c).1.trans b;have i:cellR k c=⟨c.row,c.col,false,if k=[(6,0)]then 0 else(lnF k ([],[c.row,c.col,c.value])).2.getD 2 0,c.top,c.left⟩:=by rw[cellR,b];rfl
  have q:lnOk 3 [] ([],[c.row,c.col,(cellR k c).value])/\(k≠[(6,0)]->lnF k ([],[c.row,c.col,c.value])=([],[c.row,c.col,(cellR k c).value])):=by
   rcases n with rfl | ⟨o,j⟩
   ·have e:(cellR [(6,0)] c).value=0:=by rw[i];rfl
    rw[e];refine⟨?_,fun h=>absurd rfl h⟩;unfold lnOk at f ⊢;rw[if_neg (by decide)]at f ⊢;obtain⟨_,_,⟨h1,a,_⟩,_⟩:=f;exact⟨rfl,rfl,⟨h1,a,show(-1000000:Int)<=0/\(0:Int)<=1000000 by decide,tv⟩,fun _ y p=>by cases p⟩
   ·have h:=zvh (.inr (.inr rfl)) k (z1g o j) _ f;have g:k≠[(6,0)]:=fun e=>by subst e;exact j (6,0) (by simp) rfl
    have e:(cellR k c).value=(lnF k ([],[c.row,c.col,c.value])).2.getD 2 0:=by rw[i];exact if_neg g
    have d:=z8t h.1;have a:=h.2 rfl;rw[d]at a;have a:[(lnF k ([],[c.row,c.col,c.value])).2.getD 0 0,(lnF k ([],[c.row,c.col,c.value])).2.getD 1 0]=[c.row,c.col]:=a;simp only[List.cons.injEq,and_true]at a;rw[a.1,a.2,<-e]at d;exact⟨by rw[<-d];exact h.1,fun _=>d⟩
  grind[z6k,zdi]
theorem zsc:∀l m:List Cel,l.map (fun c=>(c.row,c.col))=m.map (fun c=>(c.row,c.col))->ascF l=ascF m
 |[],[],_=>rfl
 |[],_::_,h=>by simp at h
 |_::_,[],h=>by simp at h
 |[_],[_],_=>rfl
 |[_],_::_::_,h=>by simp at h
 |_::_::_,[_],h=>by simp at h
 |a::b::r,a'::d::r',h=>by
  have ih:=zsc (b::r) (d::r')
  grind[List.cons.injEq,Prod.mk.injEq,ltC,ascF]
def frzC(x:Cel×Int):Cel:=⟨x.1.row,x.1.col,false,x.2,0,0⟩
def frzR(K:List Cel)(o:List Int):List Cel:=(K.zip o).map frzC
def runD(a:List Kp)(d:Dc):Option Dc:=
 let K:=d.cells.map (cellR (zak 3 a))
 let L:=d.lines.map (lineR (zak 1 a) (zak 2 a))
 let v:=if zak 7 a=[(6,0)]then loseV else runS (zak 7 a) (zb9 7 d)
 if 0 < (zak 4 a).length then
  if(valsF K).all (fun n=>inR n (-1000000) 1000000)=true then some ⟨L,frzR K (valsF K),v.w,v.bits⟩else none
 else some ⟨L,K,v.w,v.bits⟩
theorem run5:∀(b:List Stp) (v u:Val),(∀s∈b,s.1=5)->v.lost=false->v.lines=[]->u.lost=false->u.lines=[]->u.bits=[]->u.w=v.w->u.h=v.h->
  (runS b v).lost=false/\(runS b v).lines=[]/\runS b u=⟨false,[],(runS b v).w,(runS b v).h,[]⟩
 |[],v,u,_,h1,h2,h3,h4,h5,h6,h7=>by
  obtain⟨i,d,j,g,f⟩:=u
  grind[runS]
 |s::r,v,u,hb,h1,h2,h3,h4,h5,h6,h7=>by
  have a:=hb s (by simp)
  have e:∀x:Val,x.lost=false->runS (s::r) x=runS r (halV x):=fun x c=>by
   show runS r (if x.lost=true then x else stepS s x)=_;rw[c];obtain⟨k,n⟩:=s;replace a:k=5:=a;subst a;rfl
  rw[e v h1,e u h3];refine run5 r (halV v) (halV u) (fun x c=>hb x (by simp[c])) rfl rfl rfl rfl ?_ ?_ ?_
  ·show(if u.bits=[]then []else _)=[];rw[if_pos h5]
  ·show(u.w+1) / 2=(v.w+1) / 2;rw[h6]
  grind[halV,runS]
theorem ybe{v:Val}(m:VOK 7 v)(l:v.lost=false):hgt v.w v.bits=v.h/\rasOk v.w v.bits=true:=by
 obtain⟨_,n,k,i⟩:=zi3 m l (.inr rfl);rw[if_pos rfl]at i;obtain⟨b,a⟩:=i;have c:inR v.w 0 32=true:=inRW.2 n;have e:v.bits.all bitK=true:=a;by_cases d:v.w=0
 ·have f:v.h=0:=by rw[d]at k;omega
  have g:v.bits=[]:=by
   rw[d,Int.zero_mul]at b;exact y6.1 (by omega)
  have j:hgt v.w v.bits=0:=by rw[hgt,if_pos (by omega)]
  refine⟨by rw[j,f],?_⟩;rw[rasOk,c,e,d,g];rfl
 grind[Int.mul_tdiv_cancel_left,decide_eq_true,hgt,rasOk,VOK,inR,bitK]
theorem z95{b:List Stp}(h:za8 7 b=true)(c:∀s∈b,s.1≠6):∀s∈b,s.1=5:=by
 intro s a;have h1:=zcv (k:=s.1) (n:=s.2) (by omega) (zhj h s a)
 grind
def rasV(b:List Stp)(d:Dc):Val:=if b=[(6,0)]then loseV else runS b (zb9 7 d)
theorem z0o{b:List Stp}(o:StOk 7 b){d:Dc}(p:docOk d=true):rasOk (rasV b d).w (rasV b d).bits=true/\
  (b≠[(6,0)]->runS b (zb9 7 d)=⟨false,[],(rasV b d).w,hgt (rasV b d).w (rasV b d).bits,(rasV b d).bits⟩/\runS b (zb9 6 d)=⟨false,[],(rasV b d).w,hgt (rasV b d).w (rasV b d).bits,[]⟩):=by
 rcases o with rfl | ⟨m,k⟩
 ·exact⟨show rasOk 0 []=true by rfl,fun h=>absurd rfl h⟩
 ·have g:b≠[(6,0)]:=fun e=>by subst e;exact k (6,0) (by simp) rfl
  have e:rasV b d=runS b (zb9 7 d):=if_neg g;have n:=z95 m k;have j:=run5 b (zb9 7 d) (zb9 6 d) n rfl rfl rfl rfl rfl rfl rfl;have i:=ybw m (zgy (by omega) p);have l:=ybe i j.1;rw[e];refine⟨l.2,fun _=>⟨?_,?_⟩⟩
  ·rw[l.1];have h1:=j.1;have f:=j.2.1
   revert h1 f
   generalize runS b (zb9 7 d)=v;intro h1 f;obtain⟨a,b,c,d,e⟩:=v;simp only at h1 f;rw[h1,f]
  grind
theorem zyg{n:Int}(h:-1000000<=n/\n<=1000000):zea n=n:=by
 grind[zea]
theorem zme:∀(l d:List Cel) (o:List Int),(∀c∈l,c.sum=false/\ -1000000<=c.value/\c.value<=1000000)->valsA l d o=o++l.map (·.value)
 |[],_,o,_=>by simp[valsA]
 |c::r,d,o,h=>by
  have b:=h c (by simp);rw[valsA,zme r _ _ (fun x a=>h x (by simp[a]))]
  grind[zyg,valF]
theorem z6l{a:List Kp}(c:a.all zbf=true){p:Int}(d:1<=p/\p<=8):za8 p (zbw a p)=true/\normS (zbw a p)=zbw a p:=by
 have i:za8 p [(6,0)]=true/\normS [(6,0)]=[(6,0)]:=by
  refine⟨?_,by decide⟩;rcases p8 d with rfl | rfl | rfl | rfl | rfl | rfl | rfl | rfl<;>decide
 by_cases f:p=3
 ·grind[zi8,zi9,zbq,zak,za8,zbw,normS,zbf]
 ·by_cases g:p=5
  ·grind[zi8,zi9,zbq,zak,za8,zbw,normS,zbf]
  ·by_cases b:p=6
   ·subst b;rw[zye];have h:=zbq c (p:=7) (by omega);refine⟨z5z (by omega) ?_ ?_,h.2.2.1⟩
    ·exact(zmd h.2.1).2.1
    ·intro s e;have h1:=(zcv (p:=7) (k:=s.1) (n:=s.2) (by omega) (zhj h.2.1 s e))
     obtain⟨k,n⟩:=s;rcases h1 with⟨_,h,_⟩ | ⟨_,h,_⟩ | ⟨_,h,_⟩ | ⟨_,h,_⟩ | ⟨rfl,_,rfl⟩ | ⟨rfl,rfl⟩
     ·omega
     ·omega
     ·omega
     ·omega
     ·decide
     ·decide
   grind[zja,zbq]
theorem zsj{a:List Kp}(c:a.all zbf=true):clOk (zbi a) 1=true:=by
 have h:∀(n:Nat) (i:Nat),i+n<=8->clOk ((List.range' i n).map fun k:Nat=>((k:Int)+1,zbw a ((k:Int)+1))) ((i:Int)+1)=true:=by
  intro n
  induction n with
  |zero=>intro i _;rfl
  |succ n ih=>
   intro i d;have h1:=ih (i+1) (by omega);have b:=z6l c (p:=(i:Int)+1) (by omega);rw[List.range'_succ,q8,clOk,clAt];simp only[b.1,decide_eq_true b.2,decide_true,qac];exact h1
 grind[List.range_eq_range',zbi]
theorem z6z{p:Int}{a:List Kp}(h:¬0 < (zak p a).length):zak p a=[]:=y6.1 (by omega)
theorem zpz(c:Cel):cellR [] c=c:=by
 by_cases h:c.sum=true
 ·grind[zdi]
 ·have h:c.sum=false:=by simpa using h
  obtain⟨a,b,s,v,t,l⟩:=c;replace h:s=false:=h;subst h;rfl
theorem z2m(k:List Stp)(K:List Cel):(K.map (cellR k)).map (fun c=>(c.row,c.col))=K.map (fun c=>(c.row,c.col)):=by
 grind[List.map_map,List.map_congr_left,zdi,Prod.ext]
theorem zy9{K:List Cel}{o:List Int}(h:K.length<=o.length):(frzR K o).map (fun c=>(c.row,c.col))=K.map (fun c=>(c.row,c.col)):=by
 have h1:=List.map_fst_zip h
 conv=>rhs;rw[<-h1]
 rw[frzR,ji,ji];rfl
theorem cells_ok{k:List Stp}(b:StOk 3 k){d:Dc}(a:docOk d=true):ascF (d.cells.map (cellR k))=true/\∀c∈d.cells.map (cellR k),celOk c=true:=by
 grind[zbk,zsc,z2m,zua,ascF,cellR,celOk,StOk,docOk]
theorem zoj{t m:List Stp}(c:StOk 1 t)(b:StOk 2 m){d:Dc}(a:docOk d=true):(d.lines.map (lineR t m)).all dlnOk=true:=by
 grind[zbk,List.all_eq_true,zoi,lineR,dlnOk,StOk,docOk]
theorem ya9{K:List Cel}{o:List Int}(h:o.length=K.length)(b:ascF K=true)(g:∀c∈K,celOk c=true)(i:∀n∈o,inR n (-1000000) 1000000=true):
  ascF (frzR K o)=true/\(∀c∈frzR K o,celOk c=true)/\(frzR K o).length=K.length:=by
 refine⟨(zsc _ _ (zy9 (by omega))).trans b,fun c d=>?_,by rw[frzR,qa,qab];omega⟩;obtain⟨⟨a,n⟩,h1,rfl⟩:=jj.1 d;obtain⟨e,f⟩:=qdi h1
 grind[celOk,inR,frzC,ascF,frzR]
theorem zh8{L:List DLn}{K:List Cel}{w:Int}{s:List UInt8}(h1:L.length<=64)(a:K.length<=64)(b:ascF K=true)(d:L.all dlnOk=true)(e:∀c∈K,celOk c=true)(f:rasOk w s=true):docOk ⟨L,K,w,s⟩=true:=by
 grind[docOk]
def midD(a:List Kp)(d:Dc):Dc:=⟨d.lines.map (lineR (zak 1 a) (zak 2 a)),d.cells.map (cellR (zak 3 a)),d.w,d.bits⟩
theorem z6r{a:List Kp}(c:a.all zbf=true){d:Dc}(b:docOk d=true):docOk (midD a d)=true:=by
 grind[zbk,cells_ok,zh8,List.length_map,zoj,zbq,docOk,midD,zbf]
theorem znh{a:List Kp}{d e:Dc}(b:runD a d=some e):∃K,e=⟨(midD a d).lines,K,(rasV (zak 7 a) d).w,(rasV (zak 7 a) d).bits⟩/\
  ((¬0 < (zak 4 a).length/\K=(midD a d).cells)\/(0 < (zak 4 a).length/\(∀n∈valsF (midD a d).cells,inR n (-1000000) 1000000=true)/\K=frzR (midD a d).cells (valsF (midD a d).cells))):=by
 grind[Option.some.inj,runD,midD,rasV,zak,valsF,inR,frzR]
theorem z0z{a:List Kp}(f:a.all zbf=true){d e:Dc}(b:docOk d=true)(c:runD a d=some e):docOk e=true:=by
 grind[znh,zbk,z6r,z0o,zbq,ya9,zdp,zh8,docOk,zbf,runD]
theorem z6a{K:List Cel}(d:∀n∈valsF K,inR n (-1000000) 1000000=true):valsF (frzR K (valsF K))=valsF K:=by
 have h:∀c∈frzR K (valsF K),c.sum=false/\ -1000000<=c.value/\c.value<=1000000:=fun c b=>by
  obtain⟨⟨a,n⟩,h1,rfl⟩:=jj.1 b;exact⟨rfl,inRW.1 (d n (qdi h1).2)⟩
 have h1:=zme _ [] [] h;rw[valsF,h1,qx,frzR,ji];have e:(Cel.value∘frzC)=Prod.snd:=rfl
 grind[List.map_snd_zip,zdp,frzC]
theorem ycj{K d:List Cel}{o:List Int}(h:d.map (fun c=>(c.row,c.col))=K.map (fun c=>(c.row,c.col))):((d.zip o).map fun x=>(([],[x.1.row,x.1.col,x.2]):Ln))=(K.zip o).map fun x=>([],[x.1.row,x.1.col,x.2]):=by
 induction d generalizing K o with
 |nil=>simp_all
 |cons a r ih=>cases K with
  |nil=>grind
  |cons b s=>
   simp only[q8,List.cons.injEq,Prod.mk.injEq]at h;cases o with
   |nil=>rfl
   |cons n o=>grind[List.zip_cons_cons]
theorem val1{t m:List Stp}(e:StOk 1 t)(g:StOk 2 m){d:Dc}(b:docOk d=true)(c:t≠[(6,0)])(K:List Cel)(w:Int)(s:List UInt8):runS t (zb9 1 d)=zb9 1 ⟨d.lines.map (lineR t m),K,w,s⟩:=by
 have f:=zbk b;have a:=e.resolve_left c;rw[zo9 _ _ rfl (ztp a.1 a.2 (.inl rfl))];show(⟨false,(d.lines.map fun l=>(l.1,[])).map (lnF t),0,0,[]⟩:Val)=⟨false,(d.lines.map (lineR t m)).map (fun l=>(l.1,[])),0,0,[]⟩;rw[ji,ji]
 grind[List.map_congr_left,zoi,lnF,lineR,StOk,docOk,za8]
theorem val2{t m:List Stp}(g:StOk 1 t)(e:StOk 2 m){d:Dc}(b:docOk d=true)(c:m≠[(6,0)])(K:List Cel)(w:Int)(s:List UInt8):runS m (zb9 2 d)=zb9 2 ⟨d.lines.map (lineR t m),K,w,s⟩:=by
 have f:=zbk b;have a:=e.resolve_left c;rw[zo9 _ _ rfl (ztp a.1 a.2 (.inr (.inl rfl)))];show(⟨false,(d.lines.map fun l=>([],[l.2])).map (lnF m),0,0,[]⟩:Val)=⟨false,(d.lines.map (lineR t m)).map (fun l=>([],[l.2])),0,0,[]⟩;rw[ji,ji]
 grind[List.map_congr_left,zoi,lnF,lineR,StOk,docOk,za8]
theorem val3{k:List Stp}(g:StOk 3 k){d:Dc}(b:docOk d=true)(e:k≠[(6,0)])(L:List DLn)(w:Int)(s:List UInt8):runS k (zb9 3 d)=zb9 3 ⟨L,d.cells.map (cellR k),w,s⟩:=by
 have h:=zbk b;have a:=g.resolve_left e;rw[zo9 _ _ rfl (ztp a.1 a.2 (.inr (.inr rfl)))];show(⟨false,((d.cells.filter (keepQ false)).map fun c=>([],[c.row,c.col,c.value])).map (lnF k),0,0,[]⟩:Val)=⟨false,((d.cells.map (cellR k)).filter (keepQ false)).map (fun c=>([],[c.row,c.col,c.value])),0,0,[]⟩
 have f:(keepQ false∘cellR k)=keepQ false:=by
  funext c
  show((cellR k c).sum==false)=(c.sum==false);rw[(zdi _ c).1]
 rw[List.filter_map,f,ji,ji]
 grind[List.map_congr_left,zdi,zua,keepQ,lnF,cellR,StOk,docOk,za8]
theorem ztd{a:List Kp}(b:a.all zbf=true){d e:Dc}(j:docOk d=true)(l:runD a d=some e){p:Int}(n:1<=p/\p<=8):
  zbw a p=[(6,0)]\/runS (zbw a p) (zb9 p d)=zb9 p e:=by
 obtain⟨K,rfl,h⟩:=znh l;have u:=zbk j;have A:=zbq b (p:=1) (by omega);have B:=zbq b (p:=2) (by omega);have D:=zbq b (p:=3) (by omega);have E:=zbq b (p:=4) (by omega);have q:=zbq b (p:=5) (by omega);have s:=zbq b (p:=7) (by omega);have s8:=zbq b (p:=8) (by omega);have w:=(z0o s.1 j).2
 have k:K.length=d.cells.length:=by
  rcases h with⟨_,rfl⟩ | ⟨_,_,rfl⟩
  ·exact qa _
  ·rw[frzR,qa,qab,zdp,qdu];exact qa _
 rcases p8 n with rfl | rfl | rfl | rfl | rfl | rfl | rfl | rfl
 ·grind[zja,val1,zak,zbw,runS,zb9,midD,rasV,zbf]
 ·grind[zja,val2,zak,zbw,runS,zb9,midD,rasV,zbf]
 ·grind[zi9,decide_eq_false,val3,zi8,decide_eq_true,zak,zbw,runS,zb9,midD,rasV,zbf]
 ·rw[zja (by omega) (by omega) (by omega)];rcases h with⟨i,rfl⟩ | ⟨i,-,rfl⟩
  ·right;rw[z6z i];show(⟨false,(d.cells.filter (keepQ true)).map (fun c=>([],[c.row,c.col,c.top,c.left])),0,0,[]⟩:Val)=⟨false,((d.cells.map (cellR (zak 3 a))).filter (keepQ true)).map (fun c=>([],[c.row,c.col,c.top,c.left])),0,0,[]⟩
   have o:(keepQ true∘cellR (zak 3 a))=keepQ true:=by
    funext c
    show((cellR (zak 3 a) c).sum==true)=(c.sum==true);rw[(zdi _ c).1]
   rw[List.filter_map,o,ji]
   congr 1
   refine jk fun c y=>?_
   have f:=zdi (zak 3 a) c;show([],[c.row,c.col,c.top,c.left])=(([],[(cellR (zak 3 a) c).row,(cellR (zak 3 a) c).col,(cellR (zak 3 a) c).top,(cellR (zak 3 a) c).left]):Ln);rw[f.2.1,f.2.2.1,f.2.2.2.1,f.2.2.2.2.1]
  grind
 ·by_cases g:0 < (zak 3 a).length
  ·grind[zi8,decide_eq_true]
  ·right;rw[zi9 (.inr ⟨rfl,rfl⟩) (decide_eq_false g),q.2.2.2.2 rfl]
   have m:(midD a d).cells=d.cells:=by
    show d.cells.map (cellR (zak 3 a))=_;rw[z6z g]
    conv=>rhs;rw[<-qc5 d.cells]
    exact jk fun c _=>zpz c
   rw[m]at h;show(⟨false,(d.cells.zip (valsF d.cells)).map (fun x=>([],[x.1.row,x.1.col,x.2])),0,0,[]⟩:Val)=⟨false,(K.zip (valsF K)).map (fun x=>([],[x.1.row,x.1.col,x.2])),0,0,[]⟩
   grind[z6a,ycj,zy9,zdp]
 ·grind[zbw,runS,zb9,midD,rasV,zbf]
 ·grind[zbw,runS,zb9,midD,rasV,zbf]
 ·right;rw[zja (by omega) (by omega) (by omega),s8.2.2.2.2 rfl]
  grind[runS,zb9,midD,rasV,zbf,docOk]
theorem run_make{m:Mig}(j:migOk m=true){d e:Dc}(c:docOk d=true)(i:runD m.keep d=some e):zdz m d e=true:=by
 have f:m.keep.all zbf=true:=by
  simp only[migOk,qd]at j;exact j.2.2.2.2.2
 have q:=z0z f c i
 have p:(zbi m.keep).all (chkAt (allB d) (allB e))=true:=by
  rw[qo];intro x s;obtain⟨k,g,rfl⟩:=jj.1 s;have a:k < 8:=qcy.1 g;have b:1<=(k:Int)+1/\(k:Int)+1<=8:=by omega
  unfold chkAt;rcases ztd f c i b with h | h
  ·rw[decide_eq_true (show((k:Int)+1,zbw m.keep ((k:Int)+1)).2=[(6,0)]from h)];rfl
  ·have l:atV (allB d) ((k:Int)+1)=propB ((k:Int)+1) d:=by
    unfold atV;rw[show((k:Int)+1 - 1).toNat=k by omega,zj6 d k a];rfl
   have n:atV (allB e) ((k:Int)+1)=propB ((k:Int)+1) e:=by
    unfold atV;rw[show((k:Int)+1 - 1).toNat=k by omega,zj6 e k a];rfl
   have o:zdf ((k:Int)+1) (zbw m.keep ((k:Int)+1)) (atV (allB d) ((k:Int)+1))=(atV (allB e) ((k:Int)+1),0):=by
    rw[l,n,zhg b,zhg b,zks (z6l f b).1 (zgy b c),h]
   show(_||(decide ((zdf ((k:Int)+1) (zbw m.keep ((k:Int)+1)) (atV (allB d) ((k:Int)+1))).2=0)&&decide ((zdf ((k:Int)+1) (zbw m.keep ((k:Int)+1)) (atV (allB d) ((k:Int)+1))).1=atV (allB e) ((k:Int)+1))))=true;rw[o];simp
 grind[zie,zsj]
def mrd(s:List UInt8)(p:Int):Ent:=.one (.cells 228 [.str s,.int .i64 p])
theorem zbl{n:Nat}(s:List UInt8)(p:Int):(mrd s p).below n:=(SB.bB_ok rfl:SB.below n (.cells 228 [.str s,.int .i64 p]))
theorem zgg(F:Fz)(s:List UInt8)(p n x:Int)(f:s.length<=1000000000000000000)(e:i64 p)(d:getI s p=(n,x,0)):
  Ct Tryz.prog 90 [.va (.ptr ⟨1,0,0,0,0⟩)] F [(1,mrd s p)] 2
   (fun o b c n0=>F=b/\n0=2/\o=.ret (.va (.int .i64 n))/\c=[(1,mrd s x)]):=by
 have a:=zu5 F s p f e;rw[d]at a;refine ct_of hΘ Tryz.func90 rfl (by decide) _ _ rfl rfl rfl ?_;refine drawP hΘ mixed (lk [0,1,2,3,4,5,6,7] (.alt 8 (lk [9,10,11,12,13,14,15] .done) .nil)) [1] (by kernel_rfl) ?_;conv=>whnf
 repeat' ((conv=>whnf);first
  |refine⟨rfl,?_⟩
  |refine⟨Fz.r _,rfl,?_⟩
  |refine⟨Fz.r _,rfl,rfl,?_⟩
  |refine⟨⟨by simp,by simp⟩,?_⟩
  |fail)
 refine usePu (a) rfl (zaa _) rfl ⟨Fz.r F,rfl,?_⟩;refine bre (by simp) ?_;exact clean [] (.ret (.va (.int .i64 n))) F [(1,mrd s x)] 2 ⟨Fz.r F,rfl,rfl,rfl,rfl⟩ (zah _) rfl rfl trivial ⟨zbl s _,tv⟩ ⟨Fz.r F,rfl,tv⟩
theorem zz5(F:Fz)(s:List UInt8)(p x:Int)(t:List UInt8)(f:s.length<=1000000000000000000)(e:i64 p)(d:getS s p=(t,x,0)):
  Ct Tryz.prog 91 [.va (.ptr ⟨1,0,0,0,0⟩)] F [(1,mrd s p)] 2
   (fun o b c n0=>F=b/\n0=2/\o=.ret (.va (.str t))/\c=[(1,mrd s x)]):=by
 have a:=zma F s p f e;rw[d]at a;refine ct_of hΘ Tryz.func91 rfl (by decide) _ _ rfl rfl rfl ?_;refine drawP hΘ mixed (lk [0,1,2,3,4,5,6,7] (.alt 8 (lk [9,10,11,12,13,14,15] .done) .nil)) [1] (by kernel_rfl) ?_;conv=>whnf
 repeat' ((conv=>whnf);first
  |refine⟨rfl,?_⟩
  |refine⟨Fz.r _,rfl,?_⟩
  |refine⟨Fz.r _,rfl,rfl,?_⟩
  |refine⟨⟨by simp,by simp⟩,?_⟩
  |fail)
 refine usePu (a) rfl (zaa _) rfl ⟨Fz.r F,rfl,?_⟩;refine bre (by simp) ?_;exact clean [] (.ret (.va (.str t))) F [(1,mrd s x)] 2 ⟨Fz.r F,rfl,rfl,rfl,rfl⟩ (zah _) rfl rfl trivial ⟨zbl s _,tv⟩ ⟨Fz.r F,rfl,tv⟩
def rwE{α:Type}(q:Bool)(t sz:Nat)(e:α->List SA)(c:Nat)(l:List α):Ent:=.opt (!q) (.arr t sz (l.map e) c)
theorem zv1{α:Type}{e:α->List SA}(a:Plain e)(q:Bool)(t sz c:Nat)(μ:Mu)(l:List α):(rwE q t sz e c l).ren μ=rwE q t sz e c l:=by
 show Ent.opt _ (SB.ren μ _)=_;rw[zcc a rfl];rfl
theorem zan{α:Type}{e:α->List SA}(a:Plain e)(q:Bool)(t sz n c:Nat)(l:List α):(rwE q t sz e c l).below n:=zat a t sz n c l
theorem zar{α:Type}{e:α->List SA}(a:Plain e){q:Bool}{t sz c:Nat}{μ:Mu}{l:List α}{x:Option Ent}(h:subE x (rwE q t sz e c l)):subE x ((rwE q t sz e c l).ren μ):=by rw[zv1 a];exact h
theorem zao{α:Type}{e:α->List SA}(q:Bool)(t sz c:Nat)(l:List α):subE (some (rwE q t sz e c l)) (rwE q t sz e c l):=⟨rfl,rfl⟩
theorem zv0{α:Type}{e:α->List SA}{q:Bool}{t sz c:Nat}{l:List α}(L:List (List SA))(h:L=l.map e):subE (some (.one (.arr t sz L c))) (rwE q t sz e c l):=by rw[h];exact rfl
theorem zc9{α:Type}{e:α->List SA}(a:Plain e){q:Bool}{t sz c:Nat}{μ ν:Mu}{l:List α}:subE (some ((rwE q t sz e c l).ren ν)) ((rwE q t sz e c l).ren μ):=by
 rw[zv1 a,zv1 a];exact zao _ _ _ _ _
theorem zyj(F:Fz)(p:Bool)(s w u:Nat)(l:List DLn)(I:Sl F 148 2 encN (.slice p 0 s w 2 l.length u) l)(y:l.length<=1000):
  Ct Tryz.prog 86 [.va (.slice p 0 s w 2 l.length u)] F [] 1
   (fun o A G n0=>F=A/\n0=2/\∃q c,(q=true->l=[])/\l.length<=c/\o=.ret (.va (.slice q 1 0 0 2 l.length c))/\G=[(1,rwE q 148 2 encN c l)]):=by
 obtain⟨J,B,E,D,L,b,k,f,g,d,e⟩:=I;cases k
 rcases p with _ | _
 ·have a:=g rfl;rcases l with _ | ⟨x,r⟩
  ·refine ct_of hΘ Tryz.func86 rfl (by decide) _ _ rfl rfl rfl ?_;refine brd (by decide) ⟨148,L,b,a,d,[],e,rfl,rfl,rfl,by decide,fun c i=>?_⟩;exact clean [(1,2)] (.ret (.va (.slice false 1 0 0 2 0 c))) F [(1,rwE false 148 2 encN c [])] 2 ⟨Fz.r F,rfl,rfl,false,c,fun h=>(nomatch h),jo _,rfl,rfl⟩ ⟨rfl,rfl,rfl,.inr ⟨rfl,rfl,rfl,rfl⟩⟩ rfl rfl (.inr (by decide)) ⟨zan zal _ _ _ _ _ _,tv⟩ ⟨Fz.r F,zar zal (zv0 (q:=false) (l:=[]) _ rfl),tv⟩
  ·replace y:r.length+1<=1000:=y;have n:(0+((x::r).map encN).length)*24<=140737488355328:=by rw[qa,qf];omega
   refine ct_of hΘ Tryz.func86 rfl (by decide) _ _ rfl rfl rfl ?_;refine brd (by decide) ⟨148,L,b,a,d,(x::r).map encN,e,rfl,rfl,rfl,n,fun c' i=>?_⟩;have j:=i;clear i;exact clean [(1,2)] (.ret (.va (.slice false 1 0 0 2 (x::r).length c'))) F [(1,rwE false 148 2 encN c' (x::r))] 2 ⟨Fz.r F,rfl,rfl,false,c',fun h=>(nomatch h),by simpa using j,rfl,rfl⟩ ⟨rfl,(by first | rfl | (rw[qa];omega)),(by first | rfl | (rw[qa];omega)),.inr ⟨rfl,rfl,rfl,rfl⟩⟩ rfl rfl (.inr (by decide)) ⟨zan zal _ _ _ _ _ _,tv⟩ ⟨Fz.r F,zar zal (zv0 (q:=false) (l:=x::r) _ rfl),tv⟩
 ·have m:=f rfl;subst m;refine ct_of hΘ Tryz.func86 rfl (by decide) _ _ rfl rfl rfl ?_;refine bre (by decide) ?_;refine z6p (fun _=>trivial) ?_;exact clean [(1,1)] (.ret (.va (.slice true 1 0 0 2 0 0))) F [(1,rwE true 148 2 encN 0 [])] 2 ⟨Fz.r F,rfl,rfl,true,0,fun _=>rfl,qg _,rfl,rfl⟩ ⟨rfl,rfl,rfl⟩ rfl rfl (.inl rfl) ⟨zan zal _ _ _ _ _ _,tv⟩ ⟨Fz.r F,rfl,tv⟩
theorem zyi(F:Fz)(p:Bool)(s w u:Nat)(l:List Cel)(I:Sl F 151 6 encK (.slice p 0 s w 6 l.length u) l)(y:l.length<=1000):
  Ct Tryz.prog 87 [.va (.slice p 0 s w 6 l.length u)] F [] 1
   (fun o A G n0=>F=A/\n0=2/\∃q c,(q=true->l=[])/\l.length<=c/\o=.ret (.va (.slice q 1 0 0 6 l.length c))/\G=[(1,rwE q 151 6 encK c l)]):=by
 obtain⟨J,B,E,D,L,b,k,f,g,d,e⟩:=I;cases k
 rcases p with _ | _
 ·have a:=g rfl;rcases l with _ | ⟨x,r⟩
  ·refine ct_of hΘ Tryz.func87 rfl (by decide) _ _ rfl rfl rfl ?_;refine brd (by decide) ⟨151,L,b,a,d,[],e,rfl,rfl,rfl,by decide,fun c i=>?_⟩;exact clean [(1,2)] (.ret (.va (.slice false 1 0 0 6 0 c))) F [(1,rwE false 151 6 encK c [])] 2 ⟨Fz.r F,rfl,rfl,false,c,fun h=>(nomatch h),jo _,rfl,rfl⟩ ⟨rfl,rfl,rfl,.inr ⟨rfl,rfl,rfl,rfl⟩⟩ rfl rfl (.inr (by decide)) ⟨zan zad _ _ _ _ _ _,tv⟩ ⟨Fz.r F,zar zad (zv0 (q:=false) (l:=[]) _ rfl),tv⟩
  ·replace y:r.length+1<=1000:=y;have n:(0+((x::r).map encK).length)*48<=140737488355328:=by rw[qa,qf];omega
   refine ct_of hΘ Tryz.func87 rfl (by decide) _ _ rfl rfl rfl ?_;refine brd (by decide) ⟨151,L,b,a,d,(x::r).map encK,e,rfl,rfl,rfl,n,fun c' i=>?_⟩;have j:=i;clear i;exact clean [(1,2)] (.ret (.va (.slice false 1 0 0 6 (x::r).length c'))) F [(1,rwE false 151 6 encK c' (x::r))] 2 ⟨Fz.r F,rfl,rfl,false,c',fun h=>(nomatch h),by simpa using j,rfl,rfl⟩ ⟨rfl,(by first | rfl | (rw[qa];omega)),(by first | rfl | (rw[qa];omega)),.inr ⟨rfl,rfl,rfl,rfl⟩⟩ rfl rfl (.inr (by decide)) ⟨zan zad _ _ _ _ _ _,tv⟩ ⟨Fz.r F,zar zad (zv0 (q:=false) (l:=x::r) _ rfl),tv⟩
 ·have m:=f rfl;subst m;refine ct_of hΘ Tryz.func87 rfl (by decide) _ _ rfl rfl rfl ?_;refine bre (by decide) ?_;refine z6p (fun _=>trivial) ?_;exact clean [(1,1)] (.ret (.va (.slice true 1 0 0 6 0 0))) F [(1,rwE true 151 6 encK 0 [])] 2 ⟨Fz.r F,rfl,rfl,true,0,fun _=>rfl,qg _,rfl,rfl⟩ ⟨rfl,rfl,rfl⟩ rfl rfl (.inl rfl) ⟨zan zad _ _ _ _ _ _,tv⟩ ⟨Fz.r F,rfl,tv⟩
