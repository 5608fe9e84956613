import Derived.Test.YtfnkamphhpldcaaGreatDoorK08
import Derived.Test.YtfnkamphhpldcaaGreatDoorK17
import Derived.Test.YtfnkamphhpldcaaGreatDoorK31
import Derived.Test.YtfnkamphhpldcaaGreatDoorK22
set_option maxHeartbeats 64000000
namespace Sx
open Go
theorem Sat.more{C:Ctx}{ρ:Rho}{h:Hp}{nx:Nat}{w:World}(S:Sat C ρ h nx w):Sat C ρ h (nx+1) w:=
 { S with
  lt:=fun i e a=>Nat.lt_succ_of_lt (S.lt i e a)
  wf:=fun i e a k b=>SB.below_mono (qaf nx) (S.wf i e a k b)
  n0:=qbe S.n0 }
theorem rO{n:Nat}{a:Out->Fz->List (Nat×Ent)->Nat->Prop}{out:Out}{h:Hp}{nx:Nat}(c:out.below nx->out.below (nx+1))(d:Cln n a out h (nx+1)):Cln n a out h nx:=by
 unfold Cln at*;intro C ρ w e f S h1 b;exact d C ρ w e f S.more h1 (c b)
section
variable {C:Ctx} {ρ:Rho} {h:Hp} {nx:Nat} {w:World}
theorem Sat.swapO(s:Sat C ρ h nx w){i:Nat}{c:Bool}{b n:SB}(q:lget h i=some (.opt c b))(B:∀ρ o,b.ok ρ o->n.ok ρ o)(m:n.below nx):Sat C ρ (lput h i (.opt c n)) nx w:=by
 have A:=s.ne0 q rfl
 have g:∀j k,St.owns (lput h i (.opt c n)) j k->St.owns h j k:=by
  rintro j k ⟨x,f,l⟩;by_cases e:j=i
  ·subst e;rw[aR]at f;cases f;exact⟨_,q,l⟩
  ·rw[aM _ _ _ _ e]at f;exact⟨_,f,l⟩
 exact{ s with
  lt:=fun j x f=>by
   by_cases e:j=i
   ·subst e;exact s.lt _ _ q
   ·rw[aM _ _ _ _ e]at f;exact s.lt _ _ f
  blk:=fun j x f k l=>by
   by_cases e:j=i
   ·subst e;rw[aR]at f;cases f
    obtain⟨o,h1,y⟩:=s.blk _ _ q k l;exact⟨o,h1,B _ _ y⟩
   ·rw[aM _ _ _ _ e]at f;exact s.blk _ _ f k l
  wf:=fun j x f k l=>by
   by_cases e:j=i
   ·subst e;rw[aR]at f;cases f
    exact m
   ·rw[aM _ _ _ _ e]at f;exact s.wf _ _ f k l
  inj:=fun a b c d h1 y=>s.inj a b c d (g _ _ h1) (g _ _ y)
  own:=fun a b h1=>s.own a b (g _ _ h1)
  fz:=by rw[aM _ _ _ _ (Ne.symm A)];exact s.fz
  only:=fun j F p=>by
   by_cases e:j=i
   ·subst e;rw[aR]at p;cases p
   ·rw[aM _ _ _ _ e]at p;exact s.only _ _ p
  lnk:=fun j b u=>by
   by_cases e:j=i
   ·subst e;rw[aR]at u;cases u
   ·rw[aM _ _ _ _ e]at u;exact s.lnk _ _ u }
theorem yd1{n:Nat}{g:Out->Fz->List (Nat×Ent)->Nat->Prop}{out:Out}(i:Nat){c:Bool}{b:SB}(d:SB)(k:lget h i=some (.opt c b))(f:∀ρ o,b.ok ρ o->d.ok ρ o)(a:d.below nx)(l:Cln n g out (lput h i (.opt c d)) nx):Cln n g out h nx:=by
 unfold Cln at*;intro C ρ w e m S h1 j;exact l C ρ w e m (S.swapO k f a) h1 j
theorem Sat.swapR(s:Sat C ρ h nx w){i:Nat}{b n:SB}(q:lget h i=some (.one b))(B:∀o,b.ok ρ o->n.ok ρ o)(m:n.below nx):Sat C ρ (lput h i (.one n)) nx w:=by
 have A:=s.ne0 q rfl
 have g:∀j k,St.owns (lput h i (.one n)) j k->St.owns h j k:=by
  rintro j k ⟨x,f,l⟩;by_cases e:j=i
  ·subst e;rw[aR]at f;cases f;exact⟨_,q,l⟩
  ·rw[aM _ _ _ _ e]at f;exact⟨_,f,l⟩
 exact{ s with
  lt:=fun j x f=>by
   by_cases e:j=i
   ·subst e;exact s.lt _ _ q
   ·rw[aM _ _ _ _ e]at f;exact s.lt _ _ f
  blk:=fun j x f k l=>by
   by_cases e:j=i
   ·subst e;rw[aR]at f;cases f
    obtain⟨o,h1,y⟩:=s.blk _ _ q k l;exact⟨o,h1,B _ y⟩
   ·rw[aM _ _ _ _ e]at f;exact s.blk _ _ f k l
  wf:=fun j x f k l=>by
   by_cases e:j=i
   ·subst e;rw[aR]at f;cases f
    exact m
   ·rw[aM _ _ _ _ e]at f;exact s.wf _ _ f k l
  inj:=fun a b c d h1 y=>s.inj a b c d (g _ _ h1) (g _ _ y)
  own:=fun a b h1=>s.own a b (g _ _ h1)
  fz:=by rw[aM _ _ _ _ (Ne.symm A)];exact s.fz
  only:=fun j F p=>by
   by_cases e:j=i
   ·subst e;rw[aR]at p;cases p
   ·rw[aM _ _ _ _ e]at p;exact s.only _ _ p
  lnk:=fun j b u=>by
   by_cases e:j=i
   ·subst e;rw[aR]at u;cases u
   ·rw[aM _ _ _ _ e]at u;exact s.lnk _ _ u }
theorem resT{P:Program}{c:Code}{e:St}{Q:SE->St->Prop}(d:Nat){s:SV}(i:SV)(k:lget e.t d=some s)(j:s.ren (resP e.h)=i)(f:i.below e.nx)(l:WP P c { e with t:=lput e.t d i } Q):WP P c e Q:=by
 unfold WP at*;intro C ρ a w D;refine l C ρ a w { sat:=D.sat,nt:=D.nt,tm:=fun n x b=>?_,tw:=fun n x b=>?_,n0:=D.n0,df:=D.df,dw:=D.dw }
 ·by_cases g:n=d
  ·subst g;rw[aR]at b;cases b
   obtain⟨v,o,m⟩:=D.tm n _ k;refine⟨v,o,?_⟩;rw[<-j];refine(SV.rel_ren (resP e.h) ρ s v).2 ?_;rw[kj D.sat];exact m
  ·rw[aM _ _ _ _ g]at b;exact D.tm n x b
 ·by_cases g:n=d
  ·subst g;rw[aR]at b;cases b;exact f
  ·rw[aM _ _ _ _ g]at b;exact D.tw n x b
end
@[irreducible] def EndF {X:Type} (I:X->St) (μ:X->Nat) (x:X) (st:St):Prop:=∀C ρ a w,Den C ρ st a w->∃x',μ x' < μ x/\∃ρ',Den C ρ' (I x') a w
def LQF{X:Type}(I:X->St)(μ:X->Nat)(x:X)(Q:SE->St->Prop):SE->St->Prop:=fun e a=>
 match e with
 |.normal=>EndF I μ x a
 |.ret=>Q .ret a
 |.exit id=>Q (.exit id) a
 |.panic v=>Q (.panic v) a
section
variable {P:Program} {st:St} {Q:SE->St->Prop}
theorem Ao{X:Type}{c:Code}(I:X->St)(μ:X->Nat)(J:X)
  (h:WfH st.h st.nx->WfT st.t st.nx->Le st (I J)/\∀x,WP P c (I x) (LQF I μ x Q)):WP P (.loop c) st Q:=by
 unfold WP;intro C ρ a w D;obtain⟨G,O⟩:=h D.wfH D.wfT;unfold Le at G;obtain⟨T,K⟩:=G C ρ a w D;have j:∀a w,(∃x ρ,Den C ρ (I x) a w)->∃n,∃x ρ,μ x=n/\Den C ρ (I x) a w:=fun a w ⟨x,ρ,h⟩=>⟨μ x,x,ρ,rfl,h⟩
 let m:Act->World->Nat:=fun a w=>by
  classical exact if h:∃n,∃x ρ,μ x=n/\Den C ρ (I x) a w then Classical.choose (exists_least h)else 0
 refine wp_loop (fun a w=>∃x ρ,Den C ρ (I x) a w) m ⟨J,T,K⟩ ?_;intro a w M;have y:=j a w M;have R:m a w=Classical.choose (exists_least y):=by simp only[m];rw[dif_pos y]
 obtain⟨x,U,A,L⟩:=(Classical.choose_spec (exists_least y)).1;have i:=O x;unfold WP at i;refine wp_mono (i C U a w L) ?_;rintro e q B ⟨S,b,p,o,rfl,l⟩;cases S with
 |normal=>
  have k:EndF I μ x b:=o;unfold EndF at k;obtain⟨E,s,g,d⟩:=k C p q B l;refine⟨⟨E,g,d⟩,?_⟩;have f:=j q B ⟨E,g,d⟩;have u:m q B=Classical.choose (exists_least f):=by simp only[m];rw[dif_pos f]
  rw[R,u,<-A];exact yt ((Classical.choose_spec (exists_least f)).2 _ ⟨E,g,rfl,d⟩) s
 |ret=>exact⟨.ret,b,p,o,rfl,l⟩
 |exit id=>exact⟨.exit id,b,p,o,rfl,l⟩
 |panic v=>exact⟨.panic v,b,p,o,rfl,l⟩
theorem mf{Θ:Tys}(hΘ:Θ.Ok P){st:St}{a:Code}{X:Type}(upd:X->List (Nat×SV))(jl:List Nat)(hup:X->List (Nat×Ent))(N:Nat)(μ:X->Nat)(d:X)
  (e:WfH st.h st.nx->WfT st.t st.nx->Le st (LI st upd jl hup N d))
  (f:∀x,WfH st.h st.nx->WfT st.t st.nx->sx P Θ a (LI st upd jl hup N x) (LQF (LI st upd jl hup N) μ x Q)):WP P (.loop a) st Q:=
 Ao (LI st upd jl hup N) μ d fun b c=>⟨e b c,fun x=>ec hΘ _ _ _ (f x b c)⟩
variable {X:Type} {I:X->St} {μ:X->Nat} {x:X}
theorem dT(h:∃b,μ b < μ x/\Le st (I b)):EndF I μ x st:=by
 obtain⟨b,h1,c⟩:=h;unfold EndF;unfold Le at c;exact fun C ρ a w D=>⟨b,h1,c C ρ a w D⟩
theorem eO{e:Ent}{F:Fz}(i:Nat)(fb:Nat->SB)(m:lget st.h i=some e)(j:lget st.h 0=some (.frz F))(p:e.plain=true)
  (n:∀k,e.has k->(e.at k).ren (resP st.h)=fb k)(l:∀k,e.has k->(fb k).below 1)
  (o:∀b c,Fz.le F c->(∀k,e.has k->c (b k)=some (fb k))->EndF I μ x { st with h:=lput (lput st.h i (.lnk b)) 0 (.frz c) }):EndF I μ x st:=by
 unfold EndF at*;intro C ρ a w D;obtain⟨c,h1,g,f⟩:=D.sat.freeze m p j fb n l;exact o (ρ i) c h1 (fun k d=>(g k d).2) C ρ a w { sat:=f,nt:=D.nt,tm:=D.tm,tw:=D.tw,n0:=D.n0,df:=D.df,dw:=D.dw }
theorem eJ(i:Nat){B:SB}(B':SB)(e:lget st.h i=some (.one B))(d:B.ren (resP st.h)=B')(b:B'.below st.nx)(f:EndF I μ x { st with h:=lput st.h i (.one B') }):EndF I μ x st:=by
 unfold EndF at*;intro C ρ a w D
 have c:=D.sat.swapR e (fun o h=>by
  rw[<-d];refine(SB.ok_ren (resP st.h) ρ _ o).2 ?_;rw[kj D.sat];exact h) b
 exact f C ρ a w { sat:=c,nt:=D.nt,tm:=D.tm,tw:=D.tw,n0:=D.n0,df:=D.df,dw:=D.dw }
theorem relE{n:Nat}{a:Out->Fz->List (Nat×Ent)->Nat->Prop}{out:Out}(out':Out){h:Hp}{nx:Nat}(g:∀ρ e,out.rel ρ e->out'.rel ρ e)(c:out.below nx->out'.below nx)(d:Cln n a out' h nx):Cln n a out h nx:=by
 unfold Cln at*;intro C ρ w e f S h1 b;exact d C ρ w e f S (g ρ e h1) (c b)
end
end Sx
namespace Sx
open Go
theorem lC{X:Type}{I:X->St}{μ:X->Nat}{x:X}{c:St}(i:Nat){B:SB}(B':SB)(e:lget c.h i=some (.one B))(d:∀ρ o,B.ok ρ o->B'.ok ρ o)(b:B'.below c.nx)(f:EndF I μ x { c with h:=lput c.h i (.one B') }):EndF I μ x c:=by
 unfold EndF at*;intro C ρ a w D;exact f C ρ a w { sat:=D.sat.swap e d b,nt:=D.nt,tm:=D.tm,tw:=D.tw,n0:=D.n0,df:=D.df,dw:=D.dw }
theorem leRnd{T:List (List (Nat×SV))}(ts:List (List (Nat×SV))){upd jl:List (Nat×SV)}{H:Hp}(a:List (List (Nat×Ent))){hup:List (Nat×Ent)}{nx1 n0 nt N0 N:Nat}{d:List (Dk×List SA)}(s:List (Nat×Mv))(y:WfH H N0)(A:WfT T N0)
  (e:(ckI s upd jl hup n0 nt N0 N&&(ts.all fun l=>l.all fun p=>(aget upd p.1).isSome||(aget jl p.1).isSome)&&(a.all fun l=>l.all fun p=>(aget hup p.1).isSome||Nat.ble N0 p.1)&&dB N0 d)=true)
  (G:bH N hup)(E:leT s (ts++(jl::T)) upd)(D:leH s (a++H) hup):Le ⟨ts++(jl::T),a++H,nx1,n0,nt,d⟩ ⟨upd::jl::T,hup::H,N,n0,nt,d⟩:=by
 simp only[ckI,qd]at e;obtain⟨⟨⟨⟨⟨⟨⟨⟨g,h⟩,j⟩,k⟩,o⟩,q⟩,u⟩,w⟩,x⟩:=e;refine m9 N0 N s y A (nb k) (nb j) (dB_ok x) E ?_ g h D ?_ q (bT_of o) G
 ·intro n h1 c;rw[jU ts fun l b=>ik (f:=fun m=>(aget upd m).isSome||(aget jl m).isSome) (qp.1 u l b) (by simp[h1,c])];simp[lget,c]
 ·intro i I h1;refine jU a fun l b=>ik (f:=fun m=>(aget hup m).isSome||Nat.ble N0 m) (qp.1 w l b) ?_
  simp only[h1,qc4,qa6];cases B:Nat.ble N0 i with
  |false=>rfl
  |true=>have:=nb B;omega
end Sx
namespace Go.Proofs.YtfnkamphhpldcaaGreatDoor
open Go Sx
set_option maxRecDepth 100000
def RowG{α:Type}(R:Fz->List SA->α->Prop)(G:Fz)(l:List α)(o:List ZC):Prop:=o.length=l.length/\∀(i:Nat) (z:ZC) (x:α),o[i]? =some z->l[i]? =some x->R G z.1 x
variable {G:Fz}{o:List ZC}
theorem RowG.snoc{α:Type}{R:Fz->List SA->α->Prop}{l:List α}(h:RowG R G l o){x:α}{z:ZC}(c:R G z.1 x):RowG R G (l++[x]) (o++[z]):=by
 refine⟨by simp[h.1],fun i e d h1 a=>?_⟩;by_cases g:i < o.length
 ·rw[jo g]at h1;rw[jo (h.1▸g)]at a;exact h.2 i e d h1 a
 ·have b:i=o.length:=by
   have:=(qg.1 h1).1;simp at this;omega
  subst b;rw[jt (qi _),qdj]at h1;rw[jt (by rw[h.1];exact qi _),h.1,qdj]at a;cases h1;cases a;exact c
theorem RowG.sl{α:Type}{R:Fz->List SA->α->Prop}{l:List α}(h:RowG R G l o){t sz b a cap:Nat}(e:G b=some (.arr t sz (o.map encZ) a)):SlR G t sz (R G) (.slice false 0 b 0 sz l.length cap) l:=
 SlR.new e (by rw[qa];exact h.1) fun k x d=>by
  have c:k < o.length:=h.1▸(qg.1 d).1;exact⟨_,by rw[qt,qc c];rfl,h.2 k _ x (qc c) d⟩
theorem RowG.mono{α:Type}{R:Fz->List SA->α->Prop}(e:∀{F b:Fz} {y:List SA} {x:α},R F y x->Fz.le F b->R b y x){c:Fz}{l:List α}(h:RowG R G l o)(a:Fz.le G c):RowG R c l o:=
 ⟨h.1,fun i z x h1 d=>e (h.2 i z x h1 d) a⟩
def RowL(G:Fz)(l:List Kp)(o:List ZC):Prop:=o.length=l.length/\∀(i:Nat) (z:ZC) (x:Kp),o[i]? =some z->l[i]? =some x->KpR G z.1 x
theorem RowL.nil:RowL G [] []:=⟨rfl,fun i z x h=>by simp at h⟩
theorem RowL.mono{b:Fz}{l:List Kp}(h:RowL G l o)(a:Fz.le G b):RowL b l o:=⟨h.1,fun i z x h1 c=>(h.2 i z x h1 c).mono a⟩
theorem RowL.snoc{l:List Kp}{x:Kp}{z:ZC}(h:RowL G l o)(c:KpR G z.1 x):RowL G (l++[x]) (o++[z]):=by
 refine⟨by rw[qb,qb,h.1];rfl,fun i y w h1 a=>?_⟩;rcases qcf i o.length with hi | hi
 ·rw[jo hi]at h1;rw[jo (by rw[<-h.1];exact hi)]at a;exact h.2 i y w h1 a
 ·rw[jt hi]at h1;rw[jt (by rw[<-h.1];exact hi)]at a;rw[<-h.1]at a;cases b:i - o.length with
  |zero=>
   rw[b]at h1 a;cases h1;cases a;exact c
  |succ j=>
   rw[b]at h1;simp at h1
theorem gM(h:Hp)(l:List Stp)(c:Nat):SB.ren (resP h) (.arr 56 2 (l.map enc) c)=.arr 56 2 (l.map enc) c:=by
 show SB.arr 56 2 ((l.map enc).map (List.map (SA.ren (resP h)))) c=_;rw[yA]
theorem eP(l:List Stp)(c:Nat):SB.below 1 (.arr 56 2 (l.map enc) c):=by
 intro r b t a;obtain⟨x,_,rfl⟩:=qz.1 b;simp only[enc,qh,qq,or_false]at a;rcases a with rfl | rfl<;>trivial
variable {c:Nat}
theorem ig{z:Nat}{p:Int}{l:List Stp}(h:G z=some (.arr 56 2 (l.map enc) c)):KpR G [.int .i64 p,.slice false 0 z 0 2 (0+(l.map enc).length) c] (p,l):=by
 refine⟨_,rfl,false,z,0,c,_,c,by rw[q9,qa],by simp,fun _=>h,by rw[qa];exact qcx (q9 _),?_⟩;rw[y8,ql (by rw[qa];exact qi _)]
variable {t:TypeId}
theorem fh{h:Hp}(a:∀k,resP h 0 k=(0,k)){i z:Nat}(b:resP h i 0=(0,z))(l:List ZC)(p:Int)(n c c':Nat):SB.ren (resP h) (.arr t 2 (l.map encZ++[[.int .i64 p,.slice false i 0 0 2 n c]]) c')=.arr t 2 (l.map encZ++[[.int .i64 p,.slice false 0 z 0 2 n c]]) c':=by
 show SB.arr t 2 ((l.map encZ++([[.int .i64 p,.slice false i 0 0 2 n c]]:List (List SA))).map (List.map (SA.ren (resP h)))) c'=_;rw[qo,nI aD a];show SB.arr t 2 (l.map encZ++[[.int .i64 p,.slice false (resP h i 0).1 (resP h i 0).2 0 2 n c]]) c'=_;rw[b]
theorem eQ{n:Nat}(b:0 < n)(l:List ZC)(x:ZC)(c:Nat):SB.below n (.arr t 2 (l.map encZ++[encZ x]) c):=by
 have a:SB.below n (.arr t 2 ((l++[x]).map encZ) c):=bP (n:=n) (e:=encZ) aD b t 2 c (l++[x]);rw[qo]at a;exact a
theorem mg{l:List ZC}{p:Int}(ρ:Rho)(o:Obj)(h:(SB.arr t 2 (l.map encZ++[[.int .i64 p,.nilsl]]) c).ok ρ o):(SB.arr t 2 (l.map encZ++[[.int .i64 p,.slice true 0 0 0 2 0 0]]) c).ok ρ o:=by
 obtain⟨b,d,a,f,g⟩:=h;refine⟨fun x hx=>?_,by simpa using d,a,by simpa using f,?_⟩
 ·rcases yf.1 hx with hx | hx
  ·exact b x (qa0 _ hx)
  ·obtain rfl:=qs.1 hx;rfl
 ·have e:(l.map encZ++[[SA.int .i64 p,.slice true 0 0 0 2 0 0]]).flatten.map (SA.den ρ)=(l.map encZ++[[SA.int .i64 p,.nilsl]]).flatten.map (SA.den ρ):=by simp[SA.den]
  rw[e];exact g
abbrev kQ(t:TypeId)(l:List ZC)(p:Int)(c:Nat):SB:=.arr t 2 (l.map encZ++[[.int .i64 p,.slice true 0 0 0 2 0 0]]) c
theorem k8{l:List ZC}{p:Int}{n:Nat}(a:0 < n):(kQ t l p c).below n:=eQ a l (mkZ p (.slice true 0 0 0 2 0 0) rfl) c
theorem yG{μ:Mu}{i j n:Nat}{p:Int}{a:List Stp}{x:Stp}(h:μ i 0=(j,0))(b:n=a.length+1):subE (some (.one (.cells t [.int .i64 p,.slice false j 0 0 2 n c]))) ((Ent.one (.cells t [.int .i64 p,gA 2 i c (a++[x])])).ren μ):=by
 subst b;show SB.cells t _=SB.cells t _;cases a with
 |nil=>simp[gA,SA.ren,h]
 |cons y r=>simp[gA,SA.ren,h]
theorem fV{μ:Mu}{i j n:Nat}{a b:List UInt8}{k:Int}{z:ZC}(h:μ i 0=(j,0))(d:n=o.length+1):subE (some (.one (.cells t [.str a,.str b,.int .i64 k,.slice false j 0 0 2 n c]))) ((Ent.one (.cells t [.str a,.str b,.int .i64 k,gA 2 i c (o++[z])])).ren μ):=by
 subst d;show SB.cells t _=SB.cells t _;cases o with
 |nil=>simp[gA,SA.ren,h]
 |cons y r=>simp[gA,SA.ren,h]
