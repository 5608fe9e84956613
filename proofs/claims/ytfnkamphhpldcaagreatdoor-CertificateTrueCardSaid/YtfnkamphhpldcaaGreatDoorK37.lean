import Derived.Test.YtfnkamphhpldcaaGreatDoorK08
import Derived.Test.YtfnkamphhpldcaaGreatDoorK34
import Derived.Test.YtfnkamphhpldcaaGreatDoorK35
import Derived.Test.YtfnkamphhpldcaaGreatDoorK36
import Derived.Test.YtfnkamphhpldcaaGreatDoorK22
import Derived.Test.YtfnkamphhpldcaaGreatDoorK16
set_option maxHeartbeats 64000000
namespace Sx
open Go
section
variable {C:Ctx} {ρ:Rho} {h:Hp} {nx:Nat} {w:World}
theorem Sat.swapR(s:Sat C ρ h nx w){i:Nat}{b n:SB}(q:lget h i=some (.one b))(B:∀o,b.ok ρ o->n.ok ρ o)(m:n.below nx):Sat C ρ (lput h i (.one n)) nx w:=by
 have A:=s.ne0 q rfl
 have g:∀j k,St.owns (lput h i (.one n)) j k->St.owns h j k:=by
  rintro j k ⟨x,f,l⟩;by_cases e:j=i
  ·subst e;rw[zae]at f;cases f;exact⟨_,q,l⟩
  ·rw[zac _ _ _ _ e]at f;exact⟨_,f,l⟩
 exact{ s with
  lt:=fun j x f=>by
   by_cases e:j=i
   ·subst e;exact s.lt _ _ q
   ·rw[zac _ _ _ _ e]at f;exact s.lt _ _ f
  blk:=fun j x f k l=>by
   by_cases e:j=i
   ·subst e;rw[zae]at f;cases f
    obtain⟨o,h1,y⟩:=s.blk _ _ q k l;exact⟨o,h1,B _ y⟩
   ·rw[zac _ _ _ _ e]at f;exact s.blk _ _ f k l
  wf:=fun j x f k l=>by
   by_cases e:j=i
   ·subst e;rw[zae]at f;cases f
    exact m
   ·rw[zac _ _ _ _ e]at f;exact s.wf _ _ f k l
  inj:=fun a b c d h1 y=>s.inj a b c d (g _ _ h1) (g _ _ y)
  own:=fun a b h1=>s.own a b (g _ _ h1)
  fz:=by rw[zac _ _ _ _ (Ne.symm A)];exact s.fz
  only:=fun j F p=>by
   by_cases e:j=i
   ·subst e;rw[zae]at p;cases p
   ·rw[zac _ _ _ _ e]at p;exact s.only _ _ p
  lnk:=fun j b u=>by
   by_cases e:j=i
   ·subst e;rw[zae]at u;cases u
   ·rw[zac _ _ _ _ e]at u;exact s.lnk _ _ u }
theorem resT{P:Program}{c:Code}{e:St}{Q:SE->St->Prop}(d:Nat){s:SV}(i:SV)(k:lget e.t d=some s)(j:s.ren (resP e.h)=i)(f:i.below e.nx)(l:WP P c { e with t:=lput e.t d i } Q):WP P c e Q:=by
 unfold WP at*;intro C ρ a w D;refine l C ρ a w { sat:=D.sat,nt:=D.nt,tm:=fun n x b=>?_,tw:=fun n x b=>?_,n0:=D.n0,df:=D.df,dw:=D.dw }
 ·by_cases g:n=d
  ·subst g;rw[zae]at b;cases b
   obtain⟨v,o,m⟩:=D.tm n _ k;refine⟨v,o,?_⟩;rw[<-j];refine(SV.rel_ren (resP e.h) ρ s v).2 ?_;rw[zi6 D.sat];exact m
  ·rw[zac _ _ _ _ g]at b;exact D.tm n x b
 ·by_cases g:n=d
  ·subst g;rw[zae]at b;cases b;exact f
  ·rw[zac _ _ _ _ g]at b;exact D.tw n x b
end
@[irreducible] def EndF {X:Type} (I:X->St) (μ:X->Nat) (x:X) (st:St):Prop:=∀C ρ a w,Den C ρ st a w->∃x',μ x' < μ x/\∃ρ',Den C ρ' (I x') a w
def LQF{X:Type}(I:X->St)(μ:X->Nat)(x:X)(Q:SE->St->Prop):SE->St->Prop:=fun e a=>
 match e with
 |.normal=>EndF I μ x a
 |.ret=>Q .ret a
 |.exit id=>Q (.exit id) a
 |.panic v=>Q (.panic v) a
section
variable {P:Program} {st:St} {Q:SE->St->Prop}
theorem z3x{X:Type}{c:Code}(I:X->St)(μ:X->Nat)(J:X)
  (h:WfH st.h st.nx->WfT st.t st.nx->Le st (I J)/\∀x,WP P c (I x) (LQF I μ x Q)):WP P (.loop c) st Q:=by
 unfold WP;intro C ρ a w D;obtain⟨G,hb⟩:=h D.wfH D.wfT;unfold Le at G;obtain⟨S,K⟩:=G C ρ a w D;have j:∀a w,(∃x ρ,Den C ρ (I x) a w)->∃n,∃x ρ,μ x=n/\Den C ρ (I x) a w:=fun a w ⟨x,ρ,h⟩=>⟨μ x,x,ρ,rfl,h⟩
 let m:Act->World->Nat:=fun a w=>by
  classical exact if h:∃n,∃x ρ,μ x=n/\Den C ρ (I x) a w then Classical.choose (exists_least h)else 0
 refine wp_loop (fun a w=>∃x ρ,Den C ρ (I x) a w) m ⟨J,S,K⟩ ?_;intro a w M;have y:=j a w M;have O:m a w=Classical.choose (exists_least y):=by simp only[m];rw[dif_pos y]
 obtain⟨x,T,A,L⟩:=(Classical.choose_spec (exists_least y)).1;have i:=hb x;unfold WP at i;refine wp_mono (i C T a w L) ?_;rintro e q B ⟨R,b,p,o,rfl,l⟩;cases R with
 |normal=>
  have k:EndF I μ x b:=o;unfold EndF at k;obtain⟨E,s,g,d⟩:=k C p q B l;refine⟨⟨E,g,d⟩,?_⟩;have f:=j q B ⟨E,g,d⟩;have u:m q B=Classical.choose (exists_least f):=by simp only[m];rw[dif_pos f]
  rw[O,u,<-A];exact ym ((Classical.choose_spec (exists_least f)).2 _ ⟨E,g,rfl,d⟩) s
 |ret=>exact⟨.ret,b,p,o,rfl,l⟩
 |exit id=>exact⟨.exit id,b,p,o,rfl,l⟩
 |panic v=>exact⟨.panic v,b,p,o,rfl,l⟩
theorem zoq{Θ:Tys}(hΘ:Θ.Ok P){st:St}{a:Code}{X:Type}(upd:X->List (Nat×SV))(jl:List Nat)(hup:X->List (Nat×Ent))(N:Nat)(μ:X->Nat)(d:X)
  (e:WfH st.h st.nx->WfT st.t st.nx->Le st (LI st upd jl hup N d))
  (hb:∀x,WfH st.h st.nx->WfT st.t st.nx->sx P Θ a (LI st upd jl hup N x) (LQF (LI st upd jl hup N) μ x Q)):WP P (.loop a) st Q:=
 z3x (LI st upd jl hup N) μ d fun b c=>⟨e b c,fun x=>zc6 hΘ _ _ _ (hb x b c)⟩
variable {X:Type} {I:X->St} {μ:X->Nat} {x:X}
theorem zfj(h:∃b,μ b < μ x/\Le st (I b)):EndF I μ x st:=by
 obtain⟨b,h1,c⟩:=h;unfold EndF;unfold Le at c;exact fun C ρ a w D=>⟨b,h1,c C ρ a w D⟩
theorem zdg{e:Ent}{F:Fz}(i:Nat)(fb:Nat->SB)(l:lget st.h i=some e)(j:lget st.h 0=some (.frz F))(o:e.plain=true)
  (m:∀k,e.has k->(e.at k).ren (resP st.h)=fb k)(hb:∀k,e.has k->(fb k).below 1)
  (n:∀b c,Fz.le F c->(∀k,e.has k->c (b k)=some (fb k))->EndF I μ x { st with h:=lput (lput st.h i (.lnk b)) 0 (.frz c) }):EndF I μ x st:=by
 unfold EndF at*;intro C ρ a w D;obtain⟨c,h1,g,f⟩:=D.sat.freeze l o j fb m hb;exact n (ρ i) c h1 (fun k d=>(g k d).2) C ρ a w { sat:=f,nt:=D.nt,tm:=D.tm,tw:=D.tw,n0:=D.n0,df:=D.df,dw:=D.dw }
theorem ze8(i:Nat){B:SB}(B':SB)(e:lget st.h i=some (.one B))(d:B.ren (resP st.h)=B')(b:B'.below st.nx)(f:EndF I μ x { st with h:=lput st.h i (.one B') }):EndF I μ x st:=by
 unfold EndF at*;intro C ρ a w D
 have c:=D.sat.swapR e (fun o h=>by
  rw[<-d];refine(SB.ok_ren (resP st.h) ρ _ o).2 ?_;rw[zi6 D.sat];exact h) b
 exact f C ρ a w { sat:=c,nt:=D.nt,tm:=D.tm,tw:=D.tw,n0:=D.n0,df:=D.df,dw:=D.dw }
theorem relE{n:Nat}{a:Out->Fz->List (Nat×Ent)->Nat->Prop}{out:Out}(out':Out){h:Hp}{nx:Nat}(f:∀ρ e,out.rel ρ e->out'.rel ρ e)(hb:out.below nx->out'.below nx)(c:Cln n a out' h nx):Cln n a out h nx:=by
 unfold Cln at*;intro C ρ w e d S h1 b;exact c C ρ w e d S (f ρ e h1) (hb b)
end
end Sx
namespace Go.Proofs.YtfnkamphhpldcaaGreatDoor
open Go Sx
set_option maxRecDepth 100000
def StOk(p:Int)(t:List Stp):Prop:=t=[(6,0)]\/(za2 p t=true/\∀s∈t,s.1≠6)
theorem z6g{p:Int}(a:1<=p/\p<=8):∀m∈nfs p,m=[(6,0)]\/∀s∈m,s.1≠6:=by
 rcases p8 a with rfl | rfl | rfl | rfl | rfl | rfl | rfl | rfl<;>decide+kernel
theorem ybg{p:Int}{t:List Stp}(h:za2 p t=true)(a:normS t=t):StOk p t:=by
 have h1:=z6g (zpk h) t (by rw[<-a];exact yaq h)
 grind[StOk,za2,normS]
theorem zhy{p:Int}{ks:List Kp}(c:ks.all zbo=true)(b:1<=p/\p<=8):StOk p (zbr p ks)/\za2 p (zbr p ks)=true/\normS (zbr p ks)=zbr p ks/\(p=4->0 < (zbr p ks).length->zbr p ks=[(6,0)])/\(nameK p=false->zbr p ks=[]):=by
 have a:StOk p []/\za2 p []=true/\normS []=[]/\(p=4->0 < ([]:List Stp).length->([]:List Stp)=[(6,0)])/\(nameK p=false->([]:List Stp)=[]):=
  ⟨.inr ⟨nilV b,by simp⟩,nilV b,by decide,(fun _ h=>absurd h (by simp)),fun _=>rfl⟩
 induction ks with
 |nil=>exact a
 |cons k r ih=>
  grind[Bool.not_eq_true',decide_eq_false_iff_not,ybg,zbr,zbo]
theorem ydu{b:List Stp}(h:za2 7 b=true)(c:∀s∈b,s.1≠6):∀s∈b,s.1=5:=by
 intro s a;have h1:=zbn (k:=s.1) (n:=s.2) (by omega) (zjf h s a)
 grind
theorem zyy{ks:List Kp}(b:ks.all zbo=true){p:Int}(c:1<=p/\p<=8):za2 p (zbu ks p)=true/\normS (zbu ks p)=zbu ks p:=by
 have g:za2 p [(6,0)]=true/\normS [(6,0)]=[(6,0)]:=by
  refine⟨?_,by decide⟩;rcases p8 c with rfl | rfl | rfl | rfl | rfl | rfl | rfl | rfl<;>decide
 by_cases e:p=3
 ·grind[zoa,zob,zhy,zbr,za2,zbu,normS,zbo]
 ·by_cases f:p=5
  ·grind[zoa,zob,zhy,zbr,za2,zbu,normS,zbo]
  ·by_cases a:p=6
   ·subst a;rw[zyz];have h:=zhy b (p:=7) (by omega);refine⟨z8e (by omega) ?_ ?_,h.2.2.1⟩
    ·exact(zmg h.2.1).2.1
    ·intro s d;have h1:=(zbn (p:=7) (k:=s.1) (n:=s.2) (by omega) (zjf h.2.1 s d))
     obtain⟨k,n⟩:=s;rcases h1 with⟨_,h,_⟩ | ⟨_,h,_⟩ | ⟨_,h,_⟩ | ⟨_,h,_⟩ | ⟨rfl,_,rfl⟩ | ⟨rfl,rfl⟩
     ·omega
     ·omega
     ·omega
     ·omega
     ·decide
     ·decide
   grind[zy0,zhy]
theorem zk1{ks:List Kp}(b:ks.all zbo=true):clOk (za8 ks) 1=true:=by
 have h:∀(n:Nat) (i:Nat),i+n<=8->clOk ((List.range' i n).map fun k:Nat=>((k:Int)+1,zbu ks ((k:Int)+1))) ((i:Int)+1)=true:=by
  intro n
  induction n with
  |zero=>intro i _;rfl
  |succ n ih=>
   intro i c;have h1:=ih (i+1) (by omega);have a:=zyy b (p:=(i:Int)+1) (by omega);rw[List.range'_succ,jm,clOk,clAt];simp only[a.1,decide_eq_true a.2,decide_true,yq];exact h1
 grind[List.range_eq_range',za8]
section
variable (F:Fz) (hM:MLF F) (sk:SA) (m:Mig) (a1 b1:SA) (d:Dc) (hk:KpsAt F sk m.keep) (hks:short m.keep) (hkl:m.keep.length < 1000000) (hko:m.keep.all zbo=true) (hD:DocAt F a1 b1 d) (hsm:DcSmall d) (hd:docOk d=true) (q1 q2:Bool) (c1 c2:Nat)
include hM hk hks hkl hko hD hsm hd
end
theorem zlr(c n:Int)(a:i64 c)(b:0 < n):Pu Tryz.prog 47 [.va (.int .i64 c),.va (.int .i64 n)] (.va (.int .i64 (pickI c n))):=by
 intro F;unfold i64 at a;refine foS Tryz.func47 ?_;refine br (fun g=>?_) (fun g=>?_)
 ·refine⟨by omega,?_⟩;refine endPu rfl (Fz.r F) (oi ?_) rfl;simp at g;rw[zah (n:=c+1) (by omega) (by omega),zah (n:=0 - (c+1)) (by omega) (by omega),pickI,if_pos g]
  congr 1;omega
 ·refine⟨by omega,?_⟩;refine endPu rfl (Fz.r F) (oi ?_) rfl;simp at g;rw[pickI,if_neg (by omega)]
def tbl9:List (List (List Stp)):=[[[],[(1,0)],[(2,0)],[(1,0),(2,0)],[(6,0)],[]],[[],[(4,3)],[(4,0)],[(6,0)],[],[(4,6)]],[[],[(3,10)],[(3,100)],[(6,0)],[],[]],[[],[],[],[(6,0)],[],[]],[[],[(5,0)],[(5,0),(5,0)],[(6,0)],[],[]]]
def prp9:List Int:=[1,2,3,4,7]
def stp9(i:Nat)(j:Nat):List Stp:=(tbl9.getD i []).getD j []
def zpp(F:Fz)(c:SA)(l:List Stp):Prop:=(l=[]/\c=.nilsl)\/(0 < l.length/\∃b,c=.slice false 0 b 0 2 l.length l.length/\F b=some (.arr 56 2 (l.map enc) l.length))
def RowAt(F:Fz)(c:SA)(r:List (List Stp)):Prop:=∃b R,c=.slice false 0 b 0 1 6 6/\F b=some (.arr 50 1 R 6)/\∀j,j < 6->∃s,R[j]? =some [s]/\zpp F s (r.getD j [])
def TblAt(F:Fz)(b:Nat):Prop:=∃R,F b=some (.arr 99 1 R 5)/\∀i,i < 5->∃s,R[i]? =some [s]/\RowAt F s (tbl9.getD i [])
theorem zpp.mono{F d:Fz}{c:SA}{l:List Stp}(h:zpp F c l)(a:Fz.le F d):zpp d c l:=by
 rcases h with h | ⟨h,b,h1,e⟩
 ·exact .inl h
 ·exact .inr ⟨h,b,h1,a _ _ e⟩
theorem TblAt.mono{F c:Fz}{b:Nat}(h:TblAt F b)(a:Fz.le F c):TblAt c b:=by
 obtain⟨R,h1,e⟩:=h;refine⟨R,a _ _ h1,fun i o=>?_⟩;obtain⟨s,f,b,d,g,k,l⟩:=e i o;refine⟨s,f,b,d,g,a _ _ k,fun j p=>?_⟩;obtain⟨s,m,n⟩:=l j p;exact⟨s,m,n.mono a⟩
theorem ydk{F:Fz}{b J K L O c d f g l m M e h k n o:Nat}(p:F b=some (.arr 56 2 [[.int .i64 6,.int .i64 0]] 1))(Q:F J=some (.arr 56 2 [[.int .i64 1,.int .i64 0]] 1))(R:F K=some (.arr 56 2 [[.int .i64 2,.int .i64 0]] 1))(S:F L=some (.arr 56 2 [[.int .i64 1,.int .i64 0],[.int .i64 2,.int .i64 0]] 2))(U:F O=some (.arr 56 2 [[.int .i64 4,.int .i64 3]] 1))(s:F c=some (.arr 56 2 [[.int .i64 4,.int .i64 0]] 1))(u:F d=some (.arr 56 2 [[.int .i64 4,.int .i64 6]] 1))(x:F f=some (.arr 56 2 [[.int .i64 3,.int .i64 10]] 1))(y:F g=some (.arr 56 2 [[.int .i64 3,.int .i64 100]] 1))(D:F l=some (.arr 56 2 [[.int .i64 5,.int .i64 0]] 1))(E:F m=some (.arr 56 2 [[.int .i64 5,.int .i64 0],[.int .i64 5,.int .i64 0]] 2))(T:F M=some (.arr 50 1 [[.nilsl],[.slice false 0 J 0 2 1 1],[.slice false 0 K 0 2 1 1],[.slice false 0 L 0 2 2 2],[.slice false 0 b 0 2 1 1],[.nilsl]] 6))(w:F e=some (.arr 50 1 [[.nilsl],[.slice false 0 O 0 2 1 1],[.slice false 0 c 0 2 1 1],[.slice false 0 b 0 2 1 1],[.nilsl],[.slice false 0 d 0 2 1 1]] 6))(A:F h=some (.arr 50 1 [[.nilsl],[.slice false 0 f 0 2 1 1],[.slice false 0 g 0 2 1 1],[.slice false 0 b 0 2 1 1],[.nilsl],[.nilsl]] 6))(B:F k=some (.arr 50 1 [[.nilsl],[.nilsl],[.nilsl],[.slice false 0 b 0 2 1 1],[.nilsl],[.nilsl]] 6))(G:F n=some (.arr 50 1 [[.nilsl],[.slice false 0 l 0 2 1 1],[.slice false 0 m 0 2 2 2],[.slice false 0 b 0 2 1 1],[.nilsl],[.nilsl]] 6))(I:F o=some (.arr 99 1 [[.slice false 0 M 0 1 6 6],[.slice false 0 e 0 1 6 6],[.slice false 0 h 0 1 6 6],[.slice false 0 k 0 1 6 6],[.slice false 0 n 0 1 6 6]] 5)):TblAt F o:=by
 refine⟨_,I,fun i V=>?_⟩;have a:i=0\/i=1\/i=2\/i=3\/i=4:=by omega
 rcases a with rfl | rfl | rfl | rfl | rfl
 ·refine⟨_,rfl,_,_,rfl,T,fun j q=>?_⟩;have a:j=0\/j=1\/j=2\/j=3\/j=4\/j=5:=by omega
  rcases a with rfl | rfl | rfl | rfl | rfl | rfl
  ·exact⟨_,rfl,.inl ⟨rfl,rfl⟩⟩
  ·exact⟨_,rfl,.inr ⟨by decide,_,rfl,Q⟩⟩
  ·exact⟨_,rfl,.inr ⟨by decide,_,rfl,R⟩⟩
  ·exact⟨_,rfl,.inr ⟨by decide,_,rfl,S⟩⟩
  ·exact⟨_,rfl,.inr ⟨by decide,_,rfl,p⟩⟩
  ·exact⟨_,rfl,.inl ⟨rfl,rfl⟩⟩
 ·refine⟨_,rfl,_,_,rfl,w,fun j q=>?_⟩;have a:j=0\/j=1\/j=2\/j=3\/j=4\/j=5:=by omega
  rcases a with rfl | rfl | rfl | rfl | rfl | rfl
  ·exact⟨_,rfl,.inl ⟨rfl,rfl⟩⟩
  ·exact⟨_,rfl,.inr ⟨by decide,_,rfl,U⟩⟩
  ·exact⟨_,rfl,.inr ⟨by decide,_,rfl,s⟩⟩
  ·exact⟨_,rfl,.inr ⟨by decide,_,rfl,p⟩⟩
  ·exact⟨_,rfl,.inl ⟨rfl,rfl⟩⟩
  ·exact⟨_,rfl,.inr ⟨by decide,_,rfl,u⟩⟩
 ·refine⟨_,rfl,_,_,rfl,A,fun j q=>?_⟩;have a:j=0\/j=1\/j=2\/j=3\/j=4\/j=5:=by omega
  rcases a with rfl | rfl | rfl | rfl | rfl | rfl
  ·exact⟨_,rfl,.inl ⟨rfl,rfl⟩⟩
  ·exact⟨_,rfl,.inr ⟨by decide,_,rfl,x⟩⟩
  ·exact⟨_,rfl,.inr ⟨by decide,_,rfl,y⟩⟩
  ·exact⟨_,rfl,.inr ⟨by decide,_,rfl,p⟩⟩
  ·exact⟨_,rfl,.inl ⟨rfl,rfl⟩⟩
  ·exact⟨_,rfl,.inl ⟨rfl,rfl⟩⟩
 ·refine⟨_,rfl,_,_,rfl,B,fun j q=>?_⟩;have a:j=0\/j=1\/j=2\/j=3\/j=4\/j=5:=by omega
  rcases a with rfl | rfl | rfl | rfl | rfl | rfl
  ·exact⟨_,rfl,.inl ⟨rfl,rfl⟩⟩
  ·exact⟨_,rfl,.inl ⟨rfl,rfl⟩⟩
  ·exact⟨_,rfl,.inl ⟨rfl,rfl⟩⟩
  ·exact⟨_,rfl,.inr ⟨by decide,_,rfl,p⟩⟩
  ·exact⟨_,rfl,.inl ⟨rfl,rfl⟩⟩
  ·exact⟨_,rfl,.inl ⟨rfl,rfl⟩⟩
 ·refine⟨_,rfl,_,_,rfl,G,fun j q=>?_⟩;have a:j=0\/j=1\/j=2\/j=3\/j=4\/j=5:=by omega
  rcases a with rfl | rfl | rfl | rfl | rfl | rfl
  ·exact⟨_,rfl,.inl ⟨rfl,rfl⟩⟩
  ·exact⟨_,rfl,.inr ⟨by decide,_,rfl,D⟩⟩
  ·exact⟨_,rfl,.inr ⟨by decide,_,rfl,E⟩⟩
  ·exact⟨_,rfl,.inr ⟨by decide,_,rfl,p⟩⟩
  ·exact⟨_,rfl,.inl ⟨rfl,rfl⟩⟩
  ·exact⟨_,rfl,.inl ⟨rfl,rfl⟩⟩
abbrev box9(a b c d e:Int):Ent:=.one (.cells 28 [.int .i64 a,.int .i64 b,.int .i64 c,.int .i64 d,.int .i64 e])
theorem zhk{n:Nat}{a b c d e:Int}:(box9 a b c d e).below n:=(SB.bB_ok rfl:SB.below n (.cells 28 [.int .i64 a,.int .i64 b,.int .i64 c,.int .i64 d,.int .i64 e]))
theorem zhs{n c i:Nat}{z a b:Int}{o:List ZC}(h:i < n):(Ent.one (.cells 32 [.int .i64 z,.int .i64 a,.int .i64 b,.lit false,gA 2 i c o])).below n:=by
 intro t d;simp only[qn,qy,or_false]at d;rcases d with rfl | rfl | rfl | rfl | rfl
 ·trivial
 ·trivial
 ·trivial
 ·trivial
 ·exact zec h _ _ _
def keep9(a:List Int):Nat->List Kp
 |0=>[]
 |i+1=>keep9 a i++(if stp9 i (pickI (a.getD i 0) 6).toNat=[]then []else [(prp9.getD i 0,stp9 i (pickI (a.getD i 0) 6).toNat)])
def RowL(G:Fz)(l:List Kp)(o:List ZC):Prop:=o.length=l.length/\∀(i:Nat) (z:ZC) (x:Kp),o[i]? =some z->l[i]? =some x->KpR G z.1 x
theorem RowL.nil{G:Fz}:RowL G [] []:=⟨rfl,fun i z x h=>by simp at h⟩
theorem RowL.mono{G b:Fz}{l:List Kp}{o:List ZC}(h:RowL G l o)(a:Fz.le G b):RowL b l o:=⟨h.1,fun i z x h1 c=>(h.2 i z x h1 c).mono a⟩
theorem RowL.snoc{G:Fz}{l:List Kp}{o:List ZC}{x:Kp}{z:ZC}(h:RowL G l o)(c:KpR G z.1 x):RowL G (l++[x]) (o++[z]):=by
 refine⟨by rw[qd,qd,h.1];rfl,fun i y w h1 a=>?_⟩;rcases qde i o.length with hi | hi
 ·rw[js hi]at h1;rw[js (by rw[<-h.1];exact hi)]at a;exact h.2 i y w h1 a
 ·rw[jx hi]at h1;rw[jx (by rw[<-h.1];exact hi)]at a;rw[<-h.1]at a;cases b:i - o.length with
  |zero=>
   rw[b]at h1 a;cases h1;cases a;exact c
  |succ j=>
   rw[b]at h1;simp at h1
theorem zpo{a b c d e:Int}(h:i64 a/\i64 b/\i64 c/\i64 d/\i64 e)(k:Nat):i64 ([a,b,c,d,e].getD k 0):=by
 obtain⟨f,h1,g,i,j⟩:=h
 match k with
 |0=>exact f
 |1=>exact h1
 |2=>exact g
 |3=>exact i
 |4=>exact j
 |n+5=>exact(⟨by decide,by decide⟩:i64 0)
theorem ydq(a b c d e:Int){k:Nat}(h:k < 5):zen [SA.int .i64 a,.int .i64 b,.int .i64 c,.int .i64 d,.int .i64 e] (((k:Nat):Int).toNat*1) 1=some [.int .i64 ([a,b,c,d,e].getD k 0)]:=by
 have f:k=0\/k=1\/k=2\/k=3\/k=4:=by omega
 rcases f with rfl | rfl | rfl | rfl | rfl<;>rfl
theorem yaz{k:Nat}(h:k < 5):[[SA.int .i64 1],[.int .i64 2],[.int .i64 3],[.int .i64 4],[.int .i64 7]][0+((k:Nat):Int).toNat]? =some [.int .i64 (prp9.getD k 0)]:=by
 have a:k=0\/k=1\/k=2\/k=3\/k=4:=by omega
 rcases a with rfl | rfl | rfl | rfl | rfl<;>rfl
theorem zv2:∀i,i < 5->∀j,j < 6->(stp9 i j).length<=2:=by decide
theorem yc7{G:Fz}{b:Nat}{d e f h i:Int}(A:i64 d/\i64 e/\i64 f/\i64 h/\i64 i)(x:TblAt G b){k:Nat}(g:k < 5):∃(J:Int) (p:List Stp) (n:SA) (R:List (List SA)) (br:Nat) (m:List (List SA)),
  (∀F,Fo Tryz.prog F 47 [.va (.int .i64 ([d,e,f,h,i].getD k 0)),.va (.int .i64 6)] (fun o u=>o=.ret (.va (.int .i64 J))/\u=F))/\0<=J/\J < 6/\p.length<=2/\
  keep9 [d,e,f,h,i] (k+1)=keep9 [d,e,f,h,i] k++(if p=[]then []else [(prp9.getD k 0,p)])/\G b=some (.arr 99 1 R 5)/\R[0+(k:Int).toNat]? =some [.slice false 0 br 0 1 6 6]/\
  G br=some (.arr 50 1 m 6)/\m[0+J.toNat]? =some [n]/\zpp G n p:=by
 have l:=zpo A k;have j:=zc1 ([d,e,f,h,i].getD k 0) 6 (by decide) l;obtain⟨R,w,c⟩:=x;obtain⟨B,s,br,m,rfl,hb,y⟩:=c k g;obtain⟨n,q,a⟩:=y (pickI ([d,e,f,h,i].getD k 0) 6).toNat (by omega);exact⟨_,stp9 k (pickI ([d,e,f,h,i].getD k 0) 6).toNat,n,R,br,m,fun F=>zlr _ 6 l (by decide) F,j.1,j.2,zv2 k g _ (by omega),rfl,w,by rw[qk,qx];exact s,hb,by rw[qx];exact q,a⟩
theorem z0t{μ:Mu}{z a b:Int}{c i:Nat}{o:List ZC}{A:SA}(d:A=(gA 2 i c o).ren μ):SB.cells 32 [.int .i64 z,.int .i64 a,.int .i64 b,.lit false,A]=SB.ren μ (.cells 32 [.int .i64 z,.int .i64 a,.int .i64 b,.lit false,gA 2 i c o]):=by subst d;rfl
theorem zhh(h:Hp)(l:List Stp)(c:Nat):SB.ren (resP h) (.arr 56 2 (l.map enc) c)=.arr 56 2 (l.map enc) c:=by
 show SB.arr 56 2 ((l.map enc).map (List.map (SA.ren (resP h)))) c=_;rw[zzk]
theorem zd2(l:List Stp)(c:Nat):SB.below 1 (.arr 56 2 (l.map enc) c):=by
 intro r b t a;obtain⟨x,_,rfl⟩:=jj.1 b;simp only[enc,qn,qy,or_false]at a;rcases a with rfl | rfl<;>trivial
theorem z1x{h:Hp}(a:∀k,resP h 0 k=(0,k)){i z:Nat}(b:resP h i 0=(0,z))(l:List ZC)(p:Int)(n c c':Nat):SB.ren (resP h) (.arr 96 2 (l.map encZ++[[.int .i64 p,.slice false i 0 0 2 n c]]) c')=.arr 96 2 (l.map encZ++[[.int .i64 p,.slice false 0 z 0 2 n c]]) c':=by
 show SB.arr 96 2 ((l.map encZ++([[.int .i64 p,.slice false i 0 0 2 n c]]:List (List SA))).map (List.map (SA.ren (resP h)))) c'=_;rw[qs,zr8 zbb a];show SB.arr 96 2 (l.map encZ++[[.int .i64 p,.slice false (resP h i 0).1 (resP h i 0).2 0 2 n c]]) c'=_;rw[b]
theorem zrn{n:Nat}(b:0 < n)(l:List ZC)(x:ZC)(c:Nat):SB.below n (.arr 96 2 (l.map encZ++[encZ x]) c):=by
 have:=zco (n:=n) (e:=encZ) zbb b 96 2 c (l++[x]);have a:SB.below n (.arr 96 2 ((l++[x]).map encZ) c):=this;rw[qs]at a;exact a
theorem zj8{G:Fz}{z c:Nat}{p:Int}{l:List Stp}(h:G z=some (.arr 56 2 (l.map enc) c)):KpR G [.int .i64 p,.slice false 0 z 0 2 (0+(l.map enc).length) c] (p,l):=by
 refine⟨_,rfl,false,z,0,c,_,c,by rw[qx,qe],by simp,fun _=>h,by rw[qe];exact qaa (qx _),?_⟩;rw[y8,qh (by rw[qe];exact qi _)]
theorem ybk{α:Type}{l:List α}{n:Nat}(h:l.length=n):List.take n (List.drop 0 l)=l:=by
 subst h;exact yv
theorem tk9{t:TypeId}{l:List SA}{p:Pl}{K:List SA->Prop}{x:List SA}(h:zen l (p.e*p.sz+p.o) 1=some x)(a:K x):rdB (.cells t l) p 1 K:=by
 simp only[rdB];rw[h];exact a
def made9(a b c d e f g:Int):Mig:=⟨IntKind.i64.wrap (1+pickI c 9),a,b,(keep9 [c,d,e,f,g] 5).isEmpty&&decide (pickI (c.tdiv 6) 2=0),keep9 [c,d,e,f,g] 5⟩
theorem yam{i a b:SA}{c:Bool}(ρ:Rho)(e:Ending)(h:(Out.ret (.agg [i,a,b,.bool c,.nilsl])).rel ρ e):(Out.ret (.agg [i,a,b,.lit c,.slice true 0 0 0 2 0 0])).rel ρ e:=h
theorem yal{i a b:SA}{c:Bool}{n:Nat}(h:(Out.ret (.agg [i,a,b,.bool c,.nilsl])).below n):(Out.ret (.agg [i,a,b,.lit c,.slice true 0 0 0 2 0 0])).below n:=by
 intro t d;simp only[qn,qy,or_false]at d;rcases d with rfl | rfl | rfl | rfl | rfl
 ·exact h _ (by simp)
 ·exact h _ (by simp)
 ·exact h _ (by simp)
 ·trivial
 ·exact .inl rfl
theorem fin9n{G:Fz}{a b c d e f g:Int}(h:RowL G (keep9 [c,d,e,f,g] 5) []):∃sk,Out.ret (SV.agg [.int .i64 (IntKind.i64.wrap (1+pickI c 9)),.int .i64 a,.int .i64 b,.lit (decide (pickI (c.tdiv 6) 2=0)),.slice true 0 0 0 2 0 0])=.ret (.agg (migS (made9 a b c d e f g) sk))/\KpsAt G sk (made9 a b c d e f g).keep:=by
 have i:keep9 [c,d,e,f,g] 5=[]:=yw h.1.symm;refine⟨.slice true 0 0 0 2 0 0,by unfold made9;rw[i];rfl,?_⟩;show KpsAt G _ (keep9 [c,d,e,f,g] 5);rw[i];exact SlR.nil
theorem fin9c{G:Fz}{a b d f g j k:Int}{l:ZC}{c:List ZC}{m co:Nat}(h:RowL G (keep9 [d,f,g,j,k] 5) (l::c))(hb:G m=some (.arr 96 2 ((l::c).map encZ) co)):∃sk,Out.ret (SV.agg [.int .i64 (IntKind.i64.wrap (1+pickI d 9)),.int .i64 a,.int .i64 b,.lit false,.slice false 0 m 0 2 (c.length+1) co])=.ret (.agg (migS (made9 a b d f g j k) sk))/\KpsAt G sk (made9 a b d f g j k).keep:=by
 have e:c.length+1=(keep9 [d,f,g,j,k] 5).length:=h.1;obtain⟨K,p⟩:∃K,keep9 [d,f,g,j,k] 5=K:=⟨_,rfl⟩
 unfold made9;rw[p]at e h ⊢;rcases K with _ | ⟨q,s⟩
 ·cases e
 refine⟨_,rfl,?_⟩;show KpsAt G _ (q::s);refine⟨false,m,0,co,_,co,by rw[e],fun h=>(nomatch h),fun _=>hb,by rw[qe];exact qaa ((qx _).trans e.symm),fun i x o=>?_⟩
 have n:i < (l::c).length:=by
  have:=(ql.1 o).1;rw[<-e]at this;exact this
 rw[qx];exact⟨encZ (l::c)[i],by rw[qt,qa n];rfl,h.2 i _ x (qa n) o⟩
theorem z5x(F:Fz)(a b:Int)(h Z x2 x3 x4:Int)(hx:i64 h/\i64 Z/\i64 x2/\i64 x3/\i64 x4):
  Fo Tryz.prog F 13 [.va (.int .i64 a),.va (.int .i64 b),.agg [.int .i64 h,.int .i64 Z,.int .i64 x2,.int .i64 x3,.int .i64 x4]] (fun o F'=>∃sk,o=.ret (.agg (migS (made9 a b h Z x2 x3 x4) sk))/\KpsAt F' sk (made9 a b h Z x2 x3 x4).keep):=by
 have bh:=fun F=>zlr h 9 hx.1 (by decide) F
 have bg:=fun F=>zlr (h.tdiv 6) 2 (zm5 hx.1) (by decide) F
 have a7:h.tdiv 6=IntKind.i64.wrap (h.tdiv 6):=by
  have:=zm5 hx.1;unfold i64 at this;exact(zah (by omega) (by omega)).symm
 refine foS Tryz.func13 ?_;refine⟨⟨by decide,by decide⟩,?_⟩;refine usePt (bh F) ?_;refine zcc 4 (fun _=>.arr 56 2 [[.int .i64 6,.int .i64 0]] 1) ?_;intro z4 G4 u4 ap;refine zcc 5 (fun _=>.arr 56 2 [[.int .i64 1,.int .i64 0]] 1) ?_;intro z5 G5 u5 aq;refine zcc 6 (fun _=>.arr 56 2 [[.int .i64 2,.int .i64 0]] 1) ?_;intro z6 G6 u6 ar;refine zcc 7 (fun _=>.arr 56 2 [[.int .i64 1,.int .i64 0],[.int .i64 2,.int .i64 0]] 2) ?_;intro z7 G7 u7 au;refine zcc 9 (fun _=>.arr 56 2 [[.int .i64 4,.int .i64 3]] 1) ?_;intro z9 G9 u9 aw;refine zcc 10 (fun _=>.arr 56 2 [[.int .i64 4,.int .i64 0]] 1) ?_;intro bx ca bk K;refine zcc 11 (fun _=>.arr 56 2 [[.int .i64 4,.int .i64 6]] 1) ?_;intro bz cb bl L;refine zcc 13 (fun _=>.arr 56 2 [[.int .i64 3,.int .i64 10]] 1) ?_;intro b1 cd bn O;refine zcc 14 (fun _=>.arr 56 2 [[.int .i64 3,.int .i64 100]] 1) ?_;intro b2 ce bo Q;refine zcc 17 (fun _=>.arr 56 2 [[.int .i64 5,.int .i64 0]] 1) ?_;intro b5 ch bs U;refine zcc 18 (fun _=>.arr 56 2 [[.int .i64 5,.int .i64 0],[.int .i64 5,.int .i64 0]] 2) ?_;intro b6 ci bt V;refine zcc 8 (fun _=>.arr 50 1 [[.nilsl],[.slice false 0 (z5 0) 0 2 1 1],[.slice false 0 (z6 0) 0 2 1 1],[.slice false 0 (z7 0) 0 2 2 2],[.slice false 0 (z4 0) 0 2 1 1],[.nilsl]] 6) ?_;intro z8 G8 u8 av;refine zcc 12 (fun _=>.arr 50 1 [[.nilsl],[.slice false 0 (z9 0) 0 2 1 1],[.slice false 0 (bx 0) 0 2 1 1],[.slice false 0 (z4 0) 0 2 1 1],[.nilsl],[.slice false 0 (bz 0) 0 2 1 1]] 6) ?_;intro b0 cc bm M;refine zcc 15 (fun _=>.arr 50 1 [[.nilsl],[.slice false 0 (b1 0) 0 2 1 1],[.slice false 0 (b2 0) 0 2 1 1],[.slice false 0 (z4 0) 0 2 1 1],[.nilsl],[.nilsl]] 6) ?_
 intro b3 cf bp S;refine zcc 16 (fun _=>.arr 50 1 [[.nilsl],[.nilsl],[.nilsl],[.slice false 0 (z4 0) 0 2 1 1],[.nilsl],[.nilsl]] 6) ?_;intro b4 cg bq T;refine zcc 19 (fun _=>.arr 50 1 [[.nilsl],[.slice false 0 (b5 0) 0 2 1 1],[.slice false 0 (b6 0) 0 2 2 2],[.slice false 0 (z4 0) 0 2 1 1],[.nilsl],[.nilsl]] 6) ?_;intro b7 ck bu W;refine zcc 20 (fun _=>.arr 99 1 [[.slice false 0 (z8 0) 0 1 6 6],[.slice false 0 (b0 0) 0 1 6 6],[.slice false 0 (b3 0) 0 1 6 6],[.slice false 0 (b4 0) 0 1 6 6],[.slice false 0 (b7 0) 0 1 6 6]] 5) ?_;intro b8 u bw Y;have bj:=Fz.r u;have a6:=Fz.t bw bj;have a3:=Fz.t bu a6;have a2:=Fz.t bq a3;have az:=Fz.t bp a2;have l8:=Fz.t bm az;have a5:=Fz.t u8 l8;have a4:=Fz.t bt a5;have a1:=Fz.t bs a4;have a0:=Fz.t bo a1;have ay:=Fz.t bn a0;have ax:=Fz.t bl ay;have l9:=Fz.t bk ax;have l7:=Fz.t u9 l9;have l6:=Fz.t u7 l7;have l5:=Fz.t u6 l6;have l4:=Fz.t u5 l5;have hT:=ydk (l4 _ _ (ap 0 rfl)) (l5 _ _ (aq 0 rfl)) (l6 _ _ (ar 0 rfl)) (l7 _ _ (au 0 rfl)) (l9 _ _ (aw 0 rfl)) (ax _ _ (K 0 rfl)) (ay _ _ (L 0 rfl)) (a0 _ _ (O 0 rfl)) (a1 _ _ (Q 0 rfl)) (a4 _ _ (U 0 rfl)) (a5 _ _ (V 0 rfl)) (l8 _ _ (av 0 rfl)) (az _ _ (M 0 rfl)) (a2 _ _ (S 0 rfl)) (a3 _ _ (T 0 rfl)) (a6 _ _ (W 0 rfl)) (Y 0 rfl);refine resT 9 (.va (.slice false 0 (b8 0) 0 1 5 5)) rfl rfl (.inr (show(0:Nat) < 21 by decide)) ?_;have lF:=Fz.t u4 l4;clear ap aq ar au aw K L O Q U V av M S T W Y
 refine zoq hΘ (X:={ y:Nat×List ZC×Nat×Fz // y.1<=5/\Fz.le u y.2.2.2/\RowL y.2.2.2 (keep9 [h,Z,x2,x3,x4] y.1) y.2.1/\y.2.1.length<=y.1 }) (fun y=>[(10,.va (.int .i64 y.1.1))]) (11::12::jr 55 31 [])
  (fun y=>[(0,.frz y.1.2.2.2),(1,box9 h Z x2 x3 x4),(3,.one (.cells 32 [.int .i64 (IntKind.i64.wrap (1+pickI h 9)),.int .i64 a,.int .i64 b,.lit false,gA 2 21 y.1.2.2.1 y.1.2.1])),(21,gE 96 2 encZ y.1.2.2.1 y.1.2.1)]) 22 (fun y=>5 - y.1.1) ⟨(0,[],0,u),yh _,Fz.r _,RowL.nil,qi _⟩
  (fun hH hT=>leI [(21,21)] hH hT rfl ⟨tv,zhk,zhs (by omega),zco zbb (by omega) _ _ _ _,tv⟩ ⟨rfl,tv⟩ ⟨Fz.r u,rfl,rfl,rfl,tv⟩) ?_
 rintro⟨⟨k,o,co,G⟩,hk,E,d,q⟩ hH aa;replace hk:k<=5:=hk;replace E:Fz.le u G:=E;replace d:RowL G (keep9 [h,Z,x2,x3,x4] k) o:=d;replace q:o.length<=k:=q;by_cases g:k < 5
 ·have w:(k:Int) < 5:=by omega
  have x:5 - (k+1) < 5 - k:=by omega
  have A:k < 4611686018427387904:=by omega
  have al:=yaz g;have an:=ydq h Z x2 x3 x4 g;have bi:=yc7 hx (hT.mono E) g;obtain⟨J,st,cj,R,cl,R',ak,af,ag,b9,e,hR,am,ad,ae,c⟩:=bi;refine Or.elim c (fun c=>?_) (fun c=>?_)
  ·obtain⟨rfl,rfl⟩:=c;rw[if_pos rfl,q5]at e;refine bri w ⟨rfl,⟨qae k,w⟩,_,al,?_⟩;refine dwS (lk [0,1,2,3,4,5,6] (.alt 7 (lk [8,9,10] .done) .nil)) [1] ?_;refine⟨rfl,⟨qae k,w⟩,rfl,_,hR,_,am,⟨qae k,w⟩,rfl,?_⟩;refine tk9 (t:=28) (p:=⟨0,0,(k:Int).toNat,1,0⟩) an ?_;refine usePt (ak G) ?_;refine⟨Fz.r G,rfl,rfl,⟨af,ag⟩,rfl,_,ad,_,ae,brd (by decide) ?_⟩;exact zfj ⟨⟨(k+1,o,co,G),g,E,by rw[e];exact d,qbu q⟩,x,leR [(21,21)] hH aa rfl ⟨tv,zhk,zhs (by omega),zco zbb (by omega) _ _ _ _,tv⟩ ⟨cnt A,tv⟩ ⟨Fz.r G,rfl,z0t (zhb (μ:=sig [(21,21)]) (i:=21) (j:=21) rfl o),zgm (μ:=sig [(21,21)]) zbb (fun k=>rfl) (zao _ _ _ _),tv⟩⟩
  ·obtain⟨ai,cm,rfl,bb⟩:=c;have aj:¬st=[]:=qb4.1 ai;have bf:(0:Int) < (st.length:Int):=by omega
   rw[if_neg aj]at e;rcases st with _ | ⟨s0,s⟩
   ·exact absurd rfl aj
   have hX:=ybk (l:=(s0::s).map enc) (n:=(s0::s).length) (qe _);have a9:(0+((s0::s).map enc).length)*16<=140737488355328:=by rw[qe];omega
   have a8:0+(s0::s).length<=((s0::s).map enc).length:=by rw[qe];omega
   have I:∀n,n<=k->(n+1)*32<=140737488355328:=fun n hn=>by omega
   rcases o with _ | ⟨o0,B⟩
   all_goals
    refine bri w ⟨rfl,⟨qae k,w⟩,_,al,?_⟩;refine dwS (lk [0,1,2,3,4,5,6] (.alt 7 (lk [8,9,10] .done) .nil)) [1] ?_;refine⟨rfl,⟨qae k,w⟩,rfl,_,hR,_,am,⟨qae k,w⟩,rfl,?_⟩;refine tk9 (t:=28) (p:=⟨0,0,(k:Int).toNat,1,0⟩) an ?_;refine usePt (ak G) ?_;refine⟨Fz.r G,rfl,rfl,⟨af,ag⟩,rfl,_,ad,_,ae,bri bf ?_⟩;refine dwS (lk [0,1,2,4] (.alt 3 (.alt 5 (.alt 6 (.alt 7 (.alt 8 (.look 9 (.last 10 .done)) .nil) .nil) .nil) .nil) .nil)) [3] ?_;refine⟨rfl,Fz.r G,rfl,_,_,_,bb,a8,_,hX,rfl,rfl,rfl,a9,fun D cn=>?_⟩;refine⟨Fz.r G,rfl,Fz.r G,rfl,Fz.r G,rfl,nb rfl,[[.int .i64 (prp9.getD k 0),.slice false 24 0 0 2 (0+((s0::s).map enc).length) D]],rfl,?_⟩;conv=>whnf
    first
     |refine⟨rfl,rfl,by simp,rfl,I _ q,fun c' bc=>?_⟩
     |(refine⟨rfl,rfl,?_⟩;(conv=>whnf);refine⟨I 0 (yh _),fun c' bc=>?_⟩)
    refine⟨Fz.r G,rfl,?_⟩;refine zdg 24 (fun _=>.arr 56 2 ((s0::s).map enc) D) rfl rfl rfl (fun _ _=>zhh _ _ _) (fun _ _=>zd2 _ _) ?_;intro m ac ab ao
    first
     |refine ze8 26 _ rfl (z1x (fun _=>rfl) (i:=24) (z:=m 0) rfl (o0::B) (prp9.getD k 0) (0+((s0::s).map enc).length) D c') (zrn (show 0 < 27 by decide) (o0::B) (mkZ _ (.slice false 0 (m 0) 0 2 _ D) rfl) _) ?_
     |refine ze8 26 _ rfl (z1x (fun _=>rfl) (i:=24) (z:=m 0) rfl [] (prp9.getD k 0) (0+((s0::s).map enc).length) D c') (zrn (show 0 < 27 by decide) [] (mkZ _ (.slice false 0 (m 0) 0 2 _ D) rfl) _) ?_
    have be:=zj8 (p:=prp9.getD k 0) (ao 0 rfl);have f:=(d.mono ab).snoc (z:=mkZ (prp9.getD k 0) (.slice false 0 (m 0) 0 2 (0+((s0::s).map enc).length) D) rfl) be;rw[<-e]at f
    first
     |exact zfj ⟨⟨(k+1,(o0::B)++[mkZ (prp9.getD k 0) (.slice false 0 (m 0) 0 2 (0+((s0::s).map enc).length) D) rfl],c',ac),g,Fz.t E ab,f,by rw[qd];exact qcp q 1⟩,x,leR [(21,26)] hH aa rfl ⟨tv,zhk,zhs (by omega),zco zbb (by omega) _ _ _ _,tv⟩ ⟨cnt A,tv⟩ ⟨Fz.r _,rfl,z0t (zol (μ:=sig [(21,26)]) rfl rfl),zgm (μ:=sig [(21,26)]) zbb (fun k=>rfl) (za3 _ (by rw[qs];rfl)),tv⟩⟩
     |exact zfj ⟨⟨(k+1,[]++[mkZ (prp9.getD k 0) (.slice false 0 (m 0) 0 2 (0+((s0::s).map enc).length) D) rfl],c',ac),g,Fz.t E ab,f,by rw[qd];exact qcp q 1⟩,x,leR [(21,26)] hH aa rfl ⟨tv,zhk,zhs (by omega),zco zbb (by omega) _ _ _ _,tv⟩ ⟨cnt A,tv⟩ ⟨Fz.r _,rfl,z0t (zol (μ:=sig [(21,26)]) rfl rfl),zgm (μ:=sig [(21,26)]) zbb (fun k=>rfl) (za3 _ (by rw[qs];rfl)),tv⟩⟩
 ·have w:¬(k:Int) < 5:=by omega
  have bd:k=5:=by omega
  subst bd;rcases o with _ | ⟨o0,B⟩
  ·refine brj w ?_;refine gae (by simp) ⟨⟨by decide,by decide⟩,by decide,?_⟩;refine usePu (bg G) rfl ⟨oi a7,rfl,tv⟩ rfl ?_;refine relE (.ret (.agg [.int .i64 (IntKind.i64.wrap (1+pickI h 9)),.int .i64 a,.int .i64 b,.lit (decide (pickI (h.tdiv 6) 2=0)),.slice true 0 0 0 2 0 0])) yam yal ?_;exact endFs _ (Fz.t lF E) (fin9n d)
  ·refine brj w ⟨fun g=>absurd g (by simp;try omega),fun _=>?_⟩;refine zck 21 (fun _=>.arr 96 2 ((o0::B).map encZ) co) rfl rfl rfl (fun _ _=>by exact zg2 (μ:=resP _) zbb (fun k=>rfl) rfl _ _ _) (fun _ _=>zdc zbb (by omega) _ _ _ _) ?_;intro b' F' ah ba;exact endFs _ (Fz.t (Fz.t lF E) ah) (fin9c (d.mono ah) (ba 0 ⟨rfl,rfl⟩))
theorem zty:∀(l:List Kp) (x:Kp),asc l=true->(∀y∈l,y.1 < x.1)->asc (l++[x])=true
 |[],_,_,_=>rfl
 |[a],x,_,h=>by
  show(decide (a.1 < x.1)&&asc [x])=true;rw[decide_eq_true (h a (by simp))];rfl
 |a::b::r,x,ha,h=>by
  rw[asc,qg]at ha;show(decide (a.1 < b.1)&&asc ((b::r)++[x]))=true;rw[ha.1,zty (b::r) x ha.2 fun y c=>h y (yl _ c)];rfl
theorem ya0:∀k,k < 5->∀i,i < k->prp9.getD i 0 < prp9.getD k 0:=by decide
theorem z0c:∀i,i < 5->∀j,j < 6->stp9 i j=[]\/zbo (prp9.getD i 0,stp9 i j)=true:=by decide
theorem ziu{a:List Int}(c:∀k,i64 (a.getD k 0)):∀n,n<=5->∀y∈keep9 a n,∃i,i < n/\y.1=prp9.getD i 0/\zbo y=true/\y.2.length<=2
 |0,_,y,h=>nomatch h
 |n+1,hn,y,h=>by
  rw[keep9,yk]at h;rcases h with h | h
  ·obtain⟨i,h1,b⟩:=ziu c n (by omega) y h;exact⟨i,by omega,b⟩
  ·have e:=zc1 (a.getD n 0) 6 (by decide) (c n);have h1:=z0c n (by omega) (pickI (a.getD n 0) 6).toNat (by omega);have b:=zv2 n (by omega) (pickI (a.getD n 0) 6).toNat (by omega);split at h
   ·cases h
   ·rename_i d;rw[qz]at h;subst h;exact⟨n,by omega,rfl,h1.resolve_left d,b⟩
theorem zqn{a:List Int}(b:∀k,i64 (a.getD k 0)):∀n,n<=5->asc (keep9 a n)=true/\(keep9 a n).length<=n
 |0,_=>⟨rfl,qi 0⟩
 |n+1,hn=>by
  have ih:=zqn b n (by omega);rw[keep9];split
  ·rw[q5];exact⟨ih.1,qbu ih.2⟩
  ·refine⟨zty _ _ ih.1 fun y d=>?_,by rw[qd];exact qcp ih.2 1⟩;obtain⟨i,h1,c,-,-⟩:=ziu b n (by omega) y d;rw[c];exact ya0 n (by omega) i h1
theorem z0q{a b c d e f g:Int}(j:idOk a=true)(k:idOk b=true)(l:i64 c/\i64 d/\i64 e/\i64 f/\i64 g):migOk (made9 a b c d e f g)=true/\short (made9 a b c d e f g).keep/\(made9 a b c d e f g).keep.length < 1000000:=by
 have p:=zc1 c 9 (by decide) l.1;have n:=zqn (zpo l) 5 (qi 5);have o:=ziu (zpo l) 5 (qi 5);refine⟨?_,fun y m=>?_,ym n.2 (by decide)⟩
 ·unfold migOk made9;rw[zah (by omega) (by omega)];simp only[qg];refine⟨n.1,?_,j,k,?_,?_⟩
  ·simp only[idOk,qg,decide_eq_true_eq];omega
  ·cases keep9 [c,d,e,f,g] 5<;>simp
  ·exact qq.2 fun y m=>(o y m).elim fun i h=>h.2.2.1
 ·obtain⟨i,-,-,-,h⟩:=o y m;omega
theorem zor{a b c d e:Int}(f:i64 a/\i64 b/\i64 c/\i64 d/\i64 e):migOk (made9 1 2 a b c d e)=true/\short (made9 1 2 a b c d e).keep/\(made9 1 2 a b c d e).keep.length < 1000000:=
 z0q (by decide) (by decide) f
theorem ya2{w:Int}{s:List UInt8}(h:rasOk w s=true):s.length<=1024:=by
 unfold rasOk at h;simp only[qg,qal,decide_eq_true_eq,beq_iff_eq,inR]at h;rcases h.2 with h2 | h2
 ·rw[h2.2];exact yh _
 ·have a:w*hgt w s<=32*32:=qbh (by omega) (by omega) (by omega) (by omega);omega
theorem zia{d:Dc}(h:docOk d=true):DcSmall d:=by
 have a:=zc7 h;exact⟨q8 a.lines (by decide),q8 a.cells (by decide),q8 (ya2 a.ras) (by decide)⟩
section
variable {M:Mig} (hm:migOk M=true) (hs:short M.keep) (hl:M.keep.length < 1000000) {d:Dc} (hd:docOk d=true)
include hm hs hl hd
end
def yby(A:List (List UInt8)):Prop:=∀p:Int,1<=p/\p<=8->∃v,VOK p v/\atV A p=zbp p v
theorem zyc{d:Dc}(b:docOk d=true):yby (allB d):=fun p a=>by
 refine⟨zgy p d,zp4 a b,?_⟩;have h:=ztu d (p - 1).toNat (by omega);rw[atV,h,show(((p - 1).toNat:Nat):Int)+1=p by omega,yi,zvi a]
theorem zt3:∀(l:List Kp) (i:Int),clOk l i=true↔∀(k:Nat) (h:k < l.length),clAt (l[k]'h) (i+k)=true
 |[],i=>by simp[clOk]
 |x::r,i=>by
  rw[clOk,qg,zt3 r (i+1)];refine⟨fun⟨h1,c⟩ k a=>?_,fun h=>⟨?_,fun k a=>?_⟩⟩
  ·cases k with
   |zero=>rw[show i+((0:Nat):Int)=i by omega];exact h1
   |succ k=>have:=c k (by simpa using a);rw[show i+((k+1:Nat):Int)=i+1+k by omega];exact this
  ·have b:clAt x (i+((0:Nat):Int))=true:=h 0 (by simp);rw[show i+((0:Nat):Int)=i by omega]at b;exact b
  ·have:=h (k+1) (by simpa using a);rw[show i+1+(k:Int)=i+((k+1:Nat):Int)by omega];exact this
