import Derived.Test.YtfnkamphhpldcaaGreatDoorK24
import Derived.Test.YtfnkamphhpldcaaGreatDoorK23
import Derived.Test.YtfnkamphhpldcaaGreatDoorK17
set_option maxHeartbeats 64000000
namespace Go.Proofs.YtfnkamphhpldcaaGreatDoor
open Go Go.RowKit Sx Tryz
set_option maxRecDepth 100000
theorem A7{P:Program}{F:Fz}{f:FuncId}{args:List SV}{out:Out}(a:Sx.Enters P f)(b:out.z=true)(e:Ending)(j:∀ρ,out.rel ρ e)
  (i:∀C ρ w,Sat C ρ [[(0,.frz F)]] 1 w->∀vs,relL ρ args vs->Calls P f vs.toArray w fun e' c=>e'=e/\Below w.heap.size w c):
  Fo P F f args fun o d=>o=out/\d=F:=by
 unfold Fo za6;intro C ρ w vs S l h;refine⟨a,(i C ρ w S vs l).mono ?_⟩;rintro e' c ⟨rfl,g⟩;refine⟨out,[[(0,.frz F)]],1,ρ,?_,j ρ,S.belowW g,fun _ _=>rfl,qi _,?_⟩
 ·exact endFo out F rfl (Fz.r F) (Fz.r F) ⟨rfl,rfl⟩ (by
   rw[Out.ren_id (μ:=resP [[(0,.frz F)]]) (.inl b) (fun k=>rfl)];exact aP out) b
 ·have:=Out.z_below b;cases out with
  |ret v=>exact this
  |panic v=>trivial
theorem EH(l:List (List UInt8)):(l.map encS).flatten=l.map SA.str:=by
 induction l with
 |nil=>rfl
 |cons x r ih=>simpa[encS]using ih
theorem join_nil(l:List (List UInt8)):Lib.join l []=l.flatten:=by
 unfold Lib.join
 induction l with
 |nil=>rfl
 |cons x r ih=>
  cases r with
  |nil=>simp[List.intercalate]
  |cons y r=>simpa[List.intercalate]using ih
theorem yau(F:Fz)(b:Nat)(l:List (List UInt8))(g:F b=some (.arr 9 1 (l.map encS) l.length))(D:l.length<=1000)(E:l.flatten.length<=1000000000000):
  Fo prog F 228 [.va (.slice false 0 b 0 1 l.length l.length),.va (.str [])] (fun o n=>o=.ret (.va (.str l.flatten))/\n=F):=by
 refine A7 (Sx.enters_of func228 rfl dd) rfl (.returned (.string ⟨l.flatten.toArray⟩)) (fun ρ=>⟨_,rfl,rfl⟩) ?_;intro C ρ w S vs B
 match vs,B with
 |[v,u],⟨h1,h2,_⟩=>
  have p:v=.slice (some ⟨b,0,none⟩) l.length l.length:=by rw[h1,SA.den,S.id0];simp
  have q:u=.string ⟨#[]⟩:=h2;subst p q;obtain⟨o,e,a⟩:=S.blk 0 (.frz F) rfl b (by simp[Ent.has,g]);rw[S.id0]at e;simp only[Ent.at,g,yk,SB.ok]at a;obtain⟨_,_,m,G,fr,_,rfl⟩:=a
  have A:((l.map fun s=>(⟨s.toArray⟩:ByteArray)).map (·.data.toList))=l:=by
   rw[jq];simp[Function.comp_def]
  have f:(Lib.join ((l.map fun s=>(⟨s.toArray⟩:ByteArray)).map (·.data.toList)) (⟨#[]⟩:ByteArray).data.toList)=l.flatten:=by rw[A];exact join_nil l
  have c:=EH l;have i:=Tryz.strings_Join b 0 l.length (l.map fun s=>⟨s.toArray⟩) ⟨#[]⟩ w ?_ (jk.1 e).1 (by simp;omega) ss (by rw[f];omega)
  ·rw[f,qa]at i;exact i
  ·intro j x h;have h1:=cell_of_row w b j _ _ _ e;rw[q9,h1,c];rw[qt]at h;obtain⟨y,k,rfl⟩:=qak.1 h;have d:=(qg.1 k).1;simp only[qch];rw[jo (by simpa using d),qt,qt,k];rfl
theorem uq(F:Fz)(e:RNDF F)(a b:Nat)(mk:List UInt8)(l:List (List UInt8))(h:F a=some (.cells 9 [.str mk]))(f:F b=some (.arr 9 1 (l.map encS) l.length))(d:l.length<=1000)(k:l.flatten.length<=900000000000)(j:mk.length<=1000):
  Fo prog F 227 [.va (.slice false 0 b 0 1 l.length l.length),.va (.ptr (fp a))] (fun o _=>o=.ret (.va (.str (sumS (mk++l.flatten))))):=by
 have g:=yau F b l f d oo;have i:=yd0 F e (mk++l.flatten) (by rw[qb];omega);refine foS func227 ?_;refine dwS (.look 0 (.look 1 (.alt 2 (.look 3 (.alt 4 (.look 5 .done) .nil)) .nil))) [] ?_;refine⟨rfl,_,h,?_⟩;refine usePs (g) ?_;refine⟨Fz.r F,by omega,?_⟩;refine useFs i ?_;rintro _ F1 c rfl;refine⟨c,?_⟩;exact endFs (.ret (.va (.str (sumS (mk++l.flatten))))) c rfl
theorem yaw(F:Fz)(i:RNDF F)(s:List UInt8)(j:s.length<=900000000000):Fo prog F 112 [.va (.str s)] (fun o _=>o=.ret (.va (.str (leafS s)))):=by
 refine foS func112 ?_;refine g8 hΘ func173 rfl dd _ _ rfl rfl rfl (ec hΘ _ _ _ ?_);refine bS 1 (fun _=>.cells 9 [.str [0]]) ?_;intro g F1 e a;refine bS 2 (fun _=>.arr 9 1 ([s].map encS) 1) ?_;intro h f c b;have h1:=uq f ((i.mono e).mono c) (g 0) (h 0) [0] [s] (c _ _ (a 0 rfl)) (b 0 rfl) ss (by simpa using j) ss;refine useFt h1 ?_;rintro _ d k rfl;exact endFo (.ret (.va (.str (leafS s)))) d rfl (Fz.t e (Fz.t c k)) (Fz.r d) rfl (congrArg (fun x=>SA.str (sumS x)) ss) rfl
theorem rh(F:Fz)(i:RNDF F)(s t:List UInt8)(k:s.length<=100000000000)(l:t.length<=100000000000):Fo prog F 113 [.va (.str s),.va (.str t)] (fun o _=>o=.ret (.va (.str (nodeS s t)))):=by
 refine foS func113 ?_;refine g8 hΘ func173 rfl dd _ _ rfl rfl rfl (ec hΘ _ _ _ ?_);refine bS 1 (fun _=>.cells 9 [.str [1]]) ?_;intro g F1 e a;refine bS 2 (fun _=>.arr 9 1 ([s,t].map encS) 2) ?_;intro h f c b;have h1:=uq f ((i.mono e).mono c) (g 0) (h 0) [1] [s,t] (c _ _ (a 0 rfl)) (b 0 rfl) ss (by simp;omega) ss;refine useFt h1 ?_;rintro _ d j rfl;exact endFo (.ret (.va (.str (nodeS s t)))) d rfl (Fz.t e (Fz.t c j)) (Fz.r d) rfl (congrArg (fun x=>SA.str (sumS x)) ss) rfl
end Go.Proofs.YtfnkamphhpldcaaGreatDoor
namespace Sx
open Go
variable {P:Program} {C:Ctx} {ρ:Rho} {h:Hp} {nx:Nat} {w:World}
theorem Sat.ent(s:Sat C ρ h nx w){i:Nat}{e e':Ent}(n:lget h i=some e)(D:e.plain=true)(p:e'.plain=true)(o:∀k,e'.has k↔e.has k)(A:∀k,e.has k->e'.at k=e.at k):Sat C ρ (lput h i e') nx w:=by
 have l:∀j k,St.owns (lput h i e') j k->St.owns h j k:=by
  rintro j k ⟨x,g,m⟩;by_cases f:j=i
  ·subst f;rw[aR]at g;cases g;exact⟨_,n,(o k).1 m⟩
  ·rw[aM _ _ _ _ f]at g;exact⟨_,g,m⟩
 have y:=s.ne0 n D
 exact{ s with
  lt:=fun j x g=>by
   by_cases f:j=i
   ·subst f;exact s.lt _ _ n
   ·rw[aM _ _ _ _ f]at g;exact s.lt _ _ g
  blk:=fun j x g k m=>by
   by_cases f:j=i
   ·subst f;rw[aR]at g;cases g
    rw[A k ((o k).1 m)];exact s.blk _ _ n k ((o k).1 m)
   ·rw[aM _ _ _ _ f]at g;exact s.blk _ _ g k m
  wf:=fun j x g k m=>by
   by_cases f:j=i
   ·subst f;rw[aR]at g;cases g
    rw[A k ((o k).1 m)];exact s.wf _ _ n k ((o k).1 m)
   ·rw[aM _ _ _ _ f]at g;exact s.wf _ _ g k m
  inj:=fun a b c d h1 B=>s.inj a b c d (l _ _ h1) (l _ _ B)
  own:=fun a b h1=>s.own a b (l _ _ h1)
  fz:=by rw[aM _ _ _ _ (Ne.symm y)];exact s.fz
  only:=fun j F q=>by
   by_cases f:j=i
   ·subst f;rw[aR]at q;cases q;cases p
   ·rw[aM _ _ _ _ f]at q;exact s.only _ _ q
  lnk:=fun j b u=>by
   by_cases f:j=i
   ·subst f;rw[aR]at u;cases u;cases p
   ·rw[aM _ _ _ _ f]at u;exact s.lnk _ _ u }
abbrev fam1(b:SB):Ent:=.fam 1 (fun _=>true) (fun _=>b)
theorem A3(b:SB)(k:Nat):(fam1 b).has k↔(Ent.one b).has k:=by simp[Ent.has]
theorem famW{c:Code}{d:St}{Q:SE->St->Prop}(i:Nat){b:SB}(e:lget d.h i=some (.one b))(f:WP P c { d with h:=lput d.h i (fam1 b) } Q):WP P c d Q:=by
 unfold WP at*;intro C ρ a w D;exact f C ρ a w { sat:=D.sat.ent e rfl rfl (A3 b) (fun _ _=>rfl),nt:=D.nt,tm:=D.tm,tw:=D.tw,n0:=D.n0,df:=D.df,dw:=D.dw }
end Sx
namespace Go.Proofs.YtfnkamphhpldcaaGreatDoor
open Go Go.RowKit Sx Tryz
set_option maxRecDepth 100000
def ycn(bs:Nat)(W:World):Prop:=∃p c,W.cell? ⟨bs,0,none⟩=some (.slice p 0 c)
theorem Av(F:Fence)(n:Nat)(hF:F.fn 177)(hro:F.round=none)(_:1<=n)(bs:Nat)(encs:Nat->Array Value):
  SeqP F n prog 177 #[.pointer (some ⟨bs,0,none⟩)] encs 0 (ycn bs):=by
 intro l J W hJ hY h0;refine callsIn_of_wp func177 rfl hF ?_ hro;simp only[Tryz.ntmps177,y9,qe,qu,Nat.reduceAdd,Nat.reduceSub,qac,qad,qal,qae,qv,yd];obtain⟨⟨p,c,hc⟩,_⟩:=hJ 0 W h0
 gi_wp2
 gi_loopw [3] (fun v wr=>v=.int .i64 (-1)/\J 0 wr) (fun _ _=>0)
 case atStart=>exact⟨rfl,h0⟩
 case round=>
  obtain⟨rfl,hj⟩:=hrel
  gi_wp2
  exact bodyPost_end (results_none rfl _ _ _) rfl ⟨⟨_,rfl⟩,hj⟩
theorem DJ{b:St}{Q:SE->St->Prop}{is ib k0 e sz c:Nat}{nl:Bool}(G:lget b.t 89=some (.va (.fn (.func 177) [⟨is,0,0,0,0⟩])))(V:b.d=[])
  (Z:lget b.h is=some (.one (.cells 34 [.slice nl ib k0 e sz 0 c]))){assign body:Code}
  (U:Q .normal { b with h:=lput b.h b.nx (.one (.obj (.deferred (some [])))),nx:=b.nx+1,d:=[(.col,[.iter b.nx 0])] }):
  WP prog (.rangeFunc (.tmp 89) #[90,91] assign body) b Q:=by
 unfold WP;intro C ρ a w D;obtain⟨u,t89,E⟩:=D.tm 89 _ G;have q:u=.func (.func 177) #[] #[.pointer (some ⟨ρ is 0,0,none⟩)]:=E;subst q
 have L:∀(args:Array Value) (w:World),(callFunc 177 args).run prog w=.ok (.enter 177 args) w:=by
  have h:=Sx.enters_of (P:=prog) func177 rfl dd;unfold Sx.Enters at h;exact h
 refine(wpIn_wide (n:=3)).1 (sK (F:=Fence.wide) (n:=3) rfl oo (gf:=177) (lb:=#[.pointer (some ⟨ρ is 0,0,none⟩)]) ?hg trivial L
  (Av Fence.wide 2 trivial rfl oo (ρ is 0) (fun _=>#[undef,undef])) (fun _=>rfl)
  (fun k W=>k=0/\Sat C ρ b.h b.nx W) ?ok ?drew ?put ?h0 (fun _=>{ tmps:=(#[90,91].zip #[undef,undef]).foldl (fun t (p,v)=>t.setIfInBounds p v) a.tmps,defers:=[] }) ?assign ?body ?done)
 case hg=>simp[Act.eval,t89]
 case ok=>
  rintro k A ⟨_,S⟩;exact⟨_,_,cell_of S Z⟩
 case drew=>rintro k A ⟨f,S⟩;exact⟨f,S.drew⟩
 case put=>
  rintro k A l o o' X hA J ⟨f,S⟩;refine⟨f,S.putObj (fun i j M=>?_) (q8 D.sat.size X)⟩;have h1:=D.sat.blt M;omega
 case h0=>
  intro o1 o2;exact⟨rfl,D.sat.belowW (((Below.refl _ w).alloc (qi _) _).alloc ss _)⟩
 case assign=>intro l k W K f;exact absurd f (qb8 _)
 case body=>intro l k W f;exact absurd f (qb8 _)
 case done=>
  rintro m W T ⟨_,S⟩ I
  have O:∀i j,St.owns b.h i j->ρ i j≠m:=fun i j M=>by
   have h1:=D.sat.blt M;omega
  have R:=S.adopt I (q8 D.sat.size T) O;refine⟨.normal,_,rext ρ b.nx m,U,rfl,?_⟩;have B:∀i,i < b.nx->rext ρ b.nx m i=ρ i:=fun i g=>eA g
  exact{ sat:=R,nt:=D.nt,n0:=D.n0
         tm:=fun i s g=>by
          obtain⟨u,hu,Y⟩:=D.tm i s g;exact⟨u,hu,SV.rel_congr B (D.tw i s g) Y⟩
         tw:=fun i s g=>SV.below_mono (qaf _) (D.tw i s g)
         df:=by
          show{ target:=.collected m,args:=#[] }::a.defers=[defOf (rext ρ b.nx m) (.col,[.iter b.nx 0])];rw[D.df,V];simp[defOf,defV,SA.den,blkOf,dm]
         dw:=by
          intro x hx y hy;rcases qs.1 hx with rfl;rcases qs.1 hy with rfl;exact qcm _ }
end Go.Proofs.YtfnkamphhpldcaaGreatDoor
namespace Go.Proofs.YtfnkamphhpldcaaGreatDoor
open Go Sx Tryz
set_option maxRecDepth 100000
abbrev Stk:=List (List UInt8×Nat)
def mergeK:Nat->Stk->Stk
 |0,s=>s
 |f+1,s=>match s with
  |(b,n)::(a,m)::r=>if m=n then mergeK f ((nodeS a b,2*n)::r)else s
  |s=>s
def merge(s:Stk):Stk:=mergeK s.length s
theorem nR:∀(f:Nat) (s:Stk),s.length<=f->mergeK f s=merge s
 |0,[],_=>rfl
 |f+1,[],_=>rfl
 |f+1,[x],_=>rfl
 |f+1,(b,n)::(a,m)::r,h=>by
  have h1:r.length+1<=f:=by simp at h;omega
  show mergeK (f+1) _=mergeK (r.length+2) _;rw[mergeK,mergeK];split
  ·rw[nR f _ (by simpa using h1),nR (r.length+1) _ ss]
  rfl
theorem yS{a b:List UInt8}{n m:Nat}{r:Stk}(h:m=n):merge ((b,n)::(a,m)::r)=merge ((nodeS a b,2*n)::r):=by
 grind[nR,mergeK,merge,nodeS]
theorem Bu{a b:List UInt8}{n m:Nat}{r:Stk}(h:m≠n):merge ((b,n)::(a,m)::r)=(b,n)::(a,m)::r:=by
 grind[mergeK,merge]
def pushS(s:Stk)(x:List UInt8):Stk:=merge ((leafS x,1)::s)
def stackF(l:List (List UInt8)):Stk:=l.foldl pushS []
theorem DF(l:List (List UInt8))(x:List UInt8):stackF (l++[x])=merge ((leafS x,1)::stackF l):=by
 grind[stackF,pushS]
def Gd(k:Nat)(s:Stk):Prop:=(∀y∈s,y.1.length=32)/\(s.map (·.2)).sum=k
theorem Gd.join{k n m:Nat}{a b:List UInt8}{r:Stk}(h:Gd k ((b,n)::(a,m)::r))(e:m=n):Gd k ((nodeS a b,2*n)::r):=by
 obtain⟨h1,c⟩:=h;refine⟨fun y hy=>?_,?_⟩
 ·rcases qh.1 hy with rfl | hy
  ·rfl
  ·exact h1 y (by simp[hy])
 grind
theorem Gd.leaf{k:Nat}{s:Stk}(h:Gd k s)(x:List UInt8):Gd (k+1) ((leafS x,1)::s):=by
 obtain⟨h1,a⟩:=h;refine⟨fun y hy=>?_,?_⟩
 ·rcases qh.1 hy with rfl | hy
  ·rfl
  ·exact h1 y hy
 grind
theorem Gd.mergeK:∀{f k:Nat} {s:Stk},Gd k s->Gd k (mergeK f s)
 |0,_,_,h=>h
 |f+1,_,[],h=>h
 |f+1,_,[_],h=>h
 |f+1,_,(b,n)::(a,m)::r,h=>by
  rw[Go.Proofs.YtfnkamphhpldcaaGreatDoor.mergeK];split
  ·rename_i e;exact Gd.mergeK (h.join e)
  ·exact h
theorem Gd.stackF:∀(l:List (List UInt8)),Gd l.length (stackF l):=by
 have h:∀(l:List (List UInt8)) (k:Nat) (s:Stk),Gd k s->Gd (k+l.length) (l.foldl pushS s):=by
  intro l
  induction l with
  |nil=>grind
  |cons x r ih=>
   intro k s h;have h1:=ih (k+1) (pushS s x) (Gd.mergeK (h.leaf x))
   grind
 intro l;have:=h l 0 [] ⟨by simp,rfl⟩
 rwa[q9]at this
theorem ydz(a b c d e f g h:List UInt8):stackF [a,b,c,d,e,f,g,h]=[(root8 [a,b,c,d,e,f,g,h],8)]:=by
 rfl
def wsOf(s:Stk):List (List UInt8):=(s.map (·.1)).reverse
def nsOf(s:Stk):List Int:=(s.map fun x=>(x.2:Int)).reverse
theorem fw(x:List UInt8×Nat)(s:Stk):wsOf (x::s)=wsOf s++[x.1]:=by simp[wsOf]
theorem fu(x:List UInt8×Nat)(s:Stk):nsOf (x::s)=nsOf s++[(x.2:Int)]:=by simp[nsOf]
theorem gV(s:Stk):(wsOf s).length=s.length:=by simp[wsOf]
theorem lM(s:Stk):(nsOf s).length=s.length:=by simp[nsOf]
theorem yb8(x:List UInt8×Nat)(s:Stk):wsOf (x::s)≠[]:=fun h=>absurd (congrArg List.length h) (by simp[wsOf])
theorem ybd(x:List UInt8×Nat)(s:Stk):nsOf (x::s)≠[]:=fun h=>absurd (congrArg List.length h) (by simp[nsOf])
theorem yH{α:Type}{l:List α}(d:α)(h:l≠[]):l=l.headD d::l.tail:=by
 cases l with
 |nil=>exact absurd rfl h
 |cons _ _=>rfl
theorem eG:Plain encI:=fun x=>⟨fun μ=>rfl,fun a b=>by simp only[encI,qs]at b;subst b;trivial⟩
theorem eE:Plain encS:=fun x=>⟨fun μ=>rfl,fun a b=>by simp only[encS,qs]at b;subst b;trivial⟩
theorem vB:∀(f:Nat) (s:Stk),(mergeK f s).length<=s.length
 |0,_=>qi _
 |f+1,[]=>qi _
 |f+1,[_]=>qi _
 |f+1,(b,n)::(a,m)::r=>by
  rw[mergeK];split
  ·exact q8 (vB f _) ss
  ·exact qi _
theorem Ae(l:List (List UInt8)):(stackF l).length<=l.length:=by
 have h:∀(l:List (List UInt8)) (s:Stk),(l.foldl pushS s).length<=l.length+s.length:=by
  intro l
  induction l with
  |nil=>intro s;simp
  |cons x r ih=>
   intro s;have h1:=ih (pushS s x);have a:(pushS s x).length<=s.length+1:=vB _ _;simp only[qai,qe]at*;omega
 have:=h l [];simpa[stackF]using this
structure RI1(l:List (List UInt8))(k:Nat)(W:List (List UInt8))(S:List Int):Prop where
 le:k<=l.length
 w:W=wsOf (stackF (l.take k))
 s:S=nsOf (stackF (l.take k))
theorem ybs(F:Fz)(hR:RNDF F)(sa:SA)(l:List (List UInt8))(ha:Sl F 9 1 encS sa l)(hl:l.length=8)(hk:∀x∈l,x.length<=900000000000)(R:List UInt8)(ao:stackF l=[(R,8)]):
  Fo prog F 52 [.va sa] (fun o _=>o=.ret (.va (.str R))):=by
 obtain⟨bl,bi,bk,bj,bh,bm,rfl,ar,a5,bg,a6⟩:=ha;refine r7 hΘ func52 rfl dd _ _ rfl rfl rfl ?_;conv=>whnf
 refine aH hΘ (X:={ x:Nat×List (List UInt8)×List Int×Nat×Nat // RI1 l x.1 x.2.1 x.2.2.1 }) (fun x=>[(3,.va (gA 1 1 x.1.2.2.2.1 x.1.2.1)),(4,.va (gA 1 2 x.1.2.2.2.2 x.1.2.2.1)),(13,.va (.int .i64 x.1.1))]) (6::7::jr 14 60 [])
  (fun x=>[(0,.frz F),(1,gE 9 1 encS x.1.2.2.2.1 x.1.2.1),(2,gE 3 1 encI x.1.2.2.2.2 x.1.2.2.1)]) 3 (fun x=>8 - x.1.1) ⟨(0,[],[],0,0),⟨jx _,rfl,rfl⟩⟩
  (fun V Y=>leI [(1,1),(2,2)] V Y rfl ⟨tv,aF eE _ _ _ _ _,aF eG _ _ _ _ _,tv⟩ ⟨rfl,rfl,rfl,tv⟩ ⟨Fz.r F,rfl,rfl,tv⟩) ?_
 rintro⟨⟨k,W,S,c,d⟩,ah,y,hS⟩ V Y;replace ah:k<=l.length:=ah;replace y:W=wsOf (stackF (l.take k)):=y;replace hS:S=nsOf (stackF (l.take k)):=hS;have p:S.length=W.length:=by rw[hS,y,gV,lM]
 by_cases g:k < l.length
 ·have hx:=hk l[k] (qx g);refine br (fun _=>?_) (fun h=>absurd h (by simp;omega));refine⟨Sl.lt ar g,⟨by simp,by simpa using g⟩,_,a5 (Sl.lt ar g),_,Sl.at a6 g,?_⟩;refine useFs (yaw F hR l[k] hx) ?_;rintro _ F1 l1 rfl;have ay:merge ((leafS l[k],1)::stackF (l.take k))=stackF (l.take (k+1)):=by rw[qf g,DF]
  have Z:Gd (k+1) ((leafS l[k],1)::stackF (l.take k)):=by have h:=Gd.stackF (l.take k);rw[qk,qaq ah]at h;exact h.leaf _
  have aq:W.length<=8:=by rw[y,gV];exact q8 (Ae _) (by rw[qk];omega)
  have a4:(W=[]/\S=[])\/∃w0 wr n0 K,W=w0::wr/\S=n0::K/\K.length+1=wr.length+1/\wr.length+1<=8:=by
   rcases W with _ | ⟨w0,wr⟩<;>rcases S with _ | ⟨n0,K⟩
   ·exact .inl ⟨rfl,rfl⟩
   ·exact absurd p ss
   ·exact absurd p ss
   ·exact .inr ⟨w0,wr,n0,K,rfl,rfl,p,aq⟩
  refine Or.elim a4 (fun h=>?A) (fun h=>?B)
  case' A=>
   obtain⟨ae,ad⟩:=h;subst ae;subst ad;replace y:[]=wsOf (stackF (l.take k)):=y
   have I:∀(μ:Mu) (c:Nat),SB.arr 9 1 ([]++[encS (leafS l[k])]) c=(SB.arr 9 1 ((wsOf ((leafS l[k],1)::stackF (l.take k))).map encS) c).ren μ:=fun μ c=>by
    rw[cY eE rfl,fw,<-y];simp
   have i:∀(μ:Mu) (c:Nat),SB.arr 3 1 ([]++[encI 1]) c=(SB.arr 3 1 ((nsOf ((leafS l[k],1)::stackF (l.take k))).map encI) c).ren μ:=fun μ c=>by
    rw[cY eG rfl,fu,<-hS];simp
   have f:((leafS l[k],1)::stackF (l.take k)).length=1:=by rw[qe,<-gV,<-y];rfl
   refine⟨nb rfl,[encS (leafS l[k])],rfl,rfl,rfl,nb rfl,fun L h1=>?_⟩;refine⟨nb rfl,[encI 1],rfl,rfl,rfl,nb rfl,fun d1 g1=>?_⟩;conv=>whnf
   refine aH hΘ (X:={ x:Stk×Nat×Nat // x.1≠[]/\merge x.1=stackF (l.take (k+1))/\x.1.length<=9/\Gd (k+1) x.1/\x.1.length<=x.2.1/\x.1.length<=x.2.2 }) (fun x=>[(3,.va (.slice false 7 0 0 1 x.1.1.length x.1.2.1)),(4,.va (.slice false 8 0 0 1 x.1.1.length x.1.2.2)),(7,.va (.int .i64 x.1.1.length))]) (jr 27 46 [])
    (fun x=>[(0,.frz F1),(4,.gone),(6,.gone),(7,.one (.arr 9 1 ((wsOf x.1.1).map encS) x.1.2.1)),(8,.one (.arr 3 1 ((nsOf x.1.1).map encI) x.1.2.2))]) 9 (fun x=>x.1.1.length) ⟨((leafS l[k],1)::stackF (l.take k),L,d1),by simp,ay,by rw[f];omega,Z,by show((leafS l[k],1)::stackF (l.take k)).length<=L;rw[f];exact h1,by show((leafS l[k],1)::stackF (l.take k)).length<=d1;rw[f];exact g1⟩
    (fun V Y=>leI [(7,4),(8,6)] V Y rfl ⟨tv,tv,tv,cF eE 9 1 9 L (wsOf ((leafS l[k],1)::stackF (l.take k))),cF eG 3 1 9 d1 (nsOf ((leafS l[k],1)::stackF (l.take k))),tv⟩ ⟨⟨rfl,f,rfl,.inr ⟨rfl,rfl,rfl,rfl⟩⟩,⟨rfl,f,rfl,.inr ⟨rfl,rfl,rfl,rfl⟩⟩,eu (by rw[f];rfl),tv⟩ ⟨Fz.r F1,I _ L,i _ d1,tv⟩) ?_
  case' B=>
   obtain⟨w0,wr,n0,K,ae,ad,p,aq⟩:=h;subst ae;subst ad
   have I:∀(μ:Mu) (c:Nat),SB.arr 9 1 ((w0::wr).map encS++[encS (leafS l[k])]) c=(SB.arr 9 1 ((wsOf ((leafS l[k],1)::stackF (l.take k))).map encS) c).ren μ:=fun μ c=>by
    rw[cY eE rfl,fw,<-y];simp
   have i:∀(μ:Mu) (c:Nat),SB.arr 3 1 ((n0::K).map encI++[encI 1]) c=(SB.arr 3 1 ((nsOf ((leafS l[k],1)::stackF (l.take k))).map encI) c).ren μ:=fun μ c=>by
    rw[cY eG rfl,fu,<-hS];simp
   have f:((leafS l[k],1)::stackF (l.take k)).length=wr.length+1+1:=by rw[qe,<-gV,<-y];rfl
   refine⟨nb rfl,[encS (leafS l[k])],rfl,rfl,rfl,by simp,rfl,by show(wr.length+1+1)*16<=_;omega,fun L h1=>?_⟩;refine⟨nb rfl,[encI 1],rfl,rfl,rfl,by simp,rfl,by show(K.length+1+1)*8<=_;omega,fun d1 g1=>?_⟩;conv=>whnf
   refine aH hΘ (X:={ x:Stk×Nat×Nat // x.1≠[]/\merge x.1=stackF (l.take (k+1))/\x.1.length<=9/\Gd (k+1) x.1/\x.1.length<=x.2.1/\x.1.length<=x.2.2 }) (fun x=>[(3,.va (.slice false 7 0 0 1 x.1.1.length x.1.2.1)),(4,.va (.slice false 8 0 0 1 x.1.1.length x.1.2.2)),(7,.va (.int .i64 x.1.1.length))]) (jr 27 46 [])
    (fun x=>[(0,.frz F1),(4,.gone),(6,.gone),(7,.one (.arr 9 1 ((wsOf x.1.1).map encS) x.1.2.1)),(8,.one (.arr 3 1 ((nsOf x.1.1).map encI) x.1.2.2))]) 9 (fun x=>x.1.1.length) ⟨((leafS l[k],1)::stackF (l.take k),L,d1),by simp,ay,by rw[f];omega,Z,by show((leafS l[k],1)::stackF (l.take k)).length<=L;rw[f];exact h1,by show((leafS l[k],1)::stackF (l.take k)).length<=d1;rw[f];have g2:K.length+1+1<=d1:=g1;omega⟩
    (fun V Y=>leI [(7,4),(8,6)] V Y rfl ⟨tv,tv,tv,cF eE 9 1 9 L (wsOf ((leafS l[k],1)::stackF (l.take k))),cF eG 3 1 9 d1 (nsOf ((leafS l[k],1)::stackF (l.take k))),tv⟩ ⟨⟨rfl,f,rfl,.inr ⟨rfl,rfl,rfl,rfl⟩⟩,⟨rfl,(by rw[f];show wr.length+1+1=K.length+1+1;omega),rfl,.inr ⟨rfl,rfl,rfl,rfl⟩⟩,eu (by rw[f];show((wr.length+1+1:Nat):Int)=((K.length+1+1:Nat):Int);omega),tv⟩ ⟨Fz.r F1,I _ L,i _ d1,tv⟩) ?_
  all_goals
   rintro⟨⟨x,T,d2⟩,ai,J,M,s,O,Q⟩ an ap;replace ai:x≠[]:=ai;replace J:merge x=stackF (l.take (k+1)):=J;replace M:x.length<=9:=M;replace s:Gd (k+1) x:=s;replace O:x.length<=T:=O;replace Q:x.length<=d2:=Q;rcases x with _ | ⟨⟨b,n⟩,_ | ⟨⟨a,m⟩,r⟩⟩
   ·exact absurd rfl ai
   ·have ab:∀(μ:Mu) (c:Nat),SB.arr 9 1 ((wsOf [(b,n)]).map encS) c=(SB.arr 9 1 ([b].map encS) c).ren μ:=fun μ c=>by rw[cY eE rfl];rfl
    have ac:∀(μ:Mu) (c:Nat),SB.arr 3 1 ((nsOf [(b,n)]).map encI) c=(SB.arr 3 1 ([(n:Int)].map encI) c).ren μ:=fun μ c=>by rw[cY eG rfl];rfl
    have au:stackF (l.take (k+1))=[(b,n)]:=J.symm;have bb:RI1 l (k+1) [b] [(n:Int)]:=⟨g,by rw[au];rfl,by rw[au];rfl⟩
    have D:8 - (k+1) < 8 - k:=by omega
    have G:k < 4611686018427387904:=by omega
    refine dwS (lk [0,1,2,3,4,5,6,7,8,9,10,11,12,13,14] .done) [8] ?_;refine gaf ss ?_;exact⟨⟨(k+1,[b],[(n:Int)],T,d2),bb⟩,D,leRn [_,_,_] [_,_] [(1,7),(2,8)] V Y rfl ⟨tv,aF eE _ _ _ _ _,aF eG _ _ _ _ _,tv⟩ ⟨⟨rfl,rfl,rfl,.inr ⟨rfl,rfl,rfl,rfl⟩⟩,⟨rfl,rfl,rfl,.inr ⟨rfl,rfl,rfl,rfl⟩⟩,cnt G,tv⟩ ⟨l1,ab _ T,ac _ d2,tv⟩⟩
   ·have ba:(nsOf ((b,n)::(a,m)::r))[r.length]? =some (m:Int):=by rw[fu,fu];simp[nsOf]
    have a0:(nsOf ((b,n)::(a,m)::r))[r.length+1]? =some (n:Int):=by rw[fu,fu];simp[nsOf]
    have hw:wsOf ((b,n)::(a,m)::r)=((wsOf ((b,n)::(a,m)::r)).headD []::(wsOf ((b,n)::(a,m)::r)).tail):=yH [] (yb8 _ _);have hn:nsOf ((b,n)::(a,m)::r)=((nsOf ((b,n)::(a,m)::r)).headD 0::(nsOf ((b,n)::(a,m)::r)).tail):=yH 0 (ybd _ _);have ab:∀(μ:Mu) (c:Nat),SB.arr 9 1 ((wsOf ((b,n)::(a,m)::r)).map encS) c=(SB.arr 9 1 (((wsOf ((b,n)::(a,m)::r)).headD []::(wsOf ((b,n)::(a,m)::r)).tail).map encS) c).ren μ:=fun μ c=>by rw[<-hw];exact(cY eE rfl _ _ _ _).symm
    have ac:∀(μ:Mu) (c:Nat),SB.arr 3 1 ((nsOf ((b,n)::(a,m)::r)).map encI) c=(SB.arr 3 1 (((nsOf ((b,n)::(a,m)::r)).headD 0::(nsOf ((b,n)::(a,m)::r)).tail).map encI) c).ren μ:=fun μ c=>by rw[<-hn];exact(cY eG rfl _ _ _ _).symm
    have bf:(wsOf ((b,n)::(a,m)::r)).tail.length+1=r.length+1+1:=by have h:=congrArg List.length hw;rw[gV]at h;exact h.symm
    have a8:(nsOf ((b,n)::(a,m)::r)).tail.length+1=r.length+1+1:=by have h:=congrArg List.length hn;rw[lM]at h;exact h.symm
    have aw:a.length<=100000000000:=by rw[s.1 (a,m) ss];decide
    have ax:b.length<=100000000000:=by rw[s.1 (b,n) ss];decide
    have a9:decide ((m:Int)=(n:Int))=false->RI1 l (k+1) ((wsOf ((b,n)::(a,m)::r)).headD []::(wsOf ((b,n)::(a,m)::r)).tail) ((nsOf ((b,n)::(a,m)::r)).headD 0::(nsOf ((b,n)::(a,m)::r)).tail):=fun h=>by
     have he:stackF (l.take (k+1))=((b,n)::(a,m)::r):=by rw[<-J];exact Bu (fun e=>absurd (oe h) (by simp[e]))
     exact⟨g,by rw[he,<-hw],by rw[he,<-hn]⟩
    have D:8 - (k+1) < 8 - k:=by omega
    have G:k < 4611686018427387904:=by omega
    replace M:r.length+1+1<=9:=M;replace O:r.length+1+1<=T:=O;replace Q:r.length+1+1<=d2:=Q;have j:IntKind.i64.wrap (((r.length+1+1:Nat):Int) - 2)=((r.length:Nat):Int):=by rw[aI oo oo];omega
    have e1:IntKind.i64.wrap (((r.length+1+1:Nat):Int) - 1)=((r.length+1:Nat):Int):=by rw[aI oo oo];omega
    have q2:0<=IntKind.i64.wrap (((r.length+1+1:Nat):Int) - 2)/\IntKind.i64.wrap (((r.length+1+1:Nat):Int) - 2) < ((r.length+1+1:Nat):Int):=by rw[j];omega
    have q1:0<=IntKind.i64.wrap (((r.length+1+1:Nat):Int) - 1)/\IntKind.i64.wrap (((r.length+1+1:Nat):Int) - 1) < ((r.length+1+1:Nat):Int):=by rw[e1];omega
    have p2:0<=IntKind.i64.wrap (((r.length+1+1:Nat):Int) - 2)/\IntKind.i64.wrap (((r.length+1+1:Nat):Int) - 2)<=(T:Int):=by rw[j];omega
    have p3:0<=IntKind.i64.wrap (((r.length+1+1:Nat):Int) - 2)/\IntKind.i64.wrap (((r.length+1+1:Nat):Int) - 2)<=(d2:Int):=by rw[j];omega
    have gm:((nsOf ((b,n)::(a,m)::r)).map encI)[0+(IntKind.i64.wrap (((r.length+1+1:Nat):Int) - 2)).toNat]? =some (encI m):=by rw[j,qn,q9,qt,ba];rfl
    have gn:((nsOf ((b,n)::(a,m)::r)).map encI)[0+(IntKind.i64.wrap (((r.length+1+1:Nat):Int) - 1)).toNat]? =some (encI n):=by rw[e1,qn,q9,qt,a0];rfl
    have bd:(wsOf ((b,n)::(a,m)::r))[r.length]? =some a:=by rw[fw,fw];simp[wsOf]
    have be:(wsOf ((b,n)::(a,m)::r))[r.length+1]? =some b:=by rw[fw,fw];simp[wsOf]
    have ga:((wsOf ((b,n)::(a,m)::r)).map encS)[0+(IntKind.i64.wrap (((r.length+1+1:Nat):Int) - 2)).toNat]? =some (encS a):=by rw[j,qn,q9,qt,bd];rfl
    have gb:((wsOf ((b,n)::(a,m)::r)).map encS)[0+(IntKind.i64.wrap (((r.length+1+1:Nat):Int) - 1)).toNat]? =some (encS b):=by rw[e1,qn,q9,qt,be];rfl
    have ht:((wsOf ((b,n)::(a,m)::r)).map encS).take r.length=(wsOf r).map encS:=by rw[fw,fw,qj,qo,qdn (by rw[qa,gV])]
    have bc:((nsOf ((b,n)::(a,m)::r)).map encI).take r.length=(nsOf r).map encI:=by rw[fu,fu,qj,qo,qdn (by rw[qa,lM])]
    have az:decide ((m:Int)=(n:Int))=true->m=n/\2*n<=8:=fun h=>by
     have h1:m=n:=by have:=od h;omega
     have h2:=s.2;simp only[qw,List.sum_cons]at h2;exact⟨h1,by omega⟩
    have aa:decide ((m:Int)=(n:Int))=true->∀q d3,(IntKind.i64.wrap (((r.length+1+1:Nat):Int) - 2)).toNat - 0+[encS (nodeS a b)].length<=q->(IntKind.i64.wrap (((r.length+1+1:Nat):Int) - 2)).toNat - 0+[encI (IntKind.i64.wrap (2*(n:Int)))].length<=d3->
      ((nodeS a b,2*n)::r)≠[]/\merge ((nodeS a b,2*n)::r)=stackF (l.take (k+1))/\((nodeS a b,2*n)::r).length<=9/\Gd (k+1) ((nodeS a b,2*n)::r)/\((nodeS a b,2*n)::r).length<=q/\((nodeS a b,2*n)::r).length<=d3:=fun h q d3 h3 h4=>by
     have hm:=(az h).1;rw[j]at h3 h4;refine⟨by simp,(yS hm).symm.trans J,by rw[qe];omega,s.join hm,?_,?_⟩
     ·rw[qe];simpa using h3
     ·rw[qe];simpa using h4
    have E:((nodeS a b,2*n)::r).length < ((b,n)::(a,m)::r).length:=by simp
    have n3:((nodeS a b,2*n)::r).length=(IntKind.i64.wrap (((r.length+1+1:Nat):Int) - 2)).toNat - 0+[encS (nodeS a b)].length:=by rw[j];simp
    have n4:((nodeS a b,2*n)::r).length=(IntKind.i64.wrap (((r.length+1+1:Nat):Int) - 2)).toNat - 0+[encI (IntKind.i64.wrap (2*(n:Int)))].length:=by rw[j];simp
    have n5:((((nodeS a b,2*n)::r).length:Nat):Int)=IntKind.i64.wrap (((r.length+1+1:Nat):Int) - 1):=by rw[e1];rfl
    have aj:∀(μ:Mu) (c:Nat),SB.arr 9 1 (((wsOf ((b,n)::(a,m)::r)).map encS).take ((IntKind.i64.wrap (((r.length+1+1:Nat):Int) - 2)).toNat - 0)++[encS (nodeS a b)]) c=(SB.arr 9 1 ((wsOf ((nodeS a b,2*n)::r)).map encS) c).ren μ:=fun μ c=>by
     rw[cY eE rfl,j,qn,qa5,ht,fw,qo];rfl
    have ak:∀(μ:Mu) (c:Nat),IntKind.i64.wrap (2*(n:Int))=((2*n:Nat):Int)->SB.arr 3 1 (((nsOf ((b,n)::(a,m)::r)).map encI).take ((IntKind.i64.wrap (((r.length+1+1:Nat):Int) - 2)).toNat - 0)++[encI (IntKind.i64.wrap (2*(n:Int)))]) c=(SB.arr 3 1 ((nsOf ((nodeS a b,2*n)::r)).map encI) c).ren μ:=fun μ c h=>by
     rw[cY eG rfl,j,qn,qa5,bc,fu,qo,h];rfl
    have a1:decide ((m:Int)=(n:Int))=true->IntKind.i64.wrap (2*(n:Int))=((2*n:Nat):Int):=fun h=>by
     have:=(az h).2;rw[aI oo oo];omega
    have f0:(if T=0 then 0 else 0+0)=0:=by split<;>rfl
    have f1:(if d2=0 then 0 else 0+0)=0:=by split<;>rfl
    have fl:(IntKind.i64.wrap (((r.length+1+1:Nat):Int) - 2)).toNat - 0<=((wsOf ((b,n)::(a,m)::r)).map encS).length:=by rw[j,qa,gV];simp;omega
    have al:(IntKind.i64.wrap (((r.length+1+1:Nat):Int) - 2)).toNat - 0<=((nsOf ((b,n)::(a,m)::r)).map encI).length:=by rw[j,qa,lM];simp;omega
    have am:((IntKind.i64.wrap (((r.length+1+1:Nat):Int) - 2)).toNat - 0+[encS (nodeS a b)].length)*16<=140737488355328:=by rw[j];simp;omega
    have U:∀z:Int,((IntKind.i64.wrap (((r.length+1+1:Nat):Int) - 2)).toNat - 0+[encI z].length)*8<=140737488355328:=fun z=>by rw[j];simp;omega
    refine dwS (lk [0,1,2,3,4,5,6,7,8,9,10,11,12,13,14] .done) [8] ?_;refine⟨fun _=>?_,fun g=>absurd g (by simp;omega)⟩;refine⟨rfl,q2,rfl,encI m,gm,rfl,q1,rfl,encI n,gn,?_⟩;refine br (fun u=>?_) (fun u=>?_)
    ·refine famW 7 rfl ?_;refine famW 8 rfl ?_;refine dwS (lk [0,1,2,3,4,5,6,7,9,10,11,12] (.alt 8 (.alt 13 (.alt 14 (.alt 15 (.alt 16 (.look 17 .done) .nil) .nil) .nil) .nil) (.alt 13 (.alt 8 (.alt 14 (.alt 15 (.alt 16 (.look 17 .done) .nil) .nil) .nil) .nil) .nil))) [] ?_;refine⟨p2,rfl,q2,rfl,q1,?_,?_⟩
     ·refine⟨⟨yx,rfl⟩,encS a,ga,Fz.r F1,⟨yx,rfl⟩,encS b,gb,Fz.r F1,?_⟩;refine useFs (rh F1 (hR.mono l1) a b aw ax) ?_;rintro _ w l2 rfl;refine⟨l2,Fz.r w,nb rfl,[encS (nodeS a b)],rfl,⟨yx,rfl⟩,f0,fl,qa5 _,am,fun q af=>?_⟩;refine⟨Fz.r w,?_⟩;refine dwS (lk [0,1,2,3,4,5,6,7] (.alt 8 (.look 9 (.alt 10 (.alt 11 (.look 12 .done) .nil) .nil)) .nil)) [] ?_;refine⟨p3,rfl,q1,⟨yx,rfl⟩,encI n,gn,Fz.r w,Fz.r w,nb rfl,[encI (IntKind.i64.wrap (2*(n:Int)))],rfl,⟨yx,rfl⟩,f1,al,qa5 _,U _,fun d3 ag=>?_⟩;refine⟨Fz.r w,?_⟩;exact⟨⟨((nodeS a b,2*n)::r,q,d3),aa u q d3 af ag⟩,E,leR [(7,10),(8,12)] an ap rfl ⟨tv,tv,tv,cF eE 9 1 9 q (wsOf ((nodeS a b,2*n)::r)),cF eG 3 1 9 d3 (nsOf ((nodeS a b,2*n)::r)),tv⟩ ⟨⟨rfl,n3,rfl,.inr ⟨rfl,rfl,rfl,rfl⟩⟩,⟨rfl,n4,rfl,.inr ⟨rfl,rfl,rfl,rfl⟩⟩,eu n5,tv⟩ ⟨l2,aj _ q,ak _ d3 (a1 u),tv⟩⟩
     ·refine⟨⟨yx,rfl⟩,encS b,gb,Fz.r F1,⟨yx,rfl⟩,encS a,ga,Fz.r F1,?_⟩;refine useFs (rh F1 (hR.mono l1) a b aw ax) ?_;rintro _ w l2 rfl;refine⟨l2,Fz.r w,nb rfl,[encS (nodeS a b)],rfl,⟨yx,rfl⟩,f0,fl,qa5 _,am,fun q af=>?_⟩;refine⟨Fz.r w,?_⟩;refine dwS (lk [0,1,2,3,4,5,6,7] (.alt 8 (.look 9 (.alt 10 (.alt 11 (.look 12 .done) .nil) .nil)) .nil)) [] ?_;refine⟨p3,rfl,q1,⟨yx,rfl⟩,encI n,gn,Fz.r w,Fz.r w,nb rfl,[encI (IntKind.i64.wrap (2*(n:Int)))],rfl,⟨yx,rfl⟩,f1,al,qa5 _,U _,fun d3 ag=>?_⟩;refine⟨Fz.r w,?_⟩;exact⟨⟨((nodeS a b,2*n)::r,q,d3),aa u q d3 af ag⟩,E,leR [(7,10),(8,12)] an ap rfl ⟨tv,tv,tv,cF eE 9 1 9 q (wsOf ((nodeS a b,2*n)::r)),cF eG 3 1 9 d3 (nsOf ((nodeS a b,2*n)::r)),tv⟩ ⟨⟨rfl,n3,rfl,.inr ⟨rfl,rfl,rfl,rfl⟩⟩,⟨rfl,n4,rfl,.inr ⟨rfl,rfl,rfl,rfl⟩⟩,eu n5,tv⟩ ⟨l2,aj _ q,ak _ d3 (a1 u),tv⟩⟩
    ·exact⟨⟨(k+1,((wsOf ((b,n)::(a,m)::r)).headD []::(wsOf ((b,n)::(a,m)::r)).tail),((nsOf ((b,n)::(a,m)::r)).headD 0::(nsOf ((b,n)::(a,m)::r)).tail),T,d2),a9 u⟩,D,leRn [_,_,_] [_,_] [(1,7),(2,8)] V Y rfl ⟨tv,aF eE _ _ _ _ _,aF eG _ _ _ _ _,tv⟩ ⟨⟨rfl,bf,rfl,.inr ⟨rfl,rfl,rfl,rfl⟩⟩,⟨rfl,a8,rfl,.inr ⟨rfl,rfl,rfl,rfl⟩⟩,cnt G,tv⟩ ⟨l1,ab _ T,ac _ d2,tv⟩⟩
 ·have av:k=l.length:=by omega
  have a3:W=[R]:=by rw[y,av,yp,ao];rfl
  have a2:S=[8]:=by rw[hS,av,yp,ao];rfl
  have a7:¬(k:Int) < (l.length:Int):=by omega
  subst a3;subst a2;refine brj a7 ?_;refine brd dd ⟨rfl,by decide,rfl,encS R,rfl,⟨by decide,by show(0:Int)<=(c:Int);omega⟩,?_⟩;refine g8 hΘ func115 rfl dd _ _ rfl rfl rfl (ec hΘ _ _ _ ?_);refine DJ rfl rfl rfl ?_;refine⟨rfl,rfl,?_⟩;exact endFs (.ret (.va (.str R))) (Fz.r F) rfl
theorem rootF(l:List (List UInt8))(i:l.length=8):stackF l=[(root8 l,8)]:=by
 match l,i with
 |[a,b,c,d,e,f,g,h],_=>exact ydz a b c d e f g h
theorem lW(F:Fz)(d:RNDF F)(a:SA)(l:List (List UInt8))(b:Sl F 9 1 encS a l)(c:l.length=8)(s:∀x∈l,x.length<=900000000000):
  Fo prog F 17 [.va a] (fun o _=>o=.ret (.va (.str (root8 l)))):=by
 have h:=ybs F d a l b c s (root8 l) (rootF l c);obtain⟨p,k,n,m,j,q,rfl,e,f,g,i⟩:=b;refine foS func17 ?_;refine useFs h ?_;rintro _ F1 u rfl;exact endFs (.ret (.va (.str (root8 l)))) u rfl
def atV(A:List (List UInt8))(p:Int):List UInt8:=A[(p - 1).toNat]?.getD []
def chkAt(A B:List (List UInt8))(x:Kp):Bool:=decide (x.2=[(6,0)])||(decide ((dp x.1 x.2 (atV A x.1)).2=0)&&decide ((dp x.1 x.2 (atV A x.1)).1=atV B x.1))
theorem yaq(F:Fz)(e:SA)(l:List Stp)(f:aW F e l)(w:l.length < 1000000):
  Fo prog F 60 [.va e] (fun o _=>o=.ret (.va (.bool (decide (l=[(6,0)]))))):=by
 have d:=fun F1 (a:Fz.le F F1) x c=>kp F1 e x l [(6,0)] (f.mono a) c w
 obtain⟨q,m,p,n,k,s,rfl,g,h,i,j⟩:=f;refine foS func60 ?_;refine bS 1 (fun _=>.arr 56 2 ([(6,0)].map enc) 1) ?_;intro b F1 a c;have u:=d F1 a _ (Sl.new (l:=[(6,0)]) (cap:=1) (c 0 rfl));refine usePt u ?_;exact endFs (.ret (.va (.bool (decide (l=[(6,0)]))))) a rfl
variable {A:List (List UInt8)}
theorem x8{p:Int}(a:A.length=8)(b:1<=p/\p<=8):A[(p - 1).toNat]? =some (atV A p):=by
 unfold atV;rw[qc (show(p - 1).toNat < A.length by omega)];rfl
theorem Em(F:Fz)(hM:MLF F)(f n q:SA)(A B:List (List UInt8))(E bB:Nat)(x:Kp)(j:aW F f x.2)(w:x.2.length < 1000000)(hA:Sl F 9 1 encS n A)(hB:Sl F 9 1 encS q B)(g:A.length=8)(i:B.length=8)
  (ab:F E=some (.cells 34 [n]))(ac:F bB=some (.cells 34 [q]))(y:1<=x.1/\x.1<=8)(hs:∀s∈A,s.length<=1000000000000000000):
  Fo prog F 58 [.agg [.int .i64 x.1,f],.va (.ptr (fp E)),.va (.ptr (fp bB))] (fun o _=>o=.ret (.va (.bool (!chkAt A B x)))):=by
 obtain⟨p,l⟩:=x;replace y:1<=p/\p<=8:=y;replace w:l.length < 1000000:=w;replace j:aW F f l:=j;have gA:=x8 g y;have gB:=x8 i y;have a:=wq F hM f l p (atV A p) j w (hs _ (yw gA));have b:=fun F1 (c:Fz.le F F1)=>yaq F1 f l (j.mono c) w
 have hw:IntKind.i64.wrap (p - 1)=p - 1:=aI oo oo;have qA:0<=IntKind.i64.wrap (p - 1)/\IntKind.i64.wrap (p - 1) < (A.length:Int):=by rw[hw];omega
 have qB:0<=IntKind.i64.wrap (p - 1)/\IntKind.i64.wrap (p - 1) < (B.length:Int):=by rw[hw];omega
 have m:∀(L:List (List SA)) (e:Nat) (C:List (List UInt8)),(L.drop e).take C.length=C.map encS->C.length=8->C[(p - 1).toNat]? =some (atV C p)->L[e+(IntKind.i64.wrap (p - 1)).toNat]? =some (encS (atV C p)):=by
  intro L e C h1 h2 h3;have h4:=Sl.at h1 (k:=(p - 1).toNat) oo;rw[hw];rw[qc (show(p - 1).toNat < C.length by omega)]at h3;rw[Option.some.inj h3]at h4;exact h4
 show Fo prog F 58 [.agg [.int .i64 p,f],.va (.ptr (fp E)),.va (.ptr (fp bB))] (fun o F'=>o=.ret (.va (.bool (!(decide (l=[(6,0)])||(decide ((dp p l (atV A p)).2=0)&&decide ((dp p l (atV A p)).1=atV B p)))))));obtain⟨R,hR⟩:∃R,dp p l (atV A p)=R:=⟨_,rfl⟩
 rw[hR]at a ⊢;obtain⟨t,e⟩:=R;clear hR;obtain⟨U,ag,T,ah,S,ai,rfl,M,O,af,Q⟩:=hA;obtain⟨aa,ak,Z,al,Y,am,rfl,V,W,aj,X⟩:=hB;have rA:=m S T A Q g gA;have rB:=m Y Z B X i gB;have nA:U=false:=Sl.lt M (show 0 < A.length by omega);have nB:aa=false:=Sl.lt V (show 0 < B.length by omega);generalize atV A p=va at*;generalize atV B p=vb at*;obtain⟨ax,au,aw,av,ar,ay,rfl,an,ao,ap,aq⟩:=j
 have fin:∀(v:Bool) (F1:Fz) (h:Hp) (nx:Nat),(!(decide (l=[(6,0)])||(decide (e=0)&&decide (t=vb))))=v->lget h 0=some (.frz F1)->Fz.le F F1->Cln 1 (FoK F fun o F'=>o=.ret (.va (.bool (!(decide (l=[(6,0)])||(decide (e=0)&&decide (t=vb))))))) (.ret (.va (.bool v))) h nx:=by
  intro v F1 h nx hv h0 ae;exact endFo (.ret (.va (.bool v))) F1 h0 ae (Fz.r F1) (by rw[hv]) rfl rfl
 refine foS func58 ?_;refine dwS (lk [0,1,2,3,4,5,6,7,8,9] (.alt 10 (lk [11,12,13,14,15] .done) .nil)) [1] ?_;refine⟨rfl,rfl,rfl,_,ab,rfl,nA,qA,rfl,_,O nA,_,rA,?_⟩;refine useFs a ?_;rintro _ F1 c rfl;have ad:=b F1 c;refine⟨c,rfl,?_⟩;refine useFs ad ?_;rintro _ D l2 rfl;refine⟨fun u=>?_,fun u=>?_⟩
 rotate_left
 ·exact fin false D _ _ (by rw[show decide (l=[(6,0)])=true by simpa using u];rfl) rfl (Fz.t c l2)
 refine⟨fun G=>?_,fun G=>?_⟩
 ·have d:=Fz.t c l2;have K:decide (l=[(6,0)])=false:=by simpa using u
  have J:decide (e=0)=true:=by
   have I:(!decide (e=0))=false:=G;simpa using I
  refine⟨_,d _ _ ac,nB,qB,_,d _ _ (W nB),_,rB,?_⟩;exact fin _ D _ _ (by rw[K,J,<-beqD rfl];rfl) rfl d
 ·have J:decide (e=0)=false:=by
   have I:(!decide (e=0))=true:=G;simpa using I
  have K:decide (l=[(6,0)])=false:=by simpa using u
  exact fin true D _ _ (by rw[K,J];rfl) rfl (Fz.t c l2)
theorem AM(F:Fz)(hM:MLF F)(sk f i:SA)(A B:List (List UInt8))(u bB:Nat)(b:List Kp)(hk:ClsAt F sk b)(hs:short b)(hl:b.length < 1000000)(Z:Sl F 9 1 encS f A)(hB:Sl F 9 1 encS i B)(E:A.length=8)(I:B.length=8)(L:F u=some (.cells 34 [f]))(M:F bB=some (.cells 34 [i]))(hx:∀x∈b,1<=x.1/\x.1<=8)(Q:∀s∈A,s.length<=1000000000000000000):
  Fo prog F 125 [.va sk,.va (.fn (.func 58) [fp u,fp bB])] (fun o _=>o=.ret (.va (.int .i64 (idxN (chkAt A B) b 0)))):=by
 obtain⟨kn,kb,ke,kc,kL,kr,rfl,U,k2,k3,k4⟩:=hk
 have fin:∀(x:Int) (F1:Fz) (h:Hp) (nx:Nat),idxN (chkAt A B) b 0=x->lget h 0=some (.frz F1)->Fz.le F F1->
   Cln 1 (FoK F fun o W=>o=.ret (.va (.int .i64 (idxN (chkAt A B) b 0)))) (.ret (.va (.int .i64 x))) h nx:=by
  intro x F1 h nx hv Y O;exact endFo (.ret (.va (.int .i64 x))) F1 Y O (Fz.r F1) (by rw[hv]) rfl rfl
 refine foS func125 ?_;conv=>whnf
 refine aH hΘ (X:={ x:Nat×Fz // Fz.le F x.2/\x.1<=b.length/\idxN (chkAt A B) b 0=idxN (chkAt A B) (b.drop x.1) x.1 }) (fun x=>[(8,.va (.int .i64 x.1.1))]) (4::5::jr 9 10 []) (fz fun x=>x.1.2) 1 (fun x=>b.length - x.1.1) ⟨(0,F),Fz.r F,by simp,by simp⟩
  (fun J K=>leI [] J K rfl ⟨tv,tv⟩ ⟨rfl,tv⟩ ⟨Fz.r F,tv⟩) ?_
 rintro⟨⟨k,G⟩,c,n,e⟩ J K;replace c:Fz.le F G:=c;replace n:k<=b.length:=n;replace e:idxN (chkAt A B) b 0=idxN (chkAt A B) (b.drop k) k:=e;by_cases g:k < b.length
 ·have p:(k:Int) < (b.length:Int):=by omega
  have l:b.length - (k+1) < b.length - k:=by omega
  have m:k < 4611686018427387904:=by omega
  have R:=hs b[k] (qx g);have S:=hx b[k] (qx g);rw[uH (chkAt A B) b k g]at e;have j:=SlR.at k4 g;obtain⟨y,hy,a,rfl,T⟩:=j;have d:=Em G (hM.mono c) a f i A B u bB b[k] (T.mono c) R (Z.mono c) (hB.mono c) E I (c _ _ L) (c _ _ M) S Q;obtain⟨ai,af,ah,ag,ae,aj,rfl,aa,ab,ac,ad⟩:=T;refine bri p ⟨SlR.lt U g,⟨by simp,p⟩,_,c _ _ (k2 (SlR.lt U g)),_,hy,?_⟩;refine useFs d ?_;rintro _ q V rfl;refine br (fun w=>?_) (fun w=>?_)
  ·exact fin _ q _ _ (e.trans (if_pos (by have D:(!(chkAt A B) b[k])=true:=w;simpa using D))) rfl (Fz.t c V)
  ·conv=>whnf
   have D:(!(chkAt A B) b[k])=false:=w;exact⟨⟨(k+1,q),Fz.t c V,g,e.trans (if_neg (by rw[show(chkAt A B) b[k]=true by simpa using D];simp))⟩,l,leR [] J K rfl ⟨tv,tv⟩ ⟨cnt m,tv⟩ ⟨Fz.r q,tv⟩⟩
 ·have p:¬(k:Int) < (b.length:Int):=by omega
  rw[yg oo]at e;refine brj p ?_;exact fin _ G _ _ e rfl c
theorem AC(F:Fz)(n:MLF F)(sk b c:SA)(A B:List (List UInt8))(d bB:Nat)(a:List Kp)(k:ClsAt F sk a)(q:short a)(p:a.length < 1000000)(l:Sl F 9 1 encS b A)(m:Sl F 9 1 encS c B)(e:A.length=8)(f:B.length=8)(g:F d=some (.cells 34 [b]))(i:F bB=some (.cells 34 [c]))(u:∀x∈a,1<=x.1/\x.1<=8)(j:∀s∈A,s.length<=1000000000000000000):
  Fo prog F 57 [.va sk,.va (.fn (.func 58) [fp d,fp bB])] (fun o _=>o=.ret (.va (.bool (!a.all (chkAt A B))))):=by
 have h:=AM F n sk b c A B d bB a k q p l m e f g i u j;obtain⟨O,K,M,L,J,Q,rfl,D,E,G,I⟩:=k;refine foS func57 ?_;refine useFs h ?_;rintro _ F1 w rfl;exact endFo (.ret (.va (.bool (!a.all (chkAt A B))))) F1 rfl w (Fz.r F1) rfl (ob (wW (chkAt A B) a).symm) rfl
def cH(c:Crt)(A B:List (List UInt8)):Bool:=crtOk c&&((decide (A.length=8)&&decide (B.length=8))&&(decide (root8 A=c.src)&&(decide (root8 B=c.dst)&&c.cl.all (chkAt A B))))
theorem tE:∀(l:List Kp) (i:Int),clOk l i=true->∀x∈l,i<=x.1/\x.1 < i+l.length
 |[],_,_=>fun x hx=>by simp at hx
 |y::r,i,h=>fun x hx=>by
  rw[clOk,qd]at h
  have h1:y.1=i:=by
   have:=h.1;simp only[clAt,qd,decide_eq_true_eq]at this;exact this.1
  rcases qh.1 hx with rfl | hx
  ·simp only[qe];omega
  ·have:=tE r (i+1) h.2 x hx;simp only[qe];omega
variable {c:Crt}
theorem iu(h:crtOk c=true):c.cl.length=8/\∀x∈c.cl,1<=x.1/\x.1<=8:=by
 simp only[crtOk,qd,decide_eq_true_eq]at h;refine⟨h.2.2.2.2.1,fun x a=>?_⟩;have:=tE c.cl 1 h.2.2.2.2.2 x a;rw[h.2.2.2.2.1]at this;omega
variable {B:List (List UInt8)}
theorem kC1(h:decide ((A.length:Int)=8)=false):cH c A B=false:=by
 have:decide (A.length=8)=false:=by simp at h ⊢;omega
 simp only[cH,this,jv,yq]
theorem kC2(h:(!decide ((B.length:Int)=8))=true):cH c A B=false:=by
 have:decide (B.length=8)=false:=by simp at h ⊢;omega
 simp only[cH,this,jv,yq]
theorem kC3(h:(!crtOk c)=true):cH c A B=false:=by
 have:crtOk c=false:=by simpa using h
 simp only[cH,this,jv]
theorem kC4(h:(!(root8 A==c.src))=true):cH c A B=false:=by
 have h1:(root8 A==c.src)=false:=by simpa using h
 simp only[cH,beqD h1,jv,yq]
theorem kC5(h:(!(root8 B==c.dst))=true):cH c A B=false:=by
 have h1:(root8 B==c.dst)=false:=by simpa using h
 simp only[cH,beqD h1,jv,yq]
theorem kC6(h1:decide ((A.length:Int)=8)=true)(g:(!decide ((B.length:Int)=8))=false)(h:(!crtOk c)=false)(i:(!(root8 A==c.src))=false)(j:(!(root8 B==c.dst))=false):cH c A B= !(!c.cl.all (chkAt A B)):=by
 have a:decide (A.length=8)=true:=by simp at h1 ⊢;omega
 have b:decide (B.length=8)=true:=by simp at g ⊢;omega
 have d:crtOk c=true:=by simpa using h
 have e:(root8 A==c.src)=true:=by simpa using i
 have f:(root8 B==c.dst)=true:=by simpa using j
 simp only[cH,a,b,d,beqD e,beqD f,qab,Bool.not_not]
theorem ph(F:Fz)(hM:MLF F)(hR:RNDF F)(sk f g:SA)(c:Crt)(A B:List (List UInt8))(hk:ClsAt F sk c.cl)(K:short c.cl)(hl:c.cl.length < 1000000)(I:Sl F 9 1 encS f A)(J:Sl F 9 1 encS g B)
  (E:∀s∈A,s.length<=900000000000)(ag:∀s∈B,s.length<=900000000000):
  Fo prog F 22 [.agg (crtS c sk),.va f,.va g] (fun o _=>o=.ret (.va (.bool (cH c A B)))):=by
 have d:=gG F sk c hk K hl;have y:=fun F1 (a:Fz.le F F1) n=>lW F1 (hR.mono a) f A (I.mono a) n E
 have D:=fun F1 (a:Fz.le F F1) n=>lW F1 (hR.mono a) g B (J.mono a) n ag
 have e:=fun F1 (a:Fz.le F F1) M bB (n:A.length=8) (X:B.length=8) (L:crtOk c=true) i j=>AC F1 (hM.mono a) sk f g A B M bB c.cl (KpsAt.up hk a) K hl (I.mono a) (J.mono a) n X i j (iu L).2 (fun s K=>q8 (E s K) dd)
 have O:=kC1 (c:=c) (A:=A) (B:=B);have e2:=kC2 (c:=c) (A:=A) (B:=B);have Q:=kC3 (c:=c) (A:=A) (B:=B);have S:=kC4 (c:=c) (A:=A) (B:=B);have T:=kC5 (c:=c) (A:=A) (B:=B);have m:=kC6 (c:=c) (A:=A) (B:=B);obtain⟨v,L⟩:∃v,cH c A B=v:=⟨_,rfl⟩
 rw[L]at O e2 Q S T m ⊢;clear L;obtain⟨w,hw⟩:∃w,crtOk c=w:=⟨_,rfl⟩
 rw[hw]at d Q m e;clear hw;obtain⟨RA,u⟩:∃R,root8 A=R:=⟨_,rfl⟩
 obtain⟨RB,x⟩:∃R,root8 B=R:=⟨_,rfl⟩
 rw[u]at y S m;rw[x]at D T m;clear u x;obtain⟨src,ah,len,ks⟩:=c;have ai:=I;have ap:=J;obtain⟨ab,Y,aa,Z,an,ao,rfl,aj,ak,al,am⟩:=I;obtain⟨af,ac,ae,ad,aw,ax,rfl,aq,ar,au,av⟩:=J;obtain⟨kn,kb,ke,kc,kL,kr,rfl,k1,k2,k3,k4⟩:=hk
 have fin:∀(b:Bool) (F1:Fz) (h:Hp) (nx:Nat),v=b->lget h 0=some (.frz F1)->Fz.le F F1->Cln 1 (FoK F fun o F'=>o=.ret (.va (.bool v))) (.ret (.va (.bool b))) h nx:=by
  intro b F1 h nx hb W k;exact endFo (.ret (.va (.bool b))) F1 W k (Fz.r F1) (by rw[hb]) rfl rfl
 have finL:∀(b:Bool) (F1:Fz) (h:Hp) (nx:Nat),v=b->lget h 0=some (.frz F1)->Fz.le F F1->Cln 1 (FoK F fun o F'=>o=.ret (.va (.bool v))) (.ret (.va (.lit b))) h nx:=by
  intro b F1 h nx hb W k;exact endFo (.ret (.va (.bool b))) F1 W k (Fz.r F1) (by rw[hb]) rfl rfl
 refine foS func22 ?_;refine⟨fun gA=>?_,fun gA=>?_⟩
 rotate_left
 ·refine dwS (.look 0 (.alt 1 (lk [2,3,4,5,6,7,8,10,11] (.alt 9 (lk [12,13,14,15,17,18] (.alt 16 (.look 19 (.look 20 .done)) .nil)) .nil)) .nil)) [1,2,3] ?_;refine⟨rfl,?_⟩;refine useFs d ?_;rintro _ F1 a rfl;refine⟨a,rfl,rfl,rfl,fun l=>?_,fun l=>?_⟩
  ·exact fin false F1 _ _ (O gA) rfl a
  ·exact fin false F1 _ _ (O gA) rfl a
 refine dwS (.look 0 (.alt 1 (lk [2,3,4,5,6,7,8,10,11] (.alt 9 (lk [12,13,14,15,17,18] (.alt 16 (.look 19 (.look 20 .done)) .nil)) .nil)) .nil)) [1,2,3] ?_;refine⟨rfl,?_⟩;refine useFs d ?_;rintro _ F1 a rfl;refine⟨a,rfl,rfl,rfl,fun l=>?_,fun l=>?_⟩
 rotate_left
 ·exact fin false F1 _ _ (Q l) rfl a
 refine⟨fun G=>?_,fun G=>?_⟩
 rotate_left
 ·exact fin false F1 _ _ (e2 G) rfl a
 have p:A.length=8:=by have:=od gA;omega
 have q:B.length=8:=by
  have h:decide ((B.length:Int)=8)=true:=by simpa using G
  have:=od h;omega
 refine⟨rfl,rfl,?_⟩;refine useFs (y F1 a p) ?_;rintro _ F2 l2 rfl;have m2:=Fz.t a l2;refine⟨l2,rfl,rfl,rfl,fun U=>?_,fun U=>?_⟩
 rotate_left
 ·exact fin false F2 _ _ (S U) rfl m2
 refine⟨rfl,rfl,?_⟩;refine useFs (D F2 m2 q) ?_;rintro _ F3 l3 rfl;have m3:=Fz.t m2 l3;refine⟨l3,rfl,rfl,rfl,?_⟩;refine br (fun V=>?_) (fun V=>?_)
 ·exact fin false F3 _ _ (T V) rfl m3
 refine bS 2 (fun _=>.cells 34 [.slice ab 0 Y aa 1 A.length Z]) ?_;intro M F4 l4 i;refine bS 3 (fun _=>.cells 34 [.slice af 0 ac ae 1 B.length ad]) ?_;intro bB F5 l5 j;have m5:=Fz.t m3 (Fz.t l4 l5);refine useFs (e F5 m5 (M 0) (bB 0) p q (by simpa using l) (l5 _ _ (i 0 rfl)) (j 0 rfl)) ?_;rintro _ F6 l6 rfl;exact fin _ F6 _ _ (m gA G l U V) rfl (Fz.t m5 l6)
