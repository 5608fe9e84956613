import Derived.Test.YtfnkamphhpldcaaGreatDoorK18
set_option maxHeartbeats 64000000
namespace Go.Proofs.YtfnkamphhpldcaaGreatDoor
open Go Sx Tryz
set_option maxRecDepth 100000
theorem cS:Plain encI:=fun x=>⟨fun _=>rfl,fun a b=>by simp only[encI,qs]at b;subst b;trivial⟩
def badC(b:UInt8):Bool:=!(decide (32<=b.toNat)&&decide (b.toNat<=126))
def CFun:Prop:=∀(F:Fz) (s:List UInt8),s.length<=70000->Fo prog F 241 [.va (.str s),.va (.fn (.func 242) [])] (fun o a=>o=.ret (.va (.bool (s.any badC)))/\a=F)
def numsS(s:List UInt8)(p:Int):Nat->List Int->Int->Option (List Int×Int)
 |0,acc,q=>some (acc,q)
 |f+1,acc,q=>if bZ s q (bnd p acc).1 (bnd p acc).2=true then numsS s p f (acc++[(getI s q).1]) (getI s q).2.1 else none
abbrev Ln:=List UInt8×List Int
def lineS(s:List UInt8)(p:Int)(a:List Ln)(q:Int):Option (Ln×Int):=
 if p=1 then
  if(getS s q).2.2=0/\(getS s q).1.length<=80/\(getS s q).1.any badC=false then some (((getS s q).1,[]),(getS s q).2.1)else none
 else match numsS s p (cols p) [] q with
  |none=>none
  |some (n,q')=>if p=2 then some (([],n),q')else match a.getLast? with
   |none=>some (([],n),q')
   |some x=>if cmpL (x.2.take 2) (n.take 2) < 0 then some (([],n),q')else none
def capN:SA->Nat
 |.slice _ _ _ _ _ _ cap=>cap
 |_=>0
abbrev xW(F:Fz)(sl:SA)(b:List Ln):Prop:=SlR F 259 2 (fun y x=>∃a,y=[.str x.1,a]/\(x.2=[]\/dX F a x.2/\x.2.length<=capN a)) sl b
variable {F:Fz}
theorem take2{b e e' cap r:Nat}{L:List (List SA)}{l:List Int}(d:F b=some (.arr 3 1 L r))(h1:e+l.length<=L.length)(c:(L.drop e).take l.length=l.map encI)(g:2<=l.length)(f:e'=e):
  dX F (.slice false 0 b e' 1 2 cap) (l.take 2):=by
 subst f;have a:(l.take 2).length=2:=by rw[qk];omega
 refine⟨false,b,e',cap,L,r,by rw[a],fun h=>(nomatch h),fun _=>d,by rw[a];omega,?_⟩;rw[a,qdb,<-c,qbh,qaq g]
def lineE(c:Nat)(t:List UInt8)(n:List Int):Ent:=.one (.cells 259 [.str t,gA 1 4 c n])
theorem nP{m:Nat}(h:4 < m)(c:Nat)(t:List UInt8)(n:List Int):(lineE c t n).below m:=by
 intro a b;simp only[qh,qq,or_false]at b;rcases b with rfl | rfl
 ·trivial
 ·cases n with
  |nil=>trivial
  |cons x r=>exact .inr h
variable {μ:Mu}
theorem vu{j:Nat}(h:μ 4 0=(j,0))(c n:Nat)(t:List UInt8)(l:List Int)(x:Int)(a:n=l.length+1):SB.cells 259 [.str t,.slice false j 0 0 1 n c]=SB.ren μ (.cells 259 [.str t,gA 1 4 c (l++[x])]):=by
 subst a;cases l with
 |nil=>simp only[gA,qv,SB.ren,qw,yy,SA.ren,h,qu]
 |cons y r=>simp only[gA,yd,SB.ren,qw,yy,SA.ren,h];simp
variable {s:List UInt8}
theorem gK{q b a:Int}(h:bZ s q b a=true):(getI s q).2.2=0:=by
 simp only[bZ,qd,decide_eq_true_eq]at h;exact h.1
theorem pZ(af:CFun)(F:Fz)(s:List UInt8)(p q:Int)(sl:SA)(a:List Ln)(hl:xW F sl a)(hs:s.length<=1000000000000000000)(hp:1<=p/\p<=5)(hq:i64 q)(ao:a.length < 1000000)
  (ah:p≠1/\p≠2->∀x∈a,2<=x.2.length):
  Ct prog 185 [.va (.ptr ⟨1,0,0,0,0⟩),.va (.int .i64 p),.va sl] F [(1,rdr s q)] 2
   (fun o S m n0=>F=S/\match lineS s p a q with
    |some (x,f)=>∃c,x.2.length<=c/\n0=3/\o=.ret (.agg [.str x.1,gA 1 2 c x.2])/\m=[(1,rdr s f),(2,gE 3 1 encI c x.2)]
    |none=>∃f,n0=2/\o=.panic perr/\m=[(1,rdr s f)]):=by
 obtain⟨bn,bb,be,bc,bL,an,rfl,b1,b2,b3,b4⟩:=hl;have ae:=xH F s q hs hq;obtain⟨t,x,e,hg⟩:∃t x e,getS s q=(t,x,e):=⟨_,_,_,rfl⟩
 rw[hg]at ae;refine ctS func185 ?_;refine br (fun g=>?_) (fun g=>?_)
 ·have g1:p=1:=od g;have L:lineS s p a q=if(getS s q).2.2=0/\(getS s q).1.length<=80/\(getS s q).1.any badC=false then some (((getS s q).1,[]),(getS s q).2.1)else none:=by rw[lineS,if_pos g1]
  rw[hg]at L;replace L:lineS s p a q=if e=0/\t.length<=80/\t.any badC=false then some ((t,[]),x)else none:=L
  refine useS ae [(1,1)] ⟨cJ _ _,tv⟩ ⟨rfl,tv⟩ ?_;rintro R S m n0 ac ⟨rfl,rfl,d⟩;by_cases he:e=0
  ·rw[if_pos he]at d;obtain⟨I,G⟩:=d;subst I;subst G;refine⟨fun T=>?_,fun T=>?_⟩
   ·have Z:t.length<=80:=by have m:(t.length:Int)<=80:=od T;omega
    refine usePs (af F t oo) ?_;refine useFt (dF F (!t.any badC)) ?_;rintro _ _ l1 ⟨rfl,⟨w,rfl⟩ | ⟨w,rfl⟩⟩
    ·refine clean [(2,99)] (.ret (.agg [.str t,.nilsl])) F [(1,rdr s x),(2,gE 3 1 encI 0 [])] 3 ⟨Fz.r F,rfl,?_⟩ rfl rfl rfl (Out.bB_ok (o:=.ret (.agg [.str t,.nilsl])) rfl) ⟨cJ s _,aF cS _ _ _ _ _,tv⟩ ⟨Fz.r F,rfl,rfl,tv⟩;rw[L,if_pos ⟨he,Z,by simpa using w⟩];exact⟨0,qi 0,rfl,rfl,rfl⟩
    ·refine clean [] (.panic perr) F [(1,rdr s x)] 2 ⟨Fz.r F,rfl,?_⟩ rfl rfl rfl trivial ⟨cJ s _,tv⟩ ⟨Fz.r F,rfl,tv⟩;rw[L,if_neg (by simp at w;simp[w])];exact⟨x,rfl,rfl,rfl⟩
   ·have Z:¬t.length<=80:=by have m:¬(t.length:Int)<=80:=oe T;omega
    refine useFt (dF F false) ?_;rintro _ _ l1 ⟨rfl,⟨w,rfl⟩ | ⟨w,rfl⟩⟩
    ·cases w
    ·refine clean [] (.panic perr) F [(1,rdr s x)] 2 ⟨Fz.r F,rfl,?_⟩ rfl rfl rfl trivial ⟨cJ s _,tv⟩ ⟨Fz.r F,rfl,tv⟩;rw[L,if_neg (by simp[Z])];exact⟨x,rfl,rfl,rfl⟩
  ·rw[if_neg he]at d;obtain⟨I,G⟩:=d;subst I;subst G;refine clean [] (.panic perr) F [(1,rdr s q)] 2 ⟨Fz.r F,rfl,?_⟩ rfl rfl rfl trivial ⟨cJ s _,tv⟩ ⟨Fz.r F,rfl,tv⟩;rw[L,if_neg (by simp[he])];exact⟨q,rfl,rfl,rfl⟩
 ·have g1:¬p=1:=oe g
  have i:lineS s p a q=match numsS s p (cols p) [] q with
   |none=>none
   |some (n,f)=>if p=2 then some (([],n),f)else match a.getLast? with
    |none=>some (([],n),f)
    |some x=>if cmpL (x.2.take 2) (n.take 2) < 0 then some (([],n),f)else none:=by rw[lineS,if_neg g1]
  have ap:cols p<=4:=by
   have E:p=1\/p=2\/p=3\/p=4\/p=5:=by omega
   rcases E with rfl | rfl | rfl | rfl | rfl<;>decide
  conv=>whnf
  refine aH hΘ (X:={ x:List Int×Nat×Int // x.1.length<=cols p/\x.1.length<=x.2.1/\i64 x.2.2/\numsS s p (cols p) [] q=numsS s p (cols p - x.1.length) x.1 x.2.2 }) (fun _=>[]) (jr 25 19 [])
   (fun x=>[(0,.frz F),(1,rdr s x.1.2.2),(3,lineE x.1.2.1 [] x.1.1),(4,gE 3 1 encI x.1.2.1 x.1.1)]) 5 (fun x=>cols p - x.1.1.length) ⟨([],0,q),by simp,by simp,hq,rfl⟩
   (fun hH hT=>leI [(4,4)] hH hT rfl ⟨tv,cJ s _,nP oo _ _ _,aF cS _ _ _ _ _,tv⟩ trivial ⟨Fz.r F,rfl,rfl,rfl,tv⟩) ?_
  rintro⟨⟨acc,c,f⟩,M,D,O,B⟩ hH hT;replace D:acc.length<=c:=D;replace M:acc.length<=cols p:=M;replace O:i64 f:=O;replace B:numsS s p (cols p) [] q=numsS s p (cols p - acc.length) acc f:=B;rcases acc with _ | ⟨a0,ar⟩
  ·refine dwS (lk [0,1,2,3] (.alt 4 (.look 5 .done) .nil)) [3] ?_;conv=>whnf
   repeat' ((conv=>whnf);first
    |refine⟨rfl,?_⟩
    |refine⟨Fz.r _,rfl,?_⟩
    |refine⟨Fz.r _,rfl,rfl,?_⟩
    |refine⟨⟨by simp,by simp⟩,?_⟩
    |fail)
   refine usePs (tG p hp F) ?_;refine⟨Fz.r F,rfl,?_⟩;refine br (fun u=>?_) (fun u=>?_)
   ·have gl:0 < cols p:=by have m:((0:Nat):Int) < cols p:=od u;omega
    clear u;have hf:cols p - 0=(cols p - (0+1))+1:=by omega
    have l:numsS s p (cols p) [] q=if bZ s f (bnd p []).1 (bnd p []).2=true then numsS s p (cols p - (0+1)) ([]++[(getI s f).1]) (getI s f).2.1 else none:=by
     rw[B];show numsS s p (cols p - 0) [] f=_;rw[hf,numsS]
    refine dwS (lk [0,1,2,3,4,5] (.alt 6 (.look 7 (.look 8 (.alt 9 (.alt 10 (.alt 11 (.look 12 (.last 13 .done)) .nil) .nil) .nil))) .nil)) [3] ?_;conv=>whnf
    repeat' ((conv=>whnf);first
     |refine⟨rfl,?_⟩
     |refine⟨Fz.r _,rfl,?_⟩
     |refine⟨Fz.r _,rfl,rfl,?_⟩
     |refine⟨⟨by simp,by simp⟩,?_⟩
     |fail)
    refine usePt (uP F _ [] p Sl.nil ss) ?_;refine⟨Fz.r F,rfl,?_⟩;refine useS (gL F s f (bnd p []).1 (bnd p []).2 hs O) [(1,1)] ⟨cJ _ _,tv⟩ ⟨rfl,tv⟩ ?_;rintro R S m n0 ac ⟨rfl,rfl,d⟩;by_cases Y:bZ s f (bnd p []).1 (bnd p []).2=true
    ·rw[if_pos Y]at d l;obtain⟨I,G⟩:=d;subst I;subst G;have aj:=eL (gK Y);have V:i64 (getI s f).2.1:=⟨by omega,by omega⟩
     refine⟨Fz.r F,rfl,Fz.r F,rfl,nb rfl,[encI (getI s f).1],rfl,rfl,rfl,nb rfl,fun c' hc=>?_⟩;have U:([]++[(getI s f).1]).length<=c':=hc;clear hc;refine⟨Fz.r F,rfl,?_⟩
     exact⟨⟨([]++[(getI s f).1],c',(getI s f).2.1),by simp;omega,U,V,by rw[l];rfl⟩,by show cols p - 1 < cols p - 0;omega,
      leR [(4,6)] hH hT rfl ⟨tv,cJ s _,nP oo _ _ _,aF cS _ _ _ _ _,tv⟩ trivial ⟨Fz.r F,rfl,vu (μ:=sig [(4,6)]) (j:=6) rfl c' _ [] [] (getI s f).1 rfl,aQ cS (aZ [encI (getI s f).1] rfl),tv⟩⟩
    ·rw[if_neg Y]at d l;obtain⟨I,G⟩:=d;subst I;subst G;refine clean [] (.panic perr) F [(1,rdr s f)] 2 ⟨Fz.r F,rfl,?_⟩ rfl rfl rfl trivial ⟨cJ s _,tv⟩ ⟨Fz.r F,rfl,tv⟩;rw[i,l];exact⟨f,rfl,rfl,rfl⟩
   ·have gl:¬0 < cols p:=by have m:¬((0:Nat):Int) < cols p:=oe u;omega
    clear u;have E:p=2\/p=3\/p=4\/p=5:=by omega
    exfalso;rcases E with rfl | rfl | rfl | rfl<;>exact gl dd
  ·replace M:ar.length+1<=cols p:=M;refine dwS (lk [0,1,2,3] (.alt 4 (.look 5 .done) .nil)) [3] ?_;conv=>whnf
   repeat' ((conv=>whnf);first
    |refine⟨rfl,?_⟩
    |refine⟨Fz.r _,rfl,?_⟩
    |refine⟨Fz.r _,rfl,rfl,?_⟩
    |refine⟨⟨by simp,by simp⟩,?_⟩
    |fail)
   refine usePs (tG p hp F) ?_;refine⟨Fz.r F,rfl,?_⟩;refine br (fun u=>?_) (fun u=>?_)
   ·have gl:(ar.length+1) < cols p:=by have m:(((ar.length+1):Nat):Int) < cols p:=od u;omega
    clear u;have hf:cols p - (ar.length+1)=(cols p - ((ar.length+1)+1))+1:=by omega
    have l:numsS s p (cols p) [] q=if bZ s f (bnd p (a0::ar)).1 (bnd p (a0::ar)).2=true then numsS s p (cols p - ((ar.length+1)+1)) ((a0::ar)++[(getI s f).1]) (getI s f).2.1 else none:=by
     rw[B];show numsS s p (cols p - (ar.length+1)) (a0::ar) f=_;rw[hf,numsS]
    refine dwS (lk [0,1,2,3,4,5] (.alt 6 (.look 7 (.look 8 (.alt 9 (.alt 10 (.alt 11 (.look 12 (.last 13 .done)) .nil) .nil) .nil))) .nil)) [3] ?_;conv=>whnf
    repeat' ((conv=>whnf);first
     |refine⟨rfl,?_⟩
     |refine⟨Fz.r _,rfl,?_⟩
     |refine⟨Fz.r _,rfl,rfl,?_⟩
     |refine⟨⟨by simp,by simp⟩,?_⟩
     |fail)
    refine borrow 4 (fun _=>.arr 3 1 ((a0::ar).map encI) c) rfl rfl rfl (fun _ _=>ej _ (a0::ar) _) (fun _ _=>ef _ _ _) ?_;intro b F' Q w;refine usePt (uP F' _ (a0::ar) p (Sl.new (w 0 ⟨rfl,rfl⟩)) (by simp;omega)) ?_;refine⟨F',rfl,Fz.r _,rfl,fun _ _ _ _ _ _ h=>h,Fz.r F,rfl,?_⟩;refine useS (gL F s f (bnd p (a0::ar)).1 (bnd p (a0::ar)).2 hs O) [(1,1)] ⟨cJ _ _,tv⟩ ⟨rfl,tv⟩ ?_;rintro R S m n0 ac ⟨rfl,rfl,d⟩;by_cases Y:bZ s f (bnd p (a0::ar)).1 (bnd p (a0::ar)).2=true
    ·rw[if_pos Y]at d l;obtain⟨I,G⟩:=d;subst I;subst G;have aj:=eL (gK Y);have V:i64 (getI s f).2.1:=⟨by omega,by omega⟩
     refine⟨Fz.r F,rfl,Fz.r F,rfl,nb rfl,[encI (getI s f).1],rfl,rfl,rfl,by simp,rfl,by show(ar.length+1+1)*8<=140737488355328;omega,fun c' hc=>?_⟩;have U:((a0::ar)++[(getI s f).1]).length<=c':=by rw[qb];exact hc
     clear hc;refine⟨Fz.r F,rfl,?_⟩
     exact⟨⟨((a0::ar)++[(getI s f).1],c',(getI s f).2.1),by simp;omega,U,V,by rw[l];simp⟩,by show cols p - (a0::ar++[(getI s f).1]).length < cols p - (ar.length+1);simp;omega,
      leR [(4,6)] hH hT rfl ⟨tv,cJ s _,nP oo _ _ _,aF cS _ _ _ _ _,tv⟩ trivial ⟨Fz.r F,rfl,vu (μ:=sig [(4,6)]) (j:=6) rfl c' _ [] (a0::ar) (getI s f).1 rfl,aQ cS (aZ _ ss),tv⟩⟩
    ·rw[if_neg Y]at d l;obtain⟨I,G⟩:=d;subst I;subst G;refine clean [] (.panic perr) F [(1,rdr s f)] 2 ⟨Fz.r F,rfl,?_⟩ rfl rfl rfl trivial ⟨cJ s _,tv⟩ ⟨Fz.r F,rfl,tv⟩;rw[i,l];exact⟨f,rfl,rfl,rfl⟩
   ·have gl:¬(ar.length+1) < cols p:=by have m:¬(((ar.length+1):Nat):Int) < cols p:=oe u;omega
    clear u
    have ad:numsS s p (cols p) [] q=some (a0::ar,f):=by
     rw[B];show numsS s p (cols p - (ar.length+1)) (a0::ar) f=_;rw[show cols p - (ar.length+1)=0 by omega,numsS]
    rw[ad]at i
    replace i:lineS s p a q=if p=2 then some (([],a0::ar),f)else match a.getLast? with
     |none=>some (([],a0::ar),f)
     |some x=>if cmpL (x.2.take 2) ((a0::ar).take 2) < 0 then some (([],a0::ar),f)else none:=i
    have fin:∀(h:Hp) (nx:Nat),lineS s p a q=some (([],a0::ar),f)->lget h 0=some (.frz F)->lget h 1=some (rdr s f)->lget h 4=some (gE 3 1 encI c (a0::ar))->
      (∀k,resP h 4 k=(4,k))->Cln 2 (fun o S m n0=>Fz.le F S/\F=S/\match lineS s p a q with
       |some (x,f)=>∃c,x.2.length<=c/\n0=3/\o=.ret (.agg [.str x.1,gA 1 2 c x.2])/\m=[(1,rdr s f),(2,gE 3 1 encI c x.2)]
       |none=>∃f,n0=2/\o=.panic perr/\m=[(1,rdr s f)]) (.ret (.agg [.str [],.slice false 4 0 0 1 (ar.length+1) c])) h nx:=by
     intro h nx L m h1 h4 hr;refine clean [(2,4)] (.ret (.agg [.str [],.slice false 2 0 0 1 (ar.length+1) c])) F [(1,rdr s f),(2,gE 3 1 encI c (a0::ar))] 3 ⟨Fz.r F,rfl,?_⟩ ?_ rfl rfl (Out.bB_ok (o:=.ret (.agg [.str [],.slice false 2 0 0 1 (ar.length+1) c])) rfl) ⟨cJ s _,aF cS _ _ _ _ _,tv⟩ ?_
     ·rw[L];exact⟨c,D,rfl,rfl,rfl⟩
     ·show SV.agg [.str [],.slice false 4 0 0 1 (ar.length+1) c]=SV.agg [.str [],.slice false (resP h 4 0).1 (resP h 4 0).2 0 1 (ar.length+1) c];rw[hr 0]
     ·refine⟨?_,?_,?_,tv⟩
      ·show subE (lget h 0) (.frz F);rw[m];exact Fz.r F
      ·show subE (lget h 1) ((rdr s f).ren (sig [(2,4)]));rw[h1];rfl
      ·show subE (lget h 4) ((gE 3 1 encI c (a0::ar)).ren (sig [(2,4)]));rw[h4];exact aQ cS (bF _ _ _ _)
    refine⟨fun g2=>?_,fun g2=>?_⟩
    ·have K:¬p=2:=by simpa using g2
     rw[if_neg K]at i;refine br (fun u=>?_) (fun u=>?_)
     ·have aa:0 < a.length:=by have m:(0:Int) < a.length:=od u;omega
      clear u;have gk:a.length - 1 < a.length:=by omega
      have W:a.getLast? =some a[a.length - 1]:=by rw[List.getLast?_eq_getElem?,qc gk]
      rw[W]at i;replace i:lineS s p a q=if cmpL (a[a.length - 1].2.take 2) ((a0::ar).take 2) < 0 then some (([],a0::ar),f)else none:=i
      have A:=ah ⟨g1,K⟩ _ (qx gk)
      have ai:2<=ar.length+1:=by
       have E:p=3\/p=4\/p=5:=by omega
       have:3<=cols p:=by rcases E with rfl | rfl | rfl<;>decide
       omega
      replace D:ar.length+1<=c:=D;have ew:IntKind.i64.wrap ((a.length:Int) - 1)=((a.length - 1:Nat):Int):=by rw[aI oo oo];omega
      refine dwS (lk [0,1,2,3,4,5,6,7,8,9,10] (.alt 11 (.look 12 (.alt 13 .done .nil)) .nil)) [3] ?_;conv=>whnf
      have ab:=SlR.at b4 gk;obtain⟨y,hy,ya,rfl,ak⟩:=ab;have al:=ak.resolve_left (by intro h;rw[h]at A;simp at A);obtain⟨am,J⟩:=al;obtain⟨zn,zb,ze,zc,zL,zr,rfl,z1,z2,z3,z4⟩:=am;replace J:a[a.length - 1].2.length<=zc:=J;rcases zn with _ | _
      ·refine⟨SlR.lt b1 gk,⟨by rw[ew];omega,by rw[ew];omega⟩,rfl,_,b2 (SlR.lt b1 gk),_,by dsimp only;rw[ew];exact hy,?_⟩;refine⟨⟨by decide,by show(2:Int)<=(zc:Int);omega⟩,rfl,⟨by decide,by show(2:Int)<=(c:Int);omega⟩,?_⟩;refine borrow 4 (fun _=>.arr 3 1 ((a0::ar).map encI) c) rfl rfl rfl (fun _ _=>ej _ (a0::ar) _) (fun _ _=>ef _ _ _) ?_;intro b F' Q w;have ag:(((a0::ar).map encI).drop 0).take (a0::ar).length=(a0::ar).map encI:=by rw[y8,ql ss]
       refine usePt (D0 F' _ _ (a[a.length - 1].2.take 2) ((a0::ar).take 2) (take2 (cap:=zc - 0) (e':=if zc=0 then ze else ze+0) (Q _ _ (z2 rfl)) z3 z4 A (by split<;>rfl)) (take2 (cap:=c - 0) (e':=if c=0 then 0 else 0+0) (w 0 ⟨rfl,rfl⟩) ss ag (by simpa using ai) (by split<;>rfl)) (by rw[qk];omega)) ?_;refine⟨F',rfl,Fz.r _,rfl,fun _ _ _ _ _ _ h=>h,Fz.r F,rfl,?_⟩;refine useFt (dF F (decide (cmpL (a[a.length - 1].2.take 2) ((a0::ar).take 2) < 0))) ?_;rintro _ _ l1 ⟨rfl,⟨w,rfl⟩ | ⟨w,rfl⟩⟩
       ·refine⟨Fz.r F,rfl,?_⟩;exact fin _ _ (by rw[i,if_pos (od w)]) rfl rfl rfl (fun _=>rfl)
       ·refine clean [] (.panic perr) F [(1,rdr s f)] 2 ⟨Fz.r F,rfl,?_⟩ rfl rfl rfl trivial ⟨cJ s _,tv⟩ ⟨Fz.r F,rfl,tv⟩;rw[i,if_neg (oe w)];exact⟨f,rfl,rfl,rfl⟩
      ·have:=z1 rfl;rw[this]at A;simp at A
     ·have aa:a=[]:=by
       have m:¬(0:Int) < a.length:=oe u;exact y6.1 oo
      exact fin _ _ (by rw[i,aa];rfl) rfl rfl rfl (fun _=>rfl)
    ·have K:p=2:=by simpa using g2
     rw[if_pos K]at i;exact fin _ _ i rfl rfl rfl (fun _=>rfl)
def nA(B k c:Nat):List Int->SA
 |[]=>.nilsl
 |_::r=>.slice false B k 0 1 (r.length+1) c
def bM(B:Nat)(caps:Nat->Nat):Nat->List Ln->List (List SA)
 |_,[]=>[]
 |j,x::r=>[.str x.1,nA B j (caps j) x.2]::bM B caps (j+1) r
theorem ow(B:Nat)(caps:Nat->Nat):∀(j:Nat) (l:List Ln),(bM B caps j l).length=l.length
 |_,[]=>rfl
 |j,x::r=>by rw[bM,qe,qe,ow]
theorem uk(B:Nat)(caps:Nat->Nat):∀(j:Nat) (l:List Ln) (x:Ln),bM B caps j (l++[x])=bM B caps j l++[[.str x.1,nA B (j+l.length) (caps (j+l.length)) x.2]]
 |j,[],x=>by simp[bM]
 |j,y::r,x=>by
  rw[yd,bM,bM,uk B caps (j+1) r x,yd,qe];have:j+1+r.length=j+(r.length+1):=by omega
  rw[this]
theorem gD(B:Nat)(caps:Nat->Nat):∀(j:Nat) (l:List Ln) (k:Nat) (x:Ln),l[k]? =some x->(bM B caps j l)[k]? =some [.str x.1,nA B (j+k) (caps (j+k)) x.2]
 |j,y::r,0,x,h=>by simp at h;subst h;simp[bM]
 |j,y::r,k+1,x,h=>by
  rw[bM,qa2,gD B caps (j+1) r k x (by simpa using h)];have:j+1+k=j+(k+1):=by omega
  rw[this]
theorem kP(μ:Mu)(B k c:Nat)(n:List Int):(nA B k c n).ren μ=match n with
  |[]=>.nilsl
  |_::r=>.slice false (μ B k).1 (μ B k).2 0 1 (r.length+1) c:=by cases n<;>rfl
theorem io{μ:Mu}{B B':Nat}{caps caps':Nat->Nat}{m:Nat}(h:∀k,k < m->μ B k=(B',k)/\caps k=caps' k):∀(j:Nat) (l:List Ln),j+l.length<=m->(bM B caps j l).map (List.map (SA.ren μ))=bM B' caps' j l
 |_,[],_=>rfl
 |j,x::r,hl=>by
  rw[qe]at hl;obtain⟨h1,a⟩:=h j oo;rw[bM,bM,qw,io h (j+1) r oo]
  congr 1
  simp only[qw,yy,kP,h1,a];cases x.2<;>rfl
def famE(caps:Nat->Nat)(l:List Ln):Ent:=.fam l.length (fun k=>!((l.map (·.2)).getD k []).isEmpty) (fun k=>.arr 3 1 (((l.map (·.2)).getD k []).map encI) (caps k))
def bG(B:Nat)(caps:Nat->Nat)(c:Nat)(l:List Ln):Ent:=.opt (!l.isEmpty) (.arr 259 2 (bM B caps 0 l) c)
variable {l:List Ln}
theorem iS(_:Nat->Nat){k:Nat}{x:Ln}(h:l[k]? =some x):(l.map (·.2)).getD k []=x.2:=by
 rw[yr,qt,h];rfl
theorem lZ(μ:Mu)(caps:Nat->Nat)(l:List Ln):(famE caps l).ren μ=famE caps l:=by
 show Ent.fam _ _ _=Ent.fam _ _ _
 congr 1
 funext k;exact ej μ _ _
theorem c9(n:Nat)(caps:Nat->Nat)(l:List Ln):(famE caps l).below n:=fun _ _ _=>ef n _ _
theorem BA{n B:Nat}(h:B < n)(k c:Nat)(l:List Int):(nA B k c l).below n:=by
 cases l with
 |nil=>trivial
 |cons x r=>exact .inr h
theorem sZ{n B:Nat}(h:B < n)(caps:Nat->Nat):∀(j:Nat) (l:List Ln),∀y∈bM B caps j l,∀a∈y,a.below n
 |_,[],y,hy,_,_=>by simp[bM]at hy
 |j,x::r,y,hy,a,ha=>by
  rcases qh.1 hy with rfl | hy
  ·simp only[qh,qq,or_false]at ha;rcases ha with rfl | rfl
   ·trivial
   ·exact BA h _ _ _
  ·exact sZ h caps (j+1) r y hy a ha
theorem c8{n B:Nat}(h:B < n)(caps:Nat->Nat)(c:Nat)(l:List Ln):(bG B caps c l).below n:=sZ h caps 0 l
variable {caps:Nat->Nat}
theorem yay{b c:Nat}{bf:Nat->Nat}(_:l≠[])(m:F b=some (.arr 259 2 ((bM 5 caps 0 l).map (List.map (SA.ren (fun i k=>if i=5 then(0,bf k)else(i,k))))) c))
  (n:∀k,(famE caps l).has k->F (bf k)=some ((famE caps l).at k))(d:∀k x,l[k]? =some x->x.2.length<=caps k):xW F (.slice false 0 b 0 2 l.length c) l:=by
 refine⟨false,b,0,c,_,c,rfl,fun h=>(nomatch h),fun _=>m,by rw[qa,ow];omega,fun k x g=>?_⟩;have h1:=gD 5 caps 0 l k x g;rw[q9]at h1;refine⟨_,by rw[q9,qt,h1];rfl,?_⟩;refine⟨_,rfl,?_⟩;rw[kP];have o:=(qg.1 g).1;have a:=iS caps g;have j:=d k x g;cases p:x.2 with
 |nil=>exact .inl rfl
 |cons y r=>
  rw[p]at a j;have f:(famE caps l).has k:=⟨o,by show(!((l.map (·.2)).getD k []).isEmpty)=true;rw[a];rfl⟩
  have:=n k f;have e:(famE caps l).at k=.arr 3 1 ((y::r).map encI) (caps k):=by show SB.arr 3 1 (((l.map (·.2)).getD k []).map encI) (caps k)=_;rw[a]
  rw[e]at this;exact .inr ⟨Sl.new (l:=y::r) this,j⟩
structure Val where
 lost:Bool
 lines:List Ln
 w:Int
 h:Int
 bits:List UInt8
def cP(s:List UInt8)(p:Int):Nat->List Ln->Int->Option (List Ln×Int)
 |0,acc,q=>some (acc,q)
 |f+1,acc,q=>match lineS s p acc q with
  |none=>none
  |some (x,q')=>cP s p f (acc++[x]) q'
def readS(p:Int)(s:List UInt8):Option Val:=
 if ¬(1<=p/\p<=8)then none else
 if s=[]then some ⟨true,[],0,0,[]⟩else
 if p=8 then
  if bZ s 0 0 64=true/\bZ s (getI s 0).2.1 0 64=true/\(getI s (getI s 0).2.1).2.1=s.length then some ⟨false,[],(getI s 0).1,(getI s (getI s 0).2.1).1,[]⟩else none
 else if 6<=p then
  let w:=(getI s 0).1
  let q:=(getI s 0).2.1
  let h:=(getI s q).1
  let a:=(getI s q).2.1
  if bZ s 0 0 32=true/\bZ s q (min w 1) (min w 1*32)=true then
   if p=7 then
    if(getS s a).2.2=0/\((getS s a).1.length:Int)=w*h/\(getS s a).1.all (fun b=>b==48||b==49)=true/\(getS s a).2.1=s.length then some ⟨false,[],w,h,(getS s a).1⟩else none
   else if a=s.length then some ⟨false,[],w,h,[]⟩else none
  else none
 else
  if bZ s 0 0 64=true then match cP s p (getI s 0).1.toNat [] (getI s 0).2.1 with
   |none=>none
   |some (l,q)=>if q=s.length then some ⟨false,l,0,0,[]⟩else none
  else none
def valV(v:Val)(i c:Nat):SV:=.agg [.lit v.lost,gA 2 i c v.lines,.int .i64 v.w,.int .i64 v.h,.str v.bits]
theorem s9{μ μ':Mu}{B:Nat}(h:∀k,μ B k=μ' B k)(caps:Nat->Nat):∀(j:Nat) (l:List Ln),(bM B caps j l).map (List.map (SA.ren μ))=(bM B caps j l).map (List.map (SA.ren μ'))
 |_,[]=>rfl
 |j,x::r=>by
  rw[bM,qw,qw,s9 h caps (j+1) r]
  congr 1
  simp only[qw,yy,kP,h];rfl
theorem xx{s:List UInt8}{p:Int}:∀(f:Nat) (acc:List Int) (q:Int) {n:List Int} {a:Int},numsS s p f acc q=some (n,a)->s.length<=1000000000000000000->i64 q->n.length=acc.length+f/\i64 a
 |0,acc,q,n,a,h,_,hq=>by simp[numsS]at h;obtain⟨rfl,rfl⟩:=h;exact⟨rfl,hq⟩
 |f+1,acc,q,n,a,h,hs,hq=>by
  rw[numsS]at h;split at h
  ·rename_i c;have d:=eL (gK c);obtain⟨h1,b⟩:=xx f _ _ h hs ⟨by omega,by omega⟩;refine⟨by rw[h1,qb];simp;omega,b⟩
  ·cases h
theorem yap{q:Int}(h:(getS s q).2.2=0):0<=(getS s q).2.1/\(getS s q).2.1<=s.length:=by
 rw[getS]at h ⊢;split at h
 ·rename_i h1;exact absurd h h1
 ·rename_i h1;have b:=eL (s:=s) (p:=q) (by simpa using h1);rw[if_neg h1];split at h
  ·simp at h
  ·rename_i a;rw[if_neg a];show 0<=(getI s q).2.1+(getI s q).1/\(getI s q).2.1+(getI s q).1<=s.length;omega
variable {p:Int}
theorem wC{q:Int}{a:List Ln}{x:Ln}{d:Int}(h:lineS s p a q=some (x,d))(j:s.length<=1000000000000000000)(i:i64 q)(o:1<=p/\p<=5):
  i64 d/\(p≠1/\p≠2->2<=x.2.length):=by
 rw[lineS]at h;split at h
 ·rename_i h1;split at h
  ·rename_i e;have:=yap e.1;simp only[Option.some.injEq,Prod.mk.injEq]at h;obtain⟨rfl,rfl⟩:=h;exact⟨⟨by omega,by omega⟩,fun b=>absurd h1 b.1⟩
  ·cases h
 ·rename_i h1;split at h
  ·cases h
  ·rename_i n l g;obtain⟨b,f⟩:=xx _ _ _ g j i
   have k:x=([],n)/\d=l:=by
    split at h
    ·simp only[Option.some.injEq,Prod.mk.injEq]at h;exact⟨h.1.symm,h.2.symm⟩
    ·split at h
     ·simp only[Option.some.injEq,Prod.mk.injEq]at h;exact⟨h.1.symm,h.2.symm⟩
     ·split at h
      ·simp only[Option.some.injEq,Prod.mk.injEq]at h;exact⟨h.1.symm,h.2.symm⟩
      ·cases h
   obtain⟨rfl,rfl⟩:=k;refine⟨f,fun m=>?_⟩;have c:p=3\/p=4\/p=5:=by omega
   have:3<=cols p:=by rcases c with rfl | rfl | rfl<;>decide
   show 2<=n.length;rw[b];simp;omega
def mfz(bf:Nat->Nat):Mu:=fun i k=>if i=5 then(0,bf k)else(i,k)
theorem vt(bf caps:Nat->Nat):∀(j:Nat) (l:List Ln),∀y∈(bM 5 caps j l).map (List.map (SA.ren (mfz bf))),∀a∈y,a.below 1
 |_,[],y,hy,_,_=>by simp[bM]at hy
 |j,x::r,y,hy,a,ha=>by
  rw[bM,qw]at hy;rcases qh.1 hy with rfl | hy
  ·simp only[qw,yy,qh,qq,or_false,kP]at ha;rcases ha with rfl | rfl
   ·trivial
   ·cases x.2 with
    |nil=>trivial
    |cons _ _=>exact .inr (yx)
  ·exact vt bf caps (j+1) r y hy a ha
structure R1(s:List UInt8)(p:Int)(m:Nat)(q1:Int)(acc:List Ln)(c:Nat)(caps:Nat->Nat)(q:Int):Prop where
 h1:acc.length<=m
 h2:i64 q
 h3:cP s p m [] q1=cP s p (m - acc.length) acc q
 h4:∀k x,acc[k]? =some x->x.2.length<=caps k
 h5:p≠1/\p≠2->∀x∈acc,2<=x.2.length
def accE(_ i c:Nat)(l:List Ln):Ent:=.one (.cells 201 [.lit false,gA 2 i c l,.int .i64 0,.int .i64 0,.str []])
theorem om{n i:Nat}(h:i < n)(B c:Nat)(l:List Ln):(accE B i c l).below n:=by
 intro a b;simp only[qh,qq,or_false]at b;rcases b with rfl | rfl | rfl | rfl | rfl
 ·trivial
 ·cases l with
  |nil=>trivial
  |cons x r=>exact .inr h
 all_goals trivial
theorem xX{j:Nat}(h:μ 4 0=(j,0))(c n:Nat)(l:List Ln)(x:Ln)(a:n=l.length+1):
  SB.cells 201 [.lit false,.slice false j 0 0 2 n c,.int .i64 0,.int .i64 0,.str []]=SB.ren μ (.cells 201 [.lit false,gA 2 4 c (l++[x]),.int .i64 0,.int .i64 0,.str []]):=by
 subst a;cases l with
 |nil=>simp only[gA,qv,SB.ren,qw,yy,SA.ren,h,qu]
 |cons y r=>simp only[gA,yd,SB.ren,qw,yy,SA.ren,h];simp
def gx(m:Nat):Nat->Nat×Nat:=fun k=>if k < m then(5,k)else(6,0)
def capx(m a:Nat)(caps:Nat->Nat):Nat->Nat:=fun k=>if k=m then a else caps k
variable {acc:List Ln}
theorem vw{τ:Mu}{a:Nat}(x:Ln)(h:∀k,μ 5 k=gx acc.length k)(c:τ 2 0=(6,0)):
  bM 5 caps 0 acc++[[.str x.1,(gA 1 2 a x.2).ren τ]]=(bM 5 (capx acc.length a caps) 0 (acc++[x])).map (List.map (SA.ren μ)):=by
 rw[uk,qo,io (B':=5) (caps':=caps) (m:=acc.length) (fun k b=>⟨by rw[h,gx,if_pos b],by rw[capx,if_neg oo]⟩) 0 acc oo]
 congr 1
 simp only[qw,yy,kP,h,gx,capx,q9,Nat.lt_irrefl,if_false,if_true];cases x.2 with
 |nil=>rfl
 |cons y r=>simp only[gA,SA.ren,c]
theorem yB{τ:Mu}{h1:Hp}{c:Nat}(x:Ln)(n:lget h1 5=some (famE caps acc))(l:lget h1 6=some ((gE 3 1 encI c x.2).ren τ)):
  genE (gx acc.length) [5,6] h1 ((famE (capx acc.length c caps) (acc++[x])).ren μ):=by
 rw[lZ];rw[kJ cS]at l
 have i:∀k,k < acc.length->((acc++[x]).map (·.2)).getD k []=(acc.map (·.2)).getD k []:=fun k b=>by
  rw[yr,yr,qo,jo (by simpa using b)]
 have j:((acc++[x]).map (·.2)).getD acc.length []=x.2:=by
  rw[yr,qo,jt ss];simp
 refine⟨fun k b m=>?_,fun k o b d _ _ e=>?_⟩
 ·by_cases f:k < acc.length
  ·have g:gx acc.length k=(5,k):=if_pos f;rw[g];refine⟨by simp,famE caps acc,n,rfl,⟨f,?_⟩,?_⟩
   ·have a:(!(((acc++[x]).map (·.2)).getD k []).isEmpty)=true:=m;rw[i k f]at a;exact a
   ·show SB.arr 3 1 (((acc.map (·.2)).getD k []).map encI) (caps k)=SB.arr 3 1 ((((acc++[x]).map (·.2)).getD k []).map encI) (capx acc.length c caps k);rw[i k f,capx,if_neg oo]
  ·have h:k=acc.length:=by rw[qb]at b;simp at b;omega
   subst h;have g:gx acc.length acc.length=(6,0):=if_neg oo;rw[g];refine⟨by simp,gE 3 1 encI c x.2,l,rfl,⟨?_,rfl⟩,?_⟩
   ·have a:(!(((acc++[x]).map (·.2)).getD acc.length []).isEmpty)=true:=m;rw[j]at a;exact a
   ·show SB.arr 3 1 (x.2.map encI) c=SB.arr 3 1 ((((acc++[x]).map (·.2)).getD acc.length []).map encI) (capx acc.length c caps acc.length);rw[j,capx,if_pos rfl]
 ·rw[qb]at b d;simp at b d;unfold gx at e;split at e<;>split at e<;>simp at e<;>omega
theorem wa{b:Nat}{x:Ln}(h:∀k y,acc[k]? =some y->y.2.length<=caps k)(e:x.2.length<=b):∀k y,(acc++[x])[k]? =some y->y.2.length<=capx acc.length b caps k:=by
 intro k y a;unfold capx;by_cases c:k=acc.length
 ·subst c;rw[jt oo]at a;simp at a;subst a;rw[if_pos rfl];exact e
 ·have d:k < (acc++[x]).length:=(qg.1 a).1;rw[qb]at d;simp at d;rw[jo oo]at a;rw[if_neg c];exact h k y a
theorem rI{x:Ln}(h:p≠1/\p≠2->∀y∈acc,2<=y.2.length)(b:p≠1/\p≠2->2<=x.2.length):p≠1/\p≠2->∀y∈acc++[x],2<=y.2.length:=by
 intro a y hy;rcases yf.1 hy with hy | hy
 ·exact h a y hy
 ·rw[qs.1 hy];exact b a
theorem ng{α:Type}{i j:Nat}(h:μ i 0=(j,0))(sz c:Nat)(l:List α):(gA sz i c l).ren μ=gA sz j c l:=by
 cases l with
 |nil=>rfl
 |cons x r=>simp only[gA,SA.ren,h]
theorem xm{i j:Nat}(h:μ i 0=(j,0))(v:Val)(c:Nat):(valV v i c).ren μ=valV v j c:=by
 simp only[valV,SV.ren,qw,yy,ng h];rfl
theorem uy{n i:Nat}(h:i < n)(v:Val)(c:Nat):(valV v i c).below n:=by
 intro a b;simp only[qh,qq,or_false]at b;rcases b with rfl | rfl | rfl | rfl | rfl
 ·trivial
 ·cases v.lines with
  |nil=>trivial
  |cons x r=>exact .inr h
 all_goals trivial
theorem Eb{c:Nat}(h:∀k,μ 2 k=(5,k)):subE (some (bG 5 caps c l)) ((bG 2 caps c l).ren μ):=
 ⟨rfl,congrArg (fun L=>SB.arr 259 2 L c) (io (m:=l.length) (fun k _=>⟨h k,rfl⟩) 0 l oo).symm⟩
theorem dW:subE (some (famE caps l)) ((famE caps l).ren μ):=by
 rw[lZ];cases l with
 |nil=>trivial
 |cons x r=>exact⟨rfl,rfl,rfl⟩
def readK(F:Fz)(p:Int)(s:List UInt8):Out->Fz->List (Nat×Ent)->Nat->Prop:=fun o b a n0=>F=b/\match readS p s with
 |some v=>∃c caps,n0=3/\o=.ret (valV v 1 c)/\a=[(1,bG 2 caps c v.lines),(2,famE caps v.lines)]
 |none=>n0=1/\o=.panic perr/\a=[]
theorem uv{v:Val}{c:Nat}(h:readS p s=some v):readK F p s (.ret (valV v 1 c)) F [(1,bG 2 caps c v.lines),(2,famE caps v.lines)] 3:=
 ⟨rfl,by rw[h];exact⟨c,caps,rfl,rfl,rfl⟩⟩
theorem jG(h:readS p s=none):readK F p s (.panic perr) F [] 1:=⟨rfl,by rw[h];exact⟨rfl,rfl,rfl⟩⟩
theorem eR{h:Hp}{nx:Nat}(c:readS p s=none)(a:lget h 0=some (.frz F)):Cln 1 (fun o b a n0=>Fz.le F b/\readK F p s o b a n0) (.panic perr) h nx:=
 clean [] (.panic perr) F [] 1 ⟨Fz.r F,jG c⟩ rfl rfl rfl trivial trivial ⟨by show subE (lget h 0) (.frz F);rw[a];exact Fz.r F,tv⟩
theorem mO{h:Hp}{nx:Nat}{l:Bool}{w b:Int}{bits:List UInt8}(f:readS p s=some ⟨l,[],w,b,bits⟩)(a:lget h 0=some (.frz F))(e:lget h 99=none):
  Cln 1 (fun o d a n0=>Fz.le F d/\readK F p s o d a n0) (.ret (.agg [.lit l,.nilsl,.int .i64 w,.int .i64 b,.str bits])) h nx:=
 clean [(1,99),(2,100)] (.ret (valV ⟨l,[],w,b,bits⟩ 1 0)) F [(1,bG 2 (fun _=>0) 0 []),(2,famE (fun _=>0) [])] 3 ⟨Fz.r F,uv (c:=0) (caps:=fun _=>0) f⟩ rfl rfl rfl (uy oo _ _) ⟨c8 oo _ _ _,c9 _ _ _,tv⟩
  ⟨by show subE (lget h 0) (.frz F);rw[a];exact Fz.r F,by show subE (lget h 99) (.opt false _);rw[e];rfl,tv,tv⟩
theorem zO(h:¬(1<=p/\p<=8)):readS p s=none:=by rw[readS,if_pos h]
theorem DB(h:1<=p/\p<=8):readS p []=some ⟨true,[],0,0,[]⟩:=by rw[readS,if_neg oo,if_pos rfl]
theorem DL(F:Fz)(s:List UInt8)(p:Int)(b:¬(1<=p/\p<=8)):Ct prog 129 [.va (.int .i64 p),.va (.str s)] F [] 1 (readK F p s):=by
 refine ctS func129 ?_;refine usePs (fv p 1 8 F) ?_;refine useFt (dF F (decide (1<=p)&&decide (p<=8))) ?_;rintro _ _ c ⟨rfl,⟨a,rfl⟩ | ⟨a,rfl⟩⟩
 ·exact absurd (by simpa using a) b
 ·exact eR (zO b) rfl
theorem C5(F:Fz)(p:Int)(c:1<=p/\p<=8):Ct prog 129 [.va (.int .i64 p),.va (.str [])] F [] 1 (readK F p []):=by
 refine ctS func129 ?_;refine usePs (fv p 1 8 F) ?_;refine useFt (dF F (decide (1<=p)&&decide (p<=8))) ?_;rintro _ _ d ⟨rfl,⟨b,rfl⟩ | ⟨b,rfl⟩⟩
 ·refine bre dd ?_;refine useFt (dF F true) ?_;rintro _ _ e ⟨rfl,⟨a,rfl⟩ | ⟨a,rfl⟩⟩
  ·exact mO (DB c) rfl rfl
  ·cases a
 ·exfalso;have:¬(1<=p/\p<=8):=fun h=>by simp[h]at b
  exact this c
theorem C6(y:CFun)(F:Fz)(s:List UInt8)(p:Int)(U:s.length<=1000000000000000000)(n:1<=p/\p<=5)(G:¬s=[]):
  Ct prog 129 [.va (.int .i64 p),.va (.str s)] F [] 1 (readK F p s):=by
 have T:=fun lo hi=>gL F s 0 lo hi U (by unfold i64;omega)
 refine ctS func129 ?_;refine usePs (fv p 1 8 F) ?_;refine useFt (dF F (decide (1<=p)&&decide (p<=8))) ?_;rintro _ _ l1 ⟨rfl,⟨A,rfl⟩ | ⟨A,rfl⟩⟩
 ·have ai:1<=p/\p<=8:=by simpa using A
  refine br (fun g=>?_) (fun g=>?_)
  ·exact absurd (by simpa using g) G
  ·clear g;refine br (fun g=>absurd (od g) oo) (fun _=>?_);refine br (fun g=>absurd (od g) oo) (fun _=>?_);refine useS (T 0 64) [(1,3)] ⟨cJ _ _,tv⟩ ⟨rfl,tv⟩ ?_;rintro u F0 I n0 S ⟨rfl,rfl,a⟩;by_cases E:bZ s 0 0 64=true
   ·rw[if_pos E]at a;obtain⟨ho,hh⟩:=a;subst ho;subst hh;have ah:=eL (gK E)
    have ag:0<=(getI s 0).1/\(getI s 0).1<=64:=by
     simp only[bZ,qd,decide_eq_true_eq]at E;exact E.2
    have hm:∃m:Nat,(getI s 0).1=m/\m<=64:=⟨(getI s 0).1.toNat,by omega,by omega⟩
    obtain⟨m,em,af⟩:=hm
    have f:readS p s=match cP s p m [] (getI s 0).2.1 with
      |none=>none
      |some (l,q)=>if q=s.length then some ⟨false,l,0,0,[]⟩else none:=by
     rw[readS,if_neg oo,if_neg G,if_neg oo,if_neg oo,if_pos E,em];rfl
    have ad:i64 (getI s 0).2.1:=⟨by omega,by omega⟩
    conv=>whnf
    refine aH hΘ (X:={ x:List Ln×Nat×(Nat->Nat)×Int // R1 s p m (getI s 0).2.1 x.1 x.2.1 x.2.2.1 x.2.2.2 }) (fun x=>[(15,.va (.int .i64 x.1.1.length))]) (jr 16 12 [])
     (fun x=>[(0,.frz F),(2,accE 5 4 x.1.2.1 x.1.1),(3,rdr s x.1.2.2.2),(4,bG 5 x.1.2.2.1 x.1.2.1 x.1.1),(5,famE x.1.2.2.1 x.1.1)]) 6 (fun x=>m - x.1.1.length) ⟨([],0,fun _=>0,(getI s 0).2.1),⟨by simp,ad,rfl,by simp,by simp⟩⟩
     (fun V W=>leI [(4,4),(5,5)] V W rfl ⟨tv,om oo _ _ _,cJ s _,c8 oo _ _ _,c9 _ _ _,tv⟩ ⟨rfl,tv⟩ ⟨Fz.r F,rfl,rfl,rfl,tv,tv⟩) ?_
    rintro⟨⟨acc,c,caps,q⟩,h1,J,w,O,Q⟩ V W;replace h1:acc.length<=m:=h1;replace J:i64 q:=J;replace w:cP s p m [] (getI s 0).2.1=cP s p (m - acc.length) acc q:=w;replace O:∀k x,acc[k]? =some x->x.2.length<=caps k:=O;replace Q:p≠1/\p≠2->∀x∈acc,2<=x.2.length:=Q;have ac:=pZ y;refine br (fun K=>?_) (fun K=>?_)
    ·have M:acc.length < m:=by
      have I:(acc.length:Int) < (getI s 0).1:=od K;rw[em]at I;omega
     clear K;rcases acc with _ | ⟨a0,ar⟩
     ·refine dwS (lk [0,1,2,3,4,5] (.alt 6 (.alt 7 (.alt 8 (.look 9 (.last 10 .done)) .nil) .nil) .nil)) [2] ?_;conv=>whnf
      repeat' ((conv=>whnf);first
       |refine⟨rfl,?_⟩
       |refine⟨Fz.r _,rfl,?_⟩
       |refine⟨Fz.r _,rfl,rfl,?_⟩
       |refine⟨⟨by simp,by simp⟩,?_⟩
       |fail)
      refine useS (pZ y F s p q (.slice true 0 0 0 2 0 0) [] ⟨true,0,0,0,[],0,rfl,fun _=>rfl,fun h=>(nomatch h),by simp,by simp⟩ U n J ss ss) [(1,3)] ⟨cJ _ _,tv⟩ ⟨rfl,tv⟩ ?_;rintro u F0 I n0 S ⟨rfl,a⟩
      have d:lineS s p [] q=none\/∃x o,lineS s p [] q=some (x,o):=by
       cases lineS s p [] q with
       |none=>exact .inl rfl
       |some z=>exact .inr ⟨z.1,z.2,rfl⟩
      have R:m - 0=(m - 1)+1:=by omega
      rcases d with d | ⟨x,o,d⟩
      ·rw[d]at a;obtain⟨q3,rfl,rfl,rfl⟩:=a;refine clean [] (.panic perr) F [] 1 ⟨Fz.r F,jG ?_⟩ rfl rfl rfl trivial trivial ⟨Fz.r F,tv⟩;have b:cP s p m [] (getI s 0).2.1=none:=by rw[w];show cP s p (m - 0) [] q=none;rw[R,cP,d]
       rw[f,b]
      ·rw[d]at a;obtain⟨Z,D,rfl,rfl,rfl⟩:=a;have e:=wC d U J n;refine⟨Fz.r F,rfl,Fz.r F,rfl,nb rfl,_,rfl,rfl,rfl,nb rfl,fun c' hc=>?_⟩;clear hc;refine⟨Fz.r F,rfl,?_⟩;conv=>whnf
       have b:cP s p m [] (getI s 0).2.1=cP s p (m - ([]++[x]).length) ([]++[x]) o:=by rw[w];show cP s p (m - 0) [] q=_;rw[R,cP,d];rfl
       exact⟨⟨([]++[x],c',capx 0 Z caps,o),⟨by show 1<=m;exact M,e.1,b,wa O D,rI Q e.2⟩⟩,by show m - 1 < m - 0;omega,
        leR [(4,.to 8),(5,.fn (gx 0) [5,6])] V W rfl ⟨tv,om oo _ _ _,cJ s _,c8 oo _ _ _,c9 _ _ _,tv⟩ ⟨cnt oo,tv⟩
        ⟨Fz.r F,xX (μ:=sig [(4,.to 8),(5,.fn (gx 0) [5,6])]) (j:=8) rfl c' _ [] x rfl,rfl,congrArg (fun L=>SB.arr 259 2 L c') (vw (μ:=sig [(4,.to 8),(5,.fn (gx 0) [5,6])]) (acc:=[]) x (fun k=>rfl) rfl),yB (acc:=[]) x rfl rfl,tv⟩⟩
     ·replace h1:ar.length+1<=m:=h1;replace M:ar.length+1 < m:=M;refine dwS (lk [0,1,2,3,4,5] (.alt 6 (.alt 7 (.alt 8 (.look 9 (.last 10 .done)) .nil) .nil) .nil)) [2] ?_;conv=>whnf
      repeat' ((conv=>whnf);first
       |refine⟨rfl,?_⟩
       |refine⟨Fz.r _,rfl,?_⟩
       |refine⟨Fz.r _,rfl,rfl,?_⟩
       |refine⟨⟨by simp,by simp⟩,?_⟩
       |fail)
      refine lend 5 (fun k=>(famE caps (a0::ar)).at k) rfl rfl rfl (fun k _=>ej _ _ _) (fun k _=>ef _ _ _) ?_;intro bf G1 aj ab;refine lend 4 (fun _=>.arr 259 2 ((bM 5 caps 0 (a0::ar)).map (List.map (SA.ren (mfz bf)))) c) rfl rfl rfl (fun _ _=>congrArg (fun L=>SB.arr 259 2 L c) (s9 (μ':=mfz bf) (B:=5) (by intro k;rfl) caps 0 (a0::ar))) (fun _ _=>vt bf caps 0 (a0::ar)) ?_;intro b4 Y ae aa;refine useS (pZ y Y s p q _ (a0::ar) (yay (bf:=bf) (caps:=caps) ss (aa 0 ⟨rfl,rfl⟩) (fun k hk=>ae _ _ (ab k hk)) O) U n J (by simp;omega) Q) [(1,3)] ⟨cJ _ _,tv⟩ ⟨rfl,tv⟩ ?_;rintro u F0 I n0 S ⟨rfl,a⟩
      have d:lineS s p (a0::ar) q=none\/∃x o,lineS s p (a0::ar) q=some (x,o):=by
       cases lineS s p (a0::ar) q with
       |none=>exact .inl rfl
       |some z=>exact .inr ⟨z.1,z.2,rfl⟩
      have R:m - (ar.length+1)=(m - (ar.length+1+1))+1:=by omega
      rcases d with d | ⟨x,o,d⟩
      ·rw[d]at a;obtain⟨q3,rfl,rfl,rfl⟩:=a;refine⟨Y,rfl,Fz.r _,rfl,G1,rfl,Fz.r _,rfl,?_⟩;refine clean [] (.panic perr) F [] 1 ⟨Fz.r F,jG ?_⟩ rfl rfl rfl trivial trivial ⟨Fz.r F,tv⟩;have b:cP s p m [] (getI s 0).2.1=none:=by rw[w];show cP s p (m - (ar.length+1)) (a0::ar) q=none;rw[R,cP,d]
       rw[f,b]
      ·rw[d]at a;obtain⟨Z,D,rfl,rfl,rfl⟩:=a;refine⟨Y,rfl,Fz.r _,rfl,G1,rfl,Fz.r _,rfl,?_⟩;have e:=wC d U J n;refine⟨Fz.r F,rfl,Fz.r F,rfl,nb rfl,_,rfl,rfl,rfl,(ow 5 caps 0 (a0::ar)).symm,rfl,by show(ar.length+1+1)*40<=140737488355328;omega,fun c' hc=>?_⟩;clear hc;refine⟨Fz.r F,rfl,?_⟩;conv=>whnf
       have b:cP s p m [] (getI s 0).2.1=cP s p (m - ((a0::ar)++[x]).length) ((a0::ar)++[x]) o:=by
        rw[w];show cP s p (m - (ar.length+1)) (a0::ar) q=_;rw[R,cP,d,qb];rfl
       exact⟨⟨((a0::ar)++[x],c',capx (ar.length+1) Z caps,o),⟨by rw[qb];exact M,e.1,b,wa O D,rI Q e.2⟩⟩,by show m - ((a0::ar)++[x]).length < m - (ar.length+1);rw[qb];simp;omega,
        leR [(4,.to 8),(5,.fn (gx (ar.length+1)) [5,6])] V W rfl ⟨tv,om oo _ _ _,cJ s _,c8 oo _ _ _,c9 _ _ _,tv⟩ ⟨by show SA.int .i64 _=SA.int .i64 _;rw[qb];exact cnt (by simp;omega),tv⟩
        ⟨Fz.r F,xX (μ:=sig [(4,.to 8),(5,.fn (gx (ar.length+1)) [5,6])]) (j:=8) rfl c' _ (a0::ar) x rfl,rfl,congrArg (fun L=>SB.arr 259 2 L c') (vw (μ:=sig [(4,.to 8),(5,.fn (gx (ar.length+1)) [5,6])]) (acc:=a0::ar) x (fun k=>rfl) rfl),yB (acc:=a0::ar) x rfl rfl,tv⟩⟩
    ·have M:acc.length=m:=by
      have I:¬(acc.length:Int) < (getI s 0).1:=oe K;rw[em]at I;omega
     clear K;have b:cP s p m [] (getI s 0).2.1=some (acc,q):=by rw[w,show m - acc.length=0 by omega,cP]
     rw[b]at f;replace f:readS p s=if q=s.length then some ⟨false,acc,0,0,[]⟩else none:=f
     refine useFt (dF F (decide (q=(s.length:Int)))) ?_;rintro _ _ l2 ⟨rfl,⟨A,rfl⟩ | ⟨A,rfl⟩⟩
     ·refine clean [(1,4),(2,5)] (.ret (valV ⟨false,acc,0,0,[]⟩ 1 c)) F [(1,bG 2 caps c acc),(2,famE caps acc)] 3 ⟨Fz.r F,uv (v:=⟨false,acc,0,0,[]⟩) ?_⟩ ?_ rfl rfl (uy oo _ _) ⟨c8 oo _ _ _,c9 _ _ _,tv⟩ ⟨Fz.r F,Eb (fun k=>rfl),dW,tv⟩
      ·rw[f,if_pos (od A)]
      ·exact(xm (i:=1) (j:=4) rfl ⟨false,acc,0,0,[]⟩ c).trans (xm (i:=4) (j:=4) (by rfl) ⟨false,acc,0,0,[]⟩ c).symm
     ·refine clean [] (.panic perr) F [] 1 ⟨Fz.r F,jG ?_⟩ rfl rfl rfl trivial trivial ⟨Fz.r F,tv⟩;rw[f,if_neg (oe A)]
   ·rw[if_neg E]at a;obtain⟨ho,hh⟩:=a;subst ho;subst hh;have f:readS p s=none:=by rw[readS,if_neg oo,if_neg G,if_neg oo,if_neg oo,if_neg E]
    refine clean [] (.panic perr) F [] 1 ⟨Fz.r F,jG ?_⟩ rfl rfl rfl trivial trivial ⟨Fz.r F,tv⟩;exact f
 ·exfalso;have:=oe (p:=1<=p/\p<=8) (by simpa using A);omega
