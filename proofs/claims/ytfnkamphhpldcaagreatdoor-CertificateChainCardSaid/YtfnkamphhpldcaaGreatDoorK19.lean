import Derived.Test.YtfnkamphhpldcaaGreatDoorK18
set_option maxHeartbeats 64000000
namespace Go.Proofs.YtfnkamphhpldcaaGreatDoor
open Go Sx Tryz
set_option maxRecDepth 100000
structure Val where
 lost:Bool
 lines:List Ln
 w:Int
 h:Int
 bits:List UInt8
def bZ(s:List UInt8)(p:Int):Nat->List Ln->Int->Option (List Ln×Int)
 |0,acc,q=>some (acc,q)
 |f+1,acc,q=>match lineS s p acc q with
  |none=>none
  |some (x,q')=>bZ s p f (acc++[x]) q'
def readS(p:Int)(s:List UInt8):Option Val:=
 if ¬(1<=p/\p<=8)then none else
 if s=[]then some ⟨true,[],0,0,[]⟩else
 if p=8 then
  if aX s 0 0 64=true/\aX s (getI s 0).2.1 0 64=true/\(getI s (getI s 0).2.1).2.1=s.length then some ⟨false,[],(getI s 0).1,(getI s (getI s 0).2.1).1,[]⟩else none
 else if 6<=p then
  let w:=(getI s 0).1
  let q:=(getI s 0).2.1
  let h:=(getI s q).1
  let a:=(getI s q).2.1
  if aX s 0 0 32=true/\aX s q (min w 1) (min w 1*32)=true then
   if p=7 then
    if(getS s a).2.2=0/\((getS s a).1.length:Int)=w*h/\(getS s a).1.all (fun b=>b==48||b==49)=true/\(getS s a).2.1=s.length then some ⟨false,[],w,h,(getS s a).1⟩else none
   else if a=s.length then some ⟨false,[],w,h,[]⟩else none
  else none
 else
  if aX s 0 0 64=true then match bZ s p (getI s 0).1.toNat [] (getI s 0).2.1 with
   |none=>none
   |some (l,q)=>if q=s.length then some ⟨false,l,0,0,[]⟩else none
  else none
def valV(v:Val)(i c:Nat):SV:=.agg [.lit v.lost,gA 2 i c v.lines,.int .i64 v.w,.int .i64 v.h,.str v.bits]
theorem tj{μ μ':Mu}{B:Nat}(h:∀k,μ B k=μ' B k)(caps:Nat->Nat):∀(j:Nat) (l:List Ln),(bI B caps j l).map (List.map (SA.ren μ))=(bI B caps j l).map (List.map (SA.ren μ'))
 |_,[]=>rfl
 |j,x::r=>by
  rw[bI,q9,q9,tj h caps (j+1) r]
  congr 1
  simp only[q9,yu,kY,h];rfl
theorem xP{s:List UInt8}{p:Int}:∀(f:Nat) (acc:List Int) (q:Int) {n:List Int} {a:Int},numsS s p f acc q=some (n,a)->s.length<=1000000000000000000->i64 q->n.length=acc.length+f/\i64 a
 |0,acc,q,n,a,h,_,hq=>by simp[numsS]at h;obtain⟨rfl,rfl⟩:=h;exact⟨rfl,hq⟩
 |f+1,acc,q,n,a,h,hs,hq=>by
  rw[numsS]at h;split at h
  ·rename_i c;have d:=e8 (gU c);obtain⟨h1,b⟩:=xP f _ _ h hs ⟨by omega,by omega⟩;refine⟨by rw[h1,qb];simp;omega,b⟩
  ·cases h
variable {s:List UInt8}
theorem ry{q:Int}(h:(getS s q).2.2=0):0<=(getS s q).2.1/\(getS s q).2.1<=s.length:=by
 rw[getS]at h ⊢;split at h
 ·rename_i h1;exact absurd h h1
 ·rename_i h1;have b:=e8 (s:=s) (p:=q) (by simpa using h1);rw[if_neg h1];split at h
  ·simp at h
  ·rename_i a;rw[if_neg a];show 0<=(getI s q).2.1+(getI s q).1/\(getI s q).2.1+(getI s q).1<=s.length;omega
variable {p:Int}
theorem wW{q:Int}{a:List Ln}{x:Ln}{d:Int}(h:lineS s p a q=some (x,d))(j:s.length<=1000000000000000000)(i:i64 q)(o:1<=p/\p<=5):
  i64 d/\(p≠1/\p≠2->2<=x.2.length):=by
 rw[lineS]at h;split at h
 ·rename_i h1;split at h
  ·rename_i e;have:=ry e.1;simp only[Option.some.injEq,Prod.mk.injEq]at h;obtain⟨rfl,rfl⟩:=h;exact⟨⟨by omega,by omega⟩,fun b=>absurd h1 b.1⟩
  ·cases h
 ·rename_i h1;split at h
  ·cases h
  ·rename_i n l g;obtain⟨b,f⟩:=xP _ _ _ g j i
   have k:x=([],n)/\d=l:=by
    split at h
    ·simp only[Option.some.injEq,Prod.mk.injEq]at h;exact⟨h.1.symm,h.2.symm⟩
    ·split at h
     ·simp only[Option.some.injEq,Prod.mk.injEq]at h;exact⟨h.1.symm,h.2.symm⟩
     ·split at h
      ·simp only[Option.some.injEq,Prod.mk.injEq]at h;exact⟨h.1.symm,h.2.symm⟩
      ·cases h
   obtain⟨rfl,rfl⟩:=k;refine⟨f,fun m=>?_⟩;have c:p=3\/p=4\/p=5:=by omega
   have:3<=cols p:=by rcases c with rfl | rfl | rfl<;>decide
   show 2<=n.length;rw[b];simp;omega
def mfz(bf:Nat->Nat):Mu:=fun i k=>if i=5 then(0,bf k)else(i,k)
theorem vm(bf caps:Nat->Nat):∀(j:Nat) (l:List Ln),∀y∈(bI 5 caps j l).map (List.map (SA.ren (mfz bf))),∀a∈y,a.below 1
 |_,[],y,hy,_,_=>by simp[bI]at hy
 |j,x::r,y,hy,a,ha=>by
  rw[bI,q9]at hy;rcases qi.1 hy with rfl | hy
  ·simp only[q9,yu,qi,qp,or_false,kY]at ha;rcases ha with rfl | rfl
   ·trivial
   ·cases x.2 with
    |nil=>trivial
    |cons _ _=>exact .inr (ym)
  ·exact vm bf caps (j+1) r y hy a ha
structure R1(s:List UInt8)(p:Int)(m:Nat)(q1:Int)(acc:List Ln)(c:Nat)(caps:Nat->Nat)(q:Int):Prop where
 h1:acc.length<=m
 h2:i64 q
 h3:bZ s p m [] q1=bZ s p (m - acc.length) acc q
 h4:∀k x,acc[k]? =some x->x.2.length<=caps k
 h5:p≠1/\p≠2->∀x∈acc,2<=x.2.length
def accE(_ i c:Nat)(l:List Ln):Ent:=.one (.cells 201 [.lit false,gA 2 i c l,.int .i64 0,.int .i64 0,.str []])
variable {i:Nat}
theorem oL{n:Nat}(h:i < n)(B c:Nat)(l:List Ln):(accE B i c l).below n:=by
 intro a b;simp only[qi,qp,or_false]at b;rcases b with rfl | rfl | rfl | rfl | rfl
 ·trivial
 ·cases l with
  |nil=>trivial
  |cons x r=>exact .inr h
 all_goals trivial
variable {μ:Mu}{j:Nat}
theorem yP(h:μ 4 0=(j,0))(c n:Nat)(l:List Ln)(x:Ln)(a:n=l.length+1):
  SB.cells 201 [.lit false,.slice false j 0 0 2 n c,.int .i64 0,.int .i64 0,.str []]=SB.ren μ (.cells 201 [.lit false,gA 2 4 c (l++[x]),.int .i64 0,.int .i64 0,.str []]):=by
 subst a;cases l with
 |nil=>simp only[gA,qw,SB.ren,q9,yu,SA.ren,h,qv]
 |cons y r=>simp only[gA,jz,SB.ren,q9,yu,SA.ren,h];simp
def gx(m:Nat):Nat->Nat×Nat:=fun k=>if k < m then(5,k)else(6,0)
def capx(m a:Nat)(caps:Nat->Nat):Nat->Nat:=fun k=>if k=m then a else caps k
variable {acc:List Ln}{caps:Nat->Nat}
theorem vt{τ:Mu}{a:Nat}(x:Ln)(h:∀k,μ 5 k=gx acc.length k)(c:τ 2 0=(6,0)):
  bI 5 caps 0 acc++[[.str x.1,(gA 1 2 a x.2).ren τ]]=(bI 5 (capx acc.length a caps) 0 (acc++[x])).map (List.map (SA.ren μ)):=by
 rw[tX,qq,ix (B':=5) (caps':=caps) (m:=acc.length) (fun k b=>⟨by rw[h,gx,if_pos b],by rw[capx,if_neg oo]⟩) 0 acc oo]
 congr 1
 simp only[q9,yu,kY,h,gx,capx,qz,Nat.lt_irrefl,if_false,if_true];cases x.2 with
 |nil=>rfl
 |cons y r=>simp only[gA,SA.ren,c]
variable {c:Nat}
theorem rq{τ:Mu}{h1:Hp}(x:Ln)(n:lget h1 5=some (famE caps acc))(l:lget h1 6=some ((gE 3 1 encI c x.2).ren τ)):
  genE (gx acc.length) [5,6] h1 ((famE (capx acc.length c caps) (acc++[x])).ren μ):=by
 rw[ma];rw[kQ cG]at l
 have i:∀k,k < acc.length->((acc++[x]).map (·.2)).getD k []=(acc.map (·.2)).getD k []:=fun k b=>by
  rw[yp,yp,qq,jj (by simpa using b)]
 have j:((acc++[x]).map (·.2)).getD acc.length []=x.2:=by
  rw[yp,qq,jq ss];simp
 refine⟨fun k b m=>?_,fun k o b d _ _ e=>?_⟩
 ·by_cases f:k < acc.length
  ·have g:gx acc.length k=(5,k):=if_pos f;rw[g];refine⟨by simp,famE caps acc,n,rfl,⟨f,?_⟩,?_⟩
   ·have a:(!(((acc++[x]).map (·.2)).getD k []).isEmpty)=true:=m;rw[i k f]at a;exact a
   ·show SB.arr 3 1 (((acc.map (·.2)).getD k []).map encI) (caps k)=SB.arr 3 1 ((((acc++[x]).map (·.2)).getD k []).map encI) (capx acc.length c caps k);rw[i k f,capx,if_neg oo]
  ·have h:k=acc.length:=by rw[qb]at b;simp at b;omega
   subst h;have g:gx acc.length acc.length=(6,0):=if_neg oo;rw[g];refine⟨by simp,gE 3 1 encI c x.2,l,rfl,⟨?_,rfl⟩,?_⟩
   ·have a:(!(((acc++[x]).map (·.2)).getD acc.length []).isEmpty)=true:=m;rw[j]at a;exact a
   ·show SB.arr 3 1 (x.2.map encI) c=SB.arr 3 1 ((((acc++[x]).map (·.2)).getD acc.length []).map encI) (capx acc.length c caps acc.length);rw[j,capx,if_pos rfl]
 ·rw[qb]at b d;simp at b d;unfold gx at e;split at e<;>split at e<;>simp at e<;>omega
theorem wR{b:Nat}{x:Ln}(h:∀k y,acc[k]? =some y->y.2.length<=caps k)(e:x.2.length<=b):∀k y,(acc++[x])[k]? =some y->y.2.length<=capx acc.length b caps k:=by
 intro k y a;unfold capx;by_cases c:k=acc.length
 ·subst c;rw[jq oo]at a;simp at a;subst a;rw[if_pos rfl];exact e
 ·have d:k < (acc++[x]).length:=(qh.1 a).1;rw[qb]at d;simp at d;rw[jj oo]at a;rw[if_neg c];exact h k y a
theorem sM{x:Ln}(h:p≠1/\p≠2->∀y∈acc,2<=y.2.length)(b:p≠1/\p≠2->2<=x.2.length):p≠1/\p≠2->∀y∈acc++[x],2<=y.2.length:=by
 intro a y hy;rcases yd.1 hy with hy | hy
 ·exact h a y hy
 ·rw[qs.1 hy];exact b a
theorem nz{α:Type}(h:μ i 0=(j,0))(sz c:Nat)(l:List α):(gA sz i c l).ren μ=gA sz j c l:=by
 cases l with
 |nil=>rfl
 |cons x r=>simp only[gA,SA.ren,h]
theorem yL(h:μ i 0=(j,0))(v:Val)(c:Nat):(valV v i c).ren μ=valV v j c:=by
 simp only[valV,SV.ren,q9,yu,nz h];rfl
theorem uU{n:Nat}(h:i < n)(v:Val)(c:Nat):(valV v i c).below n:=by
 intro a b;simp only[qi,qp,or_false]at b;rcases b with rfl | rfl | rfl | rfl | rfl
 ·trivial
 ·cases v.lines with
  |nil=>trivial
  |cons x r=>exact .inr h
 all_goals trivial
theorem DY{l:List Ln}(h:∀k,μ 2 k=(5,k)):subE (some (bF 5 caps c l)) ((bF 2 caps c l).ren μ):=
 ⟨rfl,congrArg (fun L=>SB.arr 259 2 L c) (ix (m:=l.length) (fun k _=>⟨h k,rfl⟩) 0 l oo).symm⟩
theorem dX{l:List Ln}:subE (some (famE caps l)) ((famE caps l).ren μ):=by
 rw[ma];cases l with
 |nil=>trivial
 |cons x r=>exact⟨rfl,rfl,rfl⟩
def readK(F:Fz)(p:Int)(s:List UInt8):Out->Fz->List (Nat×Ent)->Nat->Prop:=fun o b a n0=>F=b/\match readS p s with
 |some v=>∃c caps,n0=3/\o=.ret (valV v 1 c)/\a=[(1,bF 2 caps c v.lines),(2,famE caps v.lines)]
 |none=>n0=1/\o=.panic perr/\a=[]
variable {F:Fz}
theorem uG{v:Val}(h:readS p s=some v):readK F p s (.ret (valV v 1 c)) F [(1,bF 2 caps c v.lines),(2,famE caps v.lines)] 3:=
 ⟨rfl,by rw[h];exact⟨c,caps,rfl,rfl,rfl⟩⟩
theorem jQ(h:readS p s=none):readK F p s (.panic perr) F [] 1:=⟨rfl,by rw[h];exact⟨rfl,rfl,rfl⟩⟩
theorem eY{h:Hp}{nx:Nat}(c:readS p s=none)(a:lget h 0=some (.frz F)):Cln 1 (fun o b a n0=>Fz.le F b/\readK F p s o b a n0) (.panic perr) h nx:=
 clean [] (.panic perr) F [] 1 ⟨Fz.r F,jQ c⟩ rfl rfl rfl trivial trivial ⟨by show subE (lget h 0) (.frz F);rw[a];exact Fz.r F,tv⟩
theorem mO{h:Hp}{nx:Nat}{l:Bool}{w hh:Int}{bits:List UInt8}(e:readS p s=some ⟨l,[],w,hh,bits⟩)(a:lget h 0=some (.frz F))(d:lget h 99=none):
  Cln 1 (fun o b a n0=>Fz.le F b/\readK F p s o b a n0) (.ret (.agg [.lit l,.nilsl,.int .i64 w,.int .i64 hh,.str bits])) h nx:=
 clean [(1,99),(2,100)] (.ret (valV ⟨l,[],w,hh,bits⟩ 1 0)) F [(1,bF 2 (fun _=>0) 0 []),(2,famE (fun _=>0) [])] 3 ⟨Fz.r F,uG (c:=0) (caps:=fun _=>0) e⟩ rfl rfl rfl (uU oo _ _) ⟨cV oo _ _ _,cW _ _ _,tv⟩
  ⟨by show subE (lget h 0) (.frz F);rw[a];exact Fz.r F,by show subE (lget h 99) (.opt false _);rw[d];rfl,tv,tv⟩
theorem AI(h:¬(1<=p/\p<=8)):readS p s=none:=by rw[readS,if_pos h]
theorem DO(h:1<=p/\p<=8):readS p []=some ⟨true,[],0,0,[]⟩:=by rw[readS,if_neg oo,if_pos rfl]
theorem Ew(F:Fz)(s:List UInt8)(p:Int)(a:¬(1<=p/\p<=8)):Ct prog 129 [.va (.int .i64 p),.va (.str s)] F [] 1 (readK F p s):=by
 refine ctS func129 ?_;refine usePs (fH p 1 8 F) ?_;refine useFt (dC F (decide (1<=p)&&decide (p<=8))) ?_;rintro _ _ b ⟨rfl,⟨hb,rfl⟩ | ⟨hb,rfl⟩⟩
 ·exact absurd (by simpa using hb) a
 ·exact eY (AI a) rfl
theorem C9(F:Fz)(p:Int)(b:1<=p/\p<=8):Ct prog 129 [.va (.int .i64 p),.va (.str [])] F [] 1 (readK F p []):=by
 refine ctS func129 ?_;refine usePs (fH p 1 8 F) ?_;refine useFt (dC F (decide (1<=p)&&decide (p<=8))) ?_;rintro _ _ c ⟨rfl,⟨hb,rfl⟩ | ⟨hb,rfl⟩⟩
 ·refine bre dd ?_;refine useFt (dC F true) ?_;rintro _ _ d ⟨rfl,⟨a,rfl⟩ | ⟨a,rfl⟩⟩
  ·exact mO (DO b) rfl rfl
  ·cases a
 ·exfalso;have:¬(1<=p/\p<=8):=fun h=>by simp[h]at hb
  exact this b
theorem Da(y:CFun)(F:Fz)(s:List UInt8)(p:Int)(T:s.length<=1000000000000000000)(n:1<=p/\p<=5)(E:¬s=[]):
  Ct prog 129 [.va (.int .i64 p),.va (.str s)] F [] 1 (readK F p s):=by
 have S:=fun lo hi=>gV F s 0 lo hi T (by unfold i64;omega)
 refine ctS func129 ?_;refine usePs (fH p 1 8 F) ?_;refine useFt (dC F (decide (1<=p)&&decide (p<=8))) ?_;rintro _ _ l1 ⟨rfl,⟨hb,rfl⟩ | ⟨hb,rfl⟩⟩
 ·have ah:1<=p/\p<=8:=by simpa using hb
  refine br (fun g=>?_) (fun g=>?_)
  ·exact absurd (by simpa using g) E
  ·clear g;refine br (fun g=>absurd (od g) oo) (fun _=>?_);refine br (fun g=>absurd (od g) oo) (fun _=>?_);refine useS (S 0 64) [(1,3)] ⟨cD _ _,tv⟩ ⟨rfl,tv⟩ ?_;rintro u F0 G n0 R ⟨rfl,rfl,a⟩;by_cases D:aX s 0 0 64=true
   ·rw[if_pos D]at a;obtain⟨ho,hh⟩:=a;subst ho;subst hh;have ag:=e8 (gU D)
    have af:0<=(getI s 0).1/\(getI s 0).1<=64:=by
     simp only[aX,qd,decide_eq_true_eq]at D;exact D.2
    have hm:∃m:Nat,(getI s 0).1=m/\m<=64:=⟨(getI s 0).1.toNat,by omega,by omega⟩
    obtain⟨m,Z,ae⟩:=hm
    have f:readS p s=match bZ s p m [] (getI s 0).2.1 with
      |none=>none
      |some (l,q)=>if q=s.length then some ⟨false,l,0,0,[]⟩else none:=by
     rw[readS,if_neg oo,if_neg E,if_neg oo,if_neg oo,if_pos D,Z];rfl
    have ac:i64 (getI s 0).2.1:=⟨by omega,by omega⟩
    conv=>whnf
    refine aI hΘ (X:={ x:List Ln×Nat×(Nat->Nat)×Int // R1 s p m (getI s 0).2.1 x.1 x.2.1 x.2.2.1 x.2.2.2 }) (fun x=>[(15,.va (.int .i64 x.1.1.length))]) (jr 16 12 [])
     (fun x=>[(0,.frz F),(2,accE 5 4 x.1.2.1 x.1.1),(3,rdr s x.1.2.2.2),(4,bF 5 x.1.2.2.1 x.1.2.1 x.1.1),(5,famE x.1.2.2.1 x.1.1)]) 6 (fun x=>m - x.1.1.length) ⟨([],0,fun _=>0,(getI s 0).2.1),⟨by simp,ac,rfl,by simp,by simp⟩⟩
     (fun U V=>leI [(4,4),(5,5)] U V rfl ⟨tv,oL oo _ _ _,cD s _,cV oo _ _ _,cW _ _ _,tv⟩ ⟨rfl,tv⟩ ⟨Fz.r F,rfl,rfl,rfl,tv,tv⟩) ?_
    rintro⟨⟨acc,c,caps,q⟩,h1,I,w,M,O⟩ U V;replace h1:acc.length<=m:=h1;replace I:i64 q:=I;replace w:bZ s p m [] (getI s 0).2.1=bZ s p (m - acc.length) acc q:=w;replace M:∀k x,acc[k]? =some x->x.2.length<=caps k:=M;replace O:p≠1/\p≠2->∀x∈acc,2<=x.2.length:=O;have ab:=qQ y;refine br (fun J=>?_) (fun J=>?_)
    ·have K:acc.length < m:=by
      have G:(acc.length:Int) < (getI s 0).1:=od J;rw[Z]at G;omega
     clear J;rcases acc with _ | ⟨a0,ar⟩
     ·refine dwS (lk [0,1,2,3,4,5] (.alt 6 (.alt 7 (.alt 8 (.look 9 (.last 10 .done)) .nil) .nil) .nil)) [2] ?_;conv=>whnf
      repeat' ((conv=>whnf);first
       |refine⟨rfl,?_⟩
       |refine⟨Fz.r _,rfl,?_⟩
       |refine⟨Fz.r _,rfl,rfl,?_⟩
       |refine⟨⟨by simp,by simp⟩,?_⟩
       |fail)
      refine useS (qQ y F s p q (.slice true 0 0 0 2 0 0) [] ⟨true,0,0,0,[],0,rfl,fun _=>rfl,fun h=>(nomatch h),by simp,by simp⟩ T n I ss ss) [(1,3)] ⟨cD _ _,tv⟩ ⟨rfl,tv⟩ ?_;rintro u F0 G n0 R ⟨rfl,a⟩
      have d:lineS s p [] q=none\/∃x o,lineS s p [] q=some (x,o):=by
       cases lineS s p [] q with
       |none=>exact .inl rfl
       |some z=>exact .inr ⟨z.1,z.2,rfl⟩
      have Q:m - 0=(m - 1)+1:=by omega
      rcases d with d | ⟨x,o,d⟩
      ·rw[d]at a;obtain⟨q3,rfl,rfl,rfl⟩:=a;refine clean [] (.panic perr) F [] 1 ⟨Fz.r F,jQ ?_⟩ rfl rfl rfl trivial trivial ⟨Fz.r F,tv⟩;have b:bZ s p m [] (getI s 0).2.1=none:=by rw[w];show bZ s p (m - 0) [] q=none;rw[Q,bZ,d]
       rw[f,b]
      ·rw[d]at a;obtain⟨Y,A,rfl,rfl,rfl⟩:=a;have e:=wW d T I n;refine⟨Fz.r F,rfl,Fz.r F,rfl,nb rfl,_,rfl,rfl,rfl,nb rfl,fun c' hc=>?_⟩;clear hc;refine⟨Fz.r F,rfl,?_⟩;conv=>whnf
       have b:bZ s p m [] (getI s 0).2.1=bZ s p (m - ([]++[x]).length) ([]++[x]) o:=by rw[w];show bZ s p (m - 0) [] q=_;rw[Q,bZ,d];rfl
       exact⟨⟨([]++[x],c',capx 0 Y caps,o),⟨by show 1<=m;exact K,e.1,b,wR M A,sM O e.2⟩⟩,by show m - 1 < m - 0;omega,
        leR [(4,.to 8),(5,.fn (gx 0) [5,6])] U V rfl ⟨tv,oL oo _ _ _,cD s _,cV oo _ _ _,cW _ _ _,tv⟩ ⟨cnt oo,tv⟩
        ⟨Fz.r F,yP (μ:=sig [(4,.to 8),(5,.fn (gx 0) [5,6])]) (j:=8) rfl c' _ [] x rfl,rfl,congrArg (fun L=>SB.arr 259 2 L c') (vt (μ:=sig [(4,.to 8),(5,.fn (gx 0) [5,6])]) (acc:=[]) x (fun k=>rfl) rfl),rq (acc:=[]) x rfl rfl,tv⟩⟩
     ·replace h1:ar.length+1<=m:=h1;replace K:ar.length+1 < m:=K;refine dwS (lk [0,1,2,3,4,5] (.alt 6 (.alt 7 (.alt 8 (.look 9 (.last 10 .done)) .nil) .nil) .nil)) [2] ?_;conv=>whnf
      repeat' ((conv=>whnf);first
       |refine⟨rfl,?_⟩
       |refine⟨Fz.r _,rfl,?_⟩
       |refine⟨Fz.r _,rfl,rfl,?_⟩
       |refine⟨⟨by simp,by simp⟩,?_⟩
       |fail)
      refine lend 5 (fun k=>(famE caps (a0::ar)).at k) rfl rfl rfl (fun k _=>es _ _ _) (fun k _=>eq _ _ _) ?_;intro bf G1 ai aa;refine lend 4 (fun _=>.arr 259 2 ((bI 5 caps 0 (a0::ar)).map (List.map (SA.ren (mfz bf)))) c) rfl rfl rfl (fun _ _=>congrArg (fun L=>SB.arr 259 2 L c) (tj (μ':=mfz bf) (B:=5) (by intro k;rfl) caps 0 (a0::ar))) (fun _ _=>vm bf caps 0 (a0::ar)) ?_;intro b4 W ad hb4;refine useS (qQ y W s p q _ (a0::ar) (ydn (bf:=bf) (caps:=caps) ss (hb4 0 ⟨rfl,rfl⟩) (fun k hk=>ad _ _ (aa k hk)) M) T n I (by simp;omega) O) [(1,3)] ⟨cD _ _,tv⟩ ⟨rfl,tv⟩ ?_;rintro u F0 G n0 R ⟨rfl,a⟩
      have d:lineS s p (a0::ar) q=none\/∃x o,lineS s p (a0::ar) q=some (x,o):=by
       cases lineS s p (a0::ar) q with
       |none=>exact .inl rfl
       |some z=>exact .inr ⟨z.1,z.2,rfl⟩
      have Q:m - (ar.length+1)=(m - (ar.length+1+1))+1:=by omega
      rcases d with d | ⟨x,o,d⟩
      ·rw[d]at a;obtain⟨q3,rfl,rfl,rfl⟩:=a;refine⟨W,rfl,Fz.r _,rfl,G1,rfl,Fz.r _,rfl,?_⟩;refine clean [] (.panic perr) F [] 1 ⟨Fz.r F,jQ ?_⟩ rfl rfl rfl trivial trivial ⟨Fz.r F,tv⟩;have b:bZ s p m [] (getI s 0).2.1=none:=by rw[w];show bZ s p (m - (ar.length+1)) (a0::ar) q=none;rw[Q,bZ,d]
       rw[f,b]
      ·rw[d]at a;obtain⟨Y,A,rfl,rfl,rfl⟩:=a;refine⟨W,rfl,Fz.r _,rfl,G1,rfl,Fz.r _,rfl,?_⟩;have e:=wW d T I n;refine⟨Fz.r F,rfl,Fz.r F,rfl,nb rfl,_,rfl,rfl,rfl,(oI 5 caps 0 (a0::ar)).symm,rfl,by show(ar.length+1+1)*40<=140737488355328;omega,fun c' hc=>?_⟩;clear hc;refine⟨Fz.r F,rfl,?_⟩;conv=>whnf
       have b:bZ s p m [] (getI s 0).2.1=bZ s p (m - ((a0::ar)++[x]).length) ((a0::ar)++[x]) o:=by
        rw[w];show bZ s p (m - (ar.length+1)) (a0::ar) q=_;rw[Q,bZ,d,qb];rfl
       exact⟨⟨((a0::ar)++[x],c',capx (ar.length+1) Y caps,o),⟨by rw[qb];exact K,e.1,b,wR M A,sM O e.2⟩⟩,by show m - ((a0::ar)++[x]).length < m - (ar.length+1);rw[qb];simp;omega,
        leR [(4,.to 8),(5,.fn (gx (ar.length+1)) [5,6])] U V rfl ⟨tv,oL oo _ _ _,cD s _,cV oo _ _ _,cW _ _ _,tv⟩ ⟨by show SA.int .i64 _=SA.int .i64 _;rw[qb];exact cnt (by simp;omega),tv⟩
        ⟨Fz.r F,yP (μ:=sig [(4,.to 8),(5,.fn (gx (ar.length+1)) [5,6])]) (j:=8) rfl c' _ (a0::ar) x rfl,rfl,congrArg (fun L=>SB.arr 259 2 L c') (vt (μ:=sig [(4,.to 8),(5,.fn (gx (ar.length+1)) [5,6])]) (acc:=a0::ar) x (fun k=>rfl) rfl),rq (acc:=a0::ar) x rfl rfl,tv⟩⟩
    ·have K:acc.length=m:=by
      have G:¬(acc.length:Int) < (getI s 0).1:=oe J;rw[Z]at G;omega
     clear J;have b:bZ s p m [] (getI s 0).2.1=some (acc,q):=by rw[w,show m - acc.length=0 by omega,bZ]
     rw[b]at f;replace f:readS p s=if q=s.length then some ⟨false,acc,0,0,[]⟩else none:=f
     refine useFt (dC F (decide (q=(s.length:Int)))) ?_;rintro _ _ l2 ⟨rfl,⟨hb,rfl⟩ | ⟨hb,rfl⟩⟩
     ·refine clean [(1,4),(2,5)] (.ret (valV ⟨false,acc,0,0,[]⟩ 1 c)) F [(1,bF 2 caps c acc),(2,famE caps acc)] 3 ⟨Fz.r F,uG (v:=⟨false,acc,0,0,[]⟩) ?_⟩ ?_ rfl rfl (uU oo _ _) ⟨cV oo _ _ _,cW _ _ _,tv⟩ ⟨Fz.r F,DY (fun k=>rfl),dX,tv⟩
      ·rw[f,if_pos (od hb)]
      ·exact(yL (i:=1) (j:=4) rfl ⟨false,acc,0,0,[]⟩ c).trans (yL (i:=4) (j:=4) (by rfl) ⟨false,acc,0,0,[]⟩ c).symm
     ·refine clean [] (.panic perr) F [] 1 ⟨Fz.r F,jQ ?_⟩ rfl rfl rfl trivial trivial ⟨Fz.r F,tv⟩;rw[f,if_neg (oe hb)]
   ·rw[if_neg D]at a;obtain⟨ho,hh⟩:=a;subst ho;subst hh;have f:readS p s=none:=by rw[readS,if_neg oo,if_neg E,if_neg oo,if_neg oo,if_neg D]
    refine clean [] (.panic perr) F [] 1 ⟨Fz.r F,jQ ?_⟩ rfl rfl rfl trivial trivial ⟨Fz.r F,tv⟩;exact f
 ·exfalso;have:=oe (p:=1<=p/\p<=8) (by simpa using hb);omega
def TFun:Prop:=∀(F:Fz) (s:List UInt8),s.length<=70000->Fo prog F 184 [.va (.str s),.va (.str [48,49])] (fun o a=>F=a/\∃r:List UInt8,o=.ret (.va (.str r))/\(r=[]↔s.all (fun b=>b==48||b==49)=true))
theorem Dg(F:Fz)(s:List UInt8)(l:s.length<=1000000000000000000)(e:¬s=[]):Ct prog 129 [.va (.int .i64 8),.va (.str s)] F [] 1 (readK F 8 s):=by
 have f:=gV F s 0 0 64 l (by unfold i64;omega)
 have j:readS 8 s=if aX s 0 0 64=true/\aX s (getI s 0).2.1 0 64=true/\(getI s (getI s 0).2.1).2.1=s.length then some ⟨false,[],(getI s 0).1,(getI s (getI s 0).2.1).1,[]⟩else none:=by
  rw[readS,if_neg oo,if_neg e,if_pos rfl]
 refine ctS func129 ?_;refine usePs (fH 8 1 8 F) ?_;refine useFt (dC F true) ?_;rintro _ _ p ⟨rfl,⟨hb,rfl⟩ | ⟨hb,rfl⟩⟩
 ·refine br (fun g=>absurd (by simpa using g) e) (fun _=>?_);refine bre dd ?_;refine useS f [(1,3)] ⟨cD _ _,tv⟩ ⟨rfl,tv⟩ ?_;rintro i m n n0 k ⟨rfl,rfl,a⟩;by_cases d:aX s 0 0 64=true
  ·rw[if_pos d]at a;obtain⟨rfl,rfl⟩:=a;have o:=e8 (gU d);refine useS (gV F s (getI s 0).2.1 0 64 l ⟨by omega,by omega⟩) [(1,3)] ⟨cD _ _,tv⟩ ⟨rfl,tv⟩ ?_;rintro i m n n0 k ⟨rfl,rfl,a⟩;by_cases b:aX s (getI s 0).2.1 0 64=true
   ·rw[if_pos b]at a;obtain⟨rfl,rfl⟩:=a;refine useFt (dC F (decide ((getI s (getI s 0).2.1).2.1=(s.length:Int)))) ?_;rintro _ _ q ⟨rfl,⟨c,rfl⟩ | ⟨c,rfl⟩⟩
    ·exact mO (by rw[j,if_pos ⟨d,b,od c⟩]) rfl rfl
    ·exact eY (by rw[j,if_neg (fun h=>oe c h.2.2)]) rfl
   ·rw[if_neg b]at a;obtain⟨rfl,rfl⟩:=a;exact eY (by rw[j,if_neg (fun h=>b h.2.1)]) rfl
  ·rw[if_neg d]at a;obtain⟨rfl,rfl⟩:=a;exact eY (by rw[j,if_neg (fun h=>d h.1)]) rfl
 ·cases hb
theorem CT(W:TFun)(F:Fz)(s:List UInt8)(p:Int)(hp:p=6\/p=7)(Q:s.length<=1000000000000000000)(G:¬s=[]):Ct prog 129 [.va (.int .i64 p),.va (.str s)] F [] 1 (readK F p s):=by
 have l:=gV F s 0 0 32 Q (by unfold i64;omega);obtain⟨w,R⟩:∃w,(getI s 0).1=w:=⟨_,rfl⟩
 obtain⟨q,O⟩:∃q,(getI s 0).2.1=q:=⟨_,rfl⟩
 obtain⟨h,hh⟩:∃h,(getI s q).1=h:=⟨_,rfl⟩
 obtain⟨c,A⟩:∃c,(getI s q).2.1=c:=⟨_,rfl⟩
 have i:readS p s=if aX s 0 0 32=true/\aX s q (min w 1) (min w 1*32)=true then
   if p=7 then
    if(getS s c).2.2=0/\((getS s c).1.length:Int)=w*h/\(getS s c).1.all (fun b=>b==48||b==49)=true/\(getS s c).2.1=s.length then some ⟨false,[],w,h,(getS s c).1⟩else none
   else if c=s.length then some ⟨false,[],w,h,[]⟩else none
  else none:=by
  rw[readS,if_neg oo,if_neg G,if_neg oo,if_pos oo];simp only[R,O,hh,A]
 rw[R,O]at l;have m:=fun(k:aX s 0 0 32=true)=>e8 (gU k)
 rw[O]at m
 have J:aX s 0 0 32=true->0<=w/\w<=32:=fun k=>by
  simp only[aX,qd,decide_eq_true_eq,R]at k;exact k.2
 refine ctS func129 ?_;refine usePs (fH p 1 8 F) ?_;refine useFt (dC F (decide (1<=p)&&decide (p<=8))) ?_;rintro _ _ l1 ⟨rfl,⟨hb,rfl⟩ | ⟨hb,rfl⟩⟩
 ·refine br (fun g=>absurd (by simpa using g) G) (fun _=>?_);refine br (fun g=>absurd (od g) oo) (fun _=>?_);refine br (fun _=>?_) (fun g=>absurd (oe g) oo);refine useS l [(1,3)] ⟨cD _ _,tv⟩ ⟨rfl,tv⟩ ?_;rintro o S B n0 E ⟨rfl,rfl,a⟩;by_cases k:aX s 0 0 32=true
  ·rw[if_pos k]at a;obtain⟨rfl,rfl⟩:=a;have Y:=m k;have Z:=J k;have T:(if 1 < w then 1 else w)=min w 1:=by split<;>omega
   have e2:IntKind.i64.wrap ((if 1 < w then 1 else w)*32)=min w 1*32:=by rw[T,aF oo oo]
   have y:=gV F s q (if 1 < w then 1 else w) (IntKind.i64.wrap ((if 1 < w then 1 else w)*32)) Q ⟨by omega,by omega⟩;refine useS y [(1,3)] ⟨cD _ _,tv⟩ ⟨rfl,tv⟩ ?_;rintro o S B n0 E ⟨rfl,rfl,a⟩;rw[T,aF (n:=min w 1*32) oo oo,hh,A]at a;by_cases f:aX s q (min w 1) (min w 1*32)=true
   ·rw[if_pos f]at a;obtain⟨rfl,rfl⟩:=a;have I:=e8 (gU f);rw[A]at I
    have X:min w 1<=h/\h<=min w 1*32:=by
     simp only[aX,qd,decide_eq_true_eq,hh]at f;exact f.2
    rw[if_pos ⟨k,f⟩]at i
    have aa:0<=w*h/\w*h<=1024:=by
     refine⟨qcg oo oo,?_⟩;have:w*h<=32*32:=qbb oo oo oo oo;omega
    refine br (fun M=>?_) (fun M=>?_)
    ·have u:p=7:=od M;rw[if_pos u]at i;refine useS (yA F s c Q ⟨by omega,by omega⟩) [(1,3)] ⟨cD _ _,tv⟩ ⟨rfl,tv⟩ ?_;rintro o S B n0 E ⟨rfl,rfl,a⟩;by_cases K:(getS s c).2.2=0
     ·rw[if_pos K]at a;obtain⟨rfl,rfl⟩:=a;have U:IntKind.i64.wrap (w*h)=w*h:=aF oo oo;refine⟨fun D=>?_,fun D=>?_⟩
      ·have x:((getS s c).1.length:Int)=w*h:=by
        have B:=od D;rw[<-U];exact B
       clear D;refine useFs (W F (getS s c).1 oo) ?_;rintro _ _ L ⟨rfl,r,rfl,V⟩;refine useFt (dC F (r==[])) ?_;rintro _ _ L ⟨rfl,⟨d,rfl⟩ | ⟨d,rfl⟩⟩
       ·have j:=V.1 (by simpa using d);refine useFt (dC F (decide ((getS s c).2.1=(s.length:Int)))) ?_;rintro _ _ L ⟨rfl,⟨e,rfl⟩ | ⟨e,rfl⟩⟩
        ·exact mO (by rw[i,if_pos ⟨K,x,j,od e⟩]) rfl rfl
        ·exact eY (by rw[i,if_neg (fun h=>oe e h.2.2.2)]) rfl
       ·have j:¬(getS s c).1.all (fun b=>b==48||b==49)=true:=fun h=>by
         rw[V.2 h]at d;cases d
        exact eY (by rw[i,if_neg (fun h=>j h.2.2.1)]) rfl
      ·have x:¬((getS s c).1.length:Int)=w*h:=by
        have B:=oe D;rw[<-U];exact B
       clear D;refine useFt (dC F false) ?_;rintro _ _ L ⟨rfl,⟨d,rfl⟩ | ⟨d,rfl⟩⟩
       ·cases d
       ·exact eY (by rw[i,if_neg (fun h=>x h.2.1)]) rfl
     ·rw[if_neg K]at a;obtain⟨rfl,rfl⟩:=a;exact eY (by rw[i,if_neg (fun h=>K h.1)]) rfl
    ·have u:¬p=7:=oe M;rw[if_neg u]at i;refine useFt (dC F (decide (c=(s.length:Int)))) ?_;rintro _ _ L ⟨rfl,⟨e,rfl⟩ | ⟨e,rfl⟩⟩
     ·exact mO (by rw[i,if_pos (od e)]) rfl rfl
     ·exact eY (by rw[i,if_neg (oe e)]) rfl
   ·rw[if_neg f]at a;obtain⟨rfl,rfl⟩:=a;exact eY (by rw[i,if_neg (fun h=>f h.2)]) rfl
  ·rw[if_neg k]at a;obtain⟨rfl,rfl⟩:=a;exact eY (by rw[i,if_neg (fun h=>k h.1)]) rfl
 ·exfalso;have:¬(1<=p/\p<=8):=fun h=>by simp[h]at hb
  omega
theorem yeh(b:CFun)(f:TFun)(F:Fz)(s:List UInt8)(p:Int)(c:s.length<=1000000000000000000):Ct prog 129 [.va (.int .i64 p),.va (.str s)] F [] 1 (readK F p s):=by
 by_cases d:1<=p/\p<=8
 ·by_cases a:s=[]
  ·subst a;exact C9 F p d
  ·by_cases e:p=8
   ·subst e;exact Dg F s c a
   ·by_cases g:6<=p
    ·exact CT f F s p oo c a
    ·exact Da b F s p c oo a
 ·exact Ew F s p d
def PFun:Prop:=∀(F:Fz) (n:Int),Fo prog F 78 [.va (.int .i64 n)] (fun o a=>o=.ret (.tup [.va (.str (putIR n).1),.va (.int .i64 (putIR n).2)])/\a=F)
theorem lh(f:PFun)(F:Fz)(s:List UInt8)(i:s.length<=9000000000000000000):Fo prog F 79 [.va (.str s)] (fun o b=>o=.ret (.tup [.va (.str (putSR s).1),.va (.int .i64 (putSR s).2)])/\b=F):=by
 refine foS func79 ?_;refine br (fun g=>?_) (fun g=>?_)
 ·have a:65536 < s.length:=by have e:(65536:Int) < s.length:=(by simpa using g);omega
  exact endFs (.ret (.tup [.va (.str []),.va (.int .i64 10)])) (Fz.r F) ⟨by rw[putSR,if_pos a],rfl⟩
 ·have a:¬65536 < s.length:=by have e:¬(65536:Int) < s.length:=(by simpa using g);omega
  have c:putIR s.length=(putI s.length,0):=by rw[putIR,if_neg oo]
  have d:putSR s=(putI s.length++s,0):=by rw[putSR,if_neg a]
  refine usePs (f F s.length) ?_;conv=>whnf
  have h:=dO s.length;refine⟨by omega,?_⟩;exact endFs (.ret (.tup [.va (.str ((putIR s.length).1++s)),.va (.int .i64 0)])) (Fz.r F) ⟨by rw[d,c],rfl⟩
def outC(_ j c:Nat)(l:List UInt8):Ent:=.one (.cells 81 [gA 1 j c l])
theorem c9{n:Nat}(h:j < n)(i c:Nat)(l:List UInt8):(outC i j c l).below n:=by
 intro a b;simp only[qi,qp,or_false]at b;subst b;cases l with
 |nil=>trivial
 |cons x r=>exact .inr h
abbrev outN(c:Nat)(l:List UInt8):List (Nat×Ent):=[(1,outC 1 3 c l),(2,.gone),(3,gE 5 1 encB c l)]
theorem lE(c:Nat)(l:List UInt8):bH 4 (outN c l):=⟨c9 oo _ _ _,tv,aC aA _ _ _ _ _,tv⟩
theorem mo{j':Nat}(h:μ j 0=(j',0))(i c:Nat)(l:List UInt8):(outC i j c l).ren μ=outC i j' c l:=by
 show Ent.one (.cells _ [(gA 1 j c l).ren μ])=_;rw[nz h];rfl
theorem km{j':Nat}(h:μ j 0=(j',0)){i':Nat}{l:List UInt8}:subE (some (outC i' j' c l)) ((outC i j c l).ren μ):=by rw[mo h];exact rfl
theorem ml{j':Nat}(h:μ j 0=(j',0)){n:Nat}{x:UInt8}{l:List UInt8}(a:n=l.length+1):subE (some (.one (.cells 81 [.slice false j' 0 0 1 n c]))) ((outC i j c (x::l)).ren μ):=by
 subst a;rw[mo h];exact rfl
abbrev outH(c:Nat)(l:List UInt8):List (Nat×Ent):=[(1,outC 1 2 c l),(2,gE 5 1 encB c l)]
theorem qU(k:PFun)(F:Fz)(s out:List UInt8)(c:Nat)(l:s.length<=9000000000000000000)(f:out.length<=1000000000000):
  Ct prog 197 [.va (.str s),.va (.ptr ⟨1,0,0,0,0⟩)] F (outH c out) 3
   (fun o g h n0=>F=g/\n0=4/\o=.ret (.tup [])/\∃c',h=outN c' (out++(putSR s).1)):=by
 have a:=lh k F s l;have e:=eH s;obtain⟨t,m⟩:∃t,(putSR s).1=t:=⟨_,rfl⟩
 rw[m]at a e ⊢;rcases out with _ | ⟨x,r⟩
 ·rcases t with _ | ⟨b,t⟩
  ·refine ctS func197 ?_;refine usePs (a) ?_;refine⟨rfl,rfl,?_⟩;exact clean [(3,2)] (.ret (.tup [])) F (outN c []) 4 ⟨Fz.r F,rfl,rfl,rfl,c,rfl⟩ trivial rfl rfl (Out.bB_ok (o:=.ret (.tup [])) rfl) (lE _ _) ⟨Fz.r F,rfl,aH aA (aV _ _ _ _),tv⟩
  ·refine ctS func197 ?_;refine usePs (a) ?_;refine⟨rfl,rfl,by show((t.map fun b:UInt8=>[SA.int .u8 b.toNat]).length+1)*1<=140737488355328;rw[qa];simp at e;omega,fun c' d=>?_⟩;clear d;exact clean [(3,3)] (.ret (.tup [])) F (outN c' (b::t)) 4 ⟨Fz.r F,rfl,rfl,rfl,c',rfl⟩ trivial rfl rfl (Out.bB_ok (o:=.ret (.tup [])) rfl) (lE _ _) ⟨Fz.r F,ml (i:=1) (j:=3) (j':=3) (by rfl) ss,aH aA (bC _ (by rfl)),tv⟩
 ·replace f:r.length+1<=1000000000000:=f;refine ctS func197 ?_;refine usePs (a) ?_;refine⟨rfl,rfl,by simp,rfl,by rw[qa];show(r.length+1+t.length)*1<=140737488355328;omega,fun c' d=>?_⟩;clear d;exact clean [(3,3)] (.ret (.tup [])) F (outN c' (x::(r++t))) 4 ⟨Fz.r F,rfl,rfl,rfl,c',rfl⟩ trivial rfl rfl (Out.bB_ok (o:=.ret (.tup [])) rfl) (lE _ _) ⟨Fz.r F,ml (i:=1) (j:=3) (j':=3) (by rfl) (by rw[qa,qb];omega),aH aA (bC _ (by show((x::r).map encB)++(t.map encB)=(x::(r++t)).map encB;simp)),tv⟩
theorem il(L:PFun)(F:Fz)(G:SA)(l:List Int)(out:List UInt8)(c:Nat)(M:eb F G l)(W:l.length < 1000000)(Y:out.length<=1000000000000):
  Ct prog 196 [.va G,.va (.ptr ⟨1,0,0,0,0⟩)] F (outH c out) 3
   (fun o I J n0=>F=I/\n0=4/\o=.ret (.tup [])/\∃c',J=outN c' (out++aB l)):=by
 obtain⟨U,R,T,S,Q,V,rfl,d,m,O,p⟩:=M;refine ctS func196 ?_;conv=>whnf
 refine aI hΘ (X:={ x:Nat×List UInt8×Nat // x.1<=l.length/\x.2.1=out++((l.take x.1).map fun n=>(putIR n).1).flatten }) (fun x=>[(9,.va (.int .i64 x.1.1))]) (4::5::6::jr 10 12 [])
  (fun x=>[(0,.frz F),(1,outC 1 3 x.1.2.2 x.1.2.1),(2,.gone),(3,gE 5 1 encB x.1.2.2 x.1.2.1)]) 4 (fun x=>l.length - x.1.1) ⟨(0,out,c),by simp⟩
  (fun q s=>leI [(3,2)] q s rfl ⟨tv,c9 oo _ _ _,tv,aC aA _ _ _ _ _,tv⟩ ⟨rfl,tv⟩ ⟨Fz.r F,km (i:=1) (i':=1) (j:=3) (j':=2) (by rfl),aH aA (aV _ _ _ _),tv⟩) ?_
 rintro⟨⟨k,ob,B⟩,E,e⟩ q s;replace E:k<=l.length:=E;replace e:ob=out++((l.take k).map fun n=>(putIR n).1).flatten:=e
 have h:ob.length<=1000009000000:=by
  have K:=fJ dO (l.take k);rw[qn]at K;rw[e,qb];omega
 refine br (fun y=>?_) (fun y=>?_)
 ·have a:k < l.length:=by simpa using y
  clear y;have g:=L F l[k];have A:∃t,(putIR l[k]).1=t:=⟨_,rfl⟩
  obtain⟨t,A⟩:=A;have w:=dO l[k];have f:ob++t=out++((l.take (k+1)).map fun n=>(putIR n).1).flatten:=by rw[eX a,A,e,ql]
  rw[A]at g w;rcases ob with _ | ⟨x,r⟩
  ·rcases t with _ | ⟨b,t⟩
   ·refine⟨Sl.lt d a,⟨by simp,by simpa using a⟩,_,m (Sl.lt d a),_,Sl.at p a,?_⟩;refine usePs (g) ?_;refine⟨rfl,rfl,?_⟩;exact⟨⟨(k+1,[],B),by show k+1<=l.length;omega,f⟩,by show l.length - (k+1) < l.length - k;omega,leR [(3,3)] q s rfl ⟨tv,c9 oo _ _ _,tv,aC aA _ _ _ _ _,tv⟩ ⟨cnt oo,tv⟩ ⟨Fz.r F,rfl,aH aA (aV _ _ _ _),tv⟩⟩
   ·refine⟨Sl.lt d a,⟨by simp,by simpa using a⟩,_,m (Sl.lt d a),_,Sl.at p a,?_⟩;refine usePs (g) ?_;refine⟨rfl,rfl,by show((t.map fun b:UInt8=>[SA.int .u8 b.toNat]).length+1)*1<=140737488355328;rw[qa];simp at w;omega,fun c' D=>?_⟩;clear D;exact⟨⟨(k+1,b::t,c'),by show k+1<=l.length;omega,f⟩,by show l.length - (k+1) < l.length - k;omega,leR [(3,4)] q s rfl ⟨tv,c9 oo _ _ _,tv,aC aA _ _ _ _ _,tv⟩ ⟨cnt oo,tv⟩ ⟨Fz.r F,ml (i:=1) (j:=3) (j':=4) (by rfl) ss,aH aA (bC _ (by rfl)),tv⟩⟩
  ·replace h:r.length+1<=1000009000000:=h;refine⟨Sl.lt d a,⟨by simp,by simpa using a⟩,_,m (Sl.lt d a),_,Sl.at p a,?_⟩;refine usePs (g) ?_;refine⟨rfl,rfl,by simp,rfl,by rw[qa];show(r.length+1+t.length)*1<=140737488355328;omega,fun c' D=>?_⟩;clear D;exact⟨⟨(k+1,x::(r++t),c'),by show k+1<=l.length;omega,f⟩,by show l.length - (k+1) < l.length - k;omega,leR [(3,4)] q s rfl ⟨tv,c9 oo _ _ _,tv,aC aA _ _ _ _ _,tv⟩ ⟨cnt oo,tv⟩ ⟨Fz.r F,ml (i:=1) (j:=3) (j':=4) (by rfl) (by rw[qa,qb];omega),aH aA (bC _ (by show((x::r).map encB)++(t.map encB)=(x::(r++t)).map encB;simp)),tv⟩⟩
 ·have a:¬k < l.length:=by simpa using y
  have u:ob=out++aB l:=by rw[e,aB,qk oo]
  exact clean [(3,3)] (.ret (.tup [])) F (outN B ob) 4 ⟨Fz.r F,rfl,rfl,rfl,B,by rw[u]⟩ trivial rfl rfl (Out.bB_ok (o:=.ret (.tup [])) rfl) (lE _ _) ⟨Fz.r F,km (i:=1) (i':=1) (j:=3) (j':=3) (by rfl),aH aA (aV _ _ _ _),tv⟩
def lineW(p:Int)(x:Ln):List UInt8:=(if p=1 then(putSR x.1).1 else [])++aB x.2
def bE(p:Int)(v:Val):List UInt8:=
 if v.lost=true then []else
 if 6<=p then aB [v.w,v.h]++(if p=7 then(putSR v.bits).1 else [])else
 aB [(v.lines.length:Int)]++(v.lines.map (lineW p)).flatten
theorem dt(l:List Int):(aB l).length<=9*l.length:=fJ dO l
abbrev valH(v:Val)(c:Nat)(caps:Nat->Nat):List (Nat×Ent):=[(1,bF 2 caps c v.lines),(2,famE caps v.lines)]
theorem er{B B':Nat}{l:List Ln}(h:∀k,μ B k=(B',k)):subE (some (bF B' caps c l)) ((bF B caps c l).ren μ):=
 ⟨rfl,congrArg (fun L=>SB.arr 259 2 L c) (ix (m:=l.length) (fun k _=>⟨h k,rfl⟩) 0 l oo).symm⟩
theorem sN(v:Val)(c:Nat)(caps:Nat->Nat):bH 3 (valH v c caps):=⟨cV oo _ _ _,cW _ _ _,tv⟩
theorem convR(μ:Mu)(l:List UInt8)(n:Nat)(a:n=l.length):(((l.map encB).map (List.map (SA.ren μ))).drop 0).take n=l.map encB:=by
 subst a;have h:(l.map encB).map (List.map (SA.ren μ))=l.map encB:=by rw[q8];exact qy fun x _=>rfl
 rw[h,y5,qk ss]
theorem cH{α:Type}{e:α->List SA}(a:Plain e){t sz:Nat}{τ:Mu}{l:List α}:subE (some ((gE t sz e c l).ren τ)) ((gE t sz e c l).ren μ):=by rw[kQ a,kQ a];exact aV _ _ _ _
theorem e7{F1:Fz}{v:Val}{t:List UInt8}{h:Hp}{nx:Nat}(f:t=bE p v)(b:Fz.le F F1)(a:lget h 0=some (.frz F1))(h1:lget h 1=some (bF 2 caps c v.lines))(e:lget h 2=some (famE caps v.lines)):
  Cln 3 (fun o d a n0=>Fz.le F d/\(n0=3/\o=.ret (.va (.str (bE p v)))/\a=valH v c caps)) (.ret (.va (.str t))) h nx:=
 clean [] (.ret (.va (.str t))) F1 (valH v c caps) 3 ⟨b,rfl,by rw[f],rfl⟩ rfl rfl rfl trivial (sN _ _ _)
  ⟨by show subE (lget h 0) (.frz F1);rw[a];exact Fz.r F1,by show subE (lget h 1) ((bF 2 caps c v.lines).ren (sig []));rw[h1];exact er (fun k=>rfl),by show subE (lget h 2) ((famE caps v.lines).ren (sig []));rw[e];exact dX,tv⟩
theorem Dr(F:Fz)(v:Val)(c:Nat)(caps:Nat->Nat)(p:Int)(b:v.lost=true):
  Ct prog 131 [valV v 1 c,.va (.int .i64 p)] F (valH v c caps) 3 (fun o _ e n0=>n0=3/\o=.ret (.va (.str (bE p v)))/\e=valH v c caps):=by
 obtain⟨a,d,w,h,bits⟩:=v;replace b:a=true:=b;subst b;refine ctS func131 ?_;exact e7 (by rw[bE,if_pos rfl]) (Fz.r F) rfl rfl rfl
theorem CR(M:PFun)(F:Fz)(v:Val)(c:Nat)(caps:Nat->Nat)(p:Int)(Q:v.lost=false)(S:p=6\/p=7\/p=8)(hb:v.bits.length<=70000):
  Ct prog 131 [valV v 1 c,.va (.int .i64 p)] F (valH v c caps) 3 (fun o _ j n0=>n0=3/\o=.ret (.va (.str (bE p v)))/\j=valH v c caps):=by
 obtain⟨J,e,w,h,bits⟩:=v;replace Q:J=false:=Q;subst Q;replace hb:bits.length<=70000:=hb;have E:bE p ⟨false,e,w,h,bits⟩=aB [w,h]++(if p=7 then(putSR bits).1 else []):=by rw[bE,if_neg ss,if_pos oo]
 obtain⟨K,i⟩:∃K,[]++aB [w,h]=K:=⟨_,rfl⟩
 have I:K.length<=100:=by rw[<-i];have:=dt [w,h];simp at this ⊢;omega
 refine ctS func131 ?_;refine br (fun _=>?_) (fun g=>absurd (oe g) oo);refine bM 5 (fun _=>.arr 3 1 ([w,h].map encI) 2) ?_;intro R F1 G O;have s:=il M F1 _ [w,h] [] 0 (Sl.new (l:=[w,h]) (cap:=2) (O 0 rfl)) ss ss;rw[i]at s;have B:∃A,K++(putSR bits).1=A:=⟨_,rfl⟩
 rcases K with _ | ⟨x,r⟩
 ·skip
  refine useS s [(1,4),(2,5)] ⟨c9 oo _ _ _,aC aA _ _ _ _ _,tv⟩ ⟨rfl,rfl,tv⟩ ?_;rintro b u j n0 m ⟨rfl,rfl,rfl,f,rfl⟩;refine br (fun D=>?_) (fun D=>?_)
  ·have d:p=7:=od D;obtain⟨A,n⟩:=B;have k:A=bE p ⟨false,e,w,h,bits⟩:=by rw[E,if_pos d,<-qw (aB [w,h]),i];exact n.symm
   have a:∀f,Ct prog 197 [.va (.str bits),.va (.ptr ⟨1,0,0,0,0⟩)] F1 (outH f []) 3 (fun o u j n0=>F1=u/\n0=4/\o=.ret (.tup [])/\∃c',j=outN c' A):=fun f=>by
    have:=qU M F1 bits [] f oo (jm I oo);rw[n]at this;exact this
   conv=>whnf
   rcases A with _ | ⟨y,q⟩
   ·refine useS (a f) [(1,4),(2,6)] ⟨c9 oo _ _ _,aC aA _ _ _ _ _,tv⟩ ⟨rfl,cH aA,tv⟩ ?_;rintro b u j n0 m ⟨rfl,rfl,rfl,L,rfl⟩;exact e7 k G rfl rfl rfl
   ·refine useS (a f) [(1,4),(2,6)] ⟨c9 oo _ _ _,aC aA _ _ _ _ _,tv⟩ ⟨rfl,cH aA,tv⟩ ?_;rintro b u j n0 m ⟨rfl,rfl,rfl,L,rfl⟩;refine⟨rfl,by simp,(y::q).map encB,convR _ (y::q) _ rfl,y::q,rfl,?_⟩;exact e7 k G rfl rfl rfl
  ·have d:¬p=7:=oe D;rw[if_neg d,qx]at E;exact e7 (by rw[E];exact i.symm) G rfl rfl rfl
 ·skip
  refine useS s [(1,4),(2,5)] ⟨c9 oo _ _ _,aC aA _ _ _ _ _,tv⟩ ⟨rfl,rfl,tv⟩ ?_;rintro b u j n0 m ⟨rfl,rfl,rfl,f,rfl⟩;refine br (fun D=>?_) (fun D=>?_)
  ·have d:p=7:=od D;obtain⟨A,n⟩:=B;have k:A=bE p ⟨false,e,w,h,bits⟩:=by rw[E,if_pos d,<-qw (aB [w,h]),i];exact n.symm
   have a:∀f,Ct prog 197 [.va (.str bits),.va (.ptr ⟨1,0,0,0,0⟩)] F1 (outH f (x::r)) 3 (fun o u j n0=>F1=u/\n0=4/\o=.ret (.tup [])/\∃c',j=outN c' A):=fun f=>by
    have:=qU M F1 bits (x::r) f oo (jm I oo);rw[n]at this;exact this
   conv=>whnf
   rcases A with _ | ⟨y,q⟩
   ·refine useS (a f) [(1,4),(2,6)] ⟨c9 oo _ _ _,aC aA _ _ _ _ _,tv⟩ ⟨rfl,cH aA,tv⟩ ?_;rintro b u j n0 m ⟨rfl,rfl,rfl,L,rfl⟩;exact e7 k G rfl rfl rfl
   ·refine useS (a f) [(1,4),(2,6)] ⟨c9 oo _ _ _,aC aA _ _ _ _ _,tv⟩ ⟨rfl,cH aA,tv⟩ ?_;rintro b u j n0 m ⟨rfl,rfl,rfl,L,rfl⟩;refine⟨rfl,by simp,(y::q).map encB,convR _ (y::q) _ rfl,y::q,rfl,?_⟩;exact e7 k G rfl rfl rfl
  ·have d:¬p=7:=oe D;rw[if_neg d,qx]at E;refine⟨rfl,by simp,(x::r).map encB,convR _ (x::r) _ rfl,x::r,rfl,?_⟩;exact e7 (by rw[E];exact i.symm) G rfl rfl rfl
