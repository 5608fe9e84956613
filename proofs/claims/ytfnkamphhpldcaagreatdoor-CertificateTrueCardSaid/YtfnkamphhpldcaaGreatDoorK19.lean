import Derived.Test.YtfnkamphhpldcaaGreatDoorK18
set_option maxHeartbeats 64000000
namespace Go.Proofs.YtfnkamphhpldcaaGreatDoor
open Go Sx
set_option maxRecDepth 100000
structure Val where
 lost:Bool
 lines:List Ln
 w:Int
 h:Int
 bits:List UInt8
def zcp(s:List UInt8)(p:Int):Nat->List Ln->Int->Option (List Ln×Int)
 |0,acc,q=>some (acc,q)
 |f+1,acc,q=>match lineS s p acc q with
  |none=>none
  |some (x,q')=>zcp s p f (acc++[x]) q'
def readS(p:Int)(s:List UInt8):Option Val:=
 if ¬(1<=p/\p<=8)then none else
 if s=[]then some ⟨true,[],0,0,[]⟩else
 if p=8 then
  if zbd s 0 0 64=true/\zbd s (getI s 0).2.1 0 64=true/\(getI s (getI s 0).2.1).2.1=s.length then some ⟨false,[],(getI s 0).1,(getI s (getI s 0).2.1).1,[]⟩else none
 else if 6<=p then
  let w:=(getI s 0).1
  let q:=(getI s 0).2.1
  let h:=(getI s q).1
  let a:=(getI s q).2.1
  if zbd s 0 0 32=true/\zbd s q (min w 1) (min w 1*32)=true then
   if p=7 then
    if(getS s a).2.2=0/\((getS s a).1.length:Int)=w*h/\(getS s a).1.all (fun b=>b==48||b==49)=true/\(getS s a).2.1=s.length then some ⟨false,[],w,h,(getS s a).1⟩else none
   else if a=s.length then some ⟨false,[],w,h,[]⟩else none
  else none
 else
  if zbd s 0 0 64=true then match zcp s p (getI s 0).1.toNat [] (getI s 0).2.1 with
   |none=>none
   |some (l,q)=>if q=s.length then some ⟨false,l,0,0,[]⟩else none
  else none
def valV(v:Val)(i c:Nat):SV:=.agg [.lit v.lost,gA 2 i c v.lines,.int .i64 v.w,.int .i64 v.h,.str v.bits]
theorem zka{μ μ':Mu}{B:Nat}(h:∀k,μ B k=μ' B k)(caps:Nat->Nat):∀(j:Nat) (l:List Ln),(zb1 B caps j l).map (List.map (SA.ren μ))=(zb1 B caps j l).map (List.map (SA.ren μ'))
 |_,[]=>rfl
 |j,x::r=>by
  rw[zb1,jm,jm,zka h caps (j+1) r]
  congr 1
  simp only[jm,yu,zq1,h];rfl
theorem zvc{s:List UInt8}{p:Int}:∀(f:Nat) (acc:List Int) (q:Int) {n:List Int} {a:Int},numsS s p f acc q=some (n,a)->s.length<=1000000000000000000->i64 q->n.length=acc.length+f/\i64 a
 |0,acc,q,n,a,h,_,hq=>by simp[numsS]at h;obtain⟨rfl,rfl⟩:=h;exact⟨rfl,hq⟩
 |f+1,acc,q,n,a,h,hs,hq=>by
  rw[numsS]at h;split at h
  ·rename_i c;have d:=zfl (zfp c);obtain⟨h1,b⟩:=zvc f _ _ h hs ⟨by omega,by omega⟩;refine⟨by rw[h1,qd];simp;omega,b⟩
  ·cases h
theorem zzy{s:List UInt8}{q:Int}(h:(getS s q).2.2=0):0<=(getS s q).2.1/\(getS s q).2.1<=s.length:=by
 rw[getS]at h ⊢;split at h
 ·rename_i h1;exact absurd h h1
 ·rename_i h1;have b:=zfl (s:=s) (p:=q) (by simpa using h1);rw[if_neg h1];split at h
  ·simp at h
  ·rename_i a;rw[if_neg a];show 0<=(getI s q).2.1+(getI s q).1/\(getI s q).2.1+(getI s q).1<=s.length;omega
theorem zu7{s:List UInt8}{p q:Int}{a:List Ln}{x:Ln}{d:Int}(h:lineS s p a q=some (x,d))(j:s.length<=1000000000000000000)(i:i64 q)(o:1<=p/\p<=5):
  i64 d/\(p≠1/\p≠2->2<=x.2.length):=by
 rw[lineS]at h;split at h
 ·rename_i h1;split at h
  ·rename_i e;have:=zzy e.1;simp only[Option.some.injEq,Prod.mk.injEq]at h;obtain⟨rfl,rfl⟩:=h;exact⟨⟨by omega,by omega⟩,fun b=>absurd h1 b.1⟩
  ·cases h
 ·rename_i h1;split at h
  ·cases h
  ·rename_i n l g;obtain⟨b,f⟩:=zvc _ _ _ g j i
   have k:x=([],n)/\d=l:=by
    split at h
    ·simp only[Option.some.injEq,Prod.mk.injEq]at h;exact⟨h.1.symm,h.2.symm⟩
    ·split at h
     ·simp only[Option.some.injEq,Prod.mk.injEq]at h;exact⟨h.1.symm,h.2.symm⟩
     ·split at h
      ·simp only[Option.some.injEq,Prod.mk.injEq]at h;exact⟨h.1.symm,h.2.symm⟩
      ·cases h
   obtain⟨rfl,rfl⟩:=k;refine⟨f,fun m=>?_⟩;have c:p=3\/p=4\/p=5:=by omega
   have:3<=cols p:=by rcases c with rfl | rfl | rfl<;>decide
   show 2<=n.length;rw[b];simp;omega
def mfz(bf:Nat->Nat):Mu:=fun i k=>if i=5 then(0,bf k)else(i,k)
theorem zqp(bf caps:Nat->Nat):∀(j:Nat) (l:List Ln),∀y∈(zb1 5 caps j l).map (List.map (SA.ren (mfz bf))),∀a∈y,a.below 1
 |_,[],y,hy,_,_=>by simp[zb1]at hy
 |j,x::r,y,hy,a,ha=>by
  rw[zb1,jm]at hy;rcases qn.1 hy with rfl | hy
  ·simp only[jm,yu,qn,qy,or_false,zq1]at ha;rcases ha with rfl | rfl
   ·trivial
   ·cases x.2 with
    |nil=>trivial
    |cons _ _=>exact .inr (yt)
  ·exact zqp bf caps (j+1) r y hy a ha
structure R1(s:List UInt8)(p:Int)(m:Nat)(q1:Int)(acc:List Ln)(c:Nat)(caps:Nat->Nat)(q:Int):Prop where
 h1:acc.length<=m
 h2:i64 q
 h3:zcp s p m [] q1=zcp s p (m - acc.length) acc q
 h4:∀k x,acc[k]? =some x->x.2.length<=caps k
 h5:p≠1/\p≠2->∀x∈acc,2<=x.2.length
def accE(_ i c:Nat)(l:List Ln):Ent:=.one (.cells 201 [.lit false,gA 2 i c l,.int .i64 0,.int .i64 0,.str []])
theorem zjj{n i:Nat}(h:i < n)(B c:Nat)(l:List Ln):(accE B i c l).below n:=by
 intro a b;simp only[qn,qy,or_false]at b;rcases b with rfl | rfl | rfl | rfl | rfl
 ·trivial
 ·cases l with
  |nil=>trivial
  |cons x r=>exact .inr h
 all_goals trivial
theorem zya{μ:Mu}{j:Nat}(h:μ 4 0=(j,0))(c n:Nat)(l:List Ln)(x:Ln)(a:n=l.length+1):
  SB.cells 201 [.lit false,.slice false j 0 0 2 n c,.int .i64 0,.int .i64 0,.str []]=SB.ren μ (.cells 201 [.lit false,gA 2 4 c (l++[x]),.int .i64 0,.int .i64 0,.str []]):=by
 subst a;cases l with
 |nil=>simp only[gA,qv,SB.ren,jm,yu,SA.ren,h,qu]
 |cons y r=>simp only[gA,jt,SB.ren,jm,yu,SA.ren,h];simp
def gx(m:Nat):Nat->Nat×Nat:=fun k=>if k < m then(5,k)else(6,0)
def capx(m a:Nat)(caps:Nat->Nat):Nat->Nat:=fun k=>if k=m then a else caps k
theorem zqt{μ τ:Mu}{caps:Nat->Nat}{a:Nat}{acc:List Ln}(x:Ln)(h:∀k,μ 5 k=gx acc.length k)(c:τ 2 0=(6,0)):
  zb1 5 caps 0 acc++[[.str x.1,(gA 1 2 a x.2).ren τ]]=(zb1 5 (capx acc.length a caps) 0 (acc++[x])).map (List.map (SA.ren μ)):=by
 rw[znc,qs,zfe (B':=5) (caps':=caps) (m:=acc.length) (fun k b=>⟨by rw[h,gx,if_pos b],by rw[capx,if_neg (by omega)]⟩) 0 acc (by omega)]
 congr 1
 simp only[jm,yu,zq1,h,gx,capx,qx,Nat.lt_irrefl,if_false,if_true];cases x.2 with
 |nil=>rfl
 |cons y r=>simp only[gA,SA.ren,c]
theorem zzn{μ τ:Mu}{h1:Hp}{caps:Nat->Nat}{c:Nat}{acc:List Ln}(x:Ln)(n:lget h1 5=some (famE caps acc))(l:lget h1 6=some ((gE 3 1 encI c x.2).ren τ)):
  genE (gx acc.length) [5,6] h1 ((famE (capx acc.length c caps) (acc++[x])).ren μ):=by
 rw[zkl];rw[zg0 za1]at l
 have i:∀k,k < acc.length->((acc++[x]).map (·.2)).getD k []=(acc.map (·.2)).getD k []:=fun k b=>by
  rw[y4,y4,qs,js (by simpa using b)]
 have j:((acc++[x]).map (·.2)).getD acc.length []=x.2:=by
  rw[y4,qs,jx (by simp)];simp
 refine⟨fun k b m=>?_,fun k o b d _ _ e=>?_⟩
 ·by_cases f:k < acc.length
  ·have g:gx acc.length k=(5,k):=if_pos f;rw[g];refine⟨by simp,famE caps acc,n,rfl,⟨f,?_⟩,?_⟩
   ·have a:(!(((acc++[x]).map (·.2)).getD k []).isEmpty)=true:=m;rw[i k f]at a;exact a
   ·show SB.arr 3 1 (((acc.map (·.2)).getD k []).map encI) (caps k)=SB.arr 3 1 ((((acc++[x]).map (·.2)).getD k []).map encI) (capx acc.length c caps k);rw[i k f,capx,if_neg (by omega)]
  ·have h:k=acc.length:=by rw[qd]at b;simp at b;omega
   subst h;have g:gx acc.length acc.length=(6,0):=if_neg (by omega);rw[g];refine⟨by simp,gE 3 1 encI c x.2,l,rfl,⟨?_,rfl⟩,?_⟩
   ·have a:(!(((acc++[x]).map (·.2)).getD acc.length []).isEmpty)=true:=m;rw[j]at a;exact a
   ·show SB.arr 3 1 (x.2.map encI) c=SB.arr 3 1 ((((acc++[x]).map (·.2)).getD acc.length []).map encI) (capx acc.length c caps acc.length);rw[j,capx,if_pos rfl]
 ·rw[qd]at b d;simp at b d;unfold gx at e;split at e<;>split at e<;>simp at e<;>omega
theorem zt0{caps:Nat->Nat}{b:Nat}{acc:List Ln}{x:Ln}(h:∀k y,acc[k]? =some y->y.2.length<=caps k)(e:x.2.length<=b):∀k y,(acc++[x])[k]? =some y->y.2.length<=capx acc.length b caps k:=by
 intro k y a;unfold capx;by_cases c:k=acc.length
 ·subst c;rw[jx (by omega)]at a;simp at a;subst a;rw[if_pos rfl];exact e
 ·have d:k < (acc++[x]).length:=(ql.1 a).1;rw[qd]at d;simp at d;rw[js (by omega)]at a;rw[if_neg c];exact h k y a
theorem z3k{p:Int}{acc:List Ln}{x:Ln}(h:p≠1/\p≠2->∀y∈acc,2<=y.2.length)(b:p≠1/\p≠2->2<=x.2.length):p≠1/\p≠2->∀y∈acc++[x],2<=y.2.length:=by
 intro a y hy;rcases yk.1 hy with hy | hy
 ·exact h a y hy
 ·rw[qz.1 hy];exact b a
theorem zul{α:Type}{μ:Mu}{i j:Nat}(h:μ i 0=(j,0))(sz c:Nat)(l:List α):(gA sz i c l).ren μ=gA sz j c l:=by
 cases l with
 |nil=>rfl
 |cons x r=>simp only[gA,SA.ren,h]
theorem zwc{μ:Mu}{i j:Nat}(h:μ i 0=(j,0))(v:Val)(c:Nat):(valV v i c).ren μ=valV v j c:=by
 simp only[valV,SV.ren,jm,yu,zul h];rfl
theorem znw{n i:Nat}(h:i < n)(v:Val)(c:Nat):(valV v i c).below n:=by
 intro a b;simp only[qn,qy,or_false]at b;rcases b with rfl | rfl | rfl | rfl | rfl
 ·trivial
 ·cases v.lines with
  |nil=>trivial
  |cons x r=>exact .inr h
 all_goals trivial
theorem zw0{μ:Mu}{caps:Nat->Nat}{c:Nat}{l:List Ln}(h:∀k,μ 2 k=(5,k)):subE (some (zbq 5 caps c l)) ((zbq 2 caps c l).ren μ):=
 ⟨rfl,congrArg (fun L=>SB.arr 259 2 L c) (zfe (m:=l.length) (fun k _=>⟨h k,rfl⟩) 0 l (by omega)).symm⟩
theorem zb8{μ:Mu}{caps:Nat->Nat}{l:List Ln}:subE (some (famE caps l)) ((famE caps l).ren μ):=by
 rw[zkl];cases l with
 |nil=>trivial
 |cons x r=>exact⟨rfl,rfl,rfl⟩
def readK(F:Fz)(p:Int)(s:List UInt8):Out->Fz->List (Nat×Ent)->Nat->Prop:=fun o b a n0=>F=b/\match readS p s with
 |some v=>∃c caps,n0=3/\o=.ret (valV v 1 c)/\a=[(1,zbq 2 caps c v.lines),(2,famE caps v.lines)]
 |none=>n0=1/\o=.panic perr/\a=[]
theorem znn{F:Fz}{p:Int}{s:List UInt8}{v:Val}{c:Nat}{caps:Nat->Nat}(h:readS p s=some v):readK F p s (.ret (valV v 1 c)) F [(1,zbq 2 caps c v.lines),(2,famE caps v.lines)] 3:=
 ⟨rfl,by rw[h];exact⟨c,caps,rfl,rfl,rfl⟩⟩
theorem zgf{F:Fz}{p:Int}{s:List UInt8}(h:readS p s=none):readK F p s (.panic perr) F [] 1:=⟨rfl,by rw[h];exact⟨rfl,rfl,rfl⟩⟩
theorem zdk{F:Fz}{p:Int}{s:List UInt8}{h:Hp}{nx:Nat}(c:readS p s=none)(a:lget h 0=some (.frz F)):Cln 1 (fun o b a n0=>Fz.le F b/\readK F p s o b a n0) (.panic perr) h nx:=
 clean [] (.panic perr) F [] 1 ⟨Fz.r F,zgf c⟩ rfl rfl rfl trivial trivial ⟨by show subE (lget h 0) (.frz F);rw[a];exact Fz.r F,tv⟩
theorem zo1{F:Fz}{p:Int}{s:List UInt8}{h:Hp}{nx:Nat}{l:Bool}{w hh:Int}{bits:List UInt8}(e:readS p s=some ⟨l,[],w,hh,bits⟩)(a:lget h 0=some (.frz F))(d:lget h 99=none):
  Cln 1 (fun o b a n0=>Fz.le F b/\readK F p s o b a n0) (.ret (.agg [.lit l,.nilsl,.int .i64 w,.int .i64 hh,.str bits])) h nx:=
 clean [(1,99),(2,100)] (.ret (valV ⟨l,[],w,hh,bits⟩ 1 0)) F [(1,zbq 2 (fun _=>0) 0 []),(2,famE (fun _=>0) [])] 3 ⟨Fz.r F,znn (c:=0) (caps:=fun _=>0) e⟩ rfl rfl rfl (znw (by omega) _ _) ⟨zaq (by omega) _ _ _,zau _ _ _,tv⟩
  ⟨by show subE (lget h 0) (.frz F);rw[a];exact Fz.r F,by show subE (lget h 99) (.opt false _);rw[d];rfl,tv,tv⟩
theorem z1o{p:Int}{s:List UInt8}(h:¬(1<=p/\p<=8)):readS p s=none:=by rw[readS,if_pos h]
theorem zs9{p:Int}(h:1<=p/\p<=8):readS p []=some ⟨true,[],0,0,[]⟩:=by rw[readS,if_neg (by omega),if_pos rfl]
theorem zw8(F:Fz)(s:List UInt8)(p:Int)(a:¬(1<=p/\p<=8)):Ct Tryz.prog 129 [.va (.int .i64 p),.va (.str s)] F [] 1 (readK F p s):=by
 refine ctS Tryz.func129 ?_;refine usePs (zeh p 1 8 F) ?_;refine useFt (zc3 F (decide (1<=p)&&decide (p<=8))) ?_;rintro _ _ b ⟨rfl,⟨hb,rfl⟩ | ⟨hb,rfl⟩⟩
 ·exact absurd (by simpa using hb) a
 ·exact zdk (z1o a) rfl
theorem zrj(F:Fz)(p:Int)(b:1<=p/\p<=8):Ct Tryz.prog 129 [.va (.int .i64 p),.va (.str [])] F [] 1 (readK F p []):=by
 refine ctS Tryz.func129 ?_;refine usePs (zeh p 1 8 F) ?_;refine useFt (zc3 F (decide (1<=p)&&decide (p<=8))) ?_;rintro _ _ c ⟨rfl,⟨hb,rfl⟩ | ⟨hb,rfl⟩⟩
 ·refine bre (by decide) ?_;refine useFt (zc3 F true) ?_;rintro _ _ d ⟨rfl,⟨a,rfl⟩ | ⟨a,rfl⟩⟩
  ·exact zo1 (zs9 b) rfl rfl
  ·cases a
 ·exfalso;have:¬(1<=p/\p<=8):=fun h=>by simp[h]at hb
  exact this b
theorem zrk(D:CFun)(F:Fz)(s:List UInt8)(p:Int)(V:s.length<=1000000000000000000)(u:1<=p/\p<=5)(I:¬s=[]):
  Ct Tryz.prog 129 [.va (.int .i64 p),.va (.str s)] F [] 1 (readK F p s):=by
 have U:=fun lo hi=>zfq F s 0 lo hi V (by unfold i64;omega)
 refine ctS Tryz.func129 ?_;refine usePs (zeh p 1 8 F) ?_;refine useFt (zc3 F (decide (1<=p)&&decide (p<=8))) ?_;rintro _ _ l1 ⟨rfl,⟨hb,rfl⟩ | ⟨hb,rfl⟩⟩
 ·have ah:1<=p/\p<=8:=by simpa using hb
  refine br (fun g=>?_) (fun g=>?_)
  ·exact absurd (by simpa using g) I
  ·clear g;refine br (fun g=>absurd (od g) (by omega)) (fun _=>?_);refine br (fun g=>absurd (od g) (by omega)) (fun _=>?_);refine useS (U 0 64) [(1,3)] ⟨za9 _ _,tv⟩ ⟨rfl,tv⟩ ?_;rintro y F0 J n0 T ⟨rfl,rfl,a⟩;by_cases G:zbd s 0 0 64=true
   ·rw[if_pos G]at a;obtain⟨ho,hh⟩:=a;subst ho;subst hh;have ag:=zfl (zfp G)
    have af:0<=(getI s 0).1/\(getI s 0).1<=64:=by
     simp only[zbd,qg,decide_eq_true_eq]at G;exact G.2
    have hm:∃m:Nat,(getI s 0).1=m/\m<=64:=⟨(getI s 0).1.toNat,by omega,by omega⟩
    obtain⟨m,em,ae⟩:=hm
    have o:readS p s=match zcp s p m [] (getI s 0).2.1 with
      |none=>none
      |some (l,q)=>if q=s.length then some ⟨false,l,0,0,[]⟩else none:=by
     rw[readS,if_neg (by omega),if_neg I,if_neg (by omega),if_neg (by omega),if_pos G,em];rfl
    have ac:i64 (getI s 0).2.1:=⟨by omega,by omega⟩
    conv=>whnf
    refine zak hΘ (X:={ x:List Ln×Nat×(Nat->Nat)×Int // R1 s p m (getI s 0).2.1 x.1 x.2.1 x.2.2.1 x.2.2.2 }) (fun x=>[(15,.va (.int .i64 x.1.1.length))]) (jr 16 12 [])
     (fun x=>[(0,.frz F),(2,accE 5 4 x.1.2.1 x.1.1),(3,rdr s x.1.2.2.2),(4,zbq 5 x.1.2.2.1 x.1.2.1 x.1.1),(5,famE x.1.2.2.1 x.1.1)]) 6 (fun x=>m - x.1.1.length) ⟨([],0,fun _=>0,(getI s 0).2.1),⟨by simp,ac,rfl,by simp,by simp⟩⟩
     (fun W Y=>leI [(4,4),(5,5)] W Y rfl ⟨tv,zjj (by omega) _ _ _,za9 s _,zaq (by omega) _ _ _,zau _ _ _,tv⟩ ⟨rfl,tv⟩ ⟨Fz.r F,rfl,rfl,rfl,tv,tv⟩) ?_
    rintro⟨⟨acc,c,caps,q⟩,h1,K,A,Q,R⟩ W Y;replace h1:acc.length<=m:=h1;replace K:i64 q:=K;replace A:zcp s p m [] (getI s 0).2.1=zcp s p (m - acc.length) acc q:=A;replace Q:∀k x,acc[k]? =some x->x.2.length<=caps k:=Q;replace R:p≠1/\p≠2->∀x∈acc,2<=x.2.length:=R;have ab:=zs2 D;refine br (fun M=>?_) (fun M=>?_)
    ·have O:acc.length < m:=by
      have J:(acc.length:Int) < (getI s 0).1:=od M;rw[em]at J;omega
     clear M;rcases acc with _ | ⟨e,b⟩
     ·refine dwS (lk [0,1,2,3,4,5] (.alt 6 (.alt 7 (.alt 8 (.look 9 (.last 10 .done)) .nil) .nil) .nil)) [2] ?_;conv=>whnf
      repeat' ((conv=>whnf);first
       |refine⟨rfl,?_⟩
       |refine⟨Fz.r _,rfl,?_⟩
       |refine⟨Fz.r _,rfl,rfl,?_⟩
       |refine⟨⟨by simp,by simp⟩,?_⟩
       |fail)
      refine useS (zs2 D F s p q (.slice true 0 0 0 2 0 0) [] ⟨true,0,0,0,[],0,rfl,fun _=>rfl,fun h=>(nomatch h),by simp,by simp⟩ V u K (by simp) (by simp)) [(1,3)] ⟨za9 _ _,tv⟩ ⟨rfl,tv⟩ ?_;rintro y F0 J n0 T ⟨rfl,a⟩
      have f:lineS s p [] q=none\/∃x w,lineS s p [] q=some (x,w):=by
       cases lineS s p [] q with
       |none=>exact .inl rfl
       |some z=>exact .inr ⟨z.1,z.2,rfl⟩
      have S:m - 0=(m - 1)+1:=by omega
      rcases f with f | ⟨x,w,f⟩
      ·rw[f]at a;obtain⟨q3,rfl,rfl,rfl⟩:=a;refine clean [] (.panic perr) F [] 1 ⟨Fz.r F,zgf ?_⟩ rfl rfl rfl trivial trivial ⟨Fz.r F,tv⟩;have d:zcp s p m [] (getI s 0).2.1=none:=by rw[A];show zcp s p (m - 0) [] q=none;rw[S,zcp,f]
       rw[o,d]
      ·rw[f]at a;obtain⟨cn,E,rfl,rfl,rfl⟩:=a;have n:=zu7 f V K u;refine⟨Fz.r F,rfl,Fz.r F,rfl,nb rfl,_,rfl,rfl,rfl,nb rfl,fun c' hc=>?_⟩;clear hc;refine⟨Fz.r F,rfl,?_⟩;conv=>whnf
       have d:zcp s p m [] (getI s 0).2.1=zcp s p (m - ([]++[x]).length) ([]++[x]) w:=by rw[A];show zcp s p (m - 0) [] q=_;rw[S,zcp,f];rfl
       exact⟨⟨([]++[x],c',capx 0 cn caps,w),⟨by show 1<=m;exact O,n.1,d,zt0 Q E,z3k R n.2⟩⟩,by show m - 1 < m - 0;omega,
        leR [(4,.to 8),(5,.fn (gx 0) [5,6])] W Y rfl ⟨tv,zjj (by omega) _ _ _,za9 s _,zaq (by omega) _ _ _,zau _ _ _,tv⟩ ⟨cnt (by omega),tv⟩
        ⟨Fz.r F,zya (μ:=sig [(4,.to 8),(5,.fn (gx 0) [5,6])]) (j:=8) rfl c' _ [] x rfl,rfl,congrArg (fun L=>SB.arr 259 2 L c') (zqt (μ:=sig [(4,.to 8),(5,.fn (gx 0) [5,6])]) (acc:=[]) x (fun k=>rfl) rfl),zzn (acc:=[]) x rfl rfl,tv⟩⟩
     ·replace h1:b.length+1<=m:=h1;replace O:b.length+1 < m:=O;refine dwS (lk [0,1,2,3,4,5] (.alt 6 (.alt 7 (.alt 8 (.look 9 (.last 10 .done)) .nil) .nil) .nil)) [2] ?_;conv=>whnf
      repeat' ((conv=>whnf);first
       |refine⟨rfl,?_⟩
       |refine⟨Fz.r _,rfl,?_⟩
       |refine⟨Fz.r _,rfl,rfl,?_⟩
       |refine⟨⟨by simp,by simp⟩,?_⟩
       |fail)
      refine lend 5 (fun k=>(famE caps (e::b)).at k) rfl rfl rfl (fun k _=>zcx _ _ _) (fun k _=>zb7 _ _ _) ?_;intro bf G1 ai aa;refine lend 4 (fun _=>.arr 259 2 ((zb1 5 caps 0 (e::b)).map (List.map (SA.ren (mfz bf)))) c) rfl rfl rfl (fun _ _=>congrArg (fun L=>SB.arr 259 2 L c) (zka (μ':=mfz bf) (B:=5) (by intro k;rfl) caps 0 (e::b))) (fun _ _=>zqp bf caps 0 (e::b)) ?_;intro b4 Z ad hb4;refine useS (zs2 D Z s p q _ (e::b) (yah (bf:=bf) (caps:=caps) (by simp) (hb4 0 ⟨rfl,rfl⟩) (fun k hk=>ad _ _ (aa k hk)) Q) V u K (by simp;omega) R) [(1,3)] ⟨za9 _ _,tv⟩ ⟨rfl,tv⟩ ?_;rintro y F0 J n0 T ⟨rfl,a⟩
      have f:lineS s p (e::b) q=none\/∃x w,lineS s p (e::b) q=some (x,w):=by
       cases lineS s p (e::b) q with
       |none=>exact .inl rfl
       |some z=>exact .inr ⟨z.1,z.2,rfl⟩
      have S:m - (b.length+1)=(m - (b.length+1+1))+1:=by omega
      rcases f with f | ⟨x,w,f⟩
      ·rw[f]at a;obtain⟨q3,rfl,rfl,rfl⟩:=a;refine⟨Z,rfl,Fz.r _,rfl,G1,rfl,Fz.r _,rfl,?_⟩;refine clean [] (.panic perr) F [] 1 ⟨Fz.r F,zgf ?_⟩ rfl rfl rfl trivial trivial ⟨Fz.r F,tv⟩;have d:zcp s p m [] (getI s 0).2.1=none:=by rw[A];show zcp s p (m - (b.length+1)) (e::b) q=none;rw[S,zcp,f]
       rw[o,d]
      ·rw[f]at a;obtain⟨cn,E,rfl,rfl,rfl⟩:=a;refine⟨Z,rfl,Fz.r _,rfl,G1,rfl,Fz.r _,rfl,?_⟩;have n:=zu7 f V K u;refine⟨Fz.r F,rfl,Fz.r F,rfl,nb rfl,_,rfl,rfl,rfl,(zjs 5 caps 0 (e::b)).symm,rfl,by show(b.length+1+1)*40<=140737488355328;omega,fun c' hc=>?_⟩;clear hc;refine⟨Fz.r F,rfl,?_⟩;conv=>whnf
       have d:zcp s p m [] (getI s 0).2.1=zcp s p (m - ((e::b)++[x]).length) ((e::b)++[x]) w:=by
        rw[A];show zcp s p (m - (b.length+1)) (e::b) q=_;rw[S,zcp,f,qd];rfl
       exact⟨⟨((e::b)++[x],c',capx (b.length+1) cn caps,w),⟨by rw[qd];exact O,n.1,d,zt0 Q E,z3k R n.2⟩⟩,by show m - ((e::b)++[x]).length < m - (b.length+1);rw[qd];simp;omega,
        leR [(4,.to 8),(5,.fn (gx (b.length+1)) [5,6])] W Y rfl ⟨tv,zjj (by omega) _ _ _,za9 s _,zaq (by omega) _ _ _,zau _ _ _,tv⟩ ⟨by show SA.int .i64 _=SA.int .i64 _;rw[qd];exact cnt (by simp;omega),tv⟩
        ⟨Fz.r F,zya (μ:=sig [(4,.to 8),(5,.fn (gx (b.length+1)) [5,6])]) (j:=8) rfl c' _ (e::b) x rfl,rfl,congrArg (fun L=>SB.arr 259 2 L c') (zqt (μ:=sig [(4,.to 8),(5,.fn (gx (b.length+1)) [5,6])]) (acc:=e::b) x (fun k=>rfl) rfl),zzn (acc:=e::b) x rfl rfl,tv⟩⟩
    ·have O:acc.length=m:=by
      have J:¬(acc.length:Int) < (getI s 0).1:=oe M;rw[em]at J;omega
     clear M;have d:zcp s p m [] (getI s 0).2.1=some (acc,q):=by rw[A,show m - acc.length=0 by omega,zcp]
     rw[d]at o;replace o:readS p s=if q=s.length then some ⟨false,acc,0,0,[]⟩else none:=o
     refine useFt (zc3 F (decide (q=(s.length:Int)))) ?_;rintro _ _ l2 ⟨rfl,⟨hb,rfl⟩ | ⟨hb,rfl⟩⟩
     ·refine clean [(1,4),(2,5)] (.ret (valV ⟨false,acc,0,0,[]⟩ 1 c)) F [(1,zbq 2 caps c acc),(2,famE caps acc)] 3 ⟨Fz.r F,znn (v:=⟨false,acc,0,0,[]⟩) ?_⟩ ?_ rfl rfl (znw (by omega) _ _) ⟨zaq (by omega) _ _ _,zau _ _ _,tv⟩ ⟨Fz.r F,zw0 (fun k=>rfl),zb8,tv⟩
      ·rw[o,if_pos (od hb)]
      ·exact(zwc (i:=1) (j:=4) rfl ⟨false,acc,0,0,[]⟩ c).trans (zwc (i:=4) (j:=4) (by rfl) ⟨false,acc,0,0,[]⟩ c).symm
     ·refine clean [] (.panic perr) F [] 1 ⟨Fz.r F,zgf ?_⟩ rfl rfl rfl trivial trivial ⟨Fz.r F,tv⟩;rw[o,if_neg (oe hb)]
   ·rw[if_neg G]at a;obtain⟨ho,hh⟩:=a;subst ho;subst hh;have o:readS p s=none:=by rw[readS,if_neg (by omega),if_neg I,if_neg (by omega),if_neg (by omega),if_neg G]
    refine clean [] (.panic perr) F [] 1 ⟨Fz.r F,zgf ?_⟩ rfl rfl rfl trivial trivial ⟨Fz.r F,tv⟩;exact o
 ·exfalso;have:=oe (p:=1<=p/\p<=8) (by simpa using hb);omega
def TFun:Prop:=∀(F:Fz) (s:List UInt8),s.length<=70000->Fo Tryz.prog F 184 [.va (.str s),.va (.str [48,49])] (fun o a=>F=a/\∃r:List UInt8,o=.ret (.va (.str r))/\(r=[]↔s.all (fun b=>b==48||b==49)=true))
theorem zri(F:Fz)(s:List UInt8)(l:s.length<=1000000000000000000)(e:¬s=[]):Ct Tryz.prog 129 [.va (.int .i64 8),.va (.str s)] F [] 1 (readK F 8 s):=by
 have f:=zfq F s 0 0 64 l (by unfold i64;omega)
 have j:readS 8 s=if zbd s 0 0 64=true/\zbd s (getI s 0).2.1 0 64=true/\(getI s (getI s 0).2.1).2.1=s.length then some ⟨false,[],(getI s 0).1,(getI s (getI s 0).2.1).1,[]⟩else none:=by
  rw[readS,if_neg (by omega),if_neg e,if_pos rfl]
 refine ctS Tryz.func129 ?_;refine usePs (zeh 8 1 8 F) ?_;refine useFt (zc3 F true) ?_;rintro _ _ p ⟨rfl,⟨hb,rfl⟩ | ⟨hb,rfl⟩⟩
 ·refine br (fun g=>absurd (by simpa using g) e) (fun _=>?_);refine bre (by decide) ?_;refine useS f [(1,3)] ⟨za9 _ _,tv⟩ ⟨rfl,tv⟩ ?_;rintro i m n n0 k ⟨rfl,rfl,a⟩;by_cases d:zbd s 0 0 64=true
  ·rw[if_pos d]at a;obtain⟨rfl,rfl⟩:=a;have o:=zfl (zfp d);refine useS (zfq F s (getI s 0).2.1 0 64 l ⟨by omega,by omega⟩) [(1,3)] ⟨za9 _ _,tv⟩ ⟨rfl,tv⟩ ?_;rintro i m n n0 k ⟨rfl,rfl,a⟩;by_cases b:zbd s (getI s 0).2.1 0 64=true
   ·rw[if_pos b]at a;obtain⟨rfl,rfl⟩:=a;refine useFt (zc3 F (decide ((getI s (getI s 0).2.1).2.1=(s.length:Int)))) ?_;rintro _ _ q ⟨rfl,⟨c,rfl⟩ | ⟨c,rfl⟩⟩
    ·exact zo1 (by rw[j,if_pos ⟨d,b,od c⟩]) rfl rfl
    ·exact zdk (by rw[j,if_neg (fun h=>oe c h.2.2)]) rfl
   ·rw[if_neg b]at a;obtain⟨rfl,rfl⟩:=a;exact zdk (by rw[j,if_neg (fun h=>b h.2.1)]) rfl
  ·rw[if_neg d]at a;obtain⟨rfl,rfl⟩:=a;exact zdk (by rw[j,if_neg (fun h=>d h.1)]) rfl
 ·cases hb
theorem zo0(W:TFun)(F:Fz)(s:List UInt8)(p:Int)(hp:p=6\/p=7)(Q:s.length<=1000000000000000000)(G:¬s=[]):Ct Tryz.prog 129 [.va (.int .i64 p),.va (.str s)] F [] 1 (readK F p s):=by
 have l:=zfq F s 0 0 32 Q (by unfold i64;omega);obtain⟨w,R⟩:∃w,(getI s 0).1=w:=⟨_,rfl⟩
 obtain⟨q,O⟩:∃q,(getI s 0).2.1=q:=⟨_,rfl⟩
 obtain⟨h,hh⟩:∃h,(getI s q).1=h:=⟨_,rfl⟩
 obtain⟨c,A⟩:∃c,(getI s q).2.1=c:=⟨_,rfl⟩
 have i:readS p s=if zbd s 0 0 32=true/\zbd s q (min w 1) (min w 1*32)=true then
   if p=7 then
    if(getS s c).2.2=0/\((getS s c).1.length:Int)=w*h/\(getS s c).1.all (fun b=>b==48||b==49)=true/\(getS s c).2.1=s.length then some ⟨false,[],w,h,(getS s c).1⟩else none
   else if c=s.length then some ⟨false,[],w,h,[]⟩else none
  else none:=by
  rw[readS,if_neg (by omega),if_neg G,if_neg (by omega),if_pos (by omega)];simp only[R,O,hh,A]
 rw[R,O]at l;have m:=fun(k:zbd s 0 0 32=true)=>zfl (zfp k)
 rw[O]at m
 have J:zbd s 0 0 32=true->0<=w/\w<=32:=fun k=>by
  simp only[zbd,qg,decide_eq_true_eq,R]at k;exact k.2
 refine ctS Tryz.func129 ?_;refine usePs (zeh p 1 8 F) ?_;refine useFt (zc3 F (decide (1<=p)&&decide (p<=8))) ?_;rintro _ _ l1 ⟨rfl,⟨hb,rfl⟩ | ⟨hb,rfl⟩⟩
 ·refine br (fun g=>absurd (by simpa using g) G) (fun _=>?_);refine br (fun g=>absurd (od g) (by omega)) (fun _=>?_);refine br (fun _=>?_) (fun g=>absurd (oe g) (by omega));refine useS l [(1,3)] ⟨za9 _ _,tv⟩ ⟨rfl,tv⟩ ?_;rintro o S B n0 E ⟨rfl,rfl,a⟩;by_cases k:zbd s 0 0 32=true
  ·rw[if_pos k]at a;obtain⟨rfl,rfl⟩:=a;have Y:=m k;have Z:=J k;have T:(if 1 < w then 1 else w)=min w 1:=by split<;>omega
   have e2:IntKind.i64.wrap ((if 1 < w then 1 else w)*32)=min w 1*32:=by rw[T,zah (by omega) (by omega)]
   have y:=zfq F s q (if 1 < w then 1 else w) (IntKind.i64.wrap ((if 1 < w then 1 else w)*32)) Q ⟨by omega,by omega⟩;refine useS y [(1,3)] ⟨za9 _ _,tv⟩ ⟨rfl,tv⟩ ?_;rintro o S B n0 E ⟨rfl,rfl,a⟩;rw[T,zah (n:=min w 1*32) (by omega) (by omega),hh,A]at a;by_cases f:zbd s q (min w 1) (min w 1*32)=true
   ·rw[if_pos f]at a;obtain⟨rfl,rfl⟩:=a;have I:=zfl (zfp f);rw[A]at I
    have X:min w 1<=h/\h<=min w 1*32:=by
     simp only[zbd,qg,decide_eq_true_eq,hh]at f;exact f.2
    rw[if_pos ⟨k,f⟩]at i
    have aa:0<=w*h/\w*h<=1024:=by
     refine⟨qcd (by omega) (by omega),?_⟩;have:w*h<=32*32:=qbh (by omega) (by omega) (by omega) (by omega);omega
    refine br (fun M=>?_) (fun M=>?_)
    ·have u:p=7:=od M;rw[if_pos u]at i;refine useS (zvr F s c Q ⟨by omega,by omega⟩) [(1,3)] ⟨za9 _ _,tv⟩ ⟨rfl,tv⟩ ?_;rintro o S B n0 E ⟨rfl,rfl,a⟩;by_cases K:(getS s c).2.2=0
     ·rw[if_pos K]at a;obtain⟨rfl,rfl⟩:=a;have U:IntKind.i64.wrap (w*h)=w*h:=zah (by omega) (by omega);refine⟨fun D=>?_,fun D=>?_⟩
      ·have x:((getS s c).1.length:Int)=w*h:=by
        have B:=od D;rw[<-U];exact B
       clear D;refine useFs (W F (getS s c).1 (by omega)) ?_;rintro _ _ L ⟨rfl,r,rfl,V⟩;refine useFt (zc3 F (r==[])) ?_;rintro _ _ L ⟨rfl,⟨d,rfl⟩ | ⟨d,rfl⟩⟩
       ·have j:=V.1 (by simpa using d);refine useFt (zc3 F (decide ((getS s c).2.1=(s.length:Int)))) ?_;rintro _ _ L ⟨rfl,⟨e,rfl⟩ | ⟨e,rfl⟩⟩
        ·exact zo1 (by rw[i,if_pos ⟨K,x,j,od e⟩]) rfl rfl
        ·exact zdk (by rw[i,if_neg (fun h=>oe e h.2.2.2)]) rfl
       ·have j:¬(getS s c).1.all (fun b=>b==48||b==49)=true:=fun h=>by
         rw[V.2 h]at d;cases d
        exact zdk (by rw[i,if_neg (fun h=>j h.2.2.1)]) rfl
      ·have x:¬((getS s c).1.length:Int)=w*h:=by
        have B:=oe D;rw[<-U];exact B
       clear D;refine useFt (zc3 F false) ?_;rintro _ _ L ⟨rfl,⟨d,rfl⟩ | ⟨d,rfl⟩⟩
       ·cases d
       ·exact zdk (by rw[i,if_neg (fun h=>x h.2.1)]) rfl
     ·rw[if_neg K]at a;obtain⟨rfl,rfl⟩:=a;exact zdk (by rw[i,if_neg (fun h=>K h.1)]) rfl
    ·have u:¬p=7:=oe M;rw[if_neg u]at i;refine useFt (zc3 F (decide (c=(s.length:Int)))) ?_;rintro _ _ L ⟨rfl,⟨e,rfl⟩ | ⟨e,rfl⟩⟩
     ·exact zo1 (by rw[i,if_pos (od e)]) rfl rfl
     ·exact zdk (by rw[i,if_neg (oe e)]) rfl
   ·rw[if_neg f]at a;obtain⟨rfl,rfl⟩:=a;exact zdk (by rw[i,if_neg (fun h=>f h.2)]) rfl
  ·rw[if_neg k]at a;obtain⟨rfl,rfl⟩:=a;exact zdk (by rw[i,if_neg (fun h=>k h.1)]) rfl
 ·exfalso;have:¬(1<=p/\p<=8):=fun h=>by simp[h]at hb
  omega
theorem ya6(b:CFun)(f:TFun)(F:Fz)(s:List UInt8)(p:Int)(c:s.length<=1000000000000000000):Ct Tryz.prog 129 [.va (.int .i64 p),.va (.str s)] F [] 1 (readK F p s):=by
 by_cases d:1<=p/\p<=8
 ·by_cases a:s=[]
  ·subst a;exact zrj F p d
  ·by_cases e:p=8
   ·subst e;exact zri F s c a
   ·by_cases g:6<=p
    ·exact zo0 f F s p (by omega) c a
    ·exact zrk b F s p c (by omega) a
 ·exact zw8 F s p d
def PFun:Prop:=∀(F:Fz) (n:Int),Fo Tryz.prog F 78 [.va (.int .i64 n)] (fun o a=>o=.ret (.tup [.va (.str (putIR n).1),.va (.int .i64 (putIR n).2)])/\a=F)
theorem zfc(f:PFun)(F:Fz)(s:List UInt8)(i:s.length<=9000000000000000000):Fo Tryz.prog F 79 [.va (.str s)] (fun o b=>o=.ret (.tup [.va (.str (putSR s).1),.va (.int .i64 (putSR s).2)])/\b=F):=by
 refine foS Tryz.func79 ?_;refine br (fun g=>?_) (fun g=>?_)
 ·have a:65536 < s.length:=by have e:(65536:Int) < s.length:=(by simpa using g);omega
  exact endFs (.ret (.tup [.va (.str []),.va (.int .i64 10)])) (Fz.r F) ⟨by rw[putSR,if_pos a],rfl⟩
 ·have a:¬65536 < s.length:=by have e:¬(65536:Int) < s.length:=(by simpa using g);omega
  have c:putIR s.length=(putI s.length,0):=by rw[putIR,if_neg (by omega)]
  have d:putSR s=(putI s.length++s,0):=by rw[putSR,if_neg a]
  refine usePs (f F s.length) ?_;conv=>whnf
  have h:=za0 s.length;refine⟨by omega,?_⟩;exact endFs (.ret (.tup [.va (.str ((putIR s.length).1++s)),.va (.int .i64 0)])) (Fz.r F) ⟨by rw[d,c],rfl⟩
def outC(_ j c:Nat)(l:List UInt8):Ent:=.one (.cells 81 [gA 1 j c l])
theorem zbf{n j:Nat}(h:j < n)(i c:Nat)(l:List UInt8):(outC i j c l).below n:=by
 intro a b;simp only[qn,qy,or_false]at b;subst b;cases l with
 |nil=>trivial
 |cons x r=>exact .inr h
abbrev outN(c:Nat)(l:List UInt8):List (Nat×Ent):=[(1,outC 1 3 c l),(2,.gone),(3,gE 5 1 encB c l)]
theorem zht(c:Nat)(l:List UInt8):bH 4 (outN c l):=⟨zbf (by omega) _ _ _,tv,zab zaa _ _ _ _ _,tv⟩
theorem zkq{μ:Mu}{j j':Nat}(h:μ j 0=(j',0))(i c:Nat)(l:List UInt8):(outC i j c l).ren μ=outC i j' c l:=by
 show Ent.one (.cells _ [(gA 1 j c l).ren μ])=_;rw[zul h];rfl
theorem ziz{μ:Mu}{j j':Nat}(h:μ j 0=(j',0)){i i' c:Nat}{l:List UInt8}:subE (some (outC i' j' c l)) ((outC i j c l).ren μ):=by rw[zkq h];exact rfl
theorem zkp{μ:Mu}{j j':Nat}(h:μ j 0=(j',0)){i c n:Nat}{x:UInt8}{l:List UInt8}(a:n=l.length+1):subE (some (.one (.cells 81 [.slice false j' 0 0 1 n c]))) ((outC i j c (x::l)).ren μ):=by
 subst a;rw[zkq h];exact rfl
abbrev outH(c:Nat)(l:List UInt8):List (Nat×Ent):=[(1,outC 1 2 c l),(2,gE 5 1 encB c l)]
theorem zs5(k:PFun)(F:Fz)(s out:List UInt8)(c:Nat)(l:s.length<=9000000000000000000)(f:out.length<=1000000000000):
  Ct Tryz.prog 197 [.va (.str s),.va (.ptr ⟨1,0,0,0,0⟩)] F (outH c out) 3
   (fun o g h n0=>F=g/\n0=4/\o=.ret (.tup [])/\∃c',h=outN c' (out++(putSR s).1)):=by
 have a:=zfc k F s l;have e:=zcl s;obtain⟨t,m⟩:∃t,(putSR s).1=t:=⟨_,rfl⟩
 rw[m]at a e ⊢;rcases out with _ | ⟨x,r⟩
 ·rcases t with _ | ⟨b,t⟩
  ·refine ctS Tryz.func197 ?_;refine usePs (a) ?_;refine⟨rfl,rfl,?_⟩;exact clean [(3,2)] (.ret (.tup [])) F (outN c []) 4 ⟨Fz.r F,rfl,rfl,rfl,c,rfl⟩ trivial rfl rfl (Out.bB_ok (o:=.ret (.tup [])) rfl) (zht _ _) ⟨Fz.r F,rfl,zaj zaa (zao _ _ _ _),tv⟩
  ·refine ctS Tryz.func197 ?_;refine usePs (a) ?_;refine⟨rfl,rfl,by show((t.map fun b:UInt8=>[SA.int .u8 b.toNat]).length+1)*1<=140737488355328;rw[qe];simp at e;omega,fun c' d=>?_⟩;clear d;exact clean [(3,3)] (.ret (.tup [])) F (outN c' (b::t)) 4 ⟨Fz.r F,rfl,rfl,rfl,c',rfl⟩ trivial rfl rfl (Out.bB_ok (o:=.ret (.tup [])) rfl) (zht _ _) ⟨Fz.r F,zkp (i:=1) (j:=3) (j':=3) (by rfl) (by simp),zaj zaa (za3 _ (by rfl)),tv⟩
 ·replace f:r.length+1<=1000000000000:=f;refine ctS Tryz.func197 ?_;refine usePs (a) ?_;refine⟨rfl,rfl,by simp,rfl,by rw[qe];show(r.length+1+t.length)*1<=140737488355328;omega,fun c' d=>?_⟩;clear d;exact clean [(3,3)] (.ret (.tup [])) F (outN c' (x::(r++t))) 4 ⟨Fz.r F,rfl,rfl,rfl,c',rfl⟩ trivial rfl rfl (Out.bB_ok (o:=.ret (.tup [])) rfl) (zht _ _) ⟨Fz.r F,zkp (i:=1) (j:=3) (j':=3) (by rfl) (by rw[qe,qd];omega),zaj zaa (za3 _ (by show((x::r).map encB)++(t.map encB)=(x::(r++t)).map encB;simp)),tv⟩
theorem zlu(L:PFun)(F:Fz)(G:SA)(l:List Int)(out:List UInt8)(c:Nat)(M:ze5 F G l)(W:l.length < 1000000)(Y:out.length<=1000000000000):
  Ct Tryz.prog 196 [.va G,.va (.ptr ⟨1,0,0,0,0⟩)] F (outH c out) 3
   (fun o I J n0=>F=I/\n0=4/\o=.ret (.tup [])/\∃c',J=outN c' (out++zad l)):=by
 obtain⟨U,R,T,S,Q,V,rfl,d,m,O,p⟩:=M;refine ctS Tryz.func196 ?_;conv=>whnf
 refine zak hΘ (X:={ x:Nat×List UInt8×Nat // x.1<=l.length/\x.2.1=out++((l.take x.1).map fun n=>(putIR n).1).flatten }) (fun x=>[(9,.va (.int .i64 x.1.1))]) (4::5::6::jr 10 12 [])
  (fun x=>[(0,.frz F),(1,outC 1 3 x.1.2.2 x.1.2.1),(2,.gone),(3,gE 5 1 encB x.1.2.2 x.1.2.1)]) 4 (fun x=>l.length - x.1.1) ⟨(0,out,c),by simp⟩
  (fun q s=>leI [(3,2)] q s rfl ⟨tv,zbf (by omega) _ _ _,tv,zab zaa _ _ _ _ _,tv⟩ ⟨rfl,tv⟩ ⟨Fz.r F,ziz (i:=1) (i':=1) (j:=3) (j':=2) (by rfl),zaj zaa (zao _ _ _ _),tv⟩) ?_
 rintro⟨⟨k,ob,B⟩,E,e⟩ q s;replace E:k<=l.length:=E;replace e:ob=out++((l.take k).map fun n=>(putIR n).1).flatten:=e
 have h:ob.length<=1000009000000:=by
  have K:=ze9 za0 (l.take k);rw[qo]at K;rw[e,qd];omega
 refine br (fun y=>?_) (fun y=>?_)
 ·have a:k < l.length:=by simpa using y
  clear y;have g:=L F l[k];have A:∃t,(putIR l[k]).1=t:=⟨_,rfl⟩
  obtain⟨t,A⟩:=A;have w:=za0 l[k];have f:ob++t=out++((l.take (k+1)).map fun n=>(putIR n).1).flatten:=by rw[zb3 a,A,e,qp]
  rw[A]at g w;rcases ob with _ | ⟨x,r⟩
  ·rcases t with _ | ⟨b,t⟩
   ·refine⟨Sl.lt d a,⟨by simp,by simpa using a⟩,_,m (Sl.lt d a),_,Sl.at p a,?_⟩;refine usePs (g) ?_;refine⟨rfl,rfl,?_⟩;exact⟨⟨(k+1,[],B),by show k+1<=l.length;omega,f⟩,by show l.length - (k+1) < l.length - k;omega,leR [(3,3)] q s rfl ⟨tv,zbf (by omega) _ _ _,tv,zab zaa _ _ _ _ _,tv⟩ ⟨cnt (by omega),tv⟩ ⟨Fz.r F,rfl,zaj zaa (zao _ _ _ _),tv⟩⟩
   ·refine⟨Sl.lt d a,⟨by simp,by simpa using a⟩,_,m (Sl.lt d a),_,Sl.at p a,?_⟩;refine usePs (g) ?_;refine⟨rfl,rfl,by show((t.map fun b:UInt8=>[SA.int .u8 b.toNat]).length+1)*1<=140737488355328;rw[qe];simp at w;omega,fun c' D=>?_⟩;clear D;exact⟨⟨(k+1,b::t,c'),by show k+1<=l.length;omega,f⟩,by show l.length - (k+1) < l.length - k;omega,leR [(3,4)] q s rfl ⟨tv,zbf (by omega) _ _ _,tv,zab zaa _ _ _ _ _,tv⟩ ⟨cnt (by omega),tv⟩ ⟨Fz.r F,zkp (i:=1) (j:=3) (j':=4) (by rfl) (by simp),zaj zaa (za3 _ (by rfl)),tv⟩⟩
  ·replace h:r.length+1<=1000009000000:=h;refine⟨Sl.lt d a,⟨by simp,by simpa using a⟩,_,m (Sl.lt d a),_,Sl.at p a,?_⟩;refine usePs (g) ?_;refine⟨rfl,rfl,by simp,rfl,by rw[qe];show(r.length+1+t.length)*1<=140737488355328;omega,fun c' D=>?_⟩;clear D;exact⟨⟨(k+1,x::(r++t),c'),by show k+1<=l.length;omega,f⟩,by show l.length - (k+1) < l.length - k;omega,leR [(3,4)] q s rfl ⟨tv,zbf (by omega) _ _ _,tv,zab zaa _ _ _ _ _,tv⟩ ⟨cnt (by omega),tv⟩ ⟨Fz.r F,zkp (i:=1) (j:=3) (j':=4) (by rfl) (by rw[qe,qd];omega),zaj zaa (za3 _ (by show((x::r).map encB)++(t.map encB)=(x::(r++t)).map encB;simp)),tv⟩⟩
 ·have a:¬k < l.length:=by simpa using y
  have u:ob=out++zad l:=by rw[e,zad,qh (by omega)]
  exact clean [(3,3)] (.ret (.tup [])) F (outN B ob) 4 ⟨Fz.r F,rfl,rfl,rfl,B,by rw[u]⟩ trivial rfl rfl (Out.bB_ok (o:=.ret (.tup [])) rfl) (zht _ _) ⟨Fz.r F,ziz (i:=1) (i':=1) (j:=3) (j':=3) (by rfl),zaj zaa (zao _ _ _ _),tv⟩
def lineW(p:Int)(x:Ln):List UInt8:=(if p=1 then(putSR x.1).1 else [])++zad x.2
def zbp(p:Int)(v:Val):List UInt8:=
 if v.lost=true then []else
 if 6<=p then zad [v.w,v.h]++(if p=7 then(putSR v.bits).1 else [])else
 zad [(v.lines.length:Int)]++(v.lines.map (lineW p)).flatten
theorem za7(l:List Int):(zad l).length<=9*l.length:=ze9 za0 l
abbrev valH(v:Val)(c:Nat)(caps:Nat->Nat):List (Nat×Ent):=[(1,zbq 2 caps c v.lines),(2,famE caps v.lines)]
theorem zbe{μ:Mu}{B B':Nat}{caps:Nat->Nat}{c:Nat}{l:List Ln}(h:∀k,μ B k=(B',k)):subE (some (zbq B' caps c l)) ((zbq B caps c l).ren μ):=
 ⟨rfl,congrArg (fun L=>SB.arr 259 2 L c) (zfe (m:=l.length) (fun k _=>⟨h k,rfl⟩) 0 l (by omega)).symm⟩
theorem z3l(v:Val)(c:Nat)(caps:Nat->Nat):bH 3 (valH v c caps):=⟨zaq (by omega) _ _ _,zau _ _ _,tv⟩
theorem convR(μ:Mu)(l:List UInt8)(n:Nat)(a:n=l.length):(((l.map encB).map (List.map (SA.ren μ))).drop 0).take n=l.map encB:=by
 subst a;have h:(l.map encB).map (List.map (SA.ren μ))=l.map encB:=by rw[yg];exact ju fun x _=>rfl
 rw[h,y8,qh (by simp)]
theorem zbt{α:Type}{e:α->List SA}(a:Plain e){t sz c:Nat}{τ μ:Mu}{l:List α}:subE (some ((gE t sz e c l).ren τ)) ((gE t sz e c l).ren μ):=by rw[zg0 a,zg0 a];exact zao _ _ _ _
theorem zek{F F1:Fz}{v:Val}{c:Nat}{caps:Nat->Nat}{p:Int}{t:List UInt8}{h:Hp}{nx:Nat}(f:t=zbp p v)(b:Fz.le F F1)(a:lget h 0=some (.frz F1))(h1:lget h 1=some (zbq 2 caps c v.lines))(e:lget h 2=some (famE caps v.lines)):
  Cln 3 (fun o d a n0=>Fz.le F d/\(n0=3/\o=.ret (.va (.str (zbp p v)))/\a=valH v c caps)) (.ret (.va (.str t))) h nx:=
 clean [] (.ret (.va (.str t))) F1 (valH v c caps) 3 ⟨b,rfl,by rw[f],rfl⟩ rfl rfl rfl trivial (z3l _ _ _)
  ⟨by show subE (lget h 0) (.frz F1);rw[a];exact Fz.r F1,by show subE (lget h 1) ((zbq 2 caps c v.lines).ren (sig []));rw[h1];exact zbe (fun k=>rfl),by show subE (lget h 2) ((famE caps v.lines).ren (sig []));rw[e];exact zb8,tv⟩
theorem zr6(F:Fz)(v:Val)(c:Nat)(caps:Nat->Nat)(p:Int)(b:v.lost=true):
  Ct Tryz.prog 131 [valV v 1 c,.va (.int .i64 p)] F (valH v c caps) 3 (fun o _ e n0=>n0=3/\o=.ret (.va (.str (zbp p v)))/\e=valH v c caps):=by
 obtain⟨a,d,w,h,bits⟩:=v;replace b:a=true:=b;subst b;refine ctS Tryz.func131 ?_;exact zek (by rw[zbp,if_pos rfl]) (Fz.r F) rfl rfl rfl
theorem zmk(M:PFun)(F:Fz)(v:Val)(c:Nat)(caps:Nat->Nat)(p:Int)(Q:v.lost=false)(S:p=6\/p=7\/p=8)(hb:v.bits.length<=70000):
  Ct Tryz.prog 131 [valV v 1 c,.va (.int .i64 p)] F (valH v c caps) 3 (fun o _ j n0=>n0=3/\o=.ret (.va (.str (zbp p v)))/\j=valH v c caps):=by
 obtain⟨J,e,w,h,bits⟩:=v;replace Q:J=false:=Q;subst Q;replace hb:bits.length<=70000:=hb;have E:zbp p ⟨false,e,w,h,bits⟩=zad [w,h]++(if p=7 then(putSR bits).1 else []):=by rw[zbp,if_neg (by simp),if_pos (by omega)]
 obtain⟨K,i⟩:∃K,[]++zad [w,h]=K:=⟨_,rfl⟩
 have I:K.length<=100:=by rw[<-i];have:=za7 [w,h];simp at this ⊢;omega
 refine ctS Tryz.func131 ?_;refine br (fun _=>?_) (fun g=>absurd (oe g) (by omega));refine zat 5 (fun _=>.arr 3 1 ([w,h].map encI) 2) ?_;intro R F1 G O;have s:=zlu M F1 _ [w,h] [] 0 (Sl.new (l:=[w,h]) (cap:=2) (O 0 rfl)) (by simp) (by simp);rw[i]at s;have B:∃A,K++(putSR bits).1=A:=⟨_,rfl⟩
 rcases K with _ | ⟨x,r⟩
 ·skip
  refine useS s [(1,4),(2,5)] ⟨zbf (by omega) _ _ _,zab zaa _ _ _ _ _,tv⟩ ⟨rfl,rfl,tv⟩ ?_;rintro b u j n0 m ⟨rfl,rfl,rfl,f,rfl⟩;refine br (fun D=>?_) (fun D=>?_)
  ·have d:p=7:=od D;obtain⟨A,n⟩:=B;have k:A=zbp p ⟨false,e,w,h,bits⟩:=by rw[E,if_pos d,<-qv (zad [w,h]),i];exact n.symm
   have a:∀f,Ct Tryz.prog 197 [.va (.str bits),.va (.ptr ⟨1,0,0,0,0⟩)] F1 (outH f []) 3 (fun o u j n0=>F1=u/\n0=4/\o=.ret (.tup [])/\∃c',j=outN c' A):=fun f=>by
    have:=zs5 M F1 bits [] f (by omega) (q8 I (by omega));rw[n]at this;exact this
   conv=>whnf
   rcases A with _ | ⟨y,q⟩
   ·refine useS (a f) [(1,4),(2,6)] ⟨zbf (by omega) _ _ _,zab zaa _ _ _ _ _,tv⟩ ⟨rfl,zbt zaa,tv⟩ ?_;rintro b u j n0 m ⟨rfl,rfl,rfl,L,rfl⟩;exact zek k G rfl rfl rfl
   ·refine useS (a f) [(1,4),(2,6)] ⟨zbf (by omega) _ _ _,zab zaa _ _ _ _ _,tv⟩ ⟨rfl,zbt zaa,tv⟩ ?_;rintro b u j n0 m ⟨rfl,rfl,rfl,L,rfl⟩;refine⟨rfl,by simp,(y::q).map encB,convR _ (y::q) _ rfl,y::q,rfl,?_⟩;exact zek k G rfl rfl rfl
  ·have d:¬p=7:=oe D;rw[if_neg d,q5]at E;exact zek (by rw[E];exact i.symm) G rfl rfl rfl
 ·skip
  refine useS s [(1,4),(2,5)] ⟨zbf (by omega) _ _ _,zab zaa _ _ _ _ _,tv⟩ ⟨rfl,rfl,tv⟩ ?_;rintro b u j n0 m ⟨rfl,rfl,rfl,f,rfl⟩;refine br (fun D=>?_) (fun D=>?_)
  ·have d:p=7:=od D;obtain⟨A,n⟩:=B;have k:A=zbp p ⟨false,e,w,h,bits⟩:=by rw[E,if_pos d,<-qv (zad [w,h]),i];exact n.symm
   have a:∀f,Ct Tryz.prog 197 [.va (.str bits),.va (.ptr ⟨1,0,0,0,0⟩)] F1 (outH f (x::r)) 3 (fun o u j n0=>F1=u/\n0=4/\o=.ret (.tup [])/\∃c',j=outN c' A):=fun f=>by
    have:=zs5 M F1 bits (x::r) f (by omega) (q8 I (by omega));rw[n]at this;exact this
   conv=>whnf
   rcases A with _ | ⟨y,q⟩
   ·refine useS (a f) [(1,4),(2,6)] ⟨zbf (by omega) _ _ _,zab zaa _ _ _ _ _,tv⟩ ⟨rfl,zbt zaa,tv⟩ ?_;rintro b u j n0 m ⟨rfl,rfl,rfl,L,rfl⟩;exact zek k G rfl rfl rfl
   ·refine useS (a f) [(1,4),(2,6)] ⟨zbf (by omega) _ _ _,zab zaa _ _ _ _ _,tv⟩ ⟨rfl,zbt zaa,tv⟩ ?_;rintro b u j n0 m ⟨rfl,rfl,rfl,L,rfl⟩;refine⟨rfl,by simp,(y::q).map encB,convR _ (y::q) _ rfl,y::q,rfl,?_⟩;exact zek k G rfl rfl rfl
  ·have d:¬p=7:=oe D;rw[if_neg d,q5]at E;refine⟨rfl,by simp,(x::r).map encB,convR _ (x::r) _ rfl,x::r,rfl,?_⟩;exact zek (by rw[E];exact i.symm) G rfl rfl rfl
