import Derived.Test.YtfnkamphhpldcaaGreatDoorK17
set_option maxHeartbeats 64000000
namespace Go.Proofs.YtfnkamphhpldcaaGreatDoor
open Go Sx
set_option maxRecDepth 100000
theorem zu9(n:Int):Pu Tryz.prog 277 [.va (.int .i64 n)] (.va (.bool false)):=by
 intro F;refine fo_of hΘ Tryz.func277 rfl (by decide) _ _ rfl rfl rfl ?_;refine endPu rfl (Fz.r F) (ob ?_) rfl;simp
def cmpI(a b:Int):Int:=if a < b then -1 else if b < a then 1 else 0
theorem ya0(a b:Int):Pu Tryz.prog 263 [.va (.int .i64 a),.va (.int .i64 b)] (.va (.int .i64 (cmpI a b))):=by
 intro F;refine fo_of hΘ Tryz.func263 rfl (by decide) _ _ rfl rfl rfl ?_;refine usePu (zu9 a F) rfl (zaa _) rfl ?_;refine usePu (zu9 b F) rfl (zaa _) rfl ?_;refine brd (by decide) ?_;refine brd (by decide) ?_;refine br (fun g=>?_) (fun g=>?_)
 ·refine endPu rfl (Fz.r F) (oi ?_) rfl;rw[cmpI,if_pos (od g)]
 ·have c:¬a < b:=oe g;refine br (fun g=>?_) (fun g=>?_)
  ·refine endPu rfl (Fz.r F) (oi ?_) rfl;rw[cmpI,if_neg c,if_pos (od g)]
  ·refine endPu rfl (Fz.r F) (oi ?_) rfl;rw[cmpI,if_neg c,if_neg (oe g)]
def cmpL:List Int->List Int->Int
 |[],[]=>0
 |[],_::_=>-1
 |_::_,[]=>1
 |x::r,y::t=>if cmpI x y=0 then cmpL r t else cmpI x y
theorem zyk{a b:List Int}{k:Nat}(c:k < a.length)(d:k < b.length):cmpL (a.drop k) (b.drop k)=if cmpI a[k] b[k]=0 then cmpL (a.drop (k+1)) (b.drop (k+1))else cmpI a[k] b[k]:=by
 rw[qy c,qy d,cmpL]
theorem zwv(F:Fz)(B D:SA)(a b:List Int)(E:zet F B a)(Q:zet F D b)(la:a.length < 1000000):
  Fo Tryz.prog F 245 [.va B,.va D] (fun o n=>o=.ret (.va (.int .i64 (cmpL a b)))/\n=F):=by
 have fin:∀(v:Int) (h:Hp) (nx:Nat),cmpL a b=v->lget h 0=some (.frz F)->
   Cln 1 (FoK F fun o n=>o=.ret (.va (.int .i64 (cmpL a b)))/\n=F) (.ret (.va (.int .i64 v))) h nx:=by
  intro v h nx hv j;exact endPu j (Fz.r F) (oi hv) rfl
 obtain⟨M,J,L,K,I,O,rfl,l,u,G,w⟩:=E;obtain⟨W,T,V,U,S,Y,rfl,m,y,R,A⟩:=Q;refine fo_of hΘ Tryz.func245 rfl (by decide) _ _ rfl rfl rfl ?_;conv=>whnf
 refine zam hΘ (X:={ k:Nat // k<=a.length/\k<=b.length/\cmpL a b=cmpL (a.drop k) (b.drop k) }) (fun k=>[(11,.va (.int .i64 k.1))]) (4::5::6::7::8::jr 12 19 []) (fz fun _=>F) 1 (fun k=>a.length - k.1) ⟨0,by simp⟩
  (fun q s=>le0 q s rfl (Fz.r F) rfl ⟨rfl,tv⟩) ?_
 rintro⟨k,hk,Z,d⟩ q s;refine br (fun g=>?_) (fun g=>?_)
 ·have g:k < a.length:=by simpa using g
  refine⟨Sl.lt l g,⟨by simp,by simpa using g⟩,_,u (Sl.lt l g),_,Sl.at w g,?_⟩;refine br (fun e=>?_) (fun e=>?_)
  ·have c:b.length=k:=by have j:(b.length:Int)<=k:=(by simpa using e);omega
   conv=>whnf
   have i:b.drop k=[]:=yi (by omega);exact fin 1 _ _ (by rw[d,qy g,i,cmpL]) rfl
  ·have c:k < b.length:=by have j:¬(b.length:Int)<=k:=(by simpa using e);omega
   rw[zyk g c]at d;refine⟨Sl.lt m c,⟨by simp,by simpa using c⟩,_,y (Sl.lt m c),_,Sl.at A c,?_⟩;refine usePu (ya0 a[k] b[k] F) rfl (zaa _) rfl ?_;refine br (fun p=>?_) (fun p=>?_)
   ·have f:¬cmpI a[k] b[k]=0:=by simpa using p
    exact fin _ _ _ (by rw[d,if_neg f]) rfl
   ·have f:cmpI a[k] b[k]=0:=by simpa using p
    rw[if_pos f]at d;exact⟨⟨k+1,by omega,by omega,d⟩,by show a.length - (k+1) < a.length - k;omega,lr0 q s rfl (Fz.r F) rfl ⟨cnt (by omega),tv⟩⟩
 ·have g:¬k < a.length:=by simpa using g
  have x:a.drop k=[]:=yi (by omega);rw[x]at d;refine br (fun e=>?_) (fun e=>?_)
  ·have c:k < b.length:=by have j:(a.length:Int) < b.length:=(by simpa using e);omega
   exact fin (-1) _ _ (by rw[d,qy c,cmpL]) rfl
  ·have c:b.length<=k:=by have j:¬(a.length:Int) < b.length:=(by simpa using e);omega
   conv=>whnf
   have i:b.drop k=[]:=yi c;exact fin 0 _ _ (by rw[d,i,cmpL]) rfl
def cols(p:Int):Nat:=if p=2 then 1 else if p=3 then 3 else if p=4 then 4 else if p=5 then 3 else 0
theorem zmq(p:Int)(b:1<=p/\p<=5):Pu Tryz.prog 243 [.va (.int .i64 p)] (.va (.int .i64 (cols p))):=by
 intro F;have a:p=1\/p=2\/p=3\/p=4\/p=5:=by omega
 rcases a with rfl | rfl | rfl | rfl | rfl
 all_goals refine fo_of hΘ Tryz.func243 rfl (by decide) _ _ rfl rfl rfl ?_
 all_goals conv=>whnf
 all_goals refine⟨⟨by decide,by decide⟩,_,rfl,?_⟩
 all_goals conv=>whnf
 all_goals exact endPu rfl (Fz.r F) rfl rfl
def bnd(p:Int)(n:List Int):Int×Int:=
 if p=2 then(0,7)else if n.length < 2 then(0,31)else if p=4 then(0,n.getD (n.length - 2) 0)else if p=3 then(-1000000,1000000)else(-1000000000000,1000000000000)
theorem zpy(F:Fz)(q:SA)(n:List Int)(p:Int)(s:zet F q n)(J:n.length < 1000000):
  Fo Tryz.prog F 244 [.va (.int .i64 p),.va q] (fun o f=>o=.ret (.tup [.va (.int .i64 (bnd p n).1),.va (.int .i64 (bnd p n).2)])/\f=F):=by
 have fin:∀(x y:Int) (h:Hp) (nx:Nat),bnd p n=(x,y)->lget h 0=some (.frz F)->
   Cln 1 (FoK F fun o f=>o=.ret (.tup [.va (.int .i64 (bnd p n).1),.va (.int .i64 (bnd p n).2)])/\f=F) (.ret (.tup [.va (.int .i64 x),.va (.int .i64 y)])) h nx:=by
  intro x y h nx I k;exact endFo (.ret (.tup [.va (.int .i64 x),.va (.int .i64 y)])) F k (Fz.r F) (Fz.r F) ⟨by rw[I],rfl⟩ (zah _) rfl
 obtain⟨E,A,D,B,w,G,rfl,c,l,u,m⟩:=s;refine fo_of hΘ Tryz.func244 rfl (by decide) _ _ rfl rfl rfl ?_;refine br (fun g=>?_) (fun g=>?_)
 ·have a:p=2:=od g;exact fin 0 7 _ _ (by rw[bnd,if_pos a]) rfl
 ·have a:¬p=2:=oe g;refine br (fun g=>?_) (fun g=>?_)
  ·have b:n.length < 2:=by have k:(n.length:Int) < 2:=od g;omega
   exact fin 0 31 _ _ (by rw[bnd,if_neg a,if_pos b]) rfl
  ·have b:¬n.length < 2:=by have k:¬(n.length:Int) < 2:=oe g;omega
   refine br (fun g=>?_) (fun g=>?_)
   ·have d:p=4:=od g;have e:n.length - 2 < n.length:=by omega
    have i:IntKind.i64.wrap ((n.length:Int) - 2)=((n.length - 2:Nat):Int):=by rw[zaj (by omega) (by omega)];omega
    refine drawP hΘ mixed (lk [0,1,2,3,4,5,6] .done) [] (by kernel_rfl) ⟨Sl.lt c e,⟨by rw[i];omega,by rw[i];omega⟩,rfl,_,l (Sl.lt c e),encI n[n.length - 2],by dsimp only;rw[i];exact Sl.at m e,?_⟩;refine fin 0 n[n.length - 2] _ _ ?_ rfl;rw[bnd,if_neg a,if_neg b,if_pos d,ym,qc e];rfl
   ·have d:¬p=4:=oe g;refine br (fun g=>?_) (fun g=>?_)
    ·have j:p=3:=od g;exact fin (-1000000) 1000000 _ _ (by rw[bnd,if_neg a,if_neg b,if_neg d,if_pos j]) rfl
    ·have j:¬p=3:=oe g;exact fin (-1000000000000) 1000000000000 _ _ (by rw[bnd,if_neg a,if_neg b,if_neg d,if_neg j]) rfl
theorem za3:Plain encI:=fun x=>⟨fun _=>rfl,fun a b=>by simp only[encI,qp]at b;subst b;trivial⟩
def badC(b:UInt8):Bool:=!(decide (32<=b.toNat)&&decide (b.toNat<=126))
def CFun:Prop:=∀(F:Fz) (s:List UInt8),s.length<=70000->Fo Tryz.prog F 241 [.va (.str s),.va (.fn (.func 242) [])] (fun o a=>o=.ret (.va (.bool (s.any badC)))/\a=F)
def numsS(s:List UInt8)(p:Int):Nat->List Int->Int->Option (List Int×Int)
 |0,acc,q=>some (acc,q)
 |f+1,acc,q=>if zcg s q (bnd p acc).1 (bnd p acc).2=true then numsS s p f (acc++[(getI s q).1]) (getI s q).2.1 else none
abbrev Ln:=List UInt8×List Int
def lineS(s:List UInt8)(p:Int)(a:List Ln)(q:Int):Option (Ln×Int):=
 if p=1 then
  if(getS s q).2.2=0/\(getS s q).1.length<=80/\(getS s q).1.any badC=false then some (((getS s q).1,[]),(getS s q).2.1)else none
 else match numsS s p (cols p) [] q with
  |none=>none
  |some (n,q')=>if p=2 then some (([],n),q')else match a.getLast? with
   |none=>some (([],n),q')
   |some x=>if cmpL (x.2.take 2) (n.take 2) < 0 then some (([],n),q')else none
def capN:SA->Nat
 |.slice _ _ _ _ _ _ cap=>cap
 |_=>0
abbrev zxn(F:Fz)(sl:SA)(b:List Ln):Prop:=SlR F 259 2 (fun y x=>∃a,y=[.str x.1,a]/\(x.2=[]\/zet F a x.2/\x.2.length<=capN a)) sl b
theorem take2{F:Fz}{b e e' cap r:Nat}{L:List (List SA)}{l:List Int}(d:F b=some (.arr 3 1 L r))(h1:e+l.length<=L.length)(c:(L.drop e).take l.length=l.map encI)(g:2<=l.length)(f:e'=e):
  zet F (.slice false 0 b e' 1 2 cap) (l.take 2):=by
 subst f;have a:(l.take 2).length=2:=by rw[qj];omega
 refine⟨false,b,e',cap,L,r,by rw[a],fun h=>(nomatch h),fun _=>d,by rw[a];omega,?_⟩;rw[a,qb2,<-c,qa1,qal g]
def lineE(c:Nat)(t:List UInt8)(n:List Int):Ent:=.one (.cells 259 [.str t,gA 1 4 c n])
theorem zhs{m:Nat}(h:4 < m)(c:Nat)(t:List UInt8)(n:List Int):(lineE c t n).below m:=by
 intro a b;simp only[ql,qt,or_false]at b;rcases b with rfl | rfl
 ·trivial
 ·cases n with
  |nil=>trivial
  |cons x r=>exact .inr h
theorem zqu{μ:Mu}{j:Nat}(h:μ 4 0=(j,0))(c n:Nat)(t:List UInt8)(l:List Int)(x:Int)(a:n=l.length+1):SB.cells 259 [.str t,.slice false j 0 0 1 n c]=SB.ren μ (.cells 259 [.str t,gA 1 4 c (l++[x])]):=by
 subst a;cases l with
 |nil=>simp only[gA,qx,SB.ren,q8,yx,SA.ren,h,qu]
 |cons y r=>simp only[gA,yk,SB.ren,q8,yx,SA.ren,h];simp
theorem ze7{s:List UInt8}{q b a:Int}(h:zcg s q b a=true):(getI s q).2.2=0:=by
 simp only[zcg,qd,decide_eq_true_eq]at h;exact h.1
theorem zs4(af:CFun)(F:Fz)(s:List UInt8)(p q:Int)(sl:SA)(a:List Ln)(hl:zxn F sl a)(hs:s.length<=1000000000000000000)(hp:1<=p/\p<=5)(hq:i64 q)(ao:a.length < 1000000)
  (ah:p≠1/\p≠2->∀x∈a,2<=x.2.length):
  Ct Tryz.prog 185 [.va (.ptr ⟨1,0,0,0,0⟩),.va (.int .i64 p),.va sl] F [(1,rdr s q)] 2
   (fun o S m n0=>F=S/\match lineS s p a q with
    |some (x,f)=>∃c,x.2.length<=c/\n0=3/\o=.ret (.agg [.str x.1,gA 1 2 c x.2])/\m=[(1,rdr s f),(2,gE 3 1 encI c x.2)]
    |none=>∃f,n0=2/\o=.panic perr/\m=[(1,rdr s f)]):=by
 obtain⟨bn,bb,be,bc,bL,an,rfl,b1,b2,b3,b4⟩:=hl;have ae:=zvy F s q hs hq;obtain⟨t,x,e,hg⟩:∃t x e,getS s q=(t,x,e):=⟨_,_,_,rfl⟩
 rw[hg]at ae;refine ct_of hΘ Tryz.func185 rfl (by decide) _ _ rfl rfl rfl ?_;refine br (fun g=>?_) (fun g=>?_)
 ·have g1:p=1:=od g;have L:lineS s p a q=if(getS s q).2.2=0/\(getS s q).1.length<=80/\(getS s q).1.any badC=false then some (((getS s q).1,[]),(getS s q).2.1)else none:=by rw[lineS,if_pos g1]
  rw[hg]at L;replace L:lineS s p a q=if e=0/\t.length<=80/\t.any badC=false then some ((t,[]),x)else none:=L
  refine use ae [(1,1)] rfl ⟨rfl,tv⟩ rfl ⟨za9 _ _,tv⟩ (by simp[SV.below,SA.below]) ⟨rfl,tv⟩ ?_;rintro R S m n0 ac ⟨rfl,rfl,d⟩;by_cases he:e=0
  ·rw[if_pos he]at d;obtain⟨I,G⟩:=d;subst I;subst G;refine⟨fun T=>?_,fun T=>?_⟩
   ·have Z:t.length<=80:=by have m:(t.length:Int)<=80:=od T;omega
    refine usePu (af F t (by omega)) rfl (zaa _) rfl ?_;refine useFo (zcw F (!t.any badC)) rfl ⟨rfl,tv⟩ rfl ?_;rintro _ _ l1 ⟨rfl,⟨w,rfl⟩ | ⟨w,rfl⟩⟩
    ·refine clean [(2,99)] (.ret (.agg [.str t,.nilsl])) F [(1,rdr s x),(2,gE 3 1 encI 0 [])] 3 ⟨Fz.r F,rfl,?_⟩ rfl rfl rfl (Out.bB_ok (o:=.ret (.agg [.str t,.nilsl])) rfl) ⟨za9 s _,zai za3 _ _ _ _ _,tv⟩ ⟨Fz.r F,rfl,rfl,tv⟩;rw[L,if_pos ⟨he,Z,by simpa using w⟩];exact⟨0,qg 0,rfl,rfl,rfl⟩
    ·refine clean [] (.panic perr) F [(1,rdr s x)] 2 ⟨Fz.r F,rfl,?_⟩ rfl rfl rfl trivial ⟨za9 s _,tv⟩ ⟨Fz.r F,rfl,tv⟩;rw[L,if_neg (by simp at w;simp[w])];exact⟨x,rfl,rfl,rfl⟩
   ·have Z:¬t.length<=80:=by have m:¬(t.length:Int)<=80:=oe T;omega
    refine useFo (zcw F false) rfl ⟨rfl,tv⟩ rfl ?_;rintro _ _ l1 ⟨rfl,⟨w,rfl⟩ | ⟨w,rfl⟩⟩
    ·cases w
    ·refine clean [] (.panic perr) F [(1,rdr s x)] 2 ⟨Fz.r F,rfl,?_⟩ rfl rfl rfl trivial ⟨za9 s _,tv⟩ ⟨Fz.r F,rfl,tv⟩;rw[L,if_neg (by simp[Z])];exact⟨x,rfl,rfl,rfl⟩
  ·rw[if_neg he]at d;obtain⟨I,G⟩:=d;subst I;subst G;refine clean [] (.panic perr) F [(1,rdr s q)] 2 ⟨Fz.r F,rfl,?_⟩ rfl rfl rfl trivial ⟨za9 s _,tv⟩ ⟨Fz.r F,rfl,tv⟩;rw[L,if_neg (by simp[he])];exact⟨q,rfl,rfl,rfl⟩
 ·have g1:¬p=1:=oe g
  have i:lineS s p a q=match numsS s p (cols p) [] q with
   |none=>none
   |some (n,f)=>if p=2 then some (([],n),f)else match a.getLast? with
    |none=>some (([],n),f)
    |some x=>if cmpL (x.2.take 2) (n.take 2) < 0 then some (([],n),f)else none:=by rw[lineS,if_neg g1]
  have ap:cols p<=4:=by
   have E:p=1\/p=2\/p=3\/p=4\/p=5:=by omega
   rcases E with rfl | rfl | rfl | rfl | rfl<;>decide
  conv=>whnf
  refine zam hΘ (X:={ x:List Int×Nat×Int // x.1.length<=cols p/\x.1.length<=x.2.1/\i64 x.2.2/\numsS s p (cols p) [] q=numsS s p (cols p - x.1.length) x.1 x.2.2 }) (fun _=>[]) (jr 25 19 [])
   (fun x=>[(0,.frz F),(1,rdr s x.1.2.2),(3,lineE x.1.2.1 [] x.1.1),(4,gE 3 1 encI x.1.2.1 x.1.1)]) 5 (fun x=>cols p - x.1.1.length) ⟨([],0,q),by simp,by simp,hq,rfl⟩
   (fun hH hT=>leI [(4,4)] hH hT rfl ⟨tv,za9 s _,zhs (by omega) _ _ _,zai za3 _ _ _ _ _,tv⟩ trivial ⟨Fz.r F,rfl,rfl,rfl,tv⟩) ?_
  rintro⟨⟨acc,c,f⟩,M,D,O,B⟩ hH hT;replace D:acc.length<=c:=D;replace M:acc.length<=cols p:=M;replace O:i64 f:=O;replace B:numsS s p (cols p) [] q=numsS s p (cols p - acc.length) acc f:=B;rcases acc with _ | ⟨a0,ar⟩
  ·refine drawP hΘ mixed (lk [0,1,2,3] (.alt 4 (.look 5 .done) .nil)) [3] (by kernel_rfl) ?_;conv=>whnf
   repeat' ((conv=>whnf);first
    |refine⟨rfl,?_⟩
    |refine⟨Fz.r _,rfl,?_⟩
    |refine⟨Fz.r _,rfl,rfl,?_⟩
    |refine⟨⟨by simp,by simp⟩,?_⟩
    |fail)
   refine usePu (zmq p hp F) rfl (zaa _) rfl ⟨Fz.r F,rfl,?_⟩;refine br (fun u=>?_) (fun u=>?_)
   ·have gl:0 < cols p:=by have m:((0:Nat):Int) < cols p:=od u;omega
    clear u;have hf:cols p - 0=(cols p - (0+1))+1:=by omega
    have l:numsS s p (cols p) [] q=if zcg s f (bnd p []).1 (bnd p []).2=true then numsS s p (cols p - (0+1)) ([]++[(getI s f).1]) (getI s f).2.1 else none:=by
     rw[B];show numsS s p (cols p - 0) [] f=_;rw[hf,numsS]
    refine drawP hΘ mixed (lk [0,1,2,3,4,5] (.alt 6 (.look 7 (.look 8 (.alt 9 (.alt 10 (.alt 11 (.look 12 (.last 13 .done)) .nil) .nil) .nil))) .nil)) [3] (by kernel_rfl) ?_;conv=>whnf
    repeat' ((conv=>whnf);first
     |refine⟨rfl,?_⟩
     |refine⟨Fz.r _,rfl,?_⟩
     |refine⟨Fz.r _,rfl,rfl,?_⟩
     |refine⟨⟨by simp,by simp⟩,?_⟩
     |fail)
    refine usePu (zpy F _ [] p Sl.nil (by simp)) rfl ⟨rfl,⟨rfl,rfl,rfl⟩,tv⟩ rfl ⟨Fz.r F,rfl,?_⟩;refine use (ze8 F s f (bnd p []).1 (bnd p []).2 hs O) [(1,1)] rfl ⟨rfl,rfl,rfl,tv⟩ rfl ⟨za9 _ _,tv⟩ (by simp[SV.below,SA.below]) ⟨rfl,tv⟩ ?_;rintro R S m n0 ac ⟨rfl,rfl,d⟩;by_cases Y:zcg s f (bnd p []).1 (bnd p []).2=true
    ·rw[if_pos Y]at d l;obtain⟨I,G⟩:=d;subst I;subst G;have aj:=zge (ze7 Y);have V:i64 (getI s f).2.1:=⟨by omega,by omega⟩
     refine⟨Fz.r F,rfl,Fz.r F,rfl,nb rfl,[encI (getI s f).1],rfl,rfl,rfl,nb rfl,fun c' hc=>?_⟩;have U:([]++[(getI s f).1]).length<=c':=hc;clear hc;refine⟨Fz.r F,rfl,?_⟩
     exact⟨⟨([]++[(getI s f).1],c',(getI s f).2.1),by simp;omega,U,V,by rw[l];rfl⟩,by show cols p - 1 < cols p - 0;omega,
      leR [(4,6)] hH hT rfl ⟨tv,za9 s _,zhs (by omega) _ _ _,zai za3 _ _ _ _ _,tv⟩ trivial ⟨Fz.r F,rfl,zqu (μ:=sig [(4,6)]) (j:=6) rfl c' _ [] [] (getI s f).1 rfl,zau za3 (zbp [encI (getI s f).1] rfl),tv⟩⟩
    ·rw[if_neg Y]at d l;obtain⟨I,G⟩:=d;subst I;subst G;refine clean [] (.panic perr) F [(1,rdr s f)] 2 ⟨Fz.r F,rfl,?_⟩ rfl rfl rfl trivial ⟨za9 s _,tv⟩ ⟨Fz.r F,rfl,tv⟩;rw[i,l];exact⟨f,rfl,rfl,rfl⟩
   ·have gl:¬0 < cols p:=by have m:¬((0:Nat):Int) < cols p:=oe u;omega
    clear u;have E:p=2\/p=3\/p=4\/p=5:=by omega
    exfalso;rcases E with rfl | rfl | rfl | rfl<;>exact gl (by decide)
  ·replace M:ar.length+1<=cols p:=M;refine drawP hΘ mixed (lk [0,1,2,3] (.alt 4 (.look 5 .done) .nil)) [3] (by kernel_rfl) ?_;conv=>whnf
   repeat' ((conv=>whnf);first
    |refine⟨rfl,?_⟩
    |refine⟨Fz.r _,rfl,?_⟩
    |refine⟨Fz.r _,rfl,rfl,?_⟩
    |refine⟨⟨by simp,by simp⟩,?_⟩
    |fail)
   refine usePu (zmq p hp F) rfl (zaa _) rfl ⟨Fz.r F,rfl,?_⟩;refine br (fun u=>?_) (fun u=>?_)
   ·have gl:(ar.length+1) < cols p:=by have m:(((ar.length+1):Nat):Int) < cols p:=od u;omega
    clear u;have hf:cols p - (ar.length+1)=(cols p - ((ar.length+1)+1))+1:=by omega
    have l:numsS s p (cols p) [] q=if zcg s f (bnd p (a0::ar)).1 (bnd p (a0::ar)).2=true then numsS s p (cols p - ((ar.length+1)+1)) ((a0::ar)++[(getI s f).1]) (getI s f).2.1 else none:=by
     rw[B];show numsS s p (cols p - (ar.length+1)) (a0::ar) f=_;rw[hf,numsS]
    refine drawP hΘ mixed (lk [0,1,2,3,4,5] (.alt 6 (.look 7 (.look 8 (.alt 9 (.alt 10 (.alt 11 (.look 12 (.last 13 .done)) .nil) .nil) .nil))) .nil)) [3] (by kernel_rfl) ?_;conv=>whnf
    repeat' ((conv=>whnf);first
     |refine⟨rfl,?_⟩
     |refine⟨Fz.r _,rfl,?_⟩
     |refine⟨Fz.r _,rfl,rfl,?_⟩
     |refine⟨⟨by simp,by simp⟩,?_⟩
     |fail)
    refine borrow 4 (fun _=>.arr 3 1 ((a0::ar).map encI) c) rfl rfl rfl (fun _ _=>zcp _ (a0::ar) _) (fun _ _=>zb2 _ _ _) ?_;intro b F' Q w;refine usePu (zpy F' _ (a0::ar) p (Sl.new (w 0 ⟨rfl,rfl⟩)) (by simp;omega)) rfl ⟨rfl,⟨rfl,rfl,rfl,.inr ⟨rfl,rfl,rfl,rfl⟩⟩,tv⟩ rfl ?_;refine⟨F',rfl,Fz.r _,rfl,fun _ _ _ _ _ _ h=>h,Fz.r F,rfl,?_⟩;refine use (ze8 F s f (bnd p (a0::ar)).1 (bnd p (a0::ar)).2 hs O) [(1,1)] rfl ⟨rfl,rfl,rfl,tv⟩ rfl ⟨za9 _ _,tv⟩ (by simp[SV.below,SA.below]) ⟨rfl,tv⟩ ?_;rintro R S m n0 ac ⟨rfl,rfl,d⟩;by_cases Y:zcg s f (bnd p (a0::ar)).1 (bnd p (a0::ar)).2=true
    ·rw[if_pos Y]at d l;obtain⟨I,G⟩:=d;subst I;subst G;have aj:=zge (ze7 Y);have V:i64 (getI s f).2.1:=⟨by omega,by omega⟩
     refine⟨Fz.r F,rfl,Fz.r F,rfl,nb rfl,[encI (getI s f).1],rfl,rfl,rfl,by simp,rfl,by show(ar.length+1+1)*8<=140737488355328;omega,fun c' hc=>?_⟩;have U:((a0::ar)++[(getI s f).1]).length<=c':=by rw[qb];exact hc
     clear hc;refine⟨Fz.r F,rfl,?_⟩
     exact⟨⟨((a0::ar)++[(getI s f).1],c',(getI s f).2.1),by simp;omega,U,V,by rw[l];simp⟩,by show cols p - (a0::ar++[(getI s f).1]).length < cols p - (ar.length+1);simp;omega,
      leR [(4,6)] hH hT rfl ⟨tv,za9 s _,zhs (by omega) _ _ _,zai za3 _ _ _ _ _,tv⟩ trivial ⟨Fz.r F,rfl,zqu (μ:=sig [(4,6)]) (j:=6) rfl c' _ [] (a0::ar) (getI s f).1 rfl,zau za3 (zbp _ (by simp)),tv⟩⟩
    ·rw[if_neg Y]at d l;obtain⟨I,G⟩:=d;subst I;subst G;refine clean [] (.panic perr) F [(1,rdr s f)] 2 ⟨Fz.r F,rfl,?_⟩ rfl rfl rfl trivial ⟨za9 s _,tv⟩ ⟨Fz.r F,rfl,tv⟩;rw[i,l];exact⟨f,rfl,rfl,rfl⟩
   ·have gl:¬(ar.length+1) < cols p:=by have m:¬(((ar.length+1):Nat):Int) < cols p:=oe u;omega
    clear u
    have ad:numsS s p (cols p) [] q=some (a0::ar,f):=by
     rw[B];show numsS s p (cols p - (ar.length+1)) (a0::ar) f=_;rw[show cols p - (ar.length+1)=0 by omega,numsS]
    rw[ad]at i
    replace i:lineS s p a q=if p=2 then some (([],a0::ar),f)else match a.getLast? with
     |none=>some (([],a0::ar),f)
     |some x=>if cmpL (x.2.take 2) ((a0::ar).take 2) < 0 then some (([],a0::ar),f)else none:=i
    have fin:∀(h:Hp) (nx:Nat),lineS s p a q=some (([],a0::ar),f)->lget h 0=some (.frz F)->lget h 1=some (rdr s f)->lget h 4=some (gE 3 1 encI c (a0::ar))->
      (∀k,resP h 4 k=(4,k))->Cln 2 (fun o S m n0=>Fz.le F S/\F=S/\match lineS s p a q with
       |some (x,f)=>∃c,x.2.length<=c/\n0=3/\o=.ret (.agg [.str x.1,gA 1 2 c x.2])/\m=[(1,rdr s f),(2,gE 3 1 encI c x.2)]
       |none=>∃f,n0=2/\o=.panic perr/\m=[(1,rdr s f)]) (.ret (.agg [.str [],.slice false 4 0 0 1 (ar.length+1) c])) h nx:=by
     intro h nx L m h1 h4 hr;refine clean [(2,4)] (.ret (.agg [.str [],.slice false 2 0 0 1 (ar.length+1) c])) F [(1,rdr s f),(2,gE 3 1 encI c (a0::ar))] 3 ⟨Fz.r F,rfl,?_⟩ ?_ rfl rfl (Out.bB_ok (o:=.ret (.agg [.str [],.slice false 2 0 0 1 (ar.length+1) c])) rfl) ⟨za9 s _,zai za3 _ _ _ _ _,tv⟩ ?_
     ·rw[L];exact⟨c,D,rfl,rfl,rfl⟩
     ·show SV.agg [.str [],.slice false 4 0 0 1 (ar.length+1) c]=SV.agg [.str [],.slice false (resP h 4 0).1 (resP h 4 0).2 0 1 (ar.length+1) c];rw[hr 0]
     ·refine⟨?_,?_,?_,tv⟩
      ·show subE (lget h 0) (.frz F);rw[m];exact Fz.r F
      ·show subE (lget h 1) ((rdr s f).ren (sig [(2,4)]));rw[h1];rfl
      ·show subE (lget h 4) ((gE 3 1 encI c (a0::ar)).ren (sig [(2,4)]));rw[h4];exact zau za3 (za2 _ _ _ _)
    refine⟨fun g2=>?_,fun g2=>?_⟩
    ·have K:¬p=2:=by simpa using g2
     rw[if_neg K]at i;refine br (fun u=>?_) (fun u=>?_)
     ·have aa:0 < a.length:=by have m:(0:Int) < a.length:=od u;omega
      clear u;have gk:a.length - 1 < a.length:=by omega
      have W:a.getLast? =some a[a.length - 1]:=by rw[List.getLast?_eq_getElem?,qc gk]
      rw[W]at i;replace i:lineS s p a q=if cmpL (a[a.length - 1].2.take 2) ((a0::ar).take 2) < 0 then some (([],a0::ar),f)else none:=i
      have A:=ah ⟨g1,K⟩ _ (qz gk)
      have ai:2<=ar.length+1:=by
       have E:p=3\/p=4\/p=5:=by omega
       have:3<=cols p:=by rcases E with rfl | rfl | rfl<;>decide
       omega
      replace D:ar.length+1<=c:=D;have ew:IntKind.i64.wrap ((a.length:Int) - 1)=((a.length - 1:Nat):Int):=by rw[zaj (by omega) (by omega)];omega
      refine drawP hΘ mixed (lk [0,1,2,3,4,5,6,7,8,9,10] (.alt 11 (.look 12 (.alt 13 .done .nil)) .nil)) [3] (by kernel_rfl) ?_;conv=>whnf
      have ab:=SlR.at b4 gk;obtain⟨y,hy,ya,rfl,ak⟩:=ab;have al:=ak.resolve_left (by intro h;rw[h]at A;simp at A);obtain⟨am,J⟩:=al;obtain⟨zn,zb,ze,zc,zL,zr,rfl,z1,z2,z3,z4⟩:=am;replace J:a[a.length - 1].2.length<=zc:=J;rcases zn with _ | _
      ·refine⟨SlR.lt b1 gk,⟨by rw[ew];omega,by rw[ew];omega⟩,rfl,_,b2 (SlR.lt b1 gk),_,by dsimp only;rw[ew];exact hy,?_⟩;refine⟨⟨by decide,by show(2:Int)<=(zc:Int);omega⟩,rfl,⟨by decide,by show(2:Int)<=(c:Int);omega⟩,?_⟩;refine borrow 4 (fun _=>.arr 3 1 ((a0::ar).map encI) c) rfl rfl rfl (fun _ _=>zcp _ (a0::ar) _) (fun _ _=>zb2 _ _ _) ?_;intro b F' Q w;have ag:(((a0::ar).map encI).drop 0).take (a0::ar).length=(a0::ar).map encI:=by rw[yz,qi (by simp)]
       refine usePu (zwv F' _ _ (a[a.length - 1].2.take 2) ((a0::ar).take 2) (take2 (cap:=zc - 0) (e':=if zc=0 then ze else ze+0) (Q _ _ (z2 rfl)) z3 z4 A (by split<;>rfl)) (take2 (cap:=c - 0) (e':=if c=0 then 0 else 0+0) (w 0 ⟨rfl,rfl⟩) (by simp) ag (by simpa using ai) (by split<;>rfl)) (by rw[qj];omega)) rfl ⟨⟨rfl,rfl,rfl,.inr ⟨rfl,rfl,rfl,rfl⟩⟩,⟨rfl,rfl,rfl,.inr ⟨rfl,rfl,rfl,rfl⟩⟩,tv⟩ rfl ?_;refine⟨F',rfl,Fz.r _,rfl,fun _ _ _ _ _ _ h=>h,Fz.r F,rfl,?_⟩;refine useFo (zcw F (decide (cmpL (a[a.length - 1].2.take 2) ((a0::ar).take 2) < 0))) rfl ⟨rfl,tv⟩ rfl ?_;rintro _ _ l1 ⟨rfl,⟨w,rfl⟩ | ⟨w,rfl⟩⟩
       ·refine⟨Fz.r F,rfl,?_⟩;exact fin _ _ (by rw[i,if_pos (od w)]) rfl rfl rfl (fun _=>rfl)
       ·refine clean [] (.panic perr) F [(1,rdr s f)] 2 ⟨Fz.r F,rfl,?_⟩ rfl rfl rfl trivial ⟨za9 s _,tv⟩ ⟨Fz.r F,rfl,tv⟩;rw[i,if_neg (oe w)];exact⟨f,rfl,rfl,rfl⟩
      ·have:=z1 rfl;rw[this]at A;simp at A
     ·have aa:a=[]:=by
       have m:¬(0:Int) < a.length:=oe u;exact y6.1 (by omega)
      exact fin _ _ (by rw[i,aa];rfl) rfl rfl rfl (fun _=>rfl)
    ·have K:p=2:=by simpa using g2
     rw[if_pos K]at i;exact fin _ _ i rfl rfl rfl (fun _=>rfl)
def nA(B k c:Nat):List Int->SA
 |[]=>.nilsl
 |_::r=>.slice false B k 0 1 (r.length+1) c
def zby(B:Nat)(caps:Nat->Nat):Nat->List Ln->List (List SA)
 |_,[]=>[]
 |j,x::r=>[.str x.1,nA B j (caps j) x.2]::zby B caps (j+1) r
theorem zjg(B:Nat)(caps:Nat->Nat):∀(j:Nat) (l:List Ln),(zby B caps j l).length=l.length
 |_,[]=>rfl
 |j,x::r=>by rw[zby,qf,qf,zjg]
theorem zm5(B:Nat)(caps:Nat->Nat):∀(j:Nat) (l:List Ln) (x:Ln),zby B caps j (l++[x])=zby B caps j l++[[.str x.1,nA B (j+l.length) (caps (j+l.length)) x.2]]
 |j,[],x=>by simp[zby]
 |j,y::r,x=>by
  rw[yk,zby,zby,zm5 B caps (j+1) r x,yk,qf];have:j+1+r.length=j+(r.length+1):=by omega
  rw[this]
theorem zeg(B:Nat)(caps:Nat->Nat):∀(j:Nat) (l:List Ln) (k:Nat) (x:Ln),l[k]? =some x->(zby B caps j l)[k]? =some [.str x.1,nA B (j+k) (caps (j+k)) x.2]
 |j,y::r,0,x,h=>by simp at h;subst h;simp[zby]
 |j,y::r,k+1,x,h=>by
  rw[zby,qbd,zeg B caps (j+1) r k x (by simpa using h)];have:j+1+k=j+(k+1):=by omega
  rw[this]
theorem zq5(μ:Mu)(B k c:Nat)(n:List Int):(nA B k c n).ren μ=match n with
  |[]=>.nilsl
  |_::r=>.slice false (μ B k).1 (μ B k).2 0 1 (r.length+1) c:=by cases n<;>rfl
theorem ze0{μ:Mu}{B B':Nat}{caps caps':Nat->Nat}{m:Nat}(h:∀k,k < m->μ B k=(B',k)/\caps k=caps' k):∀(j:Nat) (l:List Ln),j+l.length<=m->(zby B caps j l).map (List.map (SA.ren μ))=zby B' caps' j l
 |_,[],_=>rfl
 |j,x::r,hl=>by
  rw[qf]at hl;obtain⟨h1,a⟩:=h j (by omega);rw[zby,zby,q8,ze0 h (j+1) r (by omega)]
  congr 1
  simp only[q8,yx,zq5,h1,a];cases x.2<;>rfl
def famE(caps:Nat->Nat)(l:List Ln):Ent:=.fam l.length (fun k=>!((l.map (·.2)).getD k []).isEmpty) (fun k=>.arr 3 1 (((l.map (·.2)).getD k []).map encI) (caps k))
def zbn(B:Nat)(caps:Nat->Nat)(c:Nat)(l:List Ln):Ent:=.opt (!l.isEmpty) (.arr 259 2 (zby B caps 0 l) c)
theorem zjc(_:Nat->Nat){l:List Ln}{k:Nat}{x:Ln}(h:l[k]? =some x):(l.map (·.2)).getD k []=x.2:=by
 rw[ym,qs,h];rfl
theorem zkb(μ:Mu)(caps:Nat->Nat)(l:List Ln):(famE caps l).ren μ=famE caps l:=by
 show Ent.fam _ _ _=Ent.fam _ _ _
 congr 1
 funext k;exact zcp μ _ _
theorem zay(n:Nat)(caps:Nat->Nat)(l:List Ln):(famE caps l).below n:=fun _ _ _=>zb2 n _ _
theorem z4j{n B:Nat}(h:B < n)(k c:Nat)(l:List Int):(nA B k c l).below n:=by
 cases l with
 |nil=>trivial
 |cons x r=>exact .inr h
theorem zjx{n B:Nat}(h:B < n)(caps:Nat->Nat):∀(j:Nat) (l:List Ln),∀y∈zby B caps j l,∀a∈y,a.below n
 |_,[],y,hy,_,_=>by simp[zby]at hy
 |j,x::r,y,hy,a,ha=>by
  rcases ql.1 hy with rfl | hy
  ·simp only[ql,qt,or_false]at ha;rcases ha with rfl | rfl
   ·trivial
   ·exact z4j h _ _ _
  ·exact zjx h caps (j+1) r y hy a ha
theorem zaq{n B:Nat}(h:B < n)(caps:Nat->Nat)(c:Nat)(l:List Ln):(zbn B caps c l).below n:=zjx h caps 0 l
theorem z8q{F:Fz}{b c:Nat}{bf caps:Nat->Nat}{l:List Ln}(_:l≠[])(m:F b=some (.arr 259 2 ((zby 5 caps 0 l).map (List.map (SA.ren (fun i k=>if i=5 then(0,bf k)else(i,k))))) c))
  (n:∀k,(famE caps l).has k->F (bf k)=some ((famE caps l).at k))(d:∀k x,l[k]? =some x->x.2.length<=caps k):zxn F (.slice false 0 b 0 2 l.length c) l:=by
 refine⟨false,b,0,c,_,c,rfl,fun h=>(nomatch h),fun _=>m,by rw[qa,zjg];omega,fun k x g=>?_⟩;have h1:=zeg 5 caps 0 l k x g;rw[qv]at h1;refine⟨_,by rw[qv,qs,h1];rfl,?_⟩;refine⟨_,rfl,?_⟩;rw[zq5];have o:=(qh.1 g).1;have a:=zjc caps g;have j:=d k x g;cases p:x.2 with
 |nil=>exact .inl rfl
 |cons y r=>
  rw[p]at a j;have f:(famE caps l).has k:=⟨o,by show(!((l.map (·.2)).getD k []).isEmpty)=true;rw[a];rfl⟩
  have:=n k f;have e:(famE caps l).at k=.arr 3 1 ((y::r).map encI) (caps k):=by show SB.arr 3 1 (((l.map (·.2)).getD k []).map encI) (caps k)=_;rw[a]
  rw[e]at this;exact .inr ⟨Sl.new (l:=y::r) this,j⟩
