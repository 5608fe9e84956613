import Derived.Test.YtfnkamphhpldcaaGreatDoorK17
set_option maxHeartbeats 64000000
namespace Go.Proofs.YtfnkamphhpldcaaGreatDoor
open Go Sx Tryz
set_option maxRecDepth 100000
def perr:Value:=.iface 35 (.int .i64 70)
theorem dC(F:Fz)(b:Bool):Fo prog F 127 [.va (.bool b)] (fun o a=>F=a/\((b=true/\o=.ret (.tup []))\/(b=false/\o=.panic perr))):=by
 refine foS func127 ?_;refine br (fun g=>?_) (fun g=>?_)
 ·exact endFo (.panic perr) F rfl (Fz.r F) (Fz.r F) ⟨rfl,.inr ⟨not_t g,rfl⟩⟩ rfl rfl
 ·exact endFs (.ret (.tup [])) (Fz.r F) ⟨rfl,.inl ⟨by simpa using g,rfl⟩⟩
def rdr(s:List UInt8)(p:Int):Ent:=.one (.cells 257 [.str s,.int .i64 p])
theorem cD{n:Nat}(s:List UInt8)(p:Int):(rdr s p).below n:=(SB.bB_ok rfl:SB.below n (.cells 257 [.str s,.int .i64 p]))
def aX(s:List UInt8)(p b a:Int):Bool:=decide ((getI s p).2.2=0)&&(decide (b<=(getI s p).1)&&decide ((getI s p).1<=a))
theorem gV(F:Fz)(s:List UInt8)(p c b:Int)(q:s.length<=1000000000000000000)(m:i64 p):
  Ct prog 182 [.va (.ptr ⟨1,0,0,0,0⟩),.va (.int .i64 c),.va (.int .i64 b)] F [(1,rdr s p)] 2
   (fun o k j n0=>F=k/\n0=2/\(if aX s p c b=true then o=.ret (.va (.int .i64 (getI s p).1))/\j=[(1,rdr s (getI s p).2.1)]else o=.panic perr/\j=[(1,rdr s p)])):=by
 have d:=nF F s p q m;obtain⟨n,x,e,g⟩:∃n x e,getI s p=(n,x,e):=⟨_,_,_,rfl⟩
 have a:aX s p c b=(decide (e=0)&&(decide (c<=n)&&decide (n<=b))):=by rw[aX,g]
 rw[g]at d;have i:(getI s p).2.1=x:=by rw[g]
 have h:(getI s p).1=n:=by rw[g]
 refine ctS func182 ?_;refine dwS (lk [0,1,2,3,4,5,6,7] (.alt 8 (lk [9,10,11,12,13,14,15] .done) .nil)) [1] ?_;conv=>whnf
 repeat' ((conv=>whnf);first
  |refine⟨rfl,?_⟩
  |refine⟨Fz.r _,rfl,?_⟩
  |refine⟨Fz.r _,rfl,rfl,?_⟩
  |refine⟨⟨by simp,by simp⟩,?_⟩
  |fail)
 refine usePs (d) ?_;refine⟨Fz.r F,rfl,fun f=>?_,fun f=>?_⟩
 ·have l:e=0:=od f;refine usePs (fH n c b F) ?_;refine useFt (dC F (decide (c<=n)&&decide (n<=b))) ?_;rintro _ _ u ⟨rfl,⟨hb,rfl⟩ | ⟨hb,rfl⟩⟩
  ·refine clean [] (.ret (.va (.int .i64 n))) F [(1,rdr s x)] 2 ⟨Fz.r F,rfl,rfl,?_⟩ (aO _) rfl rfl trivial ⟨cD s _,tv⟩ ⟨Fz.r F,rfl,tv⟩;rw[a,if_pos (by rw[f,hb];rfl),h,i];exact⟨rfl,rfl⟩
  ·refine clean [] (.panic perr) F [(1,rdr s p)] 2 ⟨Fz.r F,rfl,rfl,?_⟩ rfl rfl rfl trivial ⟨cD s _,tv⟩ ⟨Fz.r F,rfl,tv⟩;rw[a,if_neg (by rw[hb];simp)];exact⟨rfl,rfl⟩
 ·refine useFt (dC F false) ?_;rintro _ _ u ⟨rfl,⟨hb,rfl⟩ | ⟨hb,rfl⟩⟩
  ·cases hb
  ·refine clean [] (.panic perr) F [(1,rdr s p)] 2 ⟨Fz.r F,rfl,rfl,?_⟩ rfl rfl rfl trivial ⟨cD s _,tv⟩ ⟨Fz.r F,rfl,tv⟩;rw[a,if_neg (by rw[f];simp)];exact⟨rfl,rfl⟩
theorem yA(F:Fz)(s:List UInt8)(p:Int)(j:s.length<=1000000000000000000)(i:i64 p):
  Ct prog 183 [.va (.ptr ⟨1,0,0,0,0⟩)] F [(1,rdr s p)] 2
   (fun o h g n0=>F=h/\n0=2/\(if(getS s p).2.2=0 then o=.ret (.va (.str (getS s p).1))/\g=[(1,rdr s (getS s p).2.1)]else o=.panic perr/\g=[(1,rdr s p)])):=by
 have b:=o8 F s p j i;obtain⟨n,x,e,c⟩:∃n x e,getS s p=(n,x,e):=⟨_,_,_,rfl⟩
 rw[c]at b;have a:(getS s p).2.2=e:=by rw[c]
 have f:(getS s p).2.1=x:=by rw[c]
 have d:(getS s p).1=n:=by rw[c]
 refine ctS func183 ?_;refine dwS (lk [0,1,2,3,4,5,6,7] (.alt 8 (lk [9,10,11,12,13,14,15] .done) .nil)) [1] ?_;conv=>whnf
 repeat' ((conv=>whnf);first
  |refine⟨rfl,?_⟩
  |refine⟨Fz.r _,rfl,?_⟩
  |refine⟨Fz.r _,rfl,rfl,?_⟩
  |refine⟨⟨by simp,by simp⟩,?_⟩
  |fail)
 refine usePs (b) ?_;refine⟨Fz.r F,rfl,?_⟩;refine useFt (dC F (decide (e=0))) ?_;rintro _ _ k ⟨rfl,⟨hb,rfl⟩ | ⟨hb,rfl⟩⟩
 ·refine clean [] (.ret (.va (.str n))) F [(1,rdr s x)] 2 ⟨Fz.r F,rfl,rfl,?_⟩ (aO _) rfl rfl trivial ⟨cD s _,tv⟩ ⟨Fz.r F,rfl,tv⟩;rw[a,if_pos (od hb),d,f];exact⟨rfl,rfl⟩
 ·refine clean [] (.panic perr) F [(1,rdr s p)] 2 ⟨Fz.r F,rfl,rfl,?_⟩ rfl rfl rfl trivial ⟨cD s _,tv⟩ ⟨Fz.r F,rfl,tv⟩;rw[a,if_neg (oe hb)];exact⟨rfl,rfl⟩
theorem xD(n:Int):Pu prog 277 [.va (.int .i64 n)] (.va (.bool false)):=by
 intro F;refine foS func277 ?_;refine endPu rfl (Fz.r F) (ob ?_) rfl;simp
def cmpI(a b:Int):Int:=if a < b then -1 else if b < a then 1 else 0
theorem yfu(a b:Int):Pu prog 263 [.va (.int .i64 a),.va (.int .i64 b)] (.va (.int .i64 (cmpI a b))):=by
 intro F;refine foS func263 ?_;refine usePs (xD a F) ?_;refine usePs (xD b F) ?_;refine brd dd ?_;refine brd dd ?_;refine br (fun g=>?_) (fun g=>?_)
 ·refine endPu rfl (Fz.r F) (oi ?_) rfl;rw[cmpI,if_pos (od g)]
 ·have c:¬a < b:=oe g;refine br (fun g=>?_) (fun g=>?_)
  ·refine endPu rfl (Fz.r F) (oi ?_) rfl;rw[cmpI,if_neg c,if_pos (od g)]
  ·refine endPu rfl (Fz.r F) (oi ?_) rfl;rw[cmpI,if_neg c,if_neg (oe g)]
def cmpL:List Int->List Int->Int
 |[],[]=>0
 |[],_::_=>-1
 |_::_,[]=>1
 |x::r,y::t=>if cmpI x y=0 then cmpL r t else cmpI x y
theorem zD{a b:List Int}{k:Nat}(c:k < a.length)(hb:k < b.length):cmpL (a.drop k) (b.drop k)=if cmpI a[k] b[k]=0 then cmpL (a.drop (k+1)) (b.drop (k+1))else cmpI a[k] b[k]:=by
 rw[ji c,ji hb,cmpL]
theorem Ei(F:Fz)(A B:SA)(a b:List Int)(D:eb F A a)(hb:eb F B b)(la:a.length < 1000000):
  Fo prog F 245 [.va A,.va B] (fun o n=>o=.ret (.va (.int .i64 (cmpL a b)))/\n=F):=by
 have fin:∀(v:Int) (h:Hp) (nx:Nat),cmpL a b=v->lget h 0=some (.frz F)->
   Cln 1 (FoK F fun o n=>o=.ret (.va (.int .i64 (cmpL a b)))/\n=F) (.ret (.va (.int .i64 v))) h nx:=by
  intro v h nx Y j;exact endPu j (Fz.r F) (oi Y) rfl
 obtain⟨L,I,K,J,G,M,rfl,l,u,E,w⟩:=D;obtain⟨U,R,T,S,Q,V,rfl,m,y,O,hb4⟩:=hb;refine foS func245 ?_;conv=>whnf
 refine aI hΘ (X:={ k:Nat // k<=a.length/\k<=b.length/\cmpL a b=cmpL (a.drop k) (b.drop k) }) (fun k=>[(11,.va (.int .i64 k.1))]) (4::5::6::7::8::jr 12 19 []) (fz fun _=>F) 1 (fun k=>a.length - k.1) ⟨0,by simp⟩
  (fun q s=>le0 q s rfl (Fz.r F) rfl ⟨rfl,tv⟩) ?_
 rintro⟨k,Z,W,d⟩ q s;refine br (fun g=>?_) (fun g=>?_)
 ·have g:k < a.length:=by simpa using g
  refine⟨Sl.lt l g,⟨by simp,by simpa using g⟩,_,u (Sl.lt l g),_,Sl.at w g,?_⟩;refine br (fun e=>?_) (fun e=>?_)
  ·have c:b.length=k:=by have j:(b.length:Int)<=k:=(by simpa using e);omega
   conv=>whnf
   have i:b.drop k=[]:=yg oo;exact fin 1 _ _ (by rw[d,ji g,i,cmpL]) rfl
  ·have c:k < b.length:=by have j:¬(b.length:Int)<=k:=(by simpa using e);omega
   rw[zD g c]at d;refine⟨Sl.lt m c,⟨by simp,by simpa using c⟩,_,y (Sl.lt m c),_,Sl.at hb4 c,?_⟩;refine usePs (yfu a[k] b[k] F) ?_;refine br (fun p=>?_) (fun p=>?_)
   ·have f:¬cmpI a[k] b[k]=0:=by simpa using p
    exact fin _ _ _ (by rw[d,if_neg f]) rfl
   ·have f:cmpI a[k] b[k]=0:=by simpa using p
    rw[if_pos f]at d;exact⟨⟨k+1,by omega,by omega,d⟩,by show a.length - (k+1) < a.length - k;omega,lr0 q s rfl (Fz.r F) rfl ⟨cnt oo,tv⟩⟩
 ·have g:¬k < a.length:=by simpa using g
  have x:a.drop k=[]:=yg oo;rw[x]at d;refine br (fun e=>?_) (fun e=>?_)
  ·have c:k < b.length:=by have j:(a.length:Int) < b.length:=(by simpa using e);omega
   exact fin (-1) _ _ (by rw[d,ji c,cmpL]) rfl
  ·have c:b.length<=k:=by have j:¬(a.length:Int) < b.length:=(by simpa using e);omega
   conv=>whnf
   have i:b.drop k=[]:=yg c;exact fin 0 _ _ (by rw[d,i,cmpL]) rfl
def cols(p:Int):Nat:=if p=2 then 1 else if p=3 then 3 else if p=4 then 4 else if p=5 then 3 else 0
theorem uk(p:Int)(b:1<=p/\p<=5):Pu prog 243 [.va (.int .i64 p)] (.va (.int .i64 (cols p))):=by
 intro F;have a:p=1\/p=2\/p=3\/p=4\/p=5:=by omega
 rcases a with rfl | rfl | rfl | rfl | rfl
 all_goals refine foS func243 ?_
 all_goals conv=>whnf
 all_goals refine⟨⟨by decide,by decide⟩,_,rfl,?_⟩
 all_goals conv=>whnf
 all_goals exact endPu rfl (Fz.r F) rfl rfl
def bnd(p:Int)(n:List Int):Int×Int:=
 if p=2 then(0,7)else if n.length < 2 then(0,31)else if p=4 then(0,n.getD (n.length - 2) 0)else if p=3 then(-1000000,1000000)else(-1000000000000,1000000000000)
theorem vf(F:Fz)(q:SA)(n:List Int)(p:Int)(s:eb F q n)(J:n.length < 1000000):
  Fo prog F 244 [.va (.int .i64 p),.va q] (fun o f=>o=.ret (.tup [.va (.int .i64 (bnd p n).1),.va (.int .i64 (bnd p n).2)])/\f=F):=by
 have fin:∀(x y:Int) (h:Hp) (nx:Nat),bnd p n=(x,y)->lget h 0=some (.frz F)->
   Cln 1 (FoK F fun o f=>o=.ret (.tup [.va (.int .i64 (bnd p n).1),.va (.int .i64 (bnd p n).2)])/\f=F) (.ret (.tup [.va (.int .i64 x),.va (.int .i64 y)])) h nx:=by
  intro x y h nx I k;exact endFo (.ret (.tup [.va (.int .i64 x),.va (.int .i64 y)])) F k (Fz.r F) (Fz.r F) ⟨by rw[I],rfl⟩ (aO _) rfl
 obtain⟨E,A,D,B,w,G,rfl,c,l,u,m⟩:=s;refine foS func244 ?_;refine br (fun g=>?_) (fun g=>?_)
 ·have a:p=2:=od g;exact fin 0 7 _ _ (by rw[bnd,if_pos a]) rfl
 ·have a:¬p=2:=oe g;refine br (fun g=>?_) (fun g=>?_)
  ·have b:n.length < 2:=by have k:(n.length:Int) < 2:=od g;omega
   exact fin 0 31 _ _ (by rw[bnd,if_neg a,if_pos b]) rfl
  ·have b:¬n.length < 2:=by have k:¬(n.length:Int) < 2:=oe g;omega
   refine br (fun g=>?_) (fun g=>?_)
   ·have d:p=4:=od g;have e:n.length - 2 < n.length:=by omega
    have i:IntKind.i64.wrap ((n.length:Int) - 2)=((n.length - 2:Nat):Int):=by rw[aF oo oo];omega
    refine dwS (lk [0,1,2,3,4,5,6] .done) [] ?_;refine⟨Sl.lt c e,⟨by rw[i];omega,by rw[i];omega⟩,rfl,_,l (Sl.lt c e),encI n[n.length - 2],by dsimp only;rw[i];exact Sl.at m e,?_⟩;refine fin 0 n[n.length - 2] _ _ ?_ rfl;rw[bnd,if_neg a,if_neg b,if_pos d,yp,qc e];rfl
   ·have d:¬p=4:=oe g;refine br (fun g=>?_) (fun g=>?_)
    ·have j:p=3:=od g;exact fin (-1000000) 1000000 _ _ (by rw[bnd,if_neg a,if_neg b,if_neg d,if_pos j]) rfl
    ·have j:¬p=3:=oe g;exact fin (-1000000000000) 1000000000000 _ _ (by rw[bnd,if_neg a,if_neg b,if_neg d,if_neg j]) rfl
theorem cG:Plain encI:=fun x=>⟨fun _=>rfl,fun a b=>by simp only[encI,qs]at b;subst b;trivial⟩
def badC(b:UInt8):Bool:=!(decide (32<=b.toNat)&&decide (b.toNat<=126))
def CFun:Prop:=∀(F:Fz) (s:List UInt8),s.length<=70000->Fo prog F 241 [.va (.str s),.va (.fn (.func 242) [])] (fun o a=>o=.ret (.va (.bool (s.any badC)))/\a=F)
def numsS(s:List UInt8)(p:Int):Nat->List Int->Int->Option (List Int×Int)
 |0,acc,q=>some (acc,q)
 |f+1,acc,q=>if aX s q (bnd p acc).1 (bnd p acc).2=true then numsS s p f (acc++[(getI s q).1]) (getI s q).2.1 else none
abbrev Ln:=List UInt8×List Int
def lineS(s:List UInt8)(p:Int)(a:List Ln)(q:Int):Option (Ln×Int):=
 if p=1 then
  if(getS s q).2.2=0/\(getS s q).1.length<=80/\(getS s q).1.any badC=false then some (((getS s q).1,[]),(getS s q).2.1)else none
 else match numsS s p (cols p) [] q with
  |none=>none
  |some (n,q')=>if p=2 then some (([],n),q')else match a.getLast? with
   |none=>some (([],n),q')
   |some x=>if cmpL (x.2.take 2) (n.take 2) < 0 then some (([],n),q')else none
def capN:SA->Nat
 |.slice _ _ _ _ _ _ cap=>cap
 |_=>0
abbrev yT(F:Fz)(sl:SA)(b:List Ln):Prop:=SlR F 259 2 (fun y x=>∃a,y=[.str x.1,a]/\(x.2=[]\/eb F a x.2/\x.2.length<=capN a)) sl b
theorem take2{F:Fz}{b e e' cap r:Nat}{L:List (List SA)}{l:List Int}(d:F b=some (.arr 3 1 L r))(h1:e+l.length<=L.length)(c:(L.drop e).take l.length=l.map encI)(g:2<=l.length)(f:e'=e):
  eb F (.slice false 0 b e' 1 2 cap) (l.take 2):=by
 subst f;have a:(l.take 2).length=2:=by rw[qn];omega
 refine⟨false,b,e',cap,L,r,by rw[a],fun h=>(nomatch h),fun _=>d,by rw[a];omega,?_⟩;rw[a,qde,<-c,qbl,qao g]
def lineE(c:Nat)(t:List UInt8)(n:List Int):Ent:=.one (.cells 259 [.str t,gA 1 4 c n])
theorem oy{m:Nat}(h:4 < m)(c:Nat)(t:List UInt8)(n:List Int):(lineE c t n).below m:=by
 intro a b;simp only[qi,qp,or_false]at b;rcases b with rfl | rfl
 ·trivial
 ·cases n with
  |nil=>trivial
  |cons x r=>exact .inr h
theorem vo{μ:Mu}{j:Nat}(h:μ 4 0=(j,0))(c n:Nat)(t:List UInt8)(l:List Int)(x:Int)(a:n=l.length+1):SB.cells 259 [.str t,.slice false j 0 0 1 n c]=SB.ren μ (.cells 259 [.str t,gA 1 4 c (l++[x])]):=by
 subst a;cases l with
 |nil=>simp only[gA,qw,SB.ren,q9,yu,SA.ren,h,qv]
 |cons y r=>simp only[gA,jz,SB.ren,q9,yu,SA.ren,h];simp
theorem gU{s:List UInt8}{q b a:Int}(h:aX s q b a=true):(getI s q).2.2=0:=by
 simp only[aX,qd,decide_eq_true_eq]at h;exact h.1
theorem qQ(ae:CFun)(F:Fz)(s:List UInt8)(p q:Int)(sl:SA)(a:List Ln)(hl:yT F sl a)(hs:s.length<=1000000000000000000)(hp:1<=p/\p<=5)(hq:i64 q)(an:a.length < 1000000)
  (ag:p≠1/\p≠2->∀x∈a,2<=x.2.length):
  Ct prog 185 [.va (.ptr ⟨1,0,0,0,0⟩),.va (.int .i64 p),.va sl] F [(1,rdr s q)] 2
   (fun o Q m n0=>F=Q/\match lineS s p a q with
    |some (x,f)=>∃c,x.2.length<=c/\n0=3/\o=.ret (.agg [.str x.1,gA 1 2 c x.2])/\m=[(1,rdr s f),(2,gE 3 1 encI c x.2)]
    |none=>∃f,n0=2/\o=.panic perr/\m=[(1,rdr s f)]):=by
 obtain⟨bn,bb,be,bc,bL,am,rfl,b1,b2,b3,b4⟩:=hl;have ad:=yA F s q hs hq;obtain⟨t,x,e,hg⟩:∃t x e,getS s q=(t,x,e):=⟨_,_,_,rfl⟩
 rw[hg]at ad;refine ctS func185 ?_;refine br (fun g=>?_) (fun g=>?_)
 ·have g1:p=1:=od g;have J:lineS s p a q=if(getS s q).2.2=0/\(getS s q).1.length<=80/\(getS s q).1.any badC=false then some (((getS s q).1,[]),(getS s q).2.1)else none:=by rw[lineS,if_pos g1]
  rw[hg]at J;replace J:lineS s p a q=if e=0/\t.length<=80/\t.any badC=false then some ((t,[]),x)else none:=J
  refine useS ad [(1,1)] ⟨cD _ _,tv⟩ ⟨rfl,tv⟩ ?_;rintro O Q m n0 ab ⟨rfl,rfl,d⟩;by_cases he:e=0
  ·rw[if_pos he]at d;obtain⟨E,hh⟩:=d;subst E;subst hh;refine⟨fun R=>?_,fun R=>?_⟩
   ·have W:t.length<=80:=by have m:(t.length:Int)<=80:=od R;omega
    refine usePs (ae F t oo) ?_;refine useFt (dC F (!t.any badC)) ?_;rintro _ _ l1 ⟨rfl,⟨hb,rfl⟩ | ⟨hb,rfl⟩⟩
    ·refine clean [(2,99)] (.ret (.agg [.str t,.nilsl])) F [(1,rdr s x),(2,gE 3 1 encI 0 [])] 3 ⟨Fz.r F,rfl,?_⟩ rfl rfl rfl (Out.bB_ok (o:=.ret (.agg [.str t,.nilsl])) rfl) ⟨cD s _,aC cG _ _ _ _ _,tv⟩ ⟨Fz.r F,rfl,rfl,tv⟩;rw[J,if_pos ⟨he,W,by simpa using hb⟩];exact⟨0,qj 0,rfl,rfl,rfl⟩
    ·refine clean [] (.panic perr) F [(1,rdr s x)] 2 ⟨Fz.r F,rfl,?_⟩ rfl rfl rfl trivial ⟨cD s _,tv⟩ ⟨Fz.r F,rfl,tv⟩;rw[J,if_neg (by simp at hb;simp[hb])];exact⟨x,rfl,rfl,rfl⟩
   ·have W:¬t.length<=80:=by have m:¬(t.length:Int)<=80:=oe R;omega
    refine useFt (dC F false) ?_;rintro _ _ l1 ⟨rfl,⟨hb,rfl⟩ | ⟨hb,rfl⟩⟩
    ·cases hb
    ·refine clean [] (.panic perr) F [(1,rdr s x)] 2 ⟨Fz.r F,rfl,?_⟩ rfl rfl rfl trivial ⟨cD s _,tv⟩ ⟨Fz.r F,rfl,tv⟩;rw[J,if_neg (by simp[W])];exact⟨x,rfl,rfl,rfl⟩
  ·rw[if_neg he]at d;obtain⟨E,hh⟩:=d;subst E;subst hh;refine clean [] (.panic perr) F [(1,rdr s q)] 2 ⟨Fz.r F,rfl,?_⟩ rfl rfl rfl trivial ⟨cD s _,tv⟩ ⟨Fz.r F,rfl,tv⟩;rw[J,if_neg (by simp[he])];exact⟨q,rfl,rfl,rfl⟩
 ·have g1:¬p=1:=oe g
  have i:lineS s p a q=match numsS s p (cols p) [] q with
   |none=>none
   |some (n,f)=>if p=2 then some (([],n),f)else match a.getLast? with
    |none=>some (([],n),f)
    |some x=>if cmpL (x.2.take 2) (n.take 2) < 0 then some (([],n),f)else none:=by rw[lineS,if_neg g1]
  have ao:cols p<=4:=by
   have D:p=1\/p=2\/p=3\/p=4\/p=5:=by omega
   rcases D with rfl | rfl | rfl | rfl | rfl<;>decide
  conv=>whnf
  refine aI hΘ (X:={ x:List Int×Nat×Int // x.1.length<=cols p/\x.1.length<=x.2.1/\i64 x.2.2/\numsS s p (cols p) [] q=numsS s p (cols p - x.1.length) x.1 x.2.2 }) (fun _=>[]) (jr 25 19 [])
   (fun x=>[(0,.frz F),(1,rdr s x.1.2.2),(3,lineE x.1.2.1 [] x.1.1),(4,gE 3 1 encI x.1.2.1 x.1.1)]) 5 (fun x=>cols p - x.1.1.length) ⟨([],0,q),by simp,by simp,hq,rfl⟩
   (fun hH hT=>leI [(4,4)] hH hT rfl ⟨tv,cD s _,oy oo _ _ _,aC cG _ _ _ _ _,tv⟩ trivial ⟨Fz.r F,rfl,rfl,rfl,tv⟩) ?_
  rintro⟨⟨acc,c,f⟩,K,B,L,A⟩ hH hT;replace B:acc.length<=c:=B;replace K:acc.length<=cols p:=K;replace L:i64 f:=L;replace A:numsS s p (cols p) [] q=numsS s p (cols p - acc.length) acc f:=A;rcases acc with _ | ⟨a0,ar⟩
  ·refine dwS (lk [0,1,2,3] (.alt 4 (.look 5 .done) .nil)) [3] ?_;conv=>whnf
   repeat' ((conv=>whnf);first
    |refine⟨rfl,?_⟩
    |refine⟨Fz.r _,rfl,?_⟩
    |refine⟨Fz.r _,rfl,rfl,?_⟩
    |refine⟨⟨by simp,by simp⟩,?_⟩
    |fail)
   refine usePs (uk p hp F) ?_;refine⟨Fz.r F,rfl,?_⟩;refine br (fun u=>?_) (fun u=>?_)
   ·have gl:0 < cols p:=by have m:((0:Nat):Int) < cols p:=od u;omega
    clear u;have hf:cols p - 0=(cols p - (0+1))+1:=by omega
    have l:numsS s p (cols p) [] q=if aX s f (bnd p []).1 (bnd p []).2=true then numsS s p (cols p - (0+1)) ([]++[(getI s f).1]) (getI s f).2.1 else none:=by
     rw[A];show numsS s p (cols p - 0) [] f=_;rw[hf,numsS]
    refine dwS (lk [0,1,2,3,4,5] (.alt 6 (.look 7 (.look 8 (.alt 9 (.alt 10 (.alt 11 (.look 12 (.last 13 .done)) .nil) .nil) .nil))) .nil)) [3] ?_;conv=>whnf
    repeat' ((conv=>whnf);first
     |refine⟨rfl,?_⟩
     |refine⟨Fz.r _,rfl,?_⟩
     |refine⟨Fz.r _,rfl,rfl,?_⟩
     |refine⟨⟨by simp,by simp⟩,?_⟩
     |fail)
    refine usePt (vf F _ [] p Sl.nil ss) ?_;refine⟨Fz.r F,rfl,?_⟩;refine useS (gV F s f (bnd p []).1 (bnd p []).2 hs L) [(1,1)] ⟨cD _ _,tv⟩ ⟨rfl,tv⟩ ?_;rintro O Q m n0 ab ⟨rfl,rfl,d⟩;by_cases V:aX s f (bnd p []).1 (bnd p []).2=true
    ·rw[if_pos V]at d l;obtain⟨E,hh⟩:=d;subst E;subst hh;have ai:=e8 (gU V);have T:i64 (getI s f).2.1:=⟨by omega,by omega⟩
     refine⟨Fz.r F,rfl,Fz.r F,rfl,nb rfl,[encI (getI s f).1],rfl,rfl,rfl,nb rfl,fun c' hc=>?_⟩;have S:([]++[(getI s f).1]).length<=c':=hc;clear hc;refine⟨Fz.r F,rfl,?_⟩
     exact⟨⟨([]++[(getI s f).1],c',(getI s f).2.1),by simp;omega,S,T,by rw[l];rfl⟩,by show cols p - 1 < cols p - 0;omega,
      leR [(4,6)] hH hT rfl ⟨tv,cD s _,oy oo _ _ _,aC cG _ _ _ _ _,tv⟩ trivial ⟨Fz.r F,rfl,vo (μ:=sig [(4,6)]) (j:=6) rfl c' _ [] [] (getI s f).1 rfl,aH cG (bC [encI (getI s f).1] rfl),tv⟩⟩
    ·rw[if_neg V]at d l;obtain⟨E,hh⟩:=d;subst E;subst hh;refine clean [] (.panic perr) F [(1,rdr s f)] 2 ⟨Fz.r F,rfl,?_⟩ rfl rfl rfl trivial ⟨cD s _,tv⟩ ⟨Fz.r F,rfl,tv⟩;rw[i,l];exact⟨f,rfl,rfl,rfl⟩
   ·have gl:¬0 < cols p:=by have m:¬((0:Nat):Int) < cols p:=oe u;omega
    clear u;have D:p=2\/p=3\/p=4\/p=5:=by omega
    exfalso;rcases D with rfl | rfl | rfl | rfl<;>exact gl dd
  ·replace K:ar.length+1<=cols p:=K;refine dwS (lk [0,1,2,3] (.alt 4 (.look 5 .done) .nil)) [3] ?_;conv=>whnf
   repeat' ((conv=>whnf);first
    |refine⟨rfl,?_⟩
    |refine⟨Fz.r _,rfl,?_⟩
    |refine⟨Fz.r _,rfl,rfl,?_⟩
    |refine⟨⟨by simp,by simp⟩,?_⟩
    |fail)
   refine usePs (uk p hp F) ?_;refine⟨Fz.r F,rfl,?_⟩;refine br (fun u=>?_) (fun u=>?_)
   ·have gl:(ar.length+1) < cols p:=by have m:(((ar.length+1):Nat):Int) < cols p:=od u;omega
    clear u;have hf:cols p - (ar.length+1)=(cols p - ((ar.length+1)+1))+1:=by omega
    have l:numsS s p (cols p) [] q=if aX s f (bnd p (a0::ar)).1 (bnd p (a0::ar)).2=true then numsS s p (cols p - ((ar.length+1)+1)) ((a0::ar)++[(getI s f).1]) (getI s f).2.1 else none:=by
     rw[A];show numsS s p (cols p - (ar.length+1)) (a0::ar) f=_;rw[hf,numsS]
    refine dwS (lk [0,1,2,3,4,5] (.alt 6 (.look 7 (.look 8 (.alt 9 (.alt 10 (.alt 11 (.look 12 (.last 13 .done)) .nil) .nil) .nil))) .nil)) [3] ?_;conv=>whnf
    repeat' ((conv=>whnf);first
     |refine⟨rfl,?_⟩
     |refine⟨Fz.r _,rfl,?_⟩
     |refine⟨Fz.r _,rfl,rfl,?_⟩
     |refine⟨⟨by simp,by simp⟩,?_⟩
     |fail)
    refine borrow 4 (fun _=>.arr 3 1 ((a0::ar).map encI) c) rfl rfl rfl (fun _ _=>es _ (a0::ar) _) (fun _ _=>eq _ _ _) ?_;intro b Y M hb;refine usePt (vf Y _ (a0::ar) p (Sl.new (hb 0 ⟨rfl,rfl⟩)) (by simp;omega)) ?_;refine⟨Y,rfl,Fz.r _,rfl,fun _ _ _ _ _ _ h=>h,Fz.r F,rfl,?_⟩;refine useS (gV F s f (bnd p (a0::ar)).1 (bnd p (a0::ar)).2 hs L) [(1,1)] ⟨cD _ _,tv⟩ ⟨rfl,tv⟩ ?_;rintro O Q m n0 ab ⟨rfl,rfl,d⟩;by_cases V:aX s f (bnd p (a0::ar)).1 (bnd p (a0::ar)).2=true
    ·rw[if_pos V]at d l;obtain⟨E,hh⟩:=d;subst E;subst hh;have ai:=e8 (gU V);have T:i64 (getI s f).2.1:=⟨by omega,by omega⟩
     refine⟨Fz.r F,rfl,Fz.r F,rfl,nb rfl,[encI (getI s f).1],rfl,rfl,rfl,by simp,rfl,by show(ar.length+1+1)*8<=140737488355328;omega,fun c' hc=>?_⟩;have S:((a0::ar)++[(getI s f).1]).length<=c':=by rw[qb];exact hc
     clear hc;refine⟨Fz.r F,rfl,?_⟩
     exact⟨⟨((a0::ar)++[(getI s f).1],c',(getI s f).2.1),by simp;omega,S,T,by rw[l];simp⟩,by show cols p - (a0::ar++[(getI s f).1]).length < cols p - (ar.length+1);simp;omega,
      leR [(4,6)] hH hT rfl ⟨tv,cD s _,oy oo _ _ _,aC cG _ _ _ _ _,tv⟩ trivial ⟨Fz.r F,rfl,vo (μ:=sig [(4,6)]) (j:=6) rfl c' _ [] (a0::ar) (getI s f).1 rfl,aH cG (bC _ ss),tv⟩⟩
    ·rw[if_neg V]at d l;obtain⟨E,hh⟩:=d;subst E;subst hh;refine clean [] (.panic perr) F [(1,rdr s f)] 2 ⟨Fz.r F,rfl,?_⟩ rfl rfl rfl trivial ⟨cD s _,tv⟩ ⟨Fz.r F,rfl,tv⟩;rw[i,l];exact⟨f,rfl,rfl,rfl⟩
   ·have gl:¬(ar.length+1) < cols p:=by have m:¬(((ar.length+1):Nat):Int) < cols p:=oe u;omega
    clear u
    have ac:numsS s p (cols p) [] q=some (a0::ar,f):=by
     rw[A];show numsS s p (cols p - (ar.length+1)) (a0::ar) f=_;rw[show cols p - (ar.length+1)=0 by omega,numsS]
    rw[ac]at i
    replace i:lineS s p a q=if p=2 then some (([],a0::ar),f)else match a.getLast? with
     |none=>some (([],a0::ar),f)
     |some x=>if cmpL (x.2.take 2) ((a0::ar).take 2) < 0 then some (([],a0::ar),f)else none:=i
    have fin:∀(h:Hp) (nx:Nat),lineS s p a q=some (([],a0::ar),f)->lget h 0=some (.frz F)->lget h 1=some (rdr s f)->lget h 4=some (gE 3 1 encI c (a0::ar))->
      (∀k,resP h 4 k=(4,k))->Cln 2 (fun o Q m n0=>Fz.le F Q/\F=Q/\match lineS s p a q with
       |some (x,f)=>∃c,x.2.length<=c/\n0=3/\o=.ret (.agg [.str x.1,gA 1 2 c x.2])/\m=[(1,rdr s f),(2,gE 3 1 encI c x.2)]
       |none=>∃f,n0=2/\o=.panic perr/\m=[(1,rdr s f)]) (.ret (.agg [.str [],.slice false 4 0 0 1 (ar.length+1) c])) h nx:=by
     intro h nx J m h1 h4 hr;refine clean [(2,4)] (.ret (.agg [.str [],.slice false 2 0 0 1 (ar.length+1) c])) F [(1,rdr s f),(2,gE 3 1 encI c (a0::ar))] 3 ⟨Fz.r F,rfl,?_⟩ ?_ rfl rfl (Out.bB_ok (o:=.ret (.agg [.str [],.slice false 2 0 0 1 (ar.length+1) c])) rfl) ⟨cD s _,aC cG _ _ _ _ _,tv⟩ ?_
     ·rw[J];exact⟨c,B,rfl,rfl,rfl⟩
     ·show SV.agg [.str [],.slice false 4 0 0 1 (ar.length+1) c]=SV.agg [.str [],.slice false (resP h 4 0).1 (resP h 4 0).2 0 1 (ar.length+1) c];rw[hr 0]
     ·refine⟨?_,?_,?_,tv⟩
      ·show subE (lget h 0) (.frz F);rw[m];exact Fz.r F
      ·show subE (lget h 1) ((rdr s f).ren (sig [(2,4)]));rw[h1];rfl
      ·show subE (lget h 4) ((gE 3 1 encI c (a0::ar)).ren (sig [(2,4)]));rw[h4];exact aH cG (aV _ _ _ _)
    refine⟨fun g2=>?_,fun g2=>?_⟩
    ·have I:¬p=2:=by simpa using g2
     rw[if_neg I]at i;refine br (fun u=>?_) (fun u=>?_)
     ·have Z:0 < a.length:=by have m:(0:Int) < a.length:=od u;omega
      clear u;have gk:a.length - 1 < a.length:=by omega
      have U:a.getLast? =some a[a.length - 1]:=by rw[qc6,qc gk]
      rw[U]at i;replace i:lineS s p a q=if cmpL (a[a.length - 1].2.take 2) ((a0::ar).take 2) < 0 then some (([],a0::ar),f)else none:=i
      have w:=ag ⟨g1,I⟩ _ (qt gk)
      have ah:2<=ar.length+1:=by
       have D:p=3\/p=4\/p=5:=by omega
       have:3<=cols p:=by rcases D with rfl | rfl | rfl<;>decide
       omega
      replace B:ar.length+1<=c:=B;have ew:IntKind.i64.wrap ((a.length:Int) - 1)=((a.length - 1:Nat):Int):=by rw[aF oo oo];omega
      refine dwS (lk [0,1,2,3,4,5,6,7,8,9,10] (.alt 11 (.look 12 (.alt 13 .done .nil)) .nil)) [3] ?_;conv=>whnf
      have aa:=SlR.at b4 gk;obtain⟨y,hy,ya,rfl,aj⟩:=aa;have ak:=aj.resolve_left (by intro h;rw[h]at w;simp at w);obtain⟨al,G⟩:=ak;obtain⟨zn,zb,ze,zc,zL,zr,rfl,z1,z2,z3,z4⟩:=al;replace G:a[a.length - 1].2.length<=zc:=G;rcases zn with _ | _
      ·refine⟨SlR.lt b1 gk,⟨by rw[ew];omega,by rw[ew];omega⟩,rfl,_,b2 (SlR.lt b1 gk),_,by dsimp only;rw[ew];exact hy,?_⟩;refine⟨⟨by decide,by show(2:Int)<=(zc:Int);omega⟩,rfl,⟨by decide,by show(2:Int)<=(c:Int);omega⟩,?_⟩;refine borrow 4 (fun _=>.arr 3 1 ((a0::ar).map encI) c) rfl rfl rfl (fun _ _=>es _ (a0::ar) _) (fun _ _=>eq _ _ _) ?_;intro b Y M hb;have af:(((a0::ar).map encI).drop 0).take (a0::ar).length=(a0::ar).map encI:=by rw[y5,qk ss]
       refine usePt (Ei Y _ _ (a[a.length - 1].2.take 2) ((a0::ar).take 2) (take2 (cap:=zc - 0) (e':=if zc=0 then ze else ze+0) (M _ _ (z2 rfl)) z3 z4 w (by split<;>rfl)) (take2 (cap:=c - 0) (e':=if c=0 then 0 else 0+0) (hb 0 ⟨rfl,rfl⟩) ss af (by simpa using ah) (by split<;>rfl)) (by rw[qn];omega)) ?_;refine⟨Y,rfl,Fz.r _,rfl,fun _ _ _ _ _ _ h=>h,Fz.r F,rfl,?_⟩;refine useFt (dC F (decide (cmpL (a[a.length - 1].2.take 2) ((a0::ar).take 2) < 0))) ?_;rintro _ _ l1 ⟨rfl,⟨hb,rfl⟩ | ⟨hb,rfl⟩⟩
       ·refine⟨Fz.r F,rfl,?_⟩;exact fin _ _ (by rw[i,if_pos (od hb)]) rfl rfl rfl (fun _=>rfl)
       ·refine clean [] (.panic perr) F [(1,rdr s f)] 2 ⟨Fz.r F,rfl,?_⟩ rfl rfl rfl trivial ⟨cD s _,tv⟩ ⟨Fz.r F,rfl,tv⟩;rw[i,if_neg (oe hb)];exact⟨f,rfl,rfl,rfl⟩
      ·have:=z1 rfl;rw[this]at w;simp at w
     ·have Z:a=[]:=by
       have m:¬(0:Int) < a.length:=oe u;exact y8.1 oo
      exact fin _ _ (by rw[i,Z];rfl) rfl rfl rfl (fun _=>rfl)
    ·have I:p=2:=by simpa using g2
     rw[if_pos I]at i;exact fin _ _ i rfl rfl rfl (fun _=>rfl)
def nA(B k c:Nat):List Int->SA
 |[]=>.nilsl
 |_::r=>.slice false B k 0 1 (r.length+1) c
def bI(B:Nat)(caps:Nat->Nat):Nat->List Ln->List (List SA)
 |_,[]=>[]
 |j,x::r=>[.str x.1,nA B j (caps j) x.2]::bI B caps (j+1) r
theorem oI(B:Nat)(caps:Nat->Nat):∀(j:Nat) (l:List Ln),(bI B caps j l).length=l.length
 |_,[]=>rfl
 |j,x::r=>by rw[bI,qf,qf,oI]
theorem tX(B:Nat)(caps:Nat->Nat):∀(j:Nat) (l:List Ln) (x:Ln),bI B caps j (l++[x])=bI B caps j l++[[.str x.1,nA B (j+l.length) (caps (j+l.length)) x.2]]
 |j,[],x=>by simp[bI]
 |j,y::r,x=>by
  rw[jz,bI,bI,tX B caps (j+1) r x,jz,qf];have:j+1+r.length=j+(r.length+1):=by omega
  rw[this]
theorem gO(B:Nat)(caps:Nat->Nat):∀(j:Nat) (l:List Ln) (k:Nat) (x:Ln),l[k]? =some x->(bI B caps j l)[k]? =some [.str x.1,nA B (j+k) (caps (j+k)) x.2]
 |j,y::r,0,x,h=>by simp at h;subst h;simp[bI]
 |j,y::r,k+1,x,h=>by
  rw[bI,qbj,gO B caps (j+1) r k x (by simpa using h)];have:j+1+k=j+(k+1):=by omega
  rw[this]
theorem kY(μ:Mu)(B k c:Nat)(n:List Int):(nA B k c n).ren μ=match n with
  |[]=>.nilsl
  |_::r=>.slice false (μ B k).1 (μ B k).2 0 1 (r.length+1) c:=by cases n<;>rfl
theorem ix{μ:Mu}{B B':Nat}{caps caps':Nat->Nat}{m:Nat}(h:∀k,k < m->μ B k=(B',k)/\caps k=caps' k):∀(j:Nat) (l:List Ln),j+l.length<=m->(bI B caps j l).map (List.map (SA.ren μ))=bI B' caps' j l
 |_,[],_=>rfl
 |j,x::r,hl=>by
  rw[qf]at hl;obtain⟨h1,a⟩:=h j oo;rw[bI,bI,q9,ix h (j+1) r oo]
  congr 1
  simp only[q9,yu,kY,h1,a];cases x.2<;>rfl
def famE(caps:Nat->Nat)(l:List Ln):Ent:=.fam l.length (fun k=>!((l.map (·.2)).getD k []).isEmpty) (fun k=>.arr 3 1 (((l.map (·.2)).getD k []).map encI) (caps k))
def bF(B:Nat)(caps:Nat->Nat)(c:Nat)(l:List Ln):Ent:=.opt (!l.isEmpty) (.arr 259 2 (bI B caps 0 l) c)
theorem iN(_:Nat->Nat){l:List Ln}{k:Nat}{x:Ln}(h:l[k]? =some x):(l.map (·.2)).getD k []=x.2:=by
 rw[yp,qu,h];rfl
theorem ma(μ:Mu)(caps:Nat->Nat)(l:List Ln):(famE caps l).ren μ=famE caps l:=by
 show Ent.fam _ _ _=Ent.fam _ _ _
 congr 1
 funext k;exact es μ _ _
theorem cW(n:Nat)(caps:Nat->Nat)(l:List Ln):(famE caps l).below n:=fun _ _ _=>eq n _ _
theorem CE{n B:Nat}(h:B < n)(k c:Nat)(l:List Int):(nA B k c l).below n:=by
 cases l with
 |nil=>trivial
 |cons x r=>exact .inr h
theorem th{n B:Nat}(h:B < n)(caps:Nat->Nat):∀(j:Nat) (l:List Ln),∀y∈bI B caps j l,∀a∈y,a.below n
 |_,[],y,hy,_,_=>by simp[bI]at hy
 |j,x::r,y,hy,a,ha=>by
  rcases qi.1 hy with rfl | hy
  ·simp only[qi,qp,or_false]at ha;rcases ha with rfl | rfl
   ·trivial
   ·exact CE h _ _ _
  ·exact th h caps (j+1) r y hy a ha
theorem cV{n B:Nat}(h:B < n)(caps:Nat->Nat)(c:Nat)(l:List Ln):(bF B caps c l).below n:=th h caps 0 l
theorem ydn{F:Fz}{b c:Nat}{bf caps:Nat->Nat}{l:List Ln}(_:l≠[])(hb:F b=some (.arr 259 2 ((bI 5 caps 0 l).map (List.map (SA.ren (fun i k=>if i=5 then(0,bf k)else(i,k))))) c))
  (m:∀k,(famE caps l).has k->F (bf k)=some ((famE caps l).at k))(d:∀k x,l[k]? =some x->x.2.length<=caps k):yT F (.slice false 0 b 0 2 l.length c) l:=by
 refine⟨false,b,0,c,_,c,rfl,fun h=>(nomatch h),fun _=>hb,by rw[qa,oI];omega,fun k x g=>?_⟩;have h1:=gO 5 caps 0 l k x g;rw[qz]at h1;refine⟨_,by rw[qz,qu,h1];rfl,?_⟩;refine⟨_,rfl,?_⟩;rw[kY];have n:=(qh.1 g).1;have a:=iN caps g;have j:=d k x g;cases o:x.2 with
 |nil=>exact .inl rfl
 |cons y r=>
  rw[o]at a j;have f:(famE caps l).has k:=⟨n,by show(!((l.map (·.2)).getD k []).isEmpty)=true;rw[a];rfl⟩
  have:=m k f;have e:(famE caps l).at k=.arr 3 1 ((y::r).map encI) (caps k):=by show SB.arr 3 1 (((l.map (·.2)).getD k []).map encI) (caps k)=_;rw[a]
  rw[e]at this;exact .inr ⟨Sl.new (l:=y::r) this,j⟩
