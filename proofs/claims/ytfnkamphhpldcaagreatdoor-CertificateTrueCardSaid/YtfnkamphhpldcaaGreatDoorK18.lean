import Derived.Test.YtfnkamphhpldcaaGreatDoorK17
set_option maxHeartbeats 64000000
namespace Go.Proofs.YtfnkamphhpldcaaGreatDoor
open Go Sx
set_option maxRecDepth 100000
def perr:Value:=.iface 35 (.int .i64 70)
theorem zc3(F:Fz)(b:Bool):Fo Tryz.prog F 127 [.va (.bool b)] (fun o a=>F=a/\((b=true/\o=.ret (.tup []))\/(b=false/\o=.panic perr))):=by
 refine foS Tryz.func127 ?_;refine br (fun g=>?_) (fun g=>?_)
 ·exact endFo (.panic perr) F rfl (Fz.r F) (Fz.r F) ⟨rfl,.inr ⟨not_t g,rfl⟩⟩ rfl rfl
 ·exact endFs (.ret (.tup [])) (Fz.r F) ⟨rfl,.inl ⟨by simpa using g,rfl⟩⟩
def rdr(s:List UInt8)(p:Int):Ent:=.one (.cells 257 [.str s,.int .i64 p])
theorem za9{n:Nat}(s:List UInt8)(p:Int):(rdr s p).below n:=(SB.bB_ok rfl:SB.below n (.cells 257 [.str s,.int .i64 p]))
def zbd(s:List UInt8)(p b a:Int):Bool:=decide ((getI s p).2.2=0)&&(decide (b<=(getI s p).1)&&decide ((getI s p).1<=a))
theorem zfq(F:Fz)(s:List UInt8)(p c b:Int)(q:s.length<=1000000000000000000)(m:i64 p):
  Ct Tryz.prog 182 [.va (.ptr ⟨1,0,0,0,0⟩),.va (.int .i64 c),.va (.int .i64 b)] F [(1,rdr s p)] 2
   (fun o k j n0=>F=k/\n0=2/\(if zbd s p c b=true then o=.ret (.va (.int .i64 (getI s p).1))/\j=[(1,rdr s (getI s p).2.1)]else o=.panic perr/\j=[(1,rdr s p)])):=by
 have d:=zz6 F s p q m;obtain⟨n,x,e,g⟩:∃n x e,getI s p=(n,x,e):=⟨_,_,_,rfl⟩
 have a:zbd s p c b=(decide (e=0)&&(decide (c<=n)&&decide (n<=b))):=by rw[zbd,g]
 rw[g]at d;have i:(getI s p).2.1=x:=by rw[g]
 have h:(getI s p).1=n:=by rw[g]
 refine ctS Tryz.func182 ?_;refine dwS (lk [0,1,2,3,4,5,6,7] (.alt 8 (lk [9,10,11,12,13,14,15] .done) .nil)) [1] ?_;conv=>whnf
 repeat' ((conv=>whnf);first
  |refine⟨rfl,?_⟩
  |refine⟨Fz.r _,rfl,?_⟩
  |refine⟨Fz.r _,rfl,rfl,?_⟩
  |refine⟨⟨by simp,by simp⟩,?_⟩
  |fail)
 refine usePs (d) ?_;refine⟨Fz.r F,rfl,fun f=>?_,fun f=>?_⟩
 ·have l:e=0:=od f;refine usePs (zeh n c b F) ?_;refine useFt (zc3 F (decide (c<=n)&&decide (n<=b))) ?_;rintro _ _ u ⟨rfl,⟨hb,rfl⟩ | ⟨hb,rfl⟩⟩
  ·refine clean [] (.ret (.va (.int .i64 n))) F [(1,rdr s x)] 2 ⟨Fz.r F,rfl,rfl,?_⟩ (zal _) rfl rfl trivial ⟨za9 s _,tv⟩ ⟨Fz.r F,rfl,tv⟩;rw[a,if_pos (by rw[f,hb];rfl),h,i];exact⟨rfl,rfl⟩
  ·refine clean [] (.panic perr) F [(1,rdr s p)] 2 ⟨Fz.r F,rfl,rfl,?_⟩ rfl rfl rfl trivial ⟨za9 s _,tv⟩ ⟨Fz.r F,rfl,tv⟩;rw[a,if_neg (by rw[hb];simp)];exact⟨rfl,rfl⟩
 ·refine useFt (zc3 F false) ?_;rintro _ _ u ⟨rfl,⟨hb,rfl⟩ | ⟨hb,rfl⟩⟩
  ·cases hb
  ·refine clean [] (.panic perr) F [(1,rdr s p)] 2 ⟨Fz.r F,rfl,rfl,?_⟩ rfl rfl rfl trivial ⟨za9 s _,tv⟩ ⟨Fz.r F,rfl,tv⟩;rw[a,if_neg (by rw[f];simp)];exact⟨rfl,rfl⟩
theorem zvr(F:Fz)(s:List UInt8)(p:Int)(j:s.length<=1000000000000000000)(i:i64 p):
  Ct Tryz.prog 183 [.va (.ptr ⟨1,0,0,0,0⟩)] F [(1,rdr s p)] 2
   (fun o h g n0=>F=h/\n0=2/\(if(getS s p).2.2=0 then o=.ret (.va (.str (getS s p).1))/\g=[(1,rdr s (getS s p).2.1)]else o=.panic perr/\g=[(1,rdr s p)])):=by
 have b:=zr1 F s p j i;obtain⟨n,x,e,c⟩:∃n x e,getS s p=(n,x,e):=⟨_,_,_,rfl⟩
 rw[c]at b;have a:(getS s p).2.2=e:=by rw[c]
 have f:(getS s p).2.1=x:=by rw[c]
 have d:(getS s p).1=n:=by rw[c]
 refine ctS Tryz.func183 ?_;refine dwS (lk [0,1,2,3,4,5,6,7] (.alt 8 (lk [9,10,11,12,13,14,15] .done) .nil)) [1] ?_;conv=>whnf
 repeat' ((conv=>whnf);first
  |refine⟨rfl,?_⟩
  |refine⟨Fz.r _,rfl,?_⟩
  |refine⟨Fz.r _,rfl,rfl,?_⟩
  |refine⟨⟨by simp,by simp⟩,?_⟩
  |fail)
 refine usePs (b) ?_;refine⟨Fz.r F,rfl,?_⟩;refine useFt (zc3 F (decide (e=0))) ?_;rintro _ _ k ⟨rfl,⟨hb,rfl⟩ | ⟨hb,rfl⟩⟩
 ·refine clean [] (.ret (.va (.str n))) F [(1,rdr s x)] 2 ⟨Fz.r F,rfl,rfl,?_⟩ (zal _) rfl rfl trivial ⟨za9 s _,tv⟩ ⟨Fz.r F,rfl,tv⟩;rw[a,if_pos (od hb),d,f];exact⟨rfl,rfl⟩
 ·refine clean [] (.panic perr) F [(1,rdr s p)] 2 ⟨Fz.r F,rfl,rfl,?_⟩ rfl rfl rfl trivial ⟨za9 s _,tv⟩ ⟨Fz.r F,rfl,tv⟩;rw[a,if_neg (oe hb)];exact⟨rfl,rfl⟩
theorem zu1(n:Int):Pu Tryz.prog 277 [.va (.int .i64 n)] (.va (.bool false)):=by
 intro F;refine foS Tryz.func277 ?_;refine endPu rfl (Fz.r F) (ob ?_) rfl;simp
def cmpI(a b:Int):Int:=if a < b then -1 else if b < a then 1 else 0
theorem ycg(a b:Int):Pu Tryz.prog 263 [.va (.int .i64 a),.va (.int .i64 b)] (.va (.int .i64 (cmpI a b))):=by
 intro F;refine foS Tryz.func263 ?_;refine usePs (zu1 a F) ?_;refine usePs (zu1 b F) ?_;refine brd (by decide) ?_;refine brd (by decide) ?_;refine br (fun g=>?_) (fun g=>?_)
 ·refine endPu rfl (Fz.r F) (oi ?_) rfl;rw[cmpI,if_pos (od g)]
 ·have c:¬a < b:=oe g;refine br (fun g=>?_) (fun g=>?_)
  ·refine endPu rfl (Fz.r F) (oi ?_) rfl;rw[cmpI,if_neg c,if_pos (od g)]
  ·refine endPu rfl (Fz.r F) (oi ?_) rfl;rw[cmpI,if_neg c,if_neg (oe g)]
def cmpL:List Int->List Int->Int
 |[],[]=>0
 |[],_::_=>-1
 |_::_,[]=>1
 |x::r,y::t=>if cmpI x y=0 then cmpL r t else cmpI x y
theorem zy5{a b:List Int}{k:Nat}(c:k < a.length)(hb:k < b.length):cmpL (a.drop k) (b.drop k)=if cmpI a[k] b[k]=0 then cmpL (a.drop (k+1)) (b.drop (k+1))else cmpI a[k] b[k]:=by
 rw[jk c,jk hb,cmpL]
theorem zwp(F:Fz)(B D:SA)(a b:List Int)(E:ze5 F B a)(hb:ze5 F D b)(la:a.length < 1000000):
  Fo Tryz.prog F 245 [.va B,.va D] (fun o p=>o=.ret (.va (.int .i64 (cmpL a b)))/\p=F):=by
 have d:∀(v:Int) (h:Hp) (nx:Nat),cmpL a b=v->lget h 0=some (.frz F)->
   Cln 1 (FoK F fun o p=>o=.ret (.va (.int .i64 (cmpL a b)))/\p=F) (.ret (.va (.int .i64 v))) h nx:=by
  intro v h nx Z l;exact endPu l (Fz.r F) (oi Z) rfl
 obtain⟨M,J,L,K,I,O,rfl,m,w,G,x⟩:=E;obtain⟨V,S,U,T,R,W,rfl,n,A,Q,hb4⟩:=hb;refine foS Tryz.func245 ?_;conv=>whnf
 refine zak hΘ (X:={ k:Nat // k<=a.length/\k<=b.length/\cmpL a b=cmpL (a.drop k) (b.drop k) }) (fun k=>[(11,.va (.int .i64 k.1))]) (4::5::6::7::8::jr 12 19 []) (fz fun _=>F) 1 (fun k=>a.length - k.1) ⟨0,by simp⟩
  (fun s u=>le0 s u rfl (Fz.r F) rfl ⟨rfl,tv⟩) ?_
 rintro⟨k,hk,Y,e⟩ s u;refine br (fun g=>?_) (fun g=>?_)
 ·have g:k < a.length:=by simpa using g
  refine⟨Sl.lt m g,⟨by simp,by simpa using g⟩,_,w (Sl.lt m g),_,Sl.at x g,?_⟩;refine br (fun f=>?_) (fun f=>?_)
  ·have c:b.length=k:=by have l:(b.length:Int)<=k:=(by simpa using f);omega
   conv=>whnf
   have j:b.drop k=[]:=yf (by omega);exact d 1 _ _ (by rw[e,jk g,j,cmpL]) rfl
  ·have c:k < b.length:=by have l:¬(b.length:Int)<=k:=(by simpa using f);omega
   rw[zy5 g c]at e;refine⟨Sl.lt n c,⟨by simp,by simpa using c⟩,_,A (Sl.lt n c),_,Sl.at hb4 c,?_⟩;refine usePs (ycg a[k] b[k] F) ?_;refine br (fun q=>?_) (fun q=>?_)
   ·have i:¬cmpI a[k] b[k]=0:=by simpa using q
    exact d _ _ _ (by rw[e,if_neg i]) rfl
   ·have i:cmpI a[k] b[k]=0:=by simpa using q
    rw[if_pos i]at e;exact⟨⟨k+1,by omega,by omega,e⟩,by show a.length - (k+1) < a.length - k;omega,lr0 s u rfl (Fz.r F) rfl ⟨cnt (by omega),tv⟩⟩
 ·have g:¬k < a.length:=by simpa using g
  have y:a.drop k=[]:=yf (by omega);rw[y]at e;refine br (fun f=>?_) (fun f=>?_)
  ·have c:k < b.length:=by have l:(a.length:Int) < b.length:=(by simpa using f);omega
   exact d (-1) _ _ (by rw[e,jk c,cmpL]) rfl
  ·have c:b.length<=k:=by have l:¬(a.length:Int) < b.length:=(by simpa using f);omega
   conv=>whnf
   have j:b.drop k=[]:=yf c;exact d 0 _ _ (by rw[e,j,cmpL]) rfl
def cols(p:Int):Nat:=if p=2 then 1 else if p=3 then 3 else if p=4 then 4 else if p=5 then 3 else 0
theorem zmw(p:Int)(b:1<=p/\p<=5):Pu Tryz.prog 243 [.va (.int .i64 p)] (.va (.int .i64 (cols p))):=by
 intro F;have a:p=1\/p=2\/p=3\/p=4\/p=5:=by omega
 rcases a with rfl | rfl | rfl | rfl | rfl
 all_goals refine foS Tryz.func243 ?_
 all_goals conv=>whnf
 all_goals refine⟨⟨by decide,by decide⟩,_,rfl,?_⟩
 all_goals conv=>whnf
 all_goals exact endPu rfl (Fz.r F) rfl rfl
def bnd(p:Int)(n:List Int):Int×Int:=
 if p=2 then(0,7)else if n.length < 2 then(0,31)else if p=4 then(0,n.getD (n.length - 2) 0)else if p=3 then(-1000000,1000000)else(-1000000000000,1000000000000)
theorem zpw(F:Fz)(s:SA)(n:List Int)(p:Int)(u:ze5 F s n)(K:n.length < 1000000):
  Fo Tryz.prog F 244 [.va (.int .i64 p),.va s] (fun o i=>o=.ret (.tup [.va (.int .i64 (bnd p n).1),.va (.int .i64 (bnd p n).2)])/\i=F):=by
 have a:∀(x y:Int) (h:Hp) (nx:Nat),bnd p n=(x,y)->lget h 0=some (.frz F)->
   Cln 1 (FoK F fun o i=>o=.ret (.tup [.va (.int .i64 (bnd p n).1),.va (.int .i64 (bnd p n).2)])/\i=F) (.ret (.tup [.va (.int .i64 x),.va (.int .i64 y)])) h nx:=by
  intro x y h nx J l;exact endFo (.ret (.tup [.va (.int .i64 x),.va (.int .i64 y)])) F l (Fz.r F) (Fz.r F) ⟨by rw[J],rfl⟩ (zal _) rfl
 obtain⟨G,B,E,D,A,I,rfl,d,m,w,q⟩:=u;refine foS Tryz.func244 ?_;refine br (fun g=>?_) (fun g=>?_)
 ·have b:p=2:=od g;exact a 0 7 _ _ (by rw[bnd,if_pos b]) rfl
 ·have b:¬p=2:=oe g;refine br (fun g=>?_) (fun g=>?_)
  ·have c:n.length < 2:=by have l:(n.length:Int) < 2:=od g;omega
   exact a 0 31 _ _ (by rw[bnd,if_neg b,if_pos c]) rfl
  ·have c:¬n.length < 2:=by have l:¬(n.length:Int) < 2:=oe g;omega
   refine br (fun g=>?_) (fun g=>?_)
   ·have e:p=4:=od g;have f:n.length - 2 < n.length:=by omega
    have j:IntKind.i64.wrap ((n.length:Int) - 2)=((n.length - 2:Nat):Int):=by rw[zah (by omega) (by omega)];omega
    refine dwS (lk [0,1,2,3,4,5,6] .done) [] ?_;refine⟨Sl.lt d f,⟨by rw[j];omega,by rw[j];omega⟩,rfl,_,m (Sl.lt d f),encI n[n.length - 2],by dsimp only;rw[j];exact Sl.at q f,?_⟩;refine a 0 n[n.length - 2] _ _ ?_ rfl;rw[bnd,if_neg b,if_neg c,if_pos e,y4,qa f];rfl
   ·have e:¬p=4:=oe g;refine br (fun g=>?_) (fun g=>?_)
    ·have k:p=3:=od g;exact a (-1000000) 1000000 _ _ (by rw[bnd,if_neg b,if_neg c,if_neg e,if_pos k]) rfl
    ·have k:¬p=3:=oe g;exact a (-1000000000000) 1000000000000 _ _ (by rw[bnd,if_neg b,if_neg c,if_neg e,if_neg k]) rfl
theorem za1:Plain encI:=fun x=>⟨fun _=>rfl,fun a b=>by simp only[encI,qz]at b;subst b;trivial⟩
def badC(b:UInt8):Bool:=!(decide (32<=b.toNat)&&decide (b.toNat<=126))
def CFun:Prop:=∀(F:Fz) (s:List UInt8),s.length<=70000->Fo Tryz.prog F 241 [.va (.str s),.va (.fn (.func 242) [])] (fun o a=>o=.ret (.va (.bool (s.any badC)))/\a=F)
def numsS(s:List UInt8)(p:Int):Nat->List Int->Int->Option (List Int×Int)
 |0,acc,q=>some (acc,q)
 |f+1,acc,q=>if zbd s q (bnd p acc).1 (bnd p acc).2=true then numsS s p f (acc++[(getI s q).1]) (getI s q).2.1 else none
abbrev Ln:=List UInt8×List Int
def lineS(s:List UInt8)(p:Int)(a:List Ln)(q:Int):Option (Ln×Int):=
 if p=1 then
  if(getS s q).2.2=0/\(getS s q).1.length<=80/\(getS s q).1.any badC=false then some (((getS s q).1,[]),(getS s q).2.1)else none
 else match numsS s p (cols p) [] q with
  |none=>none
  |some (n,q')=>if p=2 then some (([],n),q')else match a.getLast? with
   |none=>some (([],n),q')
   |some x=>if cmpL (x.2.take 2) (n.take 2) < 0 then some (([],n),q')else none
def capN:SA->Nat
 |.slice _ _ _ _ _ _ cap=>cap
 |_=>0
abbrev zx6(F:Fz)(sl:SA)(b:List Ln):Prop:=SlR F 259 2 (fun y x=>∃a,y=[.str x.1,a]/\(x.2=[]\/ze5 F a x.2/\x.2.length<=capN a)) sl b
theorem take2{F:Fz}{b e e' cap r:Nat}{L:List (List SA)}{l:List Int}(d:F b=some (.arr 3 1 L r))(h1:e+l.length<=L.length)(c:(L.drop e).take l.length=l.map encI)(g:2<=l.length)(f:e'=e):
  ze5 F (.slice false 0 b e' 1 2 cap) (l.take 2):=by
 subst f;have a:(l.take 2).length=2:=by rw[qo];omega
 refine⟨false,b,e',cap,L,r,by rw[a],fun h=>(nomatch h),fun _=>d,by rw[a];omega,?_⟩;rw[a,qc6,<-c,qbj,qaz g]
def lineE(c:Nat)(t:List UInt8)(n:List Int):Ent:=.one (.cells 259 [.str t,gA 1 4 c n])
theorem zib{m:Nat}(h:4 < m)(c:Nat)(t:List UInt8)(n:List Int):(lineE c t n).below m:=by
 intro a b;simp only[qn,qy,or_false]at b;rcases b with rfl | rfl
 ·trivial
 ·cases n with
  |nil=>trivial
  |cons x r=>exact .inr h
theorem zqq{μ:Mu}{j:Nat}(h:μ 4 0=(j,0))(c n:Nat)(t:List UInt8)(l:List Int)(x:Int)(a:n=l.length+1):SB.cells 259 [.str t,.slice false j 0 0 1 n c]=SB.ren μ (.cells 259 [.str t,gA 1 4 c (l++[x])]):=by
 subst a;cases l with
 |nil=>simp only[gA,qv,SB.ren,jm,yu,SA.ren,h,qu]
 |cons y r=>simp only[gA,jt,SB.ren,jm,yu,SA.ren,h];simp
theorem zfp{s:List UInt8}{q b a:Int}(h:zbd s q b a=true):(getI s q).2.2=0:=by
 simp only[zbd,qg,decide_eq_true_eq]at h;exact h.1
theorem zs2(ag:CFun)(F:Fz)(s:List UInt8)(p q:Int)(sl:SA)(a:List Ln)(hl:zx6 F sl a)(hs:s.length<=1000000000000000000)(hp:1<=p/\p<=5)(hq:i64 q)(ap:a.length < 1000000)
  (ai:p≠1/\p≠2->∀x∈a,2<=x.2.length):
  Ct Tryz.prog 185 [.va (.ptr ⟨1,0,0,0,0⟩),.va (.int .i64 p),.va sl] F [(1,rdr s q)] 2
   (fun o S w n0=>F=S/\match lineS s p a q with
    |some (x,f)=>∃c,x.2.length<=c/\n0=3/\o=.ret (.agg [.str x.1,gA 1 2 c x.2])/\w=[(1,rdr s f),(2,gE 3 1 encI c x.2)]
    |none=>∃f,n0=2/\o=.panic perr/\w=[(1,rdr s f)]):=by
 obtain⟨bn,bb,be,bc,bL,ao,rfl,b1,b2,b3,b4⟩:=hl;have af:=zvr F s q hs hq;obtain⟨t,x,e,hg⟩:∃t x e,getS s q=(t,x,e):=⟨_,_,_,rfl⟩
 rw[hg]at af;refine ctS Tryz.func185 ?_;refine br (fun g=>?_) (fun g=>?_)
 ·have g1:p=1:=od g;have L:lineS s p a q=if(getS s q).2.2=0/\(getS s q).1.length<=80/\(getS s q).1.any badC=false then some (((getS s q).1,[]),(getS s q).2.1)else none:=by rw[lineS,if_pos g1]
  rw[hg]at L;replace L:lineS s p a q=if e=0/\t.length<=80/\t.any badC=false then some ((t,[]),x)else none:=L
  refine useS af [(1,1)] ⟨za9 _ _,tv⟩ ⟨rfl,tv⟩ ?_;rintro R S w n0 ad ⟨rfl,rfl,d⟩;by_cases he:e=0
  ·rw[if_pos he]at d;obtain⟨I,hh⟩:=d;subst I;subst hh;refine⟨fun U=>?_,fun U=>?_⟩
   ·have aa:t.length<=80:=by have w:(t.length:Int)<=80:=od U;omega
    refine usePs (ag F t (by omega)) ?_;refine useFt (zc3 F (!t.any badC)) ?_;rintro _ _ l1 ⟨rfl,⟨hb,rfl⟩ | ⟨hb,rfl⟩⟩
    ·refine clean [(2,99)] (.ret (.agg [.str t,.nilsl])) F [(1,rdr s x),(2,gE 3 1 encI 0 [])] 3 ⟨Fz.r F,rfl,?_⟩ rfl rfl rfl (Out.bB_ok (o:=.ret (.agg [.str t,.nilsl])) rfl) ⟨za9 s _,zab za1 _ _ _ _ _,tv⟩ ⟨Fz.r F,rfl,rfl,tv⟩;rw[L,if_pos ⟨he,aa,by simpa using hb⟩];exact⟨0,qi 0,rfl,rfl,rfl⟩
    ·refine clean [] (.panic perr) F [(1,rdr s x)] 2 ⟨Fz.r F,rfl,?_⟩ rfl rfl rfl trivial ⟨za9 s _,tv⟩ ⟨Fz.r F,rfl,tv⟩;rw[L,if_neg (by simp at hb;simp[hb])];exact⟨x,rfl,rfl,rfl⟩
   ·have aa:¬t.length<=80:=by have w:¬(t.length:Int)<=80:=oe U;omega
    refine useFt (zc3 F false) ?_;rintro _ _ l1 ⟨rfl,⟨hb,rfl⟩ | ⟨hb,rfl⟩⟩
    ·cases hb
    ·refine clean [] (.panic perr) F [(1,rdr s x)] 2 ⟨Fz.r F,rfl,?_⟩ rfl rfl rfl trivial ⟨za9 s _,tv⟩ ⟨Fz.r F,rfl,tv⟩;rw[L,if_neg (by simp[aa])];exact⟨x,rfl,rfl,rfl⟩
  ·rw[if_neg he]at d;obtain⟨I,hh⟩:=d;subst I;subst hh;refine clean [] (.panic perr) F [(1,rdr s q)] 2 ⟨Fz.r F,rfl,?_⟩ rfl rfl rfl trivial ⟨za9 s _,tv⟩ ⟨Fz.r F,rfl,tv⟩;rw[L,if_neg (by simp[he])];exact⟨q,rfl,rfl,rfl⟩
 ·have g1:¬p=1:=oe g
  have l:lineS s p a q=match numsS s p (cols p) [] q with
   |none=>none
   |some (n,f)=>if p=2 then some (([],n),f)else match a.getLast? with
    |none=>some (([],n),f)
    |some x=>if cmpL (x.2.take 2) (n.take 2) < 0 then some (([],n),f)else none:=by rw[lineS,if_neg g1]
  have aq:cols p<=4:=by
   have G:p=1\/p=2\/p=3\/p=4\/p=5:=by omega
   rcases G with rfl | rfl | rfl | rfl | rfl<;>decide
  conv=>whnf
  refine zak hΘ (X:={ x:List Int×Nat×Int // x.1.length<=cols p/\x.1.length<=x.2.1/\i64 x.2.2/\numsS s p (cols p) [] q=numsS s p (cols p - x.1.length) x.1 x.2.2 }) (fun _=>[]) (jr 25 19 [])
   (fun x=>[(0,.frz F),(1,rdr s x.1.2.2),(3,lineE x.1.2.1 [] x.1.1),(4,gE 3 1 encI x.1.2.1 x.1.1)]) 5 (fun x=>cols p - x.1.1.length) ⟨([],0,q),by simp,by simp,hq,rfl⟩
   (fun hH hT=>leI [(4,4)] hH hT rfl ⟨tv,za9 s _,zib (by omega) _ _ _,zab za1 _ _ _ _ _,tv⟩ trivial ⟨Fz.r F,rfl,rfl,rfl,tv⟩) ?_
  rintro⟨⟨acc,c,f⟩,M,E,O,D⟩ hH hT;replace E:acc.length<=c:=E;replace M:acc.length<=cols p:=M;replace O:i64 f:=O;replace D:numsS s p (cols p) [] q=numsS s p (cols p - acc.length) acc f:=D;rcases acc with _ | ⟨m,i⟩
  ·refine dwS (lk [0,1,2,3] (.alt 4 (.look 5 .done) .nil)) [3] ?_;conv=>whnf
   repeat' ((conv=>whnf);first
    |refine⟨rfl,?_⟩
    |refine⟨Fz.r _,rfl,?_⟩
    |refine⟨Fz.r _,rfl,rfl,?_⟩
    |refine⟨⟨by simp,by simp⟩,?_⟩
    |fail)
   refine usePs (zmw p hp F) ?_;refine⟨Fz.r F,rfl,?_⟩;refine br (fun A=>?_) (fun A=>?_)
   ·have gl:0 < cols p:=by have w:((0:Nat):Int) < cols p:=od A;omega
    clear A;have hf:cols p - 0=(cols p - (0+1))+1:=by omega
    have u:numsS s p (cols p) [] q=if zbd s f (bnd p []).1 (bnd p []).2=true then numsS s p (cols p - (0+1)) ([]++[(getI s f).1]) (getI s f).2.1 else none:=by
     rw[D];show numsS s p (cols p - 0) [] f=_;rw[hf,numsS]
    refine dwS (lk [0,1,2,3,4,5] (.alt 6 (.look 7 (.look 8 (.alt 9 (.alt 10 (.alt 11 (.look 12 (.last 13 .done)) .nil) .nil) .nil))) .nil)) [3] ?_;conv=>whnf
    repeat' ((conv=>whnf);first
     |refine⟨rfl,?_⟩
     |refine⟨Fz.r _,rfl,?_⟩
     |refine⟨Fz.r _,rfl,rfl,?_⟩
     |refine⟨⟨by simp,by simp⟩,?_⟩
     |fail)
    refine usePt (zpw F _ [] p Sl.nil (by simp)) ?_;refine⟨Fz.r F,rfl,?_⟩;refine useS (zfq F s f (bnd p []).1 (bnd p []).2 hs O) [(1,1)] ⟨za9 _ _,tv⟩ ⟨rfl,tv⟩ ?_;rintro R S w n0 ad ⟨rfl,rfl,d⟩;by_cases Z:zbd s f (bnd p []).1 (bnd p []).2=true
    ·rw[if_pos Z]at d u;obtain⟨I,hh⟩:=d;subst I;subst hh;have ak:=zfl (zfp Z);have W:i64 (getI s f).2.1:=⟨by omega,by omega⟩
     refine⟨Fz.r F,rfl,Fz.r F,rfl,nb rfl,[encI (getI s f).1],rfl,rfl,rfl,nb rfl,fun c' hc=>?_⟩;have V:([]++[(getI s f).1]).length<=c':=hc;clear hc;refine⟨Fz.r F,rfl,?_⟩
     exact⟨⟨([]++[(getI s f).1],c',(getI s f).2.1),by simp;omega,V,W,by rw[u];rfl⟩,by show cols p - 1 < cols p - 0;omega,
      leR [(4,6)] hH hT rfl ⟨tv,za9 s _,zib (by omega) _ _ _,zab za1 _ _ _ _ _,tv⟩ trivial ⟨Fz.r F,rfl,zqq (μ:=sig [(4,6)]) (j:=6) rfl c' _ [] [] (getI s f).1 rfl,zaj za1 (za3 [encI (getI s f).1] rfl),tv⟩⟩
    ·rw[if_neg Z]at d u;obtain⟨I,hh⟩:=d;subst I;subst hh;refine clean [] (.panic perr) F [(1,rdr s f)] 2 ⟨Fz.r F,rfl,?_⟩ rfl rfl rfl trivial ⟨za9 s _,tv⟩ ⟨Fz.r F,rfl,tv⟩;rw[l,u];exact⟨f,rfl,rfl,rfl⟩
   ·have gl:¬0 < cols p:=by have w:¬((0:Nat):Int) < cols p:=oe A;omega
    clear A;have G:p=2\/p=3\/p=4\/p=5:=by omega
    exfalso;rcases G with rfl | rfl | rfl | rfl<;>exact gl (by decide)
  ·replace M:i.length+1<=cols p:=M;refine dwS (lk [0,1,2,3] (.alt 4 (.look 5 .done) .nil)) [3] ?_;conv=>whnf
   repeat' ((conv=>whnf);first
    |refine⟨rfl,?_⟩
    |refine⟨Fz.r _,rfl,?_⟩
    |refine⟨Fz.r _,rfl,rfl,?_⟩
    |refine⟨⟨by simp,by simp⟩,?_⟩
    |fail)
   refine usePs (zmw p hp F) ?_;refine⟨Fz.r F,rfl,?_⟩;refine br (fun A=>?_) (fun A=>?_)
   ·have gl:(i.length+1) < cols p:=by have w:(((i.length+1):Nat):Int) < cols p:=od A;omega
    clear A;have hf:cols p - (i.length+1)=(cols p - ((i.length+1)+1))+1:=by omega
    have u:numsS s p (cols p) [] q=if zbd s f (bnd p (m::i)).1 (bnd p (m::i)).2=true then numsS s p (cols p - ((i.length+1)+1)) ((m::i)++[(getI s f).1]) (getI s f).2.1 else none:=by
     rw[D];show numsS s p (cols p - (i.length+1)) (m::i) f=_;rw[hf,numsS]
    refine dwS (lk [0,1,2,3,4,5] (.alt 6 (.look 7 (.look 8 (.alt 9 (.alt 10 (.alt 11 (.look 12 (.last 13 .done)) .nil) .nil) .nil))) .nil)) [3] ?_;conv=>whnf
    repeat' ((conv=>whnf);first
     |refine⟨rfl,?_⟩
     |refine⟨Fz.r _,rfl,?_⟩
     |refine⟨Fz.r _,rfl,rfl,?_⟩
     |refine⟨⟨by simp,by simp⟩,?_⟩
     |fail)
    refine borrow 4 (fun _=>.arr 3 1 ((m::i).map encI) c) rfl rfl rfl (fun _ _=>zcx _ (m::i) _) (fun _ _=>zb7 _ _ _) ?_;intro b F' Q hb;refine usePt (zpw F' _ (m::i) p (Sl.new (hb 0 ⟨rfl,rfl⟩)) (by simp;omega)) ?_;refine⟨F',rfl,Fz.r _,rfl,fun _ _ _ _ _ _ h=>h,Fz.r F,rfl,?_⟩;refine useS (zfq F s f (bnd p (m::i)).1 (bnd p (m::i)).2 hs O) [(1,1)] ⟨za9 _ _,tv⟩ ⟨rfl,tv⟩ ?_;rintro R S w n0 ad ⟨rfl,rfl,d⟩;by_cases Z:zbd s f (bnd p (m::i)).1 (bnd p (m::i)).2=true
    ·rw[if_pos Z]at d u;obtain⟨I,hh⟩:=d;subst I;subst hh;have ak:=zfl (zfp Z);have W:i64 (getI s f).2.1:=⟨by omega,by omega⟩
     refine⟨Fz.r F,rfl,Fz.r F,rfl,nb rfl,[encI (getI s f).1],rfl,rfl,rfl,by simp,rfl,by show(i.length+1+1)*8<=140737488355328;omega,fun c' hc=>?_⟩;have V:((m::i)++[(getI s f).1]).length<=c':=by rw[qd];exact hc
     clear hc;refine⟨Fz.r F,rfl,?_⟩
     exact⟨⟨((m::i)++[(getI s f).1],c',(getI s f).2.1),by simp;omega,V,W,by rw[u];simp⟩,by show cols p - (m::i++[(getI s f).1]).length < cols p - (i.length+1);simp;omega,
      leR [(4,6)] hH hT rfl ⟨tv,za9 s _,zib (by omega) _ _ _,zab za1 _ _ _ _ _,tv⟩ trivial ⟨Fz.r F,rfl,zqq (μ:=sig [(4,6)]) (j:=6) rfl c' _ [] (m::i) (getI s f).1 rfl,zaj za1 (za3 _ (by simp)),tv⟩⟩
    ·rw[if_neg Z]at d u;obtain⟨I,hh⟩:=d;subst I;subst hh;refine clean [] (.panic perr) F [(1,rdr s f)] 2 ⟨Fz.r F,rfl,?_⟩ rfl rfl rfl trivial ⟨za9 s _,tv⟩ ⟨Fz.r F,rfl,tv⟩;rw[l,u];exact⟨f,rfl,rfl,rfl⟩
   ·have gl:¬(i.length+1) < cols p:=by have w:¬(((i.length+1):Nat):Int) < cols p:=oe A;omega
    clear A
    have ae:numsS s p (cols p) [] q=some (m::i,f):=by
     rw[D];show numsS s p (cols p - (i.length+1)) (m::i) f=_;rw[show cols p - (i.length+1)=0 by omega,numsS]
    rw[ae]at l
    replace l:lineS s p a q=if p=2 then some (([],m::i),f)else match a.getLast? with
     |none=>some (([],m::i),f)
     |some x=>if cmpL (x.2.take 2) ((m::i).take 2) < 0 then some (([],m::i),f)else none:=l
    have T:∀(h:Hp) (nx:Nat),lineS s p a q=some (([],m::i),f)->lget h 0=some (.frz F)->lget h 1=some (rdr s f)->lget h 4=some (gE 3 1 encI c (m::i))->
      (∀k,resP h 4 k=(4,k))->Cln 2 (fun o S w n0=>Fz.le F S/\F=S/\match lineS s p a q with
       |some (x,f)=>∃c,x.2.length<=c/\n0=3/\o=.ret (.agg [.str x.1,gA 1 2 c x.2])/\w=[(1,rdr s f),(2,gE 3 1 encI c x.2)]
       |none=>∃f,n0=2/\o=.panic perr/\w=[(1,rdr s f)]) (.ret (.agg [.str [],.slice false 4 0 0 1 (i.length+1) c])) h nx:=by
     intro h nx L w h1 h4 hr;refine clean [(2,4)] (.ret (.agg [.str [],.slice false 2 0 0 1 (i.length+1) c])) F [(1,rdr s f),(2,gE 3 1 encI c (m::i))] 3 ⟨Fz.r F,rfl,?_⟩ ?_ rfl rfl (Out.bB_ok (o:=.ret (.agg [.str [],.slice false 2 0 0 1 (i.length+1) c])) rfl) ⟨za9 s _,zab za1 _ _ _ _ _,tv⟩ ?_
     ·rw[L];exact⟨c,E,rfl,rfl,rfl⟩
     ·show SV.agg [.str [],.slice false 4 0 0 1 (i.length+1) c]=SV.agg [.str [],.slice false (resP h 4 0).1 (resP h 4 0).2 0 1 (i.length+1) c];rw[hr 0]
     ·refine⟨?_,?_,?_,tv⟩
      ·show subE (lget h 0) (.frz F);rw[w];exact Fz.r F
      ·show subE (lget h 1) ((rdr s f).ren (sig [(2,4)]));rw[h1];rfl
      ·show subE (lget h 4) ((gE 3 1 encI c (m::i)).ren (sig [(2,4)]));rw[h4];exact zaj za1 (zao _ _ _ _)
    refine⟨fun g2=>?_,fun g2=>?_⟩
    ·have K:¬p=2:=by simpa using g2
     rw[if_neg K]at l;refine br (fun A=>?_) (fun A=>?_)
     ·have ab:0 < a.length:=by have w:(0:Int) < a.length:=od A;omega
      clear A;have gk:a.length - 1 < a.length:=by omega
      have Y:a.getLast? =some a[a.length - 1]:=by rw[qc3,qa gk]
      rw[Y]at l;replace l:lineS s p a q=if cmpL (a[a.length - 1].2.take 2) ((m::i).take 2) < 0 then some (([],m::i),f)else none:=l
      have B:=ai ⟨g1,K⟩ _ (qw gk)
      have aj:2<=i.length+1:=by
       have G:p=3\/p=4\/p=5:=by omega
       have:3<=cols p:=by rcases G with rfl | rfl | rfl<;>decide
       omega
      replace E:i.length+1<=c:=E;have ew:IntKind.i64.wrap ((a.length:Int) - 1)=((a.length - 1:Nat):Int):=by rw[zah (by omega) (by omega)];omega
      refine dwS (lk [0,1,2,3,4,5,6,7,8,9,10] (.alt 11 (.look 12 (.alt 13 .done .nil)) .nil)) [3] ?_;conv=>whnf
      have ac:=SlR.at b4 gk;obtain⟨y,hy,ya,rfl,al⟩:=ac;have am:=al.resolve_left (by intro h;rw[h]at B;simp at B);obtain⟨an,J⟩:=am;obtain⟨zn,zb,ze,zc,zL,zr,rfl,z1,z2,z3,z4⟩:=an;replace J:a[a.length - 1].2.length<=zc:=J;rcases zn with _ | _
      ·refine⟨SlR.lt b1 gk,⟨by rw[ew];omega,by rw[ew];omega⟩,rfl,_,b2 (SlR.lt b1 gk),_,by dsimp only;rw[ew];exact hy,?_⟩;refine⟨⟨by decide,by show(2:Int)<=(zc:Int);omega⟩,rfl,⟨by decide,by show(2:Int)<=(c:Int);omega⟩,?_⟩;refine borrow 4 (fun _=>.arr 3 1 ((m::i).map encI) c) rfl rfl rfl (fun _ _=>zcx _ (m::i) _) (fun _ _=>zb7 _ _ _) ?_;intro b F' Q hb;have ah:(((m::i).map encI).drop 0).take (m::i).length=(m::i).map encI:=by rw[y8,qh (by simp)]
       refine usePt (zwp F' _ _ (a[a.length - 1].2.take 2) ((m::i).take 2) (take2 (cap:=zc - 0) (e':=if zc=0 then ze else ze+0) (Q _ _ (z2 rfl)) z3 z4 B (by split<;>rfl)) (take2 (cap:=c - 0) (e':=if c=0 then 0 else 0+0) (hb 0 ⟨rfl,rfl⟩) (by simp) ah (by simpa using aj) (by split<;>rfl)) (by rw[qo];omega)) ?_;refine⟨F',rfl,Fz.r _,rfl,fun _ _ _ _ _ _ h=>h,Fz.r F,rfl,?_⟩;refine useFt (zc3 F (decide (cmpL (a[a.length - 1].2.take 2) ((m::i).take 2) < 0))) ?_;rintro _ _ l1 ⟨rfl,⟨hb,rfl⟩ | ⟨hb,rfl⟩⟩
       ·refine⟨Fz.r F,rfl,?_⟩;exact T _ _ (by rw[l,if_pos (od hb)]) rfl rfl rfl (fun _=>rfl)
       ·refine clean [] (.panic perr) F [(1,rdr s f)] 2 ⟨Fz.r F,rfl,?_⟩ rfl rfl rfl trivial ⟨za9 s _,tv⟩ ⟨Fz.r F,rfl,tv⟩;rw[l,if_neg (oe hb)];exact⟨f,rfl,rfl,rfl⟩
      ·have:=z1 rfl;rw[this]at B;simp at B
     ·have ab:a=[]:=by
       have w:¬(0:Int) < a.length:=oe A;exact qao.1 (by omega)
      exact T _ _ (by rw[l,ab];rfl) rfl rfl rfl (fun _=>rfl)
    ·have K:p=2:=by simpa using g2
     rw[if_pos K]at l;exact T _ _ l rfl rfl rfl (fun _=>rfl)
def nA(B k c:Nat):List Int->SA
 |[]=>.nilsl
 |_::r=>.slice false B k 0 1 (r.length+1) c
def zb1(B:Nat)(caps:Nat->Nat):Nat->List Ln->List (List SA)
 |_,[]=>[]
 |j,x::r=>[.str x.1,nA B j (caps j) x.2]::zb1 B caps (j+1) r
theorem zjs(B:Nat)(caps:Nat->Nat):∀(j:Nat) (l:List Ln),(zb1 B caps j l).length=l.length
 |_,[]=>rfl
 |j,x::r=>by rw[zb1,qj,qj,zjs]
theorem znc(B:Nat)(caps:Nat->Nat):∀(j:Nat) (l:List Ln) (x:Ln),zb1 B caps j (l++[x])=zb1 B caps j l++[[.str x.1,nA B (j+l.length) (caps (j+l.length)) x.2]]
 |j,[],x=>by simp[zb1]
 |j,y::r,x=>by
  rw[jt,zb1,zb1,znc B caps (j+1) r x,jt,qj];have:j+1+r.length=j+(r.length+1):=by omega
  rw[this]
theorem zes(B:Nat)(caps:Nat->Nat):∀(j:Nat) (l:List Ln) (k:Nat) (x:Ln),l[k]? =some x->(zb1 B caps j l)[k]? =some [.str x.1,nA B (j+k) (caps (j+k)) x.2]
 |j,y::r,0,x,h=>by simp at h;subst h;simp[zb1]
 |j,y::r,k+1,x,h=>by
  rw[zb1,qcc,zes B caps (j+1) r k x (by simpa using h)];have:j+1+k=j+(k+1):=by omega
  rw[this]
theorem zq1(μ:Mu)(B k c:Nat)(n:List Int):(nA B k c n).ren μ=match n with
  |[]=>.nilsl
  |_::r=>.slice false (μ B k).1 (μ B k).2 0 1 (r.length+1) c:=by cases n<;>rfl
theorem zfe{μ:Mu}{B B':Nat}{caps caps':Nat->Nat}{m:Nat}(h:∀k,k < m->μ B k=(B',k)/\caps k=caps' k):∀(j:Nat) (l:List Ln),j+l.length<=m->(zb1 B caps j l).map (List.map (SA.ren μ))=zb1 B' caps' j l
 |_,[],_=>rfl
 |j,x::r,hl=>by
  rw[qj]at hl;obtain⟨h1,a⟩:=h j (by omega);rw[zb1,zb1,jm,zfe h (j+1) r (by omega)]
  congr 1
  simp only[jm,yu,zq1,h1,a];cases x.2<;>rfl
def famE(caps:Nat->Nat)(l:List Ln):Ent:=.fam l.length (fun k=>!((l.map (·.2)).getD k []).isEmpty) (fun k=>.arr 3 1 (((l.map (·.2)).getD k []).map encI) (caps k))
def zbq(B:Nat)(caps:Nat->Nat)(c:Nat)(l:List Ln):Ent:=.opt (!l.isEmpty) (.arr 259 2 (zb1 B caps 0 l) c)
theorem zjm(_:Nat->Nat){l:List Ln}{k:Nat}{x:Ln}(h:l[k]? =some x):(l.map (·.2)).getD k []=x.2:=by
 rw[y4,qt,h];rfl
theorem zkl(μ:Mu)(caps:Nat->Nat)(l:List Ln):(famE caps l).ren μ=famE caps l:=by
 show Ent.fam _ _ _=Ent.fam _ _ _
 congr 1
 funext k;exact zcx μ _ _
theorem zau(n:Nat)(caps:Nat->Nat)(l:List Ln):(famE caps l).below n:=fun _ _ _=>zb7 n _ _
theorem z6e{n B:Nat}(h:B < n)(k c:Nat)(l:List Int):(nA B k c l).below n:=by
 cases l with
 |nil=>trivial
 |cons x r=>exact .inr h
theorem zj9{n B:Nat}(h:B < n)(caps:Nat->Nat):∀(j:Nat) (l:List Ln),∀y∈zb1 B caps j l,∀a∈y,a.below n
 |_,[],y,hy,_,_=>by simp[zb1]at hy
 |j,x::r,y,hy,a,ha=>by
  rcases qn.1 hy with rfl | hy
  ·simp only[qn,qy,or_false]at ha;rcases ha with rfl | rfl
   ·trivial
   ·exact z6e h _ _ _
  ·exact zj9 h caps (j+1) r y hy a ha
theorem zaq{n B:Nat}(h:B < n)(caps:Nat->Nat)(c:Nat)(l:List Ln):(zbq B caps c l).below n:=zj9 h caps 0 l
theorem yah{F:Fz}{b c:Nat}{bf caps:Nat->Nat}{l:List Ln}(_:l≠[])(hb:F b=some (.arr 259 2 ((zb1 5 caps 0 l).map (List.map (SA.ren (fun i k=>if i=5 then(0,bf k)else(i,k))))) c))
  (m:∀k,(famE caps l).has k->F (bf k)=some ((famE caps l).at k))(d:∀k x,l[k]? =some x->x.2.length<=caps k):zx6 F (.slice false 0 b 0 2 l.length c) l:=by
 refine⟨false,b,0,c,_,c,rfl,fun h=>(nomatch h),fun _=>hb,by rw[qe,zjs];omega,fun k x g=>?_⟩;have h1:=zes 5 caps 0 l k x g;rw[qx]at h1;refine⟨_,by rw[qx,qt,h1];rfl,?_⟩;refine⟨_,rfl,?_⟩;rw[zq1];have n:=(ql.1 g).1;have a:=zjm caps g;have j:=d k x g;cases o:x.2 with
 |nil=>exact .inl rfl
 |cons y r=>
  rw[o]at a j;have f:(famE caps l).has k:=⟨n,by show(!((l.map (·.2)).getD k []).isEmpty)=true;rw[a];rfl⟩
  have:=m k f;have e:(famE caps l).at k=.arr 3 1 ((y::r).map encI) (caps k):=by show SB.arr 3 1 (((l.map (·.2)).getD k []).map encI) (caps k)=_;rw[a]
  rw[e]at this;exact .inr ⟨Sl.new (l:=y::r) this,j⟩
