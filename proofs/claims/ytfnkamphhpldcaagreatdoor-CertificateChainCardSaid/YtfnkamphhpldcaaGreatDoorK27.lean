import Derived.Test.YtfnkamphhpldcaaGreatDoorK26
import Derived.Test.YtfnkamphhpldcaaGreatDoorK21
set_option maxHeartbeats 64000000
namespace Go.Proofs.YtfnkamphhpldcaaGreatDoor
open Go Sx Tryz
set_option maxRecDepth 100000
def rrd(s:List UInt8)(p:Int)(b:Bool):Ent:=.one (.cells 189 [.str s,.int .i64 p,.lit b])
theorem cp{n:Nat}(s:List UInt8)(p:Int)(b:Bool):(rrd s p b).below n:=(SB.bB_ok rfl:SB.below n (.cells 189 [.str s,.int .i64 p,.lit b]))
def rdNum(s:List UInt8)(p:Int)(b:Bool):Int×Int×Bool:=if b=true\/(getI s p).2.2≠0 then(0,p,true)else((getI s p).1,(getI s p).2.1,false)
def rdTxt(s:List UInt8)(p:Int)(b:Bool):List UInt8×Int×Bool:=if b=true\/(getS s p).2.2≠0 then([],p,true)else((getS s p).1,(getS s p).2.1,false)
theorem dF(F:Fz)(s:List UInt8)(p:Int)(b:Bool)(q:s.length<=1000000000000000000)(m:i64 p):
  Ct prog 118 [.va (.ptr ⟨1,0,0,0,0⟩)] F [(1,rrd s p b)] 2
   (fun o j k n0=>F=j/\n0=2/\o=.ret (.va (.int .i64 (rdNum s p b).1))/\k=[(1,rrd s (rdNum s p b).2.1 (rdNum s p b).2.2)]):=by
 have f:=so F s p q m;obtain⟨n,x,e,i⟩:∃n x e,getI s p=(n,x,e):=⟨_,_,_,rfl⟩
 rw[i]at f;have a:b=true\/e≠0->rdNum s p b=(0,p,true):=fun h=>by rw[rdNum,i,if_pos h]
 have d:b=false->e=0->rdNum s p b=(n,x,false):=fun h1 l=>by rw[rdNum,i,if_neg (by rintro(h | h);rw[h1]at h;cases h;exact h l)]
 refine ctS func118 ?_;refine dwS (lk [0,1,2,3,4,5,6,7] (.alt 8 (lk [9,10,11,12,13,14,15] .done) .nil)) [1] ?_;conv=>whnf
 repeat' ((conv=>whnf);first
  |refine⟨rfl,?_⟩
  |refine⟨Fz.r _,rfl,?_⟩
  |refine⟨Fz.r _,rfl,rfl,?_⟩
  |refine⟨⟨by simp,by simp⟩,?_⟩
  |fail)
 refine usePs (f) ?_;refine⟨Fz.r F,rfl,?_⟩;conv=>whnf
 rcases b with _ | _
 ·refine br (fun g=>?_) (fun g=>?_)
  ·have c:e≠0:=by simpa using g
   refine clean [] (.ret (.va (.int .i64 0))) F [(1,rrd s p true)] 2 ⟨Fz.r F,rfl,rfl,?_⟩ (aO _) rfl rfl trivial ⟨cp s _ _,tv⟩ ⟨Fz.r F,rfl,tv⟩;rw[a (.inr c)];exact⟨rfl,rfl⟩
  ·have c:e=0:=by simpa using g
   refine clean [] (.ret (.va (.int .i64 n))) F [(1,rrd s x false)] 2 ⟨Fz.r F,rfl,rfl,?_⟩ (aO _) rfl rfl trivial ⟨cp s _ _,tv⟩ ⟨Fz.r F,rfl,tv⟩;rw[d rfl c];exact⟨rfl,rfl⟩
 ·refine clean [] (.ret (.va (.int .i64 0))) F [(1,rrd s p true)] 2 ⟨Fz.r F,rfl,rfl,?_⟩ (aO _) rfl rfl trivial ⟨cp s _ _,tv⟩ ⟨Fz.r F,rfl,tv⟩;rw[a (.inl rfl)];exact⟨rfl,rfl⟩
theorem wo(F:Fz)(s:List UInt8)(p:Int)(b:Bool)(q:s.length<=1000000000000000000)(m:i64 p):
  Ct prog 119 [.va (.ptr ⟨1,0,0,0,0⟩)] F [(1,rrd s p b)] 2
   (fun o j k n0=>F=j/\n0=2/\o=.ret (.va (.str (rdTxt s p b).1))/\k=[(1,rrd s (rdTxt s p b).2.1 (rdTxt s p b).2.2)]):=by
 have f:=EG F s p q m;obtain⟨n,x,e,i⟩:∃n x e,getS s p=(n,x,e):=⟨_,_,_,rfl⟩
 rw[i]at f;have a:b=true\/e≠0->rdTxt s p b=([],p,true):=fun h=>by rw[rdTxt,i,if_pos h]
 have d:b=false->e=0->rdTxt s p b=(n,x,false):=fun h1 l=>by rw[rdTxt,i,if_neg (by rintro(h | h);rw[h1]at h;cases h;exact h l)]
 refine ctS func119 ?_;refine dwS (lk [0,1,2,3,4,5,6,7] (.alt 8 (lk [9,10,11,12,13,14,15] .done) .nil)) [1] ?_;conv=>whnf
 repeat' ((conv=>whnf);first
  |refine⟨rfl,?_⟩
  |refine⟨Fz.r _,rfl,?_⟩
  |refine⟨Fz.r _,rfl,rfl,?_⟩
  |refine⟨⟨by simp,by simp⟩,?_⟩
  |fail)
 refine usePs (f) ?_;refine⟨Fz.r F,rfl,?_⟩;conv=>whnf
 rcases b with _ | _
 ·refine br (fun g=>?_) (fun g=>?_)
  ·have c:e≠0:=by simpa using g
   refine clean [] (.ret (.va (.str []))) F [(1,rrd s p true)] 2 ⟨Fz.r F,rfl,rfl,?_⟩ (aO _) rfl rfl trivial ⟨cp s _ _,tv⟩ ⟨Fz.r F,rfl,tv⟩;rw[a (.inr c)];exact⟨rfl,rfl⟩
  ·have c:e=0:=by simpa using g
   refine clean [] (.ret (.va (.str n))) F [(1,rrd s x false)] 2 ⟨Fz.r F,rfl,rfl,?_⟩ (aO _) rfl rfl trivial ⟨cp s _ _,tv⟩ ⟨Fz.r F,rfl,tv⟩;rw[d rfl c];exact⟨rfl,rfl⟩
 ·refine clean [] (.ret (.va (.str []))) F [(1,rrd s p true)] 2 ⟨Fz.r F,rfl,rfl,?_⟩ (aO _) rfl rfl trivial ⟨cp s _ _,tv⟩ ⟨Fz.r F,rfl,tv⟩;rw[a (.inl rfl)];exact⟨rfl,rfl⟩
def colN(p:Int):Nat:=if p=2 then 1 else if p=3\/p=5 then 3 else if p=4 then 4 else 0
theorem xX(p:Int):Pu prog 120 [.va (.int .i64 p)] (.va (.int .i64 (colN p:Nat))):=by
 intro F;have i:p=2->colN p=1:=fun h=>by rw[colN,if_pos h]
 have j:p=3\/p=5->colN p=3:=fun h=>by rw[colN,if_neg oo,if_pos h]
 have k:p=4->colN p=4:=fun h=>by rw[colN,if_neg oo,if_neg oo,if_pos h]
 have f:¬p=2->¬p=3->¬p=5->¬p=4->colN p=0:=fun a b c d=>by rw[colN,if_neg a,if_neg oo,if_neg d]
 have m:∀h:p=2,((colN p:Nat):Int)=1:=fun h=>by rw[i h];rfl
 have e:∀h:p=3\/p=5,((colN p:Nat):Int)=3:=fun h=>by rw[j h];rfl
 have n:∀h:p=4,((colN p:Nat):Int)=4:=fun h=>by rw[k h];rfl
 have l:¬p=2->¬p=3->¬p=5->¬p=4->((colN p:Nat):Int)=0:=fun a b c d=>by rw[f a b c d];rfl
 clear i j k f;refine foS func120 ?_;refine br (fun g=>?_) (fun g=>?_)
 ·exact endPu rfl (Fz.r F) (congrArg (SA.int .i64) (m (od g))) rfl
 ·have q:¬p=2:=oe g;refine br (fun g=>?_) (fun g=>?_)
  ·refine br (fun _=>?_) (fun o=>absurd (od g) (oe o));exact endPu rfl (Fz.r F) (congrArg (SA.int .i64) (e (.inl (od g)))) rfl
  ·have s:¬p=3:=oe g;refine br (fun g=>?_) (fun g=>?_)
   ·exact endPu rfl (Fz.r F) (congrArg (SA.int .i64) (e (.inr (od g)))) rfl
   ·have w:¬p=5:=oe g;refine br (fun g=>?_) (fun g=>?_)
    ·exact endPu rfl (Fz.r F) (congrArg (SA.int .i64) (n (od g))) rfl
    ·have u:¬p=4:=oe g;exact endPu rfl (Fz.r F) (congrArg (SA.int .i64) (l q s w u)) rfl
abbrev RLn:=List UInt8×Int×Int×Int×Int
def encL(x:RLn):List SA:=[.str x.1,.int .i64 x.2.1,.int .i64 x.2.2.1,.int .i64 x.2.2.2.1,.int .i64 x.2.2.2.2]
theorem di:Plain encL:=fun x=>⟨fun μ=>rfl,fun a b=>by
 simp[encL]at b;rcases b with rfl | rfl | rfl | rfl | rfl<;>trivial⟩
def inR(n b a:Int):Bool:=decide (b<=n)&&decide (n<=a)
def eD(l:List RLn)(x:RLn):Bool:=
 match l.getLast? with
 |none=>true
 |some y=>!(decide (x.2.1 < y.2.1)||(decide (y.2.1=x.2.1)&&decide (x.2.2.1<=y.2.2.1)))
def fitsR(p:Int)(l:List RLn)(x:RLn):Bool:=
 if p=1 then x.1.all (fun b=>decide (32<=b.toNat)&&decide (b.toNat<=126))&&decide (x.1.length<=80)
 else if p=2 then inR x.2.1 0 7
 else if inR x.2.1 0 31=true/\inR x.2.2.1 0 31=true/\eD l x=true then
  if p=3 then inR x.2.2.2.1 (-1000000) 1000000 else if p=5 then inR x.2.2.2.1 (-1000000000000) 1000000000000 else inR x.2.2.2.1 0 x.2.1&&inR x.2.2.2.2 0 x.2.2.1
 else false
theorem dD{n c a:Int}{b:Bool}(h:inR n c a=b)(F:Fz):Fo prog F 116 [.va (.int .i64 n),.va (.int .i64 c),.va (.int .i64 a)] (fun o d=>o=.ret (.va (.lit b))/\d=F):=by
 have h1:=lu n c a F;rw[show(decide (c<=n)&&decide (n<=a))=b from h]at h1;exact fy h1
theorem D8(x:RLn):eD [] x=true:=rfl
variable {l:List RLn}
theorem mV{p:Int}{x:RLn}(a:¬p=1)(b:¬p=2)(h:inR x.2.1 0 31=false\/inR x.2.2.1 0 31=false\/eD l x=false):fitsR p l x=false:=by
 rw[fitsR,if_neg a,if_neg b,if_neg];rintro⟨h1,c,d⟩;rcases h with h | h | h
 ·rw[h1]at h;cases h
 ·rw[c]at h;cases h
 ·rw[d]at h;cases h
theorem nN{p:Int}{x:RLn}(g:p=3)(h1:inR x.2.1 0 31=true)(a:inR x.2.2.1 0 31=true)(b:eD l x=true):fitsR p l x=inR x.2.2.2.1 (-1000000) 1000000:=by
 rw[fitsR,if_neg oo,if_neg oo,if_pos ⟨h1,a,b⟩,if_pos g]
theorem nP{p:Int}{x:RLn}(g:p=5)(h1:inR x.2.1 0 31=true)(a:inR x.2.2.1 0 31=true)(b:eD l x=true):fitsR p l x=inR x.2.2.2.1 (-1000000000000) 1000000000000:=by
 rw[fitsR,if_neg oo,if_neg oo,if_pos ⟨h1,a,b⟩,if_neg oo,if_pos g]
theorem nO{p:Int}{x:RLn}(a:¬p=1)(b:¬p=2)(c:¬p=3)(d:¬p=5)(h1:inR x.2.1 0 31=true)(e:inR x.2.2.1 0 31=true)(f:eD l x=true):fitsR p l x=(inR x.2.2.2.1 0 x.2.1&&inR x.2.2.2.2 0 x.2.2.1):=by
 rw[fitsR,if_neg a,if_neg b,if_pos ⟨h1,e,f⟩,if_neg c,if_neg d]
theorem El(n b a:Int):Pu prog 217 [.va (.int .i64 n),.va (.int .i64 b),.va (.int .i64 a)] (.va (.bool (inR n b a))):=by
 intro F;refine foS func217 ?_;refine⟨fun g=>?_,fun g=>?_⟩
 ·refine endPu rfl (Fz.r F) (ob ?_) rfl;unfold inR;rw[g,yz]
 ·refine endPu rfl (Fz.r F) (ob ?_) rfl;unfold inR;rw[g,jv]
theorem ft{n c a:Int}{b:Bool}(h:inR n c a=b)(F:Fz):Fo prog F 217 [.va (.int .i64 n),.va (.int .i64 c),.va (.int .i64 a)] (fun o d=>o=.ret (.va (.lit b))/\d=F):=by
 have h1:=El n c a F;rw[h]at h1;exact fy h1
abbrev docS(a b:SA)(w:Int)(s:List UInt8):List SA:=[a,b,.int .i64 w,.str s]
def hgt(w:Int)(s:List UInt8):Int:=if w < 1 then 0 else(s.length:Int).tdiv w
theorem oT(F:Fz)(a b:SA)(w:Int)(s:List UInt8)(l:s.length<=1000000000000000000):Fo prog F 168 [.agg (docS a b w s)] (fun o d=>o=.ret (.va (.int .i64 (hgt w s)))/\d=F):=by
 have fin:∀(z:Int) (h:Hp) (nx:Nat),hgt w s=z->lget h 0=some (.frz F)->Cln 1 (FoK F fun o d=>o=.ret (.va (.int .i64 (hgt w s)))/\d=F) (.ret (.va (.int .i64 z))) h nx:=by
  intro z h nx j g;subst j;exact endPu g (Fz.r F) (aO _) rfl
 by_cases c:w < 1
 ·have e:hgt w s=0:=if_pos c;refine foS func168 ?_;refine bri c ?_;exact fin 0 _ _ e rfl
 ·have f:w≠0:=by omega
  have i:IntKind.i64.wrap ((s.length:Int).tdiv w)=(s.length:Int).tdiv w:=by
   have h1:0<=(s.length:Int).tdiv w:=Int.tdiv_nonneg oo oo
   have k:(s.length:Int).tdiv w<=s.length:=by
    rw[jo oo];exact Int.ediv_le_self _ oo
   exact aF oo oo
  have e:hgt w s=IntKind.i64.wrap ((s.length:Int).tdiv w):=by rw[i];exact if_neg c
  refine foS func168 ?_;refine brj c ⟨f,?_⟩;exact fin _ _ _ e rfl
structure Cel where
 row:Int
 col:Int
 sum:Bool
 value:Int
 top:Int
 left:Int
def encK(c:Cel):List SA:=[.int .i64 c.row,.int .i64 c.col,.bool c.sum,.int .i64 c.value,.int .i64 c.top,.int .i64 c.left]
def celOk(c:Cel):Bool:=(inR c.row 0 31&&inR c.col 0 31)&&(if c.sum=true then(decide (c.value=0)&&inR c.top 0 c.row)&&inR c.left 0 c.col else(inR c.value (-1000000) 1000000&&decide (c.top=0))&&decide (c.left=0))
theorem zS(F:Fz)(c:Cel):Fo prog F 148 [.agg (encK c)] (fun o u=>o=.ret (.va (.bool (celOk c)))/\u=F):=by
 obtain⟨i,f,j,b,d,left⟩:=c;have E:∃l m n p q,inR i 0 31=l/\inR f 0 31=m/\inR d 0 i=n/\inR left 0 f=p/\inR b (-1000000) 1000000=q:=⟨_,_,_,_,_,rfl,rfl,rfl,rfl,rfl⟩
 obtain⟨l,m,n,p,q,h1,w,x,y,A⟩:=E;have I:=ft h1 F;have J:=ft w F;have K:=ft x F;have L:=ft y F;have M:=ft A F
 have fin:∀(z:Bool) (a:SA) (h:Hp) (nx:Nat),celOk ⟨i,f,j,b,d,left⟩=z->atomE (.bool z) (a.ren (resP h))->lget h 0=some (.frz F)->Cln 1 (FoK F fun o u=>o=.ret (.va (.bool (celOk ⟨i,f,j,b,d,left⟩)))/\u=F) (.ret (.va a)) h nx:=by
  intro z a h nx G D B;subst G;exact endPu B (Fz.r F) D rfl
 have e:celOk ⟨i,f,j,b,d,left⟩=((l&&m)&&(if j=true then(decide (b=0)&&n)&&p else(q&&decide (d=0))&&decide (left=0))):=by
  rw[<-h1,<-w,<-x,<-y,<-A];rfl
 clear h1 w x y A;refine foS func148 ?_;refine usePt I ?_;rcases l with _ | _
 ·exact fin false _ _ _ e rfl rfl
 ·refine usePt J ?_;rcases m with _ | _
  ·exact fin false _ _ _ e rfl rfl
  ·rcases j with _ | _
   ·refine br (fun g=>absurd g (by show¬false=true;decide)) (fun _=>?_);refine usePt M ?_;rcases q with _ | _
    ·exact fin false _ _ _ e rfl rfl
    ·conv=>whnf
     by_cases s:d=0
     ·refine⟨fun _=>?_,fun g=>absurd s (oe g)⟩;exact fin (decide (left=0)) _ _ _ (by rw[e,decide_eq_true s];simp) rfl rfl
     ·refine⟨fun g=>absurd (od g) s,fun _=>?_⟩;exact fin false _ _ _ (by rw[e,decide_eq_false s];simp) rfl rfl
   ·refine br (fun _=>?_) (fun g=>absurd g (by show¬true=false;decide));conv=>whnf
    by_cases k:b=0
    ·refine⟨fun _=>?_,fun g=>absurd k (oe g)⟩;refine usePt K ?_;rcases n with _ | _
     ·exact fin false _ _ _ (by rw[e,decide_eq_true k];rfl) rfl rfl
     ·refine usePt L ?_;exact fin p _ _ _ (by rw[e,decide_eq_true k];simp) rfl rfl
    ·refine⟨fun g=>absurd (od g) k,fun _=>?_⟩;exact fin false _ _ _ (by rw[e,decide_eq_false k];simp) rfl rfl
end Go.Proofs.YtfnkamphhpldcaaGreatDoor
namespace Go.Proofs.YtfnkamphhpldcaaGreatDoor
open Go Go.RowKit Sx Tryz
theorem yd9(w:World):PredAtRunes prog 215 #[] badR w:=by
 intro W x hx hb;unfold FnGives
 go_enter func215,Tryz.ntmps215
 by_cases h1:32<=x
 ·by_cases h2:x<=126
  ·go_wp2
   all_goals go_ret
   all_goals refine⟨?_,0,rfl⟩
   all_goals(simp[badR,h1,h2];try omega)
  ·go_wp2
   all_goals go_ret
   all_goals refine⟨?_,0,rfl⟩
   all_goals(simp[badR,h1,h2];try omega)
 ·go_wp2
  all_goals go_ret
  all_goals refine⟨?_,0,rfl⟩
  all_goals(simp[badR,h1];try omega)
theorem ifun(F:Fz)(s:List UInt8)(_:s.length<=1000000000000000000):Fo prog F 216 [.va (.str s),.va (.fn (.func 215) [])] (fun o b=>(∃z,o=.ret (.va (.int .i64 z))/\decide (0<=z)=s.any badC)/\b=F):=by
 refine cP (gh (F:=F) (args:=[.va (.str s),.va (.fn (.func 215) [])]) (out:=.ret (.va (.int .i64 (Lib.idxFunc badR true ⟨s.toArray⟩)))) (vs:=[.string ⟨s.toArray⟩,.func (.func 215) #[] #[]]) (Sx.enters_of func216 rfl dd) rfl (by
   rintro ρ a h
   match a,h with
   |[v,u],h=>rw[h.1,h.2.1];rfl) (.returned (.int .i64 (Lib.idxFunc badR true ⟨s.toArray⟩))) (fun ρ=>⟨_,rfl,rfl⟩) (fun C ρ w S=>by
   have h:=Any.strings_IndexFunc_runes { Tryz.laysGw17 with } 215 #[] (enters_of func215 (by kernel_rfl) rfl) badR ⟨s.toArray⟩ w (yd9 w);refine h.mono fun e f ⟨h1,c⟩=>⟨?_,c⟩
   rw[h1])) fun o b h=>⟨⟨_,h.1,by rw[Lib.idxFunc,qN s _ 0 (by show s.length<=0+s.toArray.size;simp),y5]⟩,h.2⟩
end Go.Proofs.YtfnkamphhpldcaaGreatDoor
namespace Go.Proofs.YtfnkamphhpldcaaGreatDoor
open Go Sx Tryz
set_option maxRecDepth 100000
abbrev DLn:=List UInt8×Int
def encN(l:DLn):List SA:=[.str l.1,.int .i64 l.2]
def dlnOk(l:DLn):Bool:=(decide (l.1.length<=80)&& !l.1.any badC)&&inR l.2 0 7
theorem zU(F:Fz)(l:DLn):Fo prog F 146 [.agg (encN l)] (fun o i=>o=.ret (.va (.bool (dlnOk l)))/\i=F):=by
 obtain⟨t,m⟩:=l;have u:∃j k,t.any badC=j/\inR m 0 7=k:=⟨_,_,rfl,rfl⟩
 obtain⟨j,k,h1,p⟩:=u;have w:=ft p F;have e:dlnOk (t,m)=((decide (t.length<=80)&& !j)&&k):=by rw[<-h1,<-p];rfl
 have f:=fun b:t.length<=80=>ifun F t (jm b dd)
 rw[h1]at f
 have fin:∀(z:Bool) (a:SA) (h:Hp) (nx:Nat),dlnOk (t,m)=z->atomE (.bool z) (a.ren (resP h))->lget h 0=some (.frz F)->Cln 1 (FoK F fun o i=>o=.ret (.va (.bool (dlnOk (t,m))))/\i=F) (.ret (.va a)) h nx:=by
  intro z a h nx n s q;subst n;exact endPu q (Fz.r F) s rfl
 clear h1 p;by_cases b:t.length<=80
 ·have c:(t.length:Int)<=80:=by omega
  refine foS func146 ?_;refine⟨fun _=>?_,fun g=>absurd c (oe g)⟩;refine useFt (f b) ?_;rintro _ i _ ⟨⟨z,rfl,n⟩,rfl⟩;rcases j with _ | _
  ·have d:z < 0:=by
    have:=oe n;omega
   refine⟨fun _=>?_,fun g=>absurd d (oe g)⟩;refine usePt w ?_;exact fin k _ _ _ (by rw[e,decide_eq_true b];simp) rfl rfl
  ·have d:¬z < 0:=by
    have:=od n;omega
   refine⟨fun g=>absurd (od g) d,fun _=>?_⟩;exact fin false _ _ _ (by rw[e];simp) rfl rfl
 ·have c:¬(t.length:Int)<=80:=by omega
  refine foS func146 ?_;refine⟨fun g=>absurd (od g) c,fun _=>?_⟩;exact fin false _ _ _ (by rw[e,decide_eq_false b];simp) rfl rfl
theorem Ck{n b a:Int}:inR n b a=true↔b<=n/\n<=a:=by
 unfold inR;simp
def bitK(b:UInt8):Bool:=b==48||b==49
theorem zagg{l:List SA}{μ:Mu}(h:l.all SA.z=true)(a:∀k,μ 0 k=(0,k)):svE (.agg l) (SV.ren μ (.agg l)):=by
 have b:(SV.agg l).z=true:=h;rw[SV.ren_id (.inl b) a];exact gX _
def rasOk(w:Int)(s:List UInt8):Bool:=(inR w 0 32&&s.all bitK)&&((decide (w=0)&&(s==[]))||((decide (0 < w)&&decide ((s.length:Int)=w*hgt w s))&&inR (hgt w s) 1 32))
theorem DI(F:Fz)(a b:SA)(w:Int)(s:List UInt8)(T:s.length<=70000)(X:a.z=true)(Y:b.z=true):Fo prog F 149 [.agg (docS a b w s)] (fun o A=>o=.ret (.va (.bool (rasOk w s)))/\A=F):=by
 have x:(docS a b w s).all SA.z=true:=by
  show(a.z&&(b.z&&(true&&(true&&true))))=true;rw[X,Y];rfl
 have y:([SV.agg (docS a b w s)].all SV.z)=true:=by
  show((docS a b w s).all SA.z&&true)=true;rw[x];rfl
 have J:=tfun F s T;have n:=oT F a b w s oo;have V:∃l B m,inR w 0 32=l/\s.all bitK=B/\inR (hgt w s) 1 32=m:=⟨_,_,_,rfl,rfl,rfl⟩
 obtain⟨l,B,m,h1,E,G⟩:=V;have M:=ft h1 F;have W:=ft G F
 have e:rasOk w s=((l&&B)&&((decide (w=0)&&(s==[]))||((decide (0 < w)&&decide ((s.length:Int)=w*hgt w s))&&m))):=by
  unfold rasOk;rw[h1,E,G]
 have S:l=true->0<=w/\w<=32:=fun h=>Ck.1 (h1.trans h)
 have fin:∀(z:Bool) (a:SA) (h:Hp) (nx:Nat),rasOk w s=z->atomE (.bool z) (a.ren (resP h))->lget h 0=some (.frz F)->Cln 1 (FoK F fun o A=>o=.ret (.va (.bool (rasOk w s)))/\A=F) (.ret (.va a)) h nx:=by
  intro z a h nx x R O;subst x;exact endPu O (Fz.r F) R rfl
 clear h1 G;rcases l with _ | _
 ·refine foS func149 ?_;refine usePt M ?_;exact fin false _ _ _ (by rw[e];simp) rfl rfl
 have U:=S rfl;refine foS func149 ?_;refine usePt M ?_;refine useFt J ?_;rintro _ A _ ⟨rfl,r,rfl,q⟩;rcases B with _ | _
 ·have j:(!(r==[]))=true:=by
   have I:¬r=[]:=fun h=>by
    have K:s.all bitK=true:=q.1 h;rw[E]at K;cases K
   simpa using I
  refine br (fun _=>?_) (fun g=>absurd j (by rw[g];simp));exact fin false _ _ _ (by rw[e];simp) rfl rfl
 have j:(!(r==[]))=false:=by
  have I:r=[]:=q.2 E;rw[I];rfl
 refine br (fun g=>absurd g (by rw[j];simp)) (fun _=>?_);refine dwS (lk [0,1,2,3,4,5,6,7,8,9,10,11,12,13,14,15,16,17,18,19,20,21,22,23] (.alt 24 (lk [25,26,27,28,29] (.alt 30 (.alt 31 (lk [32,33,34] .done) .nil) .nil)) .nil)) [1] ?_;refine⟨rfl,?_⟩;conv=>whnf
 by_cases d:w=0
 ·refine⟨fun _=>?_,fun g=>absurd d (oe g)⟩;refine⟨rfl,?_⟩;conv=>whnf
  by_cases u:s=[]
  ·have c:(s==[])=true:=by rw[u];rfl
   refine⟨fun g=>absurd g (by rw[c];simp),fun _=>?_⟩;exact fin true _ _ _ (by rw[e,c,decide_eq_true d];rfl) rfl rfl
  ·have c:(s==[])=false:=by simpa using u
   have p:¬0 < w:=by omega
   refine⟨fun _=>?_,fun g=>absurd g (by rw[c];simp)⟩;refine⟨rfl,fun g=>absurd (od g) p,fun _=>?_⟩;exact fin false _ _ _ (by rw[e,c,decide_eq_false p];simp) rfl rfl
 ·have i:0 < w:=by omega
  have f:IntKind.i64.wrap (w*hgt w s)=w*hgt w s:=by
   have L:0<=hgt w s:=by
    unfold hgt;split
    ·omega
    ·exact Int.tdiv_nonneg oo oo
   have Q:hgt w s<=70000:=by
    unfold hgt;split
    ·omega
    ·rw[jo oo];exact qa6 (Int.ediv_le_self _ oo) oo
   have Z:w*hgt w s<=32*70000:=qbb U.2 Q L oo;have h9:0<=w*hgt w s:=qcg oo L;exact aF oo oo
  have e':rasOk w s=(decide ((s.length:Int)=IntKind.i64.wrap (w*hgt w s))&&m):=by
   rw[e,f,decide_eq_true i,decide_eq_false d];simp
  clear f;refine⟨fun g=>absurd (od g) d,fun _=>?_⟩;refine⟨rfl,fun _=>?_,fun g=>absurd i (oe g)⟩;refine⟨rfl,rfl,rfl,?_⟩;refine usePu n rfl ⟨zagg x (fun k=>rfl),tv⟩ y ⟨Fz.r F,rfl,?_⟩;conv=>whnf
  by_cases D:(s.length:Int)=IntKind.i64.wrap (w*hgt w s)
  ·refine⟨fun _=>?_,fun g=>absurd D (oe g)⟩;rw[decide_eq_true D,yz]at e';refine⟨rfl,?_⟩;refine usePu n rfl ⟨zagg x (fun k=>rfl),tv⟩ y ⟨Fz.r F,rfl,?_⟩;refine usePt W ?_;refine⟨Fz.r F,rfl,?_⟩;exact fin m _ _ _ e' rfl rfl
  ·refine⟨fun g=>absurd (od g) D,fun _=>?_⟩;rw[decide_eq_false D,jv]at e';exact fin false _ _ _ e' rfl rfl
def idxG{α:Type}(q:α->Bool):List α->Nat->Int
 |[],_=>-1
 |x::r,n=>if q x=false then n else idxG q r (n+1)
theorem oU{α:Type}(q:α->Bool)(l:List α)(k:Nat)(h:k < l.length):idxG q (l.drop k) k=if q l[k]=false then(k:Int)else idxG q (l.drop (k+1)) (k+1):=by
 rw[ji h];rfl
theorem xw{α:Type}(q:α->Bool):∀(l:List α) (n:Nat),(0<=idxG q l n)↔l.all q=false
 |[],n=>by simp[idxG]
 |x::r,n=>by
  simp only[idxG,qbr];split
  ·rename_i h;simp[h]
  ·rename_i h;have:q x=true:=by simpa using h
   rw[xw q r (n+1),this];simp
theorem xu{α:Type}(q:α->Bool)(l:List α):(!decide (0<=idxG q l 0))=l.all q:=by
 have:=xw q l 0;cases h:l.all q with
 |true=>
  rw[h]at this;have a:¬(0<=idxG q l 0):=fun b=>by have:=this.1 b;cases this
  rw[decide_eq_false a];rfl
 |false=>rw[h]at this;rw[decide_eq_true (this.2 rfl)];rfl
theorem al1N(F:Fz)(x:DLn)(a:Nat)(_:True)(c:F a=some (.cells 224 [.fn (.func 146) []])):Fo prog F 214 [.agg (encN x),.va (.ptr (fp a))] (fun o b=>o=.ret (.va (.bool (!dlnOk x)))/\b=F):=by
 have d:=zU F x;refine foS func214 ?_;refine⟨_,c,?_⟩;refine usePs d ?_;exact endPu rfl (Fz.r F) rfl rfl
theorem al2N(F:Fz)(O:SA)(l:List DLn)(p:Nat)(S:Sl F 148 2 encN O l)(hl:l.length < 1000000)(M:∀x∈l,True)(R:F p=some (.cells 224 [.fn (.func 146) []])):
  Fo prog F 254 [.va O,.va (.fn (.func 214) [fp p])] (fun o n=>o=.ret (.va (.int .i64 (idxG dlnOk l 0)))/\n=F):=by
 have fin:∀(x:Int) (h:Hp) (nx:Nat),idxG dlnOk l 0=x->lget h 0=some (.frz F)->
   Cln 1 (FoK F fun o n=>o=.ret (.va (.int .i64 (idxG dlnOk l 0)))/\n=F) (.ret (.va (.int .i64 x))) h nx:=by
  intro x h nx Z Q;exact endPu Q (Fz.r F) (oi Z) rfl
 obtain⟨W,U,B,V,A,Y,rfl,f,w,T,y⟩:=S;refine foS func254 ?_;conv=>whnf
 refine aI hΘ (X:={ k:Nat // k<=l.length/\idxG dlnOk l 0=idxG dlnOk (l.drop k) k }) (fun k=>[(8,.va (.int .i64 k.1))]) (4::5::jr 9 10 []) (fz fun _=>F) 1 (fun k=>l.length - k.1) ⟨0,by simp⟩
  (fun s u=>le0 s u rfl (Fz.r F) rfl ⟨rfl,tv⟩) ?_
 rintro⟨k,L,c⟩ s u;replace L:k<=l.length:=L;replace c:idxG dlnOk l 0=idxG dlnOk (l.drop k) k:=c;by_cases g:k < l.length
 ·have J:(k:Int) < (l.length:Nat):=by omega
  have j:0<=(k:Int)/\(k:Int) < (l.length:Nat):=by omega
  have E:∃x,l[k]=x:=⟨_,rfl⟩
  obtain⟨x,d⟩:=E;have D:A[B+(k:Int).toNat]? =some (encN x):=by rw[<-d];exact Sl.at y g
  have K:=M _ (qt g)
  try rw[d]at K
  have a:=al1N F x p (trivial) R;rw[oU _ l k g,d]at c;have I:k+1<=l.length:=g;have i:l.length - (k+1) < l.length - k:=by omega
  have m:k < 4611686018427387904:=by omega
  have e:∃b,dlnOk x=b:=⟨_,rfl⟩
  obtain⟨b,e⟩:=e;rw[e]at c a;clear M K d;refine bri J ⟨Sl.lt f g,j,_,w (Sl.lt f g),_,D,?_⟩;refine usePs a ?_;rcases b with _ | _
  ·refine br (fun _=>?_) (fun q=>absurd q dd);exact fin _ _ _ (c.trans (if_pos rfl)) rfl
  ·refine br (fun q=>absurd q dd) (fun _=>?_);rw[if_neg dd]at c;exact⟨⟨k+1,I,c⟩,i,lr0 s u rfl (Fz.r F) rfl ⟨cnt m,tv⟩⟩
 ·have G:¬(k:Int) < (l.length:Nat):=by omega
  rw[yg oo]at c;refine brj G ?_;exact fin _ _ _ c rfl
theorem al3N(F:Fz)(b:SA)(l:List DLn)(a:Nat)(c:Sl F 148 2 encN b l)(u:l.length < 1000000)(w:∀x∈l,True)(e:F a=some (.cells 224 [.fn (.func 146) []])):
  Fo prog F 213 [.va b,.va (.fn (.func 214) [fp a])] (fun o d=>o=.ret (.va (.bool (decide (0<=idxG dlnOk l 0))))/\d=F):=by
 have h:=al2N F b l a c u w e;obtain⟨q,m,p,n,k,s,rfl,f,g,i,j⟩:=c;refine foS func213 ?_;refine usePs h ?_;exact endPu rfl (Fz.r F) (ob rfl) rfl
theorem allN(F:Fz)(d:SA)(l:List DLn)(f:Sl F 148 2 encN d l)(B:l.length < 1000000)(D:∀x∈l,True):
  Fo prog F 145 [.va d,.va (.fn (.func 146) [])] (fun o a=>o=.ret (.va (.bool (l.all dlnOk)))/\a=F):=by
 have h:=fun a (c:Fz.le F a) b=>al3N a d l b (f.mono c) B D
 have e:=xu dlnOk l;obtain⟨y,s,w,u,q,A,rfl,k,m,n,p⟩:=f;refine foS func145 ?_;refine bM 1 (fun _=>.cells 224 [.fn (.func 146) []]) ?_;intro b i g j;refine usePs (h i g (b 0) (j 0 rfl)) ?_;exact endPu rfl g (ob e.symm) rfl
theorem al1K(F:Fz)(x:Cel)(a:Nat)(_:True)(c:F a=some (.cells 226 [.fn (.func 148) []])):Fo prog F 219 [.agg (encK x),.va (.ptr (fp a))] (fun o b=>o=.ret (.va (.bool (!celOk x)))/\b=F):=by
 have d:=zS F x;refine foS func219 ?_;refine⟨_,c,?_⟩;refine usePs d ?_;exact endPu rfl (Fz.r F) rfl rfl
theorem al2K(F:Fz)(O:SA)(l:List Cel)(p:Nat)(S:Sl F 151 6 encK O l)(hl:l.length < 1000000)(M:∀x∈l,True)(R:F p=some (.cells 226 [.fn (.func 148) []])):
  Fo prog F 220 [.va O,.va (.fn (.func 219) [fp p])] (fun o n=>o=.ret (.va (.int .i64 (idxG celOk l 0)))/\n=F):=by
 have fin:∀(x:Int) (h:Hp) (nx:Nat),idxG celOk l 0=x->lget h 0=some (.frz F)->
   Cln 1 (FoK F fun o n=>o=.ret (.va (.int .i64 (idxG celOk l 0)))/\n=F) (.ret (.va (.int .i64 x))) h nx:=by
  intro x h nx Z Q;exact endPu Q (Fz.r F) (oi Z) rfl
 obtain⟨W,U,B,V,A,Y,rfl,f,w,T,y⟩:=S;refine foS func220 ?_;conv=>whnf
 refine aI hΘ (X:={ k:Nat // k<=l.length/\idxG celOk l 0=idxG celOk (l.drop k) k }) (fun k=>[(8,.va (.int .i64 k.1))]) (4::5::jr 9 10 []) (fz fun _=>F) 1 (fun k=>l.length - k.1) ⟨0,by simp⟩
  (fun s u=>le0 s u rfl (Fz.r F) rfl ⟨rfl,tv⟩) ?_
 rintro⟨k,L,c⟩ s u;replace L:k<=l.length:=L;replace c:idxG celOk l 0=idxG celOk (l.drop k) k:=c;by_cases g:k < l.length
 ·have J:(k:Int) < (l.length:Nat):=by omega
  have j:0<=(k:Int)/\(k:Int) < (l.length:Nat):=by omega
  have E:∃x,l[k]=x:=⟨_,rfl⟩
  obtain⟨x,d⟩:=E;have D:A[B+(k:Int).toNat]? =some (encK x):=by rw[<-d];exact Sl.at y g
  have K:=M _ (qt g)
  try rw[d]at K
  have a:=al1K F x p (trivial) R;rw[oU _ l k g,d]at c;have I:k+1<=l.length:=g;have i:l.length - (k+1) < l.length - k:=by omega
  have m:k < 4611686018427387904:=by omega
  have e:∃b,celOk x=b:=⟨_,rfl⟩
  obtain⟨b,e⟩:=e;rw[e]at c a;clear M K d;refine bri J ⟨Sl.lt f g,j,_,w (Sl.lt f g),_,D,?_⟩;refine usePs a ?_;rcases b with _ | _
  ·refine br (fun _=>?_) (fun q=>absurd q dd);exact fin _ _ _ (c.trans (if_pos rfl)) rfl
  ·refine br (fun q=>absurd q dd) (fun _=>?_);rw[if_neg dd]at c;exact⟨⟨k+1,I,c⟩,i,lr0 s u rfl (Fz.r F) rfl ⟨cnt m,tv⟩⟩
 ·have G:¬(k:Int) < (l.length:Nat):=by omega
  rw[yg oo]at c;refine brj G ?_;exact fin _ _ _ c rfl
theorem al3K(F:Fz)(b:SA)(l:List Cel)(a:Nat)(c:Sl F 151 6 encK b l)(u:l.length < 1000000)(w:∀x∈l,True)(e:F a=some (.cells 226 [.fn (.func 148) []])):
  Fo prog F 218 [.va b,.va (.fn (.func 219) [fp a])] (fun o d=>o=.ret (.va (.bool (decide (0<=idxG celOk l 0))))/\d=F):=by
 have h:=al2K F b l a c u w e;obtain⟨q,m,p,n,k,s,rfl,f,g,i,j⟩:=c;refine foS func218 ?_;refine usePs h ?_;exact endPu rfl (Fz.r F) (ob rfl) rfl
theorem allK(F:Fz)(d:SA)(l:List Cel)(f:Sl F 151 6 encK d l)(B:l.length < 1000000)(D:∀x∈l,True):
  Fo prog F 147 [.va d,.va (.fn (.func 148) [])] (fun o a=>o=.ret (.va (.bool (l.all celOk)))/\a=F):=by
 have h:=fun a (c:Fz.le F a) b=>al3K a d l b (f.mono c) B D
 have e:=xu celOk l;obtain⟨y,s,w,u,q,A,rfl,k,m,n,p⟩:=f;refine foS func147 ?_;refine bM 1 (fun _=>.cells 226 [.fn (.func 148) []]) ?_;intro b i g j;refine usePs (h i g (b 0) (j 0 rfl)) ?_;exact endPu rfl g (ob e.symm) rfl
def ltC(a b:Cel):Bool:=decide (a.row < b.row)||(decide (a.row=b.row)&&decide (a.col < b.col))
def ascF:List Cel->Bool
 |a::b::r=>ltC a b&&ascF (b::r)
 |_=>true
theorem oY:∀(l:List Cel) (a b:Cel),ascF (l++[a,b])=(ascF (l++[a])&&ltC a b)
 |[],a,b=>by simp[ascF]
 |[x],a,b=>by simp[ascF]
 |x::y::r,a,b=>by
  have ih:=oY (y::r) a b;show(ltC x y&&ascF ((y::r)++[a,b]))=((ltC x y&&ascF ((y::r)++[a]))&&ltC a b);rw[ih,Bool.and_assoc]
theorem Ev{l:List Cel}{k:Nat}(h1:1<=k)(g:k < l.length){a b:Cel}(c:l[k - 1]=a)(hb:l[k]=b):ascF (l.take (k+1))=(ascF (l.take k)&&ltC a b):=by
 obtain⟨m,rfl⟩:∃m,k=m+1:=⟨k - 1,by omega⟩
 rw[qe g,qe (show m < l.length by omega),ql,hb];have e:l[m]=a:=c;rw[e];exact oY _ _ _
structure Dc where
 lines:List DLn
 cells:List Cel
 w:Int
 bits:List UInt8
def docOk(d:Dc):Bool:=((((decide (d.lines.length<=64)&&decide (d.cells.length<=64))&&ascF d.cells)&&d.lines.all dlnOk)&&d.cells.all celOk)&&rasOk d.w d.bits
def docE(a b:SA)(w:Int)(s:List UInt8):Ent:=.one (.cells 41 (docS a b w s))
theorem gL{n:Nat}{a b:SA}{w:Int}{s:List UInt8}(d:a.below n)(hb:b.below n):(docE a b w s).below n:=by
 show∀x∈_,SA.below n x;intro x c;simp only[qi,qp,or_false]at c;rcases c with rfl | rfl | rfl | rfl
 ·exact d
 ·exact hb
 ·trivial
 ·trivial
theorem oR(F:Fz)(sa sb:SA)(d:Dc)(R:Sl F 148 2 encN sa d.lines)(hb:Sl F 151 6 encK sb d.cells)(hl:d.lines.length<=1000)(hc:d.cells.length<=1000)(hs:d.bits.length<=70000):
  Fo prog F 85 [.agg (docS sa sb d.w d.bits)] (fun o F'=>o=.ret (.va (.bool (docOk d)))/\F'=F):=by
 obtain⟨L,K,w,s⟩:=d;replace R:Sl F 148 2 encN sa L:=R;replace hb:Sl F 151 6 encK sb K:=hb;replace hl:L.length<=1000:=hl;replace hc:K.length<=1000:=hc;have aL:=allN F sa L R oo (fun _ _=>trivial);have aK:=allK F sb K hb oo (fun _ _=>trivial);obtain⟨V,S,U,T,ao,ap,rfl,ak,al,am,an⟩:=R;obtain⟨ad,aa,u,ab,n,au,rfl,q,Z,aq,hb4⟩:=hb;have iR:=DI F (.slice V 0 S U 2 L.length T) (.slice ad 0 aa u 6 K.length ab) w s hs rfl rfl
 have fin:∀(z:Bool) (a:SA) (h:Hp) (nx:Nat),docOk ⟨L,K,w,s⟩=z->atomE (.bool z) (a.ren (resP h))->lget h 0=some (.frz F)->Cln 1 (FoK F fun o F'=>o=.ret (.va (.bool (docOk ⟨L,K,w,s⟩)))/\F'=F) (.ret (.va a)) h nx:=by
  intro z a h nx hz R h0;subst hz;exact endPu h0 (Fz.r F) R rfl
 have D:ascF (K.take 1)=true:=by
  cases K with
  |nil=>rfl
  |cons x r=>rfl
 refine foS func85 ?_;conv=>whnf
 refine aI hΘ (X:={ y:Nat×Bool // 1<=y.1/\(y.1=1\/y.1<=K.length)/\y.2=ascF (K.take y.1) }) (fun y=>[(3,.va (.bool y.1.2)),(4,.va (.int .i64 y.1.1))]) (jr 5 42 [])
  (fun _=>[(0,.frz F),(1,docE (.slice V 0 S U 2 L.length T) (.slice ad 0 aa u 6 K.length ab) w s)]) 2 (fun y=>K.length - y.1.1) ⟨(1,true),by omega,by omega,D.symm⟩
  (fun O Q=>leI [] O Q rfl ⟨tv,gL (.inr oo) (.inr oo),tv⟩ ⟨rfl,rfl,tv⟩ ⟨Fz.r F,rfl,tv⟩) ?_
 rintro⟨⟨k,asc⟩,E,hk,f⟩ O Q;replace E:1<=k:=E;replace hk:k=1\/k<=K.length:=hk;replace f:asc=ascF (K.take k):=f;by_cases g:k < K.length
 ·have g0:k < K.length:=g;have gp:k - 1 < K.length:=by omega
  have ai:(k:Int) < (K.length:Nat):=by omega
  have ae:∃a b,K[k - 1]=a/\K[k]=b:=⟨_,_,rfl,rfl⟩
  obtain⟨a,b,G,I⟩:=ae
  have W:n[u+(IntKind.i64.wrap ((k:Int) - 1)).toNat]? =some (encK a):=by
   rw[aF oo oo,show((k:Int) - 1).toNat=((k - 1:Nat):Int).toNat by omega,<-G];exact Sl.at hb4 gp
  have Y:n[u+(k:Int).toNat]? =some (encK b):=by rw[<-I];exact Sl.at hb4 g
  have ag:0<=IntKind.i64.wrap ((k:Int) - 1)/\IntKind.i64.wrap ((k:Int) - 1) < (K.length:Nat):=by rw[aF oo oo];omega
  have ah:0<=(k:Int)/\(k:Int) < (K.length:Nat):=by omega
  have j:=Ev E g G I;rw[<-f]at j;have i:1<=k+1/\(k+1=1\/k+1<=K.length):=by omega
  have l:K.length - (k+1) < K.length - k:=by omega
  have m:k < 4611686018427387904:=by omega
  obtain⟨ar,ac,a2,a3,a4,a5⟩:=a;obtain⟨p,bc,b2,b3,b4,b5⟩:=b;replace j:ascF (K.take (k+1))=(asc&&(decide (ar < p)||(decide (ar=p)&&decide (ac < bc)))):=j;clear f G I;refine bri ai ?_;refine dwS (lk [0,1,2,3,4,5,6,7,8,9,10] (.alt 11 (.alt 12 (.alt 13 (.last 14 .done) .nil) .nil) (.alt 12 (.alt 11 (.alt 13 (.last 14 .done) .nil) .nil) .nil))) [1] ?_;refine⟨rfl,Sl.lt q g0,ag,rfl,_,Z (Sl.lt q g0),_,W,rfl,Sl.lt q g0,ah,rfl,_,Z (Sl.lt q g0),_,Y,?_,?_⟩
  all_goals
   refine⟨Fz.r F,rfl,Fz.r F,rfl,Fz.r F,rfl,?_⟩;rcases asc with _ | _
   ·refine⟨fun c=>absurd c (by show¬false=true;decide),fun _=>?_⟩;exact⟨⟨(k+1,false),i.1,i.2,by rw[j];rfl⟩,l,leR [] O Q rfl ⟨tv,gL (.inr oo) (.inr oo),tv⟩ ⟨rfl,cnt m,tv⟩ ⟨Fz.r F,rfl,tv⟩⟩
   ·refine⟨fun _=>?_,fun c=>absurd c (by show¬true=false;decide)⟩;conv=>whnf
    by_cases h1:ar < p
    ·refine⟨fun c=>absurd h1 (oe c),fun _=>?_⟩;exact⟨⟨(k+1,true),i.1,i.2,by rw[j,decide_eq_true h1];rfl⟩,l,leR [] O Q rfl ⟨tv,gL (.inr oo) (.inr oo),tv⟩ ⟨rfl,cnt m,tv⟩ ⟨Fz.r F,rfl,tv⟩⟩
    ·refine⟨fun _=>?_,fun c=>absurd (od c) h1⟩;conv=>whnf
     by_cases h2:ar=p
     ·refine⟨fun _=>?_,fun c=>absurd h2 (oe c)⟩;exact⟨⟨(k+1,decide (ac < bc)),i.1,i.2,by rw[j,decide_eq_false h1,decide_eq_true h2];simp⟩,l,leR [] O Q rfl ⟨tv,gL (.inr oo) (.inr oo),tv⟩ ⟨rfl,cnt m,tv⟩ ⟨Fz.r F,rfl,tv⟩⟩
     ·refine⟨fun c=>absurd (od c) h2,fun _=>?_⟩;exact⟨⟨(k+1,false),i.1,i.2,by rw[j,decide_eq_false h1,decide_eq_false h2];rfl⟩,l,leR [] O Q rfl ⟨tv,gL (.inr oo) (.inr oo),tv⟩ ⟨rfl,cnt m,tv⟩ ⟨Fz.r F,rfl,tv⟩⟩
 ·have af:¬(k:Int) < (K.length:Nat):=by omega
  have A:asc=ascF K:=by
   rw[f,qk oo]
  have e:docOk ⟨L,K,w,s⟩=(((((decide (L.length<=64)&&decide (K.length<=64))&&asc)&&L.all dlnOk)&&K.all celOk)&&rasOk w s):=by rw[A];rfl
  clear f A;have aj:∃bL bK,L.all dlnOk=bL/\K.all celOk=bK:=⟨_,_,rfl,rfl⟩
  obtain⟨bL,bK,n,B⟩:=aj;rw[n,B]at e;rw[n]at aL;rw[B]at aK;clear n B;refine brj af ?_;conv=>whnf
  by_cases l1:L.length<=64
  ·have J:(L.length:Int)<=64:=by omega
   rw[decide_eq_true l1,yz]at e;refine⟨fun _=>?_,fun c=>absurd J (oe c)⟩;conv=>whnf
   by_cases l2:K.length<=64
   ·have M:(K.length:Int)<=64:=by omega
    rw[decide_eq_true l2,yz]at e;refine⟨fun _=>?_,fun c=>absurd M (oe c)⟩;conv=>whnf
    rcases asc with _ | _
    ·refine⟨fun c=>absurd c (by show¬false=true;decide),fun _=>?_⟩;exact fin false _ _ _ e rfl rfl
    ·refine⟨fun _=>?_,fun c=>absurd c (by show¬true=false;decide)⟩;refine usePt aL ?_;rcases bL with _ | _
     ·refine⟨fun c=>absurd c dd,fun _=>?_⟩;exact fin false _ _ _ e rfl rfl
     ·refine⟨fun _=>?_,fun c=>absurd c dd⟩;refine usePt aK ?_;rcases bK with _ | _
      ·refine⟨fun c=>absurd c dd,fun _=>?_⟩;exact fin false _ _ _ e rfl rfl
      ·refine⟨fun _=>?_,fun c=>absurd c dd⟩;refine usePt iR ?_;exact fin _ _ _ _ e rfl rfl
   ·have M:¬(K.length:Int)<=64:=by omega
    rw[decide_eq_false l2]at e;refine⟨fun c=>absurd (od c) M,fun _=>?_⟩;exact fin false _ _ _ (by rw[e];simp) rfl rfl
  ·have J:¬(L.length:Int)<=64:=by omega
   rw[decide_eq_false l1]at e;refine⟨fun c=>absurd (od c) J,fun _=>?_⟩;exact fin false _ _ _ (by rw[e];simp) rfl rfl
def dJ(n:Int):Int:=if 1000000000000 < (if -1000000000000>n then -1000000000000 else n)then 1000000000000 else(if -1000000000000>n then -1000000000000 else n)
def kR(c e:Cel):Bool:=inR e.row c.top c.row&&inR e.col c.left c.col
def sumF(c:Cel):List (Cel×Int)->Int->Int
 |[],n=>n
 |(e,v)::r,n=>sumF c r (if kR c e=true then IntKind.i64.wrap (n+v)else n)
theorem ww(c:Cel):∀(l:List (Cel×Int)) (e:Cel) (v n:Int),sumF c (l++[(e,v)]) n=if kR c e=true then IntKind.i64.wrap (sumF c l n+v)else sumF c l n
 |[],_,_,_=>rfl
 |(_,_)::r,e,v,_=>ww c r e v _
def valF(done:List Cel)(o:List Int)(c:Cel):Int:=dJ (if c.sum=true then sumF c (done.zip o) c.value else c.value)
def valsA:List Cel->List Cel->List Int->List Int
 |[],_,o=>o
 |c::r,done,o=>valsA r (done++[c]) (o++[valF done o c])
def valsF(l:List Cel):List Int:=valsA l [] []
theorem EP{l:List Cel}{k:Nat}{o:List Int}{c:Cel}(g:k < l.length)(a:l[k]=c):valsA (l.drop k) (l.take k) o=valsA (l.drop (k+1)) (l.take (k+1)) (o++[valF (l.take k) o c]):=by
 rw[ji g,qe g,a];rfl
theorem ybj{l:List Cel}{o:List Int}{k j:Nat}{e:Cel}{v:Int}(h:k<=l.length)(d:o.length=k)(c:j < k)(b:l[j]? =some e)(f:o[j]? =some v):
  ((l.take k).zip o).take (j+1)=((l.take k).zip o).take j++[(e,v)]:=by
 have g:((l.take k).zip o).length=k:=by rw[qan,qn,d];omega
 rw[qe (by rw[g];exact c),qdh]
 have h1:(l.take k)[j]'(by rw[qn];omega)=e:=by
  rw[List.getElem_take];exact(qh.1 b).2
 have a:o[j]'oo=v:=(qh.1 f).2;rw[h1,a]
def docE4(a b:SA)(w:Int)(s:List UInt8):Ent:=.one (.cells 176 (docS a b w s))
theorem ec{n:Nat}{a b:SA}{w:Int}{s:List UInt8}(c:a.below n)(hb:b.below n):(docE4 a b w s).below n:=gL (w:=w) (s:=s) c hb
def celE(c:Cel):Ent:=.one (.cells 151 (encK c))
theorem lw{n:Nat}(c:Cel):(celE c).below n:=(SB.bB_ok rfl:SB.below n (.cells 151 (encK c)))
theorem yg9{F a:Fz}{o:List Int}{co b:Nat}{h:Hp}{nx:Nat}(d:Fz.le F a)(hb:a b=some (.arr 3 1 (o.map encI) co))(e:lget h 0=some (.frz a)){K:List Cel}(g:valsF K=o){u:Out}(f:u.ren (resP h)=.ret (.va (.slice false 0 b 0 1 o.length co))):
  Cln 1 (FoK F fun o a=>∃r,o=.ret (.va r)/\((K=[]/\r=.nilsl)\/(eb a r (valsF K)/\∃b c,r=.slice false 0 b 0 1 (valsF K).length c))) u h nx:=by
 subst g;exact endFo (.ret (.va (.slice false 0 b 0 1 (valsF K).length co))) a e d (Fz.r a) ⟨_,rfl,.inr ⟨Sl.new (l:=valsF K) hb,_,_,rfl⟩⟩ (by rw[f];exact aO _) rfl
theorem A9(F:Fz)(an:Bool)(ab ae al ac:Nat)(bn:Bool)(bb u E:Nat)(K:List Cel)(w:Int)(s:List UInt8)(hb:Sl F 151 6 encK (.slice bn 0 bb u 6 K.length E) K)(hl:K.length<=1000)(a3:K.length<=E):
  Fo prog F 166 [.agg (docS (.slice an 0 ab ae 2 al ac) (.slice bn 0 bb u 6 K.length E) w s)] (fun o F'=>∃r,o=.ret (.va r)/\((K=[]/\r=.nilsl)\/(eb F' r (valsF K)/\∃b c,r=.slice false 0 b 0 1 (valsF K).length c))):=by
 obtain⟨a8,a5,a7,a6,aa,a9,aq,A,Z,a4,hb4⟩:=hb;cases aq
 refine foS func166 ?_;conv=>whnf
 refine aI hΘ (X:={ y:Nat×List Int×Nat // y.1<=K.length/\y.2.1.length=y.1/\valsF K=valsA (K.drop y.1) (K.take y.1) y.2.1 }) (fun y=>[(3,.va (gA 1 2 y.1.2.2 y.1.2.1)),(13,.va (.int .i64 y.1.1))]) (4::5::6::7::8::jr 14 49 [])
  (fun y=>[(0,.frz F),(1,docE4 (.slice an 0 ab ae 2 al ac) (.slice bn 0 bb u 6 K.length E) w s),(2,gE 3 1 encI y.1.2.2 y.1.2.1)]) 3 (fun y=>K.length - y.1.1) ⟨(0,[],0),js _,rfl,rfl⟩
  (fun G I=>leI [(2,2)] G I rfl ⟨tv,ec (.inr oo) (.inr oo),aC cG _ _ _ _ _,tv⟩ ⟨rfl,rfl,tv⟩ ⟨Fz.r F,rfl,rfl,tv⟩) ?_
 rintro⟨⟨k,o,co⟩,hk,q,d⟩ G I;replace hk:k<=K.length:=hk;replace q:o.length=k:=q;replace d:valsF K=valsA (K.drop k) (K.take k) o:=d;by_cases g:k < K.length
 ·have az:(k:Int) < (K.length:Nat):=by omega
  have aj:0<=(k:Int)/\(k:Int) < (K.length:Nat):=by omega
  have ar:∃c,K[k]=c:=⟨_,rfl⟩
  obtain⟨c,hc⟩:=ar;have ao:aa[u+(k:Int).toNat]? =some (encK c):=by rw[<-hc];exact Sl.at hb4 g
  rw[EP g hc]at d;have B:k+1<=K.length:=g;have f:K.length - (k+1) < K.length - k:=by omega
  have h:k < 4611686018427387904:=by omega
  refine bri az ⟨Sl.lt A g,aj,_,Z (Sl.lt A g),_,ao,?_⟩;conv=>whnf
  by_cases hs:c.sum=true
  ·refine br (fun _=>?_) (fun g2=>absurd hs (by rw[g2];simp));have W:valF (K.take k) o c=dJ (sumF c ((K.take k).zip o) c.value):=by rw[valF,if_pos hs]
   have ad:0<=(k:Int)/\(k:Int)<=(E:Nat):=by omega
   refine⟨ad,?_⟩;conv=>whnf
   refine aI hΘ (X:={ y:Nat×Int // y.1<=k/\y.2=sumF c (((K.take k).zip o).take y.1) c.value }) (fun y=>[(6,.va (.int .i64 y.1.2)),(28,.va (.int .i64 y.1.1))]) (7::8::jr 29 27 [])
    (fun _=>[(0,.frz F),(1,docE4 (.slice an 0 ab ae 2 al ac) (.slice bn 0 bb u 6 K.length E) w s),(2,gE 3 1 encI co o),(3,celE c)]) 4 (fun y=>k - y.1.1) ⟨(0,c.value),js _,rfl⟩
    (fun G I=>leI [] G I rfl ⟨tv,ec (.inr oo) (.inr oo),aC cG _ _ _ _ _,lw _,tv⟩ ⟨rfl,rfl,tv⟩ ⟨Fz.r F,rfl,aH cG (aV _ _ _ _),rfl,tv⟩) ?_
   rintro⟨⟨j,n⟩,hj,hn⟩ M Q;replace hj:j<=k:=hj;replace hn:n=sumF c (((K.take k).zip o).take j) c.value:=hn;by_cases gj:j < k
   ·have ay:(j:Int) < (k:Nat):=by omega
    have au:0<=(j:Int)/\(j:Int) < (k:Nat):=by omega
    have x:j < K.length:=by omega
    have L:j < o.length:=by omega
    have af:∃e v,K[j]=e/\o[j]=v:=⟨_,_,rfl,rfl⟩
    obtain⟨e,v,O,U⟩:=af
    have Y:aa[(if E=0 then u else u+0)+(j:Int).toNat]? =some (encK e):=by
     rw[<-O,show(if E=0 then u else u+0)=u by split<;>rfl];exact Sl.at hb4 x
    have a0:(o.map encI)[0+(j:Int).toNat]? =some (encI v):=by rw[qz,qg,qu,qc L,U];rfl
    have am:=ybj (e:=e) (v:=v) hk q gj (by rw[qc x,O]) (by rw[qc L,U])
    have D:sumF c (((K.take k).zip o).take (j+1)) c.value=if kR c e=true then IntKind.i64.wrap (n+v)else n:=by
     rw[am,ww,<-hn]
    have av:0<=(j:Int)/\(j:Int) < (o.length:Nat):=by omega
    have a1:∃b1 b2,inR e.row c.top c.row=b1/\inR e.col c.left c.col=b2:=⟨_,_,rfl,rfl⟩
    obtain⟨b1,b2,l,m⟩:=a1;have w1:=ft l F;have w2:=ft m F;have ai:kR c e=(b1&&b2):=by unfold kR;rw[l,m]
    rw[ai]at D;have T:j+1<=k:=gj;have S:k - (j+1) < k - j:=by omega
    have p:j < 4611686018427387904:=by omega
    clear am O U l m ai;rcases o with _ | ⟨J,a⟩
    ·exact absurd L ss
    ·refine bri ay ⟨Sl.lt A x,au,_,Z (Sl.lt A x),_,Y,?_⟩;refine usePt w1 ?_;rcases b1 with _ | _
     ·exact⟨⟨(j+1,n),T,by rw[D];rfl⟩,S,leR [] M Q rfl ⟨tv,ec (.inr oo) (.inr oo),aC cG _ _ _ _ _,lw _,tv⟩ ⟨rfl,cnt p,tv⟩ ⟨Fz.r F,rfl,aH cG (aV _ _ _ _),rfl,tv⟩⟩
     ·refine usePt w2 ?_;rcases b2 with _ | _
      ·exact⟨⟨(j+1,n),T,by rw[D];rfl⟩,S,leR [] M Q rfl ⟨tv,ec (.inr oo) (.inr oo),aC cG _ _ _ _ _,lw _,tv⟩ ⟨rfl,cnt p,tv⟩ ⟨Fz.r F,rfl,aH cG (aV _ _ _ _),rfl,tv⟩⟩
      ·refine⟨rfl,av,rfl,_,a0,?_⟩;exact⟨⟨(j+1,IntKind.i64.wrap (n+v)),T,by rw[D];rfl⟩,S,leR [] M Q rfl ⟨tv,ec (.inr oo) (.inr oo),aC cG _ _ _ _ _,lw _,tv⟩ ⟨rfl,cnt p,tv⟩ ⟨Fz.r F,rfl,aH cG (aV _ _ _ _),rfl,tv⟩⟩
   ·have ah:¬(j:Int) < (k:Nat):=by omega
    have aw:j=k:=by omega
    have a2:((K.take k).zip o).length=k:=by rw[qan,qn,q];omega
    rw[aw,qk (qci a2)]at hn;rw[<-hn]at W;rcases o with _ | ⟨J,a⟩
    ·refine brj ah ⟨nb rfl,[encI (dJ (n))],rfl,rfl,rfl,by show 1*8<=140737488355328;omega,fun c' R=>?_⟩;exact⟨⟨(k+1,([])++[dJ (n)],c'),B,by rw[qb,yt,q],by rw[W]at d;exact d⟩,f,leRn [_,_,_] [_,_] [(2,5)] G I rfl ⟨tv,ec (.inr oo) (.inr oo),aC cG _ _ _ _ _,tv⟩ ⟨by(conv=>whnf);exact⟨rfl,rfl,rfl,.inr ⟨rfl,rfl,rfl,rfl⟩⟩,cnt h,tv⟩ ⟨Fz.r F,rfl,aH cG (bC _ ss),tv⟩⟩
    ·have V:(a.length+1+1)*8<=140737488355328:=by
      have h9:a.length+1=k:=q;omega
     refine brj ah ⟨nb rfl,[encI (dJ (n))],rfl,rfl,rfl,by simp,rfl,V,fun c' R=>?_⟩;exact⟨⟨(k+1,(J::a)++[dJ (n)],c'),B,by rw[qb,yt,q],by rw[W]at d;exact d⟩,f,leRn [_,_,_] [_,_] [(2,5)] G I rfl ⟨tv,ec (.inr oo) (.inr oo),aC cG _ _ _ _ _,tv⟩ ⟨cO (μ:=sig [(2,5)]) (i:=2) (j:=5) rfl 1 c' _ (J::a) (dJ n) rfl,cnt h,tv⟩ ⟨Fz.r F,rfl,aH cG (bC _ ss),tv⟩⟩
  ·refine br (fun g2=>absurd g2 hs) (fun _=>?_);have W:valF (K.take k) o c=dJ c.value:=by rw[valF,if_neg hs]
   rcases o with _ | ⟨J,a⟩
   ·refine⟨nb rfl,[encI (dJ (c.value))],rfl,rfl,rfl,by show 1*8<=140737488355328;omega,fun c' R=>?_⟩;exact⟨⟨(k+1,([])++[dJ (c.value)],c'),B,by rw[qb,yt,q],by rw[W]at d;exact d⟩,f,leR [(2,5)] G I rfl ⟨tv,ec (.inr oo) (.inr oo),aC cG _ _ _ _ _,tv⟩ ⟨by(conv=>whnf);exact⟨rfl,rfl,rfl,.inr ⟨rfl,rfl,rfl,rfl⟩⟩,cnt h,tv⟩ ⟨Fz.r F,rfl,aH cG (bC _ ss),tv⟩⟩
   ·have V:(a.length+1+1)*8<=140737488355328:=by
     have h9:a.length+1=k:=q;omega
    refine⟨nb rfl,[encI (dJ (c.value))],rfl,rfl,rfl,by simp,rfl,V,fun c' R=>?_⟩;exact⟨⟨(k+1,(J::a)++[dJ (c.value)],c'),B,by rw[qb,yt,q],by rw[W]at d;exact d⟩,f,leR [(2,5)] G I rfl ⟨tv,ec (.inr oo) (.inr oo),aC cG _ _ _ _ _,tv⟩ ⟨cO (μ:=sig [(2,5)]) (i:=2) (j:=5) rfl 1 c' _ (J::a) (dJ c.value) rfl,cnt h,tv⟩ ⟨Fz.r F,rfl,aH cG (bC _ ss),tv⟩⟩
 ·have ag:¬(k:Int) < (K.length:Nat):=by omega
  have ak:k=K.length:=by omega
  rw[ak,yg (qj _)]at d;replace d:valsF K=o:=d;rcases o with _ | ⟨J,a⟩
  ·have hK:K=[]:=q5 (by rw[<-ak,<-q];rfl);refine brj ag ?_;exact endFs (.ret (.va .nilsl)) (Fz.r F) ⟨_,rfl,.inl ⟨hK,rfl⟩⟩
  ·refine brj ag ?_;refine cu 2 (fun _=>.arr 3 1 ((J::a).map encI) co) rfl rfl rfl (fun _ _=>by exact cI cG rfl _ _ _ _) (fun _ _=>bX cG _ _ _ _ _) ?_;intro b' F' ax ap;exact yg9 ax (ap 0 ⟨rfl,rfl⟩) rfl d rfl
