import Derived.Test.YtfnkamphhpldcaaGreatDoorK27
import Derived.Test.YtfnkamphhpldcaaGreatDoorK22
import Derived.Test.YtfnkamphhpldcaaGreatDoorK26
set_option maxHeartbeats 64000000
namespace Go.Proofs.YtfnkamphhpldcaaGreatDoor
open Go Sx Tryz
set_option maxRecDepth 100000
theorem mU(F:Fz)(p:Int)(l:List RLn)(c:Nat)(x:RLn)(_:x.1.length < 1000000)(hl:l.length < 1000000)(u:¬p=1):
  Ct prog 121 [.va (.int .i64 p),.va (gA 5 1 c l),.agg (encL x)] F [(1,gE 191 5 encL c l)] 2
   (fun o K J n0=>F=K/\n0=2/\o=.ret (.va (.bool (fitsR p l x)))/\J=[(1,gE 191 5 encL c l)]):=by
 have fin:∀(b:Bool) (a:SA) (h:Hp) (nx:Nat),fitsR p l x=b->atomE (.bool b) a->lget h 0=some (.frz F)->lget h 1=some (gE 191 5 encL c l)->a.ren (resP h)=a->
   Cln 2 (fun o K J n0=>Fz.le F K/\(F=K/\n0=2/\o=.ret (.va (.bool (fitsR p l x)))/\J=[(1,gE 191 5 encL c l)])) (.ret (.va a)) h nx:=by
  intro b a h nx hb ha J h1 hr;subst hb;exact clean [] (.ret (.va (.bool (fitsR p l x)))) F [(1,gE 191 5 encL c l)] 2 ⟨Fz.r F,rfl,rfl,rfl,rfl⟩ (by show atomE _ (a.ren (resP h));rw[hr];exact ha) rfl rfl trivial ⟨aC di _ _ _ _ _,tv⟩ ⟨by simp only[entE,aget,Ent.ren];rw[J];exact Fz.r F,by simp only[entE,aget];rw[h1];exact aH di (aV _ _ _ _),tv⟩
 obtain⟨Z,d⟩:∃b,inR x.2.1 0 31=b:=⟨_,rfl⟩
 obtain⟨b1,f⟩:∃b,inR x.2.2.1 0 31=b:=⟨_,rfl⟩
 obtain⟨b3,n⟩:∃b,inR x.2.2.2.1 (-1000000) 1000000=b:=⟨_,rfl⟩
 obtain⟨b5,q⟩:∃b,inR x.2.2.2.1 (-1000000000000) 1000000000000=b:=⟨_,rfl⟩
 obtain⟨O,hb4⟩:∃b,inR x.2.2.2.1 0 x.2.1=b:=⟨_,rfl⟩
 obtain⟨b6,s⟩:∃b,inR x.2.2.2.2 0 x.2.2.1=b:=⟨_,rfl⟩
 have Y:=dD d F;have w1:=dD f F;have T:=dD n F;have V:=dD q F;have U:=dD hb4 F;have W:=dD s F;have w7:=lu x.2.1 0 7 F;refine ctS func121 ?_;refine br (fun g=>absurd (od g) u) (fun g=>?_)
 ·clear g;refine br (fun g=>?_) (fun g=>?_)
  ·have k:p=2:=od g;have e:fitsR p l x=(decide (0<=x.2.1)&&decide (x.2.1<=7)):=by rw[fitsR,if_neg u,if_pos k];rfl
   refine⟨by decide,?_⟩;refine usePt w7 ?_;exact fin _ _ _ _ e rfl rfl rfl rfl
  ·have k:¬p=2:=oe g;clear g;rcases Z with _ | _
   ·have e:=mV (l:=l) u k (.inl d);refine⟨by decide,?_⟩;refine usePt Y ?_;exact fin _ _ _ _ e rfl rfl rfl rfl
   ·refine⟨by decide,?_⟩;refine usePt Y ?_;refine⟨by decide,?_⟩;refine usePt w1 ?_;rcases b1 with _ | _
    ·have e:=mV (l:=l) u k (.inr (.inl f));exact fin _ _ _ _ e rfl rfl rfl rfl
    ·rcases l with _ | ⟨y,r⟩
     ·have i:=D8 x;refine brd dd ?_;refine br (fun g=>?_) (fun g=>?_)
      ·have e:=(nN (od g) d f i).trans n;refine⟨by decide,?_⟩;refine usePt T ?_;exact fin _ _ _ _ e rfl rfl rfl rfl
      ·have D:¬p=3:=oe g;clear g;refine br (fun g=>?_) (fun g=>?_)
       ·have e:=(nP (od g) d f i).trans q;refine⟨by decide,?_⟩;refine usePt V ?_;exact fin _ _ _ _ e rfl rfl rfl rfl
       ·have E:¬p=5:=oe g;clear g;have e:=nO u k D E d f i;rw[hb4,s]at e;refine⟨by decide,by decide,?_⟩;refine usePt U ?_;rcases O with _ | _
        ·exact fin _ _ _ _ e rfl rfl rfl rfl
        ·refine⟨by decide,by decide,?_⟩;refine usePt W ?_;exact fin _ _ _ _ e rfl rfl rfl rfl
     ·have X:IntKind.i64.wrap (((r.length+1:Nat):Int) - 1)=((r.length:Nat):Int):=by
       have:r.length+1 < 1000000:=hl;rw[aF oo oo];omega
      have M:∃z,(y::r)[r.length]? =some z:=⟨_,qc ss⟩
      obtain⟨z,M⟩:=M;have R:((y::r).map encL)[r.length]? =some (encL z):=by rw[qu,M];rfl
      have B:(y::r).getLast? =some z:=by rw[qc6];exact M
      have j:eD (y::r) x= !(decide (x.2.1 < z.2.1)||(decide (z.2.1=x.2.1)&&decide (x.2.2.1<=z.2.2.1))):=by rw[eD,B]
      refine br (fun _=>?_) (fun g=>absurd (oe g) oo);have Q:0<=IntKind.i64.wrap (((r.length+1:Nat):Int) - 1)/\IntKind.i64.wrap (((r.length+1:Nat):Int) - 1) < ((r.length+1:Nat):Int):=by rw[X];omega
      have S:((y::r).map encL)[0+(IntKind.i64.wrap (((r.length+1:Nat):Int) - 1)).toNat]? =some (encL z):=by rw[X,qg,qz];exact R
      refine⟨rfl,Q,rfl,_,S,by decide,by decide,fun G=>?_,fun G=>?_⟩
      ·have m:¬x.2.1 < z.2.1:=oe G;clear G;refine⟨by decide,by decide,fun I=>?_,fun I=>?_⟩
       ·have w:z.2.1=x.2.1:=od I;clear I;refine⟨by decide,by decide,?_⟩;refine br (fun L=>?_) (fun L=>?_)
        ·have A:x.2.2.1<=z.2.2.1:=od L;have i:eD (y::r) x=false:=by rw[j,decide_eq_true w,decide_eq_true A];simp
         have e:=mV u k (.inr (.inr i));exact fin _ _ _ _ e rfl rfl rfl rfl
        ·have A:¬x.2.2.1<=z.2.2.1:=oe L;have i:eD (y::r) x=true:=by rw[j,decide_eq_false m,decide_eq_false A];simp
         clear L;refine br (fun g=>?_) (fun g=>?_)
         ·have e:=(nN (od g) d f i).trans n;refine⟨by decide,?_⟩;refine usePt T ?_;exact fin _ _ _ _ e rfl rfl rfl rfl
         ·have D:¬p=3:=oe g;clear g;refine br (fun g=>?_) (fun g=>?_)
          ·have e:=(nP (od g) d f i).trans q;refine⟨by decide,?_⟩;refine usePt V ?_;exact fin _ _ _ _ e rfl rfl rfl rfl
          ·have E:¬p=5:=oe g;clear g;have e:=nO u k D E d f i;rw[hb4,s]at e;refine⟨by decide,by decide,?_⟩;refine usePt U ?_;rcases O with _ | _
           ·exact fin _ _ _ _ e rfl rfl rfl rfl
           ·refine⟨by decide,by decide,?_⟩;refine usePt W ?_;exact fin _ _ _ _ e rfl rfl rfl rfl
       ·have w:¬z.2.1=x.2.1:=oe I;have i:eD (y::r) x=true:=by rw[j,decide_eq_false m,decide_eq_false w];simp
        clear I;refine br (fun g=>?_) (fun g=>?_)
        ·have e:=(nN (od g) d f i).trans n;refine⟨by decide,?_⟩;refine usePt T ?_;exact fin _ _ _ _ e rfl rfl rfl rfl
        ·have D:¬p=3:=oe g;clear g;refine br (fun g=>?_) (fun g=>?_)
         ·have e:=(nP (od g) d f i).trans q;refine⟨by decide,?_⟩;refine usePt V ?_;exact fin _ _ _ _ e rfl rfl rfl rfl
         ·have E:¬p=5:=oe g;clear g;have e:=nO u k D E d f i;rw[hb4,s]at e;refine⟨by decide,by decide,?_⟩;refine usePt U ?_;rcases O with _ | _
          ·exact fin _ _ _ _ e rfl rfl rfl rfl
          ·refine⟨by decide,by decide,?_⟩;refine usePt W ?_;exact fin _ _ _ _ e rfl rfl rfl rfl
      ·have m:x.2.1 < z.2.1:=od G;have i:eD (y::r) x=false:=by rw[j,decide_eq_true m];simp
       have e:=mV u k (.inr (.inr i));clear G;exact fin _ _ _ _ e rfl rfl rfl rfl
def txtOk(b:UInt8):Bool:=decide (32<=b.toNat)&&decide (b.toNat<=126)
theorem Bh{t:List UInt8}{k:Nat}(g:k < t.length):(t.take (k+1)).all txtOk=((t.take k).all txtOk&&txtOk t[k]):=by
 rw[qe g,qcx];simp
theorem ycf{t:List UInt8}{k:Nat}(g:k < t.length)(h:txtOk t[k]=false):t.all txtOk=false:=by
 rw[qc8];exact⟨t[k],qt g,by rw[h];simp⟩
theorem un(n:Nat)(x:RLn):(Ent.one (.cells 191 (encL x))).below n:=(SB.bB_ok rfl:SB.below n (.cells 191 (encL x)))
variable {p:Int}{l:List RLn}
theorem yf0{x:RLn}(g:p=1):fitsR p l x=(x.1.all txtOk&&decide (x.1.length<=80)):=by
 rw[fitsR,if_pos g];rfl
theorem B4(F:Fz)(p:Int)(l:List RLn)(c:Nat)(x:RLn)(M:x.1.length < 1000000)(I:p=1):
  Ct prog 121 [.va (.int .i64 p),.va (gA 5 1 c l),.agg (encL x)] F [(1,gE 191 5 encL c l)] 2
   (fun o q f n0=>F=q/\n0=2/\o=.ret (.va (.bool (fitsR p l x)))/\f=[(1,gE 191 5 encL c l)]):=by
 have fin:∀(b:Bool) (a:SA) (h:Hp) (nx:Nat),fitsR p l x=b->atomE (.bool b) a->lget h 0=some (.frz F)->lget h 1=some (gE 191 5 encL c l)->a.ren (resP h)=a->
   Cln 2 (fun o q f n0=>Fz.le F q/\(F=q/\n0=2/\o=.ret (.va (.bool (fitsR p l x)))/\f=[(1,gE 191 5 encL c l)])) (.ret (.va a)) h nx:=by
  intro b a h nx hb J f h1 L;subst hb;exact clean [] (.ret (.va (.bool (fitsR p l x)))) F [(1,gE 191 5 encL c l)] 2 ⟨Fz.r F,rfl,rfl,rfl,rfl⟩ (by show atomE _ (a.ren (resP h));rw[L];exact J) rfl rfl trivial ⟨aC di _ _ _ _ _,tv⟩ ⟨by simp only[entE,aget,Ent.ren];rw[f];exact Fz.r F,by simp only[entE,aget];rw[h1];exact aH di (aV _ _ _ _),tv⟩
 have E:=yf0 (l:=l) (x:=x) I;refine ctS func121 ?_;refine br (fun g=>?_) (fun g=>absurd I (oe g))
 ·clear g;conv=>whnf
  refine aI hΘ (X:={ k:Nat // k<=x.1.length/\(x.1.take k).all txtOk=true }) (fun k=>[(7,.va (.int .i64 k.1))]) (6::jr 12 19 [])
   (fun _=>[(0,.frz F),(1,gE 191 5 encL c l),(2,.one (.cells 191 (encL x)))]) 3 (fun k=>x.1.length - k.1) ⟨0,by simp⟩
   (fun y A=>leI [] y A rfl ⟨tv,aC di _ _ _ _ _,un _ _,tv⟩ ⟨rfl,tv⟩ ⟨Fz.r F,aH di (aV _ _ _ _),rfl,tv⟩) ?_
  rintro⟨k,G,d⟩ y A;replace G:k<=x.1.length:=G;replace d:(x.1.take k).all txtOk=true:=d;refine br (fun m=>?_) (fun m=>?_)
  ·have n:k < x.1.length:=by
    have f:(k:Int) < (x.1.length:Int):=od m;omega
   clear m;have D:=Bh n;rw[d,yz]at D;have i:txtOk x.1[k]=false->fitsR p l x=false:=fun h=>by rw[E,ycf n h];rfl
   have K:=x.1[k].toNat_lt;refine⟨by dsimp only;omega,x.1[k],by dsimp only;rw[qg,qc n],fun s=>?_,fun s=>?_⟩
   ·have w:¬x.1[k].toNat < 32:=by
     have f:¬(x.1[k].toNat:Int) < 32:=oe s;omega
    clear s;refine⟨by dsimp only;omega,x.1[k],by dsimp only;rw[qg,qc n],?_⟩;refine br (fun u=>?_) (fun u=>?_)
    ·have j:126 < x.1[k].toNat:=by
      have f:(126:Int) < x.1[k].toNat:=od u;omega
     have e:=i (by rw[txtOk,decide_eq_false (show¬x.1[k].toNat<=126 by omega),yk]);exact fin _ _ _ _ e rfl rfl rfl rfl
    ·have j:¬126 < x.1[k].toNat:=by
      have f:¬(126:Int) < x.1[k].toNat:=oe u;omega
     have B:txtOk x.1[k]=true:=by rw[txtOk,decide_eq_true (show 32<=x.1[k].toNat by omega),decide_eq_true (show x.1[k].toNat<=126 by omega)];rfl
     rw[B]at D;clear u i;exact⟨⟨k+1,by show k+1<=x.1.length;omega,D⟩,by show x.1.length - (k+1) < x.1.length - k;omega,leR [] y A rfl ⟨tv,aC di _ _ _ _ _,un _ _,tv⟩ ⟨cnt oo,tv⟩ ⟨Fz.r F,aH di (aV _ _ _ _),rfl,tv⟩⟩
   ·have w:x.1[k].toNat < 32:=by
     have f:(x.1[k].toNat:Int) < 32:=od s;omega
    have e:=i (by rw[txtOk,decide_eq_false (show¬32<=x.1[k].toNat by omega),jv]);exact fin _ _ _ _ e rfl rfl rfl rfl
  ·have n:¬k < x.1.length:=by
    have f:¬(k:Int) < (x.1.length:Int):=oe m;omega
   clear m;rw[qk oo]at d
   have e:fitsR p l x=decide ((x.1.length:Int)<=80):=by
    rw[E,d,yz];exact decide_eq_decide.2 oo
   exact fin _ _ _ _ e rfl rfl rfl rfl
theorem pS:∀(n:Nat) (s:List UInt8) (p:Bool),s.length<=n->spc p (repD s)=spc p s
 |_,[],p,_=>by simp[repD]
 |_,[a],p,_=>by simp[repD]
 |0,a::b::r,p,h=>by simp at h
 |n+1,a::b::r,p,h=>by
  rw[repD];by_cases c:(a==32&&b==32)=true
  ·have e:a=32:=by simp at c;exact c.1
   have hb:b=32:=by simp at c;exact c.2
   have ih:=pS n r true (by simp only[qf]at h;omega);subst e;subst hb;rw[if_pos c];cases p<;>simp[spc,ih]
  ·have ih:=fun q=>pS n (b::r) q (by simp only[qf]at h ⊢;omega)
   rw[if_neg c];by_cases d:a=32/\p=true
   ·rw[spc,if_pos d,ih,spc.eq_def p (a::b::r)];simp only[if_pos d]
   ·rw[spc,if_neg d,ih,spc.eq_def p (a::b::r)];simp only[if_neg d]
theorem xG:∀(s:List UInt8) (p:Bool),hasD s=false->(p=true->s.head? ≠some 32)->spc p s=s
 |[],p,_,_=>by simp[spc]
 |a::r,p,h,hp=>by
  have h1:¬(a=32/\p=true):=fun hh=>hp hh.2 (by rw[hh.1];rfl)
  rw[spc,if_neg h1]
  congr 1
  refine xG r _ ?_ ?_
  ·cases r with
   |nil=>rfl
   |cons b r=>rw[hasD,qcs]at h;exact h.2
  ·intro d hb;cases r with
   |nil=>simp at hb
   |cons b r=>
    rw[hasD,qcs]at h;have hb:b=32:=by simpa using hb
    have c:=h.1;rw[d,hb]at c;simp at c
theorem sH:∀(f:Nat) (s:List UInt8),s.length<=f->spS f s=spc false s
 |0,s,h=>by
  have:s=[]:=q5 oo;subst this;rfl
 |f+1,s,h=>by
  rw[spS];by_cases a:hasD s=true
  ·rw[if_pos a,sH f (repD s) (by have:=iX s a;omega),pS s.length s false (qj _)]
  ·rw[if_neg a,xG s false (by simpa using a) (fun h=>by cases h)]
structure RVal where
 lost:Bool
 lines:List RLn
 w:Int
 h:Int
 bits:List UInt8
def numsOf(x:RLn):List Int:=[x.2.1,x.2.2.1,x.2.2.2.1,x.2.2.2.2]
def ds(p:Int)(x:RLn):List UInt8:=(if p=1 then(putSR x.1).1 else [])++(((numsOf x).take (colN p)).map fun n=>(putIR n).1).flatten
def dI(p:Int)(v:RVal):List UInt8:=
 if v.lost=true then []else
 if 6<=p then(putIR v.w).1++(putIR v.h).1++(if p=7 then(putSR v.bits).1 else [])
 else(putIR v.lines.length).1++(v.lines.map (ds p)).flatten
theorem ED(p:Int)(x:RLn):(ds p x).length<=66000:=by
 unfold ds;have h1:=eH x.1;have a:=fJ (f:=fun n=>(putIR n).1) dO ((numsOf x).take (colN p));have b:((numsOf x).take (colN p)).length<=4:=by rw[qn];show min _ 4<=4;omega
 rw[qb];split
 ·omega
 ·simp only[qv];omega
theorem yaw{k:Nat}{ob:List UInt8}{x:RLn}(a:k < l.length)(b:l[k]=x)(h:ob=(putIR (l.length:Nat)).1++((l.take k).map (ds p)).flatten):ob++ds p x=(putIR (l.length:Nat)).1++((l.take (k+1)).map (ds p)).flatten:=by
 rw[eX a,b,h,ql]
theorem yep{k:Nat}{ob:List UInt8}(c:l.length<=1000)(h:ob=(putIR (l.length:Nat)).1++((l.take k).map (ds p)).flatten):ob.length<=100000000:=by
 have h1:=dO (l.length:Nat);have a:=fJ (ED p) (l.take k);have b:(l.take k).length<=1000:=by rw[qn];omega
 rw[h,qb];omega
def rvalE(v:RVal)(i c:Nat):Ent:=.one (.cells 110 [.lit v.lost,gA 5 i c v.lines,.int .i64 v.w,.int .i64 v.h,.str v.bits])
theorem cK{v:RVal}{n i:Nat}(h:i < n)(c:Nat):(rvalE v i c).below n:=by
 show∀a∈_,SA.below n a;intro a b;simp only[qi,qp,or_false]at b;rcases b with rfl | rfl | rfl | rfl | rfl
 ·trivial
 ·exact fE h _ _ _
 ·trivial
 ·trivial
 ·trivial
def bitB(b:UInt8):Bool:=b==48||b==49
def fS(p:Int)(s:List UInt8):Option RVal:=
 let x:=rdNum s 0 false
 let y:=rdNum s x.2.1 x.2.2
 let z:=if p=7 then rdTxt s y.2.1 y.2.2 else([],y.2.1,y.2.2)
 if z.2.2=true\/z.2.1≠s.length then none
 else if p=8 then if inR x.1 0 64=true/\inR y.1 0 64=true then some ⟨false,[],x.1,y.1,z.1⟩else none
 else if z.1.all bitB=false then none
 else if x.1=0 then if y.1=0/\z.1=[]then some ⟨false,[],x.1,y.1,z.1⟩else none
 else if inR x.1 1 32=true/\inR y.1 1 32=true/\(p=6\/(z.1.length:Int)=x.1*y.1)then some ⟨false,[],x.1,y.1,z.1⟩else none
def rdL(p:Int)(s:List UInt8)(q:Int):RLn×Int×Bool:=
 if p=1 then let t:=rdTxt s q false;((t.1,0,0,0,0),t.2.1,t.2.2)
 else if p=2 then let a:=rdNum s q false;(([],a.1,0,0,0),a.2.1,a.2.2)
 else
  let a:=rdNum s q false
  let b:=rdNum s a.2.1 a.2.2
  let c:=rdNum s b.2.1 b.2.2
  if p=4 then let d:=rdNum s c.2.1 c.2.2;(([],a.1,b.1,c.1,d.1),d.2.1,d.2.2)
  else(([],a.1,b.1,c.1,0),c.2.1,c.2.2)
def dx(p:Int)(s:List UInt8):Nat->List RLn->Int->Option (List RLn×Int)
 |0,acc,q=>some (acc,q)
 |f+1,acc,q=>if(rdL p s q).2.2=true\/fitsR p acc (rdL p s q).1=false then none else dx p s f (acc++[(rdL p s q).1]) (rdL p s q).2.1
def readR(p:Int)(s:List UInt8):Option RVal:=
 if ¬(1<=p/\p<=8)then none
 else if s=[]then some ⟨true,[],0,0,[]⟩
 else if 6<=p then fS p s
 else if(rdNum s 0 false).2.2=true\/inR (rdNum s 0 false).1 0 64=false then none
 else match dx p s (rdNum s 0 false).1.toNat [] (rdNum s 0 false).2.1 with
  |none=>none
  |some (l,q)=>if q=s.length then some ⟨false,l,0,0,[]⟩else none
def Its(F:Fz)(a:SA)(l:List RLn):Prop:=
 (l=[]/\a=.nilsl)\/l≠[]/\∃b e c L d,a=.slice false 0 b e 5 l.length c/\F b=some (.arr 191 5 L d)/\(L.drop e).take l.length=l.map encL
variable {F:Fz}
theorem Its.nil:Its F .nilsl []:=.inl ⟨rfl,rfl⟩
theorem Its.new{b c a:Nat}(h:F b=some (.arr 191 5 (l.map encL) a))(d:l≠[]:=by simp):Its F (.slice false 0 b 0 5 l.length c) l:=
 .inr ⟨d,b,0,c,l.map encL,a,rfl,h,by rw[y5,qk ss]⟩
abbrev rvS(v:RVal)(a:SA):List SA:=[.lit v.lost,a,.int .i64 v.w,.int .i64 v.h,.str v.bits]
def capOk:SA->Prop
 |.slice _ _ _ _ _ n c=>n<=c
 |_=>True
def fC(p:Int)(s:List UInt8):Out->Fz->Prop:=fun o c=>∃v a b,o=.ret (.tup [.agg (rvS v a),.va (.bool b)])/\Its c a v.lines/\((b=true/\readR p s=some v)\/(b=false/\readR p s=none))/\capOk a
variable {b:Bool}{s:List UInt8}
theorem dG{q:Int}(e:s.length<=1000000000000000000)(c:i64 q):i64 (rdNum s q b).2.1:=by
 unfold rdNum;split
 ·exact c
 ·rename_i h
  have d:=e8 (s:=s) (p:=q) (by
   apply Classical.byContradiction;intro a;exact h (.inr a))
  exact⟨by dsimp only;omega,by dsimp only;omega⟩
theorem AH{q:Int}(e:s.length<=1000000000000000000)(c:i64 q):i64 (rdTxt s q b).2.1:=by
 unfold rdTxt;split
 ·exact c
 ·rename_i h
  have d:=ry (s:=s) (q:=q) (by
   apply Classical.byContradiction;intro a;exact h (.inr a))
  exact⟨by dsimp only;omega,by dsimp only;omega⟩
theorem Eo(s:List UInt8)(q:Int):(getS s q).1.length<=65536:=by
 unfold getS;split
 ·simp
 split
 ·simp
 ·rename_i h1 a;show(((s.take ((getI s q).2.1+(getI s q).1).toNat).drop (getI s q).2.1.toNat).length<=65536);rw[yl,qn];omega
theorem tP(s:List UInt8)(q:Int)(b:Bool):(rdTxt s q b).1.length<=65536:=by
 unfold rdTxt;split
 ·simp
 ·exact Eo s q
variable {nx:Nat}
theorem dP{F1:Fz}{l:Bool}{w hh:Int}{bits:List UInt8}{h:Hp}(d:(b=true/\readR p s=some ⟨l,[],w,hh,bits⟩)\/(b=false/\readR p s=none))(c:lget h 0=some (.frz F1))(a:Fz.le F F1):
  Cln 1 (FoK F (fC p s)) (.ret (.tup [.agg [.lit l,.nilsl,.int .i64 w,.int .i64 hh,.str bits],.va (.bool b)])) h nx:=
 endFo (.ret (.tup [.agg (rvS ⟨l,[],w,hh,bits⟩ .nilsl),.va (.bool b)])) F1 c a (Fz.r F1) ⟨_,_,_,rfl,Its.nil,d,tv⟩ (aO _) rfl
theorem ey{F1:Fz}{l:Bool}{w hh:Int}{bits:List UInt8}{h:Hp}(d:(b=true/\readR p s=some ⟨l,[],w,hh,bits⟩)\/(b=false/\readR p s=none))(c:lget h 0=some (.frz F1))(a:Fz.le F F1):
  Cln 1 (FoK F (fC p s)) (.ret (.tup [.agg [.lit l,.nilsl,.int .i64 w,.int .i64 hh,.str bits],.va (.lit b)])) h nx:=
 endFo (.ret (.tup [.agg (rvS ⟨l,[],w,hh,bits⟩ .nilsl),.va (.bool b)])) F1 c a (Fz.r F1) ⟨_,_,_,rfl,Its.nil,d,tv⟩ ⟨rfl,rfl,tv⟩ rfl
theorem eU{F1:Fz}{h:Hp}(c:readR p s=none)(b:lget h 0=some (.frz F1))(a:Fz.le F F1):
  Cln 1 (FoK F (fC p s)) (.ret (.tup [.agg [.lit false,.nilsl,.int .i64 0,.int .i64 0,.str []],.va (.bool false)])) h nx:=dP (.inr ⟨rfl,c⟩) b a
theorem Dx(F:Fz)(s:List UInt8)(p:Int)(b:¬(1<=p/\p<=8)):Fo prog F 54 [.va (.int .i64 p),.va (.str s)] (fC p s):=by
 have a:inR p 1 8=false:=by
  apply Classical.byContradiction;intro h;have h:inR p 1 8=true:=by simpa using h
  unfold inR at h;simp at h;exact b h
 have d:=dD a F;have c:readR p s=none:=if_pos b;refine foS func54 ?_;refine usePt d ?_;exact eU c rfl (Fz.r F)
theorem CY(F:Fz)(p:Int)(b:1<=p/\p<=8):Fo prog F 54 [.va (.int .i64 p),.va (.str [])] (fC p []):=by
 have a:inR p 1 8=true:=by unfold inR;simp;exact b
 have d:=dD a F;have c:readR p []=some ⟨true,[],0,0,[]⟩:=by rw[readR,if_neg (fun h=>h b),if_pos rfl]
 refine foS func54 ?_;refine usePt d ?_;refine bre dd ?_;exact dP (.inl ⟨rfl,c⟩) rfl (Fz.r F)
abbrev sl0(b e n c:Nat):SA:=.slice false 0 b e 5 n c
def rvSE(v:RVal)(b e n c:Nat):Ent:=.one (.cells 110 (rvS v (sl0 b e n c)))
theorem jT{n0:Nat}{v:RVal}{b e n c:Nat}(h:0 < n0:=by omega):(rvSE v b e n c).below n0:=by
 show∀a∈_,SA.below n0 a;intro a d;simp only[qi,qp,or_false]at d;rcases d with rfl | rfl | rfl | rfl | rfl
 ·trivial
 ·exact .inr h
 ·trivial
 ·trivial
 ·trivial
theorem wfEnd{v:RVal}{t:List UInt8}{h:Hp}(hb:dI p v=t)(b:lget h 0=some (.frz F)):
  Cln 1 (FoK F fun o a=>o=.ret (.va (.str (dI p v)))/\a=F) (.ret (.va (.str t))) h nx:=by
 subst hb;exact endPu b (Fz.r F) (aO _) rfl
theorem yhb(F:Fz)(p:Int)(Y:p=1\/p=2\/p=3\/p=4\/p=5)(L:List RLn)(w h:Int)(bits:List UInt8)(b e c:Nat)(X:List (List SA))(J:Nat)(q:F b=some (.arr 191 5 X J))(Q:(X.drop e).take L.length=L.map encL)(hl:L.length<=1000)(hx:∀x∈L,x.1.length<=1000000):
  Fo prog F 56 [.va (.int .i64 p),.agg (rvS ⟨false,L,w,h,bits⟩ (sl0 b e L.length c))] (fun o F'=>o=.ret (.va (.str (dI p ⟨false,L,w,h,bits⟩)))/\F'=F):=by
 have I:¬6<=p:=by omega
 have hW:dI p ⟨false,L,w,h,bits⟩=(putIR (L.length:Nat)).1++(L.map (ds p)).flatten:=by rw[dI,if_neg (fun h=>nomatch h),if_neg I]
 have W:=fj F (L.length:Nat);have a:=xX p F;refine foS func56 ?_;refine brj I ?_;refine usePt W ?_;conv=>whnf
 refine aI hΘ (X:={ x:Nat×List UInt8 // x.1<=L.length/\x.2=(putIR (L.length:Nat)).1++((L.take x.1).map (ds p)).flatten }) (fun x=>[(5,.va (.str x.1.2)),(12,.va (.int .i64 x.1.1))]) (13::14::15::16::17::jr 60 43 [])
  (fun _=>[(0,.frz F),(1,rvSE ⟨false,L,w,h,bits⟩ b e L.length c)]) 2 (fun x=>L.length - x.1.1) ⟨(0,(putIR (L.length:Nat)).1),by simp⟩
  (fun M O=>leI [] M O rfl ⟨tv,jT,tv⟩ ⟨rfl,rfl,tv⟩ ⟨Fz.r F,rfl,tv⟩) ?_
 rintro⟨⟨k,ob⟩,hk,n⟩ M O;replace hk:k<=L.length:=hk;replace n:ob=(putIR (L.length:Nat)).1++((L.take k).map (ds p)).flatten:=n;have aa:=yep hl n
 have D:k=L.length->dI p ⟨false,L,w,h,bits⟩=ob:=fun B=>by
  rw[hW,n,B,qk (qj _)]
 by_cases B:k < L.length
 ·have S:∃x,L[k]=x:=⟨_,rfl⟩
  obtain⟨⟨t,n0,i,j,A⟩,E⟩:=S;have d:X[e+(k:Int).toNat]? =some (encL (t,n0,i,j,A)):=by rw[<-E];exact Sl.at Q B
  have u:(k:Int) < (L.length:Nat):=by omega
  have f:0<=(k:Int)/\(k:Int) < (L.length:Nat):=by omega
  have g:=yaw B E n;have e0:=dO n0;have e1:=dO i;have e2:=dO j;have e3:=dO A;have et:=eH t;have Z:=hx _ (qt B);rw[E]at Z;replace Z:t.length<=1000000:=Z;have pt:=sW F t oo;have K:=fj F n0;have p1:=fj F i;have p2:=fj F j;have p3:=fj F A;have U:k+1<=L.length:=B;have G:L.length - (k+1) < L.length - k:=by omega
  have V:k < 4611686018427387904:=by omega
  clear D hx n hW;rcases Y with rfl | rfl | rfl | rfl | rfl
  case' inl=>
   rw[show((colN 1:Nat):Int)=0 by decide]at a;have y:ob++(putSR t).1=(putIR (L.length:Nat)).1++((L.take (k+1)).map (ds 1)).flatten:=by rw[<-g];exact congrArg (ob++ ·) (qx _).symm
   have m:ob.length+(putSR t).1.length<=9223372036854775807:=by omega
   refine bri u ?_;refine bre dd ⟨rfl,f,_,q,_,d,?_⟩;refine usePt pt ?_;refine⟨m,?_⟩;conv=>whnf
   refine cR hΘ 0 ?_;conv=>whnf
  case' inr.inl=>
   rw[show((colN 2:Nat):Int)=1 by decide]at a;have l:(ob).length+(putIR n0).1.length<=9223372036854775807:=by(try simp only[qb]);omega
   have y:ob++(putIR n0).1=(putIR (L.length:Nat)).1++((L.take (k+1)).map (ds 2)).flatten:=by
    rw[<-g,show ds 2 (t,n0,i,j,A)=[(putIR n0).1].flatten from rfl];simp only[jw,y6,qx]
   refine bri u ?_;refine brd dd ?_;conv=>whnf
   refine cR hΘ 1 ?_;refine usePt a ?_;refine bre dd ⟨rfl,f,by decide,_,q,_,d,?_⟩;refine usePt K ?_;refine⟨l,?_⟩;conv=>whnf
   refine sr_go hΘ ?_;conv=>whnf
  case' inr.inr.inl=>
   rw[show((colN 3:Nat):Int)=3 by decide]at a;have l:(ob).length+(putIR n0).1.length<=9223372036854775807:=by(try simp only[qb]);omega
   have m:(ob++(putIR n0).1).length+(putIR i).1.length<=9223372036854775807:=by(try simp only[qb]);omega
   have s:(ob++(putIR n0).1++(putIR i).1).length+(putIR j).1.length<=9223372036854775807:=by(try simp only[qb]);omega
   have y:ob++(putIR n0).1++(putIR i).1++(putIR j).1=(putIR (L.length:Nat)).1++((L.take (k+1)).map (ds 3)).flatten:=by
    rw[<-g,show ds 3 (t,n0,i,j,A)=[(putIR n0).1,(putIR i).1,(putIR j).1].flatten from rfl];simp only[jw,y6,qx,ql]
   refine bri u ?_;refine brd dd ?_;conv=>whnf
   refine cR hΘ 3 ?_;refine usePt a ?_;refine bre dd ⟨rfl,f,by decide,_,q,_,d,?_⟩;refine usePt K ?_;refine⟨l,?_⟩;conv=>whnf
   refine sr_go hΘ ?_;refine usePt a ?_;refine bre dd ⟨rfl,f,by decide,_,q,_,d,?_⟩;refine usePt p1 ?_;refine⟨m,?_⟩;conv=>whnf
   refine sr_go hΘ ?_;refine usePt a ?_;refine bre dd ⟨rfl,f,by decide,_,q,_,d,?_⟩;refine usePt p2 ?_;refine⟨s,?_⟩;conv=>whnf
   refine sr_go hΘ ?_;conv=>whnf
  case' inr.inr.inr.inl=>
   rw[show((colN 4:Nat):Int)=4 by decide]at a;have l:(ob).length+(putIR n0).1.length<=9223372036854775807:=by(try simp only[qb]);omega
   have m:(ob++(putIR n0).1).length+(putIR i).1.length<=9223372036854775807:=by(try simp only[qb]);omega
   have s:(ob++(putIR n0).1++(putIR i).1).length+(putIR j).1.length<=9223372036854775807:=by(try simp only[qb]);omega
   have R:(ob++(putIR n0).1++(putIR i).1++(putIR j).1).length+(putIR A).1.length<=9223372036854775807:=by(try simp only[qb]);omega
   have y:ob++(putIR n0).1++(putIR i).1++(putIR j).1++(putIR A).1=(putIR (L.length:Nat)).1++((L.take (k+1)).map (ds 4)).flatten:=by
    rw[<-g,show ds 4 (t,n0,i,j,A)=[(putIR n0).1,(putIR i).1,(putIR j).1,(putIR A).1].flatten from rfl];simp only[jw,y6,qx,ql]
   refine bri u ?_;refine brd dd ?_;conv=>whnf
   refine cR hΘ 4 ?_;refine usePt a ?_;refine bre dd ⟨rfl,f,by decide,_,q,_,d,?_⟩;refine usePt K ?_;refine⟨l,?_⟩;conv=>whnf
   refine sr_go hΘ ?_;refine usePt a ?_;refine bre dd ⟨rfl,f,by decide,_,q,_,d,?_⟩;refine usePt p1 ?_;refine⟨m,?_⟩;conv=>whnf
   refine sr_go hΘ ?_;refine usePt a ?_;refine bre dd ⟨rfl,f,by decide,_,q,_,d,?_⟩;refine usePt p2 ?_;refine⟨s,?_⟩;conv=>whnf
   refine sr_go hΘ ?_;refine usePt a ?_;refine bre dd ⟨rfl,f,by decide,_,q,_,d,?_⟩;refine usePt p3 ?_;refine⟨R,?_⟩;conv=>whnf
   refine sr_go hΘ ?_;conv=>whnf
  case' inr.inr.inr.inr=>
   rw[show((colN 5:Nat):Int)=3 by decide]at a;have l:(ob).length+(putIR n0).1.length<=9223372036854775807:=by(try simp only[qb]);omega
   have m:(ob++(putIR n0).1).length+(putIR i).1.length<=9223372036854775807:=by(try simp only[qb]);omega
   have s:(ob++(putIR n0).1++(putIR i).1).length+(putIR j).1.length<=9223372036854775807:=by(try simp only[qb]);omega
   have y:ob++(putIR n0).1++(putIR i).1++(putIR j).1=(putIR (L.length:Nat)).1++((L.take (k+1)).map (ds 5)).flatten:=by
    rw[<-g,show ds 5 (t,n0,i,j,A)=[(putIR n0).1,(putIR i).1,(putIR j).1].flatten from rfl];simp only[jw,y6,qx,ql]
   refine bri u ?_;refine brd dd ?_;conv=>whnf
   refine cR hΘ 3 ?_;refine usePt a ?_;refine bre dd ⟨rfl,f,by decide,_,q,_,d,?_⟩;refine usePt K ?_;refine⟨l,?_⟩;conv=>whnf
   refine sr_go hΘ ?_;refine usePt a ?_;refine bre dd ⟨rfl,f,by decide,_,q,_,d,?_⟩;refine usePt p1 ?_;refine⟨m,?_⟩;conv=>whnf
   refine sr_go hΘ ?_;refine usePt a ?_;refine bre dd ⟨rfl,f,by decide,_,q,_,d,?_⟩;refine usePt p2 ?_;refine⟨s,?_⟩;conv=>whnf
   refine sr_go hΘ ?_;conv=>whnf
  all_goals
   refine usePt a ?_;refine brd dd ?_;exact⟨⟨(k+1,_),U,y⟩,G,leR [] M O rfl ⟨tv,jT,tv⟩ ⟨rfl,cnt V,tv⟩ ⟨Fz.r F,rfl,tv⟩⟩
 ·have B:k=L.length:=by omega
  have T:¬(k:Int) < (L.length:Nat):=by omega
  have e:=D B;refine brj T ?_;exact wfEnd e rfl
theorem ybh(F:Fz)(p w h:Int)(bits:List UInt8)(b:¬6<=p):
  Fo prog F 56 [.va (.int .i64 p),.agg (rvS ⟨false,[],w,h,bits⟩ .nilsl)] (fun o c=>o=.ret (.va (.str (dI p ⟨false,[],w,h,bits⟩)))/\c=F):=by
 have d:dI p ⟨false,[],w,h,bits⟩=(putIR 0).1:=by
  rw[dI,if_neg ss,if_neg b];exact qx _
 have a:=fj F 0;refine foS func56 ?_;refine brj b ?_;refine usePt a ?_;conv=>whnf
 refine cR hΘ 0 ?_;refine brd dd ?_;exact wfEnd d rfl
theorem yha(F:Fz)(p:Int)(b:List RLn)(w h:Int)(bits:List UInt8)(a:SA)(d:6<=p)(f:bits.length<=9000000000000000000):
  Fo prog F 56 [.va (.int .i64 p),.agg (rvS ⟨false,b,w,h,bits⟩ a)] (fun o i=>o=.ret (.va (.str (dI p ⟨false,b,w,h,bits⟩)))/\i=F):=by
 refine foS func56 ?_;refine br (fun g=>?_) (fun g=>absurd d (oe g))
 ·clear g;have lb:=eH bits;have j:=sW F bits f;have n:=dO w;have m:=dO h;have l:=fj F w;have k:=fj F h
  conv=>whnf
  refine rounds hΘ 3 ?_;refine bre dd ⟨rfl,by decide,_,rfl,?_⟩;refine usePt l ?_;refine⟨by show 0+(putIR w).1.length<=9223372036854775807;omega,?_⟩;refine bre dd ⟨rfl,by decide,_,rfl,?_⟩;refine usePt k ?_;refine⟨by show([]++(putIR w).1).length+(putIR h).1.length<=9223372036854775807;rw[qw];omega,brd dd ?_⟩;refine br (fun g=>?_) (fun g=>?_)
  ·have c:p=7:=od g
   have e:dI p ⟨false,b,w,h,bits⟩=[]++(putIR w).1++(putIR h).1++(putSR bits).1:=by
    show(if false=true then []else _)=_;rw[if_neg ss,if_pos d,if_pos c,qw]
   refine usePt j ?_;refine⟨by show([]++(putIR w).1++(putIR h).1).length+(putSR bits).1.length<=9223372036854775807;rw[qw,qb];omega,?_⟩;exact wfEnd e rfl
  ·have c:¬p=7:=oe g
   have e:dI p ⟨false,b,w,h,bits⟩=[]++(putIR w).1++(putIR h).1:=by
    show(if false=true then []else _)=_;rw[if_neg ss,if_pos d,if_neg c,qw,qx]
   exact wfEnd e rfl
theorem wf_fn(F:Fz)(p:Int)(v:RVal)(a:SA)(m:Its F a v.lines)(s:1<=p/\p<=8)(n:v.lines.length<=1000)(q:∀x∈v.lines,x.1.length<=1000000)(hb:v.bits.length<=9000000000000000000):
  Fo prog F 56 [.va (.int .i64 p),.agg (rvS v a)] (fun o k=>o=.ret (.va (.str (dI p v)))/\k=F):=by
 obtain⟨d,L,w,h,bits⟩:=v;cases d with
 |true=>
  refine foS func56 ?_;exact wfEnd (v:=⟨true,L,w,h,bits⟩) (t:=[]) rfl rfl
 |false=>
  by_cases j:6<=p
  ·exact yha F p L w h bits a j hb
  rcases m with⟨h1,i⟩ | ⟨_,b,e,c,X,f,h1,i,l⟩
  ·have g:L=[]:=h1;subst g i;exact ybh F p w h bits j
  ·subst h1;exact yhb F p oo L w h bits b e c X f i l n q
theorem iQ(n c a:Int):∃b,inR n c a=b:=⟨_,rfl⟩
def rasR(p:Int)(s:List UInt8)(x y:Int)(t:List UInt8)(a:Int)(b:Bool):Option RVal:=
 if b=true\/a≠s.length then none
 else if p=8 then if inR x 0 64=true/\inR y 0 64=true then some ⟨false,[],x,y,t⟩else none
 else if t.all bitB=false then none
 else if x=0 then if y=0/\t=[]then some ⟨false,[],x,y,t⟩else none
 else if inR x 1 32=true/\inR y 1 32=true/\(p=6\/(t.length:Int)=x*y)then some ⟨false,[],x,y,t⟩else none
theorem AM(F:Fz)(s:List UInt8)(E:s.length<=1000000000000000000)(q:¬s=[]):Fo prog F 54 [.va (.int .i64 8),.va (.str s)] (fC 8 s):=by
 have O:inR 8 1 8=true:=by decide
 have hw:=dD O F;have Z:i64 0:=⟨by omega,by omega⟩
 have X:=dF F s 0 false E Z;have V:=dG (b:=false) E Z;have R:∃x a b,rdNum s 0 false=(x,a,b):=⟨_,_,_,rfl⟩
 obtain⟨x,W,G,K⟩:=R;rw[K]at X V;have Y:=dF F s W G E V;have i2:=dG (b:=G) E V;have S:∃y a b,rdNum s W G=(y,a,b):=⟨_,_,_,rfl⟩
 obtain⟨y,m,n,L⟩:=S;rw[L]at Y i2
 have p:readR 8 s=rasR 8 s x y [] m n:=by
  rw[readR,if_neg oo,if_neg q,if_pos oo,fS,K];dsimp only;rw[L];rfl
 have T:=iQ x 0 64;obtain⟨I,d⟩:=T;have U:=iQ y 0 64;obtain⟨J,f⟩:=U;have w1:=dD d F;have w2:=dD f F;have i:n=true->readR 8 s=none:=fun h=>by rw[p,rasR,if_pos (.inl h)]
 have j:m≠(s.length:Int)->readR 8 s=none:=fun h=>by rw[p,rasR,if_pos (.inr h)]
 have A:n=false->m=(s.length:Int)->(I&&J)=true->readR 8 s=some ⟨false,[],x,y,[]⟩:=fun h1 M o=>by
  rw[qd]at o;rw[p,rasR,if_neg (by rintro(h | h);rw[h1]at h;cases h;exact h M),if_pos rfl,if_pos (by rw[d,f];exact o)]
 have u:n=false->m=(s.length:Int)->(I&&J)=false->readR 8 s=none:=fun h1 M o=>by
  rw[p,rasR,if_neg (by rintro(h | h);rw[h1]at h;cases h;exact h M),if_pos rfl,if_neg];rw[d,f];intro h;rw[h.1,h.2]at o;cases o
 clear p K L d f;refine foS func54 ?_;refine usePt hw ?_;refine br (fun g=>absurd (by simpa using g) q) (fun _=>?_);refine bre dd ?_;refine useS X [(1,2)] ⟨cp _ _ _,tv⟩ ⟨rfl,tv⟩ ?_;rintro B F0 h0 n0 Q ⟨rfl,rfl,rfl,rfl⟩;refine useS Y [(1,2)] ⟨cp _ _ _,tv⟩ ⟨rfl,tv⟩ ?_;rintro B F0 h0 n0 Q ⟨rfl,rfl,rfl,rfl⟩;refine brd dd ?_;conv=>whnf
 rcases n with _ | _
 ·refine br (fun g=>?_) (fun g=>?_)
  ·have D:m≠(s.length:Int):=by simpa using g
   have e:=j D;exact eU e rfl (Fz.r F)
  ·have D:m=(s.length:Int):=by simpa using g
   clear g;have k:=A rfl D;have c:=u rfl D;clear A u j i;refine bre dd ?_;refine dwS (lk [0,1,2] (.alt 3 (lk [4,5,6] (.alt 7 (.look 8 (.alt 9 (.look 10 .done) .nil)) .nil)) .nil)) [3] ?_;conv=>whnf
   repeat' ((conv=>whnf);first
    |refine⟨rfl,?_⟩
    |refine⟨Fz.r _,rfl,?_⟩
    |refine⟨Fz.r _,rfl,rfl,?_⟩
    |refine⟨⟨by simp,by simp⟩,?_⟩
    |fail)
   refine usePt w1 ?_;refine⟨Fz.r F,rfl,?_⟩;rcases I with _ | _
   ·refine⟨Fz.r F,rfl,?_⟩;conv=>whnf
    first | exact dP (l:=false) (w:=x) (hh:=y) (bits:=[]) (.inr ⟨rfl,c rfl⟩) rfl (Fz.r F) | exact ey (l:=false) (w:=x) (hh:=y) (bits:=[]) (.inr ⟨rfl,c rfl⟩) rfl (Fz.r F)
   ·refine⟨rfl,?_⟩;refine usePt w2 ?_;refine⟨Fz.r F,rfl,Fz.r F,rfl,?_⟩;rcases J with _ | _
    ·conv=>whnf
     first | exact dP (l:=false) (w:=x) (hh:=y) (bits:=[]) (.inr ⟨rfl,c rfl⟩) rfl (Fz.r F) | exact ey (l:=false) (w:=x) (hh:=y) (bits:=[]) (.inr ⟨rfl,c rfl⟩) rfl (Fz.r F)
    ·conv=>whnf
     first | exact dP (l:=false) (w:=x) (hh:=y) (bits:=[]) (.inl ⟨rfl,k rfl⟩) rfl (Fz.r F) | exact ey (l:=false) (w:=x) (hh:=y) (bits:=[]) (.inl ⟨rfl,k rfl⟩) rfl (Fz.r F)
 ·have e:=i rfl;exact eU e rfl (Fz.r F)
def ofR(p:Int)(x:RLn):Ln:=if p=1 then(x.1,[])else([],(numsOf x).take (colN p))
def ofV(p:Int)(v:RVal):Val:=⟨v.lost,v.lines.map (ofR p),v.w,v.h,v.bits⟩
theorem AJ(p:Int)(x:RLn):ds p x=lineW p (ofR p x):=by
 unfold ds lineW ofR;by_cases h:p=1
 ·subst h;rfl
 ·rw[if_neg h,if_neg h,if_neg h];rfl
theorem EI(p:Int)(v:RVal):dI p v=bE p (ofV p v):=by
 unfold dI bE;show(if v.lost=true then []else _)=(if v.lost=true then []else _);by_cases b:v.lost=true
 ·rw[if_pos b,if_pos b]
 rw[if_neg b,if_neg b];by_cases a:6<=p
 ·rw[if_pos a,if_pos a];show _=((putIR v.w).1++((putIR v.h).1++[]))++_;rw[qx];rfl
 ·rw[if_neg a,if_neg a];show(putIR (v.lines.length:Nat)).1++_=((putIR (((v.lines.map (ofR p)).length:Nat):Int)).1++[])++((v.lines.map (ofR p)).map (lineW p)).flatten;rw[qx,qa,q8]
  congr 2
  exact qy fun x _=>AJ p x
theorem vw:cols p=colN p:=by
 unfold cols colN;by_cases a:p=2
 ·rw[if_pos a,if_pos a]
 rw[if_neg a,if_neg a];by_cases b:p=3
 ·rw[if_pos b,if_pos (.inl b)]
 by_cases d:p=5
 ·rw[if_neg b,if_neg oo,if_pos d,if_pos (.inr d)]
 rw[if_neg b,if_neg (show¬(p=3\/p=5)by omega)];by_cases c:p=4
 ·rw[if_pos c,if_pos c]
 ·rw[if_neg c,if_neg c,if_neg d]
theorem bS{n b a:Int}:inR n b a=true↔b<=n/\n<=a:=by
 unfold inR;simp
theorem cmp2(a b c d:Int):cmpL [a,b] [c,d] < 0↔a < c\/(a=c/\b < d):=by
 unfold cmpL cmpL cmpL cmpI;by_cases h1:a < c
 ·simp[h1]
 ·by_cases g:c < a
  ·simp[h1,g];omega
  ·have:a=c:=by omega
   subst this;by_cases e:b < d
   ·simp[e]
   ·by_cases f:d < b
    ·simp[e,f]
    ·simp[e,f]
theorem Es(c:p=3\/p=4\/p=5)(L:List RLn)(x:RLn):eD L x=true↔∀y,(L.map (ofR p)).getLast? =some y->cmpL (y.2.take 2) ((ofR p x).2.take 2) < 0:=by
 have a:∀z:RLn,(ofR p z).2.take 2=[z.2.1,z.2.2.1]:=fun z=>by
  rcases c with rfl | rfl | rfl<;>rfl
 rw[getLast?_map',a];unfold eD;cases d:L.getLast? with
 |none=>simp
 |some y=>
  have e:(∀b,(some y).map (ofR p)=some b->cmpL (b.2.take 2) [x.2.1,x.2.2.1] < 0)↔cmpL ((ofR p y).2.take 2) [x.2.1,x.2.2.1] < 0:=by
   simp
  rw[e,a,cmp2];simp;omega
theorem xf(m:1<=p/\p<=5)(L:List RLn)(x:RLn):fitsR p L x=true↔lnOk p (L.map (ofR p)) (ofR p x):=by
 by_cases h1:p=1
 ·subst h1
  have e:x.1.any badC=false↔x.1.all (fun b=>decide (32<=b.toNat)&&decide (b.toNat<=126))=true:=by
   rw[qbd,qo];simp[badC]
  unfold fitsR lnOk;rw[if_pos rfl,if_pos rfl];show _↔([]:List Int)=[]/\x.1.length<=80/\x.1.any badC=false;rw[e,qd,decide_eq_true_eq];exact⟨fun h=>⟨rfl,h.2,h.1⟩,fun h=>⟨h.2.2,h.2.1⟩⟩
 by_cases j:p=2
 ·subst j;unfold fitsR lnOk;rw[if_neg dd,if_pos rfl,if_neg dd,bS];show _↔([]:List UInt8)=[]/\[x.2.1].length=1/\(((bnd 2 []).1<=x.2.1/\x.2.1<=(bnd 2 []).2)/\True)/\_;exact⟨fun h=>⟨rfl,rfl,⟨h,tv⟩,fun h=>absurd rfl h⟩,fun h=>h.2.2.1.1⟩
 have k:p=3\/p=4\/p=5:=by omega
 have c:=Es k L x;unfold fitsR lnOk;rw[if_neg h1,if_neg j,if_neg h1];rcases k with rfl | rfl | rfl
 ·show(if _ then inR x.2.2.2.1 (-1000000) 1000000 else false)=true↔([]:List UInt8)=[]/\[x.2.1,x.2.2.1,x.2.2.2.1].length=3/\(((0:Int)<=x.2.1/\x.2.1<=31)/\((0:Int)<=x.2.2.1/\x.2.2.1<=31)/\((-1000000:Int)<=x.2.2.2.1/\x.2.2.2.1<=1000000)/\True)/\_;constructor
  ·intro h;split at h
   ·rename_i a;exact⟨rfl,rfl,⟨bS.1 a.1,bS.1 a.2.1,bS.1 h,tv⟩,fun _=>c.1 a.2.2⟩
   ·cases h
  ·rintro⟨_,_,⟨d,f,g,_⟩,i⟩;rw[if_pos ⟨bS.2 d,bS.2 f,c.2 (i dd)⟩];exact bS.2 g
 ·show(if _ then inR x.2.2.2.1 0 x.2.1&&inR x.2.2.2.2 0 x.2.2.1 else false)=true↔([]:List UInt8)=[]/\[x.2.1,x.2.2.1,x.2.2.2.1,x.2.2.2.2].length=4/\(((0:Int)<=x.2.1/\x.2.1<=31)/\((0:Int)<=x.2.2.1/\x.2.2.1<=31)/\((0:Int)<=x.2.2.2.1/\x.2.2.2.1<=x.2.1)/\((0:Int)<=x.2.2.2.2/\x.2.2.2.2<=x.2.2.1)/\True)/\_;constructor
  ·intro h;split at h
   ·rename_i a;rw[qd,bS,bS]at h;exact⟨rfl,rfl,⟨bS.1 a.1,bS.1 a.2.1,h.1,h.2,tv⟩,fun _=>c.1 a.2.2⟩
   ·cases h
  ·rintro⟨_,_,⟨d,f,g,l,_⟩,i⟩;rw[if_pos ⟨bS.2 d,bS.2 f,c.2 (i dd)⟩,qd,bS,bS];exact⟨g,l⟩
 ·show(if _ then inR x.2.2.2.1 (-1000000000000) 1000000000000 else false)=true↔([]:List UInt8)=[]/\[x.2.1,x.2.2.1,x.2.2.2.1].length=3/\(((0:Int)<=x.2.1/\x.2.1<=31)/\((0:Int)<=x.2.2.1/\x.2.2.1<=31)/\((-1000000000000:Int)<=x.2.2.2.1/\x.2.2.2.1<=1000000000000)/\True)/\_;constructor
  ·intro h;split at h
   ·rename_i a;exact⟨rfl,rfl,⟨bS.1 a.1,bS.1 a.2.1,bS.1 h,tv⟩,fun _=>c.1 a.2.2⟩
   ·cases h
  ·rintro⟨_,_,⟨d,f,g,_⟩,i⟩;rw[if_pos ⟨bS.2 d,bS.2 f,c.2 (i dd)⟩];exact bS.2 g
