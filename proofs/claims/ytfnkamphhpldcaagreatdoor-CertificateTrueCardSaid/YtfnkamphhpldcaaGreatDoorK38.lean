import Derived.Test.YtfnkamphhpldcaaGreatDoorK26
import Derived.Test.YtfnkamphhpldcaaGreatDoorK22
set_option maxHeartbeats 64000000
namespace Go.Proofs.YtfnkamphhpldcaaGreatDoor
open Go Sx
set_option maxRecDepth 100000
theorem zg8(F:Fz)(p:Int)(l:List RLn)(c:Nat)(x:RLn)(_:x.1.length < 1000000)(hl:l.length < 1000000)(w:¬p=1):
  Ct Tryz.prog 121 [.va (.int .i64 p),.va (gA 5 1 c l),.agg (encL x)] F [(1,gE 191 5 encL c l)] 2
   (fun o L K n0=>F=L/\n0=2/\o=.ret (.va (.bool (fitsR p l x)))/\K=[(1,gE 191 5 encL c l)]):=by
 have d:∀(b:Bool) (a:SA) (h:Hp) (nx:Nat),fitsR p l x=b->atomE (.bool b) a->lget h 0=some (.frz F)->lget h 1=some (gE 191 5 encL c l)->a.ren (resP h)=a->
   Cln 2 (fun o L K n0=>Fz.le F L/\(F=L/\n0=2/\o=.ret (.va (.bool (fitsR p l x)))/\K=[(1,gE 191 5 encL c l)])) (.ret (.va a)) h nx:=by
  intro b a h nx hb ha K h1 hr;subst hb;exact clean [] (.ret (.va (.bool (fitsR p l x)))) F [(1,gE 191 5 encL c l)] 2 ⟨Fz.r F,rfl,rfl,rfl,rfl⟩ (by show atomE _ (a.ren (resP h));rw[hr];exact ha) rfl rfl trivial ⟨zab zaf _ _ _ _ _,tv⟩ ⟨by simp only[entE,aget,Ent.ren];rw[K];exact Fz.r F,by simp only[entE,aget];rw[h1];exact zaj zaf (zao _ _ _ _),tv⟩
 obtain⟨b0,f⟩:∃b,inR x.2.1 0 31=b:=⟨_,rfl⟩
 obtain⟨b1,i⟩:∃b,inR x.2.2.1 0 31=b:=⟨_,rfl⟩
 obtain⟨b3,q⟩:∃b,inR x.2.2.2.1 (-1000000) 1000000=b:=⟨_,rfl⟩
 obtain⟨b5,s⟩:∃b,inR x.2.2.2.1 (-1000000000000) 1000000000000=b:=⟨_,rfl⟩
 obtain⟨Q,hb4⟩:∃b,inR x.2.2.2.1 0 x.2.1=b:=⟨_,rfl⟩
 obtain⟨b6,u⟩:∃b,inR x.2.2.2.2 0 x.2.2.1=b:=⟨_,rfl⟩
 have Z:=zce f F;have w1:=zce i F;have U:=zce q F;have W:=zce s F;have V:=zce hb4 F;have X:=zce u F;have w7:=zhw x.2.1 0 7 F;refine ctS Tryz.func121 ?_;refine br (fun g=>absurd (od g) w) (fun g=>?_)
 ·clear g;refine br (fun g=>?_) (fun g=>?_)
  ·have m:p=2:=od g;have e:fitsR p l x=(decide (0<=x.2.1)&&decide (x.2.1<=7)):=by rw[fitsR,if_neg w,if_pos m];rfl
   refine⟨by decide,?_⟩;refine usePt w7 ?_;exact d _ _ _ _ e rfl rfl rfl rfl
  ·have m:¬p=2:=oe g;clear g;rcases b0 with _ | _
   ·have e:=zok (l:=l) w m (.inl f);refine⟨by decide,?_⟩;refine usePt Z ?_;exact d _ _ _ _ e rfl rfl rfl rfl
   ·refine⟨by decide,?_⟩;refine usePt Z ?_;refine⟨by decide,?_⟩;refine usePt w1 ?_;rcases b1 with _ | _
    ·have e:=zok (l:=l) w m (.inr (.inl i));exact d _ _ _ _ e rfl rfl rfl rfl
    ·rcases l with _ | ⟨y,r⟩
     ·have j:=zwh x;refine brd (by decide) ?_;refine br (fun g=>?_) (fun g=>?_)
      ·have e:=(zzo (od g) f i j).trans q;refine⟨by decide,?_⟩;refine usePt U ?_;exact d _ _ _ _ e rfl rfl rfl rfl
      ·have E:¬p=3:=oe g;clear g;refine br (fun g=>?_) (fun g=>?_)
       ·have e:=(zzq (od g) f i j).trans s;refine⟨by decide,?_⟩;refine usePt W ?_;exact d _ _ _ _ e rfl rfl rfl rfl
       ·have G:¬p=5:=oe g;clear g;have e:=zzp w m E G f i j;rw[hb4,u]at e;refine⟨by decide,by decide,?_⟩;refine usePt V ?_;rcases Q with _ | _
        ·exact d _ _ _ _ e rfl rfl rfl rfl
        ·refine⟨by decide,by decide,?_⟩;refine usePt X ?_;exact d _ _ _ _ e rfl rfl rfl rfl
     ·have Y:IntKind.i64.wrap (((r.length+1:Nat):Int) - 1)=((r.length:Nat):Int):=by
       have:r.length+1 < 1000000:=hl;rw[zah (by omega) (by omega)];omega
      have O:∃z,(y::r)[r.length]? =some z:=⟨_,qa (by simp)⟩
      obtain⟨z,O⟩:=O;have S:((y::r).map encL)[r.length]? =some (encL z):=by rw[qt,O];rfl
      have D:(y::r).getLast? =some z:=by rw[qc3];exact O
      have k:zfw (y::r) x= !(decide (x.2.1 < z.2.1)||(decide (z.2.1=x.2.1)&&decide (x.2.2.1<=z.2.2.1))):=by rw[zfw,D]
      refine br (fun _=>?_) (fun g=>absurd (oe g) (by omega));have R:0<=IntKind.i64.wrap (((r.length+1:Nat):Int) - 1)/\IntKind.i64.wrap (((r.length+1:Nat):Int) - 1) < ((r.length+1:Nat):Int):=by rw[Y];omega
      have T:((y::r).map encL)[0+(IntKind.i64.wrap (((r.length+1:Nat):Int) - 1)).toNat]? =some (encL z):=by rw[Y,qk,qx];exact S
      refine⟨rfl,R,rfl,_,T,by decide,by decide,fun I=>?_,fun I=>?_⟩
      ·have n:¬x.2.1 < z.2.1:=oe I;clear I;refine⟨by decide,by decide,fun J=>?_,fun J=>?_⟩
       ·have A:z.2.1=x.2.1:=od J;clear J;refine⟨by decide,by decide,?_⟩;refine br (fun M=>?_) (fun M=>?_)
        ·have B:x.2.2.1<=z.2.2.1:=od M;have j:zfw (y::r) x=false:=by rw[k,decide_eq_true A,decide_eq_true B];simp
         have e:=zok w m (.inr (.inr j));exact d _ _ _ _ e rfl rfl rfl rfl
        ·have B:¬x.2.2.1<=z.2.2.1:=oe M;have j:zfw (y::r) x=true:=by rw[k,decide_eq_false n,decide_eq_false B];simp
         clear M;refine br (fun g=>?_) (fun g=>?_)
         ·have e:=(zzo (od g) f i j).trans q;refine⟨by decide,?_⟩;refine usePt U ?_;exact d _ _ _ _ e rfl rfl rfl rfl
         ·have E:¬p=3:=oe g;clear g;refine br (fun g=>?_) (fun g=>?_)
          ·have e:=(zzq (od g) f i j).trans s;refine⟨by decide,?_⟩;refine usePt W ?_;exact d _ _ _ _ e rfl rfl rfl rfl
          ·have G:¬p=5:=oe g;clear g;have e:=zzp w m E G f i j;rw[hb4,u]at e;refine⟨by decide,by decide,?_⟩;refine usePt V ?_;rcases Q with _ | _
           ·exact d _ _ _ _ e rfl rfl rfl rfl
           ·refine⟨by decide,by decide,?_⟩;refine usePt X ?_;exact d _ _ _ _ e rfl rfl rfl rfl
       ·have A:¬z.2.1=x.2.1:=oe J;have j:zfw (y::r) x=true:=by rw[k,decide_eq_false n,decide_eq_false A];simp
        clear J;refine br (fun g=>?_) (fun g=>?_)
        ·have e:=(zzo (od g) f i j).trans q;refine⟨by decide,?_⟩;refine usePt U ?_;exact d _ _ _ _ e rfl rfl rfl rfl
        ·have E:¬p=3:=oe g;clear g;refine br (fun g=>?_) (fun g=>?_)
         ·have e:=(zzq (od g) f i j).trans s;refine⟨by decide,?_⟩;refine usePt W ?_;exact d _ _ _ _ e rfl rfl rfl rfl
         ·have G:¬p=5:=oe g;clear g;have e:=zzp w m E G f i j;rw[hb4,u]at e;refine⟨by decide,by decide,?_⟩;refine usePt V ?_;rcases Q with _ | _
          ·exact d _ _ _ _ e rfl rfl rfl rfl
          ·refine⟨by decide,by decide,?_⟩;refine usePt X ?_;exact d _ _ _ _ e rfl rfl rfl rfl
      ·have n:x.2.1 < z.2.1:=od I;have j:zfw (y::r) x=false:=by rw[k,decide_eq_true n];simp
       have e:=zok w m (.inr (.inr j));clear I;exact d _ _ _ _ e rfl rfl rfl rfl
def txtOk(b:UInt8):Bool:=decide (32<=b.toNat)&&decide (b.toNat<=126)
theorem z3y{t:List UInt8}{k:Nat}(g:k < t.length):(t.take (k+1)).all txtOk=((t.take k).all txtOk&&txtOk t[k]):=by
 rw[qf g,qb8];simp
theorem z9c{t:List UInt8}{k:Nat}(g:k < t.length)(h:txtOk t[k]=false):t.all txtOk=false:=by
 rw[qc4];exact⟨t[k],qw g,by rw[h];simp⟩
theorem zmy(n:Nat)(x:RLn):(Ent.one (.cells 191 (encL x))).below n:=(SB.bB_ok rfl:SB.below n (.cells 191 (encL x)))
theorem ycn{p:Int}{l:List RLn}{x:RLn}(g:p=1):fitsR p l x=(x.1.all txtOk&&decide (x.1.length<=80)):=by
 rw[fitsR,if_pos g];rfl
theorem zuh(F:Fz)(p:Int)(l:List RLn)(c:Nat)(x:RLn)(O:x.1.length < 1000000)(J:p=1):
  Ct Tryz.prog 121 [.va (.int .i64 p),.va (gA 5 1 c l),.agg (encL x)] F [(1,gE 191 5 encL c l)] 2
   (fun o s f n0=>F=s/\n0=2/\o=.ret (.va (.bool (fitsR p l x)))/\f=[(1,gE 191 5 encL c l)]):=by
 have j:∀(b:Bool) (a:SA) (h:Hp) (nx:Nat),fitsR p l x=b->atomE (.bool b) a->lget h 0=some (.frz F)->lget h 1=some (gE 191 5 encL c l)->a.ren (resP h)=a->
   Cln 2 (fun o s f n0=>Fz.le F s/\(F=s/\n0=2/\o=.ret (.va (.bool (fitsR p l x)))/\f=[(1,gE 191 5 encL c l)])) (.ret (.va a)) h nx:=by
  intro b a h nx hb K f h1 M;subst hb;exact clean [] (.ret (.va (.bool (fitsR p l x)))) F [(1,gE 191 5 encL c l)] 2 ⟨Fz.r F,rfl,rfl,rfl,rfl⟩ (by show atomE _ (a.ren (resP h));rw[M];exact K) rfl rfl trivial ⟨zab zaf _ _ _ _ _,tv⟩ ⟨by simp only[entE,aget,Ent.ren];rw[f];exact Fz.r F,by simp only[entE,aget];rw[h1];exact zaj zaf (zao _ _ _ _),tv⟩
 have G:=ycn (l:=l) (x:=x) J;refine ctS Tryz.func121 ?_;refine br (fun g=>?_) (fun g=>absurd J (oe g))
 ·clear g;conv=>whnf
  refine zak hΘ (X:={ k:Nat // k<=x.1.length/\(x.1.take k).all txtOk=true }) (fun k=>[(7,.va (.int .i64 k.1))]) (6::jr 12 19 [])
   (fun _=>[(0,.frz F),(1,gE 191 5 encL c l),(2,.one (.cells 191 (encL x)))]) 3 (fun k=>x.1.length - k.1) ⟨0,by simp⟩
   (fun A B=>leI [] A B rfl ⟨tv,zab zaf _ _ _ _ _,zmy _ _,tv⟩ ⟨rfl,tv⟩ ⟨Fz.r F,zaj zaf (zao _ _ _ _),rfl,tv⟩) ?_
  rintro⟨k,I,d⟩ A B;replace I:k<=x.1.length:=I;replace d:(x.1.take k).all txtOk=true:=d;refine br (fun n=>?_) (fun n=>?_)
  ·have q:k < x.1.length:=by
    have f:(k:Int) < (x.1.length:Int):=od n;omega
   clear n;have E:=z3y q;rw[d,yq]at E;have i:txtOk x.1[k]=false->fitsR p l x=false:=fun h=>by rw[G,z9c q h];rfl
   have L:=x.1[k].toNat_lt;refine⟨by dsimp only;omega,x.1[k],by dsimp only;rw[qk,qa q],fun u=>?_,fun u=>?_⟩
   ·have y:¬x.1[k].toNat < 32:=by
     have f:¬(x.1[k].toNat:Int) < 32:=oe u;omega
    clear u;refine⟨by dsimp only;omega,x.1[k],by dsimp only;rw[qk,qa q],?_⟩;refine br (fun w=>?_) (fun w=>?_)
    ·have m:126 < x.1[k].toNat:=by
      have f:(126:Int) < x.1[k].toNat:=od w;omega
     have e:=i (by rw[txtOk,decide_eq_false (show¬x.1[k].toNat<=126 by omega),jz]);exact j _ _ _ _ e rfl rfl rfl rfl
    ·have m:¬126 < x.1[k].toNat:=by
      have f:¬(126:Int) < x.1[k].toNat:=oe w;omega
     have D:txtOk x.1[k]=true:=by rw[txtOk,decide_eq_true (show 32<=x.1[k].toNat by omega),decide_eq_true (show x.1[k].toNat<=126 by omega)];rfl
     rw[D]at E;clear w i;exact⟨⟨k+1,by show k+1<=x.1.length;omega,E⟩,by show x.1.length - (k+1) < x.1.length - k;omega,leR [] A B rfl ⟨tv,zab zaf _ _ _ _ _,zmy _ _,tv⟩ ⟨cnt (by omega),tv⟩ ⟨Fz.r F,zaj zaf (zao _ _ _ _),rfl,tv⟩⟩
   ·have y:x.1[k].toNat < 32:=by
     have f:(x.1[k].toNat:Int) < 32:=od u;omega
    have e:=i (by rw[txtOk,decide_eq_false (show¬32<=x.1[k].toNat by omega),q9]);exact j _ _ _ _ e rfl rfl rfl rfl
  ·have q:¬k < x.1.length:=by
    have f:¬(k:Int) < (x.1.length:Int):=oe n;omega
   clear n;rw[qh (by omega)]at d
   have e:fitsR p l x=decide ((x.1.length:Int)<=80):=by
    rw[G,d,yq];exact decide_eq_decide.2 (by omega)
   exact j _ _ _ _ e rfl rfl rfl rfl
theorem zpd:∀(n:Nat) (s:List UInt8) (p:Bool),s.length<=n->spc p (repD s)=spc p s
 |_,[],p,_=>by simp[repD]
 |_,[a],p,_=>by simp[repD]
 |0,a::b::r,p,h=>by simp at h
 |n+1,a::b::r,p,h=>by
  rw[repD];by_cases c:(a==32&&b==32)=true
  ·have e:a=32:=by simp at c;exact c.1
   have hb:b=32:=by simp at c;exact c.2
   have ih:=zpd n r true (by simp only[qj]at h;omega);subst e;subst hb;rw[if_pos c];cases p<;>simp[spc,ih]
  ·have ih:=fun q=>zpd n (b::r) q (by simp only[qj]at h ⊢;omega)
   rw[if_neg c];by_cases d:a=32/\p=true
   ·rw[spc,if_pos d,ih,spc.eq_def p (a::b::r)];simp only[if_pos d]
   ·rw[spc,if_neg d,ih,spc.eq_def p (a::b::r)];simp only[if_neg d]
theorem zvz:∀(s:List UInt8) (p:Bool),hasD s=false->(p=true->s.head? ≠some 32)->spc p s=s
 |[],p,_,_=>by simp[spc]
 |a::r,p,h,hp=>by
  have h1:¬(a=32/\p=true):=fun hh=>hp hh.2 (by rw[hh.1];rfl)
  rw[spc,if_neg h1]
  congr 1
  refine zvz r _ ?_ ?_
  ·cases r with
   |nil=>rfl
   |cons b r=>rw[hasD,qcn]at h;exact h.2
  ·intro d hb;cases r with
   |nil=>simp at hb
   |cons b r=>
    rw[hasD,qcn]at h;have hb:b=32:=by simpa using hb
    have c:=h.1;rw[d,hb]at c;simp at c
theorem z2v:∀(f:Nat) (s:List UInt8),s.length<=f->spS f s=spc false s
 |0,s,h=>by
  have:s=[]:=yw (by omega);subst this;rfl
 |f+1,s,h=>by
  rw[spS];by_cases a:hasD s=true
  ·rw[if_pos a,z2v f (repD s) (by have:=zl0 s a;omega),zpd s.length s false (qi _)]
  ·rw[if_neg a,zvz s false (by simpa using a) (fun h=>by cases h)]
structure RVal where
 lost:Bool
 lines:List RLn
 w:Int
 h:Int
 bits:List UInt8
def numsOf(x:RLn):List Int:=[x.2.1,x.2.2.1,x.2.2.2.1,x.2.2.2.2]
def zcm(p:Int)(x:RLn):List UInt8:=(if p=1 then(putSR x.1).1 else [])++(((numsOf x).take (colN p)).map fun n=>(putIR n).1).flatten
def zca(p:Int)(v:RVal):List UInt8:=
 if v.lost=true then []else
 if 6<=p then(putIR v.w).1++(putIR v.h).1++(if p=7 then(putSR v.bits).1 else [])
 else(putIR v.lines.length).1++(v.lines.map (zcm p)).flatten
theorem zxd(p:Int)(x:RLn):(zcm p x).length<=66000:=by
 unfold zcm;have h1:=zcl x.1;have a:=ze9 (f:=fun n=>(putIR n).1) za0 ((numsOf x).take (colN p));have b:((numsOf x).take (colN p)).length<=4:=by rw[qo];show min _ 4<=4;omega
 rw[qd];split
 ·omega
 ·simp only[qu];omega
theorem zi8{p:Int}{l:List RLn}{k:Nat}{ob:List UInt8}{x:RLn}(a:k < l.length)(b:l[k]=x)(h:ob=(putIR (l.length:Nat)).1++((l.take k).map (zcm p)).flatten):ob++zcm p x=(putIR (l.length:Nat)).1++((l.take (k+1)).map (zcm p)).flatten:=by
 rw[zb3 a,b,h,qp]
theorem zl2{p:Int}{l:List RLn}{k:Nat}{ob:List UInt8}(c:l.length<=1000)(h:ob=(putIR (l.length:Nat)).1++((l.take k).map (zcm p)).flatten):ob.length<=100000000:=by
 have h1:=za0 (l.length:Nat);have a:=ze9 (zxd p) (l.take k);have b:(l.take k).length<=1000:=by rw[qo];omega
 rw[h,qd];omega
def rvalE(v:RVal)(i c:Nat):Ent:=.one (.cells 110 [.lit v.lost,gA 5 i c v.lines,.int .i64 v.w,.int .i64 v.h,.str v.bits])
theorem zai{v:RVal}{n i:Nat}(h:i < n)(c:Nat):(rvalE v i c).below n:=by
 show∀a∈_,SA.below n a;intro a b;simp only[qn,qy,or_false]at b;rcases b with rfl | rfl | rfl | rfl | rfl
 ·trivial
 ·exact zec h _ _ _
 ·trivial
 ·trivial
 ·trivial
def bitB(b:UInt8):Bool:=b==48||b==49
def zi3(p:Int)(s:List UInt8):Option RVal:=
 let x:=rdNum s 0 false
 let y:=rdNum s x.2.1 x.2.2
 let z:=if p=7 then rdTxt s y.2.1 y.2.2 else([],y.2.1,y.2.2)
 if z.2.2=true\/z.2.1≠s.length then none
 else if p=8 then if inR x.1 0 64=true/\inR y.1 0 64=true then some ⟨false,[],x.1,y.1,z.1⟩else none
 else if z.1.all bitB=false then none
 else if x.1=0 then if y.1=0/\z.1=[]then some ⟨false,[],x.1,y.1,z.1⟩else none
 else if inR x.1 1 32=true/\inR y.1 1 32=true/\(p=6\/(z.1.length:Int)=x.1*y.1)then some ⟨false,[],x.1,y.1,z.1⟩else none
def rdL(p:Int)(s:List UInt8)(q:Int):RLn×Int×Bool:=
 if p=1 then let t:=rdTxt s q false;((t.1,0,0,0,0),t.2.1,t.2.2)
 else if p=2 then let a:=rdNum s q false;(([],a.1,0,0,0),a.2.1,a.2.2)
 else
  let a:=rdNum s q false
  let b:=rdNum s a.2.1 a.2.2
  let c:=rdNum s b.2.1 b.2.2
  if p=4 then let d:=rdNum s c.2.1 c.2.2;(([],a.1,b.1,c.1,d.1),d.2.1,d.2.2)
  else(([],a.1,b.1,c.1,0),c.2.1,c.2.2)
def zbh(p:Int)(s:List UInt8):Nat->List RLn->Int->Option (List RLn×Int)
 |0,acc,q=>some (acc,q)
 |f+1,acc,q=>if(rdL p s q).2.2=true\/fitsR p acc (rdL p s q).1=false then none else zbh p s f (acc++[(rdL p s q).1]) (rdL p s q).2.1
def readR(p:Int)(s:List UInt8):Option RVal:=
 if ¬(1<=p/\p<=8)then none
 else if s=[]then some ⟨true,[],0,0,[]⟩
 else if 6<=p then zi3 p s
 else if(rdNum s 0 false).2.2=true\/inR (rdNum s 0 false).1 0 64=false then none
 else match zbh p s (rdNum s 0 false).1.toNat [] (rdNum s 0 false).2.1 with
  |none=>none
  |some (l,q)=>if q=s.length then some ⟨false,l,0,0,[]⟩else none
def Its(F:Fz)(a:SA)(l:List RLn):Prop:=
 (l=[]/\a=.nilsl)\/l≠[]/\∃b e c L d,a=.slice false 0 b e 5 l.length c/\F b=some (.arr 191 5 L d)/\(L.drop e).take l.length=l.map encL
theorem Its.nil{F:Fz}:Its F .nilsl []:=.inl ⟨rfl,rfl⟩
theorem Its.new{F:Fz}{b c a:Nat}{l:List RLn}(h:F b=some (.arr 191 5 (l.map encL) a))(d:l≠[]:=by simp):Its F (.slice false 0 b 0 5 l.length c) l:=
 .inr ⟨d,b,0,c,l.map encL,a,rfl,h,by rw[y8,qh (by simp)]⟩
abbrev rvS(v:RVal)(a:SA):List SA:=[.lit v.lost,a,.int .i64 v.w,.int .i64 v.h,.str v.bits]
def capOk:SA->Prop
 |.slice _ _ _ _ _ n c=>n<=c
 |_=>True
def zf1(p:Int)(s:List UInt8):Out->Fz->Prop:=fun o c=>∃v a b,o=.ret (.tup [.agg (rvS v a),.va (.bool b)])/\Its c a v.lines/\((b=true/\readR p s=some v)\/(b=false/\readR p s=none))/\capOk a
theorem zbv{s:List UInt8}{q:Int}{b:Bool}(e:s.length<=1000000000000000000)(c:i64 q):i64 (rdNum s q b).2.1:=by
 unfold rdNum;split
 ·exact c
 ·rename_i h
  have d:=zfl (s:=s) (p:=q) (by
   apply Classical.byContradiction;intro a;exact h (.inr a))
  exact⟨by dsimp only;omega,by dsimp only;omega⟩
theorem z1m{s:List UInt8}{q:Int}{b:Bool}(e:s.length<=1000000000000000000)(c:i64 q):i64 (rdTxt s q b).2.1:=by
 unfold rdTxt;split
 ·exact c
 ·rename_i h
  have d:=zzy (s:=s) (q:=q) (by
   apply Classical.byContradiction;intro a;exact h (.inr a))
  exact⟨by dsimp only;omega,by dsimp only;omega⟩
theorem zwv(s:List UInt8)(q:Int):(getS s q).1.length<=65536:=by
 unfold getS;split
 ·simp
 split
 ·simp
 ·rename_i h1 a;show(((s.take ((getI s q).2.1+(getI s q).1).toNat).drop (getI s q).2.1.toNat).length<=65536);rw[yp,qo];omega
theorem zly(s:List UInt8)(q:Int)(b:Bool):(rdTxt s q b).1.length<=65536:=by
 unfold rdTxt;split
 ·simp
 ·exact zwv s q
theorem zb2{F F1:Fz}{p:Int}{s:List UInt8}{l b:Bool}{w hh:Int}{bits:List UInt8}{h:Hp}{nx:Nat}(d:(b=true/\readR p s=some ⟨l,[],w,hh,bits⟩)\/(b=false/\readR p s=none))(c:lget h 0=some (.frz F1))(a:Fz.le F F1):
  Cln 1 (FoK F (zf1 p s)) (.ret (.tup [.agg [.lit l,.nilsl,.int .i64 w,.int .i64 hh,.str bits],.va (.bool b)])) h nx:=
 endFo (.ret (.tup [.agg (rvS ⟨l,[],w,hh,bits⟩ .nilsl),.va (.bool b)])) F1 c a (Fz.r F1) ⟨_,_,_,rfl,Its.nil,d,tv⟩ (zal _) rfl
theorem zcz{F F1:Fz}{p:Int}{s:List UInt8}{l b:Bool}{w hh:Int}{bits:List UInt8}{h:Hp}{nx:Nat}(d:(b=true/\readR p s=some ⟨l,[],w,hh,bits⟩)\/(b=false/\readR p s=none))(c:lget h 0=some (.frz F1))(a:Fz.le F F1):
  Cln 1 (FoK F (zf1 p s)) (.ret (.tup [.agg [.lit l,.nilsl,.int .i64 w,.int .i64 hh,.str bits],.va (.lit b)])) h nx:=
 endFo (.ret (.tup [.agg (rvS ⟨l,[],w,hh,bits⟩ .nilsl),.va (.bool b)])) F1 c a (Fz.r F1) ⟨_,_,_,rfl,Its.nil,d,tv⟩ ⟨rfl,rfl,tv⟩ rfl
theorem zbm{F F1:Fz}{p:Int}{s:List UInt8}{h:Hp}{nx:Nat}(c:readR p s=none)(b:lget h 0=some (.frz F1))(a:Fz.le F F1):
  Cln 1 (FoK F (zf1 p s)) (.ret (.tup [.agg [.lit false,.nilsl,.int .i64 0,.int .i64 0,.str []],.va (.bool false)])) h nx:=zb2 (.inr ⟨rfl,c⟩) b a
theorem zta(F:Fz)(s:List UInt8)(p:Int)(b:¬(1<=p/\p<=8)):Fo Tryz.prog F 54 [.va (.int .i64 p),.va (.str s)] (zf1 p s):=by
 have a:inR p 1 8=false:=by
  apply Classical.byContradiction;intro h;have h:inR p 1 8=true:=by simpa using h
  unfold inR at h;simp at h;exact b h
 have d:=zce a F;have c:readR p s=none:=if_pos b;refine foS Tryz.func54 ?_;refine usePt d ?_;exact zbm c rfl (Fz.r F)
theorem zo5(F:Fz)(p:Int)(b:1<=p/\p<=8):Fo Tryz.prog F 54 [.va (.int .i64 p),.va (.str [])] (zf1 p []):=by
 have a:inR p 1 8=true:=by unfold inR;simp;exact b
 have d:=zce a F;have c:readR p []=some ⟨true,[],0,0,[]⟩:=by rw[readR,if_neg (fun h=>h b),if_pos rfl]
 refine foS Tryz.func54 ?_;refine usePt d ?_;refine bre (by decide) ?_;exact zb2 (.inl ⟨rfl,c⟩) rfl (Fz.r F)
abbrev sl0(b e n c:Nat):SA:=.slice false 0 b e 5 n c
def rvSE(v:RVal)(b e n c:Nat):Ent:=.one (.cells 110 (rvS v (sl0 b e n c)))
theorem zbc{n0:Nat}{v:RVal}{b e n c:Nat}(h:0 < n0:=by omega):(rvSE v b e n c).below n0:=by
 show∀a∈_,SA.below n0 a;intro a d;simp only[qn,qy,or_false]at d;rcases d with rfl | rfl | rfl | rfl | rfl
 ·trivial
 ·exact .inr h
 ·trivial
 ·trivial
 ·trivial
theorem wfEnd{F:Fz}{p:Int}{v:RVal}{t:List UInt8}{h:Hp}{nx:Nat}(hb:zca p v=t)(b:lget h 0=some (.frz F)):
  Cln 1 (FoK F fun o a=>o=.ret (.va (.str (zca p v)))/\a=F) (.ret (.va (.str t))) h nx:=by
 subst hb;exact endPu b (Fz.r F) (zal _) rfl
theorem ybp(F:Fz)(L:List RLn)(w h:Int)(bits:List UInt8)(b e c:Nat)(X:List (List SA))(p:Nat)(V:F b=some (.arr 191 5 X p))(u:(X.drop e).take L.length=L.map encL)(Y:L.length<=1000)(T:∀x∈L,x.1.length<=1000000):
  Fo Tryz.prog F 56 [.va (.int .i64 1),.agg (rvS ⟨false,L,w,h,bits⟩ (sl0 b e L.length c))] (fun o U=>o=.ret (.va (.str (zca 1 ⟨false,L,w,h,bits⟩)))/\U=F):=by
 have W:zca 1 ⟨false,L,w,h,bits⟩=(putIR (L.length:Nat)).1++(L.map (zcm 1)).flatten:=rfl;have J:=zax F (L.length:Nat);have f:=zez 1 F;rw[show((colN 1:Nat):Int)=0 by decide]at f;refine foS Tryz.func56 ?_;refine brd (by decide) ?_;refine usePt J ?_;conv=>whnf
 refine zak hΘ (X:={ x:Nat×List UInt8 // x.1<=L.length/\x.2=(putIR (L.length:Nat)).1++((L.take x.1).map (zcm 1)).flatten }) (fun x=>[(5,.va (.str x.1.2)),(12,.va (.int .i64 x.1.1))]) (13::14::15::16::17::jr 60 43 [])
  (fun _=>[(0,.frz F),(1,rvSE ⟨false,L,w,h,bits⟩ b e L.length c)]) 2 (fun x=>L.length - x.1.1) ⟨(0,(putIR (L.length:Nat)).1),by simp⟩
  (fun q s=>leI [] q s rfl ⟨tv,zbc,tv⟩ ⟨rfl,rfl,tv⟩ ⟨Fz.r F,rfl,tv⟩) ?_
 rintro⟨⟨k,ob⟩,R,a⟩ q s;replace R:k<=L.length:=R;replace a:ob=(putIR (L.length:Nat)).1++((L.take k).map (zcm 1)).flatten:=a;have S:=zl2 Y a
 have g:k=L.length->zca 1 ⟨false,L,w,h,bits⟩=ob:=fun d=>by
  rw[W,a,d,qh (qi _)]
 by_cases d:k < L.length
 ·have A:∃x,L[k]=x:=⟨_,rfl⟩
  obtain⟨⟨t,n0,M,O,Q⟩,j⟩:=A;have i:X[e+(k:Int).toNat]? =some (encL (t,n0,M,O,Q)):=by rw[<-j];exact Sl.at u d
  have G:(k:Int) < (L.length:Nat):=by omega
  have n:0<=(k:Int)/\(k:Int) < (L.length:Nat):=by omega
  have l:=zi8 d j a;have e0:=za0 n0;have e1:=za0 M;have e2:=za0 O;have e3:=za0 Q;have et:=zcl t;have K:=T _ (qw d);rw[j]at K;replace K:t.length<=1000000:=K;have Z:=zdr F t (by omega);have p0:=zax F n0;have p1:=zax F M;have p2:=zax F O;have p3:=zax F Q;have D:k+1<=L.length:=d;have m:L.length - (k+1) < L.length - k:=by omega
  have E:k < 4611686018427387904:=by omega
  clear g T a;have I:ob++(putSR t).1=(putIR (L.length:Nat)).1++((L.take (k+1)).map (zcm 1)).flatten:=by rw[<-l];exact congrArg (ob++ ·) (q5 _).symm
  have y:ob.length+(putSR t).1.length<=9223372036854775807:=by omega
  refine bri G ?_;refine bre (by decide) ⟨rfl,n,_,V,_,i,?_⟩;refine usePt Z ?_;refine⟨y,?_⟩;conv=>whnf
  refine zbx hΘ 0 ?_;refine usePt f ?_;refine brd (by decide) ?_;exact⟨⟨(k+1,ob++(putSR t).1),D,I⟩,m,leR [] q s rfl ⟨tv,zbc,tv⟩ ⟨rfl,cnt E,tv⟩ ⟨Fz.r F,rfl,tv⟩⟩
 ·have d:k=L.length:=by omega
  have B:¬(k:Int) < (L.length:Nat):=by omega
  have e:=g d;refine brj B ?_;exact wfEnd e rfl
theorem ybq(F:Fz)(L:List RLn)(w h:Int)(bits:List UInt8)(b e c:Nat)(X:List (List SA))(p:Nat)(V:F b=some (.arr 191 5 X p))(B:(X.drop e).take L.length=L.map encL)(Y:L.length<=1000)(T:∀x∈L,x.1.length<=1000000):
  Fo Tryz.prog F 56 [.va (.int .i64 2),.agg (rvS ⟨false,L,w,h,bits⟩ (sl0 b e L.length c))] (fun o U=>o=.ret (.va (.str (zca 2 ⟨false,L,w,h,bits⟩)))/\U=F):=by
 have W:zca 2 ⟨false,L,w,h,bits⟩=(putIR (L.length:Nat)).1++(L.map (zcm 2)).flatten:=rfl;have O:=zax F (L.length:Nat);have d:=zez 2 F;rw[show((colN 2:Nat):Int)=1 by decide]at d;refine foS Tryz.func56 ?_;refine brd (by decide) ?_;refine usePt O ?_;conv=>whnf
 refine zak hΘ (X:={ x:Nat×List UInt8 // x.1<=L.length/\x.2=(putIR (L.length:Nat)).1++((L.take x.1).map (zcm 2)).flatten }) (fun x=>[(5,.va (.str x.1.2)),(12,.va (.int .i64 x.1.1))]) (13::14::15::16::17::jr 60 43 [])
  (fun _=>[(0,.frz F),(1,rvSE ⟨false,L,w,h,bits⟩ b e L.length c)]) 2 (fun x=>L.length - x.1.1) ⟨(0,(putIR (L.length:Nat)).1),by simp⟩
  (fun y A=>leI [] y A rfl ⟨tv,zbc,tv⟩ ⟨rfl,rfl,tv⟩ ⟨Fz.r F,rfl,tv⟩) ?_
 rintro⟨⟨k,ob⟩,R,a⟩ y A;replace R:k<=L.length:=R;replace a:ob=(putIR (L.length:Nat)).1++((L.take k).map (zcm 2)).flatten:=a;have S:=zl2 Y a
 have g:k=L.length->zca 2 ⟨false,L,w,h,bits⟩=ob:=fun f=>by
  rw[W,a,f,qh (qi _)]
 by_cases f:k < L.length
 ·have E:∃x,L[k]=x:=⟨_,rfl⟩
  obtain⟨⟨t,n0,q,s,u⟩,j⟩:=E;have i:X[e+(k:Int).toNat]? =some (encL (t,n0,q,s,u)):=by rw[<-j];exact Sl.at B f
  have K:(k:Int) < (L.length:Nat):=by omega
  have n:0<=(k:Int)/\(k:Int) < (L.length:Nat):=by omega
  have l:=zi8 f j a;have e0:=za0 n0;have e1:=za0 q;have e2:=za0 s;have e3:=za0 u;have et:=zcl t;have Q:=T _ (qw f);rw[j]at Q;replace Q:t.length<=1000000:=Q;have pt:=zdr F t (by omega);have Z:=zax F n0;have p1:=zax F q;have p2:=zax F s;have p3:=zax F u;have I:k+1<=L.length:=f;have m:L.length - (k+1) < L.length - k:=by omega
  have J:k < 4611686018427387904:=by omega
  clear g T a;have D:(ob).length+(putIR n0).1.length<=9223372036854775807:=by(try simp only[qd]);omega
  have M:ob++(putIR n0).1=(putIR (L.length:Nat)).1++((L.take (k+1)).map (zcm 2)).flatten:=by
   rw[<-l,show zcm 2 (t,n0,q,s,u)=[(putIR n0).1].flatten from rfl];simp only[jy,qah,q5]
  refine bri K ?_;refine brd (by decide) ?_;conv=>whnf
  refine zbx hΘ 1 ?_;refine usePt d ?_;refine bre (by decide) ⟨rfl,n,by decide,_,V,_,i,?_⟩;refine usePt Z ?_;refine⟨D,?_⟩;conv=>whnf
  refine sr_go hΘ ?_;refine usePt d ?_;refine brd (by decide) ?_;exact⟨⟨(k+1,ob++(putIR n0).1),I,M⟩,m,leR [] y A rfl ⟨tv,zbc,tv⟩ ⟨rfl,cnt J,tv⟩ ⟨Fz.r F,rfl,tv⟩⟩
 ·have f:k=L.length:=by omega
  have G:¬(k:Int) < (L.length:Nat):=by omega
  have e:=g f;refine brj G ?_;exact wfEnd e rfl
theorem ybr(F:Fz)(L:List RLn)(w h:Int)(bits:List UInt8)(b e c:Nat)(X:List (List SA))(s:Nat)(y:F b=some (.arr 191 5 X s))(D:(X.drop e).take L.length=L.map encL)(hl:L.length<=1000)(W:∀x∈L,x.1.length<=1000000):
  Fo Tryz.prog F 56 [.va (.int .i64 3),.agg (rvS ⟨false,L,w,h,bits⟩ (sl0 b e L.length c))] (fun o Y=>o=.ret (.va (.str (zca 3 ⟨false,L,w,h,bits⟩)))/\Y=F):=by
 have Z:zca 3 ⟨false,L,w,h,bits⟩=(putIR (L.length:Nat)).1++(L.map (zcm 3)).flatten:=rfl;have S:=zax F (L.length:Nat);have a:=zez 3 F;rw[show((colN 3:Nat):Int)=3 by decide]at a;refine foS Tryz.func56 ?_;refine brd (by decide) ?_;refine usePt S ?_;conv=>whnf
 refine zak hΘ (X:={ x:Nat×List UInt8 // x.1<=L.length/\x.2=(putIR (L.length:Nat)).1++((L.take x.1).map (zcm 3)).flatten }) (fun x=>[(5,.va (.str x.1.2)),(12,.va (.int .i64 x.1.1))]) (13::14::15::16::17::jr 60 43 [])
  (fun _=>[(0,.frz F),(1,rvSE ⟨false,L,w,h,bits⟩ b e L.length c)]) 2 (fun x=>L.length - x.1.1) ⟨(0,(putIR (L.length:Nat)).1),by simp⟩
  (fun A B=>leI [] A B rfl ⟨tv,zbc,tv⟩ ⟨rfl,rfl,tv⟩ ⟨Fz.r F,rfl,tv⟩) ?_
 rintro⟨⟨k,ob⟩,U,f⟩ A B;replace U:k<=L.length:=U;replace f:ob=(putIR (L.length:Nat)).1++((L.take k).map (zcm 3)).flatten:=f;have V:=zl2 hl f
 have l:k=L.length->zca 3 ⟨false,L,w,h,bits⟩=ob:=fun j=>by
  rw[Z,f,j,qh (qi _)]
 by_cases j:k < L.length
 ·have J:∃x,L[k]=x:=⟨_,rfl⟩
  obtain⟨⟨t,n0,i,m,u⟩,n⟩:=J;have d:X[e+(k:Int).toNat]? =some (encL (t,n0,i,m,u)):=by rw[<-n];exact Sl.at D j
  have Q:(k:Int) < (L.length:Nat):=by omega
  have g:0<=(k:Int)/\(k:Int) < (L.length:Nat):=by omega
  have p:=zi8 j n f;have e0:=za0 n0;have e1:=za0 i;have e2:=za0 m;have e3:=za0 u;have et:=zcl t;have T:=W _ (qw j);rw[n]at T;replace T:t.length<=1000000:=T;have pt:=zdr F t (by omega);have p0:=zax F n0;have p1:=zax F i;have p2:=zax F m;have p3:=zax F u;have M:k+1<=L.length:=j;have q:L.length - (k+1) < L.length - k:=by omega
  have O:k < 4611686018427387904:=by omega
  clear l W f;have E:(ob).length+(putIR n0).1.length<=9223372036854775807:=by(try simp only[qd]);omega
  have G:(ob++(putIR n0).1).length+(putIR i).1.length<=9223372036854775807:=by(try simp only[qd]);omega
  have I:(ob++(putIR n0).1++(putIR i).1).length+(putIR m).1.length<=9223372036854775807:=by(try simp only[qd]);omega
  have R:ob++(putIR n0).1++(putIR i).1++(putIR m).1=(putIR (L.length:Nat)).1++((L.take (k+1)).map (zcm 3)).flatten:=by
   rw[<-p,show zcm 3 (t,n0,i,m,u)=[(putIR n0).1,(putIR i).1,(putIR m).1].flatten from rfl];simp only[jy,qah,q5,qp]
  refine bri Q ?_;refine brd (by decide) ?_;conv=>whnf
  refine zbx hΘ 3 ?_;refine usePt a ?_;refine bre (by decide) ⟨rfl,g,by decide,_,y,_,d,?_⟩;refine usePt p0 ?_;refine⟨E,?_⟩;conv=>whnf
  refine sr_go hΘ ?_;refine usePt a ?_;refine bre (by decide) ⟨rfl,g,by decide,_,y,_,d,?_⟩;refine usePt p1 ?_;refine⟨G,?_⟩;conv=>whnf
  refine sr_go hΘ ?_;refine usePt a ?_;refine bre (by decide) ⟨rfl,g,by decide,_,y,_,d,?_⟩;refine usePt p2 ?_;refine⟨I,?_⟩;conv=>whnf
  refine sr_go hΘ ?_;refine usePt a ?_;refine brd (by decide) ?_;exact⟨⟨(k+1,ob++(putIR n0).1++(putIR i).1++(putIR m).1),M,R⟩,q,leR [] A B rfl ⟨tv,zbc,tv⟩ ⟨rfl,cnt O,tv⟩ ⟨Fz.r F,rfl,tv⟩⟩
 ·have j:k=L.length:=by omega
  have K:¬(k:Int) < (L.length:Nat):=by omega
  have e:=l j;refine brj K ?_;exact wfEnd e rfl
theorem ybs(F:Fz)(L:List RLn)(w h:Int)(bits:List UInt8)(b e c:Nat)(X:List (List SA))(u:Nat)(y:F b=some (.arr 191 5 X u))(D:(X.drop e).take L.length=L.map encL)(hl:L.length<=1000)(Y:∀x∈L,x.1.length<=1000000):
  Fo Tryz.prog F 56 [.va (.int .i64 4),.agg (rvS ⟨false,L,w,h,bits⟩ (sl0 b e L.length c))] (fun o Z=>o=.ret (.va (.str (zca 4 ⟨false,L,w,h,bits⟩)))/\Z=F):=by
 have hW:zca 4 ⟨false,L,w,h,bits⟩=(putIR (L.length:Nat)).1++(L.map (zcm 4)).flatten:=rfl;have T:=zax F (L.length:Nat);have a:=zez 4 F;rw[show((colN 4:Nat):Int)=4 by decide]at a;refine foS Tryz.func56 ?_;refine brd (by decide) ?_;refine usePt T ?_;conv=>whnf
 refine zak hΘ (X:={ x:Nat×List UInt8 // x.1<=L.length/\x.2=(putIR (L.length:Nat)).1++((L.take x.1).map (zcm 4)).flatten }) (fun x=>[(5,.va (.str x.1.2)),(12,.va (.int .i64 x.1.1))]) (13::14::15::16::17::jr 60 43 [])
  (fun _=>[(0,.frz F),(1,rvSE ⟨false,L,w,h,bits⟩ b e L.length c)]) 2 (fun x=>L.length - x.1.1) ⟨(0,(putIR (L.length:Nat)).1),by simp⟩
  (fun A B=>leI [] A B rfl ⟨tv,zbc,tv⟩ ⟨rfl,rfl,tv⟩ ⟨Fz.r F,rfl,tv⟩) ?_
 rintro⟨⟨k,ob⟩,V,g⟩ A B;replace V:k<=L.length:=V;replace g:ob=(putIR (L.length:Nat)).1++((L.take k).map (zcm 4)).flatten:=g;have W:=zl2 hl g
 have m:k=L.length->zca 4 ⟨false,L,w,h,bits⟩=ob:=fun l=>by
  rw[hW,g,l,qh (qi _)]
 by_cases l:k < L.length
 ·have K:∃x,L[k]=x:=⟨_,rfl⟩
  obtain⟨⟨t,n0,i,j,n⟩,p⟩:=K;have d:X[e+(k:Int).toNat]? =some (encL (t,n0,i,j,n)):=by rw[<-p];exact Sl.at D l
  have R:(k:Int) < (L.length:Nat):=by omega
  have f:0<=(k:Int)/\(k:Int) < (L.length:Nat):=by omega
  have q:=zi8 l p g;have e0:=za0 n0;have e1:=za0 i;have e2:=za0 j;have e3:=za0 n;have et:=zcl t;have U:=Y _ (qw l);rw[p]at U;replace U:t.length<=1000000:=U;have pt:=zdr F t (by omega);have p0:=zax F n0;have p1:=zax F i;have p2:=zax F j;have p3:=zax F n;have O:k+1<=L.length:=l;have s:L.length - (k+1) < L.length - k:=by omega
  have Q:k < 4611686018427387904:=by omega
  clear m Y g;have E:(ob).length+(putIR n0).1.length<=9223372036854775807:=by(try simp only[qd]);omega
  have G:(ob++(putIR n0).1).length+(putIR i).1.length<=9223372036854775807:=by(try simp only[qd]);omega
  have I:(ob++(putIR n0).1++(putIR i).1).length+(putIR j).1.length<=9223372036854775807:=by(try simp only[qd]);omega
  have J:(ob++(putIR n0).1++(putIR i).1++(putIR j).1).length+(putIR n).1.length<=9223372036854775807:=by(try simp only[qd]);omega
  have S:ob++(putIR n0).1++(putIR i).1++(putIR j).1++(putIR n).1=(putIR (L.length:Nat)).1++((L.take (k+1)).map (zcm 4)).flatten:=by
   rw[<-q,show zcm 4 (t,n0,i,j,n)=[(putIR n0).1,(putIR i).1,(putIR j).1,(putIR n).1].flatten from rfl];simp only[jy,qah,q5,qp]
  refine bri R ?_;refine brd (by decide) ?_;conv=>whnf
  refine zbx hΘ 4 ?_;refine usePt a ?_;refine bre (by decide) ⟨rfl,f,by decide,_,y,_,d,?_⟩;refine usePt p0 ?_;refine⟨E,?_⟩;conv=>whnf
  refine sr_go hΘ ?_;refine usePt a ?_;refine bre (by decide) ⟨rfl,f,by decide,_,y,_,d,?_⟩;refine usePt p1 ?_;refine⟨G,?_⟩;conv=>whnf
  refine sr_go hΘ ?_;refine usePt a ?_;refine bre (by decide) ⟨rfl,f,by decide,_,y,_,d,?_⟩;refine usePt p2 ?_;refine⟨I,?_⟩;conv=>whnf
  refine sr_go hΘ ?_;refine usePt a ?_;refine bre (by decide) ⟨rfl,f,by decide,_,y,_,d,?_⟩;refine usePt p3 ?_;refine⟨J,?_⟩;conv=>whnf
  refine sr_go hΘ ?_;refine usePt a ?_;refine brd (by decide) ?_;exact⟨⟨(k+1,ob++(putIR n0).1++(putIR i).1++(putIR j).1++(putIR n).1),O,S⟩,s,leR [] A B rfl ⟨tv,zbc,tv⟩ ⟨rfl,cnt Q,tv⟩ ⟨Fz.r F,rfl,tv⟩⟩
 ·have l:k=L.length:=by omega
  have M:¬(k:Int) < (L.length:Nat):=by omega
  have e:=m l;refine brj M ?_;exact wfEnd e rfl
theorem ybt(F:Fz)(L:List RLn)(w h:Int)(bits:List UInt8)(b e c:Nat)(X:List (List SA))(s:Nat)(y:F b=some (.arr 191 5 X s))(D:(X.drop e).take L.length=L.map encL)(hl:L.length<=1000)(W:∀x∈L,x.1.length<=1000000):
  Fo Tryz.prog F 56 [.va (.int .i64 5),.agg (rvS ⟨false,L,w,h,bits⟩ (sl0 b e L.length c))] (fun o Y=>o=.ret (.va (.str (zca 5 ⟨false,L,w,h,bits⟩)))/\Y=F):=by
 have Z:zca 5 ⟨false,L,w,h,bits⟩=(putIR (L.length:Nat)).1++(L.map (zcm 5)).flatten:=rfl;have S:=zax F (L.length:Nat);have a:=zez 5 F;rw[show((colN 5:Nat):Int)=3 by decide]at a;refine foS Tryz.func56 ?_;refine brd (by decide) ?_;refine usePt S ?_;conv=>whnf
 refine zak hΘ (X:={ x:Nat×List UInt8 // x.1<=L.length/\x.2=(putIR (L.length:Nat)).1++((L.take x.1).map (zcm 5)).flatten }) (fun x=>[(5,.va (.str x.1.2)),(12,.va (.int .i64 x.1.1))]) (13::14::15::16::17::jr 60 43 [])
  (fun _=>[(0,.frz F),(1,rvSE ⟨false,L,w,h,bits⟩ b e L.length c)]) 2 (fun x=>L.length - x.1.1) ⟨(0,(putIR (L.length:Nat)).1),by simp⟩
  (fun A B=>leI [] A B rfl ⟨tv,zbc,tv⟩ ⟨rfl,rfl,tv⟩ ⟨Fz.r F,rfl,tv⟩) ?_
 rintro⟨⟨k,ob⟩,U,f⟩ A B;replace U:k<=L.length:=U;replace f:ob=(putIR (L.length:Nat)).1++((L.take k).map (zcm 5)).flatten:=f;have V:=zl2 hl f
 have l:k=L.length->zca 5 ⟨false,L,w,h,bits⟩=ob:=fun j=>by
  rw[Z,f,j,qh (qi _)]
 by_cases j:k < L.length
 ·have J:∃x,L[k]=x:=⟨_,rfl⟩
  obtain⟨⟨t,n0,i,m,u⟩,n⟩:=J;have d:X[e+(k:Int).toNat]? =some (encL (t,n0,i,m,u)):=by rw[<-n];exact Sl.at D j
  have Q:(k:Int) < (L.length:Nat):=by omega
  have g:0<=(k:Int)/\(k:Int) < (L.length:Nat):=by omega
  have p:=zi8 j n f;have e0:=za0 n0;have e1:=za0 i;have e2:=za0 m;have e3:=za0 u;have et:=zcl t;have T:=W _ (qw j);rw[n]at T;replace T:t.length<=1000000:=T;have pt:=zdr F t (by omega);have p0:=zax F n0;have p1:=zax F i;have p2:=zax F m;have p3:=zax F u;have M:k+1<=L.length:=j;have q:L.length - (k+1) < L.length - k:=by omega
  have O:k < 4611686018427387904:=by omega
  clear l W f;have E:(ob).length+(putIR n0).1.length<=9223372036854775807:=by(try simp only[qd]);omega
  have G:(ob++(putIR n0).1).length+(putIR i).1.length<=9223372036854775807:=by(try simp only[qd]);omega
  have I:(ob++(putIR n0).1++(putIR i).1).length+(putIR m).1.length<=9223372036854775807:=by(try simp only[qd]);omega
  have R:ob++(putIR n0).1++(putIR i).1++(putIR m).1=(putIR (L.length:Nat)).1++((L.take (k+1)).map (zcm 5)).flatten:=by
   rw[<-p,show zcm 5 (t,n0,i,m,u)=[(putIR n0).1,(putIR i).1,(putIR m).1].flatten from rfl];simp only[jy,qah,q5,qp]
  refine bri Q ?_;refine brd (by decide) ?_;conv=>whnf
  refine zbx hΘ 3 ?_;refine usePt a ?_;refine bre (by decide) ⟨rfl,g,by decide,_,y,_,d,?_⟩;refine usePt p0 ?_;refine⟨E,?_⟩;conv=>whnf
  refine sr_go hΘ ?_;refine usePt a ?_;refine bre (by decide) ⟨rfl,g,by decide,_,y,_,d,?_⟩;refine usePt p1 ?_;refine⟨G,?_⟩;conv=>whnf
  refine sr_go hΘ ?_;refine usePt a ?_;refine bre (by decide) ⟨rfl,g,by decide,_,y,_,d,?_⟩;refine usePt p2 ?_;refine⟨I,?_⟩;conv=>whnf
  refine sr_go hΘ ?_;refine usePt a ?_;refine brd (by decide) ?_;exact⟨⟨(k+1,ob++(putIR n0).1++(putIR i).1++(putIR m).1),M,R⟩,q,leR [] A B rfl ⟨tv,zbc,tv⟩ ⟨rfl,cnt O,tv⟩ ⟨Fz.r F,rfl,tv⟩⟩
 ·have j:k=L.length:=by omega
  have K:¬(k:Int) < (L.length:Nat):=by omega
  have e:=l j;refine brj K ?_;exact wfEnd e rfl
theorem z8f(F:Fz)(p w h:Int)(bits:List UInt8)(b:¬6<=p):
  Fo Tryz.prog F 56 [.va (.int .i64 p),.agg (rvS ⟨false,[],w,h,bits⟩ .nilsl)] (fun o c=>o=.ret (.va (.str (zca p ⟨false,[],w,h,bits⟩)))/\c=F):=by
 have d:zca p ⟨false,[],w,h,bits⟩=(putIR 0).1:=by
  rw[zca,if_neg (by simp),if_neg b];exact q5 _
 have a:=zax F 0;refine foS Tryz.func56 ?_;refine brj b ?_;refine usePt a ?_;conv=>whnf
 refine zbx hΘ 0 ?_;refine brd (by decide) ?_;exact wfEnd d rfl
theorem ydo(F:Fz)(p:Int)(b:List RLn)(w h:Int)(bits:List UInt8)(a:SA)(d:6<=p)(f:bits.length<=9000000000000000000):
  Fo Tryz.prog F 56 [.va (.int .i64 p),.agg (rvS ⟨false,b,w,h,bits⟩ a)] (fun o i=>o=.ret (.va (.str (zca p ⟨false,b,w,h,bits⟩)))/\i=F):=by
 refine foS Tryz.func56 ?_;refine br (fun g=>?_) (fun g=>absurd d (oe g))
 ·clear g;have lb:=zcl bits;have j:=zdr F bits f;have n:=za0 w;have m:=za0 h;have l:=zax F w;have k:=zax F h
  conv=>whnf
  refine rounds hΘ 3 ?_;refine bre (by decide) ⟨rfl,by decide,_,rfl,?_⟩;refine usePt l ?_;refine⟨by show 0+(putIR w).1.length<=9223372036854775807;omega,?_⟩;refine bre (by decide) ⟨rfl,by decide,_,rfl,?_⟩;refine usePt k ?_;refine⟨by show([]++(putIR w).1).length+(putIR h).1.length<=9223372036854775807;rw[qv];omega,brd (by decide) ?_⟩;refine br (fun g=>?_) (fun g=>?_)
  ·have c:p=7:=od g
   have e:zca p ⟨false,b,w,h,bits⟩=[]++(putIR w).1++(putIR h).1++(putSR bits).1:=by
    show(if false=true then []else _)=_;rw[if_neg (by simp),if_pos d,if_pos c,qv]
   refine usePt j ?_;refine⟨by show([]++(putIR w).1++(putIR h).1).length+(putSR bits).1.length<=9223372036854775807;rw[qv,qd];omega,?_⟩;exact wfEnd e rfl
  ·have c:¬p=7:=oe g
   have e:zca p ⟨false,b,w,h,bits⟩=[]++(putIR w).1++(putIR h).1:=by
    show(if false=true then []else _)=_;rw[if_neg (by simp),if_pos d,if_neg c,qv,q5]
   exact wfEnd e rfl
theorem wf_fn(F:Fz)(p:Int)(v:RVal)(a:SA)(s:Its F a v.lines)(u:1<=p/\p<=8)(i:v.lines.length<=1000)(j:∀x∈v.lines,x.1.length<=1000000)(hb:v.bits.length<=9000000000000000000):
  Fo Tryz.prog F 56 [.va (.int .i64 p),.agg (rvS v a)] (fun o q=>o=.ret (.va (.str (zca p v)))/\q=F):=by
 obtain⟨k,L,w,h,bits⟩:=v;cases k with
 |true=>
  refine foS Tryz.func56 ?_;exact wfEnd (v:=⟨true,L,w,h,bits⟩) (t:=[]) rfl rfl
 |false=>
  by_cases n:6<=p
  ·exact ydo F p L w h bits a n hb
  rcases s with⟨h1,f⟩ | ⟨_,b,e,c,X,d,h1,f,g⟩
  ·have l:L=[]:=h1;subst l f;exact z8f F p w h bits n
  ·subst h1;have m:p=1\/p=2\/p=3\/p=4\/p=5:=by omega
   rcases m with rfl | rfl | rfl | rfl | rfl
   ·exact ybp F L w h bits b e c X d f g i j
   ·exact ybq F L w h bits b e c X d f g i j
   ·exact ybr F L w h bits b e c X d f g i j
   ·exact ybs F L w h bits b e c X d f g i j
   ·exact ybt F L w h bits b e c X d f g i j
theorem zjq(n c a:Int):∃b,inR n c a=b:=⟨_,rfl⟩
def rasR(p:Int)(s:List UInt8)(x y:Int)(t:List UInt8)(a:Int)(b:Bool):Option RVal:=
 if b=true\/a≠s.length then none
 else if p=8 then if inR x 0 64=true/\inR y 0 64=true then some ⟨false,[],x,y,t⟩else none
 else if t.all bitB=false then none
 else if x=0 then if y=0/\t=[]then some ⟨false,[],x,y,t⟩else none
 else if inR x 1 32=true/\inR y 1 32=true/\(p=6\/(t.length:Int)=x*y)then some ⟨false,[],x,y,t⟩else none
theorem z2a(F:Fz)(s:List UInt8)(E:s.length<=1000000000000000000)(q:¬s=[]):Fo Tryz.prog F 54 [.va (.int .i64 8),.va (.str s)] (zf1 8 s):=by
 have O:inR 8 1 8=true:=by decide
 have hw:=zce O F;have Z:i64 0:=⟨by omega,by omega⟩
 have X:=zbi F s 0 false E Z;have V:=zbv (b:=false) E Z;have R:∃x a b,rdNum s 0 false=(x,a,b):=⟨_,_,_,rfl⟩
 obtain⟨x,W,G,K⟩:=R;rw[K]at X V;have Y:=zbi F s W G E V;have i2:=zbv (b:=G) E V;have S:∃y a b,rdNum s W G=(y,a,b):=⟨_,_,_,rfl⟩
 obtain⟨y,m,n,L⟩:=S;rw[L]at Y i2
 have p:readR 8 s=rasR 8 s x y [] m n:=by
  rw[readR,if_neg (by omega),if_neg q,if_pos (by omega),zi3,K];dsimp only;rw[L];rfl
 have T:=zjq x 0 64;obtain⟨I,d⟩:=T;have U:=zjq y 0 64;obtain⟨J,f⟩:=U;have w1:=zce d F;have w2:=zce f F;have i:n=true->readR 8 s=none:=fun h=>by rw[p,rasR,if_pos (.inl h)]
 have j:m≠(s.length:Int)->readR 8 s=none:=fun h=>by rw[p,rasR,if_pos (.inr h)]
 have A:n=false->m=(s.length:Int)->(I&&J)=true->readR 8 s=some ⟨false,[],x,y,[]⟩:=fun h1 M o=>by
  rw[qg]at o;rw[p,rasR,if_neg (by rintro(h | h);rw[h1]at h;cases h;exact h M),if_pos rfl,if_pos (by rw[d,f];exact o)]
 have u:n=false->m=(s.length:Int)->(I&&J)=false->readR 8 s=none:=fun h1 M o=>by
  rw[p,rasR,if_neg (by rintro(h | h);rw[h1]at h;cases h;exact h M),if_pos rfl,if_neg];rw[d,f];intro h;rw[h.1,h.2]at o;cases o
 clear p K L d f;refine foS Tryz.func54 ?_;refine usePt hw ?_;refine br (fun g=>absurd (by simpa using g) q) (fun _=>?_);refine bre (by decide) ?_;refine useS X [(1,2)] ⟨zam _ _ _,tv⟩ ⟨rfl,tv⟩ ?_;rintro B F0 h0 n0 Q ⟨rfl,rfl,rfl,rfl⟩;refine useS Y [(1,2)] ⟨zam _ _ _,tv⟩ ⟨rfl,tv⟩ ?_;rintro B F0 h0 n0 Q ⟨rfl,rfl,rfl,rfl⟩;refine brd (by decide) ?_;conv=>whnf
 rcases n with _ | _
 ·refine br (fun g=>?_) (fun g=>?_)
  ·have D:m≠(s.length:Int):=by simpa using g
   have e:=j D;exact zbm e rfl (Fz.r F)
  ·have D:m=(s.length:Int):=by simpa using g
   clear g;have k:=A rfl D;have c:=u rfl D;clear A u j i;refine bre (by decide) ?_;refine dwS (lk [0,1,2] (.alt 3 (lk [4,5,6] (.alt 7 (.look 8 (.alt 9 (.look 10 .done) .nil)) .nil)) .nil)) [3] ?_;conv=>whnf
   repeat' ((conv=>whnf);first
    |refine⟨rfl,?_⟩
    |refine⟨Fz.r _,rfl,?_⟩
    |refine⟨Fz.r _,rfl,rfl,?_⟩
    |refine⟨⟨by simp,by simp⟩,?_⟩
    |fail)
   refine usePt w1 ?_;refine⟨Fz.r F,rfl,?_⟩;rcases I with _ | _
   ·refine⟨Fz.r F,rfl,?_⟩;conv=>whnf
    first | exact zb2 (l:=false) (w:=x) (hh:=y) (bits:=[]) (.inr ⟨rfl,c rfl⟩) rfl (Fz.r F) | exact zcz (l:=false) (w:=x) (hh:=y) (bits:=[]) (.inr ⟨rfl,c rfl⟩) rfl (Fz.r F)
   ·refine⟨rfl,?_⟩;refine usePt w2 ?_;refine⟨Fz.r F,rfl,Fz.r F,rfl,?_⟩;rcases J with _ | _
    ·conv=>whnf
     first | exact zb2 (l:=false) (w:=x) (hh:=y) (bits:=[]) (.inr ⟨rfl,c rfl⟩) rfl (Fz.r F) | exact zcz (l:=false) (w:=x) (hh:=y) (bits:=[]) (.inr ⟨rfl,c rfl⟩) rfl (Fz.r F)
    ·conv=>whnf
     first | exact zb2 (l:=false) (w:=x) (hh:=y) (bits:=[]) (.inl ⟨rfl,k rfl⟩) rfl (Fz.r F) | exact zcz (l:=false) (w:=x) (hh:=y) (bits:=[]) (.inl ⟨rfl,k rfl⟩) rfl (Fz.r F)
 ·have e:=i rfl;exact zbm e rfl (Fz.r F)
