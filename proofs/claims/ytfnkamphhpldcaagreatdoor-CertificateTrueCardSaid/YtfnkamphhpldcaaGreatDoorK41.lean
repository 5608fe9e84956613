import Derived.Test.YtfnkamphhpldcaaGreatDoorK39
import Derived.Test.YtfnkamphhpldcaaGreatDoorK38
import Derived.Test.YtfnkamphhpldcaaGreatDoorK25
set_option maxHeartbeats 64000000
namespace Go.Proofs.YtfnkamphhpldcaaGreatDoor
open Go Sx
theorem zc9(s:List UInt8)(q:Int):rdNum s q true=(0,q,true):=if_pos (.inl rfl)
theorem zc5{s:List UInt8}{q:Int}(h:(getI s q).2.2=0):rdNum s q false=((getI s q).1,(getI s q).2.1,false):=if_neg (by rintro(h1 | h1);cases h1;exact h1 h)
theorem zc4{s:List UInt8}{q:Int}(h:¬(getI s q).2.2=0)(b:Bool):rdNum s q b=(0,q,true):=if_pos (.inr h)
theorem zrg(s:List UInt8)(q:Int):rdTxt s q true=([],q,true):=if_pos (.inl rfl)
theorem zvn{s:List UInt8}{q:Int}(h:(getS s q).2.2=0):rdTxt s q false=((getS s q).1,(getS s q).2.1,false):=if_neg (by rintro(h1 | h1);cases h1;exact h1 h)
theorem zvm{s:List UInt8}{q:Int}(h:¬(getS s q).2.2=0)(b:Bool):rdTxt s q b=([],q,true):=if_pos (.inr h)
def rawN(s:List UInt8):Nat->Int->Option (List Int×Int)
 |0,q=>some ([],q)
 |k+1,q=>if(getI s q).2.2=0 then match rawN s k (getI s q).2.1 with
  |none=>none
  |some (m,q')=>some ((getI s q).1::m,q')
  else none
theorem zq7(s:List UInt8)(p:Int):∀(k:Nat) (acc:List Int) (q:Int),numsS s p k acc q=match rawN s k q with
  |none=>none
  |some (m,c)=>if zem p acc m then some (acc++m,c)else none
 |0,acc,q=>by
  show some (acc,q)=if zem p acc []then some (acc++[],q)else none
  rw[if_pos (show zem p acc []from trivial),q5]
 |k+1,acc,q=>by
  rw[numsS,rawN];by_cases h1:(getI s q).2.2=0
  ·rw[if_pos h1];have ih:=zq7 s p k (acc++[(getI s q).1]) (getI s q).2.1;by_cases a:(bnd p acc).1<=(getI s q).1/\(getI s q).1<=(bnd p acc).2
   ·rw[if_pos (zaw.2 ⟨h1,a⟩),ih];cases d:rawN s k (getI s q).2.1 with
    |none=>rfl
    |some x=>
     obtain⟨m,c⟩:=x;dsimp only;by_cases b:zem p (acc++[(getI s q).1]) m
     ·rw[if_pos b,if_pos (show zem p acc ((getI s q).1::m)from⟨a,b⟩)];simp
     ·rw[if_neg b,if_neg (fun h:zem p acc ((getI s q).1::m)=>b h.2)]
   ·rw[if_neg (fun h=>a (zaw.1 h).2)];cases d:rawN s k (getI s q).2.1 with
    |none=>rfl
    |some x=>
     obtain⟨m,c⟩:=x;dsimp only;rw[if_neg (fun h:zem p acc ((getI s q).1::m)=>a h.1)]
  ·rw[if_neg h1,if_neg (fun h=>h1 (zaw.1 h).1)]
theorem zvl(s:List UInt8):∀(k:Nat) (q:Int) {m:List Int} {b:Int},rawN s k q=some (m,b)->m.length=k
 |0,q,m,b,h=>by
  simp only[rawN,Option.some.injEq,Prod.mk.injEq]at h;rw[<-h.1];rfl
 |k+1,q,m,b,h=>by
  rw[rawN]at h;split at h
  ·cases a:rawN s k (getI s q).2.1 with
   |none=>rw[a]at h;cases h
   |some x=>
    obtain⟨d,c⟩:=x;rw[a]at h;simp only[Option.some.injEq,Prod.mk.injEq]at h;rw[<-h.1,qj,zvl s k _ a]
  ·cases h
def rawL(p:Int)(s:List UInt8)(q:Int):Option (Ln×Int):=
 if p=1 then if(getS s q).2.2=0 then some (((getS s q).1,[]),(getS s q).2.1)else none
 else match rawN s (colN p) q with
  |none=>none
  |some (m,q')=>some (([],m),q')
theorem z0k{p:Int}(s:List UInt8)(a:List Ln)(q:Int):lineS s p a q=match rawL p s q with
  |none=>none
  |some (x,i)=>if lnOk p a x then some (x,i)else none:=by
 unfold lineS rawL;by_cases h1:p=1
 ·rw[if_pos h1,if_pos h1];by_cases b:(getS s q).2.2=0
  ·rw[if_pos b];dsimp only;by_cases c:(getS s q).1.length<=80/\(getS s q).1.any badC=false
   ·rw[if_pos ⟨b,c⟩,if_pos];unfold lnOk;rw[if_pos h1];exact⟨rfl,c⟩
   ·rw[if_neg (fun h=>c h.2),if_neg];unfold lnOk;rw[if_pos h1];exact fun h=>c h.2
  ·rw[if_neg b,if_neg (fun h=>b h.1)]
 ·rw[if_neg h1,if_neg h1,zq7,zp0];cases k:rawN s (colN p) q with
  |none=>rfl
  |some x=>
   obtain⟨m,i⟩:=x;have j:=zvl s _ _ k;dsimp only
   have d:lnOk p a ([],m)↔zem p [] m/\(p≠2->∀y,a.getLast? =some y->cmpL (y.2.take 2) (m.take 2) < 0):=by
    unfold lnOk;rw[if_neg h1];show([]:List UInt8)=[]/\m.length=cols p/\zem p [] m/\_↔_;rw[zp0];exact⟨fun h=>h.2.2,fun h=>⟨rfl,j,h⟩⟩
   by_cases b:zem p [] m
   ·rw[if_pos b];dsimp only;rw[qv];by_cases c:p=2
    ·rw[if_pos c,if_pos (d.2 ⟨b,fun h=>absurd c h⟩)]
    ·rw[if_neg c];cases hb:a.getLast? with
     |none=>rw[if_pos (d.2 ⟨b,fun _ y f=>by rw[hb]at f;cases f⟩)]
     |some y=>
      dsimp only;by_cases e:cmpL (y.2.take 2) (m.take 2) < 0
      ·rw[if_pos e,if_pos (d.2 ⟨b,fun _ z g=>by rw[hb]at g;cases g;exact e⟩)]
      ·rw[if_neg e,if_neg (fun h=>e ((d.1 h).2 c y hb))]
   ·rw[if_neg b,if_neg (fun h=>b (d.1 h).1)]
theorem rdL1(s:List UInt8)(q:Int):rdL 1 s q=(((rdTxt s q false).1,0,0,0,0),(rdTxt s q false).2.1,(rdTxt s q false).2.2):=rfl
theorem rdL2(s:List UInt8)(q:Int):rdL 2 s q=(([],(rdNum s q false).1,0,0,0),(rdNum s q false).2.1,(rdNum s q false).2.2):=rfl
def rdU3(s:List UInt8)(q:Int):RLn×Int×Bool:=
 let a:=rdNum s q false
 let b:=rdNum s a.2.1 a.2.2
 let c:=rdNum s b.2.1 b.2.2
 (([],a.1,b.1,c.1,0),c.2.1,c.2.2)
def rdU4(s:List UInt8)(q:Int):RLn×Int×Bool:=
 let a:=rdNum s q false
 let b:=rdNum s a.2.1 a.2.2
 let c:=rdNum s b.2.1 b.2.2
 let d:=rdNum s c.2.1 c.2.2
 (([],a.1,b.1,c.1,d.1),d.2.1,d.2.2)
theorem rdL3(s:List UInt8)(q:Int):rdL 3 s q=rdU3 s q:=rfl
theorem rdL5(s:List UInt8)(q:Int):rdL 5 s q=rdU3 s q:=rfl
theorem rdL4(s:List UInt8)(q:Int):rdL 4 s q=rdU4 s q:=rfl
theorem ya3{p:Int}(e:1<=p/\p<=5)(s:List UInt8)(q:Int):rawL p s q=if(rdL p s q).2.2=true then none else some (ofR p (rdL p s q).1,(rdL p s q).2.1):=by
 unfold rawL;have d:p=1\/p=2\/p=3\/p=4\/p=5:=by omega
 rcases d with rfl | rfl | rfl | rfl | rfl
 ·rw[if_pos rfl,rdL1];by_cases h:(getS s q).2.2=0
  ·rw[if_pos h,zvn h];rfl
  ·rw[if_neg h,zvm h];rfl
 ·rw[if_neg (by decide),rdL2,show colN 2=1 from rfl,rawN];by_cases h:(getI s q).2.2=0
  ·rw[if_pos h,zc5 h];rfl
  ·rw[if_neg h,zc4 h];rfl
 case inr.inr.inr.inl=>
  rw[if_neg (by decide),rdL4,rdU4,show colN 4=4 from rfl,rawN];by_cases h:(getI s q).2.2=0
  ·rw[if_pos h,zc5 h];dsimp only;rw[rawN];by_cases a:(getI s (getI s q).2.1).2.2=0
   ·rw[if_pos a,zc5 a];dsimp only;rw[rawN];by_cases b:(getI s (getI s (getI s q).2.1).2.1).2.2=0
    ·rw[if_pos b,zc5 b];dsimp only;rw[rawN];by_cases c:(getI s (getI s (getI s (getI s q).2.1).2.1).2.1).2.2=0
     ·rw[if_pos c,zc5 c];rfl
     ·rw[if_neg c,zc4 c];rfl
    ·rw[if_neg b,zc4 b];dsimp only;rw[zc9];rfl
   ·rw[if_neg a,zc4 a];dsimp only;rw[zc9,zc9];rfl
  ·rw[if_neg h,zc4 h];dsimp only;rw[zc9,zc9,zc9];rfl
 all_goals
  rw[if_neg (by decide)]
  first | rw[rdL3,show colN 3=3 from rfl] | rw[rdL5,show colN 5=3 from rfl]
  rw[rdU3,rawN];by_cases h:(getI s q).2.2=0
  ·rw[if_pos h,zc5 h];dsimp only;rw[rawN];by_cases a:(getI s (getI s q).2.1).2.2=0
   ·rw[if_pos a,zc5 a];dsimp only;rw[rawN];by_cases b:(getI s (getI s (getI s q).2.1).2.1).2.2=0
    ·rw[if_pos b,zc5 b];rfl
    ·rw[if_neg b,zc4 b];rfl
   ·rw[if_neg a,zc4 a];dsimp only;rw[zc9];rfl
  ·rw[if_neg h,zc4 h];dsimp only;rw[zc9,zc9];rfl
theorem zqr{p:Int}(b:1<=p/\p<=5)(s:List UInt8):∀(f:Nat) (acc:List RLn) (q:Int),(zbh p s f acc q).map (fun x=>(x.1.map (ofR p),x.2))=zcp s p f (acc.map (ofR p)) q
 |0,acc,q=>rfl
 |f+1,acc,q=>by
  rw[zbh,zcp,z0k,ya3 b];by_cases hb:(rdL p s q).2.2=true
  ·rw[if_pos (.inl hb),if_pos hb];rfl
  ·rw[if_neg hb];dsimp only;by_cases a:fitsR p acc (rdL p s q).1=true
   ·have c:=(zui b acc _).1 a;rw[if_neg (by rintro(h | h);exact hb h;rw[a]at h;cases h),if_pos c];have ih:=zqr b s f (acc++[(rdL p s q).1]) (rdL p s q).2.1;rw[qs]at ih;exact ih
   ·have c:¬lnOk p (acc.map (ofR p)) (ofR p (rdL p s q).1):=fun h=>a ((zui b acc _).2 h)
    rw[if_pos (.inr (by simpa using a)),if_neg c];rfl
theorem z6x{p:Int}(g:1<=p/\p<=5){s:List UInt8}(j:¬s=[]):(readR p s).map (ofV p)=readS p s:=by
 have c:¬¬(1<=p/\p<=8):=fun h=>h ⟨by omega,by omega⟩
 have k:¬p=8:=by omega
 have i:¬6<=p:=by omega
 conv=>lhs;unfold readR;rw[if_neg c,if_neg j,if_neg i]
 conv=>rhs;unfold readS;rw[if_neg c,if_neg j,if_neg k,if_neg i]
 by_cases h:(getI s 0).2.2=0
 ·rw[zc5 h];dsimp only;by_cases e:0<=(getI s 0).1/\(getI s 0).1<=64
  ·have h1:=zqr g s (getI s 0).1.toNat [] (getI s 0).2.1
   have f:¬(false=true\/inR (getI s 0).1 0 64=false):=by
    rw[zbg.2 e];simp
   have a:zbd s 0 0 64=true:=zaw.2 ⟨h,e⟩
   conv=>lhs;rw[if_neg f]
   conv=>rhs;rw[if_pos a]
   change _=zcp s p (getI s 0).1.toNat [] (getI s 0).2.1 at h1
   rw[<-h1];cases m:zbh p s (getI s 0).1.toNat [] (getI s 0).2.1 with
   |none=>rfl
   |some x=>
    obtain⟨l,q⟩:=x;show Option.map (ofV p) (if q=(s.length:Int)then _ else none)=if q=(s.length:Int)then _ else none
    by_cases d:q=(s.length:Int)
    ·rw[if_pos d,if_pos d];rfl
    ·rw[if_neg d,if_neg d];rfl
  ·have f:false=true\/inR (getI s 0).1 0 64=false:=by
    right;apply Classical.byContradiction;intro b;exact e (zbg.1 (by simpa using b))
   have a:¬zbd s 0 0 64=true:=fun b=>e (zaw.1 b).2
   conv=>lhs;rw[if_pos f]
   conv=>rhs;rw[if_neg a]
   rfl
 ·have a:¬zbd s 0 0 64=true:=fun b=>h (zaw.1 b).1
  rw[zc4 h,if_neg a];rfl
theorem z7a{s:List UInt8}(l:¬s=[]):(readR 8 s).map (ofV 8)=readS 8 s:=by
 have b:¬¬((1:Int)<=8/\(8:Int)<=8):=fun h=>h ⟨by omega,by omega⟩
 conv=>lhs;unfold readR;rw[if_neg b,if_neg l,if_pos (by decide),zi3]
 conv=>rhs;unfold readS;rw[if_neg b,if_neg l,if_pos rfl]
 by_cases h:(getI s 0).2.2=0
 case neg=>
  have c:¬(zbd s 0 0 64=true/\zbd s (getI s 0).2.1 0 64=true/\(getI s (getI s 0).2.1).2.1=(s.length:Int)):=fun a=>h (zaw.1 a.1).1
  conv=>rhs;rw[if_neg c]
  rw[zc4 h];dsimp only;rw[zc9];rfl
 rw[zc5 h];dsimp only;by_cases a:(getI s (getI s 0).2.1).2.2=0
 case neg=>
  have c:¬(zbd s 0 0 64=true/\zbd s (getI s 0).2.1 0 64=true/\(getI s (getI s 0).2.1).2.1=(s.length:Int)):=fun h3=>a (zaw.1 h3.2.1).1
  conv=>rhs;rw[if_neg c]
  rw[zc4 a];rfl
 rw[zc5 a]
 have i:(zbd s 0 0 64=true/\zbd s (getI s 0).2.1 0 64=true/\(getI s (getI s 0).2.1).2.1=(s.length:Int))↔(inR (getI s 0).1 0 64=true/\inR (getI s (getI s 0).2.1).1 0 64=true)/\(getI s (getI s 0).2.1).2.1=(s.length:Int):=by
  rw[zaw,zaw,zbg,zbg];exact⟨fun h=>⟨⟨h.1.2,h.2.1.2⟩,h.2.2⟩,fun h3=>⟨⟨h,h3.1.1⟩,⟨a,h3.1.2⟩,h3.2⟩⟩
 conv=>rhs;rw[show(if zbd s 0 0 64=true/\zbd s (getI s 0).2.1 0 64=true/\(getI s (getI s 0).2.1).2.1=(s.length:Int)then some (Val.mk false [] (getI s 0).1 (getI s (getI s 0).2.1).1 [])else none)=(if(inR (getI s 0).1 0 64=true/\inR (getI s (getI s 0).2.1).1 0 64=true)/\(getI s (getI s 0).2.1).2.1=(s.length:Int)then some (Val.mk false [] (getI s 0).1 (getI s (getI s 0).2.1).1 [])else none)from by
  by_cases f:zbd s 0 0 64=true/\zbd s (getI s 0).2.1 0 64=true/\(getI s (getI s 0).2.1).2.1=(s.length:Int)
  ·rw[if_pos f,if_pos (i.1 f)]
  ·rw[if_neg f,if_neg (fun h=>f (i.2 h))]]
 obtain⟨w,n⟩:∃w,(getI s 0).1=w:=⟨_,rfl⟩
 obtain⟨q,m⟩:∃q,(getI s 0).2.1=q:=⟨_,rfl⟩
 obtain⟨hh,j⟩:∃h,(getI s q).1=h:=⟨_,rfl⟩
 obtain⟨g,k⟩:∃r,(getI s q).2.1=r:=⟨_,rfl⟩
 clear i h a;rw[n,m,j,k];show Option.map (ofV 8) (if false=true\/g≠(s.length:Int)then none else if(8:Int)=8 then(if inR w 0 64=true/\inR hh 0 64=true then some ⟨false,[],w,hh,[]⟩else none)else _)=_;by_cases d:g=(s.length:Int)
 ·rw[if_neg (show¬(false=true\/g≠(s.length:Int))by rintro(h3 | h3);cases h3;exact h3 d),if_pos rfl];by_cases e:inR w 0 64=true/\inR hh 0 64=true
  ·rw[if_pos e,if_pos ⟨e,d⟩];rfl
  ·rw[if_neg e,if_neg (fun h=>e h.1)];rfl
 ·rw[if_pos (show false=true\/g≠(s.length:Int)from .inr d),if_neg (fun h=>d h.2)];rfl
theorem z1l{s:List UInt8}{w hh q:Int}(h:(getI s 0).2.2=0)(c:(getI s q).2.2=0)(d:(getI s 0).1=w)(a:(getI s q).1=hh):
  (zbd s 0 0 32=true/\zbd s q (min w 1) (min w 1*32)=true)↔((0<=w/\w<=32)/\(min w 1<=hh/\hh<=min w 1*32)):=by
 rw[zaw,zaw,d,a];exact⟨fun h=>⟨h.1.2,h.2.2⟩,fun b=>⟨⟨h,b.1⟩,⟨c,b.2⟩⟩⟩
theorem z6y{s:List UInt8}(o:¬s=[]):(readR 6 s).map (ofV 6)=readS 6 s:=by
 have g:¬¬((1:Int)<=6/\(6:Int)<=8):=fun h=>h ⟨by omega,by omega⟩
 conv=>lhs;unfold readR;rw[if_neg g,if_neg o,if_pos (by decide),zi3]
 conv=>rhs;unfold readS;rw[if_neg g,if_neg o,if_neg (by decide:¬(6:Int)=8),if_pos (by decide:(6:Int)<=6)]
 dsimp only;by_cases h:(getI s 0).2.2=0
 case neg=>
  have c:∀Q:Prop,¬(zbd s 0 0 32=true/\Q):=fun Q b=>h (zaw.1 b.1).1
  conv=>rhs;rw[if_neg (c _)]
  rw[zc4 h];dsimp only;rw[zc9];rfl
 rw[zc5 h];dsimp only;by_cases b:(getI s (getI s 0).2.1).2.2=0
 case neg=>
  have c:∀(Q:Prop) u m,¬(Q/\zbd s (getI s 0).2.1 u m=true):=fun Q u m h3=>b (zaw.1 h3.2).1
  conv=>rhs;rw[if_neg (c _ _ _)]
  rw[zc4 b];rfl
 rw[zc5 b];obtain⟨w,p⟩:∃w,(getI s 0).1=w:=⟨_,rfl⟩
 obtain⟨q,n⟩:∃q,(getI s 0).2.1=q:=⟨_,rfl⟩
 rw[n]at b;obtain⟨hh,f⟩:∃h,(getI s q).1=h:=⟨_,rfl⟩
 obtain⟨i,k⟩:∃r,(getI s q).2.1=r:=⟨_,rfl⟩
 have d:=z1l h b p f;clear h b;rw[p,n,f,k]
 show Option.map (ofV 6) (if false=true\/i≠(s.length:Int)then none else if(6:Int)=8 then _ else if([]:List UInt8).all bitB=false then none
  else if w=0 then if hh=0/\([]:List UInt8)=[]then some ⟨false,[],w,hh,[]⟩else none
  else if inR w 1 32=true/\inR hh 1 32=true/\((6:Int)=6\/((0:Nat):Int)=w*hh)then some ⟨false,[],w,hh,[]⟩else none)=
  if zbd s 0 0 32=true/\zbd s q (min w 1) (min w 1*32)=true then(if(6:Int)=7 then _ else if i=(s.length:Int)then some ⟨false,[],w,hh,[]⟩else none)else none
 by_cases j:i=(s.length:Int)
 case neg=>
  rw[if_pos (show false=true\/i≠(s.length:Int)from .inr j),if_neg (by decide:¬(6:Int)=7),if_neg j];split<;>rfl
 rw[if_neg (show¬(false=true\/i≠(s.length:Int))by rintro(h3 | h3);cases h3;exact h3 j),if_neg (by decide:¬(6:Int)=8),if_neg (by decide:¬([]:List UInt8).all bitB=false),if_neg (by decide:¬(6:Int)=7),if_pos j];by_cases l:(0<=w/\w<=32)/\(min w 1<=hh/\hh<=min w 1*32)
 ·rw[if_pos (d.2 l)];by_cases a:w=0
  ·have e:hh=0:=by omega
   rw[if_pos a,if_pos ⟨e,rfl⟩];rfl
  ·rw[if_neg a,if_pos ⟨zbg.2 (by omega),zbg.2 (by omega),.inl rfl⟩];rfl
 ·rw[if_neg (fun h=>l (d.1 h))];by_cases a:w=0
  ·have e:¬hh=0:=by omega
   rw[if_pos a,if_neg (fun h=>e h.1)];rfl
  ·rw[if_neg a,if_neg (fun h=>l (by have h1:=zbg.1 h.1;have b:=zbg.1 h.2.1;omega))];rfl
theorem z6z{s:List UInt8}(B:¬s=[]):(readR 7 s).map (ofV 7)=readS 7 s:=by
 have k:¬¬((1:Int)<=7/\(7:Int)<=8):=fun h=>h ⟨by omega,by omega⟩
 conv=>lhs;unfold readR;rw[if_neg k,if_neg B,if_pos (by decide),zi3]
 conv=>rhs;unfold readS;rw[if_neg k,if_neg B,if_neg (by decide:¬(7:Int)=8),if_pos (by decide:(6:Int)<=7)]
 dsimp only;by_cases h:(getI s 0).2.2=0
 case neg=>
  have c:∀Q:Prop,¬(zbd s 0 0 32=true/\Q):=fun Q b=>h (zaw.1 b.1).1
  conv=>rhs;rw[if_neg (c _)]
  rw[zc4 h];dsimp only;rw[zc9];dsimp only;rw[zrg];rfl
 rw[zc5 h];dsimp only;by_cases b:(getI s (getI s 0).2.1).2.2=0
 case neg=>
  have c:∀(Q:Prop) E y,¬(Q/\zbd s (getI s 0).2.1 E y=true):=fun Q E y i=>b (zaw.1 i.2).1
  conv=>rhs;rw[if_neg (c _ _ _)]
  rw[zc4 b];dsimp only;rw[zrg];rfl
 rw[zc5 b];dsimp only;obtain⟨w,D⟩:∃w,(getI s 0).1=w:=⟨_,rfl⟩
 obtain⟨q,A⟩:∃q,(getI s 0).2.1=q:=⟨_,rfl⟩
 rw[A]at b;obtain⟨hh,j⟩:∃h,(getI s q).1=h:=⟨_,rfl⟩
 obtain⟨g,o⟩:∃r,(getI s q).2.1=r:=⟨_,rfl⟩
 have e:=z1l h b D j;clear h b;rw[D,A,j,o];by_cases i:(getS s g).2.2=0
 case neg=>
  have c:∀Q:Prop,¬((getS s g).2.2=0/\Q):=fun Q h4=>i h4.1
  conv=>rhs;rw[if_pos (by decide:(7:Int)=7),if_neg (c _),ite_self]
  rw[zvm i];rfl
 rw[zvn i];obtain⟨t,J⟩:∃t,(getS s g).1=t:=⟨_,rfl⟩
 obtain⟨d,p⟩:∃t,(getS s g).2.1=t:=⟨_,rfl⟩
 rw[J,p]
 show Option.map (ofV 7) (if false=true\/d≠(s.length:Int)then none else if t.all bitB=false then none
  else if w=0 then if hh=0/\t=[]then some ⟨false,[],w,hh,t⟩else none
  else if inR w 1 32=true/\inR hh 1 32=true/\((7:Int)=6\/(t.length:Int)=w*hh)then some ⟨false,[],w,hh,t⟩else none)=
  if zbd s 0 0 32=true/\zbd s q (min w 1) (min w 1*32)=true then(if(getS s g).2.2=0/\(t.length:Int)=w*hh/\t.all bitB=true/\d=(s.length:Int)then some ⟨false,[],w,hh,t⟩else none)else none
 by_cases l:(((0<=w/\w<=32)/\(min w 1<=hh/\hh<=min w 1*32))/\(t.length:Int)=w*hh)/\t.all bitB=true/\d=(s.length:Int)
 ·obtain⟨⟨I,n⟩,hb,f⟩:=l;rw[if_neg (show¬(false=true\/d≠(s.length:Int))by rintro(h4 | h4);cases h4;exact h4 f),if_neg (show¬(t.all bitB=false)by rw[hb];simp),if_pos (e.2 I),if_pos (show(getS s g).2.2=0/\(t.length:Int)=w*hh/\t.all bitB=true/\d=(s.length:Int)from⟨i,n,hb,f⟩)];by_cases a:w=0
  ·have m:hh=0:=by omega
   have u:t=[]:=yw (by
    rw[a,qdr]at n;omega)
   rw[if_pos a,if_pos ⟨m,u⟩];rfl
  ·rw[if_neg a,if_pos ⟨zbg.2 (by omega),zbg.2 (by omega),.inr n⟩];rfl
 ·have G:(if zbd s 0 0 32=true/\zbd s q (min w 1) (min w 1*32)=true then(if(getS s g).2.2=0/\(t.length:Int)=w*hh/\t.all bitB=true/\d=(s.length:Int)then some (Val.mk false [] w hh t)else none)else none)=none:=by
   split
   ·rename_i h4;rw[if_neg (fun x=>l ⟨⟨e.1 h4,x.2.1⟩,x.2.2⟩)]
   ·rfl
  rw[G];by_cases f:d=(s.length:Int)
  case neg=>rw[if_pos (show false=true\/d≠(s.length:Int)from .inr f)];rfl
  rw[if_neg (show¬(false=true\/d≠(s.length:Int))by rintro(h4 | h4);cases h4;exact h4 f)];by_cases hb:t.all bitB=true
  case neg=>rw[if_pos (show t.all bitB=false by simpa using hb)];rfl
  rw[if_neg (show¬(t.all bitB=false)by rw[hb];simp)];by_cases a:w=0
  ·rw[if_pos a,if_neg (fun h4=>l ⟨⟨by omega,by rw[h4.2,a,qdr];rfl⟩,hb,f⟩)];rfl
  ·rw[if_neg a,if_neg (fun h4=>l ⟨⟨by have h1:=zbg.1 h4.1;have b:=zbg.1 h4.2.1;omega,h4.2.2.resolve_left (by decide)⟩,hb,f⟩)];rfl
theorem z1p(p:Int)(s:List UInt8):(readR p s).map (ofV p)=readS p s:=by
 by_cases c:1<=p/\p<=8
 case neg=>
  unfold readR readS;have a:¬(1<=p/\p<=8):=c;rw[if_pos a,if_pos a];rfl
 by_cases b:s=[]
 ·subst b;have a:¬¬(1<=p/\p<=8):=fun h=>h c
  conv=>lhs;unfold readR;rw[if_neg a,if_pos rfl]
  conv=>rhs;unfold readS;rw[if_neg a,if_pos rfl]
  rfl
 by_cases d:p<=5
 ·exact z6x ⟨c.1,d⟩ b
 have e:p=6\/p=7\/p=8:=by omega
 rcases e with rfl | rfl | rfl
 ·exact z6y b
 ·exact z6z b
 ·exact z7a b
def idxH(W k:Nat):Nat:=k / W / 2*((W+1) / 2)+k % W / 2
theorem zqc(W k:Nat)(b:UInt8)(r o:List UInt8):halB W k (b::r) o=halB W (k+1) r (if b=49 then o.set (idxH W k) 49 else o):=rfl
theorem zup(W:Nat):∀(l:List UInt8) (k:Nat) (o:List UInt8) (j:Nat),j < o.length->(o[j]? =some 49\/∃i,l[i]? =some 49/\idxH W (k+i)=j)->(halB W k l o)[j]? =some 49
 |[],k,o,j,hj,h=>by
  rcases h with h | ⟨i,h,_⟩
  ·exact h
  ·simp at h
 |b::r,k,o,j,hj,h=>by
  rw[zqc];refine zup W r (k+1) _ j (by split<;>simp[hj]) ?_;rcases h with h | ⟨i,h,c⟩
  ·left;split
   ·rw[qas];split
    ·rename_i e;rw[if_pos (by rw[e];exact hj)]
    ·exact h
   ·exact h
  ·cases i with
   |zero=>
    left;simp at h;have a:idxH W k=j:=by simpa using c
    rw[if_pos h,qas,if_pos a,if_pos (by rw[a];exact hj)]
   |succ i=>
    right;exact⟨i,by simpa using h,by rw[<-c];congr 1;omega⟩
theorem zz2(W:Nat):∀(l:List UInt8) (k:Nat) (o:List UInt8) (j:Nat),(∀i,l[i]? =some 49->idxH W (k+i)≠j)->(halB W k l o)[j]? =o[j]?
 |[],k,o,j,h=>rfl
 |b::r,k,o,j,h=>by
  rw[zqc,zz2 W r (k+1) _ j (fun i c=>by
   have:=h (i+1) (by simpa using c);intro a;apply this;rw[<-a];congr 1;omega)]
  split
  ·rename_i hb;rw[qas,if_neg];have:=h 0 (by simp[hb]);simpa using this
  ·rfl
def hb(W H:Nat)(bits:List UInt8)(i k:Nat):Bool:=decide (i < H)&&(decide (k < W)&&decide (bits[i*W+k]? =some 49))
def hb4(W H:Nat)(bits:List UInt8)(r c:Nat):Bool:=hb W H bits (2*r) (2*c)||(hb W H bits (2*r) (2*c+1)||(hb W H bits (2*r+1) (2*c)||hb W H bits (2*r+1) (2*c+1)))
def zfm(W H:Nat)(bits:List UInt8)(r c:Nat):UInt8:=if hb4 W H bits r c=true then 49 else 48
def zm4(W H:Nat)(bits:List UInt8)(r:Nat):List UInt8:=(List.range ((W+1) / 2)).map (zfm W H bits r)
def zh1(W H:Nat)(bits:List UInt8):List UInt8:=((List.range ((H+1) / 2)).map (zm4 W H bits)).flatten
theorem hb_iff{W H:Nat}{bits:List UInt8}{i k:Nat}:hb W H bits i k=true↔i < H/\k < W/\bits[i*W+k]? =some 49:=by
 unfold hb;simp
theorem zt9{W i k:Nat}(h:k < W):(i*W+k) / W=i/\(i*W+k) % W=k:=by
 have a:0 < W:=by omega
 constructor
 ·rw[qb0,Nat.add_mul_div_right _ _ a,Nat.div_eq_of_lt h,qx]
 ·rw[qb0,Nat.add_mul_mod_self_right,jq h]
theorem yab{W H:Nat}{bits:List UInt8}(s:bits.length=W*H){r c:Nat}(q:c < (W+1) / 2):
  hb4 W H bits r c=true↔∃n,bits[n]? =some 49/\idxH W n=r*((W+1) / 2)+c:=by
 unfold hb4;simp only[qal,hb_iff];constructor
 ·intro h
  have a:∀i k,i < H->k < W->bits[i*W+k]? =some 49->i / 2=r->k / 2=c->∃n,bits[n]? =some 49/\idxH W n=r*((W+1) / 2)+c:=fun i k h1 b d m o=>
   ⟨i*W+k,d,by unfold idxH;rw[(zt9 b).1,(zt9 b).2,m,o]⟩
  rcases h with h | h | h | h
  ·exact a _ _ h.1 h.2.1 h.2.2 (by omega) (by omega)
  ·exact a _ _ h.1 h.2.1 h.2.2 (by omega) (by omega)
  ·exact a _ _ h.1 h.2.1 h.2.2 (by omega) (by omega)
  ·exact a _ _ h.1 h.2.1 h.2.2 (by omega) (by omega)
 ·rintro⟨n,e,g⟩;have f:n < W*H:=by rw[<-s];exact(ql.1 e).1
  have p:0 < W:=by
   rcases qbn W with h | h
   ·rw[h,qdf]at f;omega
   ·exact h
  have h1:n / W < H:=qbz f;have b:n % W < W:=qa1 _ p;have d:n / W*W+n % W=n:=by rw[qab];exact qdi n W
  unfold idxH at g;have u:n % W / 2 < (W+1) / 2:=by omega
  obtain⟨j,l⟩:=zt9 (i:=n / W / 2) u;obtain⟨f1,f2⟩:=zt9 (i:=r) q;have w:n / W / 2=r:=by rw[<-j,g,f1]
  have x:n % W / 2=c:=by rw[<-l,g,f2]
  have hi:n / W=2*r\/n / W=2*r+1:=by omega
  have hk:n % W=2*c\/n % W=2*c+1:=by omega
  rcases hi with hi | hi<;>rcases hk with hk | hk<;>rw[hi,hk]at d<;>rw[hi]at h1<;>rw[hk]at b
  ·exact .inl ⟨h1,b,by rw[d];exact e⟩
  ·exact .inr (.inl ⟨h1,b,by rw[d];exact e⟩)
  ·exact .inr (.inr (.inl ⟨h1,b,by rw[d];exact e⟩))
  ·exact .inr (.inr (.inr ⟨h1,b,by rw[d];exact e⟩))
theorem flat_get{w:Nat}(f:Nat->List UInt8)(g:∀r,(f r).length=w):∀(h:Nat) (r c:Nat),c < w->r < h->((List.range h).map f).flatten[r*w+c]? =(f r)[c]?:=by
 intro h
 induction h with
 |zero=>intro r c _ d;omega
 |succ h ih=>
  intro r c e d
  have a:((List.range h).map f).flatten.length=h*w:=by
   clear ih d
   induction h with
   |zero=>simp
   |succ h ih=>rw[qay,qs,yj,qd,ih];simp[g,qa2]
  rw[qay,qs,yj];by_cases b:r < h
  ·rw[js,ih r c e b];rw[a];have:(r+1)*w<=h*w:=y6 _ b;rw[qa2]at this;omega
  ·have:r=h:=by omega
   subst this;rw[jx (by rw[a];omega),a];simp
theorem zww(W H:Nat)(bits:List UInt8):(zh1 W H bits).length=(W+1) / 2*((H+1) / 2):=by
 unfold zh1;rw[qab];generalize(H+1) / 2=h
 induction h with
 |zero=>simp
 |succ h ih=>rw[qay,qs,yj,qd,ih,qa2];simp[zm4]
theorem zz1{W H:Nat}{bits:List UInt8}(l:bits.length=W*H):halB W 0 bits (List.replicate ((W+1) / 2*((H+1) / 2)) 48)=zh1 W H bits:=by
 apply qbe;intro j;have c:=zoo W bits 0 (List.replicate ((W+1) / 2*((H+1) / 2)) 48);rw[qa0]at c;by_cases e:j < (W+1) / 2*((H+1) / 2)
 ·have p:0 < (W+1) / 2:=by
   rcases qbn ((W+1) / 2)with h | h
   ·rw[h,qdf]at e;omega
   ·exact h
  have o:j / ((W+1) / 2) < (H+1) / 2:=qbz e;have f:j % ((W+1) / 2) < (W+1) / 2:=qa1 _ p;have b:j / ((W+1) / 2)*((W+1) / 2)+j % ((W+1) / 2)=j:=by rw[qab];exact qdi j _
  have g:(zh1 W H bits)[j]? =some (zfm W H bits (j / ((W+1) / 2)) (j % ((W+1) / 2))):=by
   conv=>lhs;rw[<-b]
   unfold zh1;rw[flat_get (w:=(W+1) / 2) _ (fun r=>by simp[zm4]) _ _ _ f o,zm4,qt,qdn f];rfl
  rw[g];have a:=yab (bits:=bits) (r:=j / ((W+1) / 2)) l f;rw[b]at a;by_cases hb:hb4 W H bits (j / ((W+1) / 2)) (j % ((W+1) / 2))=true
  ·obtain⟨n,m,d⟩:=a.1 hb;rw[zup W bits 0 _ j (by rw[qa0];exact e) (.inr ⟨n,m,by rw[qx];exact d⟩),zfm,if_pos hb]
  ·rw[zz2 W bits 0 _ j (fun i k d=>hb (a.2 ⟨i,k,by rw[qx]at d;exact d⟩)),zfm,if_neg hb,List.getElem?_replicate,if_pos e]
 ·rw[qaj (by omega),qaj (by rw[zww];omega)]
def zdl(x:Stp)(y:RLn):RLn:=
 if x.1=1 then(Lib.toLowerA y.1,y.2)else if x.1=2 then(spc false y.1,y.2)
 else if x.1=3 then(y.1,y.2.1,y.2.2.1,y.2.2.2.1.tdiv x.2*x.2,y.2.2.2.2)
 else if x.1=4 then(y.1,(if y.2.1>x.2 then 0 else y.2.1),y.2.2)else y
def lostR:RVal:=⟨true,[],0,0,[]⟩
def halRV(v:RVal):RVal:=⟨false,[],(v.w+1) / 2,(v.h+1) / 2,if v.bits=[]then []else zh1 v.w.toNat v.h.toNat v.bits⟩
def stepR(x:Stp)(v:RVal):RVal:=if v.lost=true\/x.1=6 then lostR else if x.1=5 then halRV v else⟨false,v.lines.map (zdl x),0,0,[]⟩
def runR(l:List Stp)(v:RVal):RVal:=l.foldl (fun v x=>stepR x v) v
def zfg(p:Int)(l:List Stp)(s:List UInt8):List UInt8×Int:=
 if za2 p l=true then match readR p s with
  |none=>([],70)
  |some v=>(zca p (runR l v),0)
 else([],70)
theorem z1w(z n:Int):z - z.tmod n=z.tdiv n*n:=by
 have h:=Int.tmod_def z n;rw[Int.mul_comm]at h;omega
theorem z6j{p:Int}{x:Stp}(g:1<=p/\p<=8)(c:zbl p x=true)(d:x.1≠5)(e:x.1≠6)(y:RLn):
  ofR p (zdl x y)=(if x.1=1 then foldL (ofR p y)else if x.1=2 then zrz (ofR p y)else if x.1=3 then zrm x.2 (ofR p y)else limL x.2 (ofR p y)):=by
 obtain⟨k,n⟩:=x;obtain⟨t,n0,b,a,i⟩:=y;rcases zbn g c with⟨rfl,rfl,rfl⟩ | ⟨rfl,rfl,rfl⟩ | ⟨rfl,h,f⟩ | ⟨rfl,rfl,f⟩ | ⟨rfl,h,rfl⟩ | ⟨rfl,rfl⟩
 ·rfl
 ·show((spc false t,[]):Ln)=(spS t.length t,[]);rw[z2v _ _ (qi _)]
 ·rcases h with rfl | rfl
  ·show(([],[n0,b,a.tdiv n*n]):Ln)=([],[n0,b,a - a.tmod n]);rw[z1w]
  ·show(([],[n0,b,a.tdiv n*n]):Ln)=([],[n0,b,a - a.tmod n]);rw[z1w]
 ·rfl
 ·exact absurd rfl d
 ·exact absurd rfl e
theorem z6k(p:Int):ofV p lostR=loseV:=rfl
theorem z3b{p:Int}{x:Stp}{v:RVal}(u:1<=p/\p<=8)(b:zbl p x=true)(G:VOK p (ofV p v))(q:v.lost=false):ofV p (stepR x v)=stepS x (ofV p v):=by
 have E:=b;by_cases j:x.1=6
 ·rw[stepR,if_pos (.inr j),z6k];unfold stepS;rw[if_neg (by omega),if_neg (by omega),if_neg (by omega),if_neg (by omega),if_neg (by omega)]
 have D:¬(v.lost=true\/x.1=6):=by
  rintro(h | h)
  ·rw[q]at h;cases h
  ·exact j h
 by_cases a:x.1=5
 ·rw[stepR,if_neg D,if_pos a];unfold stepS;rw[if_neg (by omega),if_neg (by omega),if_neg (by omega),if_neg (by omega),if_pos a]
  have c:p=6\/p=7:=by
   obtain⟨k,n⟩:=x;rcases zbn u b with⟨rfl,rfl,rfl⟩ | ⟨rfl,rfl,rfl⟩ | ⟨rfl,h,l⟩ | ⟨rfl,rfl,l⟩ | ⟨rfl,h,rfl⟩ | ⟨rfl,rfl⟩
   ·exact absurd a (by show¬(1:Int)=5;decide)
   ·exact absurd a (by show¬(2:Int)=5;decide)
   ·exact absurd a (by show¬(3:Int)=5;decide)
   ·exact absurd a (by show¬(4:Int)=5;decide)
   ·exact h
   ·exact absurd a (by show¬(6:Int)=5;decide)
  obtain⟨h1,d,g,o⟩:=zf7 G q c;replace d:0<=v.w/\v.w<=32:=d;replace g:min v.w 1<=v.h/\v.h<=min v.w 1*32:=g;show Val.mk false [] ((v.w+1) / 2) ((v.h+1) / 2) (if v.bits=[]then []else zh1 v.w.toNat v.h.toNat v.bits)=Val.mk false [] ((v.w+1) / 2) ((v.h+1) / 2) (if v.bits=[]then []else halB v.w.toNat 0 v.bits (List.replicate ((v.w.toNat+1) / 2*((v.h.toNat+1) / 2)) 48));by_cases hb:v.bits=[]
  ·rw[if_pos hb,if_pos hb]
  ·rw[if_neg hb,if_neg hb,zz1];rcases c with K | h7
   ·rw[if_neg (by omega)]at o;exact absurd o hb
   ·rw[if_pos h7]at o;have L:(v.bits.length:Int)=v.w*v.h:=o.1;have I:(v.w.toNat:Int)=v.w:=yx d.1;have J:(v.h.toNat:Int)=v.h:=yx (by omega);have:((v.bits.length:Nat):Int)=((v.w.toNat*v.h.toNat:Nat):Int):=by rw[L,qa5,I,J]
    exact Int.ofNat.inj this
 ·rw[stepR,if_neg D,if_neg a]
  have B:p<=5:=by
   obtain⟨k,n⟩:=x;rcases zbn u b with⟨rfl,rfl,rfl⟩ | ⟨rfl,rfl,rfl⟩ | ⟨rfl,h,l⟩ | ⟨rfl,rfl,l⟩ | ⟨rfl,h,rfl⟩ | ⟨rfl,rfl⟩
   ·omega
   ·omega
   ·omega
   ·omega
   ·exact absurd rfl a
   ·exact absurd rfl j
  obtain⟨h1,d,g,_,_⟩:=ze1 G q B;replace h1:v.w=0:=h1;replace d:v.h=0:=d;replace g:v.bits=[]:=g
  have s:∀f:Ln->Ln,(∀y,ofR p (zdl x y)=f (ofR p y))->ofV p ⟨false,v.lines.map (zdl x),0,0,[]⟩={ ofV p v with lines:=(ofV p v).lines.map f }:=fun f M=>by
   show Val.mk false ((v.lines.map (zdl x)).map (ofR p)) 0 0 []=Val.mk v.lost ((v.lines.map (ofR p)).map f) v.w v.h v.bits;rw[q,h1,d,g,yg,yg]
   congr 1
   exact ju fun y _=>M y
  have A:=z6j u b a j;unfold stepS;by_cases e:x.1=1
  ·rw[if_pos e];exact s _ fun y=>by rw[A,if_pos e]
  rw[if_neg e];by_cases i:x.1=2
  ·rw[if_pos i];exact s _ fun y=>by rw[A,if_neg e,if_pos i]
  rw[if_neg i];by_cases m:x.1=3
  ·rw[if_pos m];exact s _ fun y=>by rw[A,if_neg e,if_neg i,if_pos m]
  rw[if_neg m]
  have O:x.1=4:=by
   obtain⟨k,n⟩:=x;rcases zbn u b with⟨rfl,rfl,rfl⟩ | ⟨rfl,rfl,rfl⟩ | ⟨rfl,h,l⟩ | ⟨rfl,rfl,l⟩ | ⟨rfl,h,rfl⟩ | ⟨rfl,rfl⟩
   ·exact absurd rfl e
   ·exact absurd rfl i
   ·exact absurd rfl m
   ·rfl
   ·exact absurd rfl a
   ·exact absurd rfl j
  rw[if_pos O];exact s _ fun y=>by rw[A,if_neg e,if_neg i,if_neg m]
theorem z2h{p:Int}(c:1<=p/\p<=8):∀(l:List Stp) (v:RVal),(∀x∈l,zbl p x=true)->VOK p (ofV p v)->ofV p (runR l v)=runS l (ofV p v)
 |[],_,_,_=>rfl
 |x::r,v,hok,hv=>by
  have h:=hok x (by simp);show ofV p (runR r (stepR x v))=runS r (if(ofV p v).lost=true then ofV p v else stepS x (ofV p v));have g:(ofV p v).lost=v.lost:=rfl;by_cases a:v.lost=true
  ·have e:ofV p v=loseV:=znz hv a;have i:stepR x v=lostR:=if_pos (.inl a);rw[if_pos (g.trans a),i,z2h c r lostR (fun y f=>hok y (by simp[f])) (.inl rfl),e];rfl
  ·have b:v.lost=false:=by simpa using a
   rw[if_neg (by rw[g];exact a)];have e:=z3b c h hv b;have d:VOK p (ofV p (stepR x v)):=by rw[e];exact zn0 c h hv b
   rw[z2h c r _ (fun y f=>hok y (by simp[f])) d,e]
theorem zyf(p:Int)(l:List Stp)(s:List UInt8):zfg p l s=zea p l s:=by
 unfold zfg zea;by_cases a:za2 p l=true
 ·rw[if_pos a,if_pos a];have h:=z1p p s;cases c:readR p s with
  |none=>
   rw[c]at h;rw[<-h];rfl
  |some v=>
   rw[c]at h;rw[<-h];have b:=zks h.symm;show(zca p (runR l v),(0:Int))=(zbp p (runS l (ofV p v)),0);rw[zxu,z2h b.1 l v (zjf a) b.2]
 ·rw[if_neg a,if_neg a]
