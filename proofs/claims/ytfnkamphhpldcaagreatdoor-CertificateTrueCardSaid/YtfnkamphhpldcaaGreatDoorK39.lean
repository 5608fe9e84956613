import Derived.Test.YtfnkamphhpldcaaGreatDoorK38
import Derived.Test.YtfnkamphhpldcaaGreatDoorK25
import Derived.Test.YtfnkamphhpldcaaGreatDoorK22
set_option maxHeartbeats 64000000
namespace Go.Proofs.YtfnkamphhpldcaaGreatDoor
open Go Sx
set_option maxRecDepth 100000
def ofR(p:Int)(x:RLn):Ln:=if p=1 then(x.1,[])else([],(numsOf x).take (colN p))
def ofV(p:Int)(v:RVal):Val:=⟨v.lost,v.lines.map (ofR p),v.w,v.h,v.bits⟩
theorem z1u(p:Int)(x:RLn):zcm p x=lineW p (ofR p x):=by
 unfold zcm lineW ofR;by_cases h:p=1
 ·subst h;rfl
 ·rw[if_neg h,if_neg h,if_neg h];rfl
theorem zxu(p:Int)(v:RVal):zca p v=zbp p (ofV p v):=by
 unfold zca zbp;show(if v.lost=true then []else _)=(if v.lost=true then []else _);by_cases b:v.lost=true
 ·rw[if_pos b,if_pos b]
 rw[if_neg b,if_neg b];by_cases a:6<=p
 ·rw[if_pos a,if_pos a];show _=((putIR v.w).1++((putIR v.h).1++[]))++_;rw[q5];rfl
 ·rw[if_neg a,if_neg a];show(putIR (v.lines.length:Nat)).1++_=((putIR (((v.lines.map (ofR p)).length:Nat):Int)).1++[])++((v.lines.map (ofR p)).map (lineW p)).flatten;rw[q5,qe,yg]
  congr 2
  exact ju fun x _=>z1u p x
theorem zp0{p:Int}:cols p=colN p:=by
 unfold cols colN;by_cases a:p=2
 ·rw[if_pos a,if_pos a]
 rw[if_neg a,if_neg a];by_cases b:p=3
 ·rw[if_pos b,if_pos (.inl b)]
 by_cases d:p=5
 ·rw[if_neg b,if_neg (by omega),if_pos d,if_pos (.inr d)]
 rw[if_neg b,if_neg (show¬(p=3\/p=5)by omega)];by_cases c:p=4
 ·rw[if_pos c,if_pos c]
 ·rw[if_neg c,if_neg c,if_neg d]
theorem zbg{n b a:Int}:inR n b a=true↔b<=n/\n<=a:=by
 unfold inR;simp
theorem cmp2(a b c d:Int):cmpL [a,b] [c,d] < 0↔a < c\/(a=c/\b < d):=by
 unfold cmpL cmpL cmpL cmpI;by_cases h1:a < c
 ·simp[h1]
 ·by_cases g:c < a
  ·simp[h1,g];omega
  ·have:a=c:=by omega
   subst this;by_cases e:b < d
   ·simp[e]
   ·by_cases f:d < b
    ·simp[e,f]
    ·simp[e,f]
theorem zyb{p:Int}(c:p=3\/p=4\/p=5)(L:List RLn)(x:RLn):zfw L x=true↔∀y,(L.map (ofR p)).getLast? =some y->cmpL (y.2.take 2) ((ofR p x).2.take 2) < 0:=by
 have a:∀z:RLn,(ofR p z).2.take 2=[z.2.1,z.2.2.1]:=fun z=>by
  rcases c with rfl | rfl | rfl<;>rfl
 rw[getLast?_map',a];unfold zfw;cases d:L.getLast? with
 |none=>simp
 |some y=>
  have e:(∀b,(some y).map (ofR p)=some b->cmpL (b.2.take 2) [x.2.1,x.2.2.1] < 0)↔cmpL ((ofR p y).2.take 2) [x.2.1,x.2.2.1] < 0:=by
   simp
  rw[e,a,cmp2];simp;omega
theorem zui{p:Int}(m:1<=p/\p<=5)(L:List RLn)(x:RLn):fitsR p L x=true↔lnOk p (L.map (ofR p)) (ofR p x):=by
 by_cases h1:p=1
 ·subst h1
  have e:x.1.any badC=false↔x.1.all (fun b=>decide (32<=b.toNat)&&decide (b.toNat<=126))=true:=by
   rw[qbd,qq];simp[badC]
  unfold fitsR lnOk;rw[if_pos rfl,if_pos rfl];show _↔([]:List Int)=[]/\x.1.length<=80/\x.1.any badC=false;rw[e,qg,decide_eq_true_eq];exact⟨fun h=>⟨rfl,h.2,h.1⟩,fun h=>⟨h.2.2,h.2.1⟩⟩
 by_cases j:p=2
 ·subst j;unfold fitsR lnOk;rw[if_neg (by decide),if_pos rfl,if_neg (by decide),zbg];show _↔([]:List UInt8)=[]/\[x.2.1].length=1/\(((bnd 2 []).1<=x.2.1/\x.2.1<=(bnd 2 []).2)/\True)/\_;exact⟨fun h=>⟨rfl,rfl,⟨h,tv⟩,fun h=>absurd rfl h⟩,fun h=>h.2.2.1.1⟩
 have k:p=3\/p=4\/p=5:=by omega
 have c:=zyb k L x;unfold fitsR lnOk;rw[if_neg h1,if_neg j,if_neg h1];rcases k with rfl | rfl | rfl
 ·show(if _ then inR x.2.2.2.1 (-1000000) 1000000 else false)=true↔([]:List UInt8)=[]/\[x.2.1,x.2.2.1,x.2.2.2.1].length=3/\(((0:Int)<=x.2.1/\x.2.1<=31)/\((0:Int)<=x.2.2.1/\x.2.2.1<=31)/\((-1000000:Int)<=x.2.2.2.1/\x.2.2.2.1<=1000000)/\True)/\_;constructor
  ·intro h;split at h
   ·rename_i a;exact⟨rfl,rfl,⟨zbg.1 a.1,zbg.1 a.2.1,zbg.1 h,tv⟩,fun _=>c.1 a.2.2⟩
   ·cases h
  ·rintro⟨_,_,⟨d,f,g,_⟩,i⟩;rw[if_pos ⟨zbg.2 d,zbg.2 f,c.2 (i (by decide))⟩];exact zbg.2 g
 ·show(if _ then inR x.2.2.2.1 0 x.2.1&&inR x.2.2.2.2 0 x.2.2.1 else false)=true↔([]:List UInt8)=[]/\[x.2.1,x.2.2.1,x.2.2.2.1,x.2.2.2.2].length=4/\(((0:Int)<=x.2.1/\x.2.1<=31)/\((0:Int)<=x.2.2.1/\x.2.2.1<=31)/\((0:Int)<=x.2.2.2.1/\x.2.2.2.1<=x.2.1)/\((0:Int)<=x.2.2.2.2/\x.2.2.2.2<=x.2.2.1)/\True)/\_;constructor
  ·intro h;split at h
   ·rename_i a;rw[qg,zbg,zbg]at h;exact⟨rfl,rfl,⟨zbg.1 a.1,zbg.1 a.2.1,h.1,h.2,tv⟩,fun _=>c.1 a.2.2⟩
   ·cases h
  ·rintro⟨_,_,⟨d,f,g,l,_⟩,i⟩;rw[if_pos ⟨zbg.2 d,zbg.2 f,c.2 (i (by decide))⟩,qg,zbg,zbg];exact⟨g,l⟩
 ·show(if _ then inR x.2.2.2.1 (-1000000000000) 1000000000000 else false)=true↔([]:List UInt8)=[]/\[x.2.1,x.2.2.1,x.2.2.2.1].length=3/\(((0:Int)<=x.2.1/\x.2.1<=31)/\((0:Int)<=x.2.2.1/\x.2.2.1<=31)/\((-1000000000000:Int)<=x.2.2.2.1/\x.2.2.2.1<=1000000000000)/\True)/\_;constructor
  ·intro h;split at h
   ·rename_i a;exact⟨rfl,rfl,⟨zbg.1 a.1,zbg.1 a.2.1,zbg.1 h,tv⟩,fun _=>c.1 a.2.2⟩
   ·cases h
  ·rintro⟨_,_,⟨d,f,g,_⟩,i⟩;rw[if_pos ⟨zbg.2 d,zbg.2 f,c.2 (i (by decide))⟩];exact zbg.2 g
section
variable {p:Int} {s:List UInt8} {x y:Int} {t:List UInt8} {a:Int} {b:Bool}
theorem z1k(h:b=true):rasR p s x y t a b=none:=if_pos (.inl h)
theorem zvk(h:a≠s.length):rasR p s x y t a b=none:=if_pos (.inr h)
theorem z1j(h1:b=false)(d:a=s.length)(e:p≠8):rasR p s x y t a b=(if t.all bitB=false then none
 else if x=0 then if y=0/\t=[]then some ⟨false,[],x,y,t⟩else none
 else if inR x 1 32=true/\inR y 1 32=true/\(p=6\/(t.length:Int)=x*y)then some ⟨false,[],x,y,t⟩else none):=by
 have c:¬(b=true\/a≠s.length):=by
  rintro(h | h)
  ·rw[h1]at h;cases h
  ·exact h d
 rw[rasR,if_neg c,if_neg e]
end
theorem z4f{t:List UInt8}{k:Nat}(g:k < t.length):(t.take (k+1)).all bitB=((t.take k).all bitB&&bitB t[k]):=by
 rw[qf g,qb8];simp
theorem z9j{t:List UInt8}{k:Nat}(g:k < t.length)(h:bitB t[k]=false):t.all bitB=false:=by
 rw[qc4];exact⟨t[k],qw g,by rw[h];simp⟩
theorem u8_ne{b:UInt8}{n:Nat}(e:n < 256)(h:¬(b.toNat:Int)=n):(b==UInt8.ofNat n)=false:=by
 apply Classical.byContradiction;intro c;have d:b=UInt8.ofNat n:=by simpa using c
 apply h;rw[d];simp;omega
theorem u8_eq{b:UInt8}{n:Nat}(_:n < 256)(h:(b.toNat:Int)=n):b=UInt8.ofNat n:=by
 have c:b.toNat=n:=by omega
 rw[<-c];simp
theorem z1z(F:Fz)(s:List UInt8)(W:s.length<=1000000000000000000)(V:¬s=[]):Fo Tryz.prog F 54 [.va (.int .i64 7),.va (.str s)] (zf1 7 s):=by
 have af:inR 7 1 8=true:=by decide
 have hw:=zce af F;have z0:i64 0:=⟨by omega,by omega⟩
 have n1:=zbi F s 0 false W z0;have i1:=zbv (b:=false) W z0;have Q:∃x a b,rdNum s 0 false=(x,a,b):=⟨_,_,_,rfl⟩
 obtain⟨x,a1,b1,e1⟩:=Q;rw[e1]at n1 i1;have n2:=zbi F s a1 b1 W i1;have i2:=zbv (b:=b1) W i1;have R:∃y a b,rdNum s a1 b1=(y,a,b):=⟨_,_,_,rfl⟩
 obtain⟨y,a2,b2,e2⟩:=R;rw[e2]at n2 i2;have n3:=zrh F s a2 b2 W i2;have l3:=zly s a2 b2;have ah:∃t a b,rdTxt s a2 b2=(t,a,b):=⟨_,_,_,rfl⟩
 obtain⟨t,Z,b3,e3⟩:=ah;rw[e3]at n3 l3;replace l3:t.length<=65536:=l3
 have hR:readR 7 s=rasR 7 s x y t Z b3:=by
  rw[readR,if_neg (by omega),if_neg V,if_pos (by omega),zi3,e1];dsimp only;rw[e2];dsimp only;rw[if_pos rfl,e3];rfl
 clear e1 e2 e3;refine foS Tryz.func54 ?_;refine usePt hw ?_;refine br (fun g=>absurd (by simpa using g) V) (fun _=>?_);refine bre (by decide) ?_;refine useS n1 [(1,2)] ⟨zam _ _ _,tv⟩ ⟨rfl,tv⟩ ?_;rintro K F0 h0 n0 U ⟨rfl,rfl,rfl,rfl⟩;refine useS n2 [(1,2)] ⟨zam _ _ _,tv⟩ ⟨rfl,tv⟩ ?_;rintro K F0 h0 n0 U ⟨rfl,rfl,rfl,rfl⟩;refine bre (by decide) ?_;refine useS n3 [(1,2)] ⟨zam _ _ _,tv⟩ ⟨rfl,tv⟩ ?_;rintro K F0 h0 n0 U ⟨rfl,rfl,rfl,rfl⟩;conv=>whnf
 rcases b3 with _ | _
 ·refine br (fun g=>?_) (fun g=>?_)
  ·have g':Z≠(s.length:Int):=by simpa using g
   have e:=hR.trans (zvk g');exact zbm e rfl (Fz.r F)
  ·have g':Z=(s.length:Int):=by simpa using g
   clear g;have c:=hR.trans (z1j rfl g' (by decide));clear hR n1 n2 n3;refine brd (by decide) ?_;conv=>whnf
   refine zak hΘ (X:={ k:Nat // k<=t.length/\(t.take k).all bitB=true }) (fun k=>[(8,.va (.int .i64 k.1))]) (5::jr 63 20 [])
    (fun _=>[(0,.frz F),(1,rvalE ⟨false,[],0,0,[]⟩ 0 0),(2,rrd s Z false),(3,rvalE ⟨false,[],x,y,t⟩ 0 0)]) 4 (fun k=>t.length - k.1) ⟨0,by simp⟩
    (fun hH hT=>leI [] hH hT rfl ⟨tv,zai (by omega) _,zam _ _ _,zai (by omega) _,tv⟩ ⟨rfl,tv⟩ ⟨Fz.r F,rfl,rfl,rfl,tv⟩) ?_
   rintro⟨k,hk,d⟩ hH hT;replace hk:k<=t.length:=hk;replace d:(t.take k).all bitB=true:=d;by_cases gk:k < t.length
   ·have ag:(k:Int) < (t.length:Int):=by omega
    have f:=z4f gk;rw[d,yq]at f;have ad:∃b,t[k]=b:=⟨_,rfl⟩
    obtain⟨i,q⟩:=ad;have G:t[(k:Int).toNat]? =some i:=by rw[qk,qa gk,q]
    rw[q]at f;have S:bitB i=false->readR 7 s=none:=fun h=>by rw[c,if_pos (z9j gk (by rw[q];exact h))]
    have aa:=i.toNat_lt;have T:k+1<=t.length:=gk;have E:t.length - (k+1) < t.length - k:=by omega
    have J:k < 4611686018427387904:=by omega
    have I:0<=(k:Int):=by omega
    clear c d q;refine bri ag ⟨I,i,G,?_⟩;conv=>whnf
    by_cases m:(i.toNat:Int)=48
    ·have ab:bitB i=true:=by rw[u8_eq (by decide) m];rfl
     rw[ab]at f;refine⟨fun L=>absurd m (by simpa using L),fun _=>?_⟩;exact⟨⟨k+1,T,f⟩,E,leR [] hH hT rfl ⟨tv,zai (by omega) _,zam _ _ _,zai (by omega) _,tv⟩ ⟨cnt J,tv⟩ ⟨Fz.r F,rfl,rfl,rfl,tv⟩⟩
    ·refine⟨fun _=>?_,fun L=>absurd (by simpa using L) m⟩;refine⟨I,i,G,?_⟩;conv=>whnf
     by_cases o:(i.toNat:Int)=49
     ·have ac:bitB i=true:=by rw[u8_eq (by decide) o];rfl
      rw[ac]at f;refine br (fun L=>absurd o (by simpa using L)) (fun _=>?_);exact⟨⟨k+1,T,f⟩,E,leR [] hH hT rfl ⟨tv,zai (by omega) _,zam _ _ _,zai (by omega) _,tv⟩ ⟨cnt J,tv⟩ ⟨Fz.r F,rfl,rfl,rfl,tv⟩⟩
     ·have e:=S (by
       unfold bitB;rw[show(i==48)=false from u8_ne (n:=48) (by decide) m,show(i==49)=false from u8_ne (n:=49) (by decide) o];rfl)
      refine br (fun _=>?_) (fun L=>absurd (by simpa using L) o);exact zbm e rfl (Fz.r F)
   ·have ae:¬(k:Int) < (t.length:Int):=by omega
    have j:t.all bitB=true:=by
     have h2:k=t.length:=by omega
     rw[h2,qh (qi _)]at d;exact d
    rw[if_neg (by rw[j];simp)]at c;clear d j;refine brj ae ?_;by_cases B:x=0
    ·rw[if_pos B]at c;refine bri B ?_;refine dwS (lk [0,1,2,3,4,5,6,7,8] (.alt 9 (.look 10 .done) .nil)) [3] ?_;refine⟨rfl,rfl,?_⟩;conv=>whnf
     by_cases D:y=0
     ·refine⟨fun _=>?_,fun g=>absurd D (oe g)⟩;refine⟨rfl,Fz.r F,rfl,?_⟩;by_cases M:t=[]
      ·subst M;rw[if_pos ⟨D,rfl⟩]at c
       conv=>whnf
       first | exact zb2 (l:=false) (w:=x) (hh:=y) (bits:=[]) (.inl ⟨rfl,c⟩) rfl (Fz.r F) | exact zcz (l:=false) (w:=x) (hh:=y) (bits:=[]) (.inl ⟨rfl,c⟩) rfl (Fz.r F)
      ·rw[if_neg (fun h=>M h.2)]at c;have Y:((t==[])=true/\readR 7 s=some ⟨false,[],x,y,t⟩)\/((t==[])=false/\readR 7 s=none):=.inr ⟨by simpa using M,c⟩
       conv=>whnf
       first | exact zb2 (l:=false) (w:=x) (hh:=y) (bits:=t) Y rfl (Fz.r F) | exact zcz (l:=false) (w:=x) (hh:=y) (bits:=t) Y rfl (Fz.r F)
     ·refine⟨fun g=>absurd (od g) D,fun _=>?_⟩;rw[if_neg (fun h=>D h.1)]at c;refine⟨Fz.r F,rfl,?_⟩;conv=>whnf
      first | exact zb2 (l:=false) (w:=x) (hh:=y) (bits:=t) (.inr ⟨rfl,c⟩) rfl (Fz.r F) | exact zcz (l:=false) (w:=x) (hh:=y) (bits:=t) (.inr ⟨rfl,c⟩) rfl (Fz.r F)
    ·rw[if_neg B]at c;have Q:=zjq x 1 32;obtain⟨c1,u⟩:=Q;have R:=zjq y 1 32;obtain⟨c2,A⟩:=R;have w1:=zce u F;have w2:=zce A F;refine brj B ?_;refine dwS (lk [0,1,2] (.alt 3 (lk [4,5,6] (.alt 7 (lk [8,9,10,11,12,13,14,15,16,17,18,19,20,21,22,23] (.alt 24 (.look 25 .done) .nil)) .nil)) .nil)) [3] ?_;refine⟨rfl,rfl,?_⟩;refine usePt w1 ?_;refine⟨Fz.r F,rfl,?_⟩;rcases c1 with _ | _
     ·rw[if_neg (fun h=>by rw[u]at h;cases h.1)]at c;refine⟨Fz.r F,rfl,?_⟩;conv=>whnf
      first | exact zb2 (l:=false) (w:=x) (hh:=y) (bits:=t) (.inr ⟨rfl,c⟩) rfl (Fz.r F) | exact zcz (l:=false) (w:=x) (hh:=y) (bits:=t) (.inr ⟨rfl,c⟩) rfl (Fz.r F)
     ·refine⟨rfl,?_⟩;refine usePt w2 ?_;refine⟨Fz.r F,rfl,?_⟩;rcases c2 with _ | _
      ·rw[if_neg (fun h=>by rw[A]at h;cases h.2.1)]at c;refine⟨Fz.r F,rfl,?_⟩;conv=>whnf
       first | exact zb2 (l:=false) (w:=x) (hh:=y) (bits:=t) (.inr ⟨rfl,c⟩) rfl (Fz.r F) | exact zcz (l:=false) (w:=x) (hh:=y) (bits:=t) (.inr ⟨rfl,c⟩) rfl (Fz.r F)
      ·have r1:=zbg.1 u;have r2:=zbg.1 A
       have O:IntKind.i64.wrap (x*y)=x*y:=by
        have h1:0<=x*y:=qcd (by omega) (by omega);have h2:x*y<=32*32:=qbh r1.2 r2.2 (by omega) (by omega);exact zah (by omega) (by omega)
       have Y:(decide ((t.length:Int)=IntKind.i64.wrap (x*y))=true/\readR 7 s=some ⟨false,[],x,y,t⟩)\/(decide ((t.length:Int)=IntKind.i64.wrap (x*y))=false/\readR 7 s=none):=by
        by_cases hl:(t.length:Int)=x*y
        ·rw[if_pos ⟨u,A,.inr hl⟩]at c;rw[O];exact .inl ⟨decide_eq_true hl,c⟩
        ·rw[if_neg (fun h=>hl (h.2.2.resolve_left (by decide)))]at c;rw[O];exact .inr ⟨decide_eq_false hl,c⟩
       clear O c r1 r2 w1 w2;refine gae (by decide) ⟨rfl,rfl,rfl,Fz.r F,rfl,?_⟩;conv=>whnf
       first | exact zb2 (l:=false) (w:=x) (hh:=y) (bits:=t) Y rfl (Fz.r F) | exact zcz (l:=false) (w:=x) (hh:=y) (bits:=t) Y rfl (Fz.r F)
 ·have e:=hR.trans (z1k rfl);exact zbm e rfl (Fz.r F)
theorem z1y(F:Fz)(s:List UInt8)(u:s.length<=1000000000000000000)(n:¬s=[]):Fo Tryz.prog F 54 [.va (.int .i64 6),.va (.str s)] (zf1 6 s):=by
 have I:inR 6 1 8=true:=by decide
 have W:=zce I F;have R:i64 0:=⟨by omega,by omega⟩
 have L:=zbi F s 0 false u R;have K:=zbv (b:=false) u R;have k:∃x a b,rdNum s 0 false=(x,a,b):=⟨_,_,_,rfl⟩
 obtain⟨x,O,B,D⟩:=k;rw[D]at L K;have M:=zbi F s O B u K;have X:=zbv (b:=B) u K;have m:∃y a b,rdNum s O B=(y,a,b):=⟨_,_,_,rfl⟩
 obtain⟨y,A,Q,E⟩:=m;rw[E]at M X
 have q:readR 6 s=rasR 6 s x y [] A Q:=by
  rw[readR,if_neg (by omega),if_neg n,if_pos (by omega),zi3,D];dsimp only;rw[E];rfl
 clear D E;refine foS Tryz.func54 ?_;refine usePt W ?_;refine br (fun g=>absurd (by simpa using g) n) (fun _=>?_);refine bre (by decide) ?_;refine useS L [(1,2)] ⟨zam _ _ _,tv⟩ ⟨rfl,tv⟩ ?_;rintro o S V n0 J ⟨rfl,rfl,rfl,rfl⟩;refine useS M [(1,2)] ⟨zam _ _ _,tv⟩ ⟨rfl,tv⟩ ?_;rintro o S V n0 J ⟨rfl,rfl,rfl,rfl⟩;refine brd (by decide) ?_;conv=>whnf
 rcases Q with _ | _
 ·refine br (fun g=>?_) (fun g=>?_)
  ·have G:A≠(s.length:Int):=by simpa using g
   have e:=q.trans (zvk G);exact zbm e rfl (Fz.r F)
  ·have G:A=(s.length:Int):=by simpa using g
   clear g;have c:=q.trans (z1j rfl G (by decide));rw[if_neg (by decide)]at c;clear q L M;refine brd (by decide) ?_;conv=>whnf
   refine zbx hΘ 0 ?_;refine brd (by decide) ?_;conv=>whnf
   by_cases d:x=0
   ·rw[if_pos d]at c;refine bri d ?_;refine dwS (lk [0,1,2,3,4,5,6,7,8] (.alt 9 (.look 10 .done) .nil)) [3] ?_;refine⟨rfl,rfl,?_⟩;conv=>whnf
    by_cases f:y=0
    ·refine⟨fun _=>?_,fun g=>absurd f (oe g)⟩;rw[if_pos ⟨f,rfl⟩]at c;refine⟨rfl,Fz.r F,rfl,?_⟩;conv=>whnf
     first | exact zb2 (l:=false) (w:=x) (hh:=y) (bits:=[]) (.inl ⟨rfl,c⟩) rfl (Fz.r F) | exact zcz (l:=false) (w:=x) (hh:=y) (bits:=[]) (.inl ⟨rfl,c⟩) rfl (Fz.r F)
    ·refine⟨fun g=>absurd (od g) f,fun _=>?_⟩;rw[if_neg (fun h=>f h.1)]at c;refine⟨Fz.r F,rfl,?_⟩;conv=>whnf
     first | exact zb2 (l:=false) (w:=x) (hh:=y) (bits:=[]) (.inr ⟨rfl,c⟩) rfl (Fz.r F) | exact zcz (l:=false) (w:=x) (hh:=y) (bits:=[]) (.inr ⟨rfl,c⟩) rfl (Fz.r F)
   ·rw[if_neg d]at c;have k:=zjq x 1 32;obtain⟨T,i⟩:=k;have m:=zjq y 1 32;obtain⟨U,j⟩:=m;have Y:=zce i F;have Z:=zce j F;refine brj d ?_;refine dwS (lk [0,1,2] (.alt 3 (lk [4,5,6] (.alt 7 (lk [8,9,10,11,12,13,14,15,16,17,18,19,20,21,22,23] (.alt 24 (.look 25 .done) .nil)) .nil)) .nil)) [3] ?_;refine⟨rfl,rfl,?_⟩;refine usePt Y ?_;refine⟨Fz.r F,rfl,?_⟩;rcases T with _ | _
    ·rw[if_neg (fun h=>by rw[i]at h;cases h.1)]at c;refine⟨Fz.r F,rfl,?_⟩;conv=>whnf
     first | exact zb2 (l:=false) (w:=x) (hh:=y) (bits:=[]) (.inr ⟨rfl,c⟩) rfl (Fz.r F) | exact zcz (l:=false) (w:=x) (hh:=y) (bits:=[]) (.inr ⟨rfl,c⟩) rfl (Fz.r F)
    ·refine⟨rfl,?_⟩;refine usePt Z ?_;refine⟨Fz.r F,rfl,?_⟩;rcases U with _ | _
     ·rw[if_neg (fun h=>by rw[j]at h;cases h.2.1)]at c;refine⟨Fz.r F,rfl,?_⟩;conv=>whnf
      first | exact zb2 (l:=false) (w:=x) (hh:=y) (bits:=[]) (.inr ⟨rfl,c⟩) rfl (Fz.r F) | exact zcz (l:=false) (w:=x) (hh:=y) (bits:=[]) (.inr ⟨rfl,c⟩) rfl (Fz.r F)
     ·rw[if_pos ⟨i,j,.inl rfl⟩]at c;refine gaf (by decide) ⟨Fz.r F,rfl,?_⟩;conv=>whnf
      first | exact zb2 (l:=false) (w:=x) (hh:=y) (bits:=[]) (.inl ⟨rfl,c⟩) rfl (Fz.r F) | exact zcz (l:=false) (w:=x) (hh:=y) (bits:=[]) (.inl ⟨rfl,c⟩) rfl (Fz.r F)
 ·have e:=q.trans (z1k rfl);exact zbm e rfl (Fz.r F)
end Go.Proofs.YtfnkamphhpldcaaGreatDoor
namespace Go.Proofs.YtfnkamphhpldcaaGreatDoor
open Go Sx
theorem zla{α:Type}{e:α->List SA}(b:Plain e){τ μ:Mu}{t sz c:Nat}{l:List α}{x:α}{a:List (List SA)}(h:a=(l.map e).map (List.map (SA.ren τ))++[e x]):subE (some (.one (.arr t sz a c))) ((gE t sz e c (l++[x])).ren μ):=by
 refine zaj b (za3 a ?_);rw[h,yg,qs]
 congr 1
 exact ju fun y _=>(b y).1 τ
