import Derived.Test.YtfnkamphhpldcaaGreatDoorK42
import Derived.Test.YtfnkamphhpldcaaGreatDoorK22
set_option maxHeartbeats 64000000
namespace Go.Proofs.YtfnkamphhpldcaaGreatDoor
open Go Sx Tryz
set_option maxRecDepth 100000
section
variable {p:Int} {s:List UInt8} {x y:Int} {t:List UInt8} {a:Int} {b:Bool}
theorem rZ(h:b=true):rasR p s x y t a b=none:=if_pos (.inl h)
theorem xV(h:a≠s.length):rasR p s x y t a b=none:=if_pos (.inr h)
theorem rY(h1:b=false)(d:a=s.length)(e:p≠8):rasR p s x y t a b=(if t.all bitB=false then none
 else if x=0 then if y=0/\t=[]then some ⟨false,[],x,y,t⟩else none
 else if inR x 1 32=true/\inR y 1 32=true/\(p=6\/(t.length:Int)=x*y)then some ⟨false,[],x,y,t⟩else none):=by
 have c:¬(b=true\/a≠s.length):=by
  rintro(h | h)
  ·rw[h1]at h;cases h
  ·exact h d
 rw[rasR,if_neg c,if_neg e]
end
theorem Bp{t:List UInt8}{k:Nat}(g:k < t.length):(t.take (k+1)).all bitB=((t.take k).all bitB&&bitB t[k]):=by
 rw[qe g,qcx];simp
theorem ycm{t:List UInt8}{k:Nat}(g:k < t.length)(h:bitB t[k]=false):t.all bitB=false:=by
 rw[qc8];exact⟨t[k],qt g,by rw[h];simp⟩
theorem u8_ne{b:UInt8}{n:Nat}(e:n < 256)(h:¬(b.toNat:Int)=n):(b==UInt8.ofNat n)=false:=by
 apply Classical.byContradiction;intro c;have d:b=UInt8.ofNat n:=by simpa using c
 apply h;rw[d];simp;omega
theorem u8_eq{b:UInt8}{n:Nat}(_:n < 256)(h:(b.toNat:Int)=n):b=UInt8.ofNat n:=by
 have c:b.toNat=n:=by omega
 rw[<-c];simp
theorem AL(F:Fz)(s:List UInt8)(W:s.length<=1000000000000000000)(V:¬s=[]):Fo prog F 54 [.va (.int .i64 7),.va (.str s)] (fC 7 s):=by
 have af:inR 7 1 8=true:=by decide
 have hw:=dD af F;have z0:i64 0:=⟨by omega,by omega⟩
 have n1:=dF F s 0 false W z0;have i1:=dG (b:=false) W z0;have Q:∃x a b,rdNum s 0 false=(x,a,b):=⟨_,_,_,rfl⟩
 obtain⟨x,a1,b1,e1⟩:=Q;rw[e1]at n1 i1;have n2:=dF F s a1 b1 W i1;have i2:=dG (b:=b1) W i1;have R:∃y a b,rdNum s a1 b1=(y,a,b):=⟨_,_,_,rfl⟩
 obtain⟨y,a2,b2,e2⟩:=R;rw[e2]at n2 i2;have n3:=wo F s a2 b2 W i2;have l3:=tP s a2 b2;have ah:∃t a b,rdTxt s a2 b2=(t,a,b):=⟨_,_,_,rfl⟩
 obtain⟨t,Z,b3,e3⟩:=ah;rw[e3]at n3 l3;replace l3:t.length<=65536:=l3
 have hR:readR 7 s=rasR 7 s x y t Z b3:=by
  rw[readR,if_neg oo,if_neg V,if_pos oo,fS,e1];dsimp only;rw[e2];dsimp only;rw[if_pos rfl,e3];rfl
 clear e1 e2 e3;refine foS func54 ?_;refine usePt hw ?_;refine br (fun g=>absurd (by simpa using g) V) (fun _=>?_);refine bre dd ?_;refine useS n1 [(1,2)] ⟨cp _ _ _,tv⟩ ⟨rfl,tv⟩ ?_;rintro K F0 h0 n0 U ⟨rfl,rfl,rfl,rfl⟩;refine useS n2 [(1,2)] ⟨cp _ _ _,tv⟩ ⟨rfl,tv⟩ ?_;rintro K F0 h0 n0 U ⟨rfl,rfl,rfl,rfl⟩;refine bre dd ?_;refine useS n3 [(1,2)] ⟨cp _ _ _,tv⟩ ⟨rfl,tv⟩ ?_;rintro K F0 h0 n0 U ⟨rfl,rfl,rfl,rfl⟩;conv=>whnf
 rcases b3 with _ | _
 ·refine br (fun g=>?_) (fun g=>?_)
  ·have g':Z≠(s.length:Int):=by simpa using g
   have e:=hR.trans (xV g');exact eU e rfl (Fz.r F)
  ·have g':Z=(s.length:Int):=by simpa using g
   clear g;have c:=hR.trans (rY rfl g' dd);clear hR n1 n2 n3;refine brd dd ?_;conv=>whnf
   refine aI hΘ (X:={ k:Nat // k<=t.length/\(t.take k).all bitB=true }) (fun k=>[(8,.va (.int .i64 k.1))]) (5::jr 63 20 [])
    (fun _=>[(0,.frz F),(1,rvalE ⟨false,[],0,0,[]⟩ 0 0),(2,rrd s Z false),(3,rvalE ⟨false,[],x,y,t⟩ 0 0)]) 4 (fun k=>t.length - k.1) ⟨0,by simp⟩
    (fun hH hT=>leI [] hH hT rfl ⟨tv,cK oo _,cp _ _ _,cK oo _,tv⟩ ⟨rfl,tv⟩ ⟨Fz.r F,rfl,rfl,rfl,tv⟩) ?_
   rintro⟨k,hk,d⟩ hH hT;replace hk:k<=t.length:=hk;replace d:(t.take k).all bitB=true:=d;by_cases gk:k < t.length
   ·have ag:(k:Int) < (t.length:Int):=by omega
    have f:=Bp gk;rw[d,yz]at f;have ad:∃b,t[k]=b:=⟨_,rfl⟩
    obtain⟨i,q⟩:=ad;have G:t[(k:Int).toNat]? =some i:=by rw[qg,qc gk,q]
    rw[q]at f;have S:bitB i=false->readR 7 s=none:=fun h=>by rw[c,if_pos (ycm gk (by rw[q];exact h))]
    have aa:=i.toNat_lt;have T:k+1<=t.length:=gk;have E:t.length - (k+1) < t.length - k:=by omega
    have J:k < 4611686018427387904:=by omega
    have I:0<=(k:Int):=by omega
    clear c d q;refine bri ag ⟨I,i,G,?_⟩;conv=>whnf
    by_cases m:(i.toNat:Int)=48
    ·have ab:bitB i=true:=by rw[u8_eq dd m];rfl
     rw[ab]at f;refine⟨fun L=>absurd m (by simpa using L),fun _=>?_⟩;exact⟨⟨k+1,T,f⟩,E,leR [] hH hT rfl ⟨tv,cK oo _,cp _ _ _,cK oo _,tv⟩ ⟨cnt J,tv⟩ ⟨Fz.r F,rfl,rfl,rfl,tv⟩⟩
    ·refine⟨fun _=>?_,fun L=>absurd (by simpa using L) m⟩;refine⟨I,i,G,?_⟩;conv=>whnf
     by_cases o:(i.toNat:Int)=49
     ·have ac:bitB i=true:=by rw[u8_eq dd o];rfl
      rw[ac]at f;refine br (fun L=>absurd o (by simpa using L)) (fun _=>?_);exact⟨⟨k+1,T,f⟩,E,leR [] hH hT rfl ⟨tv,cK oo _,cp _ _ _,cK oo _,tv⟩ ⟨cnt J,tv⟩ ⟨Fz.r F,rfl,rfl,rfl,tv⟩⟩
     ·have e:=S (by
       unfold bitB;rw[show(i==48)=false from u8_ne (n:=48) dd m,show(i==49)=false from u8_ne (n:=49) dd o];rfl)
      refine br (fun _=>?_) (fun L=>absurd (by simpa using L) o);exact eU e rfl (Fz.r F)
   ·have ae:¬(k:Int) < (t.length:Int):=by omega
    have j:t.all bitB=true:=by
     have h2:k=t.length:=by omega
     rw[h2,qk (qj _)]at d;exact d
    rw[if_neg (by rw[j];simp)]at c;clear d j;refine brj ae ?_;by_cases B:x=0
    ·rw[if_pos B]at c;refine bri B ?_;refine dwS (lk [0,1,2,3,4,5,6,7,8] (.alt 9 (.look 10 .done) .nil)) [3] ?_;refine⟨rfl,rfl,?_⟩;conv=>whnf
     by_cases D:y=0
     ·refine⟨fun _=>?_,fun g=>absurd D (oe g)⟩;refine⟨rfl,Fz.r F,rfl,?_⟩;by_cases M:t=[]
      ·subst M;rw[if_pos ⟨D,rfl⟩]at c
       conv=>whnf
       first | exact dP (l:=false) (w:=x) (hh:=y) (bits:=[]) (.inl ⟨rfl,c⟩) rfl (Fz.r F) | exact ey (l:=false) (w:=x) (hh:=y) (bits:=[]) (.inl ⟨rfl,c⟩) rfl (Fz.r F)
      ·rw[if_neg (fun h=>M h.2)]at c;have Y:((t==[])=true/\readR 7 s=some ⟨false,[],x,y,t⟩)\/((t==[])=false/\readR 7 s=none):=.inr ⟨by simpa using M,c⟩
       conv=>whnf
       first | exact dP (l:=false) (w:=x) (hh:=y) (bits:=t) Y rfl (Fz.r F) | exact ey (l:=false) (w:=x) (hh:=y) (bits:=t) Y rfl (Fz.r F)
     ·refine⟨fun g=>absurd (od g) D,fun _=>?_⟩;rw[if_neg (fun h=>D h.1)]at c;refine⟨Fz.r F,rfl,?_⟩;conv=>whnf
      first | exact dP (l:=false) (w:=x) (hh:=y) (bits:=t) (.inr ⟨rfl,c⟩) rfl (Fz.r F) | exact ey (l:=false) (w:=x) (hh:=y) (bits:=t) (.inr ⟨rfl,c⟩) rfl (Fz.r F)
    ·rw[if_neg B]at c;have Q:=iQ x 1 32;obtain⟨c1,u⟩:=Q;have R:=iQ y 1 32;obtain⟨c2,A⟩:=R;have w1:=dD u F;have w2:=dD A F;refine brj B ?_;refine dwS (lk [0,1,2] (.alt 3 (lk [4,5,6] (.alt 7 (lk [8,9,10,11,12,13,14,15,16,17,18,19,20,21,22,23] (.alt 24 (.look 25 .done) .nil)) .nil)) .nil)) [3] ?_;refine⟨rfl,rfl,?_⟩;refine usePt w1 ?_;refine⟨Fz.r F,rfl,?_⟩;rcases c1 with _ | _
     ·rw[if_neg (fun h=>by rw[u]at h;cases h.1)]at c;refine⟨Fz.r F,rfl,?_⟩;conv=>whnf
      first | exact dP (l:=false) (w:=x) (hh:=y) (bits:=t) (.inr ⟨rfl,c⟩) rfl (Fz.r F) | exact ey (l:=false) (w:=x) (hh:=y) (bits:=t) (.inr ⟨rfl,c⟩) rfl (Fz.r F)
     ·refine⟨rfl,?_⟩;refine usePt w2 ?_;refine⟨Fz.r F,rfl,?_⟩;rcases c2 with _ | _
      ·rw[if_neg (fun h=>by rw[A]at h;cases h.2.1)]at c;refine⟨Fz.r F,rfl,?_⟩;conv=>whnf
       first | exact dP (l:=false) (w:=x) (hh:=y) (bits:=t) (.inr ⟨rfl,c⟩) rfl (Fz.r F) | exact ey (l:=false) (w:=x) (hh:=y) (bits:=t) (.inr ⟨rfl,c⟩) rfl (Fz.r F)
      ·have r1:=bS.1 u;have r2:=bS.1 A
       have O:IntKind.i64.wrap (x*y)=x*y:=by
        have h1:0<=x*y:=qcg oo oo;have h2:x*y<=32*32:=qbb r1.2 r2.2 oo oo;exact aF oo oo
       have Y:(decide ((t.length:Int)=IntKind.i64.wrap (x*y))=true/\readR 7 s=some ⟨false,[],x,y,t⟩)\/(decide ((t.length:Int)=IntKind.i64.wrap (x*y))=false/\readR 7 s=none):=by
        by_cases hl:(t.length:Int)=x*y
        ·rw[if_pos ⟨u,A,.inr hl⟩]at c;rw[O];exact .inl ⟨decide_eq_true hl,c⟩
        ·rw[if_neg (fun h=>hl (h.2.2.resolve_left dd))]at c;rw[O];exact .inr ⟨decide_eq_false hl,c⟩
       clear O c r1 r2 w1 w2;refine gae dd ⟨rfl,rfl,rfl,Fz.r F,rfl,?_⟩;conv=>whnf
       first | exact dP (l:=false) (w:=x) (hh:=y) (bits:=t) Y rfl (Fz.r F) | exact ey (l:=false) (w:=x) (hh:=y) (bits:=t) Y rfl (Fz.r F)
 ·have e:=hR.trans (rZ rfl);exact eU e rfl (Fz.r F)
theorem AK(F:Fz)(s:List UInt8)(u:s.length<=1000000000000000000)(n:¬s=[]):Fo prog F 54 [.va (.int .i64 6),.va (.str s)] (fC 6 s):=by
 have I:inR 6 1 8=true:=by decide
 have W:=dD I F;have R:i64 0:=⟨by omega,by omega⟩
 have L:=dF F s 0 false u R;have K:=dG (b:=false) u R;have k:∃x a b,rdNum s 0 false=(x,a,b):=⟨_,_,_,rfl⟩
 obtain⟨x,O,B,D⟩:=k;rw[D]at L K;have M:=dF F s O B u K;have X:=dG (b:=B) u K;have m:∃y a b,rdNum s O B=(y,a,b):=⟨_,_,_,rfl⟩
 obtain⟨y,A,Q,E⟩:=m;rw[E]at M X
 have q:readR 6 s=rasR 6 s x y [] A Q:=by
  rw[readR,if_neg oo,if_neg n,if_pos oo,fS,D];dsimp only;rw[E];rfl
 clear D E;refine foS func54 ?_;refine usePt W ?_;refine br (fun g=>absurd (by simpa using g) n) (fun _=>?_);refine bre dd ?_;refine useS L [(1,2)] ⟨cp _ _ _,tv⟩ ⟨rfl,tv⟩ ?_;rintro o S V n0 J ⟨rfl,rfl,rfl,rfl⟩;refine useS M [(1,2)] ⟨cp _ _ _,tv⟩ ⟨rfl,tv⟩ ?_;rintro o S V n0 J ⟨rfl,rfl,rfl,rfl⟩;refine brd dd ?_;conv=>whnf
 rcases Q with _ | _
 ·refine br (fun g=>?_) (fun g=>?_)
  ·have G:A≠(s.length:Int):=by simpa using g
   have e:=q.trans (xV G);exact eU e rfl (Fz.r F)
  ·have G:A=(s.length:Int):=by simpa using g
   clear g;have c:=q.trans (rY rfl G dd);rw[if_neg dd]at c;clear q L M;refine brd dd ?_;conv=>whnf
   refine cR hΘ 0 ?_;refine brd dd ?_;conv=>whnf
   by_cases d:x=0
   ·rw[if_pos d]at c;refine bri d ?_;refine dwS (lk [0,1,2,3,4,5,6,7,8] (.alt 9 (.look 10 .done) .nil)) [3] ?_;refine⟨rfl,rfl,?_⟩;conv=>whnf
    by_cases f:y=0
    ·refine⟨fun _=>?_,fun g=>absurd f (oe g)⟩;rw[if_pos ⟨f,rfl⟩]at c;refine⟨rfl,Fz.r F,rfl,?_⟩;conv=>whnf
     first | exact dP (l:=false) (w:=x) (hh:=y) (bits:=[]) (.inl ⟨rfl,c⟩) rfl (Fz.r F) | exact ey (l:=false) (w:=x) (hh:=y) (bits:=[]) (.inl ⟨rfl,c⟩) rfl (Fz.r F)
    ·refine⟨fun g=>absurd (od g) f,fun _=>?_⟩;rw[if_neg (fun h=>f h.1)]at c;refine⟨Fz.r F,rfl,?_⟩;conv=>whnf
     first | exact dP (l:=false) (w:=x) (hh:=y) (bits:=[]) (.inr ⟨rfl,c⟩) rfl (Fz.r F) | exact ey (l:=false) (w:=x) (hh:=y) (bits:=[]) (.inr ⟨rfl,c⟩) rfl (Fz.r F)
   ·rw[if_neg d]at c;have k:=iQ x 1 32;obtain⟨T,i⟩:=k;have m:=iQ y 1 32;obtain⟨U,j⟩:=m;have Y:=dD i F;have Z:=dD j F;refine brj d ?_;refine dwS (lk [0,1,2] (.alt 3 (lk [4,5,6] (.alt 7 (lk [8,9,10,11,12,13,14,15,16,17,18,19,20,21,22,23] (.alt 24 (.look 25 .done) .nil)) .nil)) .nil)) [3] ?_;refine⟨rfl,rfl,?_⟩;refine usePt Y ?_;refine⟨Fz.r F,rfl,?_⟩;rcases T with _ | _
    ·rw[if_neg (fun h=>by rw[i]at h;cases h.1)]at c;refine⟨Fz.r F,rfl,?_⟩;conv=>whnf
     first | exact dP (l:=false) (w:=x) (hh:=y) (bits:=[]) (.inr ⟨rfl,c⟩) rfl (Fz.r F) | exact ey (l:=false) (w:=x) (hh:=y) (bits:=[]) (.inr ⟨rfl,c⟩) rfl (Fz.r F)
    ·refine⟨rfl,?_⟩;refine usePt Z ?_;refine⟨Fz.r F,rfl,?_⟩;rcases U with _ | _
     ·rw[if_neg (fun h=>by rw[j]at h;cases h.2.1)]at c;refine⟨Fz.r F,rfl,?_⟩;conv=>whnf
      first | exact dP (l:=false) (w:=x) (hh:=y) (bits:=[]) (.inr ⟨rfl,c⟩) rfl (Fz.r F) | exact ey (l:=false) (w:=x) (hh:=y) (bits:=[]) (.inr ⟨rfl,c⟩) rfl (Fz.r F)
     ·rw[if_pos ⟨i,j,.inl rfl⟩]at c;refine gaf dd ⟨Fz.r F,rfl,?_⟩;conv=>whnf
      first | exact dP (l:=false) (w:=x) (hh:=y) (bits:=[]) (.inl ⟨rfl,c⟩) rfl (Fz.r F) | exact ey (l:=false) (w:=x) (hh:=y) (bits:=[]) (.inl ⟨rfl,c⟩) rfl (Fz.r F)
 ·have e:=q.trans (rZ rfl);exact eU e rfl (Fz.r F)
end Go.Proofs.YtfnkamphhpldcaaGreatDoor
namespace Go.Proofs.YtfnkamphhpldcaaGreatDoor
open Go Sx Tryz
theorem ydc{α:Type}{e:α->List SA}(b:Plain e){τ μ:Mu}{t sz c:Nat}{l:List α}{x:α}{a:List (List SA)}(h:a=(l.map e).map (List.map (SA.ren τ))++[e x]):subE (some (.one (.arr t sz a c))) ((gE t sz e c (l++[x])).ren μ):=by
 refine aH b (bC a ?_);rw[h,q8,qq]
 congr 1
 exact qy fun y _=>(b y).1 τ
end Go.Proofs.YtfnkamphhpldcaaGreatDoor
namespace Go.Proofs.YtfnkamphhpldcaaGreatDoor
open Go Sx Tryz
set_option maxRecDepth 100000
theorem uL{μ:Mu}{i j c n:Nat}{L:List RLn}{x:RLn}{w h:Int}{bits:List UInt8}(a:μ i 0=(j,0))(b:n=L.length+1):SB.cells 110 [.lit false,.slice false j 0 0 5 n c,.int .i64 w,.int .i64 h,.str bits]=SB.ren μ (.cells 110 [.lit false,gA 5 i c (L++[x]),.int .i64 w,.int .i64 h,.str bits]):=by
 subst b;cases L with
 |nil=>simp only[gA,qw,SB.ren,q9,yu,SA.ren,a,qv]
 |cons y r=>simp only[gA,jz,SB.ren,q9,yu,SA.ren,a,qb,qf,qv]
theorem kx{p q e a0:Int}{s:List UInt8}{T:RLn}{c:Bool}{L:List RLn}{n m:Nat}(d:rdL p s q=(T,e,c))(a:dx p s n [] a0=dx p s (m+1) L q)
  (b:readR p s=match dx p s (m+1) L q with
   |none=>none
   |some (l,q)=>if q=s.length then some ⟨false,l,0,0,[]⟩else none):
  (c=true->readR p s=none)/\(fitsR p L T=false->readR p s=none)/\(c=false->fitsR p L T=true->dx p s n [] a0=dx p s m (L++[T]) e)/\(L++[T]).length=L.length+1:=by
 rw[dx,d]at b a;dsimp only at b a;refine⟨fun h=>by rw[b,if_pos (.inl h)],fun h=>by rw[b,if_pos (.inr h)],fun h1 f=>?_,by rw[qb];rfl⟩;rw[a,if_neg (by rintro(h | h);rw[h1]at h;cases h;rw[f]at h;cases h)]
theorem kg(F:Fz)(p:Int)(a6:p=1\/p=2\/p=3\/p=4\/p=5)(s:List UInt8)(E:s.length<=1000000000000000000)(au:¬s=[]):Fo prog F 54 [.va (.int .i64 p),.va (.str s)] (fC p s):=by
 have hp:1<=p/\p<=8:=by omega
 have aw:¬6<=p:=by omega
 have a3:inR p 1 8=true:=bS.2 hp;have hw:=dD a3 F;have z0:i64 0:=⟨by omega,by omega⟩
 have m1:=dF F s 0 false E z0;have i1:=dG (b:=false) E z0;have a7:∃x a b,rdNum s 0 false=(x,a,b):=⟨_,_,_,rfl⟩
 obtain⟨n,a0,b0,e1⟩:=a7;rw[e1]at m1 i1;replace i1:i64 a0:=i1;have d:=xX p F;have ap:∃c,inR n 0 64=c:=⟨_,rfl⟩
 obtain⟨c0,af⟩:=ap;have w1:=dD af F
 have hR:readR p s=if b0=true\/c0=false then none else match dx p s n.toNat [] a0 with
   |none=>none
   |some (l,q)=>if q=s.length then some ⟨false,l,0,0,[]⟩else none:=by
  rw[readR,if_neg oo,if_neg au,if_neg aw,e1];dsimp only;rw[af];rfl
 have aj:b0=true->readR p s=none:=fun h=>by rw[hR,if_pos (.inl h)]
 have aa:c0=false->readR p s=none:=fun h=>by rw[hR,if_pos (.inr h)]
 have ac:b0=false->c0=true->readR p s=match dx p s n.toNat [] a0 with
   |none=>none
   |some (l,q)=>if q=s.length then some ⟨false,l,0,0,[]⟩else none:=fun h1 h2=>by
  rw[hR,if_neg (by rintro(h | h);rw[h1]at h;cases h;rw[h2]at h;cases h)]
 have ak:c0=true->0<=n/\n<=64:=fun h=>bS.1 (af.trans h)
 clear hR e1 af;refine foS func54 ?_;refine usePt hw ?_;refine br (fun g=>absurd (by simpa using g) au) (fun _=>?_);refine brj aw ?_;refine useS m1 [(1,2)] ⟨cp _ _ _,tv⟩ ⟨rfl,tv⟩ ?_;rintro i F1 W n0 j ⟨rfl,rfl,rfl,rfl⟩;conv=>whnf
 rcases b0 with _ | _
 case true=>
  have e:=aj rfl;exact eU e rfl (Fz.r F)
 refine usePt w1 ?_;rcases c0 with _ | _
 ·have e:=aa rfl;exact eU e rfl (Fz.r F)
 have ar:=ak rfl;have U:=ac rfl rfl;clear aj aa ac ak;have a8:((n.toNat:Nat):Int)=n:=qaw ar.1
 conv=>whnf
 refine aI hΘ (X:={ y:Nat×List RLn×Nat×Int // (y.1:Int)<=n/\y.2.1.length=y.1/\dx p s n.toNat [] a0=dx p s (n.toNat - y.1) y.2.1 y.2.2.2/\i64 y.2.2.2/\y.2.1.length<=y.2.2.1 }) (fun y=>[(10,.va (.int .i64 y.1.1))]) (5::11::12::13::jr 131 42 [])
  (fun y=>[(0,.frz F),(1,rvalE ⟨false,[],0,0,[]⟩ 0 0),(2,rrd s y.1.2.2.2 false),(3,rvalE ⟨false,y.1.2.1,0,0,[]⟩ 4 y.1.2.2.1),(4,gE 191 5 encL y.1.2.2.1 y.1.2.1)]) 5 (fun y=>n.toNat - y.1.1) ⟨(0,[],0,a0),⟨ar.1,rfl,rfl,i1,qj 0⟩⟩
  (fun hH hT=>leI [(4,4)] hH hT rfl ⟨tv,cK oo _,cp _ _ _,cK oo _,aC di _ _ _ _ _,tv⟩ ⟨rfl,tv⟩ ⟨Fz.r F,rfl,rfl,rfl,rfl,tv⟩) ?_
 rintro⟨⟨k,L,c,q⟩,hk,hL,m,hq,al⟩ hH hT;replace al:L.length<=c:=al;replace hk:(k:Int)<=n:=hk;replace hL:L.length=k:=hL;replace m:dx p s n.toNat [] a0=dx p s (n.toNat - k) L q:=m;replace hq:i64 q:=hq;rw[m]at U;by_cases gk:(k:Int) < n
 ·have ay:n.toNat - k=(n.toNat - (k+1))+1:=by omega
  have a5:((k+1:Nat):Int)<=n:=by omega
  have an:n.toNat - (k+1) < n.toNat - k:=by omega
  have aq:k < 4611686018427387904:=by omega
  have ad:L.length < 1000000:=by omega
  rw[ay]at U m;have az:∀n,n < 1000000->(n+1)*48<=140737488355328:=fun n h=>by omega
  rcases a6 with rfl | rfl | rfl | rfl | rfl
  case' inl=>
   rw[show((colN 1:Nat):Int)=0 by decide]at d;have D:=hq;have B:=wo F s q false E D;have w:=AH (b:=false) E D;have am:=tP s q false;have f:∃x a b,rdTxt s q false=(x,a,b):=⟨_,_,_,rfl⟩
   obtain⟨t,V,b',f⟩:=f;rw[f]at B w am;replace am:t.length<=65536:=am;have a1:t.length < 1000000:=by omega
   have hf:=B4 F 1 L c (t,0,0,0,0) a1 rfl;have A:rdL 1 s q=((t,0,0,0,0),V,b'):=by rw[rdL,if_pos rfl,f]
   have ae:i64 V:=w;have I:=kx A m U;obtain⟨J,K,ab,G⟩:=I;rw[hL]at G;clear U m A;rcases L with _ | ⟨l0,lr⟩
   all_goals
    refine bri gk ?_;refine bre dd ?_;refine useS B [(1,2)] ⟨cp _ _ _,tv⟩ ⟨rfl,tv⟩ ?_;rintro i F1 W n0 j ⟨rfl,rfl,rfl,rfl⟩;conv=>whnf
    refine cR hΘ 0 ?_;refine usePt d ?_;refine brd dd ?_;conv=>whnf
  case' inr.inl=>
   rw[show((colN 2:Nat):Int)=1 by decide]at d;have D:=hq;have B:=dF F s q false E D;have w:=dG (b:=false) E D;have f:∃x a b,rdNum s q false=(x,a,b):=⟨_,_,_,rfl⟩
   obtain⟨n0,V,b',f⟩:=f;rw[f]at B w;have hf:=mU F 2 L c ([],n0,0,0,0) (by show 0 < 1000000;omega) ad dd;have A:rdL 2 s q=(([],n0,0,0,0),V,b'):=by rw[rdL,if_neg dd,if_pos rfl,f]
   have ae:i64 V:=w;have I:=kx A m U;obtain⟨J,K,ab,G⟩:=I;rw[hL]at G;clear U m A;rcases L with _ | ⟨l0,lr⟩
   all_goals
    refine bri gk ?_;refine brd dd ?_;conv=>whnf
    refine cR hΘ 1 ?_;refine usePt d ?_;refine bre dd ?_;refine useS B [(1,2)] ⟨cp _ _ _,tv⟩ ⟨rfl,tv⟩ ?_;rintro i F1 W n0 j ⟨rfl,rfl,rfl,rfl⟩;refine⟨by decide,?_⟩;conv=>whnf
    refine sr_go hΘ ?_;refine usePt d ?_;refine brd dd ?_;conv=>whnf
  case' inr.inr.inl=>
   rw[show((colN 3:Nat):Int)=3 by decide]at d;have D:=hq;have B:=dF F s q false E D;have w:=dG (b:=false) E D;have f:∃x a b,rdNum s q false=(x,a,b):=⟨_,_,_,rfl⟩
   obtain⟨n0,q1,Y,f⟩:=f;rw[f]at B w;have S:i64 q1:=w;have Q:=dF F s q1 Y E S;have M:=dG (b:=Y) E S;have o:∃x a b,rdNum s q1 Y=(x,a,b):=⟨_,_,_,rfl⟩
   obtain⟨n1,q2,Z,o⟩:=o;rw[o]at Q M;have T:i64 q2:=M;have R:=dF F s q2 Z E T;have O:=dG (b:=Z) E T;have u:∃x a b,rdNum s q2 Z=(x,a,b):=⟨_,_,_,rfl⟩
   obtain⟨n2,V,b',u⟩:=u;rw[u]at R O;have hf:=mU F 3 L c ([],n0,n1,n2,0) (by show 0 < 1000000;omega) ad dd;have A:rdL 3 s q=(([],n0,n1,n2,0),V,b'):=by rw[rdL,if_neg dd,if_neg dd,if_neg dd,f];dsimp only;rw[o];dsimp only;rw[u]
   have ae:i64 V:=O;have I:=kx A m U;obtain⟨J,K,ab,G⟩:=I;rw[hL]at G;clear U m A;rcases L with _ | ⟨l0,lr⟩
   all_goals
    refine bri gk ?_;refine brd dd ?_;conv=>whnf
    refine cR hΘ 3 ?_;refine usePt d ?_;refine bre dd ?_;refine useS B [(1,2)] ⟨cp _ _ _,tv⟩ ⟨rfl,tv⟩ ?_;rintro i F1 W n0 j ⟨rfl,rfl,rfl,rfl⟩;refine⟨by decide,?_⟩;conv=>whnf
    refine sr_go hΘ ?_;refine usePt d ?_;refine bre dd ?_;refine useS Q [(1,2)] ⟨cp _ _ _,tv⟩ ⟨rfl,tv⟩ ?_;rintro i F1 W n0 j ⟨rfl,rfl,rfl,rfl⟩;refine⟨by decide,?_⟩;conv=>whnf
    refine sr_go hΘ ?_;refine usePt d ?_;refine bre dd ?_;refine useS R [(1,2)] ⟨cp _ _ _,tv⟩ ⟨rfl,tv⟩ ?_;rintro i F1 W n0 j ⟨rfl,rfl,rfl,rfl⟩;refine⟨by decide,?_⟩;conv=>whnf
    refine sr_go hΘ ?_;refine usePt d ?_;refine brd dd ?_;conv=>whnf
  case' inr.inr.inr.inl=>
   rw[show((colN 4:Nat):Int)=4 by decide]at d;have D:=hq;have B:=dF F s q false E D;have w:=dG (b:=false) E D;have f:∃x a b,rdNum s q false=(x,a,b):=⟨_,_,_,rfl⟩
   obtain⟨n0,q1,Y,f⟩:=f;rw[f]at B w;have S:i64 q1:=w;have Q:=dF F s q1 Y E S;have M:=dG (b:=Y) E S;have o:∃x a b,rdNum s q1 Y=(x,a,b):=⟨_,_,_,rfl⟩
   obtain⟨n1,q2,Z,o⟩:=o;rw[o]at Q M;have T:i64 q2:=M;have R:=dF F s q2 Z E T;have O:=dG (b:=Z) E T;have u:∃x a b,rdNum s q2 Z=(x,a,b):=⟨_,_,_,rfl⟩
   obtain⟨n2,q3,b3,u⟩:=u;rw[u]at R O;have a2:i64 q3:=O;have ax:=dF F s q3 b3 E a2;have av:=dG (b:=b3) E a2;have ag:∃x a b,rdNum s q3 b3=(x,a,b):=⟨_,_,_,rfl⟩
   obtain⟨n3,V,b',ag⟩:=ag;rw[ag]at ax av;have hf:=mU F 4 L c ([],n0,n1,n2,n3) (by show 0 < 1000000;omega) ad dd;have A:rdL 4 s q=(([],n0,n1,n2,n3),V,b'):=by rw[rdL,if_neg dd,if_neg dd,if_pos rfl,f];dsimp only;rw[o];dsimp only;rw[u];dsimp only;rw[ag]
   have ae:i64 V:=av;have I:=kx A m U;obtain⟨J,K,ab,G⟩:=I;rw[hL]at G;clear U m A;rcases L with _ | ⟨l0,lr⟩
   all_goals
    refine bri gk ?_;refine brd dd ?_;conv=>whnf
    refine cR hΘ 4 ?_;refine usePt d ?_;refine bre dd ?_;refine useS B [(1,2)] ⟨cp _ _ _,tv⟩ ⟨rfl,tv⟩ ?_;rintro i F1 W n0 j ⟨rfl,rfl,rfl,rfl⟩;refine⟨by decide,?_⟩;conv=>whnf
    refine sr_go hΘ ?_;refine usePt d ?_;refine bre dd ?_;refine useS Q [(1,2)] ⟨cp _ _ _,tv⟩ ⟨rfl,tv⟩ ?_;rintro i F1 W n0 j ⟨rfl,rfl,rfl,rfl⟩;refine⟨by decide,?_⟩;conv=>whnf
    refine sr_go hΘ ?_;refine usePt d ?_;refine bre dd ?_;refine useS R [(1,2)] ⟨cp _ _ _,tv⟩ ⟨rfl,tv⟩ ?_;rintro i F1 W n0 j ⟨rfl,rfl,rfl,rfl⟩;refine⟨by decide,?_⟩;conv=>whnf
    refine sr_go hΘ ?_;refine usePt d ?_;refine bre dd ?_;refine useS ax [(1,2)] ⟨cp _ _ _,tv⟩ ⟨rfl,tv⟩ ?_;rintro i F1 W n0 j ⟨rfl,rfl,rfl,rfl⟩;refine⟨by decide,?_⟩;conv=>whnf
    refine sr_go hΘ ?_;refine usePt d ?_;refine brd dd ?_;conv=>whnf
  case' inr.inr.inr.inr=>
   rw[show((colN 5:Nat):Int)=3 by decide]at d;have D:=hq;have B:=dF F s q false E D;have w:=dG (b:=false) E D;have f:∃x a b,rdNum s q false=(x,a,b):=⟨_,_,_,rfl⟩
   obtain⟨n0,q1,Y,f⟩:=f;rw[f]at B w;have S:i64 q1:=w;have Q:=dF F s q1 Y E S;have M:=dG (b:=Y) E S;have o:∃x a b,rdNum s q1 Y=(x,a,b):=⟨_,_,_,rfl⟩
   obtain⟨n1,q2,Z,o⟩:=o;rw[o]at Q M;have T:i64 q2:=M;have R:=dF F s q2 Z E T;have O:=dG (b:=Z) E T;have u:∃x a b,rdNum s q2 Z=(x,a,b):=⟨_,_,_,rfl⟩
   obtain⟨n2,V,b',u⟩:=u;rw[u]at R O;have hf:=mU F 5 L c ([],n0,n1,n2,0) (by show 0 < 1000000;omega) ad dd;have A:rdL 5 s q=(([],n0,n1,n2,0),V,b'):=by rw[rdL,if_neg dd,if_neg dd,if_neg dd,f];dsimp only;rw[o];dsimp only;rw[u]
   have ae:i64 V:=O;have I:=kx A m U;obtain⟨J,K,ab,G⟩:=I;rw[hL]at G;clear U m A;rcases L with _ | ⟨l0,lr⟩
   all_goals
    refine bri gk ?_;refine brd dd ?_;conv=>whnf
    refine cR hΘ 3 ?_;refine usePt d ?_;refine bre dd ?_;refine useS B [(1,2)] ⟨cp _ _ _,tv⟩ ⟨rfl,tv⟩ ?_;rintro i F1 W n0 j ⟨rfl,rfl,rfl,rfl⟩;refine⟨by decide,?_⟩;conv=>whnf
    refine sr_go hΘ ?_;refine usePt d ?_;refine bre dd ?_;refine useS Q [(1,2)] ⟨cp _ _ _,tv⟩ ⟨rfl,tv⟩ ?_;rintro i F1 W n0 j ⟨rfl,rfl,rfl,rfl⟩;refine⟨by decide,?_⟩;conv=>whnf
    refine sr_go hΘ ?_;refine usePt d ?_;refine bre dd ?_;refine useS R [(1,2)] ⟨cp _ _ _,tv⟩ ⟨rfl,tv⟩ ?_;rintro i F1 W n0 j ⟨rfl,rfl,rfl,rfl⟩;refine⟨by decide,?_⟩;conv=>whnf
    refine sr_go hΘ ?_;refine usePt d ?_;refine brd dd ?_;conv=>whnf
  all_goals
   refine use hf [(1,4)] rfl ⟨rfl,gX _,rfl,tv⟩ rfl ⟨aC di _ _ _ _ _,tv⟩ (by simp[SV.below,SA.below,gA,encL]) ⟨aH di (aV _ _ _ _),tv⟩ ?_;rintro i F1 W n0 j ⟨rfl,rfl,rfl,rfl⟩;rcases b' with _ | _
   ·refine br (fun g=>?_) (fun g=>?_)
    ·have e:=K (by simpa using g);exact eU e rfl (Fz.r F)
    ·have ao:=ab rfl (by simpa using g);clear g;refine⟨nb rfl,[encL (_,_,_,_,_)],rfl,?_⟩;conv=>whnf
     first
      |refine⟨rfl,rfl,by simp,rfl,az _ ad,fun c' hc=>?_⟩
      |(refine⟨rfl,rfl,?_⟩;(conv=>whnf);refine⟨by show 1*48<=140737488355328;omega,fun c' hc=>?_⟩)
     exact⟨⟨(k+1,_++[_],c',V),a5,G,ao,ae,jm (qci ss) hc⟩,an,leR [(4,7)] hH hT rfl ⟨tv,cK oo _,cp _ _ _,cK oo _,aC di _ _ _ _ _,tv⟩ ⟨cnt aq,tv⟩ ⟨Fz.r F,rfl,rfl,uL (μ:=sig [(4,7)]) rfl rfl,(by first | exact ydc di rfl | exact aH di (bC _ ss)),tv⟩⟩
   ·have e:=J rfl;exact eU e rfl (Fz.r F)
 ·have a4:n.toNat - k=0:=by omega
  rw[a4]at U
  have hv:(decide (q=(s.length:Int))=true/\readR p s=some ⟨false,L,0,0,[]⟩)\/(decide (q=(s.length:Int))=false/\readR p s=none):=by
   have ah:readR p s=if q=(s.length:Int)then some ⟨false,L,0,0,[]⟩else none:=U
   by_cases ai:q=(s.length:Int)
   ·rw[if_pos ai]at ah;exact .inl ⟨decide_eq_true ai,ah⟩
   ·rw[if_neg ai]at ah;exact .inr ⟨decide_eq_false ai,ah⟩
  clear U m;rcases L with _ | ⟨l0,lr⟩
  all_goals
   refine brj gk ?_;refine dwS (lk [0,1,2,3,4,5,6,7] (.alt 8 (.look 9 .done) .nil)) [2,3] ?_;refine⟨rfl,rfl,Fz.r F,rfl,rfl,?_⟩;conv=>whnf
  ·exact dP hv rfl (Fz.r F)
  ·refine cu 4 (fun _=>.arr 191 5 ((l0::lr).map encL) c) rfl rfl rfl (fun _ _=>by exact cI di rfl _ _ _ _) (fun _ _=>bX di _ _ _ _ _) ?_;intro b F' j hb;exact endFo (.ret (.tup [.agg (rvS ⟨false,l0::lr,0,0,[]⟩ (.slice false 0 (b 0) 0 5 (lr.length+1) c)),.va (.bool (decide (q=(s.length:Int))))])) F' rfl j (Fz.r F') ⟨_,_,_,rfl,Its.new (l:=l0::lr) (hb 0 ⟨rfl,rfl⟩),hv,al⟩ ⟨rfl,rfl,tv⟩ rfl
theorem yaj(F:Fz)(p:Int)(s:List UInt8)(b:s.length<=1000000000000000000):Fo prog F 54 [.va (.int .i64 p),.va (.str s)] (fC p s):=by
 by_cases c:1<=p/\p<=8
 case neg=>exact Dx F s p c
 by_cases a:s=[]
 ·subst a;exact CY F p c
 rcases p8 c with rfl | rfl | rfl | rfl | rfl | rfl | rfl | rfl
 ·exact kg F 1 dd s b a
 ·exact kg F 2 dd s b a
 ·exact kg F 3 dd s b a
 ·exact kg F 4 dd s b a
 ·exact kg F 5 dd s b a
 ·exact AK F s b a
 ·exact AL F s b a
 ·exact AM F s b a
end Go.Proofs.YtfnkamphhpldcaaGreatDoor
namespace Go.Proofs.YtfnkamphhpldcaaGreatDoor
open Go Sx Tryz
theorem eS(s:List UInt8)(q:Int):rdNum s q true=(0,q,true):=if_pos (.inl rfl)
variable {q:Int}{s:List UInt8}
theorem ee(h:(getI s q).2.2=0):rdNum s q false=((getI s q).1,(getI s q).2.1,false):=if_neg (by rintro(h1 | h1);cases h1;exact h1 h)
theorem ed(h:¬(getI s q).2.2=0)(b:Bool):rdNum s q b=(0,q,true):=if_pos (.inr h)
theorem wn(s:List UInt8)(q:Int):rdTxt s q true=([],q,true):=if_pos (.inl rfl)
theorem xZ(h:(getS s q).2.2=0):rdTxt s q false=((getS s q).1,(getS s q).2.1,false):=if_neg (by rintro(h1 | h1);cases h1;exact h1 h)
theorem xY(h:¬(getS s q).2.2=0)(b:Bool):rdTxt s q b=([],q,true):=if_pos (.inr h)
def rawN(s:List UInt8):Nat->Int->Option (List Int×Int)
 |0,q=>some ([],q)
 |k+1,q=>if(getI s q).2.2=0 then match rawN s k (getI s q).2.1 with
  |none=>none
  |some (m,q')=>some ((getI s q).1::m,q')
  else none
theorem wc(s:List UInt8)(p:Int):∀(k:Nat) (acc:List Int) (q:Int),numsS s p k acc q=match rawN s k q with
  |none=>none
  |some (m,c)=>if dK p acc m then some (acc++m,c)else none
 |0,acc,q=>by
  show some (acc,q)=if dK p acc []then some (acc++[],q)else none
  rw[if_pos (show dK p acc []from trivial),qx]
 |k+1,acc,q=>by
  rw[numsS,rawN];by_cases h1:(getI s q).2.2=0
  ·rw[if_pos h1];have ih:=wc s p k (acc++[(getI s q).1]) (getI s q).2.1;by_cases a:(bnd p acc).1<=(getI s q).1/\(getI s q).1<=(bnd p acc).2
   ·rw[if_pos (cy.2 ⟨h1,a⟩),ih];cases d:rawN s k (getI s q).2.1 with
    |none=>rfl
    |some x=>
     obtain⟨m,c⟩:=x;dsimp only;by_cases b:dK p (acc++[(getI s q).1]) m
     ·rw[if_pos b,if_pos (show dK p acc ((getI s q).1::m)from⟨a,b⟩)];simp
     ·rw[if_neg b,if_neg (fun h:dK p acc ((getI s q).1::m)=>b h.2)]
   ·rw[if_neg (fun h=>a (cy.1 h).2)];cases d:rawN s k (getI s q).2.1 with
    |none=>rfl
    |some x=>
     obtain⟨m,c⟩:=x;dsimp only;rw[if_neg (fun h:dK p acc ((getI s q).1::m)=>a h.1)]
  ·rw[if_neg h1,if_neg (fun h=>h1 (cy.1 h).1)]
theorem xW(s:List UInt8):∀(k:Nat) (q:Int) {m:List Int} {b:Int},rawN s k q=some (m,b)->m.length=k
 |0,q,m,b,h=>by
  simp only[rawN,Option.some.injEq,Prod.mk.injEq]at h;rw[<-h.1];rfl
 |k+1,q,m,b,h=>by
  rw[rawN]at h;split at h
  ·cases a:rawN s k (getI s q).2.1 with
   |none=>rw[a]at h;cases h
   |some x=>
    obtain⟨d,c⟩:=x;rw[a]at h;simp only[Option.some.injEq,Prod.mk.injEq]at h;rw[<-h.1,qf,xW s k _ a]
  ·cases h
def rawL(p:Int)(s:List UInt8)(q:Int):Option (Ln×Int):=
 if p=1 then if(getS s q).2.2=0 then some (((getS s q).1,[]),(getS s q).2.1)else none
 else match rawN s (colN p) q with
  |none=>none
  |some (m,q')=>some (([],m),q')
theorem Ac{p:Int}(s:List UInt8)(a:List Ln)(q:Int):lineS s p a q=match rawL p s q with
  |none=>none
  |some (x,i)=>if lnOk p a x then some (x,i)else none:=by
 unfold lineS rawL;by_cases h1:p=1
 ·rw[if_pos h1,if_pos h1];by_cases b:(getS s q).2.2=0
  ·rw[if_pos b];dsimp only;by_cases c:(getS s q).1.length<=80/\(getS s q).1.any badC=false
   ·rw[if_pos ⟨b,c⟩,if_pos];unfold lnOk;rw[if_pos h1];exact⟨rfl,c⟩
   ·rw[if_neg (fun h=>c h.2),if_neg];unfold lnOk;rw[if_pos h1];exact fun h=>c h.2
  ·rw[if_neg b,if_neg (fun h=>b h.1)]
 ·rw[if_neg h1,if_neg h1,wc,vw];cases k:rawN s (colN p) q with
  |none=>rfl
  |some x=>
   obtain⟨m,i⟩:=x;have j:=xW s _ _ k;dsimp only
   have d:lnOk p a ([],m)↔dK p [] m/\(p≠2->∀y,a.getLast? =some y->cmpL (y.2.take 2) (m.take 2) < 0):=by
    unfold lnOk;rw[if_neg h1];show([]:List UInt8)=[]/\m.length=cols p/\dK p [] m/\_↔_;rw[vw];exact⟨fun h=>h.2.2,fun h=>⟨rfl,j,h⟩⟩
   by_cases b:dK p [] m
   ·rw[if_pos b];dsimp only;rw[qw];by_cases c:p=2
    ·rw[if_pos c,if_pos (d.2 ⟨b,fun h=>absurd c h⟩)]
    ·rw[if_neg c];cases hb:a.getLast? with
     |none=>rw[if_pos (d.2 ⟨b,fun _ y f=>by rw[hb]at f;cases f⟩)]
     |some y=>
      dsimp only;by_cases e:cmpL (y.2.take 2) (m.take 2) < 0
      ·rw[if_pos e,if_pos (d.2 ⟨b,fun _ z g=>by rw[hb]at g;cases g;exact e⟩)]
      ·rw[if_neg e,if_neg (fun h=>e ((d.1 h).2 c y hb))]
   ·rw[if_neg b,if_neg (fun h=>b (d.1 h).1)]
theorem rdL1(s:List UInt8)(q:Int):rdL 1 s q=(((rdTxt s q false).1,0,0,0,0),(rdTxt s q false).2.1,(rdTxt s q false).2.2):=rfl
theorem rdL2(s:List UInt8)(q:Int):rdL 2 s q=(([],(rdNum s q false).1,0,0,0),(rdNum s q false).2.1,(rdNum s q false).2.2):=rfl
def rdU3(s:List UInt8)(q:Int):RLn×Int×Bool:=
 let a:=rdNum s q false
 let b:=rdNum s a.2.1 a.2.2
 let c:=rdNum s b.2.1 b.2.2
 (([],a.1,b.1,c.1,0),c.2.1,c.2.2)
def rdU4(s:List UInt8)(q:Int):RLn×Int×Bool:=
 let a:=rdNum s q false
 let b:=rdNum s a.2.1 a.2.2
 let c:=rdNum s b.2.1 b.2.2
 let d:=rdNum s c.2.1 c.2.2
 (([],a.1,b.1,c.1,d.1),d.2.1,d.2.2)
theorem rdL3(s:List UInt8)(q:Int):rdL 3 s q=rdU3 s q:=rfl
theorem rdL5(s:List UInt8)(q:Int):rdL 5 s q=rdU3 s q:=rfl
theorem rdL4(s:List UInt8)(q:Int):rdL 4 s q=rdU4 s q:=rfl
theorem yee{p:Int}(e:1<=p/\p<=5)(s:List UInt8)(q:Int):rawL p s q=if(rdL p s q).2.2=true then none else some (ofR p (rdL p s q).1,(rdL p s q).2.1):=by
 unfold rawL;have d:p=1\/p=2\/p=3\/p=4\/p=5:=by omega
 rcases d with rfl | rfl | rfl | rfl | rfl
 ·rw[if_pos rfl,rdL1];by_cases h:(getS s q).2.2=0
  ·rw[if_pos h,xZ h];rfl
  ·rw[if_neg h,xY h];rfl
 ·rw[if_neg dd,rdL2,show colN 2=1 from rfl,rawN];by_cases h:(getI s q).2.2=0
  ·rw[if_pos h,ee h];rfl
  ·rw[if_neg h,ed h];rfl
 case inr.inr.inr.inl=>
  rw[if_neg dd,rdL4,rdU4,show colN 4=4 from rfl,rawN];by_cases h:(getI s q).2.2=0
  ·rw[if_pos h,ee h];dsimp only;rw[rawN];by_cases a:(getI s (getI s q).2.1).2.2=0
   ·rw[if_pos a,ee a];dsimp only;rw[rawN];by_cases b:(getI s (getI s (getI s q).2.1).2.1).2.2=0
    ·rw[if_pos b,ee b];dsimp only;rw[rawN];by_cases c:(getI s (getI s (getI s (getI s q).2.1).2.1).2.1).2.2=0
     ·rw[if_pos c,ee c];rfl
     ·rw[if_neg c,ed c];rfl
    ·rw[if_neg b,ed b];dsimp only;rw[eS];rfl
   ·rw[if_neg a,ed a];dsimp only;rw[eS,eS];rfl
  ·rw[if_neg h,ed h];dsimp only;rw[eS,eS,eS];rfl
 all_goals
  rw[if_neg dd]
  first | rw[rdL3,show colN 3=3 from rfl] | rw[rdL5,show colN 5=3 from rfl]
  rw[rdU3,rawN];by_cases h:(getI s q).2.2=0
  ·rw[if_pos h,ee h];dsimp only;rw[rawN];by_cases a:(getI s (getI s q).2.1).2.2=0
   ·rw[if_pos a,ee a];dsimp only;rw[rawN];by_cases b:(getI s (getI s (getI s q).2.1).2.1).2.2=0
    ·rw[if_pos b,ee b];rfl
    ·rw[if_neg b,ed b];rfl
   ·rw[if_neg a,ed a];dsimp only;rw[eS];rfl
  ·rw[if_neg h,ed h];dsimp only;rw[eS,eS];rfl
theorem vp{p:Int}(b:1<=p/\p<=5)(s:List UInt8):∀(f:Nat) (acc:List RLn) (q:Int),(dx p s f acc q).map (fun x=>(x.1.map (ofR p),x.2))=bZ s p f (acc.map (ofR p)) q
 |0,acc,q=>rfl
 |f+1,acc,q=>by
  rw[dx,bZ,Ac,yee b];by_cases hb:(rdL p s q).2.2=true
  ·rw[if_pos (.inl hb),if_pos hb];rfl
  ·rw[if_neg hb];dsimp only;by_cases a:fitsR p acc (rdL p s q).1=true
   ·have c:=(xf b acc _).1 a;rw[if_neg (by rintro(h | h);exact hb h;rw[a]at h;cases h),if_pos c];have ih:=vp b s f (acc++[(rdL p s q).1]) (rdL p s q).2.1;rw[qq]at ih;exact ih
   ·have c:¬lnOk p (acc.map (ofR p)) (ofR p (rdL p s q).1):=fun h=>a ((xf b acc _).2 h)
    rw[if_pos (.inr (by simpa using a)),if_neg c];rfl
theorem Ci{p:Int}(g:1<=p/\p<=5)(j:¬s=[]):(readR p s).map (ofV p)=readS p s:=by
 have c:¬¬(1<=p/\p<=8):=fun h=>h ⟨by omega,by omega⟩
 have k:¬p=8:=by omega
 have i:¬6<=p:=by omega
 conv=>lhs;unfold readR;rw[if_neg c,if_neg j,if_neg i]
 conv=>rhs;unfold readS;rw[if_neg c,if_neg j,if_neg k,if_neg i]
 by_cases h:(getI s 0).2.2=0
 ·rw[ee h];dsimp only;by_cases e:0<=(getI s 0).1/\(getI s 0).1<=64
  ·have h1:=vp g s (getI s 0).1.toNat [] (getI s 0).2.1
   have f:¬(false=true\/inR (getI s 0).1 0 64=false):=by
    rw[bS.2 e];simp
   have a:aX s 0 0 64=true:=cy.2 ⟨h,e⟩
   conv=>lhs;rw[if_neg f]
   conv=>rhs;rw[if_pos a]
   change _=bZ s p (getI s 0).1.toNat [] (getI s 0).2.1 at h1
   rw[<-h1];cases m:dx p s (getI s 0).1.toNat [] (getI s 0).2.1 with
   |none=>rfl
   |some x=>
    obtain⟨l,q⟩:=x;show Option.map (ofV p) (if q=(s.length:Int)then _ else none)=if q=(s.length:Int)then _ else none
    by_cases d:q=(s.length:Int)
    ·rw[if_pos d,if_pos d];rfl
    ·rw[if_neg d,if_neg d];rfl
  ·have f:false=true\/inR (getI s 0).1 0 64=false:=by
    right;apply Classical.byContradiction;intro b;exact e (bS.1 (by simpa using b))
   have a:¬aX s 0 0 64=true:=fun b=>e (cy.1 b).2
   conv=>lhs;rw[if_pos f]
   conv=>rhs;rw[if_neg a]
   rfl
 ·have a:¬aX s 0 0 64=true:=fun b=>h (cy.1 b).1
  rw[ed h,if_neg a];rfl
theorem yab(l:¬s=[]):(readR 8 s).map (ofV 8)=readS 8 s:=by
 have b:¬¬((1:Int)<=8/\(8:Int)<=8):=fun h=>h ⟨by omega,by omega⟩
 conv=>lhs;unfold readR;rw[if_neg b,if_neg l,if_pos dd,fS]
 conv=>rhs;unfold readS;rw[if_neg b,if_neg l,if_pos rfl]
 by_cases h:(getI s 0).2.2=0
 case neg=>
  have c:¬(aX s 0 0 64=true/\aX s (getI s 0).2.1 0 64=true/\(getI s (getI s 0).2.1).2.1=(s.length:Int)):=fun a=>h (cy.1 a.1).1
  conv=>rhs;rw[if_neg c]
  rw[ed h];dsimp only;rw[eS];rfl
 rw[ee h];dsimp only;by_cases a:(getI s (getI s 0).2.1).2.2=0
 case neg=>
  have c:¬(aX s 0 0 64=true/\aX s (getI s 0).2.1 0 64=true/\(getI s (getI s 0).2.1).2.1=(s.length:Int)):=fun h3=>a (cy.1 h3.2.1).1
  conv=>rhs;rw[if_neg c]
  rw[ed a];rfl
 rw[ee a]
 have i:(aX s 0 0 64=true/\aX s (getI s 0).2.1 0 64=true/\(getI s (getI s 0).2.1).2.1=(s.length:Int))↔(inR (getI s 0).1 0 64=true/\inR (getI s (getI s 0).2.1).1 0 64=true)/\(getI s (getI s 0).2.1).2.1=(s.length:Int):=by
  rw[cy,cy,bS,bS];exact⟨fun h=>⟨⟨h.1.2,h.2.1.2⟩,h.2.2⟩,fun h3=>⟨⟨h,h3.1.1⟩,⟨a,h3.1.2⟩,h3.2⟩⟩
 conv=>rhs;rw[show(if aX s 0 0 64=true/\aX s (getI s 0).2.1 0 64=true/\(getI s (getI s 0).2.1).2.1=(s.length:Int)then some (Val.mk false [] (getI s 0).1 (getI s (getI s 0).2.1).1 [])else none)=(if(inR (getI s 0).1 0 64=true/\inR (getI s (getI s 0).2.1).1 0 64=true)/\(getI s (getI s 0).2.1).2.1=(s.length:Int)then some (Val.mk false [] (getI s 0).1 (getI s (getI s 0).2.1).1 [])else none)from by
  by_cases f:aX s 0 0 64=true/\aX s (getI s 0).2.1 0 64=true/\(getI s (getI s 0).2.1).2.1=(s.length:Int)
  ·rw[if_pos f,if_pos (i.1 f)]
  ·rw[if_neg f,if_neg (fun h=>f (i.2 h))]]
 obtain⟨w,n⟩:∃w,(getI s 0).1=w:=⟨_,rfl⟩
 obtain⟨q,m⟩:∃q,(getI s 0).2.1=q:=⟨_,rfl⟩
 obtain⟨hh,j⟩:∃h,(getI s q).1=h:=⟨_,rfl⟩
 obtain⟨g,k⟩:∃r,(getI s q).2.1=r:=⟨_,rfl⟩
 clear i h a;rw[n,m,j,k];show Option.map (ofV 8) (if false=true\/g≠(s.length:Int)then none else if(8:Int)=8 then(if inR w 0 64=true/\inR hh 0 64=true then some ⟨false,[],w,hh,[]⟩else none)else _)=_;by_cases d:g=(s.length:Int)
 ·rw[if_neg (show¬(false=true\/g≠(s.length:Int))by rintro(h3 | h3);cases h3;exact h3 d),if_pos rfl];by_cases e:inR w 0 64=true/\inR hh 0 64=true
  ·rw[if_pos e,if_pos ⟨e,d⟩];rfl
  ·rw[if_neg e,if_neg (fun h=>e h.1)];rfl
 ·rw[if_pos (show false=true\/g≠(s.length:Int)from .inr d),if_neg (fun h=>d h.2)];rfl
theorem r5{w hh:Int}(h:(getI s 0).2.2=0)(c:(getI s q).2.2=0)(d:(getI s 0).1=w)(a:(getI s q).1=hh):
  (aX s 0 0 32=true/\aX s q (min w 1) (min w 1*32)=true)↔((0<=w/\w<=32)/\(min w 1<=hh/\hh<=min w 1*32)):=by
 rw[cy,cy,d,a];exact⟨fun h=>⟨h.1.2,h.2.2⟩,fun b=>⟨⟨h,b.1⟩,⟨c,b.2⟩⟩⟩
theorem Cj(o:¬s=[]):(readR 6 s).map (ofV 6)=readS 6 s:=by
 have g:¬¬((1:Int)<=6/\(6:Int)<=8):=fun h=>h ⟨by omega,by omega⟩
 conv=>lhs;unfold readR;rw[if_neg g,if_neg o,if_pos dd,fS]
 conv=>rhs;unfold readS;rw[if_neg g,if_neg o,if_neg (by decide:¬(6:Int)=8),if_pos (by decide:(6:Int)<=6)]
 dsimp only;by_cases h:(getI s 0).2.2=0
 case neg=>
  have c:∀Q:Prop,¬(aX s 0 0 32=true/\Q):=fun Q b=>h (cy.1 b.1).1
  conv=>rhs;rw[if_neg (c _)]
  rw[ed h];dsimp only;rw[eS];rfl
 rw[ee h];dsimp only;by_cases b:(getI s (getI s 0).2.1).2.2=0
 case neg=>
  have c:∀(Q:Prop) u m,¬(Q/\aX s (getI s 0).2.1 u m=true):=fun Q u m h3=>b (cy.1 h3.2).1
  conv=>rhs;rw[if_neg (c _ _ _)]
  rw[ed b];rfl
 rw[ee b];obtain⟨w,p⟩:∃w,(getI s 0).1=w:=⟨_,rfl⟩
 obtain⟨q,n⟩:∃q,(getI s 0).2.1=q:=⟨_,rfl⟩
 rw[n]at b;obtain⟨hh,f⟩:∃h,(getI s q).1=h:=⟨_,rfl⟩
 obtain⟨i,k⟩:∃r,(getI s q).2.1=r:=⟨_,rfl⟩
 have d:=r5 h b p f;clear h b;rw[p,n,f,k]
 show Option.map (ofV 6) (if false=true\/i≠(s.length:Int)then none else if(6:Int)=8 then _ else if([]:List UInt8).all bitB=false then none
  else if w=0 then if hh=0/\([]:List UInt8)=[]then some ⟨false,[],w,hh,[]⟩else none
  else if inR w 1 32=true/\inR hh 1 32=true/\((6:Int)=6\/((0:Nat):Int)=w*hh)then some ⟨false,[],w,hh,[]⟩else none)=
  if aX s 0 0 32=true/\aX s q (min w 1) (min w 1*32)=true then(if(6:Int)=7 then _ else if i=(s.length:Int)then some ⟨false,[],w,hh,[]⟩else none)else none
 by_cases j:i=(s.length:Int)
 case neg=>
  rw[if_pos (show false=true\/i≠(s.length:Int)from .inr j),if_neg (by decide:¬(6:Int)=7),if_neg j];split<;>rfl
 rw[if_neg (show¬(false=true\/i≠(s.length:Int))by rintro(h3 | h3);cases h3;exact h3 j),if_neg (by decide:¬(6:Int)=8),if_neg (by decide:¬([]:List UInt8).all bitB=false),if_neg (by decide:¬(6:Int)=7),if_pos j];by_cases l:(0<=w/\w<=32)/\(min w 1<=hh/\hh<=min w 1*32)
 ·rw[if_pos (d.2 l)];by_cases a:w=0
  ·have e:hh=0:=by omega
   rw[if_pos a,if_pos ⟨e,rfl⟩];rfl
  ·rw[if_neg a,if_pos ⟨bS.2 oo,bS.2 oo,.inl rfl⟩];rfl
 ·rw[if_neg (fun h=>l (d.1 h))];by_cases a:w=0
  ·have e:¬hh=0:=by omega
   rw[if_pos a,if_neg (fun h=>e h.1)];rfl
  ·rw[if_neg a,if_neg (fun h=>l (by have h1:=bS.1 h.1;have b:=bS.1 h.2.1;omega))];rfl
theorem yaa(B:¬s=[]):(readR 7 s).map (ofV 7)=readS 7 s:=by
 have k:¬¬((1:Int)<=7/\(7:Int)<=8):=fun h=>h ⟨by omega,by omega⟩
 conv=>lhs;unfold readR;rw[if_neg k,if_neg B,if_pos dd,fS]
 conv=>rhs;unfold readS;rw[if_neg k,if_neg B,if_neg (by decide:¬(7:Int)=8),if_pos (by decide:(6:Int)<=7)]
 dsimp only;by_cases h:(getI s 0).2.2=0
 case neg=>
  have c:∀Q:Prop,¬(aX s 0 0 32=true/\Q):=fun Q b=>h (cy.1 b.1).1
  conv=>rhs;rw[if_neg (c _)]
  rw[ed h];dsimp only;rw[eS];dsimp only;rw[wn];rfl
 rw[ee h];dsimp only;by_cases b:(getI s (getI s 0).2.1).2.2=0
 case neg=>
  have c:∀(Q:Prop) E y,¬(Q/\aX s (getI s 0).2.1 E y=true):=fun Q E y i=>b (cy.1 i.2).1
  conv=>rhs;rw[if_neg (c _ _ _)]
  rw[ed b];dsimp only;rw[wn];rfl
 rw[ee b];dsimp only;obtain⟨w,D⟩:∃w,(getI s 0).1=w:=⟨_,rfl⟩
 obtain⟨q,A⟩:∃q,(getI s 0).2.1=q:=⟨_,rfl⟩
 rw[A]at b;obtain⟨hh,j⟩:∃h,(getI s q).1=h:=⟨_,rfl⟩
 obtain⟨g,o⟩:∃r,(getI s q).2.1=r:=⟨_,rfl⟩
 have e:=r5 h b D j;clear h b;rw[D,A,j,o];by_cases i:(getS s g).2.2=0
 case neg=>
  have c:∀Q:Prop,¬((getS s g).2.2=0/\Q):=fun Q h4=>i h4.1
  conv=>rhs;rw[if_pos (by decide:(7:Int)=7),if_neg (c _),ite_self]
  rw[xY i];rfl
 rw[xZ i];obtain⟨t,J⟩:∃t,(getS s g).1=t:=⟨_,rfl⟩
 obtain⟨d,p⟩:∃t,(getS s g).2.1=t:=⟨_,rfl⟩
 rw[J,p]
 show Option.map (ofV 7) (if false=true\/d≠(s.length:Int)then none else if t.all bitB=false then none
  else if w=0 then if hh=0/\t=[]then some ⟨false,[],w,hh,t⟩else none
  else if inR w 1 32=true/\inR hh 1 32=true/\((7:Int)=6\/(t.length:Int)=w*hh)then some ⟨false,[],w,hh,t⟩else none)=
  if aX s 0 0 32=true/\aX s q (min w 1) (min w 1*32)=true then(if(getS s g).2.2=0/\(t.length:Int)=w*hh/\t.all bitB=true/\d=(s.length:Int)then some ⟨false,[],w,hh,t⟩else none)else none
 by_cases l:(((0<=w/\w<=32)/\(min w 1<=hh/\hh<=min w 1*32))/\(t.length:Int)=w*hh)/\t.all bitB=true/\d=(s.length:Int)
 ·obtain⟨⟨I,n⟩,hb,f⟩:=l;rw[if_neg (show¬(false=true\/d≠(s.length:Int))by rintro(h4 | h4);cases h4;exact h4 f),if_neg (show¬(t.all bitB=false)by rw[hb];simp),if_pos (e.2 I),if_pos (show(getS s g).2.2=0/\(t.length:Int)=w*hh/\t.all bitB=true/\d=(s.length:Int)from⟨i,n,hb,f⟩)];by_cases a:w=0
  ·have m:hh=0:=by omega
   have u:t=[]:=q5 (by
    rw[a,qdj]at n;omega)
   rw[if_pos a,if_pos ⟨m,u⟩];rfl
  ·rw[if_neg a,if_pos ⟨bS.2 oo,bS.2 oo,.inr n⟩];rfl
 ·have G:(if aX s 0 0 32=true/\aX s q (min w 1) (min w 1*32)=true then(if(getS s g).2.2=0/\(t.length:Int)=w*hh/\t.all bitB=true/\d=(s.length:Int)then some (Val.mk false [] w hh t)else none)else none)=none:=by
   split
   ·rename_i h4;rw[if_neg (fun x=>l ⟨⟨e.1 h4,x.2.1⟩,x.2.2⟩)]
   ·rfl
  rw[G];by_cases f:d=(s.length:Int)
  case neg=>rw[if_pos (show false=true\/d≠(s.length:Int)from .inr f)];rfl
  rw[if_neg (show¬(false=true\/d≠(s.length:Int))by rintro(h4 | h4);cases h4;exact h4 f)];by_cases hb:t.all bitB=true
  case neg=>rw[if_pos (show t.all bitB=false by simpa using hb)];rfl
  rw[if_neg (show¬(t.all bitB=false)by rw[hb];simp)];by_cases a:w=0
  ·rw[if_pos a,if_neg (fun h4=>l ⟨⟨by omega,by rw[h4.2,a,qdj];rfl⟩,hb,f⟩)];rfl
  ·rw[if_neg a,if_neg (fun h4=>l ⟨⟨by have h1:=bS.1 h4.1;have b:=bS.1 h4.2.1;omega,h4.2.2.resolve_left dd⟩,hb,f⟩)];rfl
theorem r8(p:Int)(s:List UInt8):(readR p s).map (ofV p)=readS p s:=by
 by_cases c:1<=p/\p<=8
 case neg=>
  unfold readR readS;have a:¬(1<=p/\p<=8):=c;rw[if_pos a,if_pos a];rfl
 by_cases b:s=[]
 ·subst b;have a:¬¬(1<=p/\p<=8):=fun h=>h c
  conv=>lhs;unfold readR;rw[if_neg a,if_pos rfl]
  conv=>rhs;unfold readS;rw[if_neg a,if_pos rfl]
  rfl
 by_cases d:p<=5
 ·exact Ci ⟨c.1,d⟩ b
 have e:p=6\/p=7\/p=8:=by omega
 rcases e with rfl | rfl | rfl
 ·exact Cj b
 ·exact yaa b
 ·exact yab b
