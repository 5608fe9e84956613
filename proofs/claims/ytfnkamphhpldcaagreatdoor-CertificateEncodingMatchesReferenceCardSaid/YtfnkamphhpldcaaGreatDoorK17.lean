import Derived.Test.YtfnkamphhpldcaaGreatDoorK16
import Derived.Shelf.Strings.OnBuilder
import Derived.Shelf.Strings.Trim
import Derived.Shelf.Strings.Search3
import Derived.Ground.GgwProg
import Derived.Shelf.GgClosure.StringsIndexFuncTop
import Derived.Shelf.Strings.Replace
import Derived.Shelf.Strings.Repeat
import Derived.Test.YtfnkamphhpldcaaGreatDoorProg
set_option maxHeartbeats 64000000
namespace Go.Proofs.YtfnkamphhpldcaaGreatDoor
open Go Sx Tryz
set_option maxRecDepth 100000
def aE(p:Int):List Kp->List Stp
 |[]=>[]
 |k::r=>if k.1=p then k.2 else aE p r
theorem Dg(p:Int)(l:List Kp)(k:Nat)(h:k < l.length):aE p (l.drop k)=if(l[k]'h).1=p then(l[k]'h).2 else aE p (l.drop (k+1)):=by
 rw[jj h];rfl
variable {a:List Kp}
theorem nX(b:short a)(p:Int):(aE p a).length < 1000000:=by
 induction a with
 |nil=>simp[aE]
 |cons x r ih=>
  rw[aE];split
  ·exact b x ss
  ·exact ih fun y c=>b y (by simp[c])
theorem us(F:Fz)(sk:SA)(m:Mig)(p:Int)(J:KpsAt F sk m.keep)(K:short m.keep)(O:m.keep.length < 1000000):
  Fo prog F 110 [.agg (migS m sk),.va (.int .i64 p)] (fun o s=>∃h,o=.ret (.va h)/\aW s h (aE p m.keep)/\capS h):=by
 obtain⟨id,src,j,d,b⟩:=m;replace J:KpsAt F sk b:=J;replace O:b.length < 1000000:=O;replace K:short b:=K;show Fo prog F 110 [.agg (migS ⟨id,src,j,d,b⟩ sk),.va (.int .i64 p)] (fun o s=>∃h,o=.ret (.va h)/\aW s h (aE p b)/\capS h);obtain⟨kn,kb,ke,kc,kL,kr,rfl,k1,R,k3,k4⟩:=J;refine foS func110 ?_;conv=>whnf
 refine aH hΘ (X:={ k:Nat // k<=b.length/\aE p b=aE p (b.drop k) }) (fun x=>[(11,.va (.int .i64 x.1))]) (4::6::jr 12 11 [])
  (fun x=>[(0,.frz F),(1,.one (.cells 105 (migS ⟨id,src,j,d,b⟩ (.slice kn 0 kb ke 2 b.length kc))))]) 2 (fun x=>b.length - x.1) ⟨0,by simp,by simp⟩
  (fun u w=>leI [] u w rfl ⟨tv,jS _ (.inr oo),tv⟩ ⟨rfl,tv⟩ ⟨Fz.r F,rfl,tv⟩) ?_
 rintro⟨k,aj,f⟩ u w;by_cases g:k < b.length
 ·have i:(k:Int) < (b.length:Int):=by omega
  have n:b.length - (k+1) < b.length - k:=by omega
  have q:k < 4611686018427387904:=by omega
  have hx:=K (b[k]'g) (qx g);rw[Dg p b k g]at f;have l:=SlR.at k4 g;obtain⟨y,Q,a,rfl,L⟩:=l;have e:=tF F a (b[k]'g).2 L hx;have c:=SlR.lt k1 g;obtain⟨ab,Y,aa,Z,W,ac,rfl,S,T,U,V⟩:=L;by_cases gp:(b[k]'g).1=p
  ·rw[if_pos gp]at f;refine bri i ⟨c,⟨by simp,i⟩,_,R c,_,Q,bri gp ?_⟩;refine useFs e ?_;rintro _ F1 l1 ⟨sb,rfl,M,B⟩;have A:=M;obtain⟨I,D,G,E,ah,ai,rfl,ad,ae,af,ag⟩:=M;exact endFs (.ret (.va (.slice I 0 D G 2 (b[k]'g).2.length E))) l1 ⟨_,rfl,by rw[f];exact A,B⟩
  ·rw[if_neg gp]at f;refine bri i ⟨c,⟨by simp,i⟩,_,R c,_,Q,brj gp ?_⟩;exact⟨⟨k+1,g,f⟩,n,leR [] u w rfl ⟨tv,jS _ (.inr oo),tv⟩ ⟨cnt q,tv⟩ ⟨Fz.r F,rfl,tv⟩⟩
 ·have i:¬(k:Int) < (b.length:Int):=by omega
  rw[yg oo]at f;refine brj i ?_;exact endFo (.ret (.va (.slice true 0 0 0 2 0 0))) F rfl (Fz.r F) (Fz.r F) ⟨_,rfl,by rw[f];exact Sl.nil,qi 0⟩ ⟨rfl,rfl,rfl⟩ rfl
theorem vj(F:Fz)(sk:SA)(m:Mig)(p:Int)(d:KpsAt F sk m.keep)(f:short m.keep)(e:m.keep.length < 1000000):
  Fo prog F 110 [.agg (migS m sk),.va (.int .i64 p)] (fun o b=>∃a,o=.ret (.va a)/\aW b a (aE p m.keep)):=
 pG (us F sk m p d f e) fun _ _ ⟨a,h1,c,_⟩=>⟨a,h1,c⟩
theorem xh(F:Fz)(sk:SA)(m:Mig)(p:Int)(b:KpsAt F sk m.keep)(w:short m.keep)(u:m.keep.length < 1000000):
  Fo prog F 94 [.agg (migS m sk),.va (.int .i64 p)] (fun o _=>o=.ret (.va (.bool (decide (0 < (aE p m.keep).length))))):=by
 have h:=vj F sk m p b w u;obtain⟨id,src,c,a,x⟩:=m;obtain⟨M,J,L,K,I,O,rfl,B,D,E,G⟩:=b;refine foS func94 ?_;refine useFs h ?_;rintro _ F1 y ⟨Q,rfl,d⟩;obtain⟨q,k,n,l,j,s,rfl,e,f,g,i⟩:=d;exact endFo (.ret (.va (.bool (decide (0 < (aE p x).length))))) F1 rfl y (Fz.r F1) rfl (ob ss) rfl
def bJ(a:List Kp)(p:Int):List Stp:=
 if(p=3/\0 < (aE 4 a).length)\/(p=5/\0 < (aE 3 a).length)then [(6,0)]else if p=6 then aE 7 a else aE p a
theorem iO{p q:Int}(h:(p=3/\q=4)\/(p=5/\q=3))(g:decide (0 < (aE q a).length)=true):bJ a p=[(6,0)]:=by
 have g:=od g;rcases h with⟨rfl,rfl⟩ | ⟨rfl,rfl⟩
 ·rw[bJ,if_pos (.inl ⟨rfl,g⟩)]
 ·rw[bJ,if_pos (.inr ⟨rfl,g⟩)]
theorem iP{p q:Int}(h:(p=3/\q=4)\/(p=5/\q=3))(g:decide (0 < (aE q a).length)=false):bJ a p=aE p a:=by
 have g:=oe g;rcases h with⟨rfl,rfl⟩ | ⟨rfl,rfl⟩
 ·rw[bJ,if_neg (by rintro(⟨_,h⟩ | ⟨h,_⟩);exact g h;cases h),if_neg dd]
 ·rw[bJ,if_neg (by rintro(⟨h,_⟩ | ⟨_,h⟩);cases h;exact g h),if_neg dd]
theorem yF:bJ a 6=aE 7 a:=by
 rw[bJ,if_neg (by rintro(⟨h,_⟩ | ⟨h,_⟩)<;>cases h),if_pos rfl]
theorem iQ{p:Int}(b:p≠3)(c:p≠5)(d:p≠6):bJ a p=aE p a:=by
 rw[bJ,if_neg (by rintro(⟨h,_⟩ | ⟨h,_⟩);exact b h;exact c h),if_neg d]
variable {F:Fz}
theorem KpsAt.up{c:Fz}{t:Nat}{a:SA}{l:List Kp}(h:SlR F t 2 (KpR F) a l)(b:Fz.le F c):SlR c t 2 (KpR c) a l:=SlR.mono h b fun _ _ h=>h.mono b
theorem vD(F:Fz):Fo prog F 111 [] (fun o a=>∃e,o=.ret (.va e)/\aW a e [(6,0)]/\capS e):=by
 refine foS func111 ?_;refine dZ 1 (fun _=>.arr 56 2 ([(6,0)].map enc) 1) ?_;intro b a d c;exact endFo (.ret (.va (.slice false 0 (b 0) 0 2 1 1))) a rfl d (Fz.r a) ⟨_,rfl,Sl.new (l:=[(6,0)]) (c 0 rfl),qi 1⟩ ⟨rfl,rfl,rfl,.inr ⟨rfl,rfl,rfl,rfl⟩⟩ rfl
theorem EL(F:Fz)(sk:SA)(m:Mig)(p:Int)(Y:KpsAt F sk m.keep)(hs:short m.keep)(hl:m.keep.length < 1000000):
  Fo prog F 51 [.agg (migS m sk),.va (.int .i64 p)] (fun o V=>∃b,o=.ret (.agg [.int .i64 p,b])/\aW V b (bJ m.keep p)/\capS b):=by
 have j:=fun F1 (a:Fz.le F F1) q=>us F1 sk m q (KpsAt.up Y a) hs hl
 have U:=fun F1 (a:Fz.le F F1) q=>xh F1 sk m q (KpsAt.up Y a) hs hl
 obtain⟨id,src,ab,aa,ks⟩:=m
 have fin:∀(b:SA) (F1:Fz) (h:Hp) (nx:Nat),capS b->aW F1 b (bJ ks p)->lget h 0=some (.frz F1)->Fz.le F F1->outE (.ret (.agg [.int .i64 p,b])) ((Out.ret (.agg [.int .i64 p,b])).ren (resP h))->
   Cln 1 (FoK F fun o V=>∃b,o=.ret (.agg [.int .i64 p,b])/\aW V b (bJ ks p)/\capS b) (.ret (.agg [.int .i64 p,b])) h nx:=by
  intro b F1 h nx X c h0 Z ho;have hz:=c.z;exact endFo (.ret (.agg [.int .i64 p,b])) F1 h0 Z (Fz.r F1) ⟨_,rfl,c,X⟩ ho (by simp[Out.z,SV.z,hz];rfl)
 obtain⟨kn,kb,ke,kc,kL,kr,rfl,k1,k2,k3,k4⟩:=Y;by_cases p3:p=3
 ·skip
  subst p3;refine foS func51 ?_;refine useFs (j F (Fz.r F) 3) ?_;rintro _ F1 a ⟨sb,rfl,c,e⟩;have d:=c;obtain⟨E,A,D,B,y,G,rfl,s,u,w,x⟩:=c;refine gae dd ?_;refine useFs (U F1 a 4) ?_;rintro _ n k rfl;refine br (fun g=>?_) (fun g=>?_)
  ·refine br (fun _=>?_) (fun h=>absurd (h.symm.trans g) ss);refine useFs (vD n) ?_;rintro _ W l3 ⟨sc,rfl,l,i⟩;have f:=l;obtain⟨S,O,R,Q,M,T,rfl,I,J,K,L⟩:=l;exact fin _ W _ _ i (by rw[iO ss g];exact f) rfl (Fz.t a (Fz.t k l3)) (aP _)
  ·refine gaf dd ?_;refine brd dd ?_;exact fin _ n _ _ e (by rw[iP ss g];exact d.mono k) rfl (Fz.t a k) (aP _)
 by_cases p5:p=5
 ·skip
  subst p5;refine foS func51 ?_;refine useFs (j F (Fz.r F) 5) ?_;rintro _ F1 a ⟨sb,rfl,c,e⟩;have d:=c;obtain⟨E,A,D,B,y,G,rfl,s,u,w,x⟩:=c;refine gaf dd ?_;refine gae dd ?_;refine useFs (U F1 a 3) ?_;rintro _ n k rfl;refine br (fun g=>?_) (fun g=>?_)
  ·refine useFs (vD n) ?_;rintro _ W l3 ⟨sc,rfl,l,i⟩;have f:=l;obtain⟨S,O,R,Q,M,T,rfl,I,J,K,L⟩:=l;exact fin _ W _ _ i (by rw[iO ss g];exact f) rfl (Fz.t a (Fz.t k l3)) (aP _)
  ·refine brd dd ?_;exact fin _ n _ _ e (by rw[iP ss g];exact d.mono k) rfl (Fz.t a k) (aP _)
 by_cases p6:p=6
 ·subst p6;refine foS func51 ?_;refine useFs (j F (Fz.r F) 6) ?_;rintro _ F1 a ⟨sb,rfl,c,e⟩;have d:=c;obtain⟨E,A,D,B,y,G,rfl,s,u,w,x⟩:=c;refine gaf dd ?_;refine gaf dd ?_;refine bre dd ?_;refine useFs (j F1 a 7) ?_;rintro _ n k ⟨sc,rfl,l,i⟩;have f:=l;obtain⟨S,O,R,Q,M,T,rfl,I,J,K,L⟩:=l;exact fin _ n _ _ i (by rw[yF];exact f) rfl (Fz.t a k) (aP _)
 ·refine foS func51 ?_;refine useFs (j F (Fz.r F) p) ?_;rintro _ F1 a ⟨sb,rfl,c,e⟩;have d:=c;obtain⟨E,A,D,B,y,G,rfl,s,u,w,x⟩:=c;refine⟨fun g=>absurd (od g) p3,fun _=>?_⟩;refine⟨fun g=>absurd (od g) p5,fun _=>?_⟩;refine brj p6 ?_;exact fin _ F1 _ _ e (by rw[iQ p3 p5 p6];exact d) rfl a (aP _)
def bR(a:List Kp):List Kp:=(List.range 8).map fun k:Nat=>((k:Int)+1,bJ a ((k:Int)+1))
theorem gw(a:List Kp):(bR a).length=8:=by simp[bR]
theorem Db(a:List Kp)(k:Nat)(h:k < 8):(bR a)[k]? =some ((k:Int)+1,bJ a ((k:Int)+1)):=by simp[bR,h]
def RowOf(F:Fz)(f:Nat->Kp)(o:List ZC):Prop:=∀i (z:ZC),o[i]? =some z->KpR F z.1 (f i)
variable {o:List ZC}{f:Nat->Kp}
theorem RowOf.mono{b:Fz}(h:RowOf F f o)(a:Fz.le F b):RowOf b f o:=fun i z c=>(h i z c).mono a
theorem RowOf.nil:RowOf F f []:=fun i z a=>by simp at a
theorem RowOf.snoc(h:RowOf F f o){z:ZC}(g:KpR F z.1 (f o.length)):RowOf F f (o++[z]):=fun i y a=>by
 by_cases e:i < o.length
 ·rw[jo e]at a;exact h i y a
 ·rw[jt oo]at a
  have d:i - o.length=0:=by
   by_cases h1:i - o.length=0
   ·exact h1
   ·rw[qam (by simp;omega)]at a;cases a
  rw[d]at a;have c:z=y:=by simpa using a
  have b:i=o.length:=by omega
  rw[<-c,b];exact g
theorem RowOf.sl{t b a cap:Nat}{l:List Kp}(h:RowOf F f o)(g:F b=some (.arr t 2 (o.map encZ) a))(d:o.length=l.length)(i:∀k x,l[k]? =some x->x=f k):SlR F t 2 (KpR F) (.slice false 0 b 0 2 l.length cap) l:=
 SlR.new g (by rw[qa,d]) fun k x e=>by
  have c:k < o.length:=by rw[d];exact(qg.1 e).1
  exact⟨encZ o[k],by rw[qt,qc c];rfl,by rw[i k x e];exact h k o[k] (qc c)⟩
def mkZ(p:Int)(a:SA)(h:a.z=true):ZC:=⟨[.int .i64 p,a],fun x b=>by
 simp only[qh,qq,or_false]at b;rcases b with rfl | rfl
 ·rfl
 ·exact h⟩
def fB(o:List ZC):Prop:=∀z∈o,∃p a,z.1=[.int .i64 p,a]/\capS a
theorem fB.nil:fB []:=fun z h=>absurd h ss
theorem fB.snoc(h:fB o){p:Int}{a:SA}{c:a.z=true}(b:capS a):fB (o++[mkZ p a c]):=fun z hm=>by
 rcases yf.1 hm with hm | hm
 ·exact h z hm
 ·rw[qs]at hm;subst hm;exact⟨p,a,rfl,b⟩
theorem DY(F:Fz)(sk:SA)(m:Mig)(T:KpsAt F sk m.keep)(hs:short m.keep)(hl:m.keep.length < 1000000):
  Fo prog F 16 [.agg (migS m sk)] (fun o D=>(migOk m=false/\o=.ret (.tup [.va .nilsl,.va (.int .i64 90)]))\/
   (migOk m=true/\∃b c,o=.ret (.tup [.va (.slice false 0 b 0 2 8 c),.va (.int .i64 0)])/\ClsAt D (.slice false 0 b 0 2 8 c) (bR m.keep)/\8<=c/\∃r:List ZC,D b=some (.arr 52 2 (r.map encZ) c)/\fB r/\r.length=8)):=by
 have ak:=fun F1 (l1:Fz.le F F1) q=>EL F1 sk m q (KpsAt.up T l1) hs hl
 have O:=vF F sk m T hs hl;have K:=fun n (h:sk.below n)=>jS (n:=n) m h
 obtain⟨id,src,V,E,p⟩:=m;replace T:KpsAt F sk p:=T;obtain⟨v,hv⟩:∃v,migOk ⟨id,src,V,E,p⟩=v:=⟨_,rfl⟩
 rw[hv]at O ⊢;clear hv;obtain⟨kn,kb,ke,kc,kL,kr,rfl,k1,k2,k3,k4⟩:=T;replace K:∀n,0 < n->(Ent.one (.cells 32 (migS ⟨id,src,V,E,p⟩ (.slice kn 0 kb ke 2 p.length kc)))).below n:=fun n hn=>K n (.inr hn)
 rcases v with _ | _
 ·refine foS func16 ?_;refine useFs O ?_;rintro _ F1 l1 rfl;refine bre dd ?_;exact endFs (.ret (.tup [.va .nilsl,.va (.int .i64 90)])) l1 (.inl ⟨rfl,rfl⟩)
 ·refine foS func16 ?_;refine useFs O ?_;rintro _ F1 l1 rfl;refine brd dd ?_;conv=>whnf
  refine aH hΘ (X:={ y:Nat×List ZC×Nat×Fz // Fz.le F y.2.2.2/\y.1<=8/\y.2.1.length=y.1/\RowOf y.2.2.2 (fun k=>((k:Int)+1,bJ p ((k:Int)+1))) y.2.1/\fB y.2.1/\y.2.1.length<=y.2.2.1 }) (fun y=>[(4,.va (gA 2 2 y.1.2.2.1 y.1.2.1)),(9,.va (.int .i64 y.1.1))]) (5::jr 10 11 [])
   (fun y=>[(0,.frz y.1.2.2.2),(1,.one (.cells 32 (migS ⟨id,src,V,E,p⟩ (.slice kn 0 kb ke 2 p.length kc)))),(2,gE 52 2 encZ y.1.2.2.1 y.1.2.1)]) 3 (fun y=>8 - y.1.1) ⟨(0,[],0,F1),l1,by omega,rfl,RowOf.nil,fB.nil,qi 0⟩
   (fun hH hT=>leI [(2,2)] hH hT rfl ⟨tv,K 3 oo,bP aD oo _ _ _ _,tv⟩ ⟨rfl,rfl,tv⟩ ⟨Fz.r F1,rfl,rfl,tv⟩) ?_
  rintro⟨⟨k,o,co,G⟩,hG,T,ho,w,s,Z⟩ hH hT;replace s:fB o:=s;replace Z:o.length<=co:=Z;replace hG:Fz.le F G:=hG;replace T:k<=8:=T;replace ho:o.length=k:=ho;replace w:RowOf G (fun k=>((k:Int)+1,bJ p ((k:Int)+1))) o:=w;by_cases g:k < 8
  ·have Q:(k:Int) < 8:=by omega
   have ac:k+1<=8:=g;have S:8 - (k+1) < 8 - k:=by omega
   have J:k < 4611686018427387904:=by omega
   have hw:SA.int .i64 ((k:Int)+1)=SA.int .i64 (IntKind.i64.wrap ((k:Int)+1)):=cnt J;have I:=ak G hG ((k:Int)+1);have ad:∀(B:Fz) (z:ZC),Fz.le G B->KpR B z.1 ((k:Int)+1,bJ p ((k:Int)+1))->RowOf B (fun k=>((k:Int)+1,bJ p ((k:Int)+1))) (o++[z]):=fun B z A hz=>(w.mono A).snoc (by rw[ho];exact hz)
   have U:∀z:ZC,(o++[z]).length=k+1:=fun z=>by rw[qb,ho];rfl
   rcases o with _ | ⟨o0,u⟩
   ·refine bri Q ?_;refine useFo I rfl ⟨rfl,hw,tv⟩ rfl ?_;rintro _ B l2 ⟨sa,rfl,L,Y⟩;have M:=L;obtain⟨f,a,e,d,ai,aj,rfl,ae,af,ag,ah⟩:=L;refine⟨nb rfl,[[.int .i64 ((k:Int)+1),.slice f 0 a e 2 (bJ p ((k:Int)+1)).length d]],rfl,rfl,rfl,by show 1*32<=140737488355328;omega,fun c' W=>?_⟩;exact⟨⟨(k+1,[]++[mkZ ((k:Int)+1) (.slice f 0 a e 2 (bJ p ((k:Int)+1)).length d) rfl],c',B),Fz.t hG l2,ac,U _,ad B _ l2 ⟨_,rfl,M⟩,s.snoc Y,by simpa using W⟩,S,leR [(2,4)] hH hT rfl ⟨tv,K 3 oo,bP aD oo _ _ _ _,tv⟩ ⟨by(conv=>whnf);exact⟨rfl,rfl,rfl,.inr ⟨rfl,rfl,rfl,rfl⟩⟩,cnt J,tv⟩ ⟨Fz.r B,rfl,cQ (μ:=sig [(2,4)]) aD (fun k=>rfl) (aZ _ (by rw[qo];rfl)),tv⟩⟩
   ·have an:(u.length+1+1)*32<=140737488355328:=by
     have h9:u.length+1=k:=ho;omega
    refine bri Q ?_;refine useFo I rfl ⟨rfl,hw,tv⟩ rfl ?_;rintro _ B l2 ⟨sa,rfl,L,Y⟩;have M:=L;obtain⟨f,a,e,d,ai,aj,rfl,ae,af,ag,ah⟩:=L;refine⟨nb rfl,[[.int .i64 ((k:Int)+1),.slice f 0 a e 2 (bJ p ((k:Int)+1)).length d]],rfl,rfl,rfl,by simp,rfl,an,fun c' W=>?_⟩;exact⟨⟨(k+1,(o0::u)++[mkZ ((k:Int)+1) (.slice f 0 a e 2 (bJ p ((k:Int)+1)).length d) rfl],c',B),Fz.t hG l2,ac,U _,ad B _ l2 ⟨_,rfl,M⟩,s.snoc Y,by simpa using W⟩,S,leR [(2,4)] hH hT rfl ⟨tv,K 3 oo,bP aD oo _ _ _ _,tv⟩ ⟨ed (μ:=sig [(2,4)]) (i:=2) (j:=4) rfl 2 c' _ (o0::u) (mkZ ((k:Int)+1) (.slice f 0 a e 2 (bJ p ((k:Int)+1)).length d) rfl) rfl,cnt J,tv⟩ ⟨Fz.r B,rfl,cQ (μ:=sig [(2,4)]) aD (fun k=>rfl) (aZ _ (by rw[qo];rfl)),tv⟩⟩
  ·have Q:¬(k:Int) < 8:=by omega
   have al:k=8:=by omega
   have R:o.length=8:=ho.trans al
   have ab:∀(D:Fz) (b c:Nat),Fz.le G D->D b=some (.arr 52 2 (o.map encZ) c)->ClsAt D (.slice false 0 b 0 2 8 c) (bR p):=fun D b c A hb=>by
    have h:=(w.mono A).sl (cap:=c) (l:=bR p) hb (by rw[R,gw]) fun i x hx=>by
     have hi:i < 8:=by have:=(qg.1 hx).1;rw[gw]at this;exact this
     rw[Db p i hi]at hx;exact(Option.some.inj hx).symm
    rw[gw]at h;exact h
   rcases o with _ | ⟨o0,u⟩
   ·cases R
   ·have am:u.length+1=8:=R;refine brj Q ?_;refine cD 2 (fun _=>.arr 52 2 ((o0::u).map encZ) co) rfl rfl rfl (fun _ _=>by exact dt (μ:=resP _) aD (fun k=>rfl) rfl _ _ _) (fun _ _=>dv aD oo _ _ _ _) ?_;intro b' D A aa;refine endFo (.ret (.tup [.va (.slice false 0 (b' 0) 0 2 8 co),.va (.int .i64 0)])) D rfl (Fz.t hG A) (Fz.r D) (.inr ⟨rfl,_,_,rfl,ab D _ _ A (aa 0 ⟨rfl,rfl⟩),by have h9:u.length+1<=co:=Z;omega,_,aa 0 ⟨rfl,rfl⟩,s,R⟩) ?_ rfl;exact⟨⟨rfl,am.symm,rfl,.inr ⟨rfl,rfl,rfl,rfl⟩⟩,rfl,tv⟩
theorem EM(F:Fz)(sk:SA)(m:Mig)(f:KpsAt F sk m.keep)(i:short m.keep)(g:m.keep.length < 1000000):
  Fo prog F 16 [.agg (migS m sk)] (fun o a=>(migOk m=false/\o=.ret (.tup [.va .nilsl,.va (.int .i64 90)]))\/
   (migOk m=true/\∃b c,o=.ret (.tup [.va (.slice false 0 b 0 2 8 c),.va (.int .i64 0)])/\ClsAt a (.slice false 0 b 0 2 8 c) (bR m.keep))):=
 pG (DY F sk m f i g) fun _ _ h=>h.imp id fun⟨h1,b,c,d,e,_⟩=>⟨h1,b,c,d,e⟩
structure Crt where
 src:List UInt8
 dst:List UInt8
 len:Int
 cl:List Kp
abbrev crtS(c:Crt)(sk:SA):List SA:=[.str c.src,.str c.dst,.int .i64 c.len,sk]
theorem cR{n:Nat}(c:Crt){t:Nat}{sk:SA}(h:sk.below n):(Ent.one (.cells t (crtS c sk))).below n:=by
 intro a b;simp only[qh,qq,or_false]at b;rcases b with rfl | rfl | rfl | rfl
 ·trivial
 ·trivial
 ·trivial
 ·exact h
def clAt(x:Kp)(i:Int):Bool:=decide (x.1=i)&&(aN x.1 x.2&&decide (normS x.2=x.2))
def clOk:List Kp->Int->Bool
 |[],_=>true
 |x::r,i=>clAt x i&&clOk r (i+1)
theorem uT(l:List Kp)(k:Nat)(i:Int)(h:k < l.length):clOk (l.drop k) i=(clAt (l[k]'h) i&&clOk (l.drop (k+1)) (i+1)):=by
 rw[jj h];rfl
def crtOk(c:Crt):Bool:=decide (c.src.length=32)&&(decide (c.dst.length=32)&&(decide (1<=c.len)&&(decide (c.len<=64)&&(decide (c.cl.length=8)&&clOk c.cl 1))))
theorem clA1{x:Kp}{i j:Int}(a:j=i)(h:(!decide (x.1=j))=true):clAt x i=false:=by
 subst a;have:decide (x.1=j)=false:=by simpa using h
 simp only[clAt,this,jv]
theorem clA2{x:Kp}{i:Int}(h:(!decide ((normR x.1 x.2).2=0))=true):clAt x i=false:=by
 have a:aN x.1 x.2=false:=by
  cases b:aN x.1 x.2 with
  |false=>rfl
  |true=>rw[normR,if_pos b]at h;cases h
 simp only[clAt,a,jv,yq]
theorem clA3{x:Kp}{i:Int}(b:(!decide ((normR x.1 x.2).2=0))=false)(h:(!decide ((normR x.1 x.2).1=x.2))=true):clAt x i=false:=by
 have c:=mh (p:=x.1) (l:=x.2) (by simpa using b);have a:decide ((normR x.1 x.2).1=x.2)=false:=by simpa using h
 rw[c.2]at a;simp only[clAt,a,yq]
theorem clAT{x:Kp}{i j:Int}(e:j=i)(h1:(!decide (x.1=j))=false)(c:(!decide ((normR x.1 x.2).2=0))=false)(h:(!decide ((normR x.1 x.2).1=x.2))=false):clAt x i=true:=by
 subst e;have a:=mh (p:=x.1) (l:=x.2) (by simpa using c);have b:decide ((normR x.1 x.2).1=x.2)=true:=by simpa using h
 have d:decide (x.1=j)=true:=by simpa using h1
 rw[a.2]at b;simp only[clAt,d,a.1,b,Bool.and_self]
variable {c:Crt}
theorem cOk1(h:(!decide ((c.src.length:Int)=32))=true):crtOk c=false:=by
 have:decide (c.src.length=32)=false:=by simp at h ⊢;omega
 simp only[crtOk,this,jv]
theorem cOk2(h:(!decide ((c.dst.length:Int)=32))=true):crtOk c=false:=by
 have:decide (c.dst.length=32)=false:=by simp at h ⊢;omega
 simp only[crtOk,this,jv,yq]
theorem cOk3(h:decide (c.len < 1)=true):crtOk c=false:=by
 have:decide (1<=c.len)=false:=by simp at h ⊢;omega
 simp only[crtOk,this,jv,yq]
theorem cOk4(h:decide (64 < c.len)=true):crtOk c=false:=by
 have:decide (c.len<=64)=false:=by simp at h ⊢;omega
 simp only[crtOk,this,jv,yq]
theorem cOk5(h:(!decide ((c.cl.length:Int)=8))=true):crtOk c=false:=by
 have:decide (c.cl.length=8)=false:=by simp at h ⊢;omega
 simp only[crtOk,this,jv,yq]
theorem cOkT(h1:(!decide ((c.src.length:Int)=32))=false)(g:(!decide ((c.dst.length:Int)=32))=false)(h:decide (c.len < 1)=false)(i:decide (64 < c.len)=false)(j:(!decide ((c.cl.length:Int)=8))=false):crtOk c=clOk c.cl 1:=by
 have a:decide (c.src.length=32)=true:=by simp at h1 ⊢;omega
 have b:decide (c.dst.length=32)=true:=by simp at g ⊢;omega
 have d:decide (1<=c.len)=true:=by simp at h ⊢;omega
 have e:decide (c.len<=64)=true:=by simp at i ⊢;omega
 have f:decide (c.cl.length=8)=true:=by simp at j ⊢;omega
 simp only[crtOk,a,b,d,e,f,qab]
theorem gG(F:Fz)(sk:SA)(c:Crt)(Y:ClsAt F sk c.cl)(hs:short c.cl)(hl:c.cl.length < 1000000):
  Fo prog F 25 [.agg (crtS c sk)] (fun o _=>o=.ret (.va (.bool (crtOk c)))):=by
 have e1:=cOk1 (c:=c);have e2:=cOk2 (c:=c);have e3:=cOk3 (c:=c);have e4:=cOk4 (c:=c);have e5:=cOk5 (c:=c);have eT:=cOkT (c:=c);obtain⟨v,hv⟩:∃v,crtOk c=v:=⟨_,rfl⟩
 rw[hv]at e1 e2 e3 e4 e5 eT ⊢;clear hv;obtain⟨src,O,len,d⟩:=c;replace Y:ClsAt F sk d:=Y;replace hs:short d:=hs;replace hl:d.length < 1000000:=hl
 have fin:∀(b:Bool) (F1:Fz) (h:Hp) (nx:Nat),v=b->lget h 0=some (.frz F1)->Fz.le F F1->Cln 1 (FoK F fun o F'=>o=.ret (.va (.bool v))) (.ret (.va (.bool b))) h nx:=by
  intro b F1 h nx B S q;exact endFo (.ret (.va (.bool b))) F1 S q (Fz.r F1) (by rw[B]) rfl rfl
 have finL:∀(b:Bool) (F1:Fz) (h:Hp) (nx:Nat),v=b->lget h 0=some (.frz F1)->Fz.le F F1->Cln 1 (FoK F fun o F'=>o=.ret (.va (.bool v))) (.ret (.va (.lit b))) h nx:=by
  intro b F1 h nx B S q;exact endFo (.ret (.va (.bool b))) F1 S q (Fz.r F1) (by rw[B]) rfl rfl
 obtain⟨kn,kb,ke,kc,kL,kr,rfl,k1,k2,k3,k4⟩:=Y;refine foS func25 ?_;refine⟨fun m=>?_,fun m=>?_⟩
 rotate_left
 ·exact fin false F _ _ (e1 m) rfl (Fz.r F)
 refine⟨fun e=>?_,fun e=>?_⟩
 rotate_left
 ·exact fin false F _ _ (e2 e) rfl (Fz.r F)
 refine⟨fun n=>?_,fun n=>?_⟩
 rotate_left
 ·exact fin false F _ _ (e3 n) rfl (Fz.r F)
 refine⟨fun Q=>?_,fun Q=>?_⟩
 rotate_left
 ·exact fin false F _ _ (e4 Q) rfl (Fz.r F)
 refine br (fun R=>?_) (fun R=>?_)
 ·exact fin false F _ _ (e5 R) rfl (Fz.r F)
 conv=>whnf
 have A:=eT m e n Q R
 refine aH hΘ (X:={ x:Nat×Fz // Fz.le F x.2/\x.1<=d.length/\v=clOk (d.drop x.1) ((x.1:Int)+1) }) (fun x=>[(36,.va (.int .i64 x.1.1))]) (2::3::4::5::6::jr 37 29 [])
  (fun x=>[(0,.frz x.1.2),(1,.one (.cells 48 (crtS ⟨src,O,len,d⟩ (.slice kn 0 kb ke 2 d.length kc))))]) 2 (fun x=>d.length - x.1.1) ⟨(0,F),Fz.r F,by simp,A⟩
  (fun T A=>leI [] T A rfl ⟨tv,cR _ (.inr oo),tv⟩ ⟨rfl,tv⟩ ⟨Fz.r F,rfl,tv⟩) ?_
 rintro⟨⟨k,G⟩,f,I,l⟩ T A;replace f:Fz.le F G:=f;replace I:k<=d.length:=I;replace l:v=clOk (d.drop k) ((k:Int)+1):=l;by_cases g:k < d.length
 ·have K:(k:Int) < (d.length:Int):=by omega
  have D:d.length - (k+1) < d.length - k:=by omega
  have E:k < 4611686018427387904:=by omega
  have hw:IntKind.i64.wrap ((k:Int)+1)=(k:Int)+1:=aI oo oo;have hx:=hs (d[k]'g) (qx g);rw[uT d k _ g]at l;have s:clAt (d[k]'g) ((k:Int)+1)=false->v=false:=fun h=>by rw[l,h,jv]
  have Z:clAt (d[k]'g) ((k:Int)+1)=true->v=clOk (d.drop (k+1)) (((k+1:Nat):Int)+1):=fun h=>by rw[l,h,qab];rfl
  have w:=SlR.at k4 g;obtain⟨y,hy,a,rfl,U⟩:=w;have p:=ur G a (d[k]'g).2 (d[k]'g).1 (U.mono f) hx;have W:=fun F1 (L:Fz.le G F1) sb B=>kp F1 sb a (normR (d[k]'g).1 (d[k]'g).2).1 (d[k]'g).2 B ((U.mono f).mono L) (oB _ _)
  have j:=SlR.lt k1 g;have q1:=clA1 (x:=d[k]'g) hw;have q2:=clA2 (x:=d[k]'g) (i:=(k:Int)+1);have q3:=clA3 (x:=d[k]'g) (i:=(k:Int)+1);have qT:=clAT (x:=d[k]'g) hw;obtain⟨au,ap,ar,aq,ao,av,rfl,ak,al,am,an⟩:=U;refine bri K ⟨j,⟨by simp,K⟩,_,f _ _ (k2 j),_,hy,?_⟩;refine useFs p ?_;rintro _ u L ⟨sc,rfl,J⟩;have V:=W u L sc J;have M:=Fz.t f L;obtain⟨ai,af,ah,ag,ae,aj,rfl,aa,ab,ac,ad⟩:=J;refine⟨fun m=>?_,fun m=>?_⟩
  rotate_left
  ·exact fin false u _ _ (s (q1 m)) rfl M
  refine⟨fun e=>?_,fun e=>?_⟩
  rotate_left
  ·exact fin false u _ _ (s (q2 e)) rfl M
  refine usePs (V) ?_;refine br (fun n=>?_) (fun n=>?_)
  ·exact fin false u _ _ (s (q3 e n)) rfl M
  ·exact⟨⟨(k+1,u),M,g,Z (qT m e n)⟩,D,leR [] T A rfl ⟨tv,cR _ (.inr oo),tv⟩ ⟨cnt E,tv⟩ ⟨Fz.r u,rfl,tv⟩⟩
 ·have K:¬(k:Int) < (d.length:Int):=by omega
  rw[yg oo]at l;refine brj K ?_;conv=>whnf
  first | exact fin true G _ _ l rfl f | exact finL true G _ _ l rfl f
theorem B1(F:Fz)(f g:SA)(p q:Int)(a b:List Stp)(i:aW F f a)(j:aW F g b)(S:a.length < 1000000):
  Fo prog F 66 [.agg [.int .i64 p,f],.agg [.int .i64 q,g]] (fun o c=>o=.ret (.va (.bool (decide (((p,a):Kp)=(q,b)))))/\c=F):=by
 have e:=kp F f g a b i j S
 have fin:∀(v:Bool) (h:Hp) (nx:Nat),decide (((p,a):Kp)=(q,b))=v->lget h 0=some (.frz F)->Cln 1 (FoK F fun o c=>o=.ret (.va (.bool (decide (((p,a):Kp)=(q,b)))))/\c=F) (.ret (.va (.bool v))) h nx:=by
  intro v h nx R k;exact endPu k (Fz.r F) (ob R) rfl
 obtain⟨A,w,y,x,u,B,rfl,l,m,n,s⟩:=i;obtain⟨O,K,M,L,J,Q,rfl,D,E,G,I⟩:=j;refine foS func66 ?_;refine⟨fun d=>?_,fun d=>?_⟩
 ·refine usePs (e) ?_;exact fin _ _ _ (by have h:=od d;subst h;simp) rfl
 ·exact fin _ _ _ (by have h:=oe d;simp[h]) rfl
theorem Co(F:Fz)(A B:SA)(a b:List Kp)(u:ClsAt F A a)(w:ClsAt F B b)(hs:short a)(la:a.length < 1000000):
  Fo prog F 65 [.va A,.va B,.va (.fn (.func 66) [])] (fun o i=>o=.ret (.va (.bool (decide (a=b))))/\i=F):=by
 have fin:∀(v:Bool) (h:Hp) (nx:Nat),decide (a=b)=v->lget h 0=some (.frz F)->Cln 1 (FoK F fun o i=>o=.ret (.va (.bool (decide (a=b))))/\i=F) (.ret (.va (.bool v))) h nx:=by
  intro v h nx L G;exact endPu G (Fz.r F) (ob L) rfl
 have finL:∀(v:Bool) (h:Hp) (nx:Nat),decide (a=b)=v->lget h 0=some (.frz F)->Cln 1 (FoK F fun o i=>o=.ret (.va (.bool (decide (a=b))))/\i=F) (.ret (.va (.lit v))) h nx:=by
  intro v h nx L G;exact endPu G (Fz.r F) (by rw[L];exact rfl) rfl
 obtain⟨an,ab,ae,ac,aL,ar,rfl,Q,R,a3,S⟩:=u;obtain⟨bn,bb,be,bc,bL,W,rfl,T,U,b3,V⟩:=w;refine foS func65 ?_;refine br (fun g=>?_) (fun g=>?_)
 ·refine fin _ _ _ ?_ rfl;have:¬a=b:=by rintro rfl;simp at g
  simp[this]
 ·have Y:a.length=b.length:=neq_f g
  conv=>whnf
  refine aH hΘ (X:={ k:Nat // k<=a.length/\a.take k=b.take k }) (fun x=>[(17,.va (.int .i64 x.1))]) (6::7::8::9::jr 18 14 []) (fz fun _=>F) 1 (fun x=>a.length - x.1) ⟨0,by simp,rfl⟩
   (fun I J=>leI [] I J rfl ⟨tv,tv⟩ ⟨rfl,tv⟩ ⟨Fz.r F,tv⟩) ?_
  rintro⟨k,a0,O⟩ I J;by_cases g:k < a.length
  ·have d:k < b.length:=Y▸g;have s:(k:Int) < (a.length:Int):=by omega
   have E:(k:Int) < (b.length:Int):=by omega
   have l:a.length - (k+1) < a.length - k:=by omega
   have m:k < 4611686018427387904:=by omega
   have hx:=hs (a[k]'g) (qx g);have c:=SlR.at S g;obtain⟨y,hy,A,rfl,u⟩:=c;have c:=SlR.at V d;obtain⟨z,hz,B,rfl,w⟩:=c;have f:=B1 F A B (a[k]'g).1 (b[k]'d).1 (a[k]'g).2 (b[k]'d).2 u w hx;have n:=SlR.lt Q g;have p:=SlR.lt T d;have K:a[k]'g=b[k]'d->a.take (k+1)=b.take (k+1):=fun h=>by rw[qf g,qf d,O,h]
   have j:¬a[k]'g=b[k]'d->decide (a=b)=false:=fun h=>decide_eq_false fun e=>h (by subst e;rfl)
   obtain⟨ak,ah,aj,ai,ag,al,rfl,Z,aa,ad,af⟩:=u;obtain⟨ay,av,ax,aw,au,az,rfl,am,ao,ap,aq⟩:=w;refine bri s ⟨n,⟨by simp,s⟩,_,R n,_,hy,p,⟨by simp,E⟩,_,U p,_,hz,?_⟩;refine usePs (f) ?_;refine br (fun D=>?_) (fun D=>?_)
   ·conv=>whnf
    have q:(!decide (a[k]'g=b[k]'d))=true:=D
    first | exact fin false _ _ (j (by simpa using q)) rfl | exact finL false _ _ (j (by simpa using q)) rfl
   ·conv=>whnf
    have q:(!decide (a[k]'g=b[k]'d))=false:=D;exact⟨⟨k+1,g,K (by simpa using q)⟩,l,leR [] I J rfl ⟨tv,tv⟩ ⟨cnt m,tv⟩ ⟨Fz.r F,tv⟩⟩
  ·have s:¬(k:Int) < (a.length:Int):=by omega
   have M:decide (a=b)=true:=decide_eq_true (by rw[<-ql (show a.length<=k by omega),O,ql oo]);refine brj s ?_;conv=>whnf
   first | exact fin true _ _ M rfl | exact finL true _ _ M rfl
theorem beqD{s t:List UInt8}{x:Bool}(h:(s==t)=x):decide (s=t)=x:=by rw[<-h,qdk];simp
def gW(a b:Crt):Bool:=decide (a.src=b.src)&&(decide (a.dst=b.dst)&&(decide (a.len=b.len)&&decide (a.cl=b.cl)))
theorem wm(F:Fz)(l m:SA)(a b:Crt)(s:ClsAt F l a.cl)(u:ClsAt F m b.cl)(y:short a.cl)(B:a.cl.length < 1000000):
  Fo prog F 27 [.agg (crtS a l),.agg (crtS b m)] (fun o d=>o=.ret (.va (.bool (gW a b)))/\d=F):=by
 have c:=Co F l m a.cl b.cl s u y B;obtain⟨g,d1,e,j⟩:=a;obtain⟨i,d2,f,k⟩:=b;replace c:Fo prog F 65 [.va l,.va m,.va (.fn (.func 66) [])] (fun o d=>o=.ret (.va (.bool (decide (j=k))))/\d=F):=c;show Fo prog F 27 [.agg (crtS ⟨g,d1,e,j⟩ l),.agg (crtS ⟨i,d2,f,k⟩ m)] (fun o d=>o=.ret (.va (.bool (decide (g=i)&&(decide (d1=d2)&&(decide (e=f)&&decide (j=k))))))/\d=F)
 have fin:∀(v:Bool) (h:Hp) (nx:Nat),(decide (g=i)&&(decide (d1=d2)&&(decide (e=f)&&decide (j=k))))=v->lget h 0=some (.frz F)->Cln 1 (FoK F fun o d=>o=.ret (.va (.bool (decide (g=i)&&(decide (d1=d2)&&(decide (e=f)&&decide (j=k))))))/\d=F) (.ret (.va (.bool v))) h nx:=by
  intro v h nx A x;exact endPu x (Fz.r F) (ob A) rfl
 obtain⟨J,E,I,G,D,ar,rfl,-,-,-,-⟩:=s;obtain⟨Q,L,O,M,K,w,rfl,-,-,-,-⟩:=u;refine foS func27 ?_;refine⟨fun n=>?_,fun n=>?_⟩
 rotate_left
 ·exact fin false _ _ (by rw[show decide (g=i)=false from beqD n];rfl) rfl
 refine⟨fun p=>?_,fun p=>?_⟩
 rotate_left
 ·exact fin false _ _ (by rw[show decide (d1=d2)=false from beqD p];simp) rfl
 refine⟨fun q=>?_,fun q=>?_⟩
 rotate_left
 ·exact fin false _ _ (by rw[show decide (e=f)=false from q];simp) rfl
 refine usePs (c) ?_;exact fin _ _ _ (by rw[show decide (g=i)=true from beqD n,show decide (d1=d2)=true from beqD p,show decide (e=f)=true from q];rfl) rfl
end Go.Proofs.YtfnkamphhpldcaaGreatDoor
namespace Go.Proofs
open Go.Shelf Tryz
theorem Tryz.tk{α:Type}{a:Option α}{b c:α}(h:a=some b)(k:b=c:=by kernel_rfl):a=some c:=h.trans (congrArg some k)
def Tryz.lays159_ren:Go.Shelf.Ren:=⟨fun | 159=>247 | 165=>257 | 166=>224 | 167=>264 | 169=>104 | 230=>265 | 204=>266 | 240=>256 | 241=>273 | 197=>260 | 118=>278 | 168=>279 | 270=>280 | 262=>281 | 276=>272 | 277=>287 | 260=>274 | 242=>292 | 313=>293 | 278=>298 | 274=>299 | 275=>300 | n=>n,fun | 9=>9 | 4=>4 | 3=>3 | 5=>5 | 72=>172 | 0=>0 | 76=>281 | 75=>125 | 107=>329 | 70=>170 | 20=>20 | 37=>81 | 127=>238 | 21=>21 | 105=>323 | 164=>334 | 162=>353 | 203=>351 | 119=>345 | 46=>220 | 139=>348 | 138=>347 | 51=>231 | 160=>355 | 208=>362 | 206=>360 | 80=>155 | n=>n,fun | 13=>3 | 3=>1 | 4=>2 | n=>n⟩
theorem Tryz.lays159:Go.Proofs.Lays.n159 prog Tryz.lays159_ren:={
 mixed:=by kernel_rfl
 f118:=Tryz.tk func278
 f159:=Tryz.tk func247
 f165:=Tryz.tk func257
 f166:=Tryz.tk func224
 f167:=Tryz.tk func264
 f168:=Tryz.tk func279
 f169:=Tryz.tk func104
 f197:=Tryz.tk func260
 f204:=Tryz.tk func266
 f230:=Tryz.tk func265
 f240:=Tryz.tk func256
 f241:=Tryz.tk func273
 f242:=Tryz.tk func292
 f260:=Tryz.tk func274
 f262:=Tryz.tk func281
 f270:=Tryz.tk func280
 f274:=Tryz.tk func299
 f275:=Tryz.tk func300
 f276:=Tryz.tk func272
 f277:=Tryz.tk func287
 f278:=Tryz.tk func298
 f313:=Tryz.tk func293
 t0:=underlying0
 a0:=Tryz.isAgg0
 z0:=Tryz.sizeOf0
 v0:=Tryz.zeroValue0
 t3:=underlying3
 a3:=Tryz.isAgg3
 z3:=Tryz.sizeOf3
 v3:=Tryz.zeroValue3
 t4:=underlying4
 a4:=Tryz.isAgg4
 z4:=Tryz.sizeOf4
 v4:=Tryz.zeroValue4
 t5:=underlying5
 a5:=Tryz.isAgg5
 z5:=Tryz.sizeOf5
 v5:=Tryz.zeroValue5
 t9:=underlying9
 a9:=Tryz.isAgg9
 z9:=Tryz.sizeOf9
 v9:=Tryz.zeroValue9
 t20:=underlying20
 a20:=Tryz.isAgg20
 z20:=Tryz.sizeOf20
 v20:=Tryz.zeroValue20
 t21:=underlying21
 a21:=Tryz.isAgg21
 z21:=Tryz.sizeOf21
 v21:=Tryz.zeroValue21
 t37:=underlying81
 a37:=Tryz.isAgg81
 z37:=Tryz.sizeOf81
 v37:=Tryz.zeroValue81
 t46:=underlying220
 a46:=Tryz.isAgg220
 z46:=Tryz.sizeOf220
 v46:=Tryz.zeroValue220
 t51:=underlying231
 a51:=Tryz.isAgg231
 z51:=Tryz.sizeOf231
 v51:=Tryz.zeroValue231
 t70:=underlying170
 a70:=Tryz.isAgg170
 z70:=Tryz.sizeOf170
 v70:=Tryz.zeroValue170
 t72:=underlying172
 a72:=Tryz.isAgg172
 z72:=Tryz.sizeOf172
 v72:=Tryz.zeroValue172
 t75:=underlying125
 a75:=Tryz.isAgg125
 z75:=Tryz.sizeOf125
 v75:=Tryz.zeroValue125
 t76:=underlying281
 a76:=Tryz.isAgg281
 z76:=Tryz.sizeOf281
 v76:=Tryz.zeroValue281
 t105:=underlying323
 a105:=Tryz.isAgg323
 z105:=Tryz.sizeOf323
 v105:=Tryz.zeroValue323
 t107:=underlying329
 a107:=Tryz.isAgg329
 z107:=Tryz.sizeOf329
 v107:=Tryz.zeroValue329
 t119:=underlying345
 a119:=Tryz.isAgg345
 z119:=Tryz.sizeOf345
 t127:=underlying238
 a127:=Tryz.isAgg238
 z127:=Tryz.sizeOf238
 v127:=Tryz.zeroValue238
 t138:=underlying347
 a138:=Tryz.isAgg347
 z138:=Tryz.sizeOf347
 v138:=Tryz.zeroValue347
 t139:=underlying348
 a139:=Tryz.isAgg348
 z139:=Tryz.sizeOf348
 v139:=Tryz.zeroValue348
 t160:=underlying355
 a160:=Tryz.isAgg355
 z160:=Tryz.sizeOf355
 v160:=Tryz.zeroValue355
 t162:=underlying353
 a162:=Tryz.isAgg353
 z162:=Tryz.sizeOf353
 v162:=Tryz.zeroValue353
 t164:=underlying334
 a164:=Tryz.isAgg334
 z164:=Tryz.sizeOf334
 v164:=Tryz.zeroValue334
 t203:=underlying351
 a203:=Tryz.isAgg351
 z203:=Tryz.sizeOf351
 v203:=Tryz.zeroValue351
 t206:=underlying360
 a206:=Tryz.isAgg360
 z206:=Tryz.sizeOf360
 v206:=Tryz.zeroValue360
 t208:=underlying362
 a208:=Tryz.isAgg362
 z208:=Tryz.sizeOf362
 v208:=Tryz.zeroValue362
 g3:=by kernel_rfl
 g4:=by kernel_rfl
 g13:=by kernel_rfl }
theorem Tryz.Builder_Extra_159:Builder.Extra prog Tryz.lays159_ren:={
 sizeBuilder:=by kernel_rfl
 liesBuilder:=by kernel_rfl
 t5:=underlying5
 a5:=Tryz.isAgg5
 z5:=Tryz.sizeOf5
 v5:=Tryz.zeroValue5
 infoByte:=by kernel_rfl
 cellsByte:=by kernel_rfl
 sizeByte:=by kernel_rfl
 neB5:=by decide }
open Go.RowKit in
theorem Tryz.strings_ToLower_ascii(s:ByteArray)(w:World)(hs:s.size<=140737488355328)(hascii:∀(j:Nat) (b:UInt8),s.data.toList[j]? =some b->b.toNat < 128):
  Calls prog 247 #[.string s] w fun e w'=>e=.returned (.string ⟨(Lib.toLowerA s.data.toList).toArray⟩)/\Below w.heap.size w w':=Any.strings_ToLower_ascii Tryz.lays159 Tryz.Builder_Extra_159 s w hs hascii
def Tryz.lays160_ren:Go.Shelf.Ren:=⟨fun | 160=>184 | 232=>235 | 231=>234 | 227=>236 | 234=>238 | 233=>237 | 236=>240 | 235=>239 | 228=>259 | 271=>262 | 151=>261 | 197=>260 | 120=>276 | 152=>275 | 260=>274 | 137=>288 | 119=>289 | 224=>290 | 225=>291 | 217=>294 | 266=>301 | n=>n,fun | 9=>9 | 4=>4 | 3=>3 | 5=>5 | 117=>296 | 116=>295 | 0=>0 | 124=>299 | 21=>21 | 105=>323 | 46=>220 | 119=>345 | 139=>348 | 138=>347 | n=>n,fun | 3=>1 | 4=>2 | n=>n⟩
theorem Tryz.lays160:Go.Proofs.Lays.n160 prog Tryz.lays160_ren:={
 mixed:=by kernel_rfl
 f119:=Tryz.tk func289
 f120:=Tryz.tk func276
 f137:=Tryz.tk func288
 f151:=Tryz.tk func261
 f152:=Tryz.tk func275
 f160:=Tryz.tk func184
 f197:=Tryz.tk func260
 f217:=Tryz.tk func294
 f224:=Tryz.tk func290
 f225:=Tryz.tk func291
 f227:=Tryz.tk func236
 f228:=Tryz.tk func259
 f231:=Tryz.tk func234
 f232:=Tryz.tk func235
 f233:=Tryz.tk func237
 f234:=Tryz.tk func238
 f235:=Tryz.tk func239
 f236:=Tryz.tk func240
 f260:=Tryz.tk func274
 f266:=Tryz.tk func301
 f271:=Tryz.tk func262
 t0:=underlying0
 a0:=Tryz.isAgg0
 z0:=Tryz.sizeOf0
 v0:=Tryz.zeroValue0
 t3:=underlying3
 a3:=Tryz.isAgg3
 z3:=Tryz.sizeOf3
 v3:=Tryz.zeroValue3
 t4:=underlying4
 a4:=Tryz.isAgg4
 z4:=Tryz.sizeOf4
 v4:=Tryz.zeroValue4
 t5:=underlying5
 a5:=Tryz.isAgg5
 z5:=Tryz.sizeOf5
 v5:=Tryz.zeroValue5
 t9:=underlying9
 a9:=Tryz.isAgg9
 z9:=Tryz.sizeOf9
 v9:=Tryz.zeroValue9
 t21:=underlying21
 a21:=Tryz.isAgg21
 z21:=Tryz.sizeOf21
 v21:=Tryz.zeroValue21
 t46:=underlying220
 a46:=Tryz.isAgg220
 z46:=Tryz.sizeOf220
 v46:=Tryz.zeroValue220
 t105:=underlying323
 a105:=Tryz.isAgg323
 z105:=Tryz.sizeOf323
 v105:=Tryz.zeroValue323
 t116:=underlying295
 a116:=Tryz.isAgg295
 z116:=Tryz.sizeOf295
 t117:=underlying296
 a117:=Tryz.isAgg296
 z117:=Tryz.sizeOf296
 v117:=Tryz.zeroValue296
 t119:=underlying345
 a119:=Tryz.isAgg345
 z119:=Tryz.sizeOf345
 t124:=underlying299
 a124:=Tryz.isAgg299
 z124:=Tryz.sizeOf299
 v124:=Tryz.zeroValue299
 t138:=underlying347
 a138:=Tryz.isAgg347
 z138:=Tryz.sizeOf347
 v138:=Tryz.zeroValue347
 t139:=underlying348
 a139:=Tryz.isAgg348
 z139:=Tryz.sizeOf348
 v139:=Tryz.zeroValue348
 g3:=by kernel_rfl
 g4:=by kernel_rfl }
def Tryz.lays144_ren:Go.Shelf.Ren:=⟨fun | 144=>248 | 143=>267 | 219=>282 | 217=>294 | 225=>291 | 224=>290 | 267=>295 | 266=>301 | 314=>302 | n=>n,fun | 9=>9 | 4=>4 | 3=>3 | 5=>5 | 46=>220 | 146=>340 | 51=>231 | n=>n,fun | 1=>4 | n=>n⟩
theorem Tryz.lays144:Go.Proofs.Lays.n144 prog Tryz.lays144_ren:={
 mixed:=by kernel_rfl
 f143:=Tryz.tk func267
 f144:=Tryz.tk func248
 f217:=Tryz.tk func294
 f219:=Tryz.tk func282
 f224:=Tryz.tk func290
 f225:=Tryz.tk func291
 f266:=Tryz.tk func301
 f267:=Tryz.tk func295
 f314:=Tryz.tk func302
 t3:=underlying3
 a3:=Tryz.isAgg3
 z3:=Tryz.sizeOf3
 v3:=Tryz.zeroValue3
 t4:=underlying4
 a4:=Tryz.isAgg4
 z4:=Tryz.sizeOf4
 v4:=Tryz.zeroValue4
 t5:=underlying5
 a5:=Tryz.isAgg5
 z5:=Tryz.sizeOf5
 v5:=Tryz.zeroValue5
 t9:=underlying9
 a9:=Tryz.isAgg9
 z9:=Tryz.sizeOf9
 v9:=Tryz.zeroValue9
 t46:=underlying220
 a46:=Tryz.isAgg220
 z46:=Tryz.sizeOf220
 v46:=Tryz.zeroValue220
 t51:=underlying231
 a51:=Tryz.isAgg231
 z51:=Tryz.sizeOf231
 v51:=Tryz.zeroValue231
 t146:=underlying340
 a146:=Tryz.isAgg340
 z146:=Tryz.sizeOf340
 v146:=Tryz.zeroValue340
 g1:=by kernel_rfl }
open Go.RowKit Go.Lib in
theorem Tryz.strings_Contains(s sub:ByteArray)(m:Int)(w:World)(hs:s.size < 4294967281)(hm:w.cell? ⟨4,0,none⟩=some (.int .i64 m)):
  Calls prog 248 #[.string s,.string sub] w fun e w'=>e=.returned (.bool (Lib.contains s.data.toList sub.data.toList))/\w'=w:=Any.strings_Contains Tryz.lays144 s sub m w hs hm
def Tryz.laysGw17_ren:Go.Shelf.Ren:=⟨fun | 17=>241 | 15=>216 | 20=>255 | n=>n,fun | 9=>9 | 23=>276 | 4=>4 | 3=>3 | 0=>0 | 21=>21 | n=>n,fun | n=>n⟩
theorem Tryz.laysGw17:Go.Proofs.LaysGw.n17 prog Tryz.laysGw17_ren:={
 mixed:=by kernel_rfl
 f15:=Tryz.tk func216
 f17:=Tryz.tk func241
 f20:=Tryz.tk func255
 t0:=underlying0
 a0:=Tryz.isAgg0
 z0:=Tryz.sizeOf0
 v0:=Tryz.zeroValue0
 i0:=by kernel_rfl
 t3:=underlying3
 a3:=Tryz.isAgg3
 z3:=Tryz.sizeOf3
 v3:=Tryz.zeroValue3
 i3:=by kernel_rfl
 t4:=underlying4
 a4:=Tryz.isAgg4
 z4:=Tryz.sizeOf4
 v4:=Tryz.zeroValue4
 i4:=by kernel_rfl
 t9:=underlying9
 a9:=Tryz.isAgg9
 z9:=Tryz.sizeOf9
 v9:=Tryz.zeroValue9
 i9:=by kernel_rfl
 t21:=underlying21
 a21:=Tryz.isAgg21
 z21:=Tryz.sizeOf21
 v21:=Tryz.zeroValue21
 i21:=by kernel_rfl
 t23:=underlying276
 a23:=Tryz.isAgg276
 z23:=Tryz.sizeOf276
 v23:=Tryz.zeroValue276
 i23:=by kernel_rfl }
open Go.RowKit Go.Lib in
def Tryz.lays155_ren:Go.Shelf.Ren:=⟨fun | 155=>249 | 154=>268 | 138=>283 | 165=>257 | 143=>267 | 166=>224 | 197=>260 | 169=>104 | 195=>296 | 218=>297 | 240=>256 | 241=>273 | 219=>282 | 260=>274 | 276=>272 | 277=>287 | 217=>294 | 225=>291 | 224=>290 | 267=>295 | 266=>301 | 314=>302 | n=>n,fun | 9=>9 | 3=>3 | 4=>4 | 72=>172 | 0=>0 | 76=>281 | 105=>323 | 21=>21 | 5=>5 | 70=>170 | 20=>20 | 37=>81 | 75=>125 | 127=>238 | 164=>334 | 46=>220 | 119=>345 | 139=>348 | 138=>347 | 146=>340 | 51=>231 | 80=>155 | n=>n,fun | 1=>4 | 3=>1 | 4=>2 | n=>n⟩
theorem Tryz.lays155:Go.Proofs.Lays.n155 prog Tryz.lays155_ren:={
 mixed:=by kernel_rfl
 f138:=Tryz.tk func283
 f143:=Tryz.tk func267
 f154:=Tryz.tk func268
 f155:=Tryz.tk func249
 f165:=Tryz.tk func257
 f166:=Tryz.tk func224
 f169:=Tryz.tk func104
 f195:=Tryz.tk func296
 f197:=Tryz.tk func260
 f217:=Tryz.tk func294
 f218:=Tryz.tk func297
 f219:=Tryz.tk func282
 f224:=Tryz.tk func290
 f225:=Tryz.tk func291
 f240:=Tryz.tk func256
 f241:=Tryz.tk func273
 f260:=Tryz.tk func274
 f266:=Tryz.tk func301
 f267:=Tryz.tk func295
 f276:=Tryz.tk func272
 f277:=Tryz.tk func287
 f314:=Tryz.tk func302
 t0:=underlying0
 a0:=Tryz.isAgg0
 z0:=Tryz.sizeOf0
 v0:=Tryz.zeroValue0
 t3:=underlying3
 a3:=Tryz.isAgg3
 z3:=Tryz.sizeOf3
 v3:=Tryz.zeroValue3
 t4:=underlying4
 a4:=Tryz.isAgg4
 z4:=Tryz.sizeOf4
 v4:=Tryz.zeroValue4
 t5:=underlying5
 a5:=Tryz.isAgg5
 z5:=Tryz.sizeOf5
 v5:=Tryz.zeroValue5
 t9:=underlying9
 a9:=Tryz.isAgg9
 z9:=Tryz.sizeOf9
 v9:=Tryz.zeroValue9
 t20:=underlying20
 a20:=Tryz.isAgg20
 z20:=Tryz.sizeOf20
 v20:=Tryz.zeroValue20
 t21:=underlying21
 a21:=Tryz.isAgg21
 z21:=Tryz.sizeOf21
 v21:=Tryz.zeroValue21
 t37:=underlying81
 a37:=Tryz.isAgg81
 z37:=Tryz.sizeOf81
 v37:=Tryz.zeroValue81
 t46:=underlying220
 a46:=Tryz.isAgg220
 z46:=Tryz.sizeOf220
 v46:=Tryz.zeroValue220
 t51:=underlying231
 a51:=Tryz.isAgg231
 z51:=Tryz.sizeOf231
 v51:=Tryz.zeroValue231
 t70:=underlying170
 a70:=Tryz.isAgg170
 z70:=Tryz.sizeOf170
 v70:=Tryz.zeroValue170
 t72:=underlying172
 a72:=Tryz.isAgg172
 z72:=Tryz.sizeOf172
 v72:=Tryz.zeroValue172
 t75:=underlying125
 a75:=Tryz.isAgg125
 z75:=Tryz.sizeOf125
 v75:=Tryz.zeroValue125
 t76:=underlying281
 a76:=Tryz.isAgg281
 z76:=Tryz.sizeOf281
 v76:=Tryz.zeroValue281
 t105:=underlying323
 a105:=Tryz.isAgg323
 z105:=Tryz.sizeOf323
 v105:=Tryz.zeroValue323
 t119:=underlying345
 a119:=Tryz.isAgg345
 z119:=Tryz.sizeOf345
 t127:=underlying238
 a127:=Tryz.isAgg238
 z127:=Tryz.sizeOf238
 v127:=Tryz.zeroValue238
 t138:=underlying347
 a138:=Tryz.isAgg347
 z138:=Tryz.sizeOf347
 v138:=Tryz.zeroValue347
 t139:=underlying348
 a139:=Tryz.isAgg348
 z139:=Tryz.sizeOf348
 v139:=Tryz.zeroValue348
 t146:=underlying340
 a146:=Tryz.isAgg340
 z146:=Tryz.sizeOf340
 v146:=Tryz.zeroValue340
 t164:=underlying334
 a164:=Tryz.isAgg334
 z164:=Tryz.sizeOf334
 v164:=Tryz.zeroValue334
 g1:=by kernel_rfl
 g3:=by kernel_rfl
 g4:=by kernel_rfl }
theorem Tryz.Builder_Extra_155:Builder.Extra prog Tryz.lays155_ren:={
 sizeBuilder:=by kernel_rfl
 liesBuilder:=by kernel_rfl
 t5:=underlying5
 a5:=Tryz.isAgg5
 z5:=Tryz.sizeOf5
 v5:=Tryz.zeroValue5
 infoByte:=by kernel_rfl
 cellsByte:=by kernel_rfl
 sizeByte:=by kernel_rfl
 neB5:=by decide }
open Go.RowKit Go.Lib in
theorem Tryz.strings_ReplaceAll(s old new:ByteArray)(m:Int)(w:World)(hs:s.size < 4294967281)(hm:w.cell? ⟨4,0,none⟩=some (.int .i64 m))(h1:1<=old.size)(hlen:s.size+Lib.countB s old*new.size<=140737488355328):
  Calls prog 249 #[.string s,.string old,.string new] w fun e w'=>
   e=.returned (.string ⟨(Lib.replaceAll s.data.toList old.data.toList new.data.toList).toArray⟩)/\Below w.heap.size w w':=Any.strings_ReplaceAll Tryz.lays155 Tryz.Builder_Extra_155 s old new m w hs hm h1 hlen
def Tryz.lays105_ren:Go.Shelf.Ren:=⟨fun | 105=>250 | 212=>269 | 99=>270 | 165=>257 | 166=>224 | 170=>271 | 169=>104 | 263=>284 | 264=>285 | 206=>286 | 240=>256 | 241=>273 | 276=>272 | 277=>287 | n=>n,fun | 9=>9 | 3=>3 | 4=>4 | 20=>20 | 0=>0 | 46=>220 | 109=>332 | 5=>5 | 72=>172 | 76=>281 | 51=>231 | 146=>340 | 53=>219 | 148=>342 | 70=>170 | 37=>81 | 75=>125 | 127=>238 | 164=>334 | 80=>155 | n=>n,fun | n=>n⟩
theorem Tryz.lays105:Go.Proofs.Lays.n105 prog Tryz.lays105_ren:={
 mixed:=by kernel_rfl
 f99:=Tryz.tk func270
 f105:=Tryz.tk func250
 f165:=Tryz.tk func257
 f166:=Tryz.tk func224
 f169:=Tryz.tk func104
 f170:=Tryz.tk func271
 f206:=Tryz.tk func286
 f212:=Tryz.tk func269
 f240:=Tryz.tk func256
 f241:=Tryz.tk func273
 f263:=Tryz.tk func284
 f264:=Tryz.tk func285
 f276:=Tryz.tk func272
 f277:=Tryz.tk func287
 t0:=underlying0
 a0:=Tryz.isAgg0
 z0:=Tryz.sizeOf0
 v0:=Tryz.zeroValue0
 t3:=underlying3
 a3:=Tryz.isAgg3
 z3:=Tryz.sizeOf3
 v3:=Tryz.zeroValue3
 t4:=underlying4
 a4:=Tryz.isAgg4
 z4:=Tryz.sizeOf4
 v4:=Tryz.zeroValue4
 t5:=underlying5
 a5:=Tryz.isAgg5
 z5:=Tryz.sizeOf5
 v5:=Tryz.zeroValue5
 t9:=underlying9
 a9:=Tryz.isAgg9
 z9:=Tryz.sizeOf9
 v9:=Tryz.zeroValue9
 t20:=underlying20
 a20:=Tryz.isAgg20
 z20:=Tryz.sizeOf20
 v20:=Tryz.zeroValue20
 t37:=underlying81
 a37:=Tryz.isAgg81
 z37:=Tryz.sizeOf81
 v37:=Tryz.zeroValue81
 t46:=underlying220
 a46:=Tryz.isAgg220
 z46:=Tryz.sizeOf220
 v46:=Tryz.zeroValue220
 t51:=underlying231
 a51:=Tryz.isAgg231
 z51:=Tryz.sizeOf231
 v51:=Tryz.zeroValue231
 t53:=underlying219
 a53:=Tryz.isAgg219
 z53:=Tryz.sizeOf219
 v53:=Tryz.zeroValue219
 t70:=underlying170
 a70:=Tryz.isAgg170
 z70:=Tryz.sizeOf170
 v70:=Tryz.zeroValue170
 t72:=underlying172
 a72:=Tryz.isAgg172
 z72:=Tryz.sizeOf172
 v72:=Tryz.zeroValue172
 t75:=underlying125
 a75:=Tryz.isAgg125
 z75:=Tryz.sizeOf125
 v75:=Tryz.zeroValue125
 t76:=underlying281
 a76:=Tryz.isAgg281
 z76:=Tryz.sizeOf281
 v76:=Tryz.zeroValue281
 t109:=underlying332
 a109:=Tryz.isAgg332
 z109:=Tryz.sizeOf332
 v109:=Tryz.zeroValue332
 t127:=underlying238
 a127:=Tryz.isAgg238
 z127:=Tryz.sizeOf238
 v127:=Tryz.zeroValue238
 t146:=underlying340
 a146:=Tryz.isAgg340
 z146:=Tryz.sizeOf340
 v146:=Tryz.zeroValue340
 t148:=underlying342
 a148:=Tryz.isAgg342
 z148:=Tryz.sizeOf342
 v148:=Tryz.zeroValue342
 t164:=underlying334
 a164:=Tryz.isAgg334
 z164:=Tryz.sizeOf334
 v164:=Tryz.zeroValue334 }
theorem Tryz.Builder_Extra_105:Builder.Extra prog Tryz.lays105_ren:={
 sizeBuilder:=by kernel_rfl
 liesBuilder:=by kernel_rfl
 t5:=underlying5
 a5:=Tryz.isAgg5
 z5:=Tryz.sizeOf5
 v5:=Tryz.zeroValue5
 infoByte:=by kernel_rfl
 cellsByte:=by kernel_rfl
 sizeByte:=by kernel_rfl
 neB5:=by decide }
open Go.RowKit Go.Lib in
theorem Tryz.strings_Repeat(s:ByteArray)(c:Nat)(w:World)(hc:c<=9223372036854775807)(hlen:s.size*c<=140737488355328):
  Calls prog 250 #[.string s,.int .i64 c] w fun e w'=>e=.returned (.string ⟨(Lib.repeatL s.data.toList c).toArray⟩)/\Below w.heap.size w w':=Any.strings_Repeat Tryz.lays105 Tryz.Builder_Extra_105 s c w hc hlen
end Go.Proofs
