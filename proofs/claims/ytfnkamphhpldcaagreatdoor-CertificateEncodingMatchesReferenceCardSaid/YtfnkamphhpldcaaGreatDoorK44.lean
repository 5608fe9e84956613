import Derived.Test.YtfnkamphhpldcaaGreatDoorK43
import Derived.Test.YtfnkamphhpldcaaGreatDoorK17
import Derived.Test.YtfnkamphhpldcaaGreatDoorK20
import Derived.Test.YtfnkamphhpldcaaGreatDoorK34
import Derived.Test.YtfnkamphhpldcaaGreatDoorK18
import Derived.Test.YtfnkamphhpldcaaGreatDoorK37
import Derived.Test.YtfnkamphhpldcaaGreatDoorK26
set_option maxHeartbeats 64000000
namespace Go.Proofs.YtfnkamphhpldcaaGreatDoor
open Go Sx Tryz
set_option maxRecDepth 100000
def DocR(F:Fz)(y:List SA)(d:Dc):Prop:=∃a b,y=docS a b d.w d.bits/\DocAt F a b d
def ValR(F:Fz)(y:List SA)(A:List (List UInt8)):Prop:=∃b c,y=[.slice false 0 b 0 1 8 c]/\F b=some (.arr 9 1 (A.map encS) c)/\8<=c
theorem wn{d:Dc}(f:docOk d=true)(F:Fz)(a b:SA)(g:DocAt F a b d):
  Fo prog F 14 [.agg (docS a b d.w d.bits)] (fun o e=>∃b c,o=.ret (.tup [.va (.slice false 0 b 0 1 8 c),.va (.int .i64 0)])/\e b=some (.arr 9 1 ((allB d).map encS) c)/\8<=c):=
 cK (Ap F a b d g (lc f)) fun o e h=>by
  rcases h with⟨h,_⟩ | ⟨_,h⟩
  ·exact absurd (h.symm.trans f) ss
  ·exact h
variable {F:Fz}
theorem DocR.mono{d:Fz}{y:List SA}{x:Dc}(h:DocR F y x)(c:Fz.le F d):DocR d y x:=by
 obtain⟨a,b,h1,e⟩:=h;exact⟨a,b,h1,e.mono c⟩
theorem ValR.mono{d:Fz}{y:List SA}{x:List (List UInt8)}(h:ValR F y x)(a:Fz.le F d):ValR d y x:=by
 obtain⟨b,c,h1,e,f⟩:=h;exact⟨b,c,h1,a _ _ e,f⟩
abbrev ycc(F:Fz)(a:SA)(l:List Dc):Prop:=SlR F 41 4 (DocR F) a l
abbrev ycd(F:Fz)(a:SA)(l:List (List (List UInt8))):Prop:=SlR F 34 1 (ValR F) a l
def mkR(l:List SA)(h:l.all SA.z=true):ZC:=⟨l,fun x a=>qp.1 h x a⟩
variable {k:Nat}
theorem Bv{zs:List Int}(a:∀i,i64 (zs.getD i 0))(b:k < 6):migOk (mig10 zs k)=true/\short (mig10 zs k).keep/\(mig10 zs k).keep.length < 1000000:=
 yP (by simp[idOk];omega) (by simp[idOk];omega) ⟨a _,a _,a _,a _,a _⟩
structure ChI(F:Fz)(n k:Nat)(D:List Dc)(C:List Crt)(od ov oc:List ZC)(cc:Nat)(G:Fz):Prop where
 cap:oc.length<=cc
 le:Fz.le F G
 kn:k<=n
 dl:D.length=k+1
 cl:C.length=k
 d:RowG DocR G D od
 v:RowG ValR G (D.map allB) ov
 c:RowG CrtR G C oc
 ch:Chn (D.map allB) C
 ok:∀d∈D,docOk d=true
abbrev ChX:=Nat×(List Dc×List Crt)×(List ZC×Nat)×(List ZC×Nat)×(List ZC×Nat)×Fz
def mW(o:Out)(a:Fz):Prop:=∃e sv c D C g h f,o=.ret (.tup [.va e,.va sv,.va c,.va (.bool true)])/\ycc a e D/\ycd a sv (D.map allB)/\mX a c C/\Chn (D.map allB) C/\(∀d∈D,docOk d=true)/\C.length<=6/\
 (∃b,e=.slice false 0 b 0 4 D.length g)/\(∃b,sv=.slice false 0 b 0 1 D.length h)/\(∃i b,c=.slice i 0 b 0 4 C.length f)/\C.length<=f
theorem ChI.fin{n:Nat}{D:List Dc}{C:List Crt}{od m j:List ZC}{e:Nat}{G:Fz}(h:ChI F n k D C od m j e G)(K:n<=6){b:Fz}(a:Fz.le G b){zd zv f g:Nat}
  (I:b zd=some (.arr 41 4 (od.map encZ) f))(J:b zv=some (.arr 34 1 (m.map encZ) g)){w:SA}(u:(j=[]/\w=.slice true 0 0 0 4 0 0)\/∃zc,b zc=some (.arr 48 4 (j.map encZ) e)/\w=.slice false 0 zc 0 4 j.length e):
  mW (.ret (.tup [.va (.slice false 0 zd 0 4 od.length f),.va (.slice false 0 zv 0 1 m.length g),.va w,.va (.bool true)])) b:=by
 have q:od.length=D.length:=h.d.1;have s:m.length=D.length:=by rw[h.v.1,qa]
 have i:j.length=C.length:=h.c.1;have o:=(RowG.mono (R:=DocR) (fun h l=>DocR.mono h l) h.d a).sl (cap:=f) I;have p:=(RowG.mono (R:=ValR) (fun h l=>ValR.mono h l) h.v a).sl (cap:=g) J;rw[qa,<-s]at p;rw[<-q]at o;have y:C.length<=6:=by have:=h.cl;have:=h.kn;omega
 rcases u with⟨A,rfl⟩ | ⟨zc,E,rfl⟩
 ·have B:C=[]:=by rw[A]at i;exact ji i.symm
  subst B;exact⟨_,_,_,D,[],f,g,0,rfl,o,p,SlR.nil,h.ch,h.ok,y,⟨zd,by rw[q]⟩,⟨zv,by rw[s]⟩,⟨true,0,rfl⟩,qi 0⟩
 ·have x:=(RowG.mono (R:=CrtR) (fun h l=>CrtR.mono h l) h.c a).sl (cap:=e) E;rw[<-i]at x;exact⟨_,_,_,D,C,f,g,e,rfl,o,p,x,h.ch,h.ok,y,⟨zd,by rw[q]⟩,⟨zv,by rw[s]⟩,⟨false,zc,by rw[i]⟩,i▸h.cap⟩
theorem ChI.snoc{n:Nat}{D:List Dc}{C:List Crt}{od j g:List ZC}{m:Nat}{G:Fz}(h:ChI F n k D C od j g m G)(u:k+1<=n){b:Fz}(a:Fz.le G b){M:Mig}{d e:Dc}(q:D[k]? =some d)(i:docOk e=true)(s:cH (makeC M d e) (allB d) (allB e)=true)(w:short M.keep)
  {zd zv zc:ZC}(h1:DocR b zd.1 e)(o:ValR b zv.1 (allB e))(p:CrtR b zc.1 (makeC M d e)){c':Nat}(f:g.length+1<=c'):ChI F n (k+1) (D++[e]) (C++[makeC M d e]) (od++[zd]) (j++[zv]) (g++[zc]) c' b:=by
 refine⟨by rw[qb];exact f,Fz.t h.le a,u,by rw[qb,h.dl];rfl,by rw[qb,h.cl];rfl,(RowG.mono (R:=DocR) (fun h l=>DocR.mono h l) h.d a).snoc h1,?_,(RowG.mono (R:=CrtR) (fun h l=>CrtR.mono h l) h.c a).snoc p,?_,fun x hx=>?_⟩
 ·rw[qo];exact(RowG.mono (R:=ValR) (fun h l=>ValR.mono h l) h.v a).snoc o
 ·rw[qo];refine h.ch.snoc ?_ rfl (kW w) (uK i);rw[h.cl,qt,q];exact s
 ·rcases yf.1 hx with hx | hx
  ·exact h.ok x hx
  ·rw[qs]at hx;subst hx;exact i
theorem RowG.one{α:Type}{R:Fz->List SA->α->Prop}{G:Fz}{x:α}{z:ZC}(h:R G z.1 x):RowG R G [x] [z]:=⟨rfl,fun i c b h1 a=>by
 rcases i with _ | i
 ·cases h1;cases a;exact h
 ·simp at h1⟩
theorem ChI.new{n:Nat}{d:Dc}(a:docOk d=true){zd zv:ZC}(h1:DocR F zd.1 d)(c:ValR F zv.1 (allB d)):ChI F n 0 [d] [] [zd] [zv] [] 0 F:=
 ⟨qi 0,Fz.r F,jx n,rfl,rfl,RowG.one h1,RowG.one c,⟨rfl,fun i z x h _=>nomatch h⟩,Chn.new (uK a),fun x b=>by rw[qs]at b;subst b;exact a⟩
theorem sz_le{n w:Nat}(h:n+1=k+1)(b:k<=6)(a:w<=100):(n+1+1)*w<=140737488355328:=
 q8 (qaw (show n+1+1<=8 by omega) a) dd
theorem yd2{α:Type}{c:α}{r:List α}{w:Nat}(h:(c::r).length=k)(b:k<=6)(a:w<=100):(r.length+1+1)*w<=140737488355328:=
 q8 (qaw (show r.length+1+1<=8 by rw[qe]at h;omega) a) dd
theorem DX(F:Fz)(m0:MLF F)(r0:RNDF F)(n1 n2 n3:Bool)(b1 o1 c1 b2 o2 c2 b3 o3 l3 c3 l x:Nat)(q1 q2:Int)(d:Dc)(hd:docOk d=true)(zs:List Int)(hz:∀i,i64 (zs.getD i 0))(n:Nat)(q:n<=6)
  (ad:∀F1,Fz.le F F1->Fo prog F1 15 [.agg (caseS n1 n2 n3 b1 o1 c1 b2 o2 c2 b3 o3 l3 c3 l x q1 q2)] (fun o F'=>∃a b,o=.ret (.agg (docS a b d.w d.bits))/\DocAt F' a b d))
  (ar:∀F1,Fz.le F F1->Fo prog F1 32 [.agg (caseS n1 n2 n3 b1 o1 c1 b2 o2 c2 b3 o3 l3 c3 l x q1 q2)] (fun o F'=>∃sm,o=.ret (.va sm)/\mY F' sm (dy zs n))):
  Fo prog F 23 [.agg (caseS n1 n2 n3 b1 o1 c1 b2 o2 c2 b3 o3 l3 c3 l x q1 q2)] mW:=by
 have bh:=fun F a b=>wn hd F a b
 refine foS func23 ?_;refine useFs (ad F (Fz.r F)) ?_;rintro _ F1 u1 ⟨a,b,rfl,hD⟩;have aw:=hD;obtain⟨an,ab,ae,ac,bn,bb,be,bc,rfl,rfl,-,-,-⟩:=hD;refine⟨rfl,⟨by simp,by simp⟩,_,rfl,?_⟩;refine useFs (bh F1 _ _ aw) ?_;rintro _ F2 u2 ⟨vb,vc,rfl,hV⟩;refine useFs (ar F2 (Fz.t u1 u2)) ?_;rintro _ F3 u3 ⟨sm,rfl,hm⟩;have bi:=hm;obtain⟨mn,mb,me,mc,mL,mr,rfl,m1,m2,m3,m4⟩:=hm
 conv=>whnf
 have bj:mY F3 (.slice mn 0 mb me 5 (dy zs n).length mc) (dy zs n):=bi;have z0:=oz zs n;rw[z0]at bj
 refine aH hΘ (X:={ y:ChX // ChI F3 n y.1 y.2.1.1 y.2.1.2 y.2.2.1.1 y.2.2.2.1.1 y.2.2.2.2.1.1 y.2.2.2.2.1.2 y.2.2.2.2.2 }) (fun y=>[(6,.va (gA 4 4 y.1.2.2.1.2 y.1.2.2.1.1)),(9,.va (gA 1 5 y.1.2.2.2.1.2 y.1.2.2.2.1.1)),(10,.va (gA 4 6 y.1.2.2.2.2.1.2 y.1.2.2.2.2.1.1)),(12,.va (.int .i64 y.1.1))]) (2::3::4::5::jr 13 6 (jr 33 66 []))
  (fun y=>[(0,.frz y.1.2.2.2.2.2),(1,.one (.cells 27 (caseS n1 n2 n3 b1 o1 c1 b2 o2 c2 b3 o3 l3 c3 l x q1 q2))),(2,.gone),(3,.gone),(4,gE 41 4 encZ y.1.2.2.1.2 y.1.2.2.1.1),(5,gE 34 1 encZ y.1.2.2.2.1.2 y.1.2.2.2.1.1),(6,gE 48 4 encZ y.1.2.2.2.2.1.2 y.1.2.2.2.2.1.1)]) 7 (fun y=>n - y.1.1)
  ⟨(0,([d],[]),([mkR (docS (.slice an 0 ab ae 2 d.lines.length ac) (.slice bn 0 bb be 6 d.cells.length bc) d.w d.bits) rfl],1),([mkR [.slice false 0 vb 0 1 8 vc] rfl],1),([],0),F3),ChI.new hd ⟨_,_,rfl,(aw.mono u2).mono u3⟩ ⟨_,_,rfl,u3 _ _ hV.1,hV.2⟩⟩
  (fun hH hT=>leI [(4,2),(5,3),(6,6)] hH hT rfl ⟨tv,iq oo,tv,tv,bP aD oo _ _ _ _,bP aD oo _ _ _ _,bP aD oo _ _ _ _,tv⟩ ⟨⟨rfl,rfl,rfl,.inr ⟨rfl,rfl,rfl,rfl⟩⟩,⟨rfl,rfl,rfl,.inr ⟨rfl,rfl,rfl,rfl⟩⟩,rfl,rfl,tv⟩ ⟨Fz.r F3,rfl,rfl,rfl,rfl,tv⟩) ?_
 rintro⟨⟨k,⟨D,C⟩,⟨od,cd⟩,⟨ov,cv⟩,⟨oc,cc⟩,G⟩,p⟩ hH hT;replace p:ChI F3 n k D C od ov oc cc G:=p;have hG:=p.le;have ap:=p.kn;by_cases g:k < n
 ·have gi:(k:Int) < ((dy zs n).length:Nat):=by rw[z0];omega
  have ag:n - (k+1) < n - k:=by omega
  have ah:k < 4611686018427387904:=by omega
  have z3:Fz.le F F3:=Fz.t u1 (Fz.t u2 u3);have mG:=m0.mono (Fz.t z3 hG);have rG:=r0.mono (Fz.t z3 hG);have m:=Bv hz (y4 g q);have ao:(dy zs n)[k]? =some (mig10 zs k):=by unfold dy;simp[g]
  have R:∃e,D[k]? =some e/\docOk e=true:=by
   have hl:k < D.length:=by rw[p.dl];omega
   exact⟨D[k],qc hl,p.ok _ (qx hl)⟩
  obtain⟨e,R,am⟩:=R
  have af:∃z,od[k]? =some z:=by
   have hl:k < od.length:=by rw[p.d.1,p.dl];omega
   exact⟨od[k],qc hl⟩
  obtain⟨z,af⟩:=af;have bm:=p.d.2 k z e af R;obtain⟨da,db,bo,al⟩:=bm;have bk:=m4 k _ ao;obtain⟨my,bl,a4,rfl,aq⟩:=bk;have S:=KpsAt.up aq hG;have aj:=ybu m.1 m.2.1 m.2.2 am G mG a4 da db S al;have au:mn=false:=by cases mn with | false=>rfl | true=>have:=m1 rfl;rw[this]at ao;simp at ao
  have az:=hG _ _ (m2 au);have ai:(od.map encZ)[0+(k:Int).toNat]? =some (docS da db e.w e.bits):=by rw[q9,qn,qt,af];exact congrArg some bo
  have T:mL[me+(k:Int).toNat]? =some (migS (mig10 zs k) a4):=by rw[qn];exact bl
  have s:od.length=k+1:=by rw[p.d.1,p.dl]
  have I:ov.length=k+1:=by rw[p.v.1,qa,p.dl]
  have a2:oc.length=k:=by rw[p.c.1,p.cl]
  have hM:∃M,mig10 zs k=M:=⟨_,rfl⟩
  obtain⟨M,hM⟩:=hM;rw[hM]at m aq S aj T;rcases od with _ | ⟨d0,E⟩
  ·simp at s
  rcases ov with _ | ⟨v0,L⟩
  ·simp at I
  have ay:=al;obtain⟨a8,a5,a7,a6,bf,a9,bd,ba,rfl,rfl,-,-,-⟩:=al;obtain⟨kn,kb,ke,kc,kL,kr,rfl,-,-,-,-⟩:=aq;have gd:(k:Int) < ((E.length+1:Nat):Int):=by have h9:E.length+1=k+1:=s;omega
  have a1:=fun f (J:runD M.keep e=some f) (U:Fz) (l2:Fz.le G U) a b hE=>Bt m.1 m.2.1 m.2.2 am U (mG.mono l2) (rG.mono l2) (.slice kn 0 kb ke 2 M.keep.length kc) (.slice a8 0 a5 a7 2 e.lines.length a6) (.slice bf 0 a9 bd 6 e.cells.length ba) a b J (KpsAt.up S l2) (ay.mono l2) hE
  have a3:=fun f (J:runD M.keep e=some f)=>ybv m.1 m.2.1 m.2.2 am J
  have bp:(E.length+1+1)*72<=140737488355328:=sz_le s (q8 ap q) dd;have bq:(L.length+1+1)*24<=140737488355328:=sz_le I (q8 ap q) dd;rcases oc with _ | ⟨Q,cr⟩
  all_goals
   refine⟨fun _=>?_,fun h=>absurd gi (oe h)⟩;refine bre dd ?_;refine dwS (lk [0,1,2,3,4,5,6,7] (.alt 8 (lk [9,10,11] (.alt 12 (.alt 13 (.look 14 .done) .nil) .nil)) (.alt 12 (.alt 8 (lk [9,10,11] (.alt 13 (.look 14 .done) .nil)) .nil) .nil))) [4] ?_;refine⟨au,⟨by omega,gi⟩,rfl,_,az,_,T,rfl,⟨by omega,gd⟩,rfl,rfl,_,ai,?_,?_⟩
   all_goals
    conv=>whnf
    try (refine⟨Fz.r G,rfl,?_⟩)
    (conv=>whnf)
    refine useFs aj ?_;rintro _ G1 O (rfl | ⟨f,bs,bt,J,rfl,hE⟩)
    ·refine⟨O,rfl,?_⟩
     repeat' ((conv=>whnf);first
      |refine⟨rfl,?_⟩
      |refine⟨O,rfl,?_⟩
      |refine⟨Fz.r _,rfl,?_⟩
      |fail)
     refine bre dd ?_;refine cD 4 (fun _=>.arr 41 4 ((d0::E).map encZ) cd) rfl rfl rfl (fun _ _=>by exact dt (μ:=resP _) aD (fun k=>rfl) rfl _ _ _) (fun _ _=>dv aD oo _ _ _ _) ?_;intro x4 G4 w4 h4;refine cD 5 (fun _=>.arr 34 1 ((v0::L).map encZ) cv) rfl rfl rfl (fun _ _=>by exact dt (μ:=resP _) aD (fun k=>rfl) rfl _ _ _) (fun _ _=>dv aD oo _ _ _ _) ?_;intro x5 G5 K h5
     first
     |exact endFo (.ret (.tup [.va (.slice false 0 (x4 0) 0 4 (E.length+1) cd),.va (.slice false 0 (x5 0) 0 1 (L.length+1) cv),.va (.slice true 0 0 0 4 0 0),.va (.bool true)])) G5 rfl (Fz.t z3 (Fz.t hG (Fz.t O (Fz.t w4 K)))) (Fz.r G5) (p.fin q (Fz.t O (Fz.t w4 K)) (K _ _ (h4 0 ⟨rfl,rfl⟩)) (h5 0 ⟨rfl,rfl⟩) (.inl ⟨rfl,rfl⟩)) ⟨⟨rfl,rfl,rfl,.inr ⟨rfl,rfl,rfl,rfl⟩⟩,⟨rfl,rfl,rfl,.inr ⟨rfl,rfl,rfl,rfl⟩⟩,⟨rfl,rfl,rfl⟩,rfl,tv⟩ rfl
     |refine cD 6 (fun _=>.arr 48 4 ((Q::cr).map encZ) cc) rfl rfl rfl (fun _ _=>by exact dt (μ:=resP _) aD (fun k=>rfl) rfl _ _ _) (fun _ _=>dv aD oo _ _ _ _) ?_
      intro x6 G6 w6 h6;exact endFo (.ret (.tup [.va (.slice false 0 (x4 0) 0 4 (E.length+1) cd),.va (.slice false 0 (x5 0) 0 1 (L.length+1) cv),.va (.slice false 0 (x6 0) 0 4 (cr.length+1) cc),.va (.bool true)])) G6 rfl (Fz.t z3 (Fz.t hG (Fz.t O (Fz.t w4 (Fz.t K w6))))) (Fz.r G6) (p.fin q (Fz.t O (Fz.t w4 (Fz.t K w6))) (w6 _ _ (K _ _ (h4 0 ⟨rfl,rfl⟩))) (w6 _ _ (h5 0 ⟨rfl,rfl⟩)) (.inr ⟨_,h6 0 ⟨rfl,rfl⟩,rfl⟩)) ⟨⟨rfl,rfl,rfl,.inr ⟨rfl,rfl,rfl,rfl⟩⟩,⟨rfl,rfl,rfl,.inr ⟨rfl,rfl,rfl,rfl⟩⟩,⟨rfl,rfl,rfl,.inr ⟨rfl,rfl,rfl,rfl⟩⟩,rfl,tv⟩ rfl
    ·have Z:=hE;obtain⟨tn,tb,te,tc,yn,yb,ye,yc,rfl,rfl,-,-,-⟩:=hE;have a0:=fun U (l2:Fz.le G U) bg=>a1 f J U l2 (.slice tn 0 tb te 2 f.lines.length tc) (.slice yn 0 yb ye 6 f.cells.length yc) bg
     have u:=a3 f J;have ax:=fun U a b=>wn u.1 U a b
     refine⟨O,rfl,?_⟩
     repeat' ((conv=>whnf);first
      |refine⟨rfl,?_⟩
      |refine⟨O,rfl,?_⟩
      |refine⟨Fz.r _,rfl,?_⟩
      |fail)
     refine brd dd ?_;refine dwS (lk [0,1,2,3,4,5,6,7,8] (.alt 9 (lk [10,11,12] (.alt 13 (.alt 14 (.look 15 .done) .nil) .nil)) (.alt 13 (.alt 9 (lk [10,11,12] (.alt 14 (.look 15 .done) .nil)) .nil) .nil))) [4,7] ?_;refine⟨au,⟨by omega,gi⟩,rfl,_,O _ _ az,_,T,rfl,⟨by omega,gd⟩,rfl,rfl,_,ai,rfl,?_,?_⟩
     all_goals
      conv=>whnf
      try (refine⟨Fz.r G1,rfl,rfl,?_⟩)
      (conv=>whnf)
      refine useFs (a0 G1 O Z) ?_;rintro _ U w2 ⟨sc,rfl,hC⟩;have av:=hC;obtain⟨fn,fb,fe,fc,fL,fr,rfl,-,-,-,-⟩:=hC;refine⟨w2,rfl,rfl,?_⟩
      repeat' ((conv=>whnf);first
       |refine⟨rfl,?_⟩
       |refine⟨w2,rfl,rfl,?_⟩
       |refine⟨Fz.r _,rfl,rfl,?_⟩
       |fail)
      refine useFs (ax U _ _ (Z.mono w2)) ?_;rintro _ G3 w3 ⟨A,B,rfl,aa⟩;conv=>whnf
      repeat
       refine gae dd ?_;conv=>whnf
      refine brd dd ⟨nb rfl,[docS (.slice tn 0 tb te 2 f.lines.length tc) (.slice yn 0 yb ye 6 f.cells.length yc) f.w f.bits],rfl,rfl,rfl,by simp,rfl,bp,fun W bu=>?_⟩;refine⟨nb rfl,[[.slice false 0 A 0 1 8 B]],rfl,rfl,rfl,by simp,rfl,bq,fun Y bw=>?_⟩;refine⟨nb rfl,[crtS (makeC M e f) (.slice fn 0 fb fe 2 (bR M.keep).length fc)],rfl,?_⟩;conv=>whnf
      first
      |refine⟨rfl,rfl,nb rfl,fun V ak=>?_⟩
      |refine⟨rfl,rfl,by simp,rfl,yd2 a2 (q8 ap q) dd,fun V ak=>?_⟩
      conv=>whnf
      first
      |exact⟨⟨(k+1,(D++[f],C++[makeC M e f]),((d0::E)++[(mkR (docS (.slice tn 0 tb te 2 f.lines.length tc) (.slice yn 0 yb ye 6 f.cells.length yc) f.w f.bits) rfl)],W),((v0::L)++[(mkR [.slice false 0 A 0 1 8 B] rfl)],Y),([]++[(mkR (crtS (makeC M e f) (.slice fn 0 fb fe 2 (bR M.keep).length fc)) rfl)],V),G3),p.snoc (zd:=(mkR (docS (.slice tn 0 tb te 2 f.lines.length tc) (.slice yn 0 yb ye 6 f.cells.length yc) f.w f.bits) rfl)) (zv:=(mkR [.slice false 0 A 0 1 8 B] rfl)) (zc:=(mkR (crtS (makeC M e f) (.slice fn 0 fb fe 2 (bR M.keep).length fc)) rfl)) g (Fz.t O (Fz.t w2 w3)) R u.1 u.2 m.2.1 ⟨_,_,rfl,(Z.mono w2).mono w3⟩ ⟨_,_,rfl,aa.1,aa.2⟩ ⟨_,rfl,KpsAt.up av w3⟩ (by simpa using ak)⟩,ag,leR [(4,10),(5,12),(6,14)] hH hT rfl ⟨tv,iq oo,tv,tv,bP aD oo _ _ _ _,bP aD oo _ _ _ _,bP aD oo _ _ _ _,tv⟩ ⟨ed (μ:=sig [(4,10),(5,12),(6,14)]) (i:=4) (j:=10) rfl 4 W _ (d0::E) (mkR (docS (.slice tn 0 tb te 2 f.lines.length tc) (.slice yn 0 yb ye 6 f.cells.length yc) f.w f.bits) rfl) rfl,ed (μ:=sig [(4,10),(5,12),(6,14)]) (i:=5) (j:=12) rfl 1 Y _ (v0::L) (mkR [.slice false 0 A 0 1 8 B] rfl) rfl,by(conv=>whnf);exact⟨rfl,rfl,rfl,.inr ⟨rfl,rfl,rfl,rfl⟩⟩,cnt ah,tv⟩ ⟨Fz.r G3,rfl,cQ (μ:=sig [(4,10),(5,12),(6,14)]) aD (fun k=>rfl) (aZ _ (by rw[qo];rfl)),cQ (μ:=sig [(4,10),(5,12),(6,14)]) aD (fun k=>rfl) (aZ _ (by rw[qo];rfl)),cQ (μ:=sig [(4,10),(5,12),(6,14)]) aD (fun k=>rfl) (aZ _ (by rw[qo];rfl)),tv⟩⟩
      |exact⟨⟨(k+1,(D++[f],C++[makeC M e f]),((d0::E)++[(mkR (docS (.slice tn 0 tb te 2 f.lines.length tc) (.slice yn 0 yb ye 6 f.cells.length yc) f.w f.bits) rfl)],W),((v0::L)++[(mkR [.slice false 0 A 0 1 8 B] rfl)],Y),((Q::cr)++[(mkR (crtS (makeC M e f) (.slice fn 0 fb fe 2 (bR M.keep).length fc)) rfl)],V),G3),p.snoc (zd:=(mkR (docS (.slice tn 0 tb te 2 f.lines.length tc) (.slice yn 0 yb ye 6 f.cells.length yc) f.w f.bits) rfl)) (zv:=(mkR [.slice false 0 A 0 1 8 B] rfl)) (zc:=(mkR (crtS (makeC M e f) (.slice fn 0 fb fe 2 (bR M.keep).length fc)) rfl)) g (Fz.t O (Fz.t w2 w3)) R u.1 u.2 m.2.1 ⟨_,_,rfl,(Z.mono w2).mono w3⟩ ⟨_,_,rfl,aa.1,aa.2⟩ ⟨_,rfl,KpsAt.up av w3⟩ (by simpa using ak)⟩,ag,leR [(4,10),(5,12),(6,14)] hH hT rfl ⟨tv,iq oo,tv,tv,bP aD oo _ _ _ _,bP aD oo _ _ _ _,bP aD oo _ _ _ _,tv⟩ ⟨ed (μ:=sig [(4,10),(5,12),(6,14)]) (i:=4) (j:=10) rfl 4 W _ (d0::E) (mkR (docS (.slice tn 0 tb te 2 f.lines.length tc) (.slice yn 0 yb ye 6 f.cells.length yc) f.w f.bits) rfl) rfl,ed (μ:=sig [(4,10),(5,12),(6,14)]) (i:=5) (j:=12) rfl 1 Y _ (v0::L) (mkR [.slice false 0 A 0 1 8 B] rfl) rfl,ed (μ:=sig [(4,10),(5,12),(6,14)]) (i:=6) (j:=14) rfl 4 V _ (Q::cr) (mkR (crtS (makeC M e f) (.slice fn 0 fb fe 2 (bR M.keep).length fc)) rfl) rfl,cnt ah,tv⟩ ⟨Fz.r G3,rfl,cQ (μ:=sig [(4,10),(5,12),(6,14)]) aD (fun k=>rfl) (aZ _ (by rw[qo];rfl)),cQ (μ:=sig [(4,10),(5,12),(6,14)]) aD (fun k=>rfl) (aZ _ (by rw[qo];rfl)),cQ (μ:=sig [(4,10),(5,12),(6,14)]) aD (fun k=>rfl) (aZ _ (by rw[qo];rfl)),tv⟩⟩
 ·have gi:¬(k:Int) < ((dy zs n).length:Nat):=by rw[z0];omega
  have z3:Fz.le F F3:=Fz.t u1 (Fz.t u2 u3);have s:od.length=k+1:=by rw[p.d.1,p.dl]
  have I:ov.length=k+1:=by rw[p.v.1,qa,p.dl]
  rcases od with _ | ⟨d0,E⟩
  ·simp at s
  rcases ov with _ | ⟨v0,L⟩
  ·simp at I
  rcases oc with _ | ⟨Q,cr⟩
  all_goals
   refine⟨fun h=>absurd (od h) gi,fun _=>?_⟩;conv=>whnf
   repeat
    refine gae dd ?_;conv=>whnf
   refine cD 4 (fun _=>.arr 41 4 ((d0::E).map encZ) cd) rfl rfl rfl (fun _ _=>by exact dt (μ:=resP _) aD (fun k=>rfl) rfl _ _ _) (fun _ _=>dv aD oo _ _ _ _) ?_;intro x4 G4 w4 h4;refine cD 5 (fun _=>.arr 34 1 ((v0::L).map encZ) cv) rfl rfl rfl (fun _ _=>by exact dt (μ:=resP _) aD (fun k=>rfl) rfl _ _ _) (fun _ _=>dv aD oo _ _ _ _) ?_;intro x5 G5 K h5
   first
   |exact endFo (.ret (.tup [.va (.slice false 0 (x4 0) 0 4 (E.length+1) cd),.va (.slice false 0 (x5 0) 0 1 (L.length+1) cv),.va (.slice true 0 0 0 4 0 0),.va (.bool true)])) G5 rfl (Fz.t z3 (Fz.t hG (Fz.t w4 K))) (Fz.r G5) (p.fin q (Fz.t w4 K) (K _ _ (h4 0 ⟨rfl,rfl⟩)) (h5 0 ⟨rfl,rfl⟩) (.inl ⟨rfl,rfl⟩)) ⟨⟨rfl,rfl,rfl,.inr ⟨rfl,rfl,rfl,rfl⟩⟩,⟨rfl,rfl,rfl,.inr ⟨rfl,rfl,rfl,rfl⟩⟩,⟨rfl,rfl,rfl⟩,rfl,tv⟩ rfl
   |refine cD 6 (fun _=>.arr 48 4 ((Q::cr).map encZ) cc) rfl rfl rfl (fun _ _=>by exact dt (μ:=resP _) aD (fun k=>rfl) rfl _ _ _) (fun _ _=>dv aD oo _ _ _ _) ?_
    intro x6 G6 w6 h6;exact endFo (.ret (.tup [.va (.slice false 0 (x4 0) 0 4 (E.length+1) cd),.va (.slice false 0 (x5 0) 0 1 (L.length+1) cv),.va (.slice false 0 (x6 0) 0 4 (cr.length+1) cc),.va (.bool true)])) G6 rfl (Fz.t z3 (Fz.t hG (Fz.t w4 (Fz.t K w6)))) (Fz.r G6) (p.fin q (Fz.t w4 (Fz.t K w6)) (w6 _ _ (K _ _ (h4 0 ⟨rfl,rfl⟩))) (w6 _ _ (h5 0 ⟨rfl,rfl⟩)) (.inr ⟨_,h6 0 ⟨rfl,rfl⟩,rfl⟩)) ⟨⟨rfl,rfl,rfl,.inr ⟨rfl,rfl,rfl,rfl⟩⟩,⟨rfl,rfl,rfl,.inr ⟨rfl,rfl,rfl,rfl⟩⟩,⟨rfl,rfl,rfl,.inr ⟨rfl,rfl,rfl,rfl⟩⟩,rfl,tv⟩ rfl
theorem AL(F:Fz)(w:MLF F)(x:RNDF F)(j k l:Bool)(d m p e n q f o a s:Nat)(L:List Stp)(X:List Q3)(b c:Int)(zs:List Int)(h:CaseAt F j k l d m e n f o a L X b c zs):
  Fo prog F 23 [.agg (caseS j k l d m p e n q f o a s L.length X.length b c)] mW:=
 DX F w x j k l d m p e n q f o a s L.length X.length b c (madeD L X b c) h.ok.1 zs (fun i=>by
   rw[yr];by_cases g:i < zs.length
   ·rw[qc g];exact h.i3 _ (qx g)
   ·rw[qam oo];show i64 0;unfold i64;omega) (min a 6) (Nat.min_le_right a 6)
  (fun F1 u=>A6 F1 j k l d m p e n q f o a s L X b c zs (h.mono u))
  fun F1 u=>CM F1 j k l d m p e n q f o a s L X b c zs (h.mono u)
theorem zF(c n:Int)(a:i64 c)(b:0 < n):Pu prog 20 [.va (.int .i64 c),.va (.int .i64 n)] (.va (.int .i64 (pickI c n))):=by
 intro F;unfold i64 at a;refine foS func20 ?_;refine br (fun g=>?_) (fun g=>?_)
 ·refine⟨by omega,?_⟩;refine endPu rfl (Fz.r F) (oi ?_) rfl;simp at g;rw[aI (n:=c+1) oo oo,aI (n:=0 - (c+1)) oo oo,pickI,if_pos g]
  congr 1;omega
 ·refine⟨by omega,?_⟩;refine endPu rfl (Fz.r F) (oi ?_) rfl;simp at g;rw[pickI,if_neg oo]
structure CrtSm(c:Crt):Prop where
 s:short c.cl
 l:c.cl.length < 1000000
theorem CrtSm.ok{c:Crt}(h:crtOk c=true)(a:short c.cl):CrtSm c:=⟨a,by rw[(uW.1 h).n];decide⟩
theorem Chn.sm{V:List (List (List UInt8))}{C:List Crt}(h:Chn V C):∀x∈C,CrtSm x:=fun x a=>by
 obtain⟨k,b,rfl⟩:=qcn.1 a;exact CrtSm.ok (D3.1 (h.chk k b)).ok (h.sh _ a)
theorem uu(F:Fz)(sk:SA)(c:Crt)(Y:ClsAt F sk c.cl)(hs:short c.cl)(hl:c.cl.length < 1000000):
  Fo prog F 26 [.agg (crtS c sk)] (fun o _=>o=.ret (.va (.bool (crtOk c)))):=by
 have e1:=cOk1 (c:=c);have e2:=cOk2 (c:=c);have e3:=cOk3 (c:=c);have e4:=cOk4 (c:=c);have e5:=cOk5 (c:=c);have eT:=cOkT (c:=c);obtain⟨v,hv⟩:∃v,crtOk c=v:=⟨_,rfl⟩
 rw[hv]at e1 e2 e3 e4 e5 eT ⊢;clear hv;obtain⟨src,O,len,d⟩:=c;replace Y:ClsAt F sk d:=Y;replace hs:short d:=hs;replace hl:d.length < 1000000:=hl
 have fin:∀(b:Bool) (F1:Fz) (h:Hp) (nx:Nat),v=b->lget h 0=some (.frz F1)->Fz.le F F1->Cln 1 (FoK F fun o F'=>o=.ret (.va (.bool v))) (.ret (.va (.bool b))) h nx:=by
  intro b F1 h nx B S q;exact endFo (.ret (.va (.bool b))) F1 S q (Fz.r F1) (by rw[B]) rfl rfl
 have finL:∀(b:Bool) (F1:Fz) (h:Hp) (nx:Nat),v=b->lget h 0=some (.frz F1)->Fz.le F F1->Cln 1 (FoK F fun o F'=>o=.ret (.va (.bool v))) (.ret (.va (.lit b))) h nx:=by
  intro b F1 h nx B S q;exact endFo (.ret (.va (.bool b))) F1 S q (Fz.r F1) (by rw[B]) rfl rfl
 obtain⟨kn,kb,ke,kc,kL,kr,rfl,k1,k2,k3,k4⟩:=Y;refine foS func26 ?_;refine⟨fun m=>?_,fun m=>?_⟩
 rotate_left
 ·exact fin false F _ _ (e1 m) rfl (Fz.r F)
 refine⟨fun e=>?_,fun e=>?_⟩
 rotate_left
 ·exact fin false F _ _ (e2 e) rfl (Fz.r F)
 refine⟨fun n=>?_,fun n=>?_⟩
 rotate_left
 ·exact fin false F _ _ (e3 n) rfl (Fz.r F)
 refine⟨fun Q=>?_,fun Q=>?_⟩
 rotate_left
 ·exact fin false F _ _ (e4 Q) rfl (Fz.r F)
 refine br (fun R=>?_) (fun R=>?_)
 ·exact fin false F _ _ (e5 R) rfl (Fz.r F)
 conv=>whnf
 have A:=eT m e n Q R
 refine aH hΘ (X:={ x:Nat×Fz // Fz.le F x.2/\x.1<=d.length/\v=clOk (d.drop x.1) ((x.1:Int)+1) }) (fun x=>[(3,.va (.int .i64 x.1.1))]) (2::4::5::6::7::jr 34 37 [])
  (fun x=>[(0,.frz x.1.2),(1,.one (.cells 48 (crtS ⟨src,O,len,d⟩ (.slice kn 0 kb ke 2 d.length kc))))]) 2 (fun x=>d.length - x.1.1) ⟨(0,F),Fz.r F,by simp,A⟩
  (fun T A=>leI [] T A rfl ⟨tv,cR _ (.inr oo),tv⟩ ⟨rfl,tv⟩ ⟨Fz.r F,rfl,tv⟩) ?_
 rintro⟨⟨k,G⟩,f,I,l⟩ T A;replace f:Fz.le F G:=f;replace I:k<=d.length:=I;replace l:v=clOk (d.drop k) ((k:Int)+1):=l;by_cases g:k < d.length
 ·have K:(k:Int) < (d.length:Int):=by omega
  have D:d.length - (k+1) < d.length - k:=by omega
  have E:k < 4611686018427387904:=by omega
  have hw:IntKind.i64.wrap ((k:Int)+1)=(k:Int)+1:=aI oo oo;have hx:=hs (d[k]'g) (qx g);rw[uT d k _ g]at l;have s:clAt (d[k]'g) ((k:Int)+1)=false->v=false:=fun h=>by rw[l,h,jv]
  have Z:clAt (d[k]'g) ((k:Int)+1)=true->v=clOk (d.drop (k+1)) (((k+1:Nat):Int)+1):=fun h=>by rw[l,h,qab];rfl
  have w:=SlR.at k4 g;obtain⟨y,hy,a,rfl,U⟩:=w;have p:=BO G a (d[k]'g).2 (d[k]'g).1 (U.mono f) hx;have W:=fun F1 (L:Fz.le G F1) sb B=>rx F1 sb a (normR (d[k]'g).1 (d[k]'g).2).1 (d[k]'g).2 B ((U.mono f).mono L) (oB _ _)
  have j:=SlR.lt k1 g;have q1:=clA1 (x:=d[k]'g) hw;have q2:=clA2 (x:=d[k]'g) (i:=(k:Int)+1);have q3:=clA3 (x:=d[k]'g) (i:=(k:Int)+1);have qT:=clAT (x:=d[k]'g) hw;obtain⟨au,ap,ar,aq,ao,av,rfl,ak,al,am,an⟩:=U;refine bri K ⟨j,⟨by simp,K⟩,_,f _ _ (k2 j),_,hy,?_⟩;refine useFs p ?_;rintro _ u L ⟨sc,rfl,J⟩;have V:=W u L sc J;have M:=Fz.t f L;obtain⟨ai,af,ah,ag,ae,aj,rfl,aa,ab,ac,ad⟩:=J;refine usePs (V) ?_;refine⟨fun m=>?_,fun m=>?_⟩
  rotate_left
  ·exact fin false u _ _ (s (q1 m)) rfl M
  refine⟨fun e=>?_,fun e=>?_⟩
  rotate_left
  ·exact fin false u _ _ (s (q2 e)) rfl M
  refine br (fun n=>?_) (fun n=>?_)
  ·exact fin false u _ _ (s (q3 e n)) rfl M
  ·exact⟨⟨(k+1,u),M,g,Z (qT m e n)⟩,D,leR [] T A rfl ⟨tv,cR _ (.inr oo),tv⟩ ⟨cnt E,tv⟩ ⟨Fz.r u,rfl,tv⟩⟩
 ·have K:¬(k:Int) < (d.length:Int):=by omega
  rw[yg oo]at l;refine brj K ?_;conv=>whnf
  first | exact fin true G _ _ l rfl f | exact finL true G _ _ l rfl f
theorem zN(F:Fz)(l m:SA)(a b:Crt)(s:ClsAt F l a.cl)(u:ClsAt F m b.cl)(y:short a.cl)(B:a.cl.length < 1000000):
  Fo prog F 28 [.agg (crtS a l),.agg (crtS b m)] (fun o d=>o=.ret (.va (.bool (gW a b)))/\d=F):=by
 have c:=Es F l m a.cl b.cl s u y B;obtain⟨g,d1,e,j⟩:=a;obtain⟨i,d2,f,k⟩:=b;replace c:Fo prog F 39 [.va l,.va m] (fun o d=>o=.ret (.va (.bool (decide (j=k))))/\d=F):=c;show Fo prog F 28 [.agg (crtS ⟨g,d1,e,j⟩ l),.agg (crtS ⟨i,d2,f,k⟩ m)] (fun o d=>o=.ret (.va (.bool (decide (g=i)&&(decide (d1=d2)&&(decide (e=f)&&decide (j=k))))))/\d=F)
 have fin:∀(v:Bool) (h:Hp) (nx:Nat),(decide (g=i)&&(decide (d1=d2)&&(decide (e=f)&&decide (j=k))))=v->lget h 0=some (.frz F)->Cln 1 (FoK F fun o d=>o=.ret (.va (.bool (decide (g=i)&&(decide (d1=d2)&&(decide (e=f)&&decide (j=k))))))/\d=F) (.ret (.va (.bool v))) h nx:=by
  intro v h nx A x;exact endPu x (Fz.r F) (ob A) rfl
 obtain⟨J,E,I,G,D,ar,rfl,-,-,-,-⟩:=s;obtain⟨Q,L,O,M,K,w,rfl,-,-,-,-⟩:=u;refine foS func28 ?_;refine usePs (c) ?_;refine⟨fun n=>?_,fun n=>?_⟩
 rotate_left
 ·exact fin false _ _ (by rw[show decide (g=i)=false from beqD n];rfl) rfl
 refine⟨fun p=>?_,fun p=>?_⟩
 rotate_left
 ·exact fin false _ _ (by rw[show decide (d1=d2)=false from beqD p];simp) rfl
 refine⟨fun q=>?_,fun q=>?_⟩
 rotate_left
 ·exact fin false _ _ (by rw[show decide (e=f)=false from q];simp) rfl
 exact fin _ _ _ (by rw[show decide (g=i)=true from beqD n,show decide (d1=d2)=true from beqD p,show decide (e=f)=true from q];rfl) rfl
theorem yag(o:List UInt8)(a:List Stp)(j:Nat)(g:j < a.length):encP o a j++(putIR (a[j]'g).1).1++(putIR (a[j]'g).2).1=encP o a (j+1):=by
 rw[vd o a j g,qj];simp[aA]
theorem DO(F:Fz)(sk:SA)(c:Crt)(E:ClsAt F sk c.cl)(hs:short c.cl)(hl:c.cl.length < 1000000):
  Fo prog F 35 [.agg (crtS c sk)] (fun o _=>(crtOk c=false/\o=.ret (.tup [.va (.str []),.va (.int .i64 100)]))\/(crtOk c=true/\o=.ret (.tup [.va (.str (encC c)),.va (.int .i64 0)]))):=by
 have e:=uu F sk c E hs hl
 have ak:crtOk c=true\/crtOk c=false:=by
  cases crtOk c
  ·exact .inr rfl
  ·exact .inl rfl
 rcases ak with hv | hv
 rotate_left
 ·rw[hv]at e ⊢;obtain⟨kn,kb,ke,kc,kL,kr,rfl,k1,k2,k3,k4⟩:=E;refine foS func35 ?_;refine useFs e ?_;rintro _ F1 G rfl;refine bre dd ?_;exact endFs (.ret (.tup [.va (.str []),.va (.int .i64 100)])) G (.inl ⟨rfl,rfl⟩)
 have h8:=(iu hv).1;have n:=jO hv;rw[hv]at e ⊢;obtain⟨src,f,len,b⟩:=c;replace E:ClsAt F sk b:=E;replace h8:b.length=8:=h8;replace n:∀x∈b,x.2.length<=64:=n
 have al:src.length=32/\f.length=32:=by
  have h:=hv;simp only[crtOk,qd,decide_eq_true_eq]at h;exact⟨h.1,h.2.1⟩
 obtain⟨kn,kb,ke,kc,kL,kr,rfl,k1,k2,k3,k4⟩:=E;have pA:=fun F1=>sO F1 src oo
 have pB:=fun F1=>sO F1 f oo
 have pN:=fun F1=>ip F1 len
 have lA:=ek src;have lB:=ek f;have lN:=er len;show Fo prog F 35 [.agg (crtS ⟨src,f,len,b⟩ (.slice kn 0 kb ke 2 b.length kc))] (fun o F'=>(true=false/\o=.ret (.tup [.va (.str []),.va (.int .i64 100)]))\/(true=true/\o=.ret (.tup [.va (.str ((putSR src).1++(putSR f).1++aA [len]++(b.map dq).flatten)),.va (.int .i64 0)])));rw[show aA [len]=(putIR len).1 by simp[aA]];obtain⟨A,hA⟩:∃A,(putSR src).1=A:=⟨_,rfl⟩
 obtain⟨B,hB⟩:∃B,(putSR f).1=B:=⟨_,rfl⟩
 obtain⟨D,hD⟩:∃D,(putIR len).1=D:=⟨_,rfl⟩
 rw[hA]at pA lA ⊢;rw[hB]at pB lB ⊢;rw[hD]at pN lN ⊢;clear hA hB hD;obtain⟨O,K⟩:∃O:Nat->List UInt8,O=fun k=>A++B++D++((b.take k).map dq).flatten:=⟨_,rfl⟩
 have O0:A++B++D=O 0:=by rw[K];simp
 have O8:A++B++D++(b.map dq).flatten=O 8:=by rw[K];simp only;rw[ql oo]
 have Os:∀k (g:k < b.length),O (k+1)=O k++dq (b[k]'g):=fun k g=>by
  rw[K];simp only;rw[eN g,<-qj]
 have Ol:∀k,(O k).length<=200000:=fun k=>by
  have h2:∀l:List Kp,(∀x∈l,x.2.length<=64)->((l.map dq).flatten).length<=1161*l.length:=by
   intro l
   induction l with
   |nil=>intro _;simp
   |cons y r ih=>
    intro h;have h3:=oq y (h y ss);have h4:=ih fun x hx=>h x (by simp[hx])
    rw[qw,jm,qb,qe];omega
  have h5:=h2 (b.take k) fun x hx=>n x (yh hx)
  rw[qk]at h5;rw[K];simp only[qb];omega
 rw[O8];have aa:A.length+B.length<=9223372036854775807:=by omega
 have I:(A++B).length+D.length<=9223372036854775807:=by rw[qb];omega
 clear K O8;refine foS func35 ?_;refine useFs e ?_;rintro _ F1 G rfl;refine brd dd ?_;refine usePs (pA F1) ?_;refine usePs (pB F1) ?_;refine usePs (pN F1) ?_;refine⟨aa,I,?_⟩;conv=>whnf
 refine aH hΘ (X:={ x:Nat // x<=8 }) (fun x=>[(11,.va (.str (O x.1))),(12,.va (.int .i64 x.1))]) (jr 13 8 (jr 48 51 []))
  (fun x=>[(0,.frz F1),(1,.one (.cells 48 (crtS ⟨src,f,len,b⟩ (.slice kn 0 kb ke 2 b.length kc))))]) 2 (fun x=>8 - x.1) ⟨0,by omega⟩
  (fun J M=>leI [] J M rfl ⟨tv,cR _ (.inr oo),tv⟩ ⟨congrArg SA.str O0.symm,rfl,tv⟩ ⟨Fz.r F1,rfl,tv⟩) ?_
 rintro⟨k,ax⟩ J M;by_cases g:k < 8
 ·have d:k < b.length:=by omega
  have Z:(k:Int) < (b.length:Int):=by omega
  have Q:8 - (k+1) < 8 - k:=by omega
  have S:k < 4611686018427387904:=by omega
  have Y:=n (b[k]'d) (qx d);have av:=Ol k;have ac:=Os k d;have L:=SlR.at k4 d;obtain⟨y,hy,a,rfl,aj⟩:=L;have q:=SlR.lt k1 d;have ai:=ip F1 (((b[k]'d).2.length:Nat):Int);have ay:=er (((b[k]'d).2.length:Nat):Int);have W:(O k).length+(putIR (((b[k]'d).2.length:Nat):Int)).1.length<=9223372036854775807:=by omega
  have ad:O k++(putIR (((b[k]'d).2.length:Nat):Int)).1=encP (O k) (b[k]'d).2 0:=by rw[rY];simp[aA]
  obtain⟨ar,ao,aq,ap,an,au,rfl,U,s,am,V⟩:=aj;refine bri Z ⟨q,⟨by simp,Z⟩,_,G _ _ (k2 q),_,hy,?_⟩;refine usePs (ai) ?_;refine⟨W,?_⟩;conv=>whnf
  refine aH hΘ (X:={ x:Nat // x<=(b[k]'d).2.length }) (fun x=>[(11,.va (.str (encP (O k) (b[k]'d).2 x.1))),(16,.va (.int .i64 x.1))]) (17::18::19::20::jr 70 29 [])
   (fz fun _=>F1) 2 (fun x=>(b[k]'d).2.length - x.1) ⟨0,by omega⟩
   (fun J M=>leI [] J M rfl ⟨tv,tv⟩ ⟨congrArg SA.str ad.symm,rfl,tv⟩ ⟨Fz.r F1,tv⟩) ?_
  rintro⟨j,hj⟩ ab ag;have aw:=wJ (O k) (b[k]'d).2 j Y;by_cases i:j < (b[k]'d).2.length
  ·have m:(j:Int) < (((b[k]'d).2.length:Nat):Int):=by omega
   have w:(b[k]'d).2.length - (j+1) < (b[k]'d).2.length - j:=by omega
   have R:j < 4611686018427387904:=by omega
   have af:=yag (O k) (b[k]'d).2 j i;have p:=Sl.lt U i;have T:=Sl.at V i;have ha:=ip F1 ((b[k]'d).2[j]'i).1;have hb:=ip F1 ((b[k]'d).2[j]'i).2;have az:=er ((b[k]'d).2[j]'i).1;have a0:=er ((b[k]'d).2[j]'i).2;have z1:(encP (O k) (b[k]'d).2 j).length+(putIR ((b[k]'d).2[j]'i).1).1.length<=9223372036854775807:=by omega
   have z2:(encP (O k) (b[k]'d).2 j++(putIR ((b[k]'d).2[j]'i).1).1).length+(putIR ((b[k]'d).2[j]'i).2).1.length<=9223372036854775807:=by rw[qb];omega
   refine bri m ⟨p,⟨by simp,m⟩,_,G _ _ (s p),_,T,?_⟩;refine usePs (ha) ?_;refine⟨p,⟨by simp,m⟩,_,G _ _ (s p),_,T,?_⟩;refine usePs (hb) ?_;refine⟨z1,z2,?_⟩;exact⟨⟨j+1,i⟩,w,leR [] ab ag rfl ⟨tv,tv⟩ ⟨congrArg SA.str af.symm,cnt R,tv⟩ ⟨Fz.r F1,tv⟩⟩
  ·have m:¬(j:Int) < (((b[k]'d).2.length:Nat):Int):=by omega
   have ae:=wI (O k) (b[k]'d);have ah:j=(b[k]'d).2.length:=by omega
   have u:encP (O k) (b[k]'d).2 j=O (k+1):=by rw[ah,ae,<-ac]
   refine brj m ?_;exact⟨⟨k+1,g⟩,Q,leRn [_,_,_] [_,_] [] J M rfl ⟨tv,cR _ (.inr oo),tv⟩ ⟨congrArg SA.str u.symm,cnt S,tv⟩ ⟨Fz.r F1,rfl,tv⟩⟩
 ·have Z:¬(k:Int) < (b.length:Int):=by omega
  have E:k=8:=by omega
  subst E;refine brj Z ?_;exact endFs (.ret (.tup [.va (.str (O 8)),.va (.int .i64 0)])) G (.inr ⟨rfl,rfl⟩)
theorem DK(F:Fz)(s:List UInt8)(hs:s.length<=1000000000000000000):Fo prog F 37 [.va (.str s)] (DecK (decC s)):=by
 have fail:∀(e:Int) (F1:Fz) (h:Hp) (nx:Nat),decC s=(crt0,e)->lget h 0=some (.frz F1)->Fz.le F F1->
   Cln 1 (FoK F (DecK (decC s))) (.ret (.tup [.agg [.str [],.str [],.int .i64 0,.nilsl],.va (.int .i64 e)])) h nx:=by
  intro e F1 h nx hd h0 aa;have hz:resP h 0 0=(0,0):=by simp only[resP,h0]
  refine relE (.ret (.tup [.agg [.str [],.str [],.int .i64 0,.slice true 0 0 0 2 0 0],.va (.int .i64 e)])) (fun ρ x h=>h) (fun _=>by simp[Out.below,SV.below,SC.below,SA.below]) (endFo (.ret (.tup [.agg [.str [],.str [],.int .i64 0,.slice true 0 0 0 2 0 0],.va (.int .i64 e)])) F1 h0 aa (Fz.r F1) ?_ ?_ rfl)
  ·rw[hd];exact⟨_,rfl,SlR.nil⟩
  ·show outE _ (.ret (.tup [.agg [.str [],.str [],.int .i64 0,.slice true (resP h 0 0).1 (resP h 0 0).2 0 2 0 0],.va (.int .i64 e)]));rw[hz];exact aP _
 obtain⟨A,p1,x0,J⟩:∃A p1 x0,getS s 0=(A,p1,x0):=⟨_,_,_,rfl⟩
 obtain⟨B,p2,x1,ag⟩:∃B p2 x1,getS s p1=(B,p2,x1):=⟨_,_,_,rfl⟩
 obtain⟨N,p3,x2,ah⟩:∃N p3 x2,getI s p2=(N,p3,x2):=⟨_,_,_,rfl⟩
 have w:=@iT s 0;have D:=@iT s p1;have E:=@ez s p2;have u0:=tS F s 0 hs ⟨by decide,by decide⟩;have u1:=fun h=>tS F s p1 hs h
 have u2:=fun h=>kA F s p2 hs h
 have hD:decC s=if x0=0 then(if x1=0 then(if x2=0 then dCl s (dEnd s A B N) 8 [] p3 else(crt0,10))else(crt0,10))else(crt0,10):=by
  rw[decC,J];dsimp only;rw[ag];dsimp only;rw[ah]
 rw[J]at w u0;rw[ag]at D u1;rw[ah]at E u2;dsimp only at w D E u0 u1 u2;clear J ag ah;refine foS func37 ?_;refine usePs (u0) ?_;refine br (fun g=>?_) (fun g=>?_)
 ·have M:=fF g;exact fail 10 F _ _ (by rw[hD,if_neg M]) rfl (Fz.r F)
 have M:=fE g;have q1:=(w M).pos;refine usePs (u1 q1) ?_;refine br (fun g=>?_) (fun g=>?_)
 ·have I:=fF g;exact fail 10 F _ _ (by rw[hD,if_pos M,if_neg I]) rfl (Fz.r F)
 have I:=fE g;have q2:=(D I).pos;refine usePs (u2 q2) ?_;refine br (fun g=>?_) (fun g=>?_)
 ·have e2:=fF g;exact fail 10 F _ _ (by rw[hD,if_pos M,if_pos I,if_neg e2]) rfl (Fz.r F)
 have e2:=fE g;have q3:=(E e2).rng;rw[if_pos M,if_pos I,if_pos e2]at hD;clear w D E q1 q2 u0 u1 u2 M I e2;conv=>whnf
 refine mf hΘ (X:={ y:Nat×List Kp×List ZC×Nat×Int×Fz // CI F s A B N y.1 y.2.1 y.2.2.1 y.2.2.2.2.1 y.2.2.2.2.2 }) (fun y=>[(6,.va (.int .i64 y.1.2.2.2.2.1)),(13,.va (.int .i64 ((y.1.1:Int)+1)))]) (3::jr 14 11 (jr 62 64 []))
  (fun y=>[(0,.frz y.1.2.2.2.2.2),(2,crtL A B N 3 y.1.2.2.2.1 y.1.2.2.1),(3,gE 52 2 encZ y.1.2.2.2.1 y.1.2.2.1)]) 4 (fun y=>8 - y.1.1) ⟨(0,[],[],0,p3,F),.start q3 hD⟩
  (fun hH hT=>leI [(3,3)] hH hT rfl ⟨tv,eY oo _ _ _ _ _,bP aD oo _ _ _ _,tv⟩ ⟨rfl,rfl,tv⟩ ⟨Fz.r F,rfl,rfl,tv⟩) ?_
 rintro⟨⟨k,acc,o,co,p,G⟩,hI⟩ hH hT;replace hI:CI F s A B N k acc o p G:=hI;by_cases g:k < 8
 ·have gi:(k:Int)+1<=8:=by omega
  have L:8 - (k+1) < 8 - k:=by omega
  have K:((k+1:Nat):Int)+1=IntKind.i64.wrap ((k:Int)+1+1):=by rw[aI oo oo];omega
  obtain⟨-,Y,Q,len,sh,pos,c⟩:=hI;have a0:(k:Int)+1=(acc.length:Int)+1:=by rw[len]
  rw[show 8 - k=8 - (k+1)+1 by omega,dCl]at c;have J:∃n p1 x0,getI s p=(n,p1,x0):=⟨_,_,_,rfl⟩
  obtain⟨n,p1,x0,J⟩:=J;have u0:=kA G s p hs (by unfold i64;omega);have w:=@ez s p;rw[J]at u0 w c;dsimp only at u0 w c;clear J;have hn0:0<=n\/¬0<=n:=Decidable.em _;have hm:∃m:Nat,n.toNat=m:=⟨_,rfl⟩
  obtain⟨m,hm⟩:=hm;rw[hm]at c;refine bri gi ?_;refine usePs (u0) ?_;refine br (fun gx=>?_) (fun gx=>?_)
  ·have M:=fF gx;exact fail 10 G _ _ (by rw[c,if_neg M]) rfl Y
  have M:=fE gx;have q1:=(w M).rng;rw[if_pos M]at c;clear w u0 M gx;rcases hn0 with hn0 | hn0
  rotate_left
  ·refine⟨fun h=>absurd (oe h) oo,fun _=>?_⟩;exact fail 100 G _ _ (by rw[c,if_neg (fun h=>hn0 h.1)]) rfl Y
  refine⟨fun _=>?_,fun h=>absurd (od h) oo⟩;refine br (fun gx=>?_) (fun gx=>?_)
  ·have gx:=od gx;exact fail 100 G _ _ (by rw[c,if_neg oo]) rfl Y
  have av:n<=64:=by have:=oe gx;omega
  rw[if_pos ⟨hn0,av⟩]at c;clear gx;have a4:n=(m:Int):=by omega
  have a3:m<=64:=by omega
  conv=>whnf
  refine aH hΘ (X:={ y:Nat×List Stp×Nat×Int // CJ s A B N k acc m y.1 y.2.1 y.2.2.2 }) (fun y=>[(6,.va (.int .i64 y.1.2.2.2)),(18,.va (.int .i64 y.1.1))]) (3::jr 19 6 (jr 86 34 []))
   (fun y=>[(0,.frz G),(4,clmL ((k:Int)+1) 5 y.1.2.2.1 y.1.2.1),(5,gE 56 2 enc y.1.2.2.1 y.1.2.1)]) 6 (fun y=>m - y.1.1) ⟨(0,[],0,p1),jx _,rfl,q1,c⟩
   (fun hH hT=>leI [(5,5)] hH hT rfl ⟨tv,li oo _ _ _,aF iY _ _ _ _ _,tv⟩ ⟨rfl,rfl,tv⟩ ⟨Fz.r G,rfl,rfl,tv⟩) ?_
  rintro⟨⟨j,W,cs,q⟩,hJ⟩ aw ax;replace hJ:CJ s A B N k acc m j W q:=hJ;obtain⟨hj,ar,au,d⟩:=hJ;by_cases gj:j < m
  ·have O:(j:Int) < n:=by omega
   have af:m - (j+1) < m - j:=by omega
   have al:j < 4611686018427387904:=by omega
   have ao:W.length < 64:=by omega
   rw[show m - j=m - (j+1)+1 by omega,dSt]at d;have Z:∃a y1 f1,getI s q=(a,y1,f1):=⟨_,_,_,rfl⟩
   obtain⟨a,y1,f1,Z⟩:=Z;have U:∃b y2 f2,getI s y1=(b,y2,f2):=⟨_,_,_,rfl⟩
   obtain⟨b,y2,f2,U⟩:=U;have u1:=kA G s q hs (by unfold i64;omega);have u2:=fun h=>kA G s y1 hs h
   have D:=@ez s q;have E:=@ez s y1;rw[Z]at u1 D d;rw[U]at u2 E;dsimp only at u1 u2 D E d;rw[U]at d;dsimp only at d;clear Z U;have a1:1*16<=140737488355328:=by decide
   have a2:∀n,n < 64->(n+1)*16<=140737488355328:=fun n hn=>by omega
   rcases W with _ | ⟨s0,S⟩
   all_goals
    refine bri O ?_;refine usePs (u1) ?_;refine br (fun gx=>?_) (fun gx=>?_)
    ·have I:=fF gx;exact fail 10 G _ _ (by rw[d,if_neg I]) rfl Y
    have I:=fE gx;have t1:=(D I).pos;rw[if_pos I]at d;clear u1 D I gx;refine usePs (u2 t1) ?_;refine br (fun gx=>?_) (fun gx=>?_)
    ·have I:=fF gx;exact fail 10 G _ _ (by rw[d,if_neg I]) rfl Y
    have I:=fE gx;have t2:=(E I).rng;rw[if_pos I]at d;clear u2 E I t1 gx;refine⟨nb rfl,[enc (a,b)],rfl,?_⟩;conv=>whnf
    first
    |(refine⟨rfl,rfl,?_⟩;(conv=>whnf);refine⟨a1,fun c' T=>?_⟩)
    |refine⟨rfl,rfl,by simp,rfl,a2 _ ao,fun c' T=>?_⟩
    exact⟨⟨(j+1,_++[(a,b)],c',y2),gj,by rw[qb,ar];rfl,t2,d⟩,af,leR [(5,7)] aw ax rfl ⟨tv,li oo _ _ _,aF iY _ _ _ _ _,tv⟩ ⟨rfl,cnt al,tv⟩ ⟨Fz.r _,yG rfl rfl,aQ iY (aZ _ (by rw[qo];rfl)),tv⟩⟩
  ·have O:¬(j:Int) < n:=by omega
   rw[show m - j=0 by omega,dSt]at d;have am:k+1<=8:=g;have ao:W.length<=64:=by omega
   have ab:o.length<=8:=by rw[Q.1];omega
   have ad:1*32<=140737488355328:=by decide
   have ae:∀n,n<=8->(n+1)*32<=140737488355328:=fun n hn=>by omega
   have ac:short (acc++[((acc.length:Int)+1,W)]):=fun x hx=>by
    rcases yf.1 hx with hx | hx
    ·exact sh x hx
    ·obtain rfl:=qs.1 hx;show W.length < 1000000;omega
   have an:(acc++[((acc.length:Int)+1,W)]).length=k+1:=by rw[qb,len];rfl
   have u:∀(V:Fz) (z:ZC),Fz.le G V->KpR V z.1 ((k:Int)+1,W)->CI F s A B N (k+1) (acc++[((acc.length:Int)+1,W)]) (o++[z]) q V:=fun V z aa hz=>by
    rw[a0]at hz;exact⟨am,Fz.t Y aa,(Q.mono aa).snoc hz,an,ac,au,d⟩
   rcases W with _ | ⟨s0,S⟩<;>rcases o with _ | ⟨o0,f⟩
   ·refine brj O ⟨nb rfl,[[.int .i64 ((k:Int)+1),.nilsl]],rfl,rfl,rfl,ad,fun c' T=>?_⟩;refine lC 7 (kQ 52 ([]:List ZC) ((k:Int)+1) c') rfl (fun ρ o h=>mg (l:=([]:List ZC)) ρ o h) (k8 (show 0 < 8 by decide)) ?_;exact dT ⟨⟨(k+1,acc++[((acc.length:Int)+1,[])],([]:List ZC)++[mkZ ((k:Int)+1) (.slice true 0 0 0 2 0 0) rfl],c',q,G),u G _ (Fz.r G) ⟨_,rfl,Sl.nil⟩⟩,L,leRn [_,_,_] [_,_] [(3,7)] hH hT rfl ⟨tv,eY oo _ _ _ _ _,bP aD oo _ _ _ _,tv⟩ ⟨rfl,congrArg (SA.int .i64) K,tv⟩ ⟨Fz.r _,fV rfl rfl,cQ (μ:=sig [(3,7)]) aD (fun k=>rfl) (aZ _ (by rw[qo];rfl)),tv⟩⟩
   ·refine brj O ⟨nb rfl,[[.int .i64 ((k:Int)+1),.nilsl]],rfl,rfl,rfl,by simp,rfl,ae _ ab,fun c' T=>?_⟩;refine lC 7 (kQ 52 (o0::f) ((k:Int)+1) c') rfl (fun ρ o h=>mg (l:=(o0::f)) ρ o h) (k8 (show 0 < 8 by decide)) ?_;exact dT ⟨⟨(k+1,acc++[((acc.length:Int)+1,[])],(o0::f)++[mkZ ((k:Int)+1) (.slice true 0 0 0 2 0 0) rfl],c',q,G),u G _ (Fz.r G) ⟨_,rfl,Sl.nil⟩⟩,L,leRn [_,_,_] [_,_] [(3,7)] hH hT rfl ⟨tv,eY oo _ _ _ _ _,bP aD oo _ _ _ _,tv⟩ ⟨rfl,congrArg (SA.int .i64) K,tv⟩ ⟨Fz.r _,fV rfl rfl,cQ (μ:=sig [(3,7)]) aD (fun k=>rfl) (aZ _ (by rw[qo];rfl)),tv⟩⟩
   ·refine brj O ⟨nb rfl,[[.int .i64 ((k:Int)+1),.slice false 5 0 0 2 (S.length+1) cs]],rfl,rfl,rfl,ad,fun c' T=>?_⟩;refine eO 5 (fun _=>.arr 56 2 ((s0::S).map enc) cs) rfl rfl rfl (fun _ _=>gM _ _ _) (fun _ _=>eP _ _) ?_;intro z6 V v6 ai;refine eJ 7 _ rfl (fh (fun _=>rfl) (i:=5) (z:=z6 0) rfl ([]:List ZC) ((k:Int)+1) (S.length+1) cs c') (eQ (show 0 < 8 by decide) ([]:List ZC) (mkZ ((k:Int)+1) (.slice false 0 (z6 0) 0 2 _ cs) rfl) _) ?_;exact dT ⟨⟨(k+1,acc++[((acc.length:Int)+1,s0::S)],([]:List ZC)++[mkZ ((k:Int)+1) (.slice false 0 (z6 0) 0 2 (S.length+1) cs) rfl],c',q,V),u V _ v6 ⟨_,rfl,Sl.new (l:=s0::S) (ai 0 ⟨rfl,rfl⟩)⟩⟩,L,leRn [_,_,_] [_,_] [(3,7)] hH hT rfl ⟨tv,eY oo _ _ _ _ _,bP aD oo _ _ _ _,tv⟩ ⟨rfl,congrArg (SA.int .i64) K,tv⟩ ⟨Fz.r _,fV rfl rfl,cQ (μ:=sig [(3,7)]) aD (fun k=>rfl) (aZ _ (by rw[qo];rfl)),tv⟩⟩
   ·refine brj O ⟨nb rfl,[[.int .i64 ((k:Int)+1),.slice false 5 0 0 2 (S.length+1) cs]],rfl,rfl,rfl,by simp,rfl,ae _ ab,fun c' T=>?_⟩;refine eO 5 (fun _=>.arr 56 2 ((s0::S).map enc) cs) rfl rfl rfl (fun _ _=>gM _ _ _) (fun _ _=>eP _ _) ?_;intro z6 V v6 ai;refine eJ 7 _ rfl (fh (fun _=>rfl) (i:=5) (z:=z6 0) rfl (o0::f) ((k:Int)+1) (S.length+1) cs c') (eQ (show 0 < 8 by decide) (o0::f) (mkZ ((k:Int)+1) (.slice false 0 (z6 0) 0 2 _ cs) rfl) _) ?_;exact dT ⟨⟨(k+1,acc++[((acc.length:Int)+1,s0::S)],(o0::f)++[mkZ ((k:Int)+1) (.slice false 0 (z6 0) 0 2 (S.length+1) cs) rfl],c',q,V),u V _ v6 ⟨_,rfl,Sl.new (l:=s0::S) (ai 0 ⟨rfl,rfl⟩)⟩⟩,L,leRn [_,_,_] [_,_] [(3,7)] hH hT rfl ⟨tv,eY oo _ _ _ _ _,bP aD oo _ _ _ _,tv⟩ ⟨rfl,congrArg (SA.int .i64) K,tv⟩ ⟨Fz.r _,fV rfl rfl,cQ (μ:=sig [(3,7)]) aD (fun k=>rfl) (aZ _ (by rw[qo];rfl)),tv⟩⟩
 ·have gi:¬(k:Int)+1<=8:=by omega
  obtain⟨hk,Y,Q,len,sh,pos,c⟩:=hI;have am:k=8:=by omega
  rw[show 8 - k=0 by omega,dCl,dEnd]at c;have az:acc.length < 1000000:=by omega
  rcases o with _ | ⟨o0,f⟩
  ·have h0:0=acc.length:=Q.1;omega
  have ab:f.length+1=acc.length:=Q.1;have ak:=fun(F3:Fz) (l3:Fz.le G F3) (z:Nat) (hz:F3 z=some (.arr 52 2 ((o0::f).map encZ) co))=>RowG.sl (R:=KpR) (cap:=co) (RowG.mono (R:=KpR) (fun h l=>h.mono l) Q l3) hz
  rw[<-ab]at ak;have ap:=fun(F3:Fz) sk (h:ClsAt F3 sk acc)=>uu F3 sk ⟨A,B,N,acc⟩ h sh az
  have hok:crtOk ⟨A,B,N,acc⟩=true\/crtOk ⟨A,B,N,acc⟩=false:=by
   cases crtOk ⟨A,B,N,acc⟩
   ·exact .inr rfl
   ·exact .inl rfl
  refine brj gi ?_;refine br (fun gx=>?_) (fun gx=>?_)
  ·have gx:=fF gx;exact fail 10 G _ _ (by rw[c,if_neg gx]) rfl Y
  have gx:=fE gx;rw[if_pos gx]at c;clear gx;refine mB 3 (fun _=>.arr 52 2 ((o0::f).map encZ) co) rfl rfl rfl (fun _ _=>by exact dt (μ:=resP _) aD (fun k=>rfl) rfl _ _ _) (fun _ _=>dv aD oo _ _ _ _) ?_;intro bC F3 l3 ay;have aj:=ak F3 l3 _ (ay 0 ⟨rfl,rfl⟩);have hv:=ap F3 _ aj;have aq:=Fz.t Y l3;rcases hok with hok | hok
  ·rw[if_pos hok]at c;rw[hok]at hv;refine useFs hv ?_;rintro _ F4 l4 rfl;refine brd dd ?_;refine endFs (.ret (.tup [.agg (crtS ⟨A,B,N,acc⟩ (.slice false 0 (bC 0) 0 2 (f.length+1) co)),.va (.int .i64 0)])) (Fz.t aq l4) ?_;exact⟨.slice false 0 (bC 0) 0 2 (f.length+1) co,by rw[c],by rw[c];exact KpsAt.up aj l4⟩
  ·rw[if_neg (by rw[hok];simp)]at c;rw[hok]at hv;refine useFs hv ?_;rintro _ F4 l4 rfl;refine bre dd ?_;exact fail 100 F4 _ _ c rfl (Fz.t aq l4)
