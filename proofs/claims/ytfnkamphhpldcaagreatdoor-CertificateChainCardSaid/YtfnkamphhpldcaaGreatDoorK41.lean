import Derived.Test.YtfnkamphhpldcaaGreatDoorK40
set_option maxHeartbeats 64000000
namespace Go.Proofs.YtfnkamphhpldcaaGreatDoor
open Go Sx Tryz
set_option maxRecDepth 100000
def DocR(F:Fz)(y:List SA)(d:Dc):Prop:=∃a b,y=docS a b d.w d.bits/\DocAt F a b d
def ValR(F:Fz)(y:List SA)(A:List (List UInt8)):Prop:=∃b c,y=[.slice false 0 b 0 1 8 c]/\F b=some (.arr 9 1 (A.map encS) c)/\8<=c
theorem wL{d:Dc}(f:docOk d=true)(F:Fz)(a b:SA)(g:DocAt F a b d):
  Fo prog F 14 [.agg (docS a b d.w d.bits)] (fun o e=>∃b c,o=.ret (.tup [.va (.slice false 0 b 0 1 8 c),.va (.int .i64 0)])/\e b=some (.arr 9 1 ((allB d).map encS) c)/\8<=c):=
 cP (Bi F a b d g (lj f)) fun o e h=>by
  rcases h with⟨h,_⟩ | ⟨_,h⟩
  ·exact absurd (h.symm.trans f) ss
  ·exact h
variable {F:Fz}
theorem DocR.mono{d:Fz}{y:List SA}{x:Dc}(h:DocR F y x)(c:Fz.le F d):DocR d y x:=by
 obtain⟨a,b,h1,e⟩:=h;exact⟨a,b,h1,e.mono c⟩
theorem ValR.mono{d:Fz}{y:List SA}{x:List (List UInt8)}(h:ValR F y x)(a:Fz.le F d):ValR d y x:=by
 obtain⟨b,c,h1,e,f⟩:=h;exact⟨b,c,h1,a _ _ e,f⟩
abbrev ye9(F:Fz)(a:SA)(l:List Dc):Prop:=SlR F 41 4 (DocR F) a l
abbrev ybl(F:Fz)(a:SA)(l:List (List (List UInt8))):Prop:=SlR F 34 1 (ValR F) a l
def mkR(l:List SA)(h:l.all SA.z=true):ZC:=⟨l,fun x a=>qo.1 h x a⟩
variable {k:Nat}
theorem Cz{zs:List Int}(a:∀i,i64 (zs.getD i 0))(b:k < 6):migOk (mig10 zs k)=true/\short (mig10 zs k).keep/\(mig10 zs k).keep.length < 1000000:=
 Ak (by simp[idOk];omega) (by simp[idOk];omega) ⟨a _,a _,a _,a _,a _⟩
structure ChI(F:Fz)(n k:Nat)(D:List Dc)(C:List Crt)(od ov oc:List ZC)(cc:Nat)(G:Fz):Prop where
 cap:oc.length<=cc
 le:Fz.le F G
 kn:k<=n
 dl:D.length=k+1
 cl:C.length=k
 d:RowG DocR G D od
 v:RowG ValR G (D.map allB) ov
 c:RowG CrtR G C oc
 ch:Chn (D.map allB) C
 ok:∀d∈D,docOk d=true
abbrev ChX:=Nat×(List Dc×List Crt)×(List ZC×Nat)×(List ZC×Nat)×(List ZC×Nat)×Fz
def np(o:Out)(a:Fz):Prop:=∃e sv c D C g h f,o=.ret (.tup [.va e,.va sv,.va c,.va (.bool true)])/\ye9 a e D/\ybl a sv (D.map allB)/\nq a c C/\Chn (D.map allB) C/\(∀d∈D,docOk d=true)/\C.length<=6/\
 (∃b,e=.slice false 0 b 0 4 D.length g)/\(∃b,sv=.slice false 0 b 0 1 D.length h)/\(∃i b,c=.slice i 0 b 0 4 C.length f)/\C.length<=f
theorem ChI.fin{n:Nat}{D:List Dc}{C:List Crt}{od m j:List ZC}{e:Nat}{G:Fz}(h:ChI F n k D C od m j e G)(K:n<=6){b:Fz}(a:Fz.le G b){zd zv f g:Nat}
  (I:b zd=some (.arr 41 4 (od.map encZ) f))(J:b zv=some (.arr 34 1 (m.map encZ) g)){w:SA}(u:(j=[]/\w=.slice true 0 0 0 4 0 0)\/∃zc,b zc=some (.arr 48 4 (j.map encZ) e)/\w=.slice false 0 zc 0 4 j.length e):
  np (.ret (.tup [.va (.slice false 0 zd 0 4 od.length f),.va (.slice false 0 zv 0 1 m.length g),.va w,.va (.bool true)])) b:=by
 have q:od.length=D.length:=h.d.1;have s:m.length=D.length:=by rw[h.v.1,qa]
 have i:j.length=C.length:=h.c.1;have o:=(RowG.mono (R:=DocR) (fun h l=>DocR.mono h l) h.d a).sl (cap:=f) I;have p:=(RowG.mono (R:=ValR) (fun h l=>ValR.mono h l) h.v a).sl (cap:=g) J;rw[qa,<-s]at p;rw[<-q]at o;have y:C.length<=6:=by have:=h.cl;have:=h.kn;omega
 rcases u with⟨A,rfl⟩ | ⟨zc,E,rfl⟩
 ·have B:C=[]:=by rw[A]at i;exact q5 i.symm
  subst B;exact⟨_,_,_,D,[],f,g,0,rfl,o,p,SlR.nil,h.ch,h.ok,y,⟨zd,by rw[q]⟩,⟨zv,by rw[s]⟩,⟨true,0,rfl⟩,qj 0⟩
 ·have x:=(RowG.mono (R:=CrtR) (fun h l=>CrtR.mono h l) h.c a).sl (cap:=e) E;rw[<-i]at x;exact⟨_,_,_,D,C,f,g,e,rfl,o,p,x,h.ch,h.ok,y,⟨zd,by rw[q]⟩,⟨zv,by rw[s]⟩,⟨false,zc,by rw[i]⟩,i▸h.cap⟩
theorem ChI.snoc{n:Nat}{D:List Dc}{C:List Crt}{od j g:List ZC}{m:Nat}{G:Fz}(h:ChI F n k D C od j g m G)(u:k+1<=n){b:Fz}(a:Fz.le G b){M:Mig}{d e:Dc}(q:D[k]? =some d)(i:docOk e=true)(s:bJ (makeC M d e) (allB d) (allB e)=true)(w:short M.keep)
  {zd zv zc:ZC}(h1:DocR b zd.1 e)(o:ValR b zv.1 (allB e))(p:CrtR b zc.1 (makeC M d e)){c':Nat}(f:g.length+1<=c'):ChI F n (k+1) (D++[e]) (C++[makeC M d e]) (od++[zd]) (j++[zv]) (g++[zc]) c' b:=by
 refine⟨by rw[qb];exact f,Fz.t h.le a,u,by rw[qb,h.dl];rfl,by rw[qb,h.cl];rfl,(RowG.mono (R:=DocR) (fun h l=>DocR.mono h l) h.d a).snoc h1,?_,(RowG.mono (R:=CrtR) (fun h l=>CrtR.mono h l) h.c a).snoc p,?_,fun x hx=>?_⟩
 ·rw[qq];exact(RowG.mono (R:=ValR) (fun h l=>ValR.mono h l) h.v a).snoc o
 ·rw[qq];refine h.ch.snoc ?_ rfl (lf w) (uY i);rw[h.cl,qu,q];exact s
 ·rcases yd.1 hx with hx | hx
  ·exact h.ok x hx
  ·rw[qs]at hx;subst hx;exact i
theorem RowG.one{α:Type}{R:Fz->List SA->α->Prop}{G:Fz}{x:α}{z:ZC}(h:R G z.1 x):RowG R G [x] [z]:=⟨rfl,fun i c b h1 a=>by
 rcases i with _ | i
 ·cases h1;cases a;exact h
 ·simp at h1⟩
theorem ChI.new{n:Nat}{d:Dc}(a:docOk d=true){zd zv:ZC}(h1:DocR F zd.1 d)(c:ValR F zv.1 (allB d)):ChI F n 0 [d] [] [zd] [zv] [] 0 F:=
 ⟨qj 0,Fz.r F,js n,rfl,rfl,RowG.one h1,RowG.one c,⟨rfl,fun i z x h _=>nomatch h⟩,Chn.new (uY a),fun x b=>by rw[qs]at b;subst b;exact a⟩
theorem sz_le{n w:Nat}(h:n+1=k+1)(b:k<=6)(a:w<=100):(n+1+1)*w<=140737488355328:=
 jm (qah (show n+1+1<=8 by omega) a) dd
theorem yg6{α:Type}{c:α}{r:List α}{w:Nat}(h:(c::r).length=k)(b:k<=6)(a:w<=100):(r.length+1+1)*w<=140737488355328:=
 jm (qah (show r.length+1+1<=8 by rw[qf]at h;omega) a) dd
theorem Ee(F:Fz)(m0:MLF F)(r0:RNDF F)(n1 n2 n3:Bool)(b1 o1 c1 b2 o2 c2 b3 o3 l3 c3 l x:Nat)(q1 q2:Int)(d:Dc)(hd:docOk d=true)(zs:List Int)(hz:∀i,i64 (zs.getD i 0))(n:Nat)(q:n<=6)
  (ad:∀F1,Fz.le F F1->Fo prog F1 15 [.agg (caseS n1 n2 n3 b1 o1 c1 b2 o2 c2 b3 o3 l3 c3 l x q1 q2)] (fun o F'=>∃a b,o=.ret (.agg (docS a b d.w d.bits))/\DocAt F' a b d))
  (ar:∀F1,Fz.le F F1->Fo prog F1 32 [.agg (caseS n1 n2 n3 b1 o1 c1 b2 o2 c2 b3 o3 l3 c3 l x q1 q2)] (fun o F'=>∃sm,o=.ret (.va sm)/\ns F' sm (dq zs n))):
  Fo prog F 23 [.agg (caseS n1 n2 n3 b1 o1 c1 b2 o2 c2 b3 o3 l3 c3 l x q1 q2)] np:=by
 have bh:=fun F a b=>wL hd F a b
 refine foS func23 ?_;refine useFs (ad F (Fz.r F)) ?_;rintro _ F1 u1 ⟨a,b,rfl,hD⟩;have aw:=hD;obtain⟨an,ab,ae,ac,bn,bb,be,bc,rfl,rfl,-,-,-⟩:=hD;refine⟨rfl,⟨by simp,by simp⟩,_,rfl,?_⟩;refine useFs (bh F1 _ _ aw) ?_;rintro _ F2 u2 ⟨vb,vc,rfl,hV⟩;refine useFs (ar F2 (Fz.t u1 u2)) ?_;rintro _ F3 u3 ⟨sm,rfl,hm⟩;have bi:=hm;obtain⟨mn,mb,me,mc,mL,mr,rfl,m1,m2,m3,m4⟩:=hm
 conv=>whnf
 have bj:ns F3 (.slice mn 0 mb me 5 (dq zs n).length mc) (dq zs n):=bi;have z0:=oK zs n;rw[z0]at bj
 refine aI hΘ (X:={ y:ChX // ChI F3 n y.1 y.2.1.1 y.2.1.2 y.2.2.1.1 y.2.2.2.1.1 y.2.2.2.2.1.1 y.2.2.2.2.1.2 y.2.2.2.2.2 }) (fun y=>[(6,.va (gA 4 4 y.1.2.2.1.2 y.1.2.2.1.1)),(9,.va (gA 1 5 y.1.2.2.2.1.2 y.1.2.2.2.1.1)),(10,.va (gA 4 6 y.1.2.2.2.2.1.2 y.1.2.2.2.2.1.1)),(12,.va (.int .i64 y.1.1))]) (2::3::4::5::jr 13 6 (jr 33 66 []))
  (fun y=>[(0,.frz y.1.2.2.2.2.2),(1,.one (.cells 27 (caseS n1 n2 n3 b1 o1 c1 b2 o2 c2 b3 o3 l3 c3 l x q1 q2))),(2,.gone),(3,.gone),(4,gE 41 4 encZ y.1.2.2.1.2 y.1.2.2.1.1),(5,gE 34 1 encZ y.1.2.2.2.1.2 y.1.2.2.2.1.1),(6,gE 48 4 encZ y.1.2.2.2.2.1.2 y.1.2.2.2.2.1.1)]) 7 (fun y=>n - y.1.1)
  ⟨(0,([d],[]),([mkR (docS (.slice an 0 ab ae 2 d.lines.length ac) (.slice bn 0 bb be 6 d.cells.length bc) d.w d.bits) rfl],1),([mkR [.slice false 0 vb 0 1 8 vc] rfl],1),([],0),F3),ChI.new hd ⟨_,_,rfl,(aw.mono u2).mono u3⟩ ⟨_,_,rfl,u3 _ _ hV.1,hV.2⟩⟩
  (fun hH hT=>leI [(4,2),(5,3),(6,6)] hH hT rfl ⟨tv,ip oo,tv,tv,c7 aQ oo _ _ _ _,c7 aQ oo _ _ _ _,c7 aQ oo _ _ _ _,tv⟩ ⟨⟨rfl,rfl,rfl,.inr ⟨rfl,rfl,rfl,rfl⟩⟩,⟨rfl,rfl,rfl,.inr ⟨rfl,rfl,rfl,rfl⟩⟩,rfl,rfl,tv⟩ ⟨Fz.r F3,rfl,rfl,rfl,rfl,tv⟩) ?_
 rintro⟨⟨k,⟨D,C⟩,⟨od,cd⟩,⟨ov,cv⟩,⟨oc,cc⟩,G⟩,p⟩ hH hT;replace p:ChI F3 n k D C od ov oc cc G:=p;have hG:=p.le;have ap:=p.kn;by_cases g:k < n
 ·have gi:(k:Int) < ((dq zs n).length:Nat):=by rw[z0];omega
  have ag:n - (k+1) < n - k:=by omega
  have ah:k < 4611686018427387904:=by omega
  have z3:Fz.le F F3:=Fz.t u1 (Fz.t u2 u3);have mG:=m0.mono (Fz.t z3 hG);have rG:=r0.mono (Fz.t z3 hG);have m:=Cz hz (yy g q);have ao:(dq zs n)[k]? =some (mig10 zs k):=by unfold dq;simp[g]
  have R:∃e,D[k]? =some e/\docOk e=true:=by
   have hl:k < D.length:=by rw[p.dl];omega
   exact⟨D[k],qc hl,p.ok _ (qt hl)⟩
  obtain⟨e,R,am⟩:=R
  have af:∃z,od[k]? =some z:=by
   have hl:k < od.length:=by rw[p.d.1,p.dl];omega
   exact⟨od[k],qc hl⟩
  obtain⟨z,af⟩:=af;have bm:=p.d.2 k z e af R;obtain⟨da,db,bo,al⟩:=bm;have bk:=m4 k _ ao;obtain⟨my,bl,a4,rfl,aq⟩:=bk;have S:=KpsAt.up aq hG;have aj:=yem m.1 m.2.1 m.2.2 am G mG a4 da db S al;have au:mn=false:=by cases mn with | false=>rfl | true=>have:=m1 rfl;rw[this]at ao;simp at ao
  have az:=hG _ _ (m2 au);have ai:(od.map encZ)[0+(k:Int).toNat]? =some (docS da db e.w e.bits):=by rw[qz,qg,qu,af];exact congrArg some bo
  have T:mL[me+(k:Int).toNat]? =some (migS (mig10 zs k) a4):=by rw[qg];exact bl
  have s:od.length=k+1:=by rw[p.d.1,p.dl]
  have I:ov.length=k+1:=by rw[p.v.1,qa,p.dl]
  have a2:oc.length=k:=by rw[p.c.1,p.cl]
  have hM:∃M,mig10 zs k=M:=⟨_,rfl⟩
  obtain⟨M,hM⟩:=hM;rw[hM]at m aq S aj T;rcases od with _ | ⟨d0,E⟩
  ·simp at s
  rcases ov with _ | ⟨v0,L⟩
  ·simp at I
  have ay:=al;obtain⟨a8,a5,a7,a6,bf,a9,bd,ba,rfl,rfl,-,-,-⟩:=al;obtain⟨kn,kb,ke,kc,kL,kr,rfl,-,-,-,-⟩:=aq;have gd:(k:Int) < ((E.length+1:Nat):Int):=by have h9:E.length+1=k+1:=s;omega
  have a1:=fun f (J:runD M.keep e=some f) (U:Fz) (l2:Fz.le G U) a b hE=>Cx m.1 m.2.1 m.2.2 am U (mG.mono l2) (rG.mono l2) (.slice kn 0 kb ke 2 M.keep.length kc) (.slice a8 0 a5 a7 2 e.lines.length a6) (.slice bf 0 a9 bd 6 e.cells.length ba) a b J (KpsAt.up S l2) (ay.mono l2) hE
  have a3:=fun f (J:runD M.keep e=some f)=>yen m.1 m.2.1 m.2.2 am J
  have bp:(E.length+1+1)*72<=140737488355328:=sz_le s (jm ap q) dd;have bq:(L.length+1+1)*24<=140737488355328:=sz_le I (jm ap q) dd;rcases oc with _ | ⟨Q,cr⟩
  all_goals
   refine⟨fun _=>?_,fun h=>absurd gi (oe h)⟩;refine bre dd ?_;refine dwS (lk [0,1,2,3,4,5,6,7] (.alt 8 (lk [9,10,11] (.alt 12 (.alt 13 (.look 14 .done) .nil) .nil)) (.alt 12 (.alt 8 (lk [9,10,11] (.alt 13 (.look 14 .done) .nil)) .nil) .nil))) [4] ?_;refine⟨au,⟨by omega,gi⟩,rfl,_,az,_,T,rfl,⟨by omega,gd⟩,rfl,rfl,_,ai,?_,?_⟩
   all_goals
    conv=>whnf
    try (refine⟨Fz.r G,rfl,?_⟩)
    (conv=>whnf)
    refine useFs aj ?_;rintro _ G1 O (rfl | ⟨f,bs,bt,J,rfl,hE⟩)
    ·refine⟨O,rfl,?_⟩
     repeat' ((conv=>whnf);first
      |refine⟨rfl,?_⟩
      |refine⟨O,rfl,?_⟩
      |refine⟨Fz.r _,rfl,?_⟩
      |fail)
     refine bre dd ?_;refine cu 4 (fun _=>.arr 41 4 ((d0::E).map encZ) cd) rfl rfl rfl (fun _ _=>by exact dW (μ:=resP _) aQ (fun k=>rfl) rfl _ _ _) (fun _ _=>dZ aQ oo _ _ _ _) ?_;intro x4 G4 w4 h4;refine cu 5 (fun _=>.arr 34 1 ((v0::L).map encZ) cv) rfl rfl rfl (fun _ _=>by exact dW (μ:=resP _) aQ (fun k=>rfl) rfl _ _ _) (fun _ _=>dZ aQ oo _ _ _ _) ?_;intro x5 G5 K h5
     first
     |exact endFo (.ret (.tup [.va (.slice false 0 (x4 0) 0 4 (E.length+1) cd),.va (.slice false 0 (x5 0) 0 1 (L.length+1) cv),.va (.slice true 0 0 0 4 0 0),.va (.bool true)])) G5 rfl (Fz.t z3 (Fz.t hG (Fz.t O (Fz.t w4 K)))) (Fz.r G5) (p.fin q (Fz.t O (Fz.t w4 K)) (K _ _ (h4 0 ⟨rfl,rfl⟩)) (h5 0 ⟨rfl,rfl⟩) (.inl ⟨rfl,rfl⟩)) ⟨⟨rfl,rfl,rfl,.inr ⟨rfl,rfl,rfl,rfl⟩⟩,⟨rfl,rfl,rfl,.inr ⟨rfl,rfl,rfl,rfl⟩⟩,⟨rfl,rfl,rfl⟩,rfl,tv⟩ rfl
     |refine cu 6 (fun _=>.arr 48 4 ((Q::cr).map encZ) cc) rfl rfl rfl (fun _ _=>by exact dW (μ:=resP _) aQ (fun k=>rfl) rfl _ _ _) (fun _ _=>dZ aQ oo _ _ _ _) ?_
      intro x6 G6 w6 h6;exact endFo (.ret (.tup [.va (.slice false 0 (x4 0) 0 4 (E.length+1) cd),.va (.slice false 0 (x5 0) 0 1 (L.length+1) cv),.va (.slice false 0 (x6 0) 0 4 (cr.length+1) cc),.va (.bool true)])) G6 rfl (Fz.t z3 (Fz.t hG (Fz.t O (Fz.t w4 (Fz.t K w6))))) (Fz.r G6) (p.fin q (Fz.t O (Fz.t w4 (Fz.t K w6))) (w6 _ _ (K _ _ (h4 0 ⟨rfl,rfl⟩))) (w6 _ _ (h5 0 ⟨rfl,rfl⟩)) (.inr ⟨_,h6 0 ⟨rfl,rfl⟩,rfl⟩)) ⟨⟨rfl,rfl,rfl,.inr ⟨rfl,rfl,rfl,rfl⟩⟩,⟨rfl,rfl,rfl,.inr ⟨rfl,rfl,rfl,rfl⟩⟩,⟨rfl,rfl,rfl,.inr ⟨rfl,rfl,rfl,rfl⟩⟩,rfl,tv⟩ rfl
    ·have Z:=hE;obtain⟨tn,tb,te,tc,yn,yb,ye,yc,rfl,rfl,-,-,-⟩:=hE;have a0:=fun U (l2:Fz.le G U) bg=>a1 f J U l2 (.slice tn 0 tb te 2 f.lines.length tc) (.slice yn 0 yb ye 6 f.cells.length yc) bg
     have u:=a3 f J;have ax:=fun U a b=>wL u.1 U a b
     refine⟨O,rfl,?_⟩
     repeat' ((conv=>whnf);first
      |refine⟨rfl,?_⟩
      |refine⟨O,rfl,?_⟩
      |refine⟨Fz.r _,rfl,?_⟩
      |fail)
     refine brd dd ?_;refine dwS (lk [0,1,2,3,4,5,6,7,8] (.alt 9 (lk [10,11,12] (.alt 13 (.alt 14 (.look 15 .done) .nil) .nil)) (.alt 13 (.alt 9 (lk [10,11,12] (.alt 14 (.look 15 .done) .nil)) .nil) .nil))) [4,7] ?_;refine⟨au,⟨by omega,gi⟩,rfl,_,O _ _ az,_,T,rfl,⟨by omega,gd⟩,rfl,rfl,_,ai,rfl,?_,?_⟩
     all_goals
      conv=>whnf
      try (refine⟨Fz.r G1,rfl,rfl,?_⟩)
      (conv=>whnf)
      refine useFs (a0 G1 O Z) ?_;rintro _ U w2 ⟨sc,rfl,hC⟩;have av:=hC;obtain⟨fn,fb,fe,fc,fL,fr,rfl,-,-,-,-⟩:=hC;refine⟨w2,rfl,rfl,?_⟩
      repeat' ((conv=>whnf);first
       |refine⟨rfl,?_⟩
       |refine⟨w2,rfl,rfl,?_⟩
       |refine⟨Fz.r _,rfl,rfl,?_⟩
       |fail)
      refine useFs (ax U _ _ (Z.mono w2)) ?_;rintro _ G3 w3 ⟨A,B,rfl,aa⟩;conv=>whnf
      repeat
       refine gae dd ?_;conv=>whnf
      refine brd dd ⟨nb rfl,[docS (.slice tn 0 tb te 2 f.lines.length tc) (.slice yn 0 yb ye 6 f.cells.length yc) f.w f.bits],rfl,rfl,rfl,by simp,rfl,bp,fun W bu=>?_⟩;refine⟨nb rfl,[[.slice false 0 A 0 1 8 B]],rfl,rfl,rfl,by simp,rfl,bq,fun Y bw=>?_⟩;refine⟨nb rfl,[crtS (makeC M e f) (.slice fn 0 fb fe 2 (bQ M.keep).length fc)],rfl,?_⟩;conv=>whnf
      first
      |refine⟨rfl,rfl,nb rfl,fun V ak=>?_⟩
      |refine⟨rfl,rfl,by simp,rfl,yg6 a2 (jm ap q) dd,fun V ak=>?_⟩
      conv=>whnf
      first
      |exact⟨⟨(k+1,(D++[f],C++[makeC M e f]),((d0::E)++[(mkR (docS (.slice tn 0 tb te 2 f.lines.length tc) (.slice yn 0 yb ye 6 f.cells.length yc) f.w f.bits) rfl)],W),((v0::L)++[(mkR [.slice false 0 A 0 1 8 B] rfl)],Y),([]++[(mkR (crtS (makeC M e f) (.slice fn 0 fb fe 2 (bQ M.keep).length fc)) rfl)],V),G3),p.snoc (zd:=(mkR (docS (.slice tn 0 tb te 2 f.lines.length tc) (.slice yn 0 yb ye 6 f.cells.length yc) f.w f.bits) rfl)) (zv:=(mkR [.slice false 0 A 0 1 8 B] rfl)) (zc:=(mkR (crtS (makeC M e f) (.slice fn 0 fb fe 2 (bQ M.keep).length fc)) rfl)) g (Fz.t O (Fz.t w2 w3)) R u.1 u.2 m.2.1 ⟨_,_,rfl,(Z.mono w2).mono w3⟩ ⟨_,_,rfl,aa.1,aa.2⟩ ⟨_,rfl,KpsAt.up av w3⟩ (by simpa using ak)⟩,ag,leR [(4,10),(5,12),(6,14)] hH hT rfl ⟨tv,ip oo,tv,tv,c7 aQ oo _ _ _ _,c7 aQ oo _ _ _ _,c7 aQ oo _ _ _ _,tv⟩ ⟨cO (μ:=sig [(4,10),(5,12),(6,14)]) (i:=4) (j:=10) rfl 4 W _ (d0::E) (mkR (docS (.slice tn 0 tb te 2 f.lines.length tc) (.slice yn 0 yb ye 6 f.cells.length yc) f.w f.bits) rfl) rfl,cO (μ:=sig [(4,10),(5,12),(6,14)]) (i:=5) (j:=12) rfl 1 Y _ (v0::L) (mkR [.slice false 0 A 0 1 8 B] rfl) rfl,by(conv=>whnf);exact⟨rfl,rfl,rfl,.inr ⟨rfl,rfl,rfl,rfl⟩⟩,cnt ah,tv⟩ ⟨Fz.r G3,rfl,ej (μ:=sig [(4,10),(5,12),(6,14)]) aQ (fun k=>rfl) (bC _ (by rw[qq];rfl)),ej (μ:=sig [(4,10),(5,12),(6,14)]) aQ (fun k=>rfl) (bC _ (by rw[qq];rfl)),ej (μ:=sig [(4,10),(5,12),(6,14)]) aQ (fun k=>rfl) (bC _ (by rw[qq];rfl)),tv⟩⟩
      |exact⟨⟨(k+1,(D++[f],C++[makeC M e f]),((d0::E)++[(mkR (docS (.slice tn 0 tb te 2 f.lines.length tc) (.slice yn 0 yb ye 6 f.cells.length yc) f.w f.bits) rfl)],W),((v0::L)++[(mkR [.slice false 0 A 0 1 8 B] rfl)],Y),((Q::cr)++[(mkR (crtS (makeC M e f) (.slice fn 0 fb fe 2 (bQ M.keep).length fc)) rfl)],V),G3),p.snoc (zd:=(mkR (docS (.slice tn 0 tb te 2 f.lines.length tc) (.slice yn 0 yb ye 6 f.cells.length yc) f.w f.bits) rfl)) (zv:=(mkR [.slice false 0 A 0 1 8 B] rfl)) (zc:=(mkR (crtS (makeC M e f) (.slice fn 0 fb fe 2 (bQ M.keep).length fc)) rfl)) g (Fz.t O (Fz.t w2 w3)) R u.1 u.2 m.2.1 ⟨_,_,rfl,(Z.mono w2).mono w3⟩ ⟨_,_,rfl,aa.1,aa.2⟩ ⟨_,rfl,KpsAt.up av w3⟩ (by simpa using ak)⟩,ag,leR [(4,10),(5,12),(6,14)] hH hT rfl ⟨tv,ip oo,tv,tv,c7 aQ oo _ _ _ _,c7 aQ oo _ _ _ _,c7 aQ oo _ _ _ _,tv⟩ ⟨cO (μ:=sig [(4,10),(5,12),(6,14)]) (i:=4) (j:=10) rfl 4 W _ (d0::E) (mkR (docS (.slice tn 0 tb te 2 f.lines.length tc) (.slice yn 0 yb ye 6 f.cells.length yc) f.w f.bits) rfl) rfl,cO (μ:=sig [(4,10),(5,12),(6,14)]) (i:=5) (j:=12) rfl 1 Y _ (v0::L) (mkR [.slice false 0 A 0 1 8 B] rfl) rfl,cO (μ:=sig [(4,10),(5,12),(6,14)]) (i:=6) (j:=14) rfl 4 V _ (Q::cr) (mkR (crtS (makeC M e f) (.slice fn 0 fb fe 2 (bQ M.keep).length fc)) rfl) rfl,cnt ah,tv⟩ ⟨Fz.r G3,rfl,ej (μ:=sig [(4,10),(5,12),(6,14)]) aQ (fun k=>rfl) (bC _ (by rw[qq];rfl)),ej (μ:=sig [(4,10),(5,12),(6,14)]) aQ (fun k=>rfl) (bC _ (by rw[qq];rfl)),ej (μ:=sig [(4,10),(5,12),(6,14)]) aQ (fun k=>rfl) (bC _ (by rw[qq];rfl)),tv⟩⟩
 ·have gi:¬(k:Int) < ((dq zs n).length:Nat):=by rw[z0];omega
  have z3:Fz.le F F3:=Fz.t u1 (Fz.t u2 u3);have s:od.length=k+1:=by rw[p.d.1,p.dl]
  have I:ov.length=k+1:=by rw[p.v.1,qa,p.dl]
  rcases od with _ | ⟨d0,E⟩
  ·simp at s
  rcases ov with _ | ⟨v0,L⟩
  ·simp at I
  rcases oc with _ | ⟨Q,cr⟩
  all_goals
   refine⟨fun h=>absurd (od h) gi,fun _=>?_⟩;conv=>whnf
   repeat
    refine gae dd ?_;conv=>whnf
   refine cu 4 (fun _=>.arr 41 4 ((d0::E).map encZ) cd) rfl rfl rfl (fun _ _=>by exact dW (μ:=resP _) aQ (fun k=>rfl) rfl _ _ _) (fun _ _=>dZ aQ oo _ _ _ _) ?_;intro x4 G4 w4 h4;refine cu 5 (fun _=>.arr 34 1 ((v0::L).map encZ) cv) rfl rfl rfl (fun _ _=>by exact dW (μ:=resP _) aQ (fun k=>rfl) rfl _ _ _) (fun _ _=>dZ aQ oo _ _ _ _) ?_;intro x5 G5 K h5
   first
   |exact endFo (.ret (.tup [.va (.slice false 0 (x4 0) 0 4 (E.length+1) cd),.va (.slice false 0 (x5 0) 0 1 (L.length+1) cv),.va (.slice true 0 0 0 4 0 0),.va (.bool true)])) G5 rfl (Fz.t z3 (Fz.t hG (Fz.t w4 K))) (Fz.r G5) (p.fin q (Fz.t w4 K) (K _ _ (h4 0 ⟨rfl,rfl⟩)) (h5 0 ⟨rfl,rfl⟩) (.inl ⟨rfl,rfl⟩)) ⟨⟨rfl,rfl,rfl,.inr ⟨rfl,rfl,rfl,rfl⟩⟩,⟨rfl,rfl,rfl,.inr ⟨rfl,rfl,rfl,rfl⟩⟩,⟨rfl,rfl,rfl⟩,rfl,tv⟩ rfl
   |refine cu 6 (fun _=>.arr 48 4 ((Q::cr).map encZ) cc) rfl rfl rfl (fun _ _=>by exact dW (μ:=resP _) aQ (fun k=>rfl) rfl _ _ _) (fun _ _=>dZ aQ oo _ _ _ _) ?_
    intro x6 G6 w6 h6;exact endFo (.ret (.tup [.va (.slice false 0 (x4 0) 0 4 (E.length+1) cd),.va (.slice false 0 (x5 0) 0 1 (L.length+1) cv),.va (.slice false 0 (x6 0) 0 4 (cr.length+1) cc),.va (.bool true)])) G6 rfl (Fz.t z3 (Fz.t hG (Fz.t w4 (Fz.t K w6)))) (Fz.r G6) (p.fin q (Fz.t w4 (Fz.t K w6)) (w6 _ _ (K _ _ (h4 0 ⟨rfl,rfl⟩))) (w6 _ _ (h5 0 ⟨rfl,rfl⟩)) (.inr ⟨_,h6 0 ⟨rfl,rfl⟩,rfl⟩)) ⟨⟨rfl,rfl,rfl,.inr ⟨rfl,rfl,rfl,rfl⟩⟩,⟨rfl,rfl,rfl,.inr ⟨rfl,rfl,rfl,rfl⟩⟩,⟨rfl,rfl,rfl,.inr ⟨rfl,rfl,rfl,rfl⟩⟩,rfl,tv⟩ rfl
theorem BC(F:Fz)(w:MLF F)(x:RNDF F)(j k l:Bool)(d m p e n q f o a s:Nat)(L:List Stp)(X:List Q3)(b c:Int)(zs:List Int)(h:CaseAt F j k l d m e n f o a L X b c zs):
  Fo prog F 23 [.agg (caseS j k l d m p e n q f o a s L.length X.length b c)] np:=
 Ee F w x j k l d m p e n q f o a s L.length X.length b c (madeD L X b c) h.ok.1 zs (fun i=>by
   rw[yp];by_cases g:i < zs.length
   ·rw[qc g];exact h.i3 _ (qt g)
   ·rw[qad oo];show i64 0;unfold i64;omega) (min a 6) (Nat.min_le_right a 6)
  (fun F1 u=>B3 F1 j k l d m p e n q f o a s L X b c zs (h.mono u))
  fun F1 u=>CX F1 j k l d m p e n q f o a s L X b c zs (h.mono u)
theorem BO{f:Bool}{g i d:Nat}{l:List Crt}(n:nq F (.slice f 0 g i 4 l.length d) l)(a:l.length<=d)(p:∀c∈l,short c.cl)(e:∀c∈l,c.cl.length < 1000000)(b:l.length < 1000000){c:Crt}(k:du l=some c):
  Fo prog F 30 [.va (.slice f 0 g i 4 l.length d)] (fun o j=>∃sk,o=.ret (.tup [.agg (crtS c sk),.va (.int .i64 0)])/\ClsAt j sk c.cl):=
 cP (lx F f g i d l n a p e b) fun o j h=>by
  rcases h with⟨h,_⟩ | ⟨q,h,m⟩
  ·exact absurd (h.symm.trans k) ss
  ·cases h.symm.trans k;exact m
structure CrtSm(c:Crt):Prop where
 s:short c.cl
 l:c.cl.length < 1000000
theorem CrtSm.ok{c:Crt}(h:crtOk c=true)(a:short c.cl):CrtSm c:=⟨a,by rw[(iy.1 h).n];decide⟩
theorem tD:∀(r:List Crt) (a c:Crt),CrtSm a->(∀x∈r,CrtSm x)->foldS a r=some c->crtOk a=true->short c.cl
 |[],a,c,ha,_,h,_=>by cases h;exact ha.s
 |b::r,a,c,ha,hr,h,hok=>by
  rw[foldS]at h;split at h
  ·rename_i i;have hb:=(tU.1 i)
   have d:=rK hok hb.2.1 hb.2.2
   have e:CrtSm (joinC a b):=by
    refine CrtSm.ok d fun x f=>?_
    obtain⟨k,j,rfl⟩:=qb0.1 f;have g:k < (List.zipWith dv a.cl b.cl).length:=j;show((List.zipWith dv a.cl b.cl)[k]'g).2.length < 1000000;rw[qbz];show((compR _ _ _).1).length < 1000000;unfold compR;split
    ·exact yq (pb _) dd
    ·exact Nat.zero_lt_succ _
   exact tD r (joinC a b) c e (fun x f=>hr x (yj _ f)) h d
  ·cases h
theorem CQ{l:List Crt}{c:Crt}(b:∀x∈l,CrtSm x)(h:du l=some c):short c.cl:=by
 rcases l with _ | ⟨a,r⟩
 ·cases h
 ·rw[du]at h;split at h
  ·rename_i d;exact tD r a c (b a ss) (fun x e=>b x (yj _ e)) h d
  ·cases h
theorem Chn.sm{V:List (List (List UInt8))}{C:List Crt}(h:Chn V C):∀x∈C,CrtSm x:=fun x a=>by
 obtain⟨k,b,rfl⟩:=qb0.1 a;exact CrtSm.ok (iv.1 (h.chk k b)).ok (h.sh _ a)
