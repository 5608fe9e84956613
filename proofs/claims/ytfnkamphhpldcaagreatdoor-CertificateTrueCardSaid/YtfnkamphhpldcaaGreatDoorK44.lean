import Derived.Test.YtfnkamphhpldcaaGreatDoorK43
set_option maxHeartbeats 64000000
namespace Go.Proofs.YtfnkamphhpldcaaGreatDoor
open Go Sx
set_option maxRecDepth 100000
theorem ztv{d:Dc}(f:docOk d=true)(F:Fz)(a b:SA)(i:DocAt F a b d):
    Fo Tryz.prog F 14 [.agg (docS a b d.w d.bits)] (fun o e=>∃b c,o=.ret (.tup [.va (.slice false 0 b 0 1 8 c),.va (.int .i64 0)])/\e b=some (.arr 9 1 ((allB d).map encS) c)):=
  zcn (zn1 F a b d i (zia f)) fun o e h=>by
    rcases h with⟨h,_⟩ | ⟨_,b,c,h,g⟩
    · exact absurd (h.symm.trans f) (by simp)
    · exact⟨b,c,h,g⟩
theorem zwo{M:Mig}(k:migOk M=true)(l:short M.keep)(j:M.keep.length < 1000000)(F:Fz)(sk:SA)(i:KpsAt F sk M.keep):
    Fo Tryz.prog F 16 [.agg (migS M sk)] (fun o a=>∃(b c:Nat) (r:List ZC),o=.ret (.tup [.va (.slice false 0 b 0 2 8 c),.va (.int .i64 0)])/\ClsAt a (.slice false 0 b 0 2 8 c) (za8 M.keep)/\8<=c/\a b=some (.arr 52 2 (r.map encZ) c)/\zg3 r/\r.length=8):=
  zcn (zmu F sk M i l j) fun o a h=>by
    rcases h with⟨h,_⟩ | ⟨_,b,c,h1,d,e,r,f,g⟩
    · exact absurd (h.symm.trans k) (by simp)
    · exact⟨b,c,r,h1,d,e,f,g⟩
theorem clsZ{F:Fz}{b c n c':Nat}{r:List ZC}{l:List Kp}(h:ClsAt F (.slice false 0 b 0 2 n c) l)(hb:F b=some (.arr 52 2 (r.map encZ) c')):∀(i:Nat) (z:ZC) (x:Kp),r[i]? =some z->l[i]? =some x->KpR F z.1 x:=by
  obtain⟨s,o,e',q,L,u,g,h1,e,p,f⟩:=h;cases g
  have a:=e rfl;rw[hb]at a;cases a
  intro i z x m k;obtain⟨y,d,j⟩:=f i x k;rw[qx,qt,m]at d;cases d
  exact j
theorem z6m(c n:Int)(a:i64 c)(b:0 < n):Pu Tryz.prog 20 [.va (.int .i64 c),.va (.int .i64 n)] (.va (.int .i64 (pickI c n))):=by
  intro F;unfold i64 at a;refine foS Tryz.func20 ?_;refine br (fun g=>?_) (fun g=>?_)
  · conv=>whnf
    refine⟨by omega,?_⟩;refine endPu rfl (Fz.r F) (oi ?_) rfl;simp at g;rw[zah (n:=c+1) (by omega) (by omega),zah (n:=0 - (c+1)) (by omega) (by omega),pickI,if_pos g]
    congr 1;omega
  · conv=>whnf
    refine⟨by omega,?_⟩;refine endPu rfl (Fz.r F) (oi ?_) rfl;simp at g;rw[pickI,if_neg (by omega)]
theorem z3d{μ:Mu}(a:∀k,μ 0 k=(0,k)){t sz c:Nat}{r:List ZC}{L:List (List SA)}(h:L=r.map encZ):subE (some (.one (.arr t sz L c))) ((Ent.one (.arr t sz (r.map encZ) c)).ren μ):=by
  subst h;show subE _ (Ent.one ((SB.arr t sz (r.map encZ) c).ren μ));rw[zg2 zbb a rfl];exact rfl
theorem caB{n t:Nat}(b:0 < n){k m o:Bool}{d p g e q h f s j i l x:Nat}{u w:Int}:(Ent.one (.cells t (caseS k m o d p g e q h f s j i l x u w))).below n:=by
  intro a c;simp only[qn,qy,or_false]at c;rcases c with rfl | rfl | rfl | rfl | rfl
  · exact .inr b
  · exact .inr b
  · trivial
  · trivial
  · exact .inr b
theorem yb4{F:Fz}{p:Int}{s:List Stp}{t u:List UInt8}{e:Int}{f:Nat}{args:List SV}(h:zfg p s t=(u,e))(a:Fo Tryz.prog F f args (zn2 p s t)):Fo Tryz.prog F f args (fun o _=>o=.ret (.tup [.va (.str u),.va (.int .i64 e)])):=
  zcn a fun o b g=>by
    have g:o=.ret (.tup [.va (.str (zfg p s t).1),.va (.int .i64 (zfg p s t).2)]):=g;rw[h]at g;exact g
structure RdT(F:Fz)(ks:List Kp)(d e:Dc)(f:Nat->Bool)(r:List ZC)(k:Nat)(s:List Stp)(va vb u:List UInt8)(tn:Bool)(tb te tc:Nat)(tL:List (List SA))(tr:Nat):Prop where
  row:(r.map encZ)[0+(IntKind.i64.wrap ((k:Int)+1 - 1)).toNat]? =some [.int .i64 ((k:Int)+1),.slice tn 0 tb te 2 s.length tc]
  a:((allB d).map encS)[0+(IntKind.i64.wrap ((k:Int)+1 - 1)).toNat]? =some (encS va)
  b:((allB e).map encS)[0+(IntKind.i64.wrap ((k:Int)+1 - 1)).toNat]? =some (encS vb)
  ix:0<=IntKind.i64.wrap ((k:Int)+1 - 1)/\IntKind.i64.wrap ((k:Int)+1 - 1) < 8
  st:zay F (.slice tn 0 tb te 2 s.length tc) s
  sl:s.length < 1000000
  ap:zfg ((k:Int)+1) s va=(u,0)
  av:va.length<=1000000000000000000
  fk:f k=(decide (s=[(6,0)])||decide (u=vb))
  l6:(s.length=1/\(s.head?.getD (0,0)).1=6)↔s=[(6,0)]
  n:tn=true->s=[]
  fb:tn=false->F tb=some (.arr 56 2 tL tr)
  r0:∀y,s=[y]->tL[te+((0:Nat):Int).toNat]? =some (enc y)
theorem RdT.one{F:Fz}{ks:List Kp}{d e:Dc}{f:Nat->Bool}{r:List ZC}{k:Nat}{y:Stp}{p b u:List UInt8}{n:Bool}{j m l:Nat}{i:List (List SA)}{o:Nat}(h:RdT F ks d e f r k [y] p b u n j m l i o)(g:(u==b)=false):f k=decide (y.1=6):=by
  have h1:¬u=b:=by simpa using g
  have c:=h.l6;rw[h.fk,decide_eq_false h1,Bool.or_false];by_cases a:y.1=6
  · rw[decide_eq_true a,decide_eq_true (c.1 ⟨rfl,a⟩)]
  · rw[decide_eq_false a,decide_eq_false fun e=>a (c.2 e).2]
theorem RdT.not{F:Fz}{ks:List Kp}{d e:Dc}{f:Nat->Bool}{r:List ZC}{k:Nat}{s:List Stp}{o a u:List UInt8}{m:Bool}{i l j:Nat}{g:List (List SA)}{n:Nat}(h:RdT F ks d e f r k s o a u m i l j g n)(c:(u==a)=false)(h1:¬s.length=1):f k=false:=by
  have b:¬u=a:=by simpa using c
  rw[h.fk,decide_eq_false b,decide_eq_false fun e=>h1 (by rw[e];rfl)];rfl
theorem rdT{F:Fz}{M:Mig}(L:migOk M=true){d e:Dc}(K:docOk d=true){f:Nat->Bool}(Q:f=trF M.keep (allB d) (allB e)){r:List ZC}(V:r.length=8)(o:∀x∈za8 M.keep,x.2.length<=66)(S:∀(i:Nat) (z:ZC) (x:Kp),r[i]? =some z->(za8 M.keep)[i]? =some x->KpR F z.1 x){k:Nat}(g:k < 8):
    ∃s T U u G B E D A I,RdT F M.keep d e f r k s T U u G B E D A I:=by
  have w:M.keep.all zbo=true:=by
    simp only[migOk,qg]at L;exact L.2.2.2.2.2
  obtain⟨J,hb,u,p,q,h⟩:=zv9 w K (e:=e) g;have c:k < r.length:=by omega
  have b:=zk2 M.keep k g;have j:(zbu M.keep ((k:Int)+1)).length<=66:=o _ (yr b);obtain⟨W,O,m⟩:=S k _ _ (qa c) b;have n:=m;obtain⟨G,B,E,D,A,I,rfl,t1,t2,t3,t4⟩:=m;have a:IntKind.i64.wrap ((k:Int)+1 - 1)=((k:Nat):Int):=by rw[zah (by omega) (by omega)];omega
  refine⟨_,_,_,u,G,B,E,D,A,I,⟨?_,?_,?_,by rw[a];omega,n,ym j (by decide),p,q8 (zcd K _ (qw J)) (by decide),by rw[Q];exact q,h,t1,t2,fun y R=>?_⟩⟩
  · rw[a,qk,qx,qt,qa c]
    exact congrArg Option.some O
  · rw[a,qk,qx,qt,qa J];rfl
  · rw[a,qk,qx,qt,qa hb];rfl
  · rw[R]at t4
    exact Sl.at (l:=[y]) t4 (k:=0) yt
theorem z7g{t:TypeId}{h:Hp}(a:∀k,resP h 0 k=(0,k)){i z:Nat}(d:resP h i 0=(0,z))(l:List ZC){j j':Nat}(b:j=j')(p:Int)(n c c':Nat):SB.ren (resP h) (.arr t 2 ((l.map encZ).set j [.int .i64 p,.slice false i 0 0 2 n c]) c')=.arr t 2 ((l.set j' (mkZ p (.slice false 0 z 0 2 n c) rfl)).map encZ) c':=by
  subst b;show SB.arr t 2 (((l.map encZ).set j [.int .i64 p,.slice false i 0 0 2 n c]).map (List.map (SA.ren (resP h)))) c'=_;rw[qbl,zr8 zbb a,qbl];show SB.arr t 2 ((l.map encZ).set j [.int .i64 p,.slice false (resP h i 0).1 (resP h i 0).2 0 2 n c]) c'=_;rw[d];rfl
theorem RowL.set{G:Fz}{l:List Kp}{o:List ZC}(h:RowL G l o){k:Nat}{z:ZC}{x:Kp}(b:KpR G z.1 x):RowL G (l.set k x) (o.set k z):=by
  refine⟨by rw[qax,qax,h.1],fun i y w h1 a=>?_⟩;rw[qas]at h1 a;by_cases e:k=i
  · subst e
    rw[if_pos rfl]at h1 a;split at h1
    · rw[if_pos (by rw[<-h.1];assumption)]at a
      cases h1;cases a;exact b
    · cases h1
  · rw[if_neg e]at h1 a
    exact h.2 i y w h1 a
theorem RowL.at{G:Fz}{l:List Kp}{o:List ZC}(h:RowL G l o){k j:Nat}{p:Int}{s:List Stp}(c:l[k]? =some (p,s))(e:j=k):∃a,(o.map encZ)[j]? =some [.int .i64 p,a]:=by
  subst e;have b:j < o.length:=by rw[h.1];exact(ql.1 c).1
  obtain⟨a,d,-⟩:=h.2 j _ _ (qa b) c;exact⟨a,by rw[qt,qa b];exact congrArg Option.some d⟩
structure RdW(f q gl:Nat->Bool)(k:Nat)(b:Bool):Prop where
  wT:trW f k=true->trW f (k+1)=b
  wF:trW f k=false->trW f (k+1)=false
  lQ:q k=true->trW gl (k+1)=trW gl k
  lT:q k=false->trW gl k=true->trW gl (k+1)=b
  lF:trW gl k=false->trW gl (k+1)=false
theorem rdW{f q a:Nat->Bool}(g:a=fun k=>q k||f k){k:Nat}{b:Bool}(hb:f k=b):RdW f q a k b:=by
  have h1:=zv8 f k;have c:=zv8 a k;have d:a k=(q k||f k):=by rw[g]
  rw[hb]at h1 d;rw[d]at c;refine⟨fun h=>?_,fun h=>?_,fun h=>?_,fun h e=>?_,fun h=>?_⟩
  · rw[h1,h,yq]
  · rw[h1,h,q9]
  · rw[c,h,Bool.true_or,qcl]
  · rw[c,h,e,qa8,yq]
  · rw[c,h,q9]
theorem tr_j{k:Nat}(g:k < 8):0+(IntKind.i64.wrap ((k:Int)+1 - 1)).toNat=k:=by rw[zah (by omega) (by omega)];omega
theorem tr_nx{k:Nat}(g:k < 8):SA.int .i64 (((k+1:Nat):Int)+1)=SA.int .i64 (IntKind.i64.wrap ((k:Int)+1+1)):=by rw[zah (by omega) (by omega)];rfl
theorem RowL.cls{G:Fz}{l:List Kp}{o:List ZC}{b c cap n:Nat}(h:RowL G l o)(e:G b=some (.arr 52 2 (o.map encZ) c))(f:l.length=n):ClsAt G (.slice false 0 b 0 2 n cap) l:=by
  subst f;refine SlR.new e (by rw[qe,h.1]) fun k x d=>?_
  have a:k < o.length:=by rw[h.1];exact(ql.1 d).1
  exact⟨encZ o[k],by rw[qt,qa a];rfl,h.2 k _ x (qa a) d⟩
theorem z3h{ks:List Kp}(a:short ks)(q:Nat->Bool)(k:Nat):short (trC q ks k):=by
  intro x b;obtain⟨i,_,rfl⟩:=jj.1 b;show(trL q ks k i).2.length < 1000000;rw[trL];split
  · show 1 < 1000000;decide
  · exact zj6 a _
theorem tr_mk{M:Mig}(f:migOk M=true)(a:M.keep.all zbo=true){d e:Dc}(b:docOk d=true)(c:docOk e=true):zd5 M d e=trW (trF M.keep (allB d) (allB e)) 8:=by
  rw[ziw,f,b,c,zk1 a,z3i];rfl
theorem z3j(F0:Fz)(m0:MLF F0)(r0:RNDF F0)(n1 n2 n3:Bool)(b1 o1 c1 b2 o2 c2 b3 o3 l3 c3 l x:Nat)(q1 q2:Int)(a6 a7 a8:Bool)(ai a9 al aj ba am ak bd a5 ao l' x':Nat)(bf bg x0 x1 x2 x3 x4 D:Int)(hi:i64 D)(d e:Dc)(hd:docOk d=true)(he:docOk e=true)
    (bt:∀F1,Fz.le F0 F1->Fo Tryz.prog F1 15 [.agg (caseS n1 n2 n3 b1 o1 c1 b2 o2 c2 b3 o3 l3 c3 l x q1 q2)] (fun o F'=>∃a b,o=.ret (.agg (docS a b d.w d.bits))/\DocAt F' a b d))
    (bu:∀F1,Fz.le F0 F1->Fo Tryz.prog F1 15 [.agg (caseS a6 a7 a8 ai a9 al aj ba am ak bd a5 ao l' x' bf bg)] (fun o F'=>∃a b,o=.ret (.agg (docS a b e.w e.bits))/\DocAt F' a b e))
    (M:Mig)(hm:migOk M=true)(hs:short M.keep)(hl:M.keep.length < 1000000)(bj:∀x∈za8 M.keep,x.2.length<=66)
    (a0:∀F,Fo Tryz.prog F 13 [.va (.int .i64 1),.va (.int .i64 2),.agg [.int .i64 x0,.int .i64 x1,.int .i64 x2,.int .i64 x3,.int .i64 x4]] (fun o F'=>∃sk,o=.ret (.agg (migS M sk))/\KpsAt F' sk M.keep)):
    Fo Tryz.prog F0 3 [.agg (caseS n1 n2 n3 b1 o1 c1 b2 o2 c2 b3 o3 l3 c3 l x q1 q2),.agg (caseS a6 a7 a8 ai a9 al aj ba am ak bd a5 ao l' x' bf bg),.agg [.int .i64 x0,.int .i64 x1,.int .i64 x2,.int .i64 x3,.int .i64 x4],.va (.int .i64 D)] (fun o _=>o=.ret (.va (.bool true))/\True):=by
  have U:M.keep.all zbo=true:=by
    simp only[migOk,qg]at hm;exact hm.2.2.2.2.2
  have hf:∃f,f=trF M.keep (allB d) (allB e):=⟨_,rfl⟩
  obtain⟨f,hf⟩:=hf;have hq:∃q,q=trQ D:=⟨_,rfl⟩
  obtain⟨q,hq⟩:=hq;have hg:∃g:Nat->Bool,g=fun k=>q k||f k:=⟨_,rfl⟩
  obtain⟨gl,hg⟩:=hg;have cb:∀k,k < 8->_:=fun k (h8:k < 8)=>zv9 U hd (e:=e) h8
  have cu:=fun F=>z6m D 256 hi (by decide) F
  have a3:=ybb F0 m0 r0;have cq:=fun F sk=>zwo hm hs hl F sk
  have cl:=fun F a b=>ztv hd F a b
  have aw:=fun F a b=>ztv he F a b
  have p:=zdf M.keep;refine foS Tryz.func3 ?_;refine useFs a3 ?_;rintro _ F1 u1 ⟨rfl,-⟩;refine useFs (a0 F1) ?_;rintro _ F2 u2 ⟨sk,rfl,hK⟩;have cg:=hK;obtain⟨kn,kb,ke,kc,kL,kr,rfl,-,-,-,-⟩:=hK;refine useFs (bt F2 (Fz.t u1 u2)) ?_;rintro _ F3 u3 ⟨a,b,rfl,hD⟩;have cd:=hD;obtain⟨an,ab,ae,ac,bn,bb,be,bc,rfl,rfl,-,-,-⟩:=hD;refine useFs (cl F3 _ _ cd) ?_;rintro _ F4 u4 ⟨pb,pc,rfl,hP⟩;conv=>whnf
  have z4:=Fz.t u1 (Fz.t u2 (Fz.t u3 u4));refine useFs (bu F4 z4) ?_;rintro _ F5 u5 ⟨a,b,rfl,hE⟩;have ce:=hE;obtain⟨tn,tb,te,tc,yn,yb,ye,yc,rfl,rfl,-,-,-⟩:=hE;refine useFs (aw F5 _ _ ce) ?_;rintro _ F6 u6 ⟨qb,qc,rfl,hQ⟩;conv=>whnf
  have bp:=KpsAt.up cg (Fz.t u3 (Fz.t u4 (Fz.t u5 u6)));refine useFs (cq F6 _ bp) ?_;rintro _ F7 u7 ⟨gb,gc,r,rfl,O,h8,hR,ay,b7⟩;have z7:=Fz.t z4 (Fz.t u5 (Fz.t u6 u7));have ar:=u7 _ _ (u6 _ _ (u5 _ _ hP));have au:=u7 _ _ hQ;have W:=zhn F7 (r0.mono z7) _ (allB d) (zf5 ar) (zch d) (zcd hd);have Y:=fun F8 (u8:Fz.le F7 F8)=>zhn F8 (r0.mono (Fz.t z7 u8)) _ (allB e) (zf5 (u8 _ _ au)) (zch e) (zcd he)
  repeat
    refine gae (by decide) ?_
  refine brd (by decide) ?_;refine useFs W ?_;rintro _ F8 u8 rfl;refine useFs (Y F8 u8) ?_;rintro _ F9 u9 rfl;have I:=Fz.t u8 u9;have aq:=KpsAt.up O I;have S:=I _ _ hR;have bw:=ycm F9 ⟨root8 (allB d),root8 (allB e),1,za8 M.keep⟩ gb gc gc (r.map encZ) S p (z5e (by rw[b7,p]) (clsZ aq S) ay bj);refine useS bw [] trivial trivial ?_;rintro _ J _ _ bh ⟨rw,Z,rfl,rfl,rfl,ah,df⟩;have z9:=Fz.t z7 I;have c8:rw.length=8:=ah.1.trans p
  conv=>whnf
  have a2:RowL J (trC q M.keep 0) rw:=by rw[trC0];exact ah
  refine zoq hΘ (X:={ y:Nat×List ZC×Fz // y.1<=8/\Fz.le J y.2.2/\RowL y.2.2 (trC q M.keep y.1) y.2.1 }) (fun y=>[(19,.va (.bool (trW f y.1.1))),(20,.va (.bool (trW gl y.1.1))),(21,.va (.int .i64 ((y.1.1:Int)+1)))]) (22::23::24::25::jr 81 67 [])
    (fun y=>[(0,.frz y.1.2.2),(1,.one (.cells 27 (caseS n1 n2 n3 b1 o1 c1 b2 o2 c2 b3 o3 l3 c3 l x q1 q2))),(2,.one (.cells 27 (caseS a6 a7 a8 ai a9 al aj ba am ak bd a5 ao l' x' bf bg))),(4,.one (.cells 32 (migS M (.slice kn 0 kb ke 2 M.keep.length kc)))),
      (5,.one (.cells 48 (crtS ⟨root8 (allB d),root8 (allB e),1,za8 M.keep⟩ (.slice false 0 gb 0 2 8 gc)))),(6,.one (.arr 52 2 (y.1.2.1.map encZ) Z)),(7,.one (.cells 48 (crtS ⟨root8 (allB d),root8 (allB e),1,za8 M.keep⟩ (.slice false 6 0 0 2 8 Z))))]) 8 (fun y=>8 - y.1.1) ⟨(0,rw,J),yh _,Fz.r _,a2⟩
    (fun hH hT=>leI [] hH hT rfl ⟨tv,caB (by omega),caB (by omega),zd6 _ (.inr (by omega)),zan _ (.inr (by omega)),zdc zbb (by omega) 52 2 Z rw,zan _ (.inr (by omega)),tv⟩ ⟨rfl,rfl,rfl,tv⟩ ⟨Fz.r J,rfl,rfl,rfl,rfl,z3d (μ:=sig []) (fun k=>rfl) (zr8 zbb (μ:=tau [] 1 _) (fun k=>rfl) _),rfl,tv⟩) ?_
  rintro⟨⟨k,o,G⟩,bz,O,m⟩ hH hT;replace bz:k<=8:=bz;replace O:Fz.le J G:=O;replace m:RowL G (trC q M.keep k) o:=m;by_cases g:k < 8
  · have gi:(k:Int)+1<=8:=by omega
    have j:=rdT hm hd hf b7 bj (clsZ aq S) g;obtain⟨s,va,vb,u,tn,tb,te,tc,tL,tr,j⟩:=j;have L:=Fz.t bh O;have ck:=L _ _ S;have ci:=L _ _ (I _ _ ar);have cj:=L _ _ (I _ _ au);have cx:=j.row;have cv:=j.a;have cw:=j.b;have T:=j.ix;have bx:k+1<=8:=g;have af:8 - (k+1) < 8 - k:=by omega
    have hj:=tr_j g;have b4:=tr_nx g;have b5:q k=decide ((shrI .i64 (pickI D 256) (IntKind.i64.wrap ((k:Int)+1 - 1))).tmod 2=1):=by rw[hq];rfl
    have a1:=m.at (zv7 q M.keep k g) hj;obtain⟨sa,a1⟩:=a1;have ax:=yb4 j.ap (z1i G ((k:Int)+1) s va _ (j.st.mono L) j.sl j.av);by_cases hu:(u==vb)=true
    case' pos=>
      have c:=rdW (q:=q) hg (j.fk.trans (by rw[beq_iff_eq.1 hu];simp:_=true))
    case' neg=>
      have hv:(u==vb)=false:=by simpa using hu
      clear hu;by_cases h1:s.length=1
      case' pos=>
        have hy:=List.length_eq_one_iff.1 h1;obtain⟨y,rfl⟩:=hy;have h0:=j.r0 y rfl;have b9:tn=false:=by cases tn with | false=>rfl | true=>exact absurd (j.n rfl) (by simp)
        have b8:=L _ _ (j.fb b9);have cr:(0:Int)<=0/\(0:Int) < (([y]:List Stp).length:Nat):=by simp
        have c:=rdW (q:=q) hg (j.one hv)
      case' neg=>
        have cc:¬(s.length:Int)=1:=by omega
        have c:=rdW (q:=q) hg (j.not hv h1)
    all_goals
      refine bri gi ?_
      repeat' ((conv=>whnf);first
        | refine⟨rfl,T,?_⟩
        | refine⟨_,ck,?_⟩
        | refine⟨_,cx,?_⟩
        | refine⟨_,ci,?_⟩
        | refine⟨_,cv,?_⟩
        | fail)
      refine useFs ax ?_;rintro _ G2 w2 rfl;have R:=w2 _ _ cj
      repeat' ((conv=>whnf);first
        | refine gae (by decide) ?_
        | refine⟨rfl,T,?_⟩
        | refine⟨_,R,?_⟩
        | refine⟨_,cw,?_⟩
        | fail)
      conv=>whnf
      first
        | refine⟨fun h=>absurd (hu.symm.trans h) (by decide),fun _=>?_⟩
        | (refine⟨fun _=>?_,fun h=>absurd (hv.symm.trans h) (by decide)⟩
           (conv=>whnf)
           first
             | refine⟨fun h=>absurd (od h) cc,fun _=>?_⟩
             | (have c0:=w2 _ _ b8
                refine gae (by simp) ?_
                repeat' ((conv=>whnf);first
                  | refine⟨b9,cr,?_⟩
                  | refine⟨_,c0,?_⟩
                  | refine⟨_,h0,?_⟩
                  | fail)))
      refine⟨fun Q=>?_,fun Q=>?_⟩
      all_goals
        refine usePs (cu G2) ?_;refine⟨T.1,by decide,?_⟩;refine br (fun gq=>?_) (fun gq=>?_)
        · conv=>whnf
          refine⟨rfl,T,_,a1,?_⟩;conv=>whnf
          have b6:=b5.trans gq;have a4:=ybl (ks:=M.keep) b6;refine zdg 8 (fun _=>.arr 56 2 [[.int .i64 6,.int .i64 0]] 1) rfl rfl rfl (fun _ _=>rfl) (fun _ _=>SB.bB_ok rfl) ?_;intro z8 G8 v8 c5;have cs:KpR G8 [.int .i64 ((k:Int)+1),.slice false 0 (z8 0) 0 2 1 1] ((k:Int)+1,[(6,0)]):=zj8 (l:=[(6,0)]) (c5 0 rfl);have A:=((m.mono (Fz.t w2 v8)).set (k:=k) (z:=mkZ ((k:Int)+1) (.slice false 0 (z8 0) 0 2 1 1) rfl) cs)
          rw[<-a4]at A;refine ze8 6 _ rfl (z7g (fun _=>rfl) (i:=8) (z:=z8 0) rfl o hj ((k:Int)+1) 1 1 Z) (zdc zbb (show 1<=9 by decide) _ _ _ _) ?_;exact zfj ⟨⟨(k+1,o.set k (mkZ ((k:Int)+1) (.slice false 0 (z8 0) 0 2 1 1) rfl),G8),bx,Fz.t O (Fz.t w2 v8),A⟩,af,leR [] hH hT rfl ⟨tv,caB (by omega),caB (by omega),zd6 _ (.inr (by omega)),zan _ (.inr (by omega)),zdc zbb (by omega) 52 2 Z _,zan _ (.inr (by omega)),tv⟩ ⟨(by first | exact c.wT Q | exact c.wF Q | exact congrArg SA.bool ((c.wT Q).trans hu.symm) | exact congrArg SA.bool (c.wT Q)),congrArg SA.bool (c.lQ b6),b4,tv⟩ ⟨Fz.r G8,rfl,rfl,rfl,rfl,z3d (μ:=sig []) (fun k=>rfl) rfl,rfl,tv⟩⟩
        · have V:=b5.trans gq
          have a4:=z7x (ks:=M.keep) (q:=q) (k:=k) (by rw[V];decide);have A:=m.mono w2;rw[<-a4]at A;refine⟨fun gl1=>?_,fun gl1=>?_⟩
          all_goals
            exact zfj ⟨⟨(k+1,o,G2),bx,Fz.t O w2,A⟩,af,leR [] hH hT rfl ⟨tv,caB (by omega),caB (by omega),zd6 _ (.inr (by omega)),zan _ (.inr (by omega)),zdc zbb (by omega) 52 2 Z _,zan _ (.inr (by omega)),tv⟩ ⟨(by first | exact c.wT Q | exact c.wF Q | exact congrArg SA.bool ((c.wT Q).trans hu.symm) | exact congrArg SA.bool (c.wT Q)),(by first | exact c.lT V gl1 | exact c.lF gl1 | exact congrArg SA.bool ((c.lT V gl1).trans hu.symm) | exact congrArg SA.bool (c.lT V gl1)),b4,tv⟩ ⟨Fz.r G2,rfl,rfl,rfl,rfl,z3d (μ:=sig []) (fun k=>rfl) rfl,rfl,tv⟩⟩
  · have gi:¬(k:Int)+1<=8:=by omega
    have hk:k=8:=by omega
    subst hk;have c9:=O;have ca:=Fz.t I (Fz.t bh O);have c7:=Fz.t z7 ca;have cp:=ydl U q 8;have hW:zcw ⟨root8 (allB d),root8 (allB e),1,za8 M.keep⟩ (allB d) (allB e)=trW f 8:=by rw[z81 (zch d) (zch e) p (zk1 U),z3i,hf]
    have hL:zcw ⟨root8 (allB d),root8 (allB e),1,trC q M.keep 8⟩ (allB d) (allB e)=trW gl 8:=by rw[z81 (zch d) (zch e) (zhi _ _ _) cp,ybm,hg,hf]
    have cm:(trW f 8==trW f 8)=true:=beq_self_eq_true _;have aw:(trW gl 8==trW gl 8)=true:=beq_self_eq_true _;have ch:zd5 M d e=trW f 8:=by rw[tr_mk hm U hd he,hf]
    refine brj gi ?_;refine zzu 6 (fun _=>.arr 52 2 (o.map encZ) Z) rfl rfl rfl (fun _ _=>by exact zg2 (μ:=resP _) zbb (fun k=>rfl) rfl _ _ _) (fun _ _=>zdc zbb (by omega) _ _ _ _) ?_;intro z6 G6 v6 c4;have c6:=Fz.t ca v6;have bi:=Fz.t c7 v6;have bs:=(m.mono v6).cls (cap:=Z) (c4 0 rfl) (zhi q M.keep 8);refine dwS (lk [0,1,3] (.alt 2 (.alt 4 (.alt 5 (lk [6,7,8] (.alt 9 (.alt 10 (.look 11 .done) .nil) .nil)) (.alt 9 (.alt 5 (lk [6,7,8] (.alt 10 (.look 11 .done) .nil)) .nil) .nil)) (.alt 9 (.alt 4 (.alt 5 (lk [6,7,8] (.alt 10 (.look 11 .done) .nil)) .nil) .nil) .nil)) (.alt 9 (.alt 2 (.alt 4 (.alt 5 (lk [6,7,8] (.alt 10 (.look 11 .done) .nil)) .nil) .nil) .nil) .nil))) [1,2,4] ?_;conv=>whnf
    repeat' ((conv=>whnf);first
      | refine⟨rfl,?_⟩
      | fail)
    refine⟨?_,?_⟩
    all_goals
      conv=>whnf
      first | (refine⟨Fz.r _,rfl,rfl,rfl,?_⟩;(conv=>whnf)) | skip
      refine useFs (bt G6 bi) ?_;rintro _ H1 v1 ⟨a,b,rfl,bk⟩;have bl:=bk;obtain⟨fn,fb,fe,fc,gn,da,ge,db,rfl,rfl,-,-,-⟩:=bk;refine⟨v1,rfl,rfl,rfl,?_⟩;conv=>whnf
      first | refine⟨?_,?_⟩ | skip
    all_goals
      conv=>whnf
      first | (refine⟨Fz.r _,rfl,rfl,rfl,?_⟩;(conv=>whnf)) | skip
      refine useFs (bu H1 (Fz.t bi v1)) ?_;rintro _ H2 v2 ⟨a,b,rfl,bm⟩;have bo:=bm;obtain⟨hn,dc,de,dd,jn,jb,je,jc,rfl,rfl,-,-,-⟩:=bm;refine⟨v2,rfl,rfl,rfl,?_⟩;conv=>whnf
      first | refine⟨?_,?_⟩ | skip
    all_goals
      have B:=Fz.t bi (Fz.t v1 v2);have K:=Fz.t c6 (Fz.t v1 v2);have ag:=zot H2 (m0.mono B) (r0.mono B) _ _ _ _ _ M d e (KpsAt.up bp (Fz.t u7 K)) hs hl (bl.mono v2) bo (zia hd) (zia he);rw[ch]at ag;have az:=KpsAt.up bs (Fz.t v1 v2);have cf:=KpsAt.up aq (Fz.t (Fz.t bh (Fz.t O v6)) (Fz.t v1 v2));have bq:=K _ _ ar;have R:=K _ _ au;have cn:(za8 M.keep).length < 1000000:=by rw[p];decide
      have cy:(trC q M.keep 8).length < 1000000:=by rw[zhi];decide
      have aa:=fun H3 (E:Fz.le H2 H3)=>zio H3 (m0.mono (Fz.t B E)) (r0.mono (Fz.t B E)) _ _ _ ⟨root8 (allB d),root8 (allB e),1,za8 M.keep⟩ (allB d) (allB e) (KpsAt.up cf E) (ze7 hs) cn (zf5 (E _ _ bq)) (zf5 (E _ _ R)) (zcd hd) (zcd he)
      have ad:=fun H3 (E:Fz.le H2 H3)=>zio H3 (m0.mono (Fz.t B E)) (r0.mono (Fz.t B E)) _ _ _ ⟨root8 (allB d),root8 (allB e),1,trC q M.keep 8⟩ (allB d) (allB e) (KpsAt.up az E) (z3h hs q 8) cy (zf5 (E _ _ bq)) (zf5 (E _ _ R)) (zcd hd) (zcd he)
      rw[hW]at aa;rw[hL]at ad
      conv=>whnf
      first | (refine⟨Fz.r _,rfl,rfl,rfl,?_⟩;(conv=>whnf)) | skip
      refine useFs ag ?_;rintro _ H3 E (⟨b0,rfl⟩ | ⟨b0,sc,rfl,dg⟩)
      all_goals
        refine⟨E,rfl,rfl,rfl,?_⟩
        repeat' ((conv=>whnf);first
          | refine⟨Fz.r _,rfl,rfl,rfl,?_⟩
          | refine⟨rfl,?_⟩
          | fail)
        refine useFs (aa H3 E) ?_;rintro _ H4 v4 rfl;refine⟨fun _=>?_,fun h=>absurd (cm.symm.trans h) (by decide)⟩;refine useFs (ad H4 (Fz.t E v4)) ?_;rintro _ H5 v5 rfl;refine⟨fun _=>?_,fun h=>absurd (aw.symm.trans h) (by decide)⟩;exact endFo (.ret (.va (.bool true))) H5 rfl (Fz.t B (Fz.t E (Fz.t v4 v5))) (Fz.r H5) ⟨rfl,tv⟩ (ob (by rw[b0];rfl)) rfl
theorem z4q{M:Mig}(h:∀y∈M.keep,y.2.length<=66):∀x∈za8 M.keep,x.2.length<=66:=by
 have b:∀p,(zbr p M.keep).length<=66:=by
  intro p
  have c:∀l:List Kp,(∀y∈l,y.2.length<=66)->(zbr p l).length<=66:=by
   intro l
   induction l with
   |nil=>intro _;exact yh _
   |cons a r ih=>
    intro h;unfold zbr;split
    ·exact h a (by simp)
    ·exact ih fun y e=>h y (by simp[e])
  exact c _ h
 intro x d;obtain⟨k,_,rfl⟩:=jj.1 d;show(zbu M.keep _).length<=66;unfold zbu;split
 ·show 1<=66;decide
 ·split
  ·exact b _
  ·exact b _
theorem ybn(w:Fz)(m0:MLF w)(r0:RNDF w)(U V W:Bool)(Q Y c1 R Z c2 S o3 T c3:Nat)(L:List Stp)(X:List Q3)(D E:Int)(zs:List Int)(h:CaseAt w U V W Q Y R Z S o3 T L X D E zs)
  (j k l:Bool)(d m q e n s f p g u:Nat)(x:List Stp)(A:List Q3)(a b:Int)(O:List Int)(h':CaseAt w j k l d m e n f p g x A a b O)
  (G I J K M:Int)(B:i64 G/\i64 I/\i64 J/\i64 K/\i64 M)(c:Int)(hi:i64 c):
  Fo Tryz.prog w 3 [.agg (caseS U V W Q Y c1 R Z c2 S o3 T c3 L.length X.length D E),.agg (caseS j k l d m q e n s f p g u x.length A.length a b),.agg [.int .i64 G,.int .i64 I,.int .i64 J,.int .i64 K,.int .i64 M],.va (.int .i64 c)] (fun o _=>o=.ret (.va (.bool true))/\True):=
 z3j w m0 r0 U V W Q Y c1 R Z c2 S o3 T c3 L.length X.length D E j k l d m q e n s f p g u x.length A.length a b G I J K M c hi (madeD L X D E) (madeD x A a b) h.ok.1 h'.ok.1
  (fun F1 u1=>zug F1 U V W Q Y c1 R Z c2 S o3 T c3 L X D E zs (h.mono u1))
  (fun F1 u1=>zug F1 j k l d m q e n s f p g u x A a b O (h'.mono u1))
  (made9 1 2 G I J K M) (zor B).1 (zor B).2.1 (zor B).2.2
  (z4q fun y hy=>(ziu (zpo B) 5 (qi 5) y hy).elim fun i h=>q8 h.2.2.2 (by decide)) fun F=>z5x F 1 2 G I J K M B
