import Derived.Test.YtfnkamphhpldcaaGreatDoorK41
set_option maxHeartbeats 64000000
namespace Go.Proofs.YtfnkamphhpldcaaGreatDoor
open Go Sx
set_option maxRecDepth 100000
theorem z6b (F:Fz) {b c:SA} (a:Crt) (e:ClsAt F b a.cl) (f:ClsAt F c a.cl) (g:short a.cl) (i:a.cl.length < 1000000) :
  Fo Tryz.prog F 27 [.agg (crtS a b),.agg (crtS a c)] (fun o _=>o = .ret (.va (.lit true))):=by
 have h:=zoa F b c a a e f g i;rw [show zjd a a = true by simp [zjd]] at h;exact zce (zhr h) fun o d h=>h.1
theorem sz40 {α:Type} {c:α} {r:List α} {k:Nat} (h:(c :: r).length = k) (a:k ≤ 40):(r.length + 1 + 1) * 64 ≤ 140737488355328:=
 jk (qaz 64 (show r.length + 1 + 1 ≤ 41 by rw [qe] at h; omega)) (by decide)
theorem RowG.rep {α:Type} {R:Fz → List SA → α → Prop} {G:Fz} {x:α} {z:ZC} (h:R G z.1 x) (n:Nat):RowG R G (List.replicate n x) (List.replicate n z):=
 ⟨by simp,fun i e d h1 c=>by
  have a:=qaj (yt h1);have b:=qaj (yt c);subst a b; exact h⟩
theorem z81 {N:Nat} {s:Crt} {o:Out} {e:Fz} (b:(N * s.len ≤ 64 ∧ ∃ y,zaz (List.replicate N s) = some y ∧ y.len = N * s.len) ∨ (¬ N * s.len ≤ 64 ∧ zaz (List.replicate N s) = none))
  (h:(zaz (List.replicate N s) = none ∧ o = .ret (.tup [.agg [.str [],.str [],.int .i64 0,.nilsl],.va (.int .i64 100)])) ∨ (∃ c,zaz (List.replicate N s) = some c ∧ ∃ sk,o = .ret (.tup [.agg (crtS c sk),.va (.int .i64 0)]) ∧ ClsAt e sk c.cl)) :
  (¬ N * s.len ≤ 64 ∧ o = .ret (.tup [.agg [.str [],.str [],.int .i64 0,.nilsl],.va (.int .i64 100)])) ∨ (N * s.len ≤ 64 ∧ ∃ c sk,c.len = N * s.len ∧ o = .ret (.tup [.agg (crtS c sk),.va (.int .i64 0)]) ∧ ClsAt e sk c.cl):=by
 rcases b with ⟨h1,y,d,f⟩ | ⟨h1,d⟩
 ·rcases h with ⟨a,_⟩ | ⟨c,a,sk,g,i⟩
  ·rw [d] at a; cases a
  ·rw [d] at a; cases a; exact .inr ⟨h1,y,sk,f,g,i⟩
 ·rcases h with ⟨_,a⟩ | ⟨c,a,_⟩
  ·exact .inl ⟨h1,a⟩
  ·rw [d] at a; cases a
theorem zqg (F0:Fz) (m0:MLF F0) (r0:RNDF F0) (n1 n2 n3:Bool) (b1 o1 c1 b2 o2 c2 b3 o3 l3 c3 l x:Nat) (q1 q2 f d:Int) (ax:i64 f) (a7:i64 d)
  (L:∀ F1,Fz.le F0 F1 → Fo Tryz.prog F1 23 [.agg (caseS n1 n2 n3 b1 o1 c1 b2 o2 c2 b3 o3 l3 c3 l x q1 q2)] zty) :
  Fo Tryz.prog F0 9 [.agg (caseS n1 n2 n3 b1 o1 c1 b2 o2 c2 b3 o3 l3 c3 l x q1 q2),.va (.int .i64 f),.va (.int .i64 d)] (fun o _=>o = .ret (.va (.bool true)) ∧ True):=by
 have ak:=yaj F0 m0 r0;have hN:=zck d 40 (by decide) a7;have bu:∃ N:Nat,1 + pickI d 40 = (N:Int) ∧ 1 ≤ N ∧ N ≤ 40:=⟨(1 + pickI d 40).toNat,by omega,by omega,by omega⟩
 obtain ⟨N,bw,bt,ca⟩:=bu;have al:IntKind.i64.wrap (1 + pickI d 40) = (N:Int):=by rw [bw,zaj (by omega) (by omega)]
 have b5:=fun F=>zrd d 40 a7 (by decide) F
 refine fo_of hΘ Tryz.func9 rfl (by decide) _ _ rfl rfl rfl ?_;refine useFo ak rfl (zaa _) rfl ?_;rintro _ F1 u1 ⟨rfl,-⟩;refine useFo (L F1 u1) rfl (zaa _) rfl ?_;rintro _ F2 u2 ⟨sd,sv,sc,D,C,cd,cv,cc,rfl,ce,cf,aa,az,cg,h6,⟨bd,rfl⟩,⟨bv,rfl⟩,⟨nl,bc,rfl⟩,ay⟩;have z2:Fz.le F0 F2:=Fz.t u1 u2;by_cases g2:C.length < 2
 ·have gi:(C.length:Int) < 2:=by omega
  refine gae (by decide) ?_;refine bri gi ?_;exact endFo (.ret (.va (.bool true))) F2 rfl z2 (Fz.r F2) ⟨rfl,tv⟩ (zah _) rfl
 ·have gi:¬ (C.length:Int) < 2:=by omega
  have hK:=zck f ((C.length:Int) - 1) (by omega) ax;have bq:∃ K:Nat,1 + pickI f ((C.length:Int) - 1) = (K:Int) ∧ 1 ≤ K ∧ K < C.length:=⟨(1 + pickI f ((C.length:Int) - 1)).toNat,by omega,by omega,by omega⟩
  obtain ⟨K,bs,bp,ad⟩:=bq;have bz:SA.int .i64 ((C.length:Int) - 1) = SA.int .i64 (IntKind.i64.wrap ((C.length:Int) - 1)):=by rw [zaj (by omega) (by omega)]
  have Z:IntKind.i64.wrap (1 + pickI f ((C.length:Int) - 1)) = (K:Int):=by rw [bs,zaj (by omega) (by omega)]
  have b4:=fun F=>zrd f ((C.length:Int) - 1) ax (by omega) F
  have e:=grpP az (by omega) bp ad;obtain ⟨a,b,w,e⟩:=e;have m:=az.sm;have G:=zd1.1 e.ok;have b7:crtOk ⟨w.src,w.src,w.len,w.cl⟩ = true:=zd1.2 ⟨G.s,G.s,G.l,G.n,G.k⟩;have a8:=zsk b7 rfl N bt;have am:=e.len;have a5:(C.take K).length = K:=by rw [qk]; omega
  have a4:(C.drop K).length = C.length - K:=yi;have hA:=zke (zym aa (qcs ad)) (by omega) (fun c h=>(m c (jp h)).s) (fun c h=>(m c (jp h)).l) (by omega) e.a1;have hB:=fun F3 (l3:Fz.le F2 F3)=>zke (zyl (k:=K) (c2:=cc - K) (aa.up l3) (qcs ad)) (by omega) (fun c h=>(m c (yu h)).s) (fun c h=>(m c (yu h)).l) (by omega) e.b1
  have hW:=fun F3 (l3:Fz.le F2 F3)=>zke (aa.up l3) ay (fun c h=>(m c h).s) (fun c h=>(m c h).l) (by omega) e.w1
  have b0:¬ cc = K:=by omega
  refine gae (by decide) ?_;refine brj gi ?_;refine usePu (b4 F2) rfl ⟨rfl,bz,tv⟩ rfl ⟨⟨by rw [Z]; omega,by rw [Z]; omega⟩,?_⟩;refine useFo hA rfl ⟨⟨rfl,?e1,?e2,.inr ⟨rfl,rfl,?e3,rfl⟩⟩,tv⟩ rfl ?_
  case e1=>rw [a5,Z,ql,qaw]
  case e2=>rfl
  case e3=>split<;>rfl
  rintro _ F3 u3 ⟨sa,rfl,a9⟩;have ba:=a9;obtain ⟨an,ab,ae,ac,aL,ar,rfl,-,-,-,-⟩:=a9;refine ⟨⟨by rw [Z]; omega,by rw [Z]; omega⟩,?_⟩;refine useFo (hB F3 u3) rfl ⟨⟨rfl,?e1,?e2,.inr ⟨rfl,rfl,?e3,rfl⟩⟩,tv⟩ rfl ?_
  case e1=>rw [a4,Z,ql]
  case e2=>rw [Z,ql]
  case e3=>rw [Z,ql,if_neg b0,qv]
  rintro _ F4 u4 ⟨sb,rfl,bf⟩;have bg:=bf;obtain ⟨bn,bb,be,au,bL,cb,rfl,-,-,-,-⟩:=bf;refine useFo (hW F4 (Fz.t u3 u4)) rfl (zaa _) rfl ?_;rintro _ F5 u5 ⟨sw,rfl,bh⟩;have Y:=bh;obtain ⟨T,O,S,Q,wL,wr,rfl,-,-,-,-⟩:=bh;refine za4 5 (fun _=>.arr 48 4 [crtS a (.slice an 0 ab ae 2 a.cl.length ac),crtS b (.slice bn 0 bb be 2 b.cl.length au)] 2) rfl rfl rfl (fun _ _=>rfl) (fun _ _=>SB.bB_ok rfl) ?_;intro p5 F6 u6 h5;have bl:=Fz.t u5 u6;have b9:=Fz.t u4 bl;have av:=KpsAt.up ba b9;have aw:=KpsAt.up bg bl;have hT:=zke (zwh av aw (h5 0 rfl)) (qi 2) (zhb e.sa.s e.sb.s) (zhb e.sa.l e.sb.l) (show 2 < 1000000 by decide) e.w2;refine useFo hT rfl ⟨⟨rfl,rfl,rfl,.inr ⟨rfl,rfl,rfl,rfl⟩⟩,tv⟩ rfl ?_;rintro _ F7 u7 ⟨sx,rfl,bi⟩;have bj:=bi;obtain ⟨xn,xb,xe,xc,xL,xr,rfl,-,-,-,-⟩:=bi;refine za4 7 (fun _=>.arr 48 4 [crtS b (.slice bn 0 bb be 2 b.cl.length au),crtS a (.slice an 0 ab ae 2 a.cl.length ac)] 2) rfl rfl rfl (fun _ _=>rfl) (fun _ _=>SB.bB_ok rfl) ?_;intro p7 F8 u8 h7;have bm:=Fz.t u7 u8;have hU:=ze0 F8 false (p7 0) 0 2 [b,a] (zwh (KpsAt.up aw bm) (KpsAt.up av bm) (h7 0 rfl)) (qi 2) (zhb e.sb.s e.sa.s) (zhb e.sb.l e.sa.l) (show 2 < 1000000 by decide);refine useFo hU rfl ⟨⟨rfl,rfl,rfl,.inr ⟨rfl,rfl,rfl,rfl⟩⟩,tv⟩ rfl ?_;rintro _ F9 u9 h9;have M:=Fz.t u6 (Fz.t u7 (Fz.t u8 u9));have hS:=z6b F9 w (KpsAt.up Y M) (KpsAt.up bj (Fz.t u8 u9)) e.sw.s e.sw.l;refine Or.elim h9 (fun h9=>?A) (fun h9=>?B)
  case' A=>
   obtain ⟨-,rfl⟩:=h9
  case' B=>
   obtain ⟨zc,hz,sz,rfl,b8⟩:=h9;have bx:=e.back _ hz;obtain ⟨zn,zb,ze,ch,zL,zr,rfl,-,-,-,-⟩:=b8
  all_goals
   conv=>whnf
   repeat
    refine gae (by decide) ?_;conv=>whnf
   refine useFo hS rfl (zaa _) rfl ?_;rintro _ u ao rfl;conv=>whnf
   repeat
    first | refine gae (by decide) ?_ | refine gaf (by decide) ?_
    conv=>whnf
  case' B=>
   refine br (fun g=>absurd g (by simp [bx])) (fun _=>?_);conv=>whnf
  all_goals
   refine usePu (b5 u) rfl (zaa _) rfl ?_;conv=>whnf
   refine zam hΘ (X:={ y:Nat × List ZC × Nat // y.1 ≤ N ∧ y.2.1 = List.replicate y.1 (mkR (crtS ⟨w.src,w.src,w.len,w.cl⟩ (.slice T 0 O S 2 w.cl.length Q)) rfl) ∧ y.2.1.length ≤ y.2.2 }) (fun y=>[(25,.va (gA 4 10 y.1.2.2 y.1.2.1)),(26,.va (.int .i64 y.1.1))]) (jr 125 9 [])
    (fun y=>[(0,.frz u),(10,gE 48 4 encZ y.1.2.2 y.1.2.1)]) 11 (fun y=>N - y.1.1) ⟨(0,[],0),yd N,rfl,qi 0⟩
    (fun hH hT=>leI [(10,10)] hH hT rfl ⟨tv,zbt zau (by omega) _ _ _ _,tv⟩ ⟨rfl,rfl,tv⟩ ⟨Fz.r u,rfl,tv⟩) ?_
   rintro ⟨⟨j,o,c⟩,hj,ho,h⟩ hH hT;replace hj:j ≤ N:=hj;replace ho:o = List.replicate j (mkR (crtS ⟨w.src,w.src,w.len,w.cl⟩ (.slice T 0 O S 2 w.cl.length Q)) rfl):=ho;replace h:o.length ≤ c:=h;have aj:o.length = j:=by rw [ho,qai]
   by_cases gj:j < N
   ·have gi:(j:Int) < IntKind.i64.wrap (1 + pickI d 40):=by rw [al]; omega
    have U:N - (j + 1) < N - j:=by omega
    have V:j < 4611686018427387904:=by omega
    have a2:j ≤ 40:=by omega
    have a6:o ++ [(mkR (crtS ⟨w.src,w.src,w.len,w.cl⟩ (.slice T 0 O S 2 w.cl.length Q)) rfl)] = List.replicate (j + 1) (mkR (crtS ⟨w.src,w.src,w.len,w.cl⟩ (.slice T 0 O S 2 w.cl.length Q)) rfl):=by rw [ho,qcl]
    clear ho;rcases o with _ | ⟨o0,q⟩
    all_goals
     refine bri gi ⟨nb rfl,[crtS ⟨w.src,w.src,w.len,w.cl⟩ (.slice T 0 O S 2 w.cl.length Q)],rfl,?_⟩;conv=>whnf
     first
     |refine ⟨rfl,rfl,nb rfl,fun c' af=>?_⟩
     |refine ⟨rfl,rfl,by simp,rfl,sz40 aj a2,fun c' af=>?_⟩
     conv=>whnf
     first
     |exact ⟨⟨(j + 1,[] ++ [(mkR (crtS ⟨w.src,w.src,w.len,w.cl⟩ (.slice T 0 O S 2 w.cl.length Q)) rfl)],c'),gj,a6,by simpa using af⟩,U,leR [(10,12)] hH hT rfl ⟨tv,zbt zau (by omega) _ _ _ _,tv⟩ ⟨by (conv=>whnf); exact ⟨rfl,rfl,rfl,.inr ⟨rfl,rfl,rfl,rfl⟩⟩,cnt V,tv⟩ ⟨Fz.r u,zet (μ:=sig [(10,12)]) zau (fun k=>rfl) (zb9 _ (by rw [qq]; rfl)),tv⟩⟩
     |exact ⟨⟨(j + 1,(o0 :: q) ++ [(mkR (crtS ⟨w.src,w.src,w.len,w.cl⟩ (.slice T 0 O S 2 w.cl.length Q)) rfl)],c'),gj,a6,by simpa using af⟩,U,leR [(10,12)] hH hT rfl ⟨tv,zbt zau (by omega) _ _ _ _,tv⟩ ⟨zg4 (μ:=sig [(10,12)]) (i:=10) (j:=12) rfl 4 c' _ (o0 :: q) (mkR (crtS ⟨w.src,w.src,w.len,w.cl⟩ (.slice T 0 O S 2 w.cl.length Q)) rfl) rfl,cnt V,tv⟩ ⟨Fz.r u,zet (μ:=sig [(10,12)]) zau (fun k=>rfl) (zb9 _ (by rw [qq]; rfl)),tv⟩⟩
   ·have gi:¬ (j:Int) < IntKind.i64.wrap (1 + pickI d 40):=by rw [al]; omega
    have a3:j = N:=by omega
    rcases o with _ | ⟨o0,q⟩
    ·simp at aj; omega
    ·have W:(List.replicate N (⟨w.src,w.src,w.len,w.cl⟩:Crt)).length = q.length + 1:=by rw [qai,← a3]; exact aj.symm
     refine brj gi ?_;refine za4 10 (fun _=>.arr 48 4 ((o0 :: q).map encZ) c) rfl rfl rfl (fun _ _=>by exact zea (μ:=resP _) zau (fun k=>rfl) rfl _ _ _) (fun _ _=>zct zau (by omega) _ _ _ _) ?_;intro p aq ap hp
     have b6:RowG CrtR aq (List.replicate N ⟨w.src,w.src,w.len,w.cl⟩) (o0 :: q):=by
      rw [ho,a3];exact RowG.rep (R:=CrtR) (z:=(mkR (crtS ⟨w.src,w.src,w.len,w.cl⟩ (.slice T 0 O S 2 w.cl.length Q)) rfl)) ⟨_,rfl,KpsAt.up Y (Fz.t M (Fz.t ao ap))⟩ N
     have ah:=ze0 aq false (p 0) 0 c (List.replicate N ⟨w.src,w.src,w.len,w.cl⟩) (b6.sl (hp 0 ⟨rfl,rfl⟩)) (by rw [W]; exact h) (fun x hx=>by rw [qaj hx]; exact e.sw.s) (fun x hx=>by rw [qaj hx]; exact e.sw.l) (by rw [qai]; omega);refine useFo ah rfl ⟨⟨rfl,W,rfl,.inr ⟨rfl,rfl,rfl,rfl⟩⟩,tv⟩ rfl ?_;rintro _ J bk bo;have a0:=z81 a8 bo
     have E:IntKind.i64.wrap (IntKind.i64.wrap (1 + pickI d 40) * (C.length:Int)) = (N:Int) * (C.length:Int):=by
      have h1:(N:Int) * (C.length:Int) ≤ 40 * 6:=qbd (by omega) (by omega) (by omega) (by omega);have h2:0 ≤ (N:Int) * (C.length:Int):=qbs (by omega) (by omega);rw [al,zaj (by omega) (by omega)]
     rcases a0 with ⟨ai,rfl⟩ | ⟨I,c',sk,ag,rfl,hk⟩
     ·replace ai:¬ (N:Int) * (C.length:Int) ≤ 64:=by rw [← am]; exact ai
      refine ⟨fun _=>?_,fun g=>absurd g (by simp [E,ai])⟩;conv=>whnf
      repeat
       refine gaf (by decide) ?_;conv=>whnf
      exact endFo (.ret (.va (.bool true))) J rfl (Fz.t z2 (Fz.t u3 (Fz.t u4 (Fz.t u5 (Fz.t M (Fz.t ao (Fz.t ap bk))))))) (Fz.r J) ⟨rfl,tv⟩ (ob (by decide)) rfl
     ·replace I:(N:Int) * (C.length:Int) ≤ 64:=by rw [← am]; exact I
      replace ag:c'.len = (N:Int) * (C.length:Int):=by rw [← am]; exact ag
      obtain ⟨kn,kb,ke,kc,kL,kr,rfl,-,-,-,-⟩:=hk;refine ⟨fun _=>?_,fun g=>absurd g (by simp [E,I])⟩;conv=>whnf
      repeat
       refine gae (by decide) ?_;conv=>whnf
      exact endFo (.ret (.va (.bool true))) J rfl (Fz.t z2 (Fz.t u3 (Fz.t u4 (Fz.t u5 (Fz.t M (Fz.t ao (Fz.t ap bk))))))) (Fz.r J) ⟨rfl,tv⟩ (ob (by simp [E,ag])) rfl
theorem zst (c:Fz) (A:MLF c) (B:RNDF c) (i j k:Bool) (d l s e m c2 f n g u:Nat) (L:List Stp) (X:List Q3) (p q:Int) (zs:List Int) (h:CaseAt c i j k d l e m f n g L X p q zs) (b:Int) (w:i64 b) (a:Int) (x:i64 a) :
  Fo Tryz.prog c 9 [.agg (caseS i j k d l s e m c2 f n g u L.length X.length p q),.va (.int .i64 b),.va (.int .i64 a)] (fun o _=>o = .ret (.va (.bool true)) ∧ True):=
 zqg c A B i j k d l s e m c2 f n g u L.length X.length p q b a w x fun F1 y=>z2z F1 (A.mono y) (B.mono y) i j k d l s e m c2 f n g u L X p q zs (h.mono y)
end Go.Proofs.YtfnkamphhpldcaaGreatDoor
