import Derived.Test.YtfnkamphhpldcaaGreatDoorK38
set_option maxHeartbeats 64000000
namespace Go.Proofs.YtfnkamphhpldcaaGreatDoor
open Go Sx
set_option maxRecDepth 100000
structure Ex (A B:Crt) (xs xd:List UInt8) (vA vC:List (List UInt8)) (E:List UInt8):Prop where
 al:A.len = 1
 mkA:∀ F,MLF F → RNDF F → ∀ sk b1 b2,KpsAt F sk mg1.keep → LnAt F b1 [84,111,32,32,66,101] 5 → LnAt F b2 [116,111,32,32,98,101] 5 → Fo Tryz.prog F 21 [.agg (migS mg1 sk),.agg (dS b1),.agg (dS b2)] (fun o F'=>∃ sc,o = .ret (.tup [.agg (crtS A sc),.va (.int .i64 0)]) ∧ ClsAt F' sc A.cl)
 mkF:∀ F,MLF F → RNDF F → ∀ sk b1 b2,KpsAt F sk mg1.keep → LnAt F b1 [84,111,32,32,66,101] 5 → LnAt F b2 [116,111,32,98,101] 5 → Fo Tryz.prog F 21 [.agg (migS mg1 sk),.agg (dS b1),.agg (dS b2)] (fun o F'=>o = .ret (.tup [.agg zC,.va (.int .i64 100)]))
 mkB:∀ F,MLF F → RNDF F → ∀ sk b1 b2,KpsAt F sk mg2.keep → LnAt F b1 [116,111,32,32,98,101] 5 → LnAt F b2 [116,111,32,98,101] 0 → Fo Tryz.prog F 21 [.agg (migS mg2 sk),.agg (dS b1),.agg (dS b2)] (fun o F'=>∃ sc,o = .ret (.tup [.agg (crtS B sc),.va (.int .i64 0)]) ∧ ClsAt F' sc B.cl)
 cX:∀ F b sa sb,ClsAt F sa A.cl → ClsAt F sb B.cl → F b = some (.arr 48 4 [crtS A sa,crtS B sb] 2) → Fo Tryz.prog F 30 [.va (.slice false 0 b 0 4 2 2)] (fun o F'=>∃ sk,o = .ret (.tup [.agg (crtS ⟨xs,xd,2,exCl⟩ sk),.va (.int .i64 0)]) ∧ ClsAt F' sk exCl)
 cN:∀ F b sa sb,ClsAt F sa A.cl → ClsAt F sb B.cl → F b = some (.arr 48 4 [crtS B sb,crtS A sa] 2) → Fo Tryz.prog F 30 [.va (.slice false 0 b 0 4 2 2)] (fun o F'=>o = .ret (.tup [.agg zC,.va (.int .i64 100)]))
 all1:∀ F b,LnAt F b [84,111,32,32,66,101] 5 → Fo Tryz.prog F 14 [.agg (dS b)] (fun o F'=>∃ b c,o = .ret (.tup [.va (.slice false 0 b 0 1 8 c),.va (.int .i64 0)]) ∧ F' b = some (.arr 9 1 (vA.map encS) c))
 all3:∀ F b,LnAt F b [116,111,32,98,101] 0 → Fo Tryz.prog F 14 [.agg (dS b)] (fun o F'=>∃ b c,o = .ret (.tup [.va (.slice false 0 b 0 1 8 c),.va (.int .i64 0)]) ∧ F' b = some (.arr 9 1 (vC.map encS) c))
 enc:∀ F sk,ClsAt F sk exCl → Fo Tryz.prog F 34 [.agg (crtS ⟨xs,xd,2,exCl⟩ sk)] (fun o F'=>o = .ret (.tup [.va (.str E),.va (.int .i64 0)]))
 dec:∀ F,Fo Tryz.prog F 36 [.va (.str E)] (fun o F'=>∃ sk,o = .ret (.tup [.agg (crtS ⟨xs,xd,2,exCl⟩ sk),.va (.int .i64 0)]) ∧ ClsAt F' sk exCl)
 k1:∀ F,MLF F → RNDF F → ∀ sk b1 c1 b3 c3,ClsAt F sk exCl → F b1 = some (.arr 9 1 (vA.map encS) c1) → F b3 = some (.arr 9 1 (vC.map encS) c3) → Fo Tryz.prog F 22 [.agg (crtS ⟨xs,xd,2,exCl⟩ sk),.va (.slice false 0 b1 0 1 8 c1),.va (.slice false 0 b3 0 1 8 c3)] (fun o F'=>o = .ret (.va (.lit true)) ∧ True)
 k2:∀ F,MLF F → RNDF F → ∀ sk b1 c1 b3 c3,ClsAt F sk exCl → F b1 = some (.arr 9 1 (vA.map encS) c1) → F b3 = some (.arr 9 1 (vC.map encS) c3) → Fo Tryz.prog F 22 [.agg (crtS ⟨xs,xd,2,exCl⟩ sk),.va (.slice false 0 b3 0 1 8 c3),.va (.slice false 0 b1 0 1 8 c1)] (fun o F'=>o = .ret (.va (.lit false)) ∧ True)
 s1:∀ F s t,ClsAt F s exCl → ClsAt F t exCl → Fo Tryz.prog F 27 [.agg (crtS ⟨xs,xd,2,exCl⟩ s),.agg (crtS ⟨xs,xd,2,exCl⟩ t)] (fun o F'=>o = .ret (.va (.lit true)) ∧ F' = F)
 s2:∀ F s t,ClsAt F s A.cl → ClsAt F t B.cl → Fo Tryz.prog F 27 [.agg (crtS A s),.agg (crtS B t)] (fun o F'=>o = .ret (.va (.lit false)) ∧ F' = F)
 vX:∀ F s,ClsAt F s exCl → Fo Tryz.prog F 25 [.agg (crtS ⟨xs,xd,2,exCl⟩ s)] (fun o F'=>o = .ret (.va (.lit true)) ∧ True)
 v0:∀ F,Fo Tryz.prog F 25 [.agg [.str [],.str [],.int .i64 0,.slice true 0 0 0 2 0 0]] (fun o F'=>o = .ret (.va (.lit false)) ∧ True)
theorem zqg (A B:Crt) (xs xd:List UInt8) (vA vC:List (List UInt8)) (E:List UInt8) (ex:Ex A B xs xd vA vC E) (F0:Fz) (m0:MLF F0) (r0:RNDF F0):Fo Tryz.prog F0 12 [] (fun o F'=>o = .ret (.va (.bool true)) ∧ True):=by
 obtain ⟨hA1,mkA,mkF,mkB,cX,cN,all1,all3,enc_,dec,k1,k2,s1,s2,vX,v0⟩:=ex
 obtain ⟨As,Ad,An,Ac⟩:=A
 obtain ⟨Bs,Bd,Bn,Bc⟩:=B
 replace hA1:An = 1:=hA1
 subst hA1
 refine fo_of hΘ Tryz.func12 rfl (by decide) _ _ rfl rfl rfl ?_;conv=>whnf
 refine zi7 1 (fun _=>.arr 56 2 ([(1,0)].map enc) 1) rfl rfl rfl (fun _ _=>rfl) (fun _ _=>SB.bB_ok rfl) ?_
 intro p1 F1 l1 hp1
 refine zi7 4 (fun _=>.arr 56 2 ([(2,0)].map enc) 1) rfl rfl rfl (fun _ _=>rfl) (fun _ _=>SB.bB_ok rfl) ?_
 intro p4 F4 l4 hp4
 refine zi7 5 (fun _=>.arr 56 2 ([(6,0)].map enc) 1) rfl rfl rfl (fun _ _=>rfl) (fun _ _=>SB.bB_ok rfl) ?_
 intro p5 F5 l5 hp5
 refine zi7 2 (fun _=>.arr 96 2 [[.int .i64 1,.slice false 0 (p1 0) 0 2 1 1]] 1) rfl rfl rfl (fun _ _=>rfl) (fun _ _=>SB.bB_ok rfl) ?_
 intro p2 F2 l2 hp2
 refine zi7 6 (fun _=>.arr 96 2 [[.int .i64 1,.slice false 0 (p4 0) 0 2 1 1],[.int .i64 2,.slice false 0 (p5 0) 0 2 1 1]] 2) rfl rfl rfl (fun _ _=>rfl) (fun _ _=>SB.bB_ok rfl) ?_
 intro p6 F6 l6 hp6
 have K1:KpsAt F6 (.slice false 0 (p2 0) 0 2 1 1) mg1.keep:=SlR.new (l:=mg1.keep) (l6 _ _ (hp2 0 rfl)) rfl fun k x hx=>by
  match k,hx with
  |0,hx=>cases hx; exact ⟨_,rfl,_,rfl,Sl.new (l:=[(1,0)]) (l6 _ _ (l2 _ _ (l5 _ _ (l4 _ _ (hp1 0 rfl)))))⟩
  |k + 1,hx=>cases hx
 have K2:KpsAt F6 (.slice false 0 (p6 0) 0 2 2 2) mg2.keep:=SlR.new (l:=mg2.keep) (hp6 0 rfl) rfl fun k x hx=>by
  match k,hx with
  |0,hx=>cases hx; exact ⟨_,rfl,_,rfl,Sl.new (l:=[(2,0)]) (l6 _ _ (l2 _ _ (l5 _ _ (hp4 0 rfl))))⟩
  |1,hx=>cases hx; exact ⟨_,rfl,_,rfl,Sl.new (l:=[(6,0)]) (l6 _ _ (l2 _ _ (hp5 0 rfl)))⟩
  |k + 2,hx=>cases hx
 have q6:Fz.le F0 F6:=Fz.t l1 (Fz.t l4 (Fz.t l5 (Fz.t l2 l6)))
 have m6:=m0.mono q6
 have r6:=r0.mono q6
 clear hp1 hp4 hp5 hp2 hp6 l1 l4 l5 l2 l6
 refine cutJ (X:={ x:Fz × (Bool × Nat × Nat × Nat) // Fz.le F6 x.1 ∧ ClsAt x.1 (.slice x.2.1 0 x.2.2.1 x.2.2.2.1 2 Ac.length x.2.2.2.2) Ac }) F6 (fun x=>[(3,.va (.ptr ⟨8,0,0,0,0⟩)),(4,.va (.int .i64 0))]) [37,38,39,40,41,42,43] (fun x=>[(0,.frz x.1.1),(8,.one (.cells 48 (crtS ⟨As,Ad,1,Ac⟩ (.slice x.1.2.1 0 x.1.2.2.1 x.1.2.2.2.1 2 Ac.length x.1.2.2.2.2))))]) 9
  (fun hH hT=>leI [] hH hT rfl ⟨tv,tv⟩ trivial ⟨Fz.r F6,tv⟩) (fun hH hT=>?draws3) ?rest3
 case draws3=>
  refine drawP hΘ mixed (.look 0 (.alt 1 (.alt 2 (.alt 3 (lk [4,5,6] (.alt 7 (.alt 8 (.look 9 .done) .nil) .nil)) (.alt 7 (.alt 3 (lk [4,5,6] (.alt 8 (.look 9 .done) .nil)) .nil) .nil)) (.alt 7 (.alt 2 (.alt 3 (lk [4,5,6] (.alt 8 (.look 9 .done) .nil)) .nil) .nil) .nil)) (.alt 7 (.alt 1 (.alt 2 (.alt 3 (lk [4,5,6] (.alt 8 (.look 9 .done) .nil)) .nil) .nil) .nil) .nil))) [3] (by kernel_rfl) ?_;conv=>whnf
  refine ⟨rfl,?_⟩;conv=>whnf
  refine ⟨?_,?_⟩
  ·conv=>whnf
   refine useFo (zbj F6 [84,111,32,32,66,101] 5) rfl (zaa _) rfl ?_
   rintro _ G1 u1 ⟨e1,rfl,he1⟩;conv=>whnf
   refine ⟨u1,rfl,?_⟩;conv=>whnf
   refine ⟨?_,?_⟩
   ·conv=>whnf
    refine useFo (zbj G1 [116,111,32,32,98,101] 5) rfl (zaa _) rfl ?_
    rintro _ G2 u2 ⟨e2,rfl,he2⟩;conv=>whnf
    refine ⟨u2,rfl,?_⟩;conv=>whnf
    refine ⟨?_,?_⟩
    ·conv=>whnf
     have v2:=Fz.t u1 u2
     have hmk:=mkA G2 (m6.mono v2) (r6.mono v2) _ e1 e2 (KpsAt.up K1 v2) (u2 _ _ he1) he2
     refine useFo hmk rfl (zaa _) rfl ?_
     rintro _ G3 u3 ⟨sc,rfl,hsc⟩
     have hsc':=hsc
     obtain ⟨cn,cb,ce,cc,cL,cr,rfl,-,-,-,-⟩:=hsc
     conv=>whnf
     refine ⟨u3,rfl,?_⟩;conv=>whnf
     conv=>whnf
     refine ⟨Fz.r _,rfl,?_⟩;conv=>whnf
     refine ⟨Fz.r _,rfl,?_⟩;conv=>whnf
     exact ⟨rfl,⟨(G3,(cn,cb,ce,cc)),Fz.t u1 (Fz.t u2 u3),hsc'⟩,leR [(8,8)] hH hT rfl ⟨tv,zar _ (.inr (by omega)),tv⟩ ⟨rfl,rfl,tv⟩ ⟨Fz.r G3,rfl,tv⟩⟩
    ·conv=>whnf
     refine ⟨Fz.r _,rfl,?_⟩;conv=>whnf
     conv=>whnf
     have v2:=Fz.t u1 u2
     have hmk:=mkA G2 (m6.mono v2) (r6.mono v2) _ e1 e2 (KpsAt.up K1 v2) (u2 _ _ he1) he2
     refine useFo hmk rfl (zaa _) rfl ?_
     rintro _ G3 u3 ⟨sc,rfl,hsc⟩
     have hsc':=hsc
     obtain ⟨cn,cb,ce,cc,cL,cr,rfl,-,-,-,-⟩:=hsc
     conv=>whnf
     refine ⟨u3,rfl,?_⟩;conv=>whnf
     refine ⟨Fz.r _,rfl,?_⟩;conv=>whnf
     exact ⟨rfl,⟨(G3,(cn,cb,ce,cc)),Fz.t u1 (Fz.t u2 u3),hsc'⟩,leR [(8,8)] hH hT rfl ⟨tv,zar _ (.inr (by omega)),tv⟩ ⟨rfl,rfl,tv⟩ ⟨Fz.r G3,rfl,tv⟩⟩
   ·conv=>whnf
    refine ⟨Fz.r _,rfl,?_⟩;conv=>whnf
    conv=>whnf
    refine useFo (zbj G1 [116,111,32,32,98,101] 5) rfl (zaa _) rfl ?_
    rintro _ G2 u2 ⟨e2,rfl,he2⟩;conv=>whnf
    refine ⟨u2,rfl,?_⟩;conv=>whnf
    conv=>whnf
    have v2:=Fz.t u1 u2
    have hmk:=mkA G2 (m6.mono v2) (r6.mono v2) _ e1 e2 (KpsAt.up K1 v2) (u2 _ _ he1) he2
    refine useFo hmk rfl (zaa _) rfl ?_
    rintro _ G3 u3 ⟨sc,rfl,hsc⟩
    have hsc':=hsc
    obtain ⟨cn,cb,ce,cc,cL,cr,rfl,-,-,-,-⟩:=hsc
    conv=>whnf
    refine ⟨u3,rfl,?_⟩;conv=>whnf
    refine ⟨Fz.r _,rfl,?_⟩;conv=>whnf
    exact ⟨rfl,⟨(G3,(cn,cb,ce,cc)),Fz.t u1 (Fz.t u2 u3),hsc'⟩,leR [(8,8)] hH hT rfl ⟨tv,zar _ (.inr (by omega)),tv⟩ ⟨rfl,rfl,tv⟩ ⟨Fz.r G3,rfl,tv⟩⟩
  ·conv=>whnf
   refine ⟨Fz.r _,rfl,?_⟩;conv=>whnf
   conv=>whnf
   refine useFo (zbj F6 [84,111,32,32,66,101] 5) rfl (zaa _) rfl ?_
   rintro _ G1 u1 ⟨e1,rfl,he1⟩;conv=>whnf
   refine ⟨u1,rfl,?_⟩;conv=>whnf
   conv=>whnf
   refine useFo (zbj G1 [116,111,32,32,98,101] 5) rfl (zaa _) rfl ?_
   rintro _ G2 u2 ⟨e2,rfl,he2⟩;conv=>whnf
   refine ⟨u2,rfl,?_⟩;conv=>whnf
   conv=>whnf
   have v2:=Fz.t u1 u2
   have hmk:=mkA G2 (m6.mono v2) (r6.mono v2) _ e1 e2 (KpsAt.up K1 v2) (u2 _ _ he1) he2
   refine useFo hmk rfl (zaa _) rfl ?_
   rintro _ G3 u3 ⟨sc,rfl,hsc⟩
   have hsc':=hsc
   obtain ⟨cn,cb,ce,cc,cL,cr,rfl,-,-,-,-⟩:=hsc
   conv=>whnf
   refine ⟨u3,rfl,?_⟩;conv=>whnf
   refine ⟨Fz.r _,rfl,?_⟩;conv=>whnf
   exact ⟨rfl,⟨(G3,(cn,cb,ce,cc)),Fz.t u1 (Fz.t u2 u3),hsc'⟩,leR [(8,8)] hH hT rfl ⟨tv,zar _ (.inr (by omega)),tv⟩ ⟨rfl,rfl,tv⟩ ⟨Fz.r G3,rfl,tv⟩⟩
 case rest3=>
  rintro ⟨⟨G,an,ab,ae,ac⟩,w1,hA⟩
  replace w1:Fz.le F6 G:=w1
  replace hA:ClsAt G (.slice an 0 ab ae 2 Ac.length ac) Ac:=hA
  have mG:=m6.mono w1
  have rG:=r6.mono w1
  have K1':=KpsAt.up K1 w1
  have K2':=KpsAt.up K2 w1
  conv=>whnf
  refine cutJ (X:={ x:Fz // Fz.le G x }) G (fun x=>[(5,.va (.ptr ⟨9,0,0,0,0⟩)),(6,.va (.int .i64 100))]) [44,45,46,47,48,49,50] (fun x=>[(0,.frz x.1),(9,.one (.cells 48 zC))]) 10
   (fun hH hT=>leI [] hH hT rfl ⟨tv,tv⟩ trivial ⟨Fz.r G,tv⟩) (fun hH hT=>?draws4) ?rest4
  case draws4=>
   refine drawP hΘ mixed (.look 0 (.alt 1 (.alt 2 (.alt 3 (lk [4,5,6] (.alt 7 (.alt 8 (.look 9 .done) .nil) .nil)) (.alt 7 (.alt 3 (lk [4,5,6] (.alt 8 (.look 9 .done) .nil)) .nil) .nil)) (.alt 7 (.alt 2 (.alt 3 (lk [4,5,6] (.alt 8 (.look 9 .done) .nil)) .nil) .nil) .nil)) (.alt 7 (.alt 1 (.alt 2 (.alt 3 (lk [4,5,6] (.alt 8 (.look 9 .done) .nil)) .nil) .nil) .nil) .nil))) [3] (by kernel_rfl) ?_;conv=>whnf
   refine ⟨rfl,?_⟩;conv=>whnf
   refine ⟨?_,?_⟩
   ·conv=>whnf
    refine useFo (zbj G [84,111,32,32,66,101] 5) rfl (zaa _) rfl ?_
    rintro _ G1 u1 ⟨e1,rfl,he1⟩;conv=>whnf
    refine ⟨u1,rfl,?_⟩;conv=>whnf
    refine ⟨?_,?_⟩
    ·conv=>whnf
     refine useFo (zbj G1 [116,111,32,98,101] 5) rfl (zaa _) rfl ?_
     rintro _ G2 u2 ⟨e2,rfl,he2⟩;conv=>whnf
     refine ⟨u2,rfl,?_⟩;conv=>whnf
     refine ⟨?_,?_⟩
     ·conv=>whnf
      have v2:=Fz.t u1 u2
      have hmk:=mkF G2 (mG.mono v2) (rG.mono v2) _ e1 e2 (KpsAt.up K1' v2) (u2 _ _ he1) he2
      refine useFo hmk rfl (zaa _) rfl ?_
      rintro _ G3 u3 rfl;conv=>whnf
      refine ⟨u3,rfl,?_⟩;conv=>whnf
      conv=>whnf
      refine ⟨Fz.r _,rfl,?_⟩;conv=>whnf
      refine ⟨Fz.r _,rfl,?_⟩;conv=>whnf
      exact ⟨rfl,⟨G3,Fz.t u1 (Fz.t u2 u3)⟩,leR [(9,9)] hH hT rfl ⟨tv,zar ⟨[],[],0,[]⟩ (sk:=.nilsl) trivial,tv⟩ ⟨rfl,rfl,tv⟩ ⟨Fz.r G3,rfl,tv⟩⟩
     ·conv=>whnf
      refine ⟨Fz.r _,rfl,?_⟩;conv=>whnf
      conv=>whnf
      have v2:=Fz.t u1 u2
      have hmk:=mkF G2 (mG.mono v2) (rG.mono v2) _ e1 e2 (KpsAt.up K1' v2) (u2 _ _ he1) he2
      refine useFo hmk rfl (zaa _) rfl ?_
      rintro _ G3 u3 rfl;conv=>whnf
      refine ⟨u3,rfl,?_⟩;conv=>whnf
      refine ⟨Fz.r _,rfl,?_⟩;conv=>whnf
      exact ⟨rfl,⟨G3,Fz.t u1 (Fz.t u2 u3)⟩,leR [(9,9)] hH hT rfl ⟨tv,zar ⟨[],[],0,[]⟩ (sk:=.nilsl) trivial,tv⟩ ⟨rfl,rfl,tv⟩ ⟨Fz.r G3,rfl,tv⟩⟩
    ·conv=>whnf
     refine ⟨Fz.r _,rfl,?_⟩;conv=>whnf
     conv=>whnf
     refine useFo (zbj G1 [116,111,32,98,101] 5) rfl (zaa _) rfl ?_
     rintro _ G2 u2 ⟨e2,rfl,he2⟩;conv=>whnf
     refine ⟨u2,rfl,?_⟩;conv=>whnf
     conv=>whnf
     have v2:=Fz.t u1 u2
     have hmk:=mkF G2 (mG.mono v2) (rG.mono v2) _ e1 e2 (KpsAt.up K1' v2) (u2 _ _ he1) he2
     refine useFo hmk rfl (zaa _) rfl ?_
     rintro _ G3 u3 rfl;conv=>whnf
     refine ⟨u3,rfl,?_⟩;conv=>whnf
     refine ⟨Fz.r _,rfl,?_⟩;conv=>whnf
     exact ⟨rfl,⟨G3,Fz.t u1 (Fz.t u2 u3)⟩,leR [(9,9)] hH hT rfl ⟨tv,zar ⟨[],[],0,[]⟩ (sk:=.nilsl) trivial,tv⟩ ⟨rfl,rfl,tv⟩ ⟨Fz.r G3,rfl,tv⟩⟩
   ·conv=>whnf
    refine ⟨Fz.r _,rfl,?_⟩;conv=>whnf
    conv=>whnf
    refine useFo (zbj G [84,111,32,32,66,101] 5) rfl (zaa _) rfl ?_
    rintro _ G1 u1 ⟨e1,rfl,he1⟩;conv=>whnf
    refine ⟨u1,rfl,?_⟩;conv=>whnf
    conv=>whnf
    refine useFo (zbj G1 [116,111,32,98,101] 5) rfl (zaa _) rfl ?_
    rintro _ G2 u2 ⟨e2,rfl,he2⟩;conv=>whnf
    refine ⟨u2,rfl,?_⟩;conv=>whnf
    conv=>whnf
    have v2:=Fz.t u1 u2
    have hmk:=mkF G2 (mG.mono v2) (rG.mono v2) _ e1 e2 (KpsAt.up K1' v2) (u2 _ _ he1) he2
    refine useFo hmk rfl (zaa _) rfl ?_
    rintro _ G3 u3 rfl;conv=>whnf
    refine ⟨u3,rfl,?_⟩;conv=>whnf
    refine ⟨Fz.r _,rfl,?_⟩;conv=>whnf
    exact ⟨rfl,⟨G3,Fz.t u1 (Fz.t u2 u3)⟩,leR [(9,9)] hH hT rfl ⟨tv,zar ⟨[],[],0,[]⟩ (sk:=.nilsl) trivial,tv⟩ ⟨rfl,rfl,tv⟩ ⟨Fz.r G3,rfl,tv⟩⟩
  case rest4=>
   rintro ⟨H,w2⟩
   replace w2:Fz.le G H:=w2
   have mH:=mG.mono w2
   have rH:=rG.mono w2
   have K2'':=KpsAt.up K2' w2
   have hA2:=KpsAt.up hA w2
   conv=>whnf
   refine cutJ (X:={ x:Fz × (Bool × Nat × Nat × Nat) // Fz.le H x.1 ∧ ClsAt x.1 (.slice x.2.1 0 x.2.2.1 x.2.2.2.1 2 Bc.length x.2.2.2.2) Bc }) H (fun x=>[(7,.va (.ptr ⟨10,0,0,0,0⟩)),(8,.va (.int .i64 0))]) [51,52,53,54,55,56,57] (fun x=>[(0,.frz x.1.1),(10,.one (.cells 48 (crtS ⟨Bs,Bd,Bn,Bc⟩ (.slice x.1.2.1 0 x.1.2.2.1 x.1.2.2.2.1 2 Bc.length x.1.2.2.2.2))))]) 11
    (fun hH hT=>leI [] hH hT rfl ⟨tv,tv⟩ trivial ⟨Fz.r H,tv⟩) (fun hH hT=>?draws5) ?rest5
   case draws5=>
    refine drawP hΘ mixed (.look 0 (.alt 1 (.alt 2 (.alt 3 (lk [4,5,6] (.alt 7 (.alt 8 (.look 9 .done) .nil) .nil)) (.alt 7 (.alt 3 (lk [4,5,6] (.alt 8 (.look 9 .done) .nil)) .nil) .nil)) (.alt 7 (.alt 2 (.alt 3 (lk [4,5,6] (.alt 8 (.look 9 .done) .nil)) .nil) .nil) .nil)) (.alt 7 (.alt 1 (.alt 2 (.alt 3 (lk [4,5,6] (.alt 8 (.look 9 .done) .nil)) .nil) .nil) .nil) .nil))) [7] (by kernel_rfl) ?_;conv=>whnf
    refine ⟨rfl,?_⟩;conv=>whnf
    refine ⟨?_,?_⟩
    ·conv=>whnf
     refine useFo (zbj H [116,111,32,32,98,101] 5) rfl (zaa _) rfl ?_
     rintro _ G1 u1 ⟨e1,rfl,he1⟩;conv=>whnf
     refine ⟨u1,rfl,?_⟩;conv=>whnf
     refine ⟨?_,?_⟩
     ·conv=>whnf
      refine useFo (zbj G1 [116,111,32,98,101] 0) rfl (zaa _) rfl ?_
      rintro _ G2 u2 ⟨e2,rfl,he2⟩;conv=>whnf
      refine ⟨u2,rfl,?_⟩;conv=>whnf
      refine ⟨?_,?_⟩
      ·conv=>whnf
       have v2:=Fz.t u1 u2
       have hmk:=mkB G2 (mH.mono v2) (rH.mono v2) _ e1 e2 (KpsAt.up K2'' v2) (u2 _ _ he1) he2
       refine useFo hmk rfl (zaa _) rfl ?_
       rintro _ G3 u3 ⟨sc,rfl,hsc⟩
       have hsc':=hsc
       obtain ⟨cn,cb,ce,cc,cL,cr,rfl,-,-,-,-⟩:=hsc
       conv=>whnf
       refine ⟨u3,rfl,?_⟩;conv=>whnf
       conv=>whnf
       refine ⟨Fz.r _,rfl,?_⟩;conv=>whnf
       refine ⟨Fz.r _,rfl,?_⟩;conv=>whnf
       exact ⟨rfl,⟨(G3,(cn,cb,ce,cc)),Fz.t u1 (Fz.t u2 u3),hsc'⟩,leR [(10,10)] hH hT rfl ⟨tv,zar _ (.inr (by omega)),tv⟩ ⟨rfl,rfl,tv⟩ ⟨Fz.r G3,rfl,tv⟩⟩
      ·conv=>whnf
       refine ⟨Fz.r _,rfl,?_⟩;conv=>whnf
       conv=>whnf
       have v2:=Fz.t u1 u2
       have hmk:=mkB G2 (mH.mono v2) (rH.mono v2) _ e1 e2 (KpsAt.up K2'' v2) (u2 _ _ he1) he2
       refine useFo hmk rfl (zaa _) rfl ?_
       rintro _ G3 u3 ⟨sc,rfl,hsc⟩
       have hsc':=hsc
       obtain ⟨cn,cb,ce,cc,cL,cr,rfl,-,-,-,-⟩:=hsc
       conv=>whnf
       refine ⟨u3,rfl,?_⟩;conv=>whnf
       refine ⟨Fz.r _,rfl,?_⟩;conv=>whnf
       exact ⟨rfl,⟨(G3,(cn,cb,ce,cc)),Fz.t u1 (Fz.t u2 u3),hsc'⟩,leR [(10,10)] hH hT rfl ⟨tv,zar _ (.inr (by omega)),tv⟩ ⟨rfl,rfl,tv⟩ ⟨Fz.r G3,rfl,tv⟩⟩
     ·conv=>whnf
      refine ⟨Fz.r _,rfl,?_⟩;conv=>whnf
      conv=>whnf
      refine useFo (zbj G1 [116,111,32,98,101] 0) rfl (zaa _) rfl ?_
      rintro _ G2 u2 ⟨e2,rfl,he2⟩;conv=>whnf
      refine ⟨u2,rfl,?_⟩;conv=>whnf
      conv=>whnf
      have v2:=Fz.t u1 u2
      have hmk:=mkB G2 (mH.mono v2) (rH.mono v2) _ e1 e2 (KpsAt.up K2'' v2) (u2 _ _ he1) he2
      refine useFo hmk rfl (zaa _) rfl ?_
      rintro _ G3 u3 ⟨sc,rfl,hsc⟩
      have hsc':=hsc
      obtain ⟨cn,cb,ce,cc,cL,cr,rfl,-,-,-,-⟩:=hsc
      conv=>whnf
      refine ⟨u3,rfl,?_⟩;conv=>whnf
      refine ⟨Fz.r _,rfl,?_⟩;conv=>whnf
      exact ⟨rfl,⟨(G3,(cn,cb,ce,cc)),Fz.t u1 (Fz.t u2 u3),hsc'⟩,leR [(10,10)] hH hT rfl ⟨tv,zar _ (.inr (by omega)),tv⟩ ⟨rfl,rfl,tv⟩ ⟨Fz.r G3,rfl,tv⟩⟩
    ·conv=>whnf
     refine ⟨Fz.r _,rfl,?_⟩;conv=>whnf
     conv=>whnf
     refine useFo (zbj H [116,111,32,32,98,101] 5) rfl (zaa _) rfl ?_
     rintro _ G1 u1 ⟨e1,rfl,he1⟩;conv=>whnf
     refine ⟨u1,rfl,?_⟩;conv=>whnf
     conv=>whnf
     refine useFo (zbj G1 [116,111,32,98,101] 0) rfl (zaa _) rfl ?_
     rintro _ G2 u2 ⟨e2,rfl,he2⟩;conv=>whnf
     refine ⟨u2,rfl,?_⟩;conv=>whnf
     conv=>whnf
     have v2:=Fz.t u1 u2
     have hmk:=mkB G2 (mH.mono v2) (rH.mono v2) _ e1 e2 (KpsAt.up K2'' v2) (u2 _ _ he1) he2
     refine useFo hmk rfl (zaa _) rfl ?_
     rintro _ G3 u3 ⟨sc,rfl,hsc⟩
     have hsc':=hsc
     obtain ⟨cn,cb,ce,cc,cL,cr,rfl,-,-,-,-⟩:=hsc
     conv=>whnf
     refine ⟨u3,rfl,?_⟩;conv=>whnf
     refine ⟨Fz.r _,rfl,?_⟩;conv=>whnf
     exact ⟨rfl,⟨(G3,(cn,cb,ce,cc)),Fz.t u1 (Fz.t u2 u3),hsc'⟩,leR [(10,10)] hH hT rfl ⟨tv,zar _ (.inr (by omega)),tv⟩ ⟨rfl,rfl,tv⟩ ⟨Fz.r G3,rfl,tv⟩⟩
   case rest5=>
    rintro ⟨⟨J,bn,bb,be,bc⟩,w3,hB⟩
    replace w3:Fz.le H J:=w3
    replace hB:ClsAt J (.slice bn 0 bb be 2 Bc.length bc) Bc:=hB
    have mJ:=mH.mono w3
    have rJ:=rH.mono w3
    have hA3:=KpsAt.up hA2 w3
    conv=>whnf
    refine za0 11 (fun _=>.arr 48 4 [crtS ⟨As,Ad,1,Ac⟩ (.slice an 0 ab ae 2 Ac.length ac),crtS ⟨Bs,Bd,Bn,Bc⟩ (.slice bn 0 bb be 2 Bc.length bc)] 2) rfl rfl rfl (fun _ _=>rfl) (fun _ _=>SB.bB_ok rfl) ?_
    intro b1 J1 j1 hb1
    refine useFo (cX J1 (b1 0) _ _ (KpsAt.up hA3 j1) (KpsAt.up hB j1) (hb1 0 rfl)) rfl (zaa _) rfl ?_
    rintro _ J2 j2 ⟨xk,rfl,hX⟩
    have hX':=hX
    obtain ⟨xn,xb,xe,xc,xL,xr,rfl,x1,x2,x3,x4⟩:=hX
    conv=>whnf
    refine za0 13 (fun _=>.arr 48 4 [crtS ⟨Bs,Bd,Bn,Bc⟩ (.slice bn 0 bb be 2 Bc.length bc),crtS ⟨As,Ad,1,Ac⟩ (.slice an 0 ab ae 2 Ac.length ac)] 2) rfl rfl rfl (fun _ _=>rfl) (fun _ _=>SB.bB_ok rfl) ?_
    intro b2 J3 j3 hb2
    have a3:=Fz.t j1 (Fz.t j2 j3)
    refine useFo (cN J3 (b2 0) _ _ (KpsAt.up hA3 a3) (KpsAt.up hB a3) (hb2 0 rfl)) rfl (zaa _) rfl ?_
    rintro _ J4 j4 rfl;conv=>whnf
    refine useFo (z4a J4) rfl ⟨⟨rfl,rfl,rfl⟩,tv⟩ rfl ?_
    rintro _ J5 j5 rfl;conv=>whnf
    refine useFo (zbj J5 [84,111,32,32,66,101] 5) rfl (zaa _) rfl ?_
    rintro _ J6 j6 ⟨e1,rfl,he1⟩;conv=>whnf
    refine useFo (all1 J6 e1 he1) rfl (zaa _) rfl ?_
    rintro _ J7 j7 ⟨u1,v1,rfl,hu1⟩;conv=>whnf
    refine useFo (zbj J7 [116,111,32,98,101] 0) rfl (zaa _) rfl ?_
    rintro _ J8 j8 ⟨e3,rfl,he3⟩;conv=>whnf
    refine useFo (all3 J8 e3 he3) rfl (zaa _) rfl ?_
    rintro _ J9 j9 ⟨u3,v3,rfl,hu3⟩;conv=>whnf
    refine gae (by decide) ?_;conv=>whnf
    refine gae (by decide) ?_;conv=>whnf
    refine gae (by decide) ?_;conv=>whnf
    refine brd (by decide) ?_;conv=>whnf
    have w29:Fz.le J2 J9:=Fz.t j3 (Fz.t j4 (Fz.t j5 (Fz.t j6 (Fz.t j7 (Fz.t j8 j9)))))
    have hX9:=KpsAt.up hX' w29
    refine useFo (enc_ J9 _ hX9) rfl (zaa _) rfl ?_
    rintro _ Ja ja rfl;conv=>whnf
    refine useFo (dec Ja) rfl (zaa _) rfl ?_
    rintro _ Jb jb ⟨dk,rfl,hD⟩
    have hD':=hD
    obtain ⟨dn,db,de,dc,dL,dr,rfl,-,-,-,-⟩:=hD
    have hz0:=x4 0 _ rfl
    have hz1:=x4 1 _ rfl
    have hz7:=x4 7 _ rfl
    obtain ⟨y0,hy0,s0,rfl,hs0⟩:=hz0
    obtain ⟨y1,hy1,s1',rfl,hs1⟩:=hz1
    obtain ⟨y7,hy7,s7,rfl,hs7⟩:=hz7
    have hxn:xn = false:=SlR.lt x1 (show 0 < exCl.length by decide)
    have w2b:Fz.le J2 Jb:=Fz.t w29 (Fz.t ja jb)
    have q0:=hs0.mono w2b
    have q1:=hs1.mono w2b
    obtain ⟨hs0n,hs0b,hs0e,hs0c,hs0L,hs0r,rfl,hs01,hs02,hs03,hs04⟩:=hs0
    obtain ⟨hs1n,hs1b,hs1e,hs1c,hs1L,hs1r,rfl,hs11,hs12,hs13,hs14⟩:=hs1
    obtain ⟨hs7n,hs7b,hs7e,hs7c,hs7L,hs7r,rfl,hs71,hs72,hs73,hs74⟩:=hs7
    conv=>whnf
    refine ⟨hxn,by decide,?_⟩;conv=>whnf
    refine ⟨_,w2b _ _ (x2 hxn),?_⟩;conv=>whnf
    refine ⟨_,hy0,?_⟩;conv=>whnf
    refine za0 17 (fun _=>.arr 56 2 ([(1,0),(2,0)].map enc) 2) rfl rfl rfl (fun _ _=>rfl) (fun _ _=>SB.bB_ok rfl) ?_
    intro b3 Jc jc hb3
    refine usePu (sameT Jc _ _ [(1,0),(2,0)] (q0.mono jc) (Sl.new (l:=[(1,0),(2,0)]) (cap:=2) (hb3 0 rfl)) (by decide)) rfl (zaa _) rfl ?_;conv=>whnf
    refine ⟨hxn,by decide,?_⟩;conv=>whnf
    refine ⟨_,jc _ _ (w2b _ _ (x2 hxn)),?_⟩;conv=>whnf
    refine ⟨_,hy1,?_⟩;conv=>whnf
    refine za0 18 (fun _=>.arr 56 2 ([(6,0)].map enc) 1) rfl rfl rfl (fun _ _=>rfl) (fun _ _=>SB.bB_ok rfl) ?_
    intro b4 Jd jd hb4
    refine usePu (sameT Jd _ _ [(6,0)] ((q1.mono jc).mono jd) (Sl.new (l:=[(6,0)]) (cap:=1) (hb4 0 rfl)) (by decide)) rfl (zaa _) rfl ?_;conv=>whnf
    refine ⟨hxn,by decide,?_⟩;conv=>whnf
    refine ⟨_,jd _ _ (jc _ _ (w2b _ _ (x2 hxn))),?_⟩;conv=>whnf
    refine ⟨_,hy7,?_⟩;conv=>whnf
    repeat
     refine gae (by decide) ?_;conv=>whnf
    refine ⟨fun _=>?_,fun g=>absurd g (by show ¬ (decide ((1:Int) = 1) = false); decide)⟩;conv=>whnf
    refine ⟨fun _=>?_,fun g=>absurd g (by show ¬ (decide ((2:Int) = 2) = false); decide)⟩;conv=>whnf
    repeat
     refine gae (by decide) ?_;conv=>whnf
    have w6d:Fz.le J9 Jd:=Fz.t ja (Fz.t jb (Fz.t jc jd))
    have mJ9:Fz.le J J9:=Fz.t j1 (Fz.t j2 w29)
    have mD:=(mJ.mono mJ9).mono w6d
    have rD:=(rJ.mono mJ9).mono w6d
    have hXd:=KpsAt.up hX9 w6d
    have hu1d:=w6d _ _ (j9 _ _ (j8 _ _ hu1))
    have hu3d:=w6d _ _ hu3
    refine useFo (k1 Jd mD rD _ u1 v1 u3 v3 hXd hu1d hu3d) rfl (zaa _) rfl ?_
    rintro _ Je je ⟨rfl,-⟩;conv=>whnf
    refine useFo (k2 Je (mD.mono je) (rD.mono je) _ u1 v1 u3 v3 (KpsAt.up hXd je) (je _ _ hu1d) (je _ _ hu3d)) rfl (zaa _) rfl ?_
    rintro _ Jf jf ⟨rfl,-⟩;conv=>whnf
    repeat
     refine gae (by decide) ?_;conv=>whnf
    have wdf:=Fz.t je jf
    refine usePu (s1 Jf _ _ (KpsAt.up hXd wdf) (KpsAt.up hD' (Fz.t jc (Fz.t jd wdf)))) rfl (zaa _) rfl ?_;conv=>whnf
    repeat
     refine gae (by decide) ?_;conv=>whnf
    have mJf:=Fz.t mJ9 (Fz.t w6d wdf)
    refine usePu (s2 Jf _ _ (KpsAt.up hA3 mJf) (KpsAt.up hB mJf)) rfl (zaa _) rfl ?_;conv=>whnf
    repeat
     refine gae (by decide) ?_;conv=>whnf
    refine useFo (vX Jf _ (KpsAt.up hXd wdf)) rfl (zaa _) rfl ?_
    rintro _ Jg jg ⟨rfl,-⟩;conv=>whnf
    repeat
     refine gae (by decide) ?_;conv=>whnf
    refine zh0 (args':=[.agg zC']) zSwap (fun n _=>z8p n) ?_
    refine useFo (v0 Jg) rfl (zaa _) rfl ?_
    rintro _ Jh jh ⟨rfl,-⟩;conv=>whnf
    have l6h:Fz.le F6 Jh:=Fz.t w1 (Fz.t w2 (Fz.t w3 (Fz.t mJf (Fz.t jg jh))))
    exact endFo (.ret (.va (.bool true))) Jh rfl (Fz.t q6 l6h) (Fz.r Jh) ⟨rfl,tv⟩ rfl rfl
theorem zcz:short ([]:List Kp):=fun x hx=>by simp at hx
theorem zi4 {F:Fz} {b c:Nat} {l:List (List UInt8)} (h:F b = some (.arr 9 1 (l.map encS) c)) (hl:l.length = 8):Sl F 9 1 encS (.slice false 0 b 0 1 8 c) l:=by
 have:=Sl.new (enc:=encS) (cap:=c) h
 rw [hl] at this
 exact this
theorem z6c:Ex cA cB (root8 (allB d1)) (root8 (allB d3)) (allB d1) (allB d3) (encC cX) where
 al:=rfl
 mkA:=z7k
 mkF:=z8h
 mkB:=z7x
 cX:=z5l
 cN:=z5p
 all1:=fun F b h=>zvo F b _ _ h doc1
 all3:=fun F b h=>zvo F b _ _ h doc3
 enc:=fun F sk hk=>zb5 (zwh F sk cX hk zhp (by show exCl.length < 1000000; decide)) fun o F' h=>by
  rcases h with ⟨h,_⟩ | ⟨_,h⟩
  ·exact absurd (h.symm.trans cX_ok) (by simp)
  ·exact h
 dec:=fun F=>by
  have ho:crtOk ⟨root8 valA,root8 valC,2,exCl⟩ = true:=by rw [← all1,← all3]; exact cX_ok
  have h:=zv3 F (encC cX) (root8 valA) (root8 valC) rdl ho rd1 rd2 rd3 rd4
  rw [← all1,← all3] at h
  exact h
 k1:=fun F hM hR sk b1 c1 b3 c3 hk h1 h3=>by
  have h:=zl5 F hM hR sk _ _ cX (allB d1) (allB d3) hk zhp (by show exCl.length < 1000000; decide) (zi4 h1 (zc3 _)) (zi4 h3 (zc3 _)) (zdd doc1) (zdd doc3)
  rw [chk1] at h
  exact zg9 (zb5 h fun o F' h=>⟨h,tv⟩)
 k2:=fun F hM hR sk b1 c1 b3 c3 hk h1 h3=>by
  have h:=zl5 F hM hR sk _ _ cX (allB d3) (allB d1) hk zhp (by show exCl.length < 1000000; decide) (zi4 h3 (zc3 _)) (zi4 h1 (zc3 _)) (zdd doc3) (zdd doc1)
  rw [chk2] at h
  exact zg9 (zb5 h fun o F' h=>⟨h,tv⟩)
 s1:=fun F s t hs ht=>by
  have h:=zq7 F s t cX cX hs ht zhp (by show exCl.length < 1000000; decide)
  rw [sameX] at h
  exact zg9 h
 s2:=fun F s t hs ht=>by
  have h:=zq7 F s t cA cB hs ht zmu zt9
  rw [z7z] at h
  exact zg9 h
 vX:=fun F s hs=>by
  have h:=zei F s cX hs zhp (by show exCl.length < 1000000; decide)
  rw [cX_ok] at h
  exact zg9 (zb5 h fun o F' h=>⟨h,tv⟩)
 v0:=fun F=>by
  have h:=zei F (.slice true 0 0 0 2 0 0) ⟨[],[],0,[]⟩ SlR.nil zcz (by show 0 < 1000000; decide)
  rw [show crtOk ⟨[],[],0,[]⟩ = false by decide] at h
  exact zg9 (zb5 h fun o F' h=>⟨h,tv⟩)
theorem zw9 (F0:Fz) (m0:MLF F0) (r0:RNDF F0):Fo Tryz.prog F0 12 [] (fun o F'=>o = .ret (.va (.bool true)) ∧ True):=
 zqg cA cB _ _ _ _ _ z6c F0 m0 r0
theorem z6n (F0:Fz) (m0:MLF F0) (r0:RNDF F0):Fo Tryz.prog F0 12 [] (fun o F'=>o = .ret (.va (.lit true)) ∧ True):=
 zg9 (zw9 F0 m0 r0)
theorem zck:Plain encN:=fun x=>⟨fun μ=>rfl,fun a ha=>by
 simp only [encN,qj,qq,or_false] at ha
 rcases ha with rfl | rfl<;>trivial⟩
theorem zuf (F:Fz) (nl:Bool) (bb be bc:Nat) (l:List DLn) (ha:Sl F 148 2 encN (.slice nl 0 bb be 2 l.length bc) l) (hl:l.length ≤ 1000) :
  Fo Tryz.prog F 86 [.va (.slice nl 0 bb be 2 l.length bc)] (fun o F'=>∃ q b c,o = .ret (.va (.slice q 0 b 0 2 l.length c)) ∧ Sl F' 148 2 encN (.slice q 0 b 0 2 l.length c) l ∧ l.length ≤ c):=by
 obtain ⟨bn,bb',be',bc',L,room,heq,hb1,hb2,hb3,hb4⟩:=ha
 cases heq
 rcases nl with _ | _
 ·have hblk:=hb2 rfl
  rcases l with _ | ⟨x,r⟩
  ·refine fo_of hΘ Tryz.func86 rfl (by decide) _ _ rfl rfl rfl ?_;conv=>whnf
   refine brd (by decide) ?_;conv=>whnf
   refine ⟨148,L,room,hblk,hb3,[],hb4,?_⟩;conv=>whnf
   refine ⟨rfl,rfl,rfl,by decide,fun c hc=>?_⟩
   clear hc;conv=>whnf
   refine zbl 2 (fun _=>.arr 148 2 [] c) rfl rfl rfl (fun _ _=>rfl) (fun _ _=>SB.bB_ok rfl) ?_
   intro b F' hle hb'
   exact endFo (.ret (.va (.slice false 0 (b 0) 0 2 0 c))) F' rfl hle (Fz.r F') ⟨_,_,_,rfl,Sl.new (l:=[]) (hb' 0 rfl),yq _⟩ ⟨rfl,rfl,rfl,.inr ⟨rfl,rfl,rfl,rfl⟩⟩ rfl
  ·replace hl:r.length + 1 ≤ 1000:=hl
   have hsz:(0 + ((x :: r).map encN).length) * 24 ≤ 140737488355328:=by rw [qb,qe]; omega
   refine fo_of hΘ Tryz.func86 rfl (by decide) _ _ rfl rfl rfl ?_;conv=>whnf
   refine brd (by decide) ?_;conv=>whnf
   refine ⟨148,L,room,hblk,hb3,(x :: r).map encN,hb4,?_⟩
   refine ⟨rfl,rfl,?_⟩
   refine ⟨rfl,hsz,fun c' hc=>?_⟩
   have hc2:=hc
   clear hc;conv=>whnf
   refine zbl 2 (fun _=>.arr 148 2 ((x :: r).map encN) c') rfl rfl rfl (fun _ _=>by exact zcu zck rfl _ _ _ _) (fun _ _=>zbk zck _ _ _ _ _) ?_
   intro b F' hle hb'
   exact endFo (.ret (.va (.slice false 0 (b 0) 0 2 (x :: r).length c'))) F' rfl hle (Fz.r F') ⟨_,_,_,rfl,Sl.new (l:=x :: r) (hb' 0 rfl),by simpa using hc2⟩ ⟨rfl,(by first | rfl | (rw [qb]; omega)),(by first | rfl | (rw [qb]; omega)),.inr ⟨rfl,rfl,rfl,rfl⟩⟩ rfl
 ·have hl0:=hb1 rfl
  subst hl0
  refine fo_of hΘ Tryz.func86 rfl (by decide) _ _ rfl rfl rfl ?_;conv=>whnf
  refine bre (by decide) ?_;conv=>whnf
  exact endFo (.ret (.va (.slice true 0 0 0 2 0 0))) F rfl (Fz.r F) (Fz.r F) ⟨_,_,_,rfl,Sl.nil,qf _⟩ ⟨rfl,rfl,rfl⟩ rfl
theorem zt6 (F:Fz) (nl:Bool) (bb be bc:Nat) (l:List Cel) (ha:Sl F 151 6 encK (.slice nl 0 bb be 6 l.length bc) l) (hl:l.length ≤ 1000) :
  Fo Tryz.prog F 87 [.va (.slice nl 0 bb be 6 l.length bc)] (fun o F'=>∃ q b c,o = .ret (.va (.slice q 0 b 0 6 l.length c)) ∧ Sl F' 151 6 encK (.slice q 0 b 0 6 l.length c) l ∧ l.length ≤ c):=by
 obtain ⟨bn,bb',be',bc',L,room,heq,hb1,hb2,hb3,hb4⟩:=ha
 cases heq
 rcases nl with _ | _
 ·have hblk:=hb2 rfl
  rcases l with _ | ⟨x,r⟩
  ·refine fo_of hΘ Tryz.func87 rfl (by decide) _ _ rfl rfl rfl ?_;conv=>whnf
   refine brd (by decide) ?_;conv=>whnf
   refine ⟨151,L,room,hblk,hb3,[],hb4,?_⟩;conv=>whnf
   refine ⟨rfl,rfl,rfl,by decide,fun c hc=>?_⟩
   clear hc;conv=>whnf
   refine zbl 2 (fun _=>.arr 151 6 [] c) rfl rfl rfl (fun _ _=>rfl) (fun _ _=>SB.bB_ok rfl) ?_
   intro b F' hle hb'
   exact endFo (.ret (.va (.slice false 0 (b 0) 0 6 0 c))) F' rfl hle (Fz.r F') ⟨_,_,_,rfl,Sl.new (l:=[]) (hb' 0 rfl),yq _⟩ ⟨rfl,rfl,rfl,.inr ⟨rfl,rfl,rfl,rfl⟩⟩ rfl
  ·replace hl:r.length + 1 ≤ 1000:=hl
   have hsz:(0 + ((x :: r).map encK).length) * 48 ≤ 140737488355328:=by rw [qb,qe]; omega
   refine fo_of hΘ Tryz.func87 rfl (by decide) _ _ rfl rfl rfl ?_;conv=>whnf
   refine brd (by decide) ?_;conv=>whnf
   refine ⟨151,L,room,hblk,hb3,(x :: r).map encK,hb4,?_⟩
   refine ⟨rfl,rfl,?_⟩
   refine ⟨rfl,hsz,fun c' hc=>?_⟩
   have hc2:=hc
   clear hc;conv=>whnf
   refine zbl 2 (fun _=>.arr 151 6 ((x :: r).map encK) c') rfl rfl rfl (fun _ _=>by exact zcu zat rfl _ _ _ _) (fun _ _=>zbk zat _ _ _ _ _) ?_
   intro b F' hle hb'
   exact endFo (.ret (.va (.slice false 0 (b 0) 0 6 (x :: r).length c'))) F' rfl hle (Fz.r F') ⟨_,_,_,rfl,Sl.new (l:=x :: r) (hb' 0 rfl),by simpa using hc2⟩ ⟨rfl,(by first | rfl | (rw [qb]; omega)),(by first | rfl | (rw [qb]; omega)),.inr ⟨rfl,rfl,rfl,rfl⟩⟩ rfl
 ·have hl0:=hb1 rfl
  subst hl0
  refine fo_of hΘ Tryz.func87 rfl (by decide) _ _ rfl rfl rfl ?_;conv=>whnf
  refine bre (by decide) ?_;conv=>whnf
  exact endFo (.ret (.va (.slice true 0 0 0 6 0 0))) F rfl (Fz.r F) (Fz.r F) ⟨_,_,_,rfl,Sl.nil,qf _⟩ ⟨rfl,rfl,rfl⟩ rfl
theorem zhe (F:Fz) (g:FuncId) (a1 b1:SA) (w1:Int) (s1:List UInt8) (a b sk:SA) (w:Int) (s:List UInt8) (m:Mig) (p:Int) (hk:KpsAt F sk m.keep) (hs:short m.keep) (hl:m.keep.length < 1000000) (h0:zb0 p m.keep = []) (ha:a.z = true) (hb:b.z = true) :
  Ct Tryz.prog 88 [.agg (migS m sk),.agg (docS a1 b1 w1 s1),.va (.int .i64 p),.va (.fn (.func g) [⟨1,0,0,0,0⟩])] F [(1,docE a b w s)] 2 (fun o F0 h0 n0=>n0 = 2 ∧ o = .ret (.tup []) ∧ h0 = [(1,docE a b w s)]):=by
 have hst:=zkb F sk m p hk hs hl
 rw [h0] at hst
 obtain ⟨id,src,dst,back,ks⟩:=m
 obtain ⟨kn,kb,ke,kc,kL,kr,rfl,k1,k2,k3,k4⟩:=hk
 have hbel:(docE a b w s).below 2:=zb8 (SA.below_mono (nb rfl) (SA.z_below ha)) (SA.below_mono (nb rfl) (SA.z_below hb))
 have hren:subE (some (docE a b w s)) ((docE a b w s).ren (sig [])):=by rw [zpt]; exact rfl
 refine ct_of hΘ Tryz.func88 rfl (by decide) _ _ rfl rfl rfl ?_;conv=>whnf
 refine useFo hst rfl (zaa _) rfl ?_
 rintro _ F1 l1 ⟨sb,rfl,hb1⟩
 obtain ⟨hb1n,hb1b,hb1e,hb1c,hb1L,hb1r,rfl,hb11,hb12,hb13,hb14⟩:=hb1
 conv=>whnf
 refine bre (by decide) ?_;conv=>whnf
 exact clean [] (.ret (.tup [])) F1 [(1,docE a b w s)] 2 ⟨l1,rfl,rfl,rfl⟩ trivial rfl rfl (Out.bB_ok (o:=.ret (.tup [])) rfl) ⟨hbel,tv⟩ ⟨Fz.r F1,hren,tv⟩
theorem zwz (F:Fz) (a1 b1:SA) (d:Dc) (id src dst:Int) (back:Bool) (hd:DocAt F a1 b1 d) (hd1:DcSmall d) (hok:docOk d = true) (hm:migOk ⟨id,src,dst,back,[]⟩ = true) :
  Fo Tryz.prog F 38 [.agg (migS ⟨id,src,dst,back,[]⟩ (.slice true 0 0 0 2 0 0)),.agg (docS a1 b1 d.w d.bits)] (fun o F'=>∃ a b,o = .ret (.tup [.agg (docS a b d.w d.bits),.va (.int .i64 0)]) ∧ DocAt F' a b d):=by
 have hv:=zjq F (.slice true 0 0 0 2 0 0) ⟨id,src,dst,back,[]⟩ SlR.nil zcz (by show 0 < 1000000; decide)
 rw [hm] at hv
 obtain ⟨L,K,w,s⟩:=d
 obtain ⟨an,ab,ae,ac,bn,bb,be,bc,rfl,rfl,hL,hK,hcap⟩:=hd
 have hdv:=fun F1 (l1:Fz.le F F1)=>zcr F1 _ _ ⟨L,K,w,s⟩ (hL.mono l1) (hK.mono l1) hd1.l hd1.c hd1.b
 rw [hok] at hdv
 have hcl:=fun F1 (l1:Fz.le F F1)=>zuf F1 an ab ae ac L (hL.mono l1) hd1.l
 have hck:=fun F1 (l1:Fz.le F F1)=>zt6 F1 bn bb be bc K (hK.mono l1) hd1.c
 have hbl:∀ (g:FuncId) (a1 b1:SA) (p:Int) (sk:SA),a1.z = true → b1.z = true → sk.z = true → ∀ t ∈ [SV.agg (migS ⟨id,src,dst,back,[]⟩ sk),.agg (docS a1 b1 w s),.va (.int .i64 p),.va (.fn (.func g) [⟨1,0,0,0,0⟩])],SV.below 2 t:=by
  intro g a1 b1 p sk h1 h2 h3 t ht
  have g1:=SA.below_mono (show 1 ≤ 2 by decide) (SA.z_below h1)
  have g2:=SA.below_mono (show 1 ≤ 2 by decide) (SA.z_below h2)
  have g3:=SA.below_mono (show 1 ≤ 2 by decide) (SA.z_below h3)
  simp only [qj,qq,or_false] at ht
  rcases ht with rfl | rfl | rfl | rfl
  ·intro a ha
   simp only [qj,qq,or_false] at ha
   rcases ha with rfl | rfl | rfl | rfl | rfl
   ·trivial
   ·trivial
   ·trivial
   ·trivial
   ·exact g3
  ·intro a ha
   simp only [qj,qq,or_false] at ha
   rcases ha with rfl | rfl | rfl | rfl
   ·exact g1
   ·exact g2
   ·trivial
   ·trivial
  ·trivial
  ·intro p hp
   simp only [qy] at hp
   subst hp; decide
 refine fo_of hΘ Tryz.func38 rfl (by decide) _ _ rfl rfl rfl ?_;conv=>whnf
 refine useFo hv rfl (zaa _) rfl ?_
 rintro _ F1 l1 rfl;conv=>whnf
 refine gae (by decide) ?_;conv=>whnf
 refine usePu (hdv F1 l1) rfl (zaa _) rfl ?_;conv=>whnf
 refine brd (by decide) ?_;conv=>whnf
 refine drawP hΘ mixed (lk [0,1,3,4] (.alt 2 (.alt 5 (.look 6 (.alt 7 (.look 8 (.last 9 .done)) .nil)) .nil) .nil)) [2] (by kernel_rfl) ?_;conv=>whnf
 refine ⟨rfl,?_⟩;conv=>whnf
 refine ⟨rfl,?_⟩;conv=>whnf
 refine useFo (hcl F1 l1) rfl (zaa _) rfl ?_
 rintro _ F2 l2 ⟨q1,x1,y1,rfl,hL1,hy1⟩;conv=>whnf
 refine ⟨l2,rfl,?_⟩;conv=>whnf
 refine useFo (hck F2 (Fz.t l1 l2)) rfl (zaa _) rfl ?_
 rintro _ F3 l3 ⟨q2,x2,y2,rfl,hK1,hy2⟩;conv=>whnf
 refine ⟨l3,rfl,?_⟩;conv=>whnf
 refine ⟨Fz.r F3,rfl,?_⟩;conv=>whnf
 refine use (zhe F3 89 (.slice an 0 ab ae 2 L.length ac) (.slice bn 0 bb be 6 K.length bc) w s (.slice q1 0 x1 0 2 L.length y1) (.slice q2 0 x2 0 6 K.length y2) (.slice true 0 0 0 2 0 0) w s ⟨id,src,dst,back,[]⟩ 1 SlR.nil zcz (by show 0 < 1000000; decide) rfl rfl rfl) [(1,5)] rfl ⟨rfl,rfl,rfl,rfl,tv⟩ rfl ⟨zb8 (.inr (by decide)) (.inr (by decide)),tv⟩ (hbl _ _ _ _ _ rfl rfl rfl) ⟨rfl,tv⟩ ?_
 rintro out0 F4 h0 n0 lF4 ⟨rfl,rfl,rfl⟩;conv=>whnf
 refine use (zhe F4 92 (.slice an 0 ab ae 2 L.length ac) (.slice bn 0 bb be 6 K.length bc) w s (.slice q1 0 x1 0 2 L.length y1) (.slice q2 0 x2 0 6 K.length y2) (.slice true 0 0 0 2 0 0) w s ⟨id,src,dst,back,[]⟩ 2 SlR.nil zcz (by show 0 < 1000000; decide) rfl rfl rfl) [(1,5)] rfl ⟨rfl,rfl,rfl,rfl,tv⟩ rfl ⟨zb8 (.inr (by decide)) (.inr (by decide)),tv⟩ (hbl _ _ _ _ _ rfl rfl rfl) ⟨rfl,tv⟩ ?_
 rintro out0 F5 h0 n0 lF5 ⟨rfl,rfl,rfl⟩;conv=>whnf
 refine use (zhe F5 93 (.slice an 0 ab ae 2 L.length ac) (.slice bn 0 bb be 6 K.length bc) w s (.slice q1 0 x1 0 2 L.length y1) (.slice q2 0 x2 0 6 K.length y2) (.slice true 0 0 0 2 0 0) w s ⟨id,src,dst,back,[]⟩ 3 SlR.nil zcz (by show 0 < 1000000; decide) rfl rfl rfl) [(1,5)] rfl ⟨rfl,rfl,rfl,rfl,tv⟩ rfl ⟨zb8 (.inr (by decide)) (.inr (by decide)),tv⟩ (hbl _ _ _ _ _ rfl rfl rfl) ⟨rfl,tv⟩ ?_
 rintro out0 F6 h0 n0 lF6 ⟨rfl,rfl,rfl⟩;conv=>whnf
 refine useFo (zry F6 _ ⟨id,src,dst,back,[]⟩ 4 SlR.nil zcz (by show 0 < 1000000; decide)) rfl (zaa _) rfl ?_
 rintro _ F7 l7 rfl;conv=>whnf
 refine ⟨fun g=>absurd g (by simp [zb0]),fun _=>?_⟩;conv=>whnf
 refine use (zhe F7 96 (.slice an 0 ab ae 2 L.length ac) (.slice bn 0 bb be 6 K.length bc) w s (.slice q1 0 x1 0 2 L.length y1) (.slice q2 0 x2 0 6 K.length y2) (.slice true 0 0 0 2 0 0) w s ⟨id,src,dst,back,[]⟩ 7 SlR.nil zcz (by show 0 < 1000000; decide) rfl rfl rfl) [(1,5)] rfl ⟨rfl,rfl,rfl,rfl,tv⟩ rfl ⟨zb8 (.inr (by decide)) (.inr (by decide)),tv⟩ (hbl _ _ _ _ _ rfl rfl rfl) ⟨rfl,tv⟩ ?_
 rintro out0 F8 h0 n0 lF8 ⟨rfl,rfl,rfl⟩;conv=>whnf
 have m3:=Fz.t l1 (Fz.t l2 l3)
 have m38:=Fz.t lF4 (Fz.t lF5 (Fz.t lF6 (Fz.t l7 lF8)))
 have hL8:=hL1.mono (Fz.t l3 m38)
 have hK8:=hK1.mono m38
 exact endFo (.ret (.tup [.agg (docS (.slice q1 0 x1 0 2 L.length y1) (.slice q2 0 x2 0 6 K.length y2) w s),.va (.int .i64 0)])) F8 rfl (Fz.t m3 m38) (Fz.r F8) ⟨_,_,rfl,q1,x1,0,y1,q2,x2,0,y2,rfl,rfl,hL8,hK8,hy2⟩ (zaj _) rfl
theorem zym (F:Fz) (id src dst:Int) (hm:migOk ⟨id,src,dst,true,[]⟩ = true) :
  Fo Tryz.prog F 43 [.agg (migS ⟨id,src,dst,true,[]⟩ (.slice true 0 0 0 2 0 0))] (fun o F'=>o = .ret (.tup [.agg (migS ⟨id,dst,src,true,[]⟩ .nilsl),.va (.int .i64 0)])):=by
 have hv:=zjq F (.slice true 0 0 0 2 0 0) ⟨id,src,dst,true,[]⟩ SlR.nil zcz (by show 0 < 1000000; decide)
 rw [hm] at hv
 refine fo_of hΘ Tryz.func43 rfl (by decide) _ _ rfl rfl rfl ?_;conv=>whnf
 refine useFo hv rfl (zaa _) rfl ?_
 rintro _ F1 l1 rfl;conv=>whnf
 refine gae (by decide) ?_;conv=>whnf
 exact endFo (.ret (.tup [.agg (migS ⟨id,dst,src,true,[]⟩ .nilsl),.va (.int .i64 0)])) F1 rfl l1 (Fz.r F1) rfl (zaj _) rfl
theorem zth:(Tryz.prog.fieldsOf 148).toList = [⟨"Text", 9,0,false, "", "", 0⟩,⟨"Mark", 3,1,false, "", "", 16⟩]:=by kernel_rfl
theorem zsy:(Tryz.prog.fieldsOf 151).toList = [⟨"Row", 3,0,false, "", "", 0⟩,⟨"Col", 3,1,false, "", "", 8⟩,⟨"Sum", 4,2,false, "", "", 16⟩,⟨"Value", 3,3,false, "", "", 24⟩,⟨"Top", 3,4,false, "", "", 32⟩,⟨"Left", 3,5,false, "", "", 40⟩]:=by kernel_rfl
theorem z6j (x:DLn):AggEq Tryz.prog 148 (encN x) (encN x) true:=by
 unfold AggEq
 intro ρ w op u v
 refine ⟨run_eqGuard_agg _ _ _ _ _ _ _ Tryz.eqGuardType148,?_⟩
 have h1:=run_equalIn_agg (P:=Tryz.prog) w (9998 + 1) 148 #[.string ⟨x.1.toArray⟩,.int .i64 x.2] #[.string ⟨x.1.toArray⟩,.int .i64 x.2] (by kernel_rfl) Tryz.stoodInHeld148
 have h2:(Op.eqFields (9998 + 1) #[Value.string ⟨x.1.toArray⟩,.int .i64 x.2] #[Value.string ⟨x.1.toArray⟩,.int .i64 x.2] (Tryz.prog.fieldsOf 148).toList).run Tryz.prog w = .ok true w:=by
  rw [zth]
  have p1:∀ (u v:Int),(Op.equalIn (9998 + 1) 3 (.int .i64 u) (.int .i64 v)).run Tryz.prog w = .ok (u == v) w:=fun u v=>run_equalIn_int w 9998 3 .i64 .i64 u v Tryz.underlying3
  have p2:∀ (u v:ByteArray),(Op.equalIn (9998 + 1) 9 (.string u) (.string v)).run Tryz.prog w = .ok (u.toList == v.toList) w:=fun u v=>run_equalIn_string w 9998 9 u v Tryz.underlying9
  have q:(isAgg 3).run Tryz.prog w = .ok false w:=Tryz.isAgg3 w
  have q2:(isAgg 9).run Tryz.prog w = .ok false w:=Tryz.isAgg9 w
  simp [Op.eqFields,part,q,q2,p1,p2]
 exact h1.trans h2
theorem z4z (x:Cel):AggEq Tryz.prog 151 (encK x) (encK x) true:=by
 unfold AggEq
 intro ρ w op u v
 refine ⟨run_eqGuard_agg _ _ _ _ _ _ _ Tryz.eqGuardType151,?_⟩
 have h1:=run_equalIn_agg (P:=Tryz.prog) w (9998 + 1) 151 #[.int .i64 x.row,.int .i64 x.col,.bool x.sum,.int .i64 x.value,.int .i64 x.top,.int .i64 x.left] #[.int .i64 x.row,.int .i64 x.col,.bool x.sum,.int .i64 x.value,.int .i64 x.top,.int .i64 x.left] (by kernel_rfl) Tryz.stoodInHeld151
 have h2:(Op.eqFields (9998 + 1) #[Value.int .i64 x.row,.int .i64 x.col,.bool x.sum,.int .i64 x.value,.int .i64 x.top,.int .i64 x.left] #[Value.int .i64 x.row,.int .i64 x.col,.bool x.sum,.int .i64 x.value,.int .i64 x.top,.int .i64 x.left] (Tryz.prog.fieldsOf 151).toList).run Tryz.prog w = .ok true w:=by
  rw [zsy]
  have p1:∀ (u v:Int),(Op.equalIn (9998 + 1) 3 (.int .i64 u) (.int .i64 v)).run Tryz.prog w = .ok (u == v) w:=fun u v=>run_equalIn_int w 9998 3 .i64 .i64 u v Tryz.underlying3
  have p2:∀ (u v:Bool),(Op.equalIn (9998 + 1) 4 (.bool u) (.bool v)).run Tryz.prog w = .ok (u == v) w:=fun u v=>run_equalIn_bool w 9998 4 u v Tryz.underlying4
  have q:(isAgg 3).run Tryz.prog w = .ok false w:=Tryz.isAgg3 w
  have q2:(isAgg 4).run Tryz.prog w = .ok false w:=Tryz.isAgg4 w
  simp [Op.eqFields,part,q,q2,p1,p2]
 exact h1.trans h2
theorem z5g (F:Fz) (sa sb:SA) (l:List DLn) (ha:Sl F 148 2 encN sa l) (hb:Sl F 148 2 encN sb l) (hl:l.length < 1000000) :
  Fo Tryz.prog F 101 [.va sa,.va sb] (fun o F'=>o = .ret (.va (.bool true)) ∧ F' = F):=by
 obtain ⟨han,hab,hae,hac,haL,har,rfl,ha1,ha2,ha3,ha4⟩:=ha
 obtain ⟨hbn,hbb,hbe,hbc,hbL,hbr,rfl,hb1,hb2,hb3,hb4⟩:=hb
 refine fo_of hΘ Tryz.func101 rfl (by decide) _ _ rfl rfl rfl ?_;conv=>whnf
 refine brd (by simp) ?_;conv=>whnf
 refine zan hΘ (X:={ k:Nat // k ≤ l.length }) (fun k=>[(13,.va (.int .i64 k.1))]) [4,5,14,15,16,17,18,19,20,21,22,23,24,25] (fz fun _=>F) 1 (fun k=>l.length - k.1) ⟨0,by simp⟩
  (fun hH hT=>le0 hH hT rfl (Fz.r F) rfl ⟨rfl,tv⟩) ?_
 rintro ⟨k,hk⟩ hH hT
 by_cases g:k < l.length
 ·have gi:(k:Int) < (l.length:Int):=by omega
  have hdec:l.length - (k + 1) < l.length - k:=by omega
  have hk62:k < 4611686018427387904:=by omega
  have hna:=Sl.lt ha1 g
  have hnb:=Sl.lt hb1 g
  have hea:=Sl.at ha4 g
  have heb:=Sl.at hb4 g
  conv=>whnf
  refine bri gi ?_;conv=>whnf
  refine drawP hΘ mixed (lk [0,1,2,3,4,5,6,7,8] .done) [] (by kernel_rfl) ?_;conv=>whnf
  refine ⟨hna,⟨by simp,gi⟩,?_⟩;conv=>whnf
  refine ⟨rfl,?_⟩;conv=>whnf
  refine ⟨_,ha2 hna,?_⟩;conv=>whnf
  refine ⟨_,hea,?_⟩;conv=>whnf
  refine ⟨hnb,⟨by simp,gi⟩,?_⟩;conv=>whnf
  refine ⟨rfl,?_⟩;conv=>whnf
  refine ⟨_,hb2 hnb,?_⟩;conv=>whnf
  refine ⟨_,heb,?_⟩;conv=>whnf
  refine ⟨_,z6j _,?_⟩;conv=>whnf
  refine brd (by decide) ?_;conv=>whnf
  exact ⟨⟨k + 1,g⟩,hdec,lr0 hH hT rfl (Fz.r F) rfl ⟨cnt hk62,tv⟩⟩
 ·have gi:¬ (k:Int) < (l.length:Int):=by omega
  conv=>whnf
  refine brj gi ?_;conv=>whnf
  exact endPu rfl (Fz.r F) rfl rfl
theorem z4m (F:Fz) (sa sb:SA) (l:List Cel) (ha:Sl F 151 6 encK sa l) (hb:Sl F 151 6 encK sb l) (hl:l.length < 1000000) :
  Fo Tryz.prog F 102 [.va sa,.va sb] (fun o F'=>o = .ret (.va (.bool true)) ∧ F' = F):=by
 obtain ⟨han,hab,hae,hac,haL,har,rfl,ha1,ha2,ha3,ha4⟩:=ha
 obtain ⟨hbn,hbb,hbe,hbc,hbL,hbr,rfl,hb1,hb2,hb3,hb4⟩:=hb
 refine fo_of hΘ Tryz.func102 rfl (by decide) _ _ rfl rfl rfl ?_;conv=>whnf
 refine brd (by simp) ?_;conv=>whnf
 refine zan hΘ (X:={ k:Nat // k ≤ l.length }) (fun k=>[(13,.va (.int .i64 k.1))]) [4,5,14,15,16,17,18,19,20,21,22,23,24,25] (fz fun _=>F) 1 (fun k=>l.length - k.1) ⟨0,by simp⟩
  (fun hH hT=>le0 hH hT rfl (Fz.r F) rfl ⟨rfl,tv⟩) ?_
 rintro ⟨k,hk⟩ hH hT
 by_cases g:k < l.length
 ·have gi:(k:Int) < (l.length:Int):=by omega
  have hdec:l.length - (k + 1) < l.length - k:=by omega
  have hk62:k < 4611686018427387904:=by omega
  have hna:=Sl.lt ha1 g
  have hnb:=Sl.lt hb1 g
  have hea:=Sl.at ha4 g
  have heb:=Sl.at hb4 g
  conv=>whnf
  refine bri gi ?_;conv=>whnf
  refine drawP hΘ mixed (lk [0,1,2,3,4,5,6,7,8] .done) [] (by kernel_rfl) ?_;conv=>whnf
  refine ⟨hna,⟨by simp,gi⟩,?_⟩;conv=>whnf
  refine ⟨rfl,?_⟩;conv=>whnf
  refine ⟨_,ha2 hna,?_⟩;conv=>whnf
  refine ⟨_,hea,?_⟩;conv=>whnf
  refine ⟨hnb,⟨by simp,gi⟩,?_⟩;conv=>whnf
  refine ⟨rfl,?_⟩;conv=>whnf
  refine ⟨_,hb2 hnb,?_⟩;conv=>whnf
  refine ⟨_,heb,?_⟩;conv=>whnf
  refine ⟨_,z4z _,?_⟩;conv=>whnf
  refine brd (by decide) ?_;conv=>whnf
  exact ⟨⟨k + 1,g⟩,hdec,lr0 hH hT rfl (Fz.r F) rfl ⟨cnt hk62,tv⟩⟩
 ·have gi:¬ (k:Int) < (l.length:Int):=by omega
  conv=>whnf
  refine brj gi ?_;conv=>whnf
  exact endPu rfl (Fz.r F) rfl rfl
theorem zs4 (F:Fz) (a b a' b':SA) (d:Dc) (h:DocAt F a b d) (h':DocAt F a' b' d) (hs:DcSmall d) :
  Fo Tryz.prog F 44 [.agg (docS a b d.w d.bits),.agg (docS a' b' d.w d.bits)] (fun o F'=>o = .ret (.va (.bool true)) ∧ F' = F):=by
 obtain ⟨L,K,w,s⟩:=d
 obtain ⟨an,ab,ae,ac,bn,bb,be,bc,rfl,rfl,hL,hK,hcap⟩:=h
 obtain ⟨an',ab',ae',ac',bn',bb',be',bc',rfl,rfl,hL',hK',hcap'⟩:=h'
 have e1:=z5g F _ _ L hL hL' (yg hs.l (by decide))
 have e2:=z4m F _ _ K hK hK' (yg hs.c (by decide))
 refine fo_of hΘ Tryz.func44 rfl (by decide) _ _ rfl rfl rfl ?_;conv=>whnf
 refine usePu e1 rfl (zaa _) rfl ?_;conv=>whnf
 refine gae (by decide) ?_;conv=>whnf
 refine usePu e2 rfl (zaa _) rfl ?_;conv=>whnf
 refine gae (by decide) ?_;conv=>whnf
 refine gae (by simp) ?_;conv=>whnf
 exact endPu rfl (Fz.r F) (ob (by simp)) rfl
theorem zc1 (c n:Int) (hc:i64 c) (hn:0 < n):Pu Tryz.prog 105 [.va (.int .i64 c),.va (.int .i64 n)] (.va (.int .i64 (pickI c n))):=by
 intro F
 unfold i64 at hc
 refine fo_of hΘ Tryz.func105 rfl (by decide) _ _ rfl rfl rfl ?_;conv=>whnf
 refine br (fun g=>?_) (fun g=>?_)
 ·conv=>whnf
  refine ⟨by omega,?_⟩;conv=>whnf
  refine endPu rfl (Fz.r F) (oi ?_) rfl
  simp at g
  rw [zal (n:=c + 1) (by omega) (by omega),zal (n:=0 - (c + 1)) (by omega) (by omega),pickI,if_pos g]
  congr 1; omega
 ·conv=>whnf
  refine ⟨by omega,?_⟩;conv=>whnf
  refine endPu rfl (Fz.r F) (oi ?_) rfl
  simp at g
  rw [pickI,if_neg (by omega)]
end Go.Proofs.YtfnkamphhpldcaaGreatDoor
