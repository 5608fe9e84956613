import Derived.Test.YtfnkamphhpldcaaGreatDoorK39
set_option maxHeartbeats 64000000
namespace Go.Proofs.YtfnkamphhpldcaaGreatDoor
open Go Sx
set_option maxRecDepth 100000
theorem zc2{μ:Mu}{i j c n:Nat}{L:List RLn}{x:RLn}{w h:Int}{bits:List UInt8}(a:μ i 0=(j,0))(b:n=L.length+1):SB.cells 110 [.lit false,.slice false j 0 0 5 n c,.int .i64 w,.int .i64 h,.str bits]=SB.ren μ (.cells 110 [.lit false,gA 5 i c (L++[x]),.int .i64 w,.int .i64 h,.str bits]):=by
 subst b;cases L with
 |nil=>simp only[gA,qv,SB.ren,jm,yu,SA.ren,a,qu]
 |cons y r=>simp only[gA,jt,SB.ren,jm,yu,SA.ren,a,qd,qj,qu]
theorem zxg(F:Fz)(s:List UInt8)(hs:s.length<=1000000000000000000)(ad:¬s=[]):Fo Tryz.prog F 54 [.va (.int .i64 2),.va (.str s)] (zf1 2 s):=by
 have aj:inR 2 1 8=true:=by decide
 have hw:=zce aj F;have z0:i64 0:=⟨by omega,by omega⟩
 have m1:=zbi F s 0 false hs z0;have i1:=zbv (b:=false) hs z0;have am:∃x a b,rdNum s 0 false=(x,a,b):=⟨_,_,_,rfl⟩
 obtain⟨n,Q,b0,e1⟩:=am;rw[e1]at m1 i1;replace i1:i64 Q:=i1;have d:=zez 2 F;rw[show((colN 2:Nat):Int)=1 by decide]at d;have aa:∃c,inR n 0 64=c:=⟨_,rfl⟩
 obtain⟨W,A⟩:=aa;have w1:=zce A F
 have hR:readR 2 s=if b0=true\/W=false then none else match zbh 2 s n.toNat [] Q with
   |none=>none
   |some (l,q)=>if q=s.length then some ⟨false,l,0,0,[]⟩else none:=by
  rw[readR,if_neg (by decide),if_neg ad,if_neg (by decide),e1];dsimp only;rw[A];rfl
 have G:b0=true->readR 2 s=none:=fun h=>by rw[hR,if_pos (.inl h)]
 have m:W=false->readR 2 s=none:=fun h=>by rw[hR,if_pos (.inr h)]
 have u:b0=false->W=true->readR 2 s=match zbh 2 s n.toNat [] Q with
   |none=>none
   |some (l,q)=>if q=s.length then some ⟨false,l,0,0,[]⟩else none:=fun h1 h2=>by
  rw[hR,if_neg (by rintro(h | h);rw[h1]at h;cases h;rw[h2]at h;cases h)]
 have K:W=true->0<=n/\n<=64:=fun h=>zbg.1 (A.trans h)
 clear hR e1 A;refine foS Tryz.func54 ?_;refine usePt hw ?_;refine br (fun g=>absurd (by simpa using g) ad) (fun _=>?_);refine brd (by decide) ?_;refine useS m1 [(1,2)] ⟨zam _ _ _,tv⟩ ⟨rfl,tv⟩ ?_;rintro i F1 h0 n0 j ⟨rfl,rfl,rfl,rfl⟩;conv=>whnf
 rcases b0 with _ | _
 case true=>
  have e:=G rfl;exact zbm e rfl (Fz.r F)
 refine usePt w1 ?_;rcases W with _ | _
 ·have e:=m rfl;exact zbm e rfl (Fz.r F)
 have ac:=K rfl;have B:=u rfl rfl;clear G m u K;have an:((n.toNat:Nat):Int)=n:=yx ac.1
 conv=>whnf
 refine zak hΘ (X:={ y:Nat×List RLn×Nat×Int // (y.1:Int)<=n/\y.2.1.length=y.1/\zbh 2 s n.toNat [] Q=zbh 2 s (n.toNat - y.1) y.2.1 y.2.2.2/\i64 y.2.2.2/\y.2.1.length<=y.2.2.1 }) (fun y=>[(10,.va (.int .i64 y.1.1))]) (5::11::12::13::jr 131 42 [])
  (fun y=>[(0,.frz F),(1,rvalE ⟨false,[],0,0,[]⟩ 0 0),(2,rrd s y.1.2.2.2 false),(3,rvalE ⟨false,y.1.2.1,0,0,[]⟩ 4 y.1.2.2.1),(4,gE 191 5 encL y.1.2.2.1 y.1.2.1)]) 5 (fun y=>n.toNat - y.1.1) ⟨(0,[],0,Q),⟨ac.1,rfl,rfl,i1,qi 0⟩⟩
  (fun hH hT=>leI [(4,4)] hH hT rfl ⟨tv,zai (by omega) _,zam _ _ _,zai (by omega) _,zab zaf _ _ _ _ _,tv⟩ ⟨rfl,tv⟩ ⟨Fz.r F,rfl,rfl,rfl,rfl,tv⟩) ?_
 rintro⟨⟨k,L,c,q⟩,hk,hL,f,hq,R⟩ hH hT;replace R:L.length<=c:=R;replace hk:(k:Int)<=n:=hk;replace hL:L.length=k:=hL;replace f:zbh 2 s n.toNat [] Q=zbh 2 s (n.toNat - k) L q:=f;replace hq:i64 q:=hq;rw[f]at B;by_cases gk:(k:Int) < n
 ·have ah:n.toNat - k=(n.toNat - (k+1))+1:=by omega
  have ab:((k+1:Nat):Int)<=n:=by omega
  have I:n.toNat - (k+1) < n.toNat - k:=by omega
  have J:k < 4611686018427387904:=by omega
  have S:L.length < 1000000:=by omega
  have ai:=hq;have T:=zbi F s q false hs ai;have ae:=zbv (b:=false) hs ai;have o:∃x a b,rdNum s q false=(x,a,b):=⟨_,_,_,rfl⟩
  obtain⟨n0,q',V,o⟩:=o;rw[o]at T ae;have ag:rdL 2 s q=(([],n0,0,0,0),q',V):=by rw[rdL,if_neg (by decide),if_pos rfl,o]
  have af:i64 q':=ae;clear o;rw[ah,zbh,ag]at B f;dsimp only at B f;have M:V=true->readR 2 s=none:=fun h=>by rw[B,if_pos (.inl h)]
  have O:fitsR 2 L ([],n0,0,0,0)=false->readR 2 s=none:=fun h=>by rw[B,if_pos (.inr h)]
  have Z:V=false->fitsR 2 L ([],n0,0,0,0)=true->zbh 2 s n.toNat [] Q=zbh 2 s (n.toNat - (k+1)) (L++[([],n0,0,0,0)]) q':=fun h1 h2=>by
   rw[f,if_neg (by rintro(h | h);rw[h1]at h;cases h;rw[h2]at h;cases h)]
  clear B f ag;have Y:(L++[([],n0,0,0,0)]).length=k+1:=by rw[qd,jv,hL]
  rcases L with _ | ⟨U,w⟩
  ·have hf:=zg8 F 2 [] c ([],n0,0,0,0) (by show 0 < 1000000;omega) S (by decide);refine bri gk ?_;refine brd (by decide) ?_;conv=>whnf
   refine zbx hΘ 1 ?_;refine usePt d ?_;refine bre (by decide) ?_;refine useS T [(1,2)] ⟨zam _ _ _,tv⟩ ⟨rfl,tv⟩ ?_;rintro i F1 h0 n0 j ⟨rfl,rfl,rfl,rfl⟩;refine⟨by decide,?_⟩;conv=>whnf
   refine sr_go hΘ ?_;refine usePt d ?_;refine brd (by decide) ?_;refine use hf [(1,4)] rfl ⟨rfl,rfl,rfl,tv⟩ rfl ⟨zab zaf _ _ _ _ _,tv⟩ (by simp[SV.below,SA.below,gA,encL]) ⟨zaj zaf (zao _ _ _ _),tv⟩ ?_;rintro i F1 h0 n0 j ⟨rfl,rfl,rfl,rfl⟩;rcases V with _ | _
   ·refine br (fun g=>?_) (fun g=>?_)
    ·have e:=O (by simpa using g);exact zbm e rfl (Fz.r F)
    ·have p:=Z rfl (by simpa using g);clear g;refine⟨nb rfl,[encL ([],n0,0,0,0)],rfl,rfl,rfl,by show 1*48<=140737488355328;omega,fun c' hc=>?_⟩;exact⟨⟨(k+1,([])++[([],n0,0,0,0)],c',q'),ab,Y,p,af,q8 (qaa (by simp)) hc⟩,I,leR [(4,7)] hH hT rfl ⟨tv,zai (by omega) _,zam _ _ _,zai (by omega) _,zab zaf _ _ _ _ _,tv⟩ ⟨cnt J,tv⟩ ⟨Fz.r F,rfl,rfl,zc2 (μ:=sig [(4,7)]) rfl rfl,zaj zaf (za3 _ (by simp)),tv⟩⟩
   ·have e:=M rfl;exact zbm e rfl (Fz.r F)
  ·have al:(w.length+1+1)*48<=140737488355328:=by
    have h9:w.length+1 < 1000000:=S;omega
   have hf:=zg8 F 2 (U::w) c ([],n0,0,0,0) (by show 0 < 1000000;omega) S (by decide);refine bri gk ?_;refine brd (by decide) ?_;conv=>whnf
   refine zbx hΘ 1 ?_;refine usePt d ?_;refine bre (by decide) ?_;refine useS T [(1,2)] ⟨zam _ _ _,tv⟩ ⟨rfl,tv⟩ ?_;rintro i F1 h0 n0 j ⟨rfl,rfl,rfl,rfl⟩;refine⟨by decide,?_⟩;conv=>whnf
   refine sr_go hΘ ?_;refine usePt d ?_;refine brd (by decide) ?_;refine use hf [(1,4)] rfl ⟨rfl,⟨rfl,rfl,rfl,.inr ⟨rfl,rfl,rfl,rfl⟩⟩,rfl,tv⟩ rfl ⟨zab zaf _ _ _ _ _,tv⟩ (by simp[SV.below,SA.below,gA,encL]) ⟨zaj zaf (zao _ _ _ _),tv⟩ ?_;rintro i F1 h0 n0 j ⟨rfl,rfl,rfl,rfl⟩;rcases V with _ | _
   ·refine br (fun g=>?_) (fun g=>?_)
    ·have e:=O (by simpa using g);exact zbm e rfl (Fz.r F)
    ·have p:=Z rfl (by simpa using g);clear g;refine⟨nb rfl,[encL ([],n0,0,0,0)],rfl,rfl,rfl,by simp,rfl,al,fun c' hc=>?_⟩;exact⟨⟨(k+1,(U::w)++[([],n0,0,0,0)],c',q'),ab,Y,p,af,q8 (qaa (by simp)) hc⟩,I,leR [(4,7)] hH hT rfl ⟨tv,zai (by omega) _,zam _ _ _,zai (by omega) _,zab zaf _ _ _ _ _,tv⟩ ⟨cnt J,tv⟩ ⟨Fz.r F,rfl,rfl,zc2 (μ:=sig [(4,7)]) rfl rfl,zla zaf (l:=U::w) rfl,tv⟩⟩
   ·have e:=M rfl;exact zbm e rfl (Fz.r F)
 ·have ak:n.toNat - k=0:=by omega
  rw[ak]at B
  have hv:(decide (q=(s.length:Int))=true/\readR 2 s=some ⟨false,L,0,0,[]⟩)\/(decide (q=(s.length:Int))=false/\readR 2 s=none):=by
   have D:readR 2 s=if q=(s.length:Int)then some ⟨false,L,0,0,[]⟩else none:=B
   by_cases E:q=(s.length:Int)
   ·rw[if_pos E]at D;exact .inl ⟨decide_eq_true E,D⟩
   ·rw[if_neg E]at D;exact .inr ⟨decide_eq_false E,D⟩
  clear B f;rcases L with _ | ⟨U,w⟩
  ·refine brj gk ?_;refine dwS (lk [0,1,2,3,4,5,6,7] (.alt 8 (.look 9 .done) .nil)) [2,3] ?_;refine⟨rfl,rfl,Fz.r F,rfl,rfl,?_⟩;exact zb2 hv rfl (Fz.r F)
  ·refine brj gk ?_;refine dwS (lk [0,1,2,3,4,5,6,7] (.alt 8 (.look 9 .done) .nil)) [2,3] ?_;refine⟨rfl,rfl,Fz.r F,rfl,rfl,?_⟩;refine zck 4 (fun _=>.arr 191 5 ((U::w).map encL) c) rfl rfl rfl (fun _ _=>by exact zcy zaf rfl _ _ _ _) (fun _ _=>zbj zaf _ _ _ _ _) ?_;intro b F' j hb;exact endFo (.ret (.tup [.agg (rvS ⟨false,U::w,0,0,[]⟩ (.slice false 0 (b 0) 0 5 (w.length+1) c)),.va (.bool (decide (q=(s.length:Int))))])) F' rfl j (Fz.r F') ⟨_,_,_,rfl,Its.new (l:=U::w) (hb 0 ⟨rfl,rfl⟩),hv,R⟩ ⟨rfl,rfl,tv⟩ rfl
theorem zxf(F:Fz)(s:List UInt8)(hs:s.length<=1000000000000000000)(ae:¬s=[]):Fo Tryz.prog F 54 [.va (.int .i64 1),.va (.str s)] (zf1 1 s):=by
 have ak:inR 1 1 8=true:=by decide
 have hw:=zce ak F;have z0:i64 0:=⟨by omega,by omega⟩
 have m1:=zbi F s 0 false hs z0;have i1:=zbv (b:=false) hs z0;have ao:∃x a b,rdNum s 0 false=(x,a,b):=⟨_,_,_,rfl⟩
 obtain⟨n,R,b0,e1⟩:=ao;rw[e1]at m1 i1;replace i1:i64 R:=i1;have m:=zez 1 F;rw[show((colN 1:Nat):Int)=0 by decide]at m;have ab:∃c,inR n 0 64=c:=⟨_,rfl⟩
 obtain⟨Y,A⟩:=ab;have w1:=zce A F
 have hR:readR 1 s=if b0=true\/Y=false then none else match zbh 1 s n.toNat [] R with
   |none=>none
   |some (l,q)=>if q=s.length then some ⟨false,l,0,0,[]⟩else none:=by
  rw[readR,if_neg (by decide),if_neg ae,if_neg (by decide),e1];dsimp only;rw[A];rfl
 have G:b0=true->readR 1 s=none:=fun h=>by rw[hR,if_pos (.inl h)]
 have j:Y=false->readR 1 s=none:=fun h=>by rw[hR,if_pos (.inr h)]
 have u:b0=false->Y=true->readR 1 s=match zbh 1 s n.toNat [] R with
   |none=>none
   |some (l,q)=>if q=s.length then some ⟨false,l,0,0,[]⟩else none:=fun h1 h2=>by
  rw[hR,if_neg (by rintro(h | h);rw[h1]at h;cases h;rw[h2]at h;cases h)]
 have K:Y=true->0<=n/\n<=64:=fun h=>zbg.1 (A.trans h)
 clear hR e1 A;refine foS Tryz.func54 ?_;refine usePt hw ?_;refine br (fun g=>absurd (by simpa using g) ae) (fun _=>?_);refine brd (by decide) ?_;refine useS m1 [(1,2)] ⟨zam _ _ _,tv⟩ ⟨rfl,tv⟩ ?_;rintro f F1 h0 n0 i ⟨rfl,rfl,rfl,rfl⟩;conv=>whnf
 rcases b0 with _ | _
 case true=>
  have e:=G rfl;exact zbm e rfl (Fz.r F)
 refine usePt w1 ?_;rcases Y with _ | _
 ·have e:=j rfl;exact zbm e rfl (Fz.r F)
 have ad:=K rfl;have B:=u rfl rfl;clear G j u K;have ap:((n.toNat:Nat):Int)=n:=yx ad.1
 conv=>whnf
 refine zak hΘ (X:={ y:Nat×List RLn×Nat×Int // (y.1:Int)<=n/\y.2.1.length=y.1/\zbh 1 s n.toNat [] R=zbh 1 s (n.toNat - y.1) y.2.1 y.2.2.2/\i64 y.2.2.2/\y.2.1.length<=y.2.2.1 }) (fun y=>[(10,.va (.int .i64 y.1.1))]) (5::11::12::13::jr 131 42 [])
  (fun y=>[(0,.frz F),(1,rvalE ⟨false,[],0,0,[]⟩ 0 0),(2,rrd s y.1.2.2.2 false),(3,rvalE ⟨false,y.1.2.1,0,0,[]⟩ 4 y.1.2.2.1),(4,gE 191 5 encL y.1.2.2.1 y.1.2.1)]) 5 (fun y=>n.toNat - y.1.1) ⟨(0,[],0,R),⟨ad.1,rfl,rfl,i1,qi 0⟩⟩
  (fun hH hT=>leI [(4,4)] hH hT rfl ⟨tv,zai (by omega) _,zam _ _ _,zai (by omega) _,zab zaf _ _ _ _ _,tv⟩ ⟨rfl,tv⟩ ⟨Fz.r F,rfl,rfl,rfl,rfl,tv⟩) ?_
 rintro⟨⟨k,L,c,q⟩,hk,hL,d,hq,S⟩ hH hT;replace S:L.length<=c:=S;replace hk:(k:Int)<=n:=hk;replace hL:L.length=k:=hL;replace d:zbh 1 s n.toNat [] R=zbh 1 s (n.toNat - k) L q:=d;replace hq:i64 q:=hq;rw[d]at B;by_cases gk:(k:Int) < n
 ·have ai:n.toNat - k=(n.toNat - (k+1))+1:=by omega
  have ac:((k+1:Nat):Int)<=n:=by omega
  have I:n.toNat - (k+1) < n.toNat - k:=by omega
  have J:k < 4611686018427387904:=by omega
  have am:L.length < 1000000:=by omega
  have aj:=hq;have T:=zrh F s q false hs aj;have af:=z1m (b:=false) hs aj;have U:=zly s q false;have o:∃x a b,rdTxt s q false=(x,a,b):=⟨_,_,_,rfl⟩
  obtain⟨t,q',W,o⟩:=o;rw[o]at T af U;replace U:t.length<=65536:=U;have Q:t.length < 1000000:=by omega
  have ah:rdL 1 s q=((t,0,0,0,0),q',W):=by rw[rdL,if_pos rfl,o]
  have ag:i64 q':=af;clear o;rw[ai,zbh,ah]at B d;dsimp only at B d;have M:W=true->readR 1 s=none:=fun h=>by rw[B,if_pos (.inl h)]
  have O:fitsR 1 L (t,0,0,0,0)=false->readR 1 s=none:=fun h=>by rw[B,if_pos (.inr h)]
  have aa:W=false->fitsR 1 L (t,0,0,0,0)=true->zbh 1 s n.toNat [] R=zbh 1 s (n.toNat - (k+1)) (L++[(t,0,0,0,0)]) q':=fun h1 h2=>by
   rw[d,if_neg (by rintro(h | h);rw[h1]at h;cases h;rw[h2]at h;cases h)]
  clear B d ah;have Z:(L++[(t,0,0,0,0)]).length=k+1:=by rw[qd,jv,hL]
  rcases L with _ | ⟨V,w⟩
  ·have hf:=zuh F 1 [] c (t,0,0,0,0) Q rfl;refine bri gk ?_;refine bre (by decide) ?_;refine useS T [(1,2)] ⟨zam _ _ _,tv⟩ ⟨rfl,tv⟩ ?_;rintro f F1 h0 n0 i ⟨rfl,rfl,rfl,rfl⟩;conv=>whnf
   refine zbx hΘ 0 ?_;refine usePt m ?_;refine brd (by decide) ?_;refine use hf [(1,4)] rfl ⟨rfl,rfl,rfl,tv⟩ rfl ⟨zab zaf _ _ _ _ _,tv⟩ (by simp[SV.below,SA.below,gA,encL]) ⟨zaj zaf (zao _ _ _ _),tv⟩ ?_;rintro f F1 h0 n0 i ⟨rfl,rfl,rfl,rfl⟩;rcases W with _ | _
   ·refine br (fun g=>?_) (fun g=>?_)
    ·have e:=O (by simpa using g);exact zbm e rfl (Fz.r F)
    ·have p:=aa rfl (by simpa using g);clear g;refine⟨nb rfl,[encL (t,0,0,0,0)],rfl,rfl,rfl,by show 1*48<=140737488355328;omega,fun c' hc=>?_⟩;exact⟨⟨(k+1,([])++[(t,0,0,0,0)],c',q'),ac,Z,p,ag,q8 (qaa (by simp)) hc⟩,I,leR [(4,7)] hH hT rfl ⟨tv,zai (by omega) _,zam _ _ _,zai (by omega) _,zab zaf _ _ _ _ _,tv⟩ ⟨cnt J,tv⟩ ⟨Fz.r F,rfl,rfl,zc2 (μ:=sig [(4,7)]) rfl rfl,zaj zaf (za3 _ (by simp)),tv⟩⟩
   ·have e:=M rfl;exact zbm e rfl (Fz.r F)
  ·have an:(w.length+1+1)*48<=140737488355328:=by
    have h9:w.length+1 < 1000000:=am;omega
   have hf:=zuh F 1 (V::w) c (t,0,0,0,0) Q rfl;refine bri gk ?_;refine bre (by decide) ?_;refine useS T [(1,2)] ⟨zam _ _ _,tv⟩ ⟨rfl,tv⟩ ?_;rintro f F1 h0 n0 i ⟨rfl,rfl,rfl,rfl⟩;conv=>whnf
   refine zbx hΘ 0 ?_;refine usePt m ?_;refine brd (by decide) ?_;refine use hf [(1,4)] rfl ⟨rfl,⟨rfl,rfl,rfl,.inr ⟨rfl,rfl,rfl,rfl⟩⟩,rfl,tv⟩ rfl ⟨zab zaf _ _ _ _ _,tv⟩ (by simp[SV.below,SA.below,gA,encL]) ⟨zaj zaf (zao _ _ _ _),tv⟩ ?_;rintro f F1 h0 n0 i ⟨rfl,rfl,rfl,rfl⟩;rcases W with _ | _
   ·refine br (fun g=>?_) (fun g=>?_)
    ·have e:=O (by simpa using g);exact zbm e rfl (Fz.r F)
    ·have p:=aa rfl (by simpa using g);clear g;refine⟨nb rfl,[encL (t,0,0,0,0)],rfl,rfl,rfl,by simp,rfl,an,fun c' hc=>?_⟩;exact⟨⟨(k+1,(V::w)++[(t,0,0,0,0)],c',q'),ac,Z,p,ag,q8 (qaa (by simp)) hc⟩,I,leR [(4,7)] hH hT rfl ⟨tv,zai (by omega) _,zam _ _ _,zai (by omega) _,zab zaf _ _ _ _ _,tv⟩ ⟨cnt J,tv⟩ ⟨Fz.r F,rfl,rfl,zc2 (μ:=sig [(4,7)]) rfl rfl,zla zaf (l:=V::w) rfl,tv⟩⟩
   ·have e:=M rfl;exact zbm e rfl (Fz.r F)
 ·have al:n.toNat - k=0:=by omega
  rw[al]at B
  have hv:(decide (q=(s.length:Int))=true/\readR 1 s=some ⟨false,L,0,0,[]⟩)\/(decide (q=(s.length:Int))=false/\readR 1 s=none):=by
   have D:readR 1 s=if q=(s.length:Int)then some ⟨false,L,0,0,[]⟩else none:=B
   by_cases E:q=(s.length:Int)
   ·rw[if_pos E]at D;exact .inl ⟨decide_eq_true E,D⟩
   ·rw[if_neg E]at D;exact .inr ⟨decide_eq_false E,D⟩
  clear B d;rcases L with _ | ⟨V,w⟩
  ·refine brj gk ?_;refine dwS (lk [0,1,2,3,4,5,6,7] (.alt 8 (.look 9 .done) .nil)) [2,3] ?_;refine⟨rfl,rfl,Fz.r F,rfl,rfl,?_⟩;exact zb2 hv rfl (Fz.r F)
  ·refine brj gk ?_;refine dwS (lk [0,1,2,3,4,5,6,7] (.alt 8 (.look 9 .done) .nil)) [2,3] ?_;refine⟨rfl,rfl,Fz.r F,rfl,rfl,?_⟩;refine zck 4 (fun _=>.arr 191 5 ((V::w).map encL) c) rfl rfl rfl (fun _ _=>by exact zcy zaf rfl _ _ _ _) (fun _ _=>zbj zaf _ _ _ _ _) ?_;intro b F' i hb;exact endFo (.ret (.tup [.agg (rvS ⟨false,V::w,0,0,[]⟩ (.slice false 0 (b 0) 0 5 (w.length+1) c)),.va (.bool (decide (q=(s.length:Int))))])) F' rfl i (Fz.r F') ⟨_,_,_,rfl,Its.new (l:=V::w) (hb 0 ⟨rfl,rfl⟩),hv,S⟩ ⟨rfl,rfl,tv⟩ rfl
theorem zxh(F:Fz)(s:List UInt8)(V:s.length<=1000000000000000000)(ai:¬s=[]):Fo Tryz.prog F 54 [.va (.int .i64 3),.va (.str s)] (zf1 3 s):=by
 have au:inR 3 1 8=true:=by decide
 have hw:=zce au F;have z0:i64 0:=⟨by omega,by omega⟩
 have m1:=zbi F s 0 false V z0;have i1:=zbv (b:=false) V z0;have ax:∃x a b,rdNum s 0 false=(x,a,b):=⟨_,_,_,rfl⟩
 obtain⟨n,W,b0,e1⟩:=ax;rw[e1]at m1 i1;replace i1:i64 W:=i1;have d:=zez 3 F;rw[show((colN 3:Nat):Int)=3 by decide]at d;have af:∃c,inR n 0 64=c:=⟨_,rfl⟩
 obtain⟨c0,G⟩:=af;have w1:=zce G F
 have hR:readR 3 s=if b0=true\/c0=false then none else match zbh 3 s n.toNat [] W with
   |none=>none
   |some (l,q)=>if q=s.length then some ⟨false,l,0,0,[]⟩else none:=by
  rw[readR,if_neg (by decide),if_neg ai,if_neg (by decide),e1];dsimp only;rw[G];rfl
 have O:b0=true->readR 3 s=none:=fun h=>by rw[hR,if_pos (.inl h)]
 have m:c0=false->readR 3 s=none:=fun h=>by rw[hR,if_pos (.inr h)]
 have A:b0=false->c0=true->readR 3 s=match zbh 3 s n.toNat [] W with
   |none=>none
   |some (l,q)=>if q=s.length then some ⟨false,l,0,0,[]⟩else none:=fun h1 h2=>by
  rw[hR,if_neg (by rintro(h | h);rw[h1]at h;cases h;rw[h2]at h;cases h)]
 have S:c0=true->0<=n/\n<=64:=fun h=>zbg.1 (G.trans h)
 clear hR e1 G;refine foS Tryz.func54 ?_;refine usePt hw ?_;refine br (fun g=>absurd (by simpa using g) ai) (fun _=>?_);refine brd (by decide) ?_;refine useS m1 [(1,2)] ⟨zam _ _ _,tv⟩ ⟨rfl,tv⟩ ?_;rintro f F1 M n0 i ⟨rfl,rfl,rfl,rfl⟩;conv=>whnf
 rcases b0 with _ | _
 case true=>
  have e:=O rfl;exact zbm e rfl (Fz.r F)
 refine usePt w1 ?_;rcases c0 with _ | _
 ·have e:=m rfl;exact zbm e rfl (Fz.r F)
 have ah:=S rfl;have I:=A rfl rfl;clear O m A S;have ay:((n.toNat:Nat):Int)=n:=yx ah.1
 conv=>whnf
 refine zak hΘ (X:={ y:Nat×List RLn×Nat×Int // (y.1:Int)<=n/\y.2.1.length=y.1/\zbh 3 s n.toNat [] W=zbh 3 s (n.toNat - y.1) y.2.1 y.2.2.2/\i64 y.2.2.2/\y.2.1.length<=y.2.2.1 }) (fun y=>[(10,.va (.int .i64 y.1.1))]) (5::11::12::13::jr 131 42 [])
  (fun y=>[(0,.frz F),(1,rvalE ⟨false,[],0,0,[]⟩ 0 0),(2,rrd s y.1.2.2.2 false),(3,rvalE ⟨false,y.1.2.1,0,0,[]⟩ 4 y.1.2.2.1),(4,gE 191 5 encL y.1.2.2.1 y.1.2.1)]) 5 (fun y=>n.toNat - y.1.1) ⟨(0,[],0,W),⟨ah.1,rfl,rfl,i1,qi 0⟩⟩
  (fun hH hT=>leI [(4,4)] hH hT rfl ⟨tv,zai (by omega) _,zam _ _ _,zai (by omega) _,zab zaf _ _ _ _ _,tv⟩ ⟨rfl,tv⟩ ⟨Fz.r F,rfl,rfl,rfl,rfl,tv⟩) ?_
 rintro⟨⟨k,L,c,q⟩,hk,hL,j,hq,Y⟩ hH hT;replace Y:L.length<=c:=Y;replace hk:(k:Int)<=n:=hk;replace hL:L.length=k:=hL;replace j:zbh 3 s n.toNat [] W=zbh 3 s (n.toNat - k) L q:=j;replace hq:i64 q:=hq;rw[j]at I;by_cases gk:(k:Int) < n
 ·have ao:n.toNat - k=(n.toNat - (k+1))+1:=by omega
  have ag:((k+1:Nat):Int)<=n:=by omega
  have Q:n.toNat - (k+1) < n.toNat - k:=by omega
  have R:k < 4611686018427387904:=by omega
  have Z:L.length < 1000000:=by omega
  have ap:=hq;have aa:=zbi F s q false V ap;have aj:=zbv (b:=false) V ap;have o:∃x a b,rdNum s q false=(x,a,b):=⟨_,_,_,rfl⟩
  obtain⟨n0,q1,b1,o⟩:=o;rw[o]at aa aj;have aq:i64 q1:=aj;have ab:=zbi F s q1 b1 V aq;have ak:=zbv (b:=b1) V aq;have p:∃x a b,rdNum s q1 b1=(x,a,b):=⟨_,_,_,rfl⟩
  obtain⟨B,q2,b2,p⟩:=p;rw[p]at ab ak;have ar:i64 q2:=ak;have ac:=zbi F s q2 b2 V ar;have al:=zbv (b:=b2) V ar;have u:∃x a b,rdNum s q2 b2=(x,a,b):=⟨_,_,_,rfl⟩
  obtain⟨D,q',b',u⟩:=u;rw[u]at ac al;have an:rdL 3 s q=(([],n0,B,D,0),q',b'):=by rw[rdL,if_neg (by decide),if_neg (by decide),if_neg (by decide),o];dsimp only;rw[p];dsimp only;rw[u]
  have am:i64 q':=al;clear o p u;rw[ao,zbh,an]at I j;dsimp only at I j;have T:b'=true->readR 3 s=none:=fun h=>by rw[I,if_pos (.inl h)]
  have U:fitsR 3 L ([],n0,B,D,0)=false->readR 3 s=none:=fun h=>by rw[I,if_pos (.inr h)]
  have ae:b'=false->fitsR 3 L ([],n0,B,D,0)=true->zbh 3 s n.toNat [] W=zbh 3 s (n.toNat - (k+1)) (L++[([],n0,B,D,0)]) q':=fun h1 h2=>by
   rw[j,if_neg (by rintro(h | h);rw[h1]at h;cases h;rw[h2]at h;cases h)]
  clear I j an;have ad:(L++[([],n0,B,D,0)]).length=k+1:=by rw[qd,jv,hL]
  rcases L with _ | ⟨l0,E⟩
  ·have hf:=zg8 F 3 [] c ([],n0,B,D,0) (by show 0 < 1000000;omega) Z (by decide);refine bri gk ?_;refine brd (by decide) ?_;conv=>whnf
   refine zbx hΘ 3 ?_;refine usePt d ?_;refine bre (by decide) ?_;refine useS aa [(1,2)] ⟨zam _ _ _,tv⟩ ⟨rfl,tv⟩ ?_;rintro f F1 M n0 i ⟨rfl,rfl,rfl,rfl⟩;refine⟨by decide,?_⟩;conv=>whnf
   refine sr_go hΘ ?_;refine usePt d ?_;refine bre (by decide) ?_;refine useS ab [(1,2)] ⟨zam _ _ _,tv⟩ ⟨rfl,tv⟩ ?_;rintro f F1 M n0 i ⟨rfl,rfl,rfl,rfl⟩;refine⟨by decide,?_⟩;conv=>whnf
   refine sr_go hΘ ?_;refine usePt d ?_;refine bre (by decide) ?_;refine useS ac [(1,2)] ⟨zam _ _ _,tv⟩ ⟨rfl,tv⟩ ?_;rintro f F1 M n0 i ⟨rfl,rfl,rfl,rfl⟩;refine⟨by decide,?_⟩;conv=>whnf
   refine sr_go hΘ ?_;refine usePt d ?_;refine brd (by decide) ?_;refine use hf [(1,4)] rfl ⟨rfl,rfl,rfl,tv⟩ rfl ⟨zab zaf _ _ _ _ _,tv⟩ (by simp[SV.below,SA.below,gA,encL]) ⟨zaj zaf (zao _ _ _ _),tv⟩ ?_;rintro f F1 M n0 i ⟨rfl,rfl,rfl,rfl⟩;rcases b' with _ | _
   ·refine br (fun g=>?_) (fun g=>?_)
    ·have e:=U (by simpa using g);exact zbm e rfl (Fz.r F)
    ·have w:=ae rfl (by simpa using g);clear g;refine⟨nb rfl,[encL ([],n0,B,D,0)],rfl,rfl,rfl,by show 1*48<=140737488355328;omega,fun c' hc=>?_⟩;exact⟨⟨(k+1,([])++[([],n0,B,D,0)],c',q'),ag,ad,w,am,q8 (qaa (by simp)) hc⟩,Q,leR [(4,7)] hH hT rfl ⟨tv,zai (by omega) _,zam _ _ _,zai (by omega) _,zab zaf _ _ _ _ _,tv⟩ ⟨cnt R,tv⟩ ⟨Fz.r F,rfl,rfl,zc2 (μ:=sig [(4,7)]) rfl rfl,zaj zaf (za3 _ (by simp)),tv⟩⟩
   ·have e:=T rfl;exact zbm e rfl (Fz.r F)
  ·have aw:(E.length+1+1)*48<=140737488355328:=by
    have h9:E.length+1 < 1000000:=Z;omega
   have hf:=zg8 F 3 (l0::E) c ([],n0,B,D,0) (by show 0 < 1000000;omega) Z (by decide);refine bri gk ?_;refine brd (by decide) ?_;conv=>whnf
   refine zbx hΘ 3 ?_;refine usePt d ?_;refine bre (by decide) ?_;refine useS aa [(1,2)] ⟨zam _ _ _,tv⟩ ⟨rfl,tv⟩ ?_;rintro f F1 M n0 i ⟨rfl,rfl,rfl,rfl⟩;refine⟨by decide,?_⟩;conv=>whnf
   refine sr_go hΘ ?_;refine usePt d ?_;refine bre (by decide) ?_;refine useS ab [(1,2)] ⟨zam _ _ _,tv⟩ ⟨rfl,tv⟩ ?_;rintro f F1 M n0 i ⟨rfl,rfl,rfl,rfl⟩;refine⟨by decide,?_⟩;conv=>whnf
   refine sr_go hΘ ?_;refine usePt d ?_;refine bre (by decide) ?_;refine useS ac [(1,2)] ⟨zam _ _ _,tv⟩ ⟨rfl,tv⟩ ?_;rintro f F1 M n0 i ⟨rfl,rfl,rfl,rfl⟩;refine⟨by decide,?_⟩;conv=>whnf
   refine sr_go hΘ ?_;refine usePt d ?_;refine brd (by decide) ?_;refine use hf [(1,4)] rfl ⟨rfl,⟨rfl,rfl,rfl,.inr ⟨rfl,rfl,rfl,rfl⟩⟩,rfl,tv⟩ rfl ⟨zab zaf _ _ _ _ _,tv⟩ (by simp[SV.below,SA.below,gA,encL]) ⟨zaj zaf (zao _ _ _ _),tv⟩ ?_;rintro f F1 M n0 i ⟨rfl,rfl,rfl,rfl⟩;rcases b' with _ | _
   ·refine br (fun g=>?_) (fun g=>?_)
    ·have e:=U (by simpa using g);exact zbm e rfl (Fz.r F)
    ·have w:=ae rfl (by simpa using g);clear g;refine⟨nb rfl,[encL ([],n0,B,D,0)],rfl,rfl,rfl,by simp,rfl,aw,fun c' hc=>?_⟩;exact⟨⟨(k+1,(l0::E)++[([],n0,B,D,0)],c',q'),ag,ad,w,am,q8 (qaa (by simp)) hc⟩,Q,leR [(4,7)] hH hT rfl ⟨tv,zai (by omega) _,zam _ _ _,zai (by omega) _,zab zaf _ _ _ _ _,tv⟩ ⟨cnt R,tv⟩ ⟨Fz.r F,rfl,rfl,zc2 (μ:=sig [(4,7)]) rfl rfl,zla zaf (l:=l0::E) rfl,tv⟩⟩
   ·have e:=T rfl;exact zbm e rfl (Fz.r F)
 ·have av:n.toNat - k=0:=by omega
  rw[av]at I
  have hv:(decide (q=(s.length:Int))=true/\readR 3 s=some ⟨false,L,0,0,[]⟩)\/(decide (q=(s.length:Int))=false/\readR 3 s=none):=by
   have J:readR 3 s=if q=(s.length:Int)then some ⟨false,L,0,0,[]⟩else none:=I
   by_cases K:q=(s.length:Int)
   ·rw[if_pos K]at J;exact .inl ⟨decide_eq_true K,J⟩
   ·rw[if_neg K]at J;exact .inr ⟨decide_eq_false K,J⟩
  clear I j;rcases L with _ | ⟨l0,E⟩
  ·refine brj gk ?_;refine dwS (lk [0,1,2,3,4,5,6,7] (.alt 8 (.look 9 .done) .nil)) [2,3] ?_;refine⟨rfl,rfl,Fz.r F,rfl,rfl,?_⟩;exact zb2 hv rfl (Fz.r F)
  ·refine brj gk ?_;refine dwS (lk [0,1,2,3,4,5,6,7] (.alt 8 (.look 9 .done) .nil)) [2,3] ?_;refine⟨rfl,rfl,Fz.r F,rfl,rfl,?_⟩;refine zck 4 (fun _=>.arr 191 5 ((l0::E).map encL) c) rfl rfl rfl (fun _ _=>by exact zcy zaf rfl _ _ _ _) (fun _ _=>zbj zaf _ _ _ _ _) ?_;intro b F' i hb;exact endFo (.ret (.tup [.agg (rvS ⟨false,l0::E,0,0,[]⟩ (.slice false 0 (b 0) 0 5 (E.length+1) c)),.va (.bool (decide (q=(s.length:Int))))])) F' rfl i (Fz.r F') ⟨_,_,_,rfl,Its.new (l:=l0::E) (hb 0 ⟨rfl,rfl⟩),hv,Y⟩ ⟨rfl,rfl,tv⟩ rfl
theorem zxi(F:Fz)(s:List UInt8)(J:s.length<=1000000000000000000)(al:¬s=[]):Fo Tryz.prog F 54 [.va (.int .i64 4),.va (.str s)] (zf1 4 s):=by
 have az:inR 4 1 8=true:=by decide
 have hw:=zce az F;have z0:i64 0:=⟨by omega,by omega⟩
 have m1:=zbi F s 0 false J z0;have i1:=zbv (b:=false) J z0;have a3:∃x a b,rdNum s 0 false=(x,a,b):=⟨_,_,_,rfl⟩
 obtain⟨n,Z,b0,e1⟩:=a3;rw[e1]at m1 i1;replace i1:i64 Z:=i1;have d:=zez 4 F;rw[show((colN 4:Nat):Int)=4 by decide]at d;have ai:∃c,inR n 0 64=c:=⟨_,rfl⟩
 obtain⟨c0,M⟩:=ai;have w1:=zce M F
 have hR:readR 4 s=if b0=true\/c0=false then none else match zbh 4 s n.toNat [] Z with
   |none=>none
   |some (l,q)=>if q=s.length then some ⟨false,l,0,0,[]⟩else none:=by
  rw[readR,if_neg (by decide),if_neg al,if_neg (by decide),e1];dsimp only;rw[M];rfl
 have S:b0=true->readR 4 s=none:=fun h=>by rw[hR,if_pos (.inl h)]
 have m:c0=false->readR 4 s=none:=fun h=>by rw[hR,if_pos (.inr h)]
 have B:b0=false->c0=true->readR 4 s=match zbh 4 s n.toNat [] Z with
   |none=>none
   |some (l,q)=>if q=s.length then some ⟨false,l,0,0,[]⟩else none:=fun h1 h2=>by
  rw[hR,if_neg (by rintro(h | h);rw[h1]at h;cases h;rw[h2]at h;cases h)]
 have V:c0=true->0<=n/\n<=64:=fun h=>zbg.1 (M.trans h)
 clear hR e1 M;refine foS Tryz.func54 ?_;refine usePt hw ?_;refine br (fun g=>absurd (by simpa using g) al) (fun _=>?_);refine brd (by decide) ?_;refine useS m1 [(1,2)] ⟨zam _ _ _,tv⟩ ⟨rfl,tv⟩ ?_;rintro f F1 I n0 i ⟨rfl,rfl,rfl,rfl⟩;conv=>whnf
 rcases b0 with _ | _
 case true=>
  have e:=S rfl;exact zbm e rfl (Fz.r F)
 refine usePt w1 ?_;rcases c0 with _ | _
 ·have e:=m rfl;exact zbm e rfl (Fz.r F)
 have ak:=V rfl;have O:=B rfl rfl;clear S m B V;have a4:((n.toNat:Nat):Int)=n:=yx ak.1
 conv=>whnf
 refine zak hΘ (X:={ y:Nat×List RLn×Nat×Int // (y.1:Int)<=n/\y.2.1.length=y.1/\zbh 4 s n.toNat [] Z=zbh 4 s (n.toNat - y.1) y.2.1 y.2.2.2/\i64 y.2.2.2/\y.2.1.length<=y.2.2.1 }) (fun y=>[(10,.va (.int .i64 y.1.1))]) (5::11::12::13::jr 131 42 [])
  (fun y=>[(0,.frz F),(1,rvalE ⟨false,[],0,0,[]⟩ 0 0),(2,rrd s y.1.2.2.2 false),(3,rvalE ⟨false,y.1.2.1,0,0,[]⟩ 4 y.1.2.2.1),(4,gE 191 5 encL y.1.2.2.1 y.1.2.1)]) 5 (fun y=>n.toNat - y.1.1) ⟨(0,[],0,Z),⟨ak.1,rfl,rfl,i1,qi 0⟩⟩
  (fun hH hT=>leI [(4,4)] hH hT rfl ⟨tv,zai (by omega) _,zam _ _ _,zai (by omega) _,zab zaf _ _ _ _ _,tv⟩ ⟨rfl,tv⟩ ⟨Fz.r F,rfl,rfl,rfl,rfl,tv⟩) ?_
 rintro⟨⟨k,L,c,q⟩,hk,hL,j,hq,aa⟩ hH hT;replace aa:L.length<=c:=aa;replace hk:(k:Int)<=n:=hk;replace hL:L.length=k:=hL;replace j:zbh 4 s n.toNat [] Z=zbh 4 s (n.toNat - k) L q:=j;replace hq:i64 q:=hq;rw[j]at O;by_cases gk:(k:Int) < n
 ·have au:n.toNat - k=(n.toNat - (k+1))+1:=by omega
  have aj:((k+1:Nat):Int)<=n:=by omega
  have T:n.toNat - (k+1) < n.toNat - k:=by omega
  have U:k < 4611686018427387904:=by omega
  have ab:L.length < 1000000:=by omega
  have av:=hq;have ac:=zbi F s q false J av;have am:=zbv (b:=false) J av;have o:∃x a b,rdNum s q false=(x,a,b):=⟨_,_,_,rfl⟩
  obtain⟨n0,q1,b1,o⟩:=o;rw[o]at ac am;have aw:i64 q1:=am;have ad:=zbi F s q1 b1 J aw;have an:=zbv (b:=b1) J aw;have p:∃x a b,rdNum s q1 b1=(x,a,b):=⟨_,_,_,rfl⟩
  obtain⟨D,q2,b2,p⟩:=p;rw[p]at ad an;have ax:i64 q2:=an;have ae:=zbi F s q2 b2 J ax;have ao:=zbv (b:=b2) J ax;have u:∃x a b,rdNum s q2 b2=(x,a,b):=⟨_,_,_,rfl⟩
  obtain⟨E,q3,b3,u⟩:=u;rw[u]at ae ao;have ay:i64 q3:=ao;have af:=zbi F s q3 b3 J ay;have ap:=zbv (b:=b3) J ay;have w:∃x a b,rdNum s q3 b3=(x,a,b):=⟨_,_,_,rfl⟩
  obtain⟨G,q',b',w⟩:=w;rw[w]at af ap;have ar:rdL 4 s q=(([],n0,D,E,G),q',b'):=by rw[rdL,if_neg (by decide),if_neg (by decide),if_pos rfl,o];dsimp only;rw[p];dsimp only;rw[u];dsimp only;rw[w]
  have aq:i64 q':=ap;clear o p u w;rw[au,zbh,ar]at O j;dsimp only at O j;have W:b'=true->readR 4 s=none:=fun h=>by rw[O,if_pos (.inl h)]
  have Y:fitsR 4 L ([],n0,D,E,G)=false->readR 4 s=none:=fun h=>by rw[O,if_pos (.inr h)]
  have ah:b'=false->fitsR 4 L ([],n0,D,E,G)=true->zbh 4 s n.toNat [] Z=zbh 4 s (n.toNat - (k+1)) (L++[([],n0,D,E,G)]) q':=fun h1 h2=>by
   rw[j,if_neg (by rintro(h | h);rw[h1]at h;cases h;rw[h2]at h;cases h)]
  clear O j ar;have ag:(L++[([],n0,D,E,G)]).length=k+1:=by rw[qd,jv,hL]
  rcases L with _ | ⟨l0,K⟩
  ·have hf:=zg8 F 4 [] c ([],n0,D,E,G) (by show 0 < 1000000;omega) ab (by decide);refine bri gk ?_;refine brd (by decide) ?_;conv=>whnf
   refine zbx hΘ 4 ?_;refine usePt d ?_;refine bre (by decide) ?_;refine useS ac [(1,2)] ⟨zam _ _ _,tv⟩ ⟨rfl,tv⟩ ?_;rintro f F1 I n0 i ⟨rfl,rfl,rfl,rfl⟩;refine⟨by decide,?_⟩;conv=>whnf
   refine sr_go hΘ ?_;refine usePt d ?_;refine bre (by decide) ?_;refine useS ad [(1,2)] ⟨zam _ _ _,tv⟩ ⟨rfl,tv⟩ ?_;rintro f F1 I n0 i ⟨rfl,rfl,rfl,rfl⟩;refine⟨by decide,?_⟩;conv=>whnf
   refine sr_go hΘ ?_;refine usePt d ?_;refine bre (by decide) ?_;refine useS ae [(1,2)] ⟨zam _ _ _,tv⟩ ⟨rfl,tv⟩ ?_;rintro f F1 I n0 i ⟨rfl,rfl,rfl,rfl⟩;refine⟨by decide,?_⟩;conv=>whnf
   refine sr_go hΘ ?_;refine usePt d ?_;refine bre (by decide) ?_;refine useS af [(1,2)] ⟨zam _ _ _,tv⟩ ⟨rfl,tv⟩ ?_;rintro f F1 I n0 i ⟨rfl,rfl,rfl,rfl⟩;refine⟨by decide,?_⟩;conv=>whnf
   refine sr_go hΘ ?_;refine usePt d ?_;refine brd (by decide) ?_;refine use hf [(1,4)] rfl ⟨rfl,rfl,rfl,tv⟩ rfl ⟨zab zaf _ _ _ _ _,tv⟩ (by simp[SV.below,SA.below,gA,encL]) ⟨zaj zaf (zao _ _ _ _),tv⟩ ?_;rintro f F1 I n0 i ⟨rfl,rfl,rfl,rfl⟩;rcases b' with _ | _
   ·refine br (fun g=>?_) (fun g=>?_)
    ·have e:=Y (by simpa using g);exact zbm e rfl (Fz.r F)
    ·have A:=ah rfl (by simpa using g);clear g;refine⟨nb rfl,[encL ([],n0,D,E,G)],rfl,rfl,rfl,by show 1*48<=140737488355328;omega,fun c' hc=>?_⟩;exact⟨⟨(k+1,([])++[([],n0,D,E,G)],c',q'),aj,ag,A,aq,q8 (qaa (by simp)) hc⟩,T,leR [(4,7)] hH hT rfl ⟨tv,zai (by omega) _,zam _ _ _,zai (by omega) _,zab zaf _ _ _ _ _,tv⟩ ⟨cnt U,tv⟩ ⟨Fz.r F,rfl,rfl,zc2 (μ:=sig [(4,7)]) rfl rfl,zaj zaf (za3 _ (by simp)),tv⟩⟩
   ·have e:=W rfl;exact zbm e rfl (Fz.r F)
  ·have a2:(K.length+1+1)*48<=140737488355328:=by
    have h9:K.length+1 < 1000000:=ab;omega
   have hf:=zg8 F 4 (l0::K) c ([],n0,D,E,G) (by show 0 < 1000000;omega) ab (by decide);refine bri gk ?_;refine brd (by decide) ?_;conv=>whnf
   refine zbx hΘ 4 ?_;refine usePt d ?_;refine bre (by decide) ?_;refine useS ac [(1,2)] ⟨zam _ _ _,tv⟩ ⟨rfl,tv⟩ ?_;rintro f F1 I n0 i ⟨rfl,rfl,rfl,rfl⟩;refine⟨by decide,?_⟩;conv=>whnf
   refine sr_go hΘ ?_;refine usePt d ?_;refine bre (by decide) ?_;refine useS ad [(1,2)] ⟨zam _ _ _,tv⟩ ⟨rfl,tv⟩ ?_;rintro f F1 I n0 i ⟨rfl,rfl,rfl,rfl⟩;refine⟨by decide,?_⟩;conv=>whnf
   refine sr_go hΘ ?_;refine usePt d ?_;refine bre (by decide) ?_;refine useS ae [(1,2)] ⟨zam _ _ _,tv⟩ ⟨rfl,tv⟩ ?_;rintro f F1 I n0 i ⟨rfl,rfl,rfl,rfl⟩;refine⟨by decide,?_⟩;conv=>whnf
   refine sr_go hΘ ?_;refine usePt d ?_;refine bre (by decide) ?_;refine useS af [(1,2)] ⟨zam _ _ _,tv⟩ ⟨rfl,tv⟩ ?_;rintro f F1 I n0 i ⟨rfl,rfl,rfl,rfl⟩;refine⟨by decide,?_⟩;conv=>whnf
   refine sr_go hΘ ?_;refine usePt d ?_;refine brd (by decide) ?_;refine use hf [(1,4)] rfl ⟨rfl,⟨rfl,rfl,rfl,.inr ⟨rfl,rfl,rfl,rfl⟩⟩,rfl,tv⟩ rfl ⟨zab zaf _ _ _ _ _,tv⟩ (by simp[SV.below,SA.below,gA,encL]) ⟨zaj zaf (zao _ _ _ _),tv⟩ ?_;rintro f F1 I n0 i ⟨rfl,rfl,rfl,rfl⟩;rcases b' with _ | _
   ·refine br (fun g=>?_) (fun g=>?_)
    ·have e:=Y (by simpa using g);exact zbm e rfl (Fz.r F)
    ·have A:=ah rfl (by simpa using g);clear g;refine⟨nb rfl,[encL ([],n0,D,E,G)],rfl,rfl,rfl,by simp,rfl,a2,fun c' hc=>?_⟩;exact⟨⟨(k+1,(l0::K)++[([],n0,D,E,G)],c',q'),aj,ag,A,aq,q8 (qaa (by simp)) hc⟩,T,leR [(4,7)] hH hT rfl ⟨tv,zai (by omega) _,zam _ _ _,zai (by omega) _,zab zaf _ _ _ _ _,tv⟩ ⟨cnt U,tv⟩ ⟨Fz.r F,rfl,rfl,zc2 (μ:=sig [(4,7)]) rfl rfl,zla zaf (l:=l0::K) rfl,tv⟩⟩
   ·have e:=W rfl;exact zbm e rfl (Fz.r F)
 ·have a1:n.toNat - k=0:=by omega
  rw[a1]at O
  have hv:(decide (q=(s.length:Int))=true/\readR 4 s=some ⟨false,L,0,0,[]⟩)\/(decide (q=(s.length:Int))=false/\readR 4 s=none):=by
   have Q:readR 4 s=if q=(s.length:Int)then some ⟨false,L,0,0,[]⟩else none:=O
   by_cases R:q=(s.length:Int)
   ·rw[if_pos R]at Q;exact .inl ⟨decide_eq_true R,Q⟩
   ·rw[if_neg R]at Q;exact .inr ⟨decide_eq_false R,Q⟩
  clear O j;rcases L with _ | ⟨l0,K⟩
  ·refine brj gk ?_;refine dwS (lk [0,1,2,3,4,5,6,7] (.alt 8 (.look 9 .done) .nil)) [2,3] ?_;refine⟨rfl,rfl,Fz.r F,rfl,rfl,?_⟩;exact zb2 hv rfl (Fz.r F)
  ·refine brj gk ?_;refine dwS (lk [0,1,2,3,4,5,6,7] (.alt 8 (.look 9 .done) .nil)) [2,3] ?_;refine⟨rfl,rfl,Fz.r F,rfl,rfl,?_⟩;refine zck 4 (fun _=>.arr 191 5 ((l0::K).map encL) c) rfl rfl rfl (fun _ _=>by exact zcy zaf rfl _ _ _ _) (fun _ _=>zbj zaf _ _ _ _ _) ?_;intro b F' i hb;exact endFo (.ret (.tup [.agg (rvS ⟨false,l0::K,0,0,[]⟩ (.slice false 0 (b 0) 0 5 (K.length+1) c)),.va (.bool (decide (q=(s.length:Int))))])) F' rfl i (Fz.r F') ⟨_,_,_,rfl,Its.new (l:=l0::K) (hb 0 ⟨rfl,rfl⟩),hv,aa⟩ ⟨rfl,rfl,tv⟩ rfl
theorem zxj(F:Fz)(s:List UInt8)(V:s.length<=1000000000000000000)(ai:¬s=[]):Fo Tryz.prog F 54 [.va (.int .i64 5),.va (.str s)] (zf1 5 s):=by
 have au:inR 5 1 8=true:=by decide
 have hw:=zce au F;have z0:i64 0:=⟨by omega,by omega⟩
 have m1:=zbi F s 0 false V z0;have i1:=zbv (b:=false) V z0;have ax:∃x a b,rdNum s 0 false=(x,a,b):=⟨_,_,_,rfl⟩
 obtain⟨n,W,b0,e1⟩:=ax;rw[e1]at m1 i1;replace i1:i64 W:=i1;have d:=zez 5 F;rw[show((colN 5:Nat):Int)=3 by decide]at d;have af:∃c,inR n 0 64=c:=⟨_,rfl⟩
 obtain⟨c0,G⟩:=af;have w1:=zce G F
 have hR:readR 5 s=if b0=true\/c0=false then none else match zbh 5 s n.toNat [] W with
   |none=>none
   |some (l,q)=>if q=s.length then some ⟨false,l,0,0,[]⟩else none:=by
  rw[readR,if_neg (by decide),if_neg ai,if_neg (by decide),e1];dsimp only;rw[G];rfl
 have O:b0=true->readR 5 s=none:=fun h=>by rw[hR,if_pos (.inl h)]
 have m:c0=false->readR 5 s=none:=fun h=>by rw[hR,if_pos (.inr h)]
 have A:b0=false->c0=true->readR 5 s=match zbh 5 s n.toNat [] W with
   |none=>none
   |some (l,q)=>if q=s.length then some ⟨false,l,0,0,[]⟩else none:=fun h1 h2=>by
  rw[hR,if_neg (by rintro(h | h);rw[h1]at h;cases h;rw[h2]at h;cases h)]
 have S:c0=true->0<=n/\n<=64:=fun h=>zbg.1 (G.trans h)
 clear hR e1 G;refine foS Tryz.func54 ?_;refine usePt hw ?_;refine br (fun g=>absurd (by simpa using g) ai) (fun _=>?_);refine brd (by decide) ?_;refine useS m1 [(1,2)] ⟨zam _ _ _,tv⟩ ⟨rfl,tv⟩ ?_;rintro f F1 M n0 i ⟨rfl,rfl,rfl,rfl⟩;conv=>whnf
 rcases b0 with _ | _
 case true=>
  have e:=O rfl;exact zbm e rfl (Fz.r F)
 refine usePt w1 ?_;rcases c0 with _ | _
 ·have e:=m rfl;exact zbm e rfl (Fz.r F)
 have ah:=S rfl;have I:=A rfl rfl;clear O m A S;have ay:((n.toNat:Nat):Int)=n:=yx ah.1
 conv=>whnf
 refine zak hΘ (X:={ y:Nat×List RLn×Nat×Int // (y.1:Int)<=n/\y.2.1.length=y.1/\zbh 5 s n.toNat [] W=zbh 5 s (n.toNat - y.1) y.2.1 y.2.2.2/\i64 y.2.2.2/\y.2.1.length<=y.2.2.1 }) (fun y=>[(10,.va (.int .i64 y.1.1))]) (5::11::12::13::jr 131 42 [])
  (fun y=>[(0,.frz F),(1,rvalE ⟨false,[],0,0,[]⟩ 0 0),(2,rrd s y.1.2.2.2 false),(3,rvalE ⟨false,y.1.2.1,0,0,[]⟩ 4 y.1.2.2.1),(4,gE 191 5 encL y.1.2.2.1 y.1.2.1)]) 5 (fun y=>n.toNat - y.1.1) ⟨(0,[],0,W),⟨ah.1,rfl,rfl,i1,qi 0⟩⟩
  (fun hH hT=>leI [(4,4)] hH hT rfl ⟨tv,zai (by omega) _,zam _ _ _,zai (by omega) _,zab zaf _ _ _ _ _,tv⟩ ⟨rfl,tv⟩ ⟨Fz.r F,rfl,rfl,rfl,rfl,tv⟩) ?_
 rintro⟨⟨k,L,c,q⟩,hk,hL,j,hq,Y⟩ hH hT;replace Y:L.length<=c:=Y;replace hk:(k:Int)<=n:=hk;replace hL:L.length=k:=hL;replace j:zbh 5 s n.toNat [] W=zbh 5 s (n.toNat - k) L q:=j;replace hq:i64 q:=hq;rw[j]at I;by_cases gk:(k:Int) < n
 ·have ao:n.toNat - k=(n.toNat - (k+1))+1:=by omega
  have ag:((k+1:Nat):Int)<=n:=by omega
  have Q:n.toNat - (k+1) < n.toNat - k:=by omega
  have R:k < 4611686018427387904:=by omega
  have Z:L.length < 1000000:=by omega
  have ap:=hq;have aa:=zbi F s q false V ap;have aj:=zbv (b:=false) V ap;have o:∃x a b,rdNum s q false=(x,a,b):=⟨_,_,_,rfl⟩
  obtain⟨n0,q1,b1,o⟩:=o;rw[o]at aa aj;have aq:i64 q1:=aj;have ab:=zbi F s q1 b1 V aq;have ak:=zbv (b:=b1) V aq;have p:∃x a b,rdNum s q1 b1=(x,a,b):=⟨_,_,_,rfl⟩
  obtain⟨B,q2,b2,p⟩:=p;rw[p]at ab ak;have ar:i64 q2:=ak;have ac:=zbi F s q2 b2 V ar;have al:=zbv (b:=b2) V ar;have u:∃x a b,rdNum s q2 b2=(x,a,b):=⟨_,_,_,rfl⟩
  obtain⟨D,q',b',u⟩:=u;rw[u]at ac al;have an:rdL 5 s q=(([],n0,B,D,0),q',b'):=by rw[rdL,if_neg (by decide),if_neg (by decide),if_neg (by decide),o];dsimp only;rw[p];dsimp only;rw[u]
  have am:i64 q':=al;clear o p u;rw[ao,zbh,an]at I j;dsimp only at I j;have T:b'=true->readR 5 s=none:=fun h=>by rw[I,if_pos (.inl h)]
  have U:fitsR 5 L ([],n0,B,D,0)=false->readR 5 s=none:=fun h=>by rw[I,if_pos (.inr h)]
  have ae:b'=false->fitsR 5 L ([],n0,B,D,0)=true->zbh 5 s n.toNat [] W=zbh 5 s (n.toNat - (k+1)) (L++[([],n0,B,D,0)]) q':=fun h1 h2=>by
   rw[j,if_neg (by rintro(h | h);rw[h1]at h;cases h;rw[h2]at h;cases h)]
  clear I j an;have ad:(L++[([],n0,B,D,0)]).length=k+1:=by rw[qd,jv,hL]
  rcases L with _ | ⟨l0,E⟩
  ·have hf:=zg8 F 5 [] c ([],n0,B,D,0) (by show 0 < 1000000;omega) Z (by decide);refine bri gk ?_;refine brd (by decide) ?_;conv=>whnf
   refine zbx hΘ 3 ?_;refine usePt d ?_;refine bre (by decide) ?_;refine useS aa [(1,2)] ⟨zam _ _ _,tv⟩ ⟨rfl,tv⟩ ?_;rintro f F1 M n0 i ⟨rfl,rfl,rfl,rfl⟩;refine⟨by decide,?_⟩;conv=>whnf
   refine sr_go hΘ ?_;refine usePt d ?_;refine bre (by decide) ?_;refine useS ab [(1,2)] ⟨zam _ _ _,tv⟩ ⟨rfl,tv⟩ ?_;rintro f F1 M n0 i ⟨rfl,rfl,rfl,rfl⟩;refine⟨by decide,?_⟩;conv=>whnf
   refine sr_go hΘ ?_;refine usePt d ?_;refine bre (by decide) ?_;refine useS ac [(1,2)] ⟨zam _ _ _,tv⟩ ⟨rfl,tv⟩ ?_;rintro f F1 M n0 i ⟨rfl,rfl,rfl,rfl⟩;refine⟨by decide,?_⟩;conv=>whnf
   refine sr_go hΘ ?_;refine usePt d ?_;refine brd (by decide) ?_;refine use hf [(1,4)] rfl ⟨rfl,rfl,rfl,tv⟩ rfl ⟨zab zaf _ _ _ _ _,tv⟩ (by simp[SV.below,SA.below,gA,encL]) ⟨zaj zaf (zao _ _ _ _),tv⟩ ?_;rintro f F1 M n0 i ⟨rfl,rfl,rfl,rfl⟩;rcases b' with _ | _
   ·refine br (fun g=>?_) (fun g=>?_)
    ·have e:=U (by simpa using g);exact zbm e rfl (Fz.r F)
    ·have w:=ae rfl (by simpa using g);clear g;refine⟨nb rfl,[encL ([],n0,B,D,0)],rfl,rfl,rfl,by show 1*48<=140737488355328;omega,fun c' hc=>?_⟩;exact⟨⟨(k+1,([])++[([],n0,B,D,0)],c',q'),ag,ad,w,am,q8 (qaa (by simp)) hc⟩,Q,leR [(4,7)] hH hT rfl ⟨tv,zai (by omega) _,zam _ _ _,zai (by omega) _,zab zaf _ _ _ _ _,tv⟩ ⟨cnt R,tv⟩ ⟨Fz.r F,rfl,rfl,zc2 (μ:=sig [(4,7)]) rfl rfl,zaj zaf (za3 _ (by simp)),tv⟩⟩
   ·have e:=T rfl;exact zbm e rfl (Fz.r F)
  ·have aw:(E.length+1+1)*48<=140737488355328:=by
    have h9:E.length+1 < 1000000:=Z;omega
   have hf:=zg8 F 5 (l0::E) c ([],n0,B,D,0) (by show 0 < 1000000;omega) Z (by decide);refine bri gk ?_;refine brd (by decide) ?_;conv=>whnf
   refine zbx hΘ 3 ?_;refine usePt d ?_;refine bre (by decide) ?_;refine useS aa [(1,2)] ⟨zam _ _ _,tv⟩ ⟨rfl,tv⟩ ?_;rintro f F1 M n0 i ⟨rfl,rfl,rfl,rfl⟩;refine⟨by decide,?_⟩;conv=>whnf
   refine sr_go hΘ ?_;refine usePt d ?_;refine bre (by decide) ?_;refine useS ab [(1,2)] ⟨zam _ _ _,tv⟩ ⟨rfl,tv⟩ ?_;rintro f F1 M n0 i ⟨rfl,rfl,rfl,rfl⟩;refine⟨by decide,?_⟩;conv=>whnf
   refine sr_go hΘ ?_;refine usePt d ?_;refine bre (by decide) ?_;refine useS ac [(1,2)] ⟨zam _ _ _,tv⟩ ⟨rfl,tv⟩ ?_;rintro f F1 M n0 i ⟨rfl,rfl,rfl,rfl⟩;refine⟨by decide,?_⟩;conv=>whnf
   refine sr_go hΘ ?_;refine usePt d ?_;refine brd (by decide) ?_;refine use hf [(1,4)] rfl ⟨rfl,⟨rfl,rfl,rfl,.inr ⟨rfl,rfl,rfl,rfl⟩⟩,rfl,tv⟩ rfl ⟨zab zaf _ _ _ _ _,tv⟩ (by simp[SV.below,SA.below,gA,encL]) ⟨zaj zaf (zao _ _ _ _),tv⟩ ?_;rintro f F1 M n0 i ⟨rfl,rfl,rfl,rfl⟩;rcases b' with _ | _
   ·refine br (fun g=>?_) (fun g=>?_)
    ·have e:=U (by simpa using g);exact zbm e rfl (Fz.r F)
    ·have w:=ae rfl (by simpa using g);clear g;refine⟨nb rfl,[encL ([],n0,B,D,0)],rfl,rfl,rfl,by simp,rfl,aw,fun c' hc=>?_⟩;exact⟨⟨(k+1,(l0::E)++[([],n0,B,D,0)],c',q'),ag,ad,w,am,q8 (qaa (by simp)) hc⟩,Q,leR [(4,7)] hH hT rfl ⟨tv,zai (by omega) _,zam _ _ _,zai (by omega) _,zab zaf _ _ _ _ _,tv⟩ ⟨cnt R,tv⟩ ⟨Fz.r F,rfl,rfl,zc2 (μ:=sig [(4,7)]) rfl rfl,zla zaf (l:=l0::E) rfl,tv⟩⟩
   ·have e:=T rfl;exact zbm e rfl (Fz.r F)
 ·have av:n.toNat - k=0:=by omega
  rw[av]at I
  have hv:(decide (q=(s.length:Int))=true/\readR 5 s=some ⟨false,L,0,0,[]⟩)\/(decide (q=(s.length:Int))=false/\readR 5 s=none):=by
   have J:readR 5 s=if q=(s.length:Int)then some ⟨false,L,0,0,[]⟩else none:=I
   by_cases K:q=(s.length:Int)
   ·rw[if_pos K]at J;exact .inl ⟨decide_eq_true K,J⟩
   ·rw[if_neg K]at J;exact .inr ⟨decide_eq_false K,J⟩
  clear I j;rcases L with _ | ⟨l0,E⟩
  ·refine brj gk ?_;refine dwS (lk [0,1,2,3,4,5,6,7] (.alt 8 (.look 9 .done) .nil)) [2,3] ?_;refine⟨rfl,rfl,Fz.r F,rfl,rfl,?_⟩;exact zb2 hv rfl (Fz.r F)
  ·refine brj gk ?_;refine dwS (lk [0,1,2,3,4,5,6,7] (.alt 8 (.look 9 .done) .nil)) [2,3] ?_;refine⟨rfl,rfl,Fz.r F,rfl,rfl,?_⟩;refine zck 4 (fun _=>.arr 191 5 ((l0::E).map encL) c) rfl rfl rfl (fun _ _=>by exact zcy zaf rfl _ _ _ _) (fun _ _=>zbj zaf _ _ _ _ _) ?_;intro b F' i hb;exact endFo (.ret (.tup [.agg (rvS ⟨false,l0::E,0,0,[]⟩ (.slice false 0 (b 0) 0 5 (E.length+1) c)),.va (.bool (decide (q=(s.length:Int))))])) F' rfl i (Fz.r F') ⟨_,_,_,rfl,Its.new (l:=l0::E) (hb 0 ⟨rfl,rfl⟩),hv,Y⟩ ⟨rfl,rfl,tv⟩ rfl
theorem z7i(F:Fz)(p:Int)(s:List UInt8)(b:s.length<=1000000000000000000):Fo Tryz.prog F 54 [.va (.int .i64 p),.va (.str s)] (zf1 p s):=by
 by_cases c:1<=p/\p<=8
 case neg=>exact zta F s p c
 by_cases a:s=[]
 ·subst a;exact zo5 F p c
 rcases p8 c with rfl | rfl | rfl | rfl | rfl | rfl | rfl | rfl
 ·exact zxf F s b a
 ·exact zxg F s b a
 ·exact zxh F s b a
 ·exact zxi F s b a
 ·exact zxj F s b a
 ·exact z1y F s b a
 ·exact z1z F s b a
 ·exact z2a F s b a
