import Derived.Test.YtfnkamphhpldcaaGreatDoorK31
import Derived.Test.YtfnkamphhpldcaaGreatDoorK22
import Derived.Test.YtfnkamphhpldcaaGreatDoorK24
import Derived.Lib.UnsafeStr
import Derived.Test.YtfnkamphhpldcaaGreatDoorK11
set_option maxHeartbeats 64000000
namespace Go.Proofs.YtfnkamphhpldcaaGreatDoor
open Go Go.RowKit Sx
theorem zq9 {h:Hp} {nx:Nat} {K:Out → Hp → Nat → Prop} {i:Nat} {bf:SA} (he:lget h i = some (.one (.cells 174 [.nilptr,bf])))
  (hk:K (.ret (.tup [])) (lput h i (.one (.cells 174 [.ptr ⟨i,0,0,0,0⟩,bf]))) nx):za6 Tryz.prog 256 [.va (.ptr ⟨i,0,0,0,0⟩)] h nx K:=by
 unfold za6
 intro C ρ w vs S hr hb
 refine ⟨Sx.enters_of Tryz.func256 rfl (by decide),?_⟩
 match vs,hr with
 |[v],hr=>
  have hv:v = .pointer (some ⟨ρ i 0,0,none⟩):=by
   have h1:=hr.1
   simpa [SV.rel,SA.den,Pl.addr] using h1
  subst hv
  have has:(Ent.one (.cells 174 [.nilptr,bf])).has 0:=rfl
  obtain ⟨o,ho,hok⟩:=S.blk i _ he 0 has
  have hwf:=S.wf i _ he 0 has
  have hlt:=S.lt i _ he
  have hrow:RowAt w (ρ i 0) 174 ([SA.nilptr,bf].map (SA.den ρ)):=⟨o,ho,hok⟩
  have c0:w.cell? ⟨ρ i 0,0,none⟩ = some (.pointer none):=by rw [hrow.cell]; rfl
  have hfz:=hrow.free 0 (by simp)
  obtain ⟨fr,hfr,rfl⟩:=hok
  have hsh:w.shape? (ρ i 0) = some (174,2):=by simp [World.shape?,ho]
  refine (z0o (ρ i 0) w c0 hsh hfz).mono ?_
  rintro e w' ⟨rfl,rfl⟩
  rw [setCell_eq_setRow w (ρ i 0) 0 _ 174 fr _ ho]
  refine ⟨.ret (.tup []),_,nx,ρ,hk,⟨_,rfl,rfl⟩,?_,fun _ _=>rfl,qf _,?_⟩
  ·exact S.upd 0 he rfl rfl has (fun _=>Iff.rfl) _ (fun k' hk' h2=>absurd (show k' = 0 from h2) hk') ⟨fr,hfr,rfl⟩ (fun a ha=>by
    simp only [qj,qq,or_false] at ha
    rcases ha with rfl | rfl
    ·exact hlt
    ·exact hwf a (by simp)) rfl rfl rfl (by simp) (setRow_heap w _ _ _ 174 _ ho) (fun b hb'=>zea w _ b _ hb')
  ·intro c hc
   cases hc
theorem zmz {h:Hp} {nx:Nat} {K:Out → Hp → Nat → Prop} {i:Nat} {bf:SA} (he:lget h i = some (.one (.cells 174 [.ptr ⟨i,0,0,0,0⟩,bf])))
  (hk:K (.ret (.tup [])) h nx):za6 Tryz.prog 256 [.va (.ptr ⟨i,0,0,0,0⟩)] h nx K:=by
 unfold za6
 intro C ρ w vs S hr hb
 refine ⟨Sx.enters_of Tryz.func256 rfl (by decide),?_⟩
 match vs,hr with
 |[v],hr=>
  have hv:v = .pointer (some ⟨ρ i 0,0,none⟩):=by
   have h1:=hr.1
   simpa [SV.rel,SA.den,Pl.addr] using h1
  subst hv
  have has:(Ent.one (.cells 174 [.ptr ⟨i,0,0,0,0⟩,bf])).has 0:=rfl
  obtain ⟨o,ho,hok⟩:=S.blk i _ he 0 has
  have hrow:RowAt w (ρ i 0) 174 ([SA.ptr ⟨i,0,0,0,0⟩,bf].map (SA.den ρ)):=⟨o,ho,hok⟩
  have c0:w.cell? ⟨ρ i 0,0,none⟩ = some (.pointer (some ⟨ρ i 0,0,none⟩)):=by rw [hrow.cell]; simp [SA.den,Pl.addr]
  refine (z5w (ρ i 0) w c0).mono ?_
  rintro e w' ⟨rfl,rfl⟩
  exact ⟨.ret (.tup []),h,nx,ρ,hk,⟨_,rfl,rfl⟩,S,fun _ _=>rfl,qf _,fun c hc=>by cases hc⟩
end Go.Proofs.YtfnkamphhpldcaaGreatDoor
namespace Go.Proofs.YtfnkamphhpldcaaGreatDoor
open Go Sx
set_option maxRecDepth 100000
def wrA (u:Bool) (i:Nat):SA:=match u with
 |false=>.nilptr
 |true=>.ptr ⟨i,0,0,0,0⟩
def wrC (u:Bool) (i j c:Nat) (l:List UInt8):Ent:=.one (.cells 174 [wrA u i,gA 1 j c l])
theorem zao {n i j:Nat} (u:Bool) (hi:i < n) (hj:j < n) (c:Nat) (l:List UInt8):(wrC u i j c l).below n:=by
 cases u<;>intro a ha<;>simp only [qj,qq,or_false] at ha<;>rcases ha with rfl | rfl
 ·trivial
 ·cases l with
  |nil=>trivial
  |cons x r=>exact .inr hj
 ·exact hi
 ·cases l with
  |nil=>trivial
  |cons x r=>exact .inr hj
theorem zd4 {μ:Mu} {u:Bool} {i i' j j':Nat} (hi:μ i 0 = (i',0)) (hj:μ j 0 = (j',0)) (c:Nat) (l:List UInt8):(wrC u i j c l).ren μ = wrC u i' j' c l:=by
 cases u
 ·show Ent.one (.cells _ [.nilptr,(gA 1 j c l).ren μ]) = _
  rw [zsn hj]; rfl
 ·show Ent.one (.cells _ [.ptr ⟨(μ i 0).1,(μ i 0).2 + 0,0,0,0⟩,(gA 1 j c l).ren μ]) = _
  rw [zsn hj,hi]; rfl
theorem zbq {μ:Mu} {u:Bool} {i i' j j' c:Nat} {l:List UInt8} (hi:μ i 0 = (i',0)) (hj:μ j 0 = (j',0)):subE (some (wrC u i' j' c l)) ((wrC u i j c l).ren μ):=by
 rw [zd4 hi hj]; cases u<;>exact rfl
theorem zql {μ:Mu} {i i' j j' c n:Nat} {x:UInt8} {l:List UInt8} (hi:μ i 0 = (i',0)) (hj:μ j 0 = (j',0)) (hn:n = l.length + 1):subE (some (.one (.cells 174 [.ptr ⟨i',0,0,0,0⟩,.slice false j' 0 0 1 n c]))) ((wrC true i j c (x :: l)).ren μ):=by
 subst hn; rw [zd4 hi hj]; exact rfl
abbrev wrN (c:Nat) (l:List UInt8):List (Nat × Ent):=[(1,wrC true 1 3 c l),(2,.gone),(3,gE 5 1 encB c l)]
theorem zf7 (c:Nat) (l:List UInt8):bH 4 (wrN c l):=⟨zao _ (by omega) (by omega) _ _,tv,zai zab _ _ _ _ _,tv⟩
abbrev wrH (u:Bool) (c:Nat) (l:List UInt8):List (Nat × Ent):=[(1,wrC u 1 2 c l),(2,gE 5 1 encB c l)]
theorem zv9 (F:Fz) (u:Bool) (s out:List UInt8) (c:Nat) (hu:u = false → out = []) (hs:s.length ≤ 1000000000000) (ho:out.length ≤ 1000000000000) :
  Ct Tryz.prog 224 [.va (.ptr ⟨1,0,0,0,0⟩),.va (.str s)] F (wrH u c out) 3
   (fun o F0 h0 n0=>F = F0 ∧ n0 = 4 ∧ o = .ret (.tup [.va (.int .i64 s.length),.va .nilif]) ∧ ∃ c',h0 = wrN c' (out ++ s)):=by
 rcases u with _ | _
 ·obtain rfl:=hu rfl
  rcases s with _ | ⟨b,t⟩
  ·refine ct_of hΘ Tryz.func224 rfl (by decide) _ _ rfl rfl rfl ?_;conv=>whnf
   refine zq9 rfl ?_;conv=>whnf
   refine ⟨rfl,rfl,?_⟩;conv=>whnf
   exact clean [(3,2)] (.ret (.tup [.va (.int .i64 0),.va .nilif])) F (wrN c []) 4 ⟨Fz.r F,rfl,rfl,rfl,c,rfl⟩ (zaj _) rfl rfl (Out.bB_ok (o:=.ret (.tup [.va (.int .i64 0),.va .nilif])) rfl) (zf7 _ _) ⟨Fz.r F,rfl,zav zab (zax _ _ _ _),tv⟩
  ·refine ct_of hΘ Tryz.func224 rfl (by decide) _ _ rfl rfl rfl ?_;conv=>whnf
   refine zq9 rfl ?_;conv=>whnf
   refine ⟨rfl,rfl,?_⟩;conv=>whnf
   refine ⟨by show ((t.map fun b:UInt8=>[SA.int .u8 b.toNat]).length + 1) * 1 ≤ 140737488355328; rw [qb]; simp at hs; omega,fun c' hc=>?_⟩
   clear hc;conv=>whnf
   exact clean [(3,3)] (.ret (.tup [.va (.int .i64 (b :: t).length),.va .nilif])) F (wrN c' (b :: t)) 4 ⟨Fz.r F,rfl,rfl,rfl,c',rfl⟩ (zaj _) rfl rfl (Out.bB_ok (o:=.ret (.tup [.va (.int .i64 (b :: t).length),.va .nilif])) rfl) (zf7 _ _) ⟨Fz.r F,zql (i:=1) (i':=1) (j:=3) (j':=3) (by rfl) (by rfl) (by simp),zav zab (zcg _ (by rfl)),tv⟩
 ·rcases out with _ | ⟨x,r⟩
  ·rcases s with _ | ⟨b,t⟩
   ·refine ct_of hΘ Tryz.func224 rfl (by decide) _ _ rfl rfl rfl ?_;conv=>whnf
    refine zmz rfl ?_;conv=>whnf
    refine ⟨rfl,rfl,?_⟩;conv=>whnf
    exact clean [(3,2)] (.ret (.tup [.va (.int .i64 0),.va .nilif])) F (wrN c []) 4 ⟨Fz.r F,rfl,rfl,rfl,c,rfl⟩ (zaj _) rfl rfl (Out.bB_ok (o:=.ret (.tup [.va (.int .i64 0),.va .nilif])) rfl) (zf7 _ _) ⟨Fz.r F,rfl,zav zab (zax _ _ _ _),tv⟩
   ·refine ct_of hΘ Tryz.func224 rfl (by decide) _ _ rfl rfl rfl ?_;conv=>whnf
    refine zmz rfl ?_;conv=>whnf
    refine ⟨rfl,rfl,?_⟩;conv=>whnf
    refine ⟨by show ((t.map fun b:UInt8=>[SA.int .u8 b.toNat]).length + 1) * 1 ≤ 140737488355328; rw [qb]; simp at hs; omega,fun c' hc=>?_⟩
    clear hc;conv=>whnf
    exact clean [(3,3)] (.ret (.tup [.va (.int .i64 (b :: t).length),.va .nilif])) F (wrN c' (b :: t)) 4 ⟨Fz.r F,rfl,rfl,rfl,c',rfl⟩ (zaj _) rfl rfl (Out.bB_ok (o:=.ret (.tup [.va (.int .i64 (b :: t).length),.va .nilif])) rfl) (zf7 _ _) ⟨Fz.r F,zql (i:=1) (i':=1) (j:=3) (j':=3) (by rfl) (by rfl) (by simp),zav zab (zcg _ (by rfl)),tv⟩
  ·refine ct_of hΘ Tryz.func224 rfl (by decide) _ _ rfl rfl rfl ?_;conv=>whnf
   refine zmz rfl ?_;conv=>whnf
   refine ⟨rfl,rfl,by simp,rfl,by rw [qb]; show (r.length + 1 + s.length) * 1 ≤ 140737488355328; simp at ho; omega,fun c' hc=>?_⟩
   clear hc;conv=>whnf
   exact clean [(3,3)] (.ret (.tup [.va (.int .i64 s.length),.va .nilif])) F (wrN c' (x :: (r ++ s))) 4 ⟨Fz.r F,rfl,rfl,rfl,c',rfl⟩ (zaj _) rfl rfl (Out.bB_ok (o:=.ret (.tup [.va (.int .i64 s.length),.va .nilif])) rfl) (zf7 _ _) ⟨Fz.r F,zql (i:=1) (i':=1) (j:=3) (j':=3) (by rfl) (by rfl) (by rw [qb,qa]; omega),zav zab (zcg _ (by show ((x :: r).map encB) ++ (s.map encB) = (x :: (r ++ s)).map encB; simp)),tv⟩
theorem zbv {τ μ:Mu} {u:Bool} {a i b j k i' j' c:Nat} {l:List UInt8} (h1:τ a 0 = (i',0)) (h2:μ i 0 = (i',0)) (h3:τ b 0 = (j',0)) (h4:μ j 0 = (j',0)) (hk:k = i):subE (some ((wrC u a b c l).ren τ)) ((wrC u k j c l).ren μ):=by
 subst hk
 rw [zd4 h1 h3,zd4 h2 h4]; cases u<;>exact rfl
abbrev wrM (u:Bool) (c:Nat) (l:List UInt8):List (Nat × Ent):=[(1,wrC u 1 3 c l),(2,.gone),(3,gE 5 1 encB c l)]
theorem zb4 (u:Bool) (c:Nat) (l:List UInt8):bH 4 (wrM u c l):=⟨zao _ (by omega) (by omega) _ _,tv,zai zab _ _ _ _ _,tv⟩
abbrev wrK (F:Fz) (out:List UInt8):Out → Fz → List (Nat × Ent) → Nat → Prop:=fun o F0 h0 n0=>F = F0 ∧ n0 = 4 ∧ o = .ret (.tup []) ∧ ∃ u' c',(u' = false → out = []) ∧ h0 = wrM u' c' out
theorem zsc (hP:PFun) (F:Fz) (u:Bool) (s out:List UInt8) (c:Nat) (hu:u = false → out = []) (hs:s.length ≤ 1000000000) (ho:out.length ≤ 1000000000000) :
  Ct Tryz.prog 160 [.va (.ptr ⟨1,0,0,0,0⟩),.va (.str s)] F (wrH u c out) 3 (wrK F (out ++ (putSR s).1)):=by
 have hps:=zd8 hP F s (by omega)
 have hl:=zdg s
 have ht:∃ t,(putSR s).1 = t:=⟨_,rfl⟩
 obtain ⟨t,ht⟩:=ht
 rw [ht] at hps hl ⊢
 refine ct_of hΘ Tryz.func160 rfl (by decide) _ _ rfl rfl rfl ?_;conv=>whnf
 refine usePu (hps) rfl (zaa _) rfl ?_;conv=>whnf
 refine use (zv9 F u t out c hu (by omega) ho) [(1,1),(2,2)] rfl ⟨rfl,rfl,tv⟩ rfl ⟨zao _ (by omega) (by omega) _ _,zai zab _ _ _ _ _,tv⟩ (by simp [SV.below,SA.below]) ⟨zbq (by rfl) (by rfl),zav zab (zax _ _ _ _),tv⟩ ?_
 rintro _ F' _ _ hle ⟨rfl,rfl,rfl,c1,rfl⟩;conv=>whnf
 exact clean [(3,3)] (.ret (.tup [])) F (wrM true c1 (out ++ t)) 4 ⟨Fz.r F,rfl,rfl,rfl,true,c1,fun h=>absurd h (by simp),rfl⟩ trivial rfl rfl (Out.bB_ok (o:=.ret (.tup [])) rfl) (zb4 _ _ _) ⟨Fz.r F,zbv (i':=1) (j':=3) (by rfl) (by rfl) (by rfl) (by rfl) rfl,zbb zab,tv⟩
theorem zdm (hP:PFun) (F:Fz) (sa:SA) (l:List Int) (u:Bool) (out:List UInt8) (c:Nat) (hu:u = false → out = []) (ha:zd7 F sa l) (hl:l.length < 1000000) (ho:out.length ≤ 900000000000) :
  Ct Tryz.prog 159 [.va (.ptr ⟨1,0,0,0,0⟩),.va sa] F (wrH u c out) 3 (wrK F (out ++ zae l)):=by
 obtain ⟨han,hab,hae,hac,haL,har,rfl,ha1,ha2,ha3,ha4⟩:=ha
 refine ct_of hΘ Tryz.func159 rfl (by decide) _ _ rfl rfl rfl ?_;conv=>whnf
 refine zan hΘ (X:={ x:Nat × List UInt8 × Nat × Bool // x.1 ≤ l.length ∧ x.2.1 = out ++ ((l.take x.1).map fun n=>(putIR n).1).flatten ∧ (x.2.2.2 = false → x.2.1 = []) }) (fun x=>[(10,.va (.int .i64 x.1.1))]) [5,6,7,11,12,13,14,15,16,17,18,19,20,21,22,23,24]
  (fun x=>[(0,.frz F),(1,wrC x.1.2.2.2 1 3 x.1.2.2.1 x.1.2.1),(2,.gone),(3,gE 5 1 encB x.1.2.2.1 x.1.2.1)]) 4 (fun x=>l.length - x.1.1) ⟨(0,out,c,u),by simpa using hu⟩
  (fun hH hT=>leI [(3,2)] hH hT rfl ⟨tv,zao _ (by omega) (by omega) _ _,tv,zai zab _ _ _ _ _,tv⟩ ⟨rfl,tv⟩ ⟨Fz.r F,zbq (by rfl) (by rfl),zav zab (zax _ _ _ _),tv⟩) ?_
 rintro ⟨⟨k,ob,cb,ub⟩,hk,hob,hub⟩ hH hT
 replace hk:k ≤ l.length:=hk
 replace hob:ob = out ++ ((l.take k).map fun n=>(putIR n).1).flatten:=hob
 replace hub:ub = false → ob = []:=hub
 have hlen:ob.length ≤ 1000000000000:=by
  have h9:=zfn zd3 (l.take k)
  rw [qn] at h9
  rw [hob,qa]; omega
 conv=>whnf
 refine br (fun gb=>?_) (fun gb=>?_)
 ·have gk:k < l.length:=by simpa using gb
  clear gb
  have hps:=hP F l[k]
  have ht:∃ t,(putIR l[k]).1 = t:=⟨_,rfl⟩
  obtain ⟨t,ht⟩:=ht
  have htl:=zd3 l[k]
  have hob2:ob ++ t = out ++ ((l.take (k + 1)).map fun n=>(putIR n).1).flatten:=by rw [zbo gk,ht,hob,qk]
  rw [ht] at hps htl
  conv=>whnf
  refine ⟨Sl.lt ha1 gk,⟨by simp,by simpa using gk⟩,?_⟩;conv=>whnf
  refine ⟨_,ha2 (Sl.lt ha1 gk),?_⟩;conv=>whnf
  refine ⟨_,Sl.at ha4 gk,?_⟩;conv=>whnf
  refine usePu (hps) rfl (zaa _) rfl ?_;conv=>whnf
  refine use (zv9 F ub t ob cb hub (by omega) hlen) [(1,1),(2,3)] rfl ⟨rfl,rfl,tv⟩ rfl ⟨zao _ (by omega) (by omega) _ _,zai zab _ _ _ _ _,tv⟩ (by simp [SV.below,SA.below]) ⟨zbq (by rfl) (by rfl),zav zab (zax _ _ _ _),tv⟩ ?_
  rintro _ F' _ _ hle ⟨rfl,rfl,rfl,c1,rfl⟩;conv=>whnf
  exact ⟨⟨(k + 1,ob ++ t,c1,true),by show k + 1 ≤ l.length; omega,hob2,fun h=>absurd h (by simp)⟩,by show l.length - (k + 1) < l.length - k; omega,leR [(3,4)] hH hT rfl ⟨tv,zao _ (by omega) (by omega) _ _,tv,zai zab _ _ _ _ _,tv⟩ ⟨cnt (by omega),tv⟩ ⟨Fz.r F,zbv (i':=1) (j':=4) (by rfl) (by rfl) (by rfl) (by rfl) rfl,zbb zab,tv⟩⟩
 ·have gk:¬ k < l.length:=by simpa using gb
  have hfin:ob = out ++ zae l:=by rw [hob,zae,qm (by omega)]
  conv=>whnf
  exact clean [(3,3)] (.ret (.tup [])) F (wrM ub cb ob) 4 ⟨Fz.r F,rfl,rfl,rfl,ub,cb,by rw [← hfin]; exact hub,by rw [hfin]⟩ trivial rfl rfl (Out.bB_ok (o:=.ret (.tup [])) rfl) (zb4 _ _ _) ⟨Fz.r F,zbq (by rfl) (by rfl),zav zab (zax _ _ _ _),tv⟩
abbrev wrL (out:List UInt8):Out → Fz → List (Nat × Ent) → Nat → Prop:=fun o F0 h0 n0=>n0 = 4 ∧ o = .ret (.tup []) ∧ ∃ u' c',(u' = false → out = []) ∧ h0 = wrM u' c' out
def ptext (L:List DLn):List UInt8:=zae [(L.length:Int)] ++ (L.map fun x=>(putSR x.1).1).flatten
def pmot (L:List DLn):List UInt8:=zae [(L.length:Int)] ++ (L.map fun x=>zae [x.2]).flatten
theorem zkj:∀ (L:List DLn),(∀ x ∈ L,x.1.length ≤ 1000000) → ((L.map fun x=>(putSR x.1).1).flatten).length ≤ L.length * 2000000
 |[],_=>by simp
 |x :: r,h=>by
  have h1:=zdg x.1
  have h2:=h x (by simp)
  have h3:=zkj r fun y hy=>h y (by simp [hy])
  rw [qx,jy,qa,qe]
  omega
theorem zmr:∀ (L:List DLn),((L.map fun x=>zae [x.2]).flatten).length ≤ L.length * 1000
 |[]=>by simp
 |x :: r=>by
  have h1:=zaz [x.2]
  have h3:=zmr r
  rw [yf] at h1
  rw [qx,jy,qa,qe]
  omega
theorem z6s (hP:PFun) (F:Fz) (an:Bool) (ab ae ac:Nat) (bn:Bool) (bb be bl bc:Nat) (L:List DLn) (w:Int) (s:List UInt8) (ha:Sl F 148 2 encN (.slice an 0 ab ae 2 L.length ac) L) (hl:L.length ≤ 1000) (hx:∀ x ∈ L,x.1.length ≤ 1000000) :
  Ct Tryz.prog 158 [.agg (docS (.slice an 0 ab ae 2 L.length ac) (.slice bn 0 bb be 6 bl bc) w s),.va (.ptr ⟨1,0,0,0,0⟩)] F (wrH false 0 []) 3 (wrL (ptext L)):=by
 obtain ⟨han,hab,hae,hac,haL,har,heq,ha1,ha2,ha3,ha4⟩:=ha
 cases heq
 refine ct_of hΘ Tryz.func158 rfl (by decide) _ _ rfl rfl rfl ?_;conv=>whnf
 refine za0 4 (fun _=>.arr 3 1 ([((L.length:Nat):Int)].map encI) 1) rfl rfl rfl (fun _ _=>rfl) (fun _ _=>SB.bB_ok rfl) ?_
 intro b1 F1 l1 hb1
 refine use (zdm hP F1 _ [((L.length:Nat):Int)] false [] 0 (fun _=>rfl) (Sl.new (l:=[((L.length:Nat):Int)]) (cap:=1) (hb1 0 rfl)) (by simp) (by simp)) [(1,1),(2,2)] rfl ⟨rfl,⟨rfl,rfl,rfl,.inr ⟨rfl,rfl,rfl,rfl⟩⟩,tv⟩ rfl ⟨zao _ (by omega) (by omega) _ _,zai zab _ _ _ _ _,tv⟩ (by simp [SV.below,SA.below]) ⟨zbq (by rfl) (by rfl),zav zab (zax _ _ _ _),tv⟩ ?_
 rintro out0 F' h0 n0 hle ⟨rfl,rfl,rfl,u1,c1,hu1,rfl⟩;conv=>whnf
 refine zan hΘ (X:={ x:Nat × List UInt8 × Nat × Bool // x.1 ≤ L.length ∧ x.2.1 = zae [((L.length:Nat):Int)] ++ ((L.take x.1).map fun x=>(putSR x.1).1).flatten ∧ (x.2.2.2 = false → x.2.1 = []) }) (fun x=>[(17,.va (.int .i64 x.1.1))]) [5,18,19,20,21,22,23,24,25]
  (fun x=>[(0,.frz F1),(1,wrC x.1.2.2.2 1 6 x.1.2.2.1 x.1.2.1),(3,docE4 (.slice an 0 ab ae 2 L.length ac) (.slice bn 0 bb be 6 bl bc) w s),(5,.gone),(6,gE 5 1 encB x.1.2.2.1 x.1.2.1)]) 7 (fun x=>L.length - x.1.1) ⟨(0,[] ++ zae [((L.length:Nat):Int)],c1,u1),by simpa using hu1⟩
  (fun hH hT=>leI [(6,5)] hH hT rfl ⟨tv,zao _ (by omega) (by omega) _ _,zbi (.inr (by omega)) (.inr (by omega)),tv,zai zab _ _ _ _ _,tv⟩ ⟨rfl,tv⟩ ⟨Fz.r F1,zbv (i':=1) (j':=5) (by rfl) (by rfl) (by rfl) (by rfl) rfl,rfl,zbb zab,tv⟩) ?_
 rintro ⟨⟨k,ob,cb,ub⟩,hk,hob,hub⟩ hH hT
 replace hk:k ≤ L.length:=hk
 replace hob:ob = zae [((L.length:Nat):Int)] ++ ((L.take k).map fun x=>(putSR x.1).1).flatten:=hob
 replace hub:ub = false → ob = []:=hub
 have hlen:ob.length ≤ 100000000000:=by
  have h9:=zkj (L.take k) (fun x hx0=>hx x (jv hx0))
  have h8:=zaz [((L.length:Nat):Int)]
  rw [qn] at h9
  rw [yf] at h8
  rw [hob,qa]; omega
 by_cases g:k < L.length
 ·have hlt:(k:Int) < (L.length:Nat):=by omega
  have hidx:0 ≤ (k:Int) ∧ (k:Int) < (L.length:Nat):=by omega
  have hex:∃ t m,L[k] = (t,m):=⟨_,_,rfl⟩
  obtain ⟨t,m,hLk⟩:=hex
  have hat:haL[ae + (k:Int).toNat]? = some (encN (t,m)):=by rw [← hLk]; exact Sl.at ha4 g
  have htl:t.length ≤ 1000000:=by have:=hx _ (jj g); rw [hLk] at this; exact this
  have hob2:ob ++ (putSR t).1 = zae [((L.length:Nat):Int)] ++ ((L.take (k + 1)).map fun x=>(putSR x.1).1).flatten:=by rw [zbo g,hLk,hob,qk]
  have hk1:k + 1 ≤ L.length:=g
  have hdec:L.length - (k + 1) < L.length - k:=by omega
  have hk62:k < 4611686018427387904:=by omega
  have hblk:=l1 _ _ (ha2 (Sl.lt ha1 g))
  conv=>whnf
  refine bri hlt ?_;conv=>whnf
  refine ⟨Sl.lt ha1 g,hidx,?_⟩;conv=>whnf
  refine ⟨_,hblk,?_⟩;conv=>whnf
  refine ⟨_,hat,?_⟩;conv=>whnf
  refine use (zsc hP F1 ub t ob cb hub (by omega) (by omega)) [(1,1),(2,6)] rfl ⟨rfl,rfl,tv⟩ rfl ⟨zao _ (by omega) (by omega) _ _,zai zab _ _ _ _ _,tv⟩ (by simp [SV.below,SA.below]) ⟨zbq (by rfl) (by rfl),zav zab (zax _ _ _ _),tv⟩ ?_
  rintro out0 F' h0 n0 hle ⟨rfl,rfl,rfl,u2,c2,hu2,rfl⟩;conv=>whnf
  exact ⟨⟨(k + 1,ob ++ (putSR t).1,c2,u2),hk1,hob2,hu2⟩,hdec,leR [(6,8)] hH hT rfl ⟨tv,zao _ (by omega) (by omega) _ _,zbi (.inr (by omega)) (.inr (by omega)),tv,zai zab _ _ _ _ _,tv⟩ ⟨cnt hk62,tv⟩ ⟨Fz.r F1,zbv (i':=1) (j':=8) (by rfl) (by rfl) (by rfl) (by rfl) rfl,rfl,zbb zab,tv⟩⟩
 ·have hlt:¬ (k:Int) < (L.length:Nat):=by omega
  have hfin:ob = ptext L:=by rw [hob,ptext,qm (by omega)]
  conv=>whnf
  refine brj hlt ?_;conv=>whnf
  exact clean [(3,6)] (.ret (.tup [])) F1 (wrM ub cb ob) 4 ⟨l1,rfl,rfl,ub,cb,by rw [← hfin]; exact hub,by rw [hfin]⟩ trivial rfl rfl (Out.bB_ok (o:=.ret (.tup [])) rfl) (zb4 _ _ _) ⟨Fz.r F1,zbq (by rfl) (by rfl),zav zab (zax _ _ _ _),tv⟩
theorem z7s (hP:PFun) (F:Fz) (an:Bool) (ab ae ac:Nat) (bn:Bool) (bb be bl bc:Nat) (L:List DLn) (w:Int) (s:List UInt8) (ha:Sl F 148 2 encN (.slice an 0 ab ae 2 L.length ac) L) (hl:L.length ≤ 1000) :
  Ct Tryz.prog 161 [.agg (docS (.slice an 0 ab ae 2 L.length ac) (.slice bn 0 bb be 6 bl bc) w s),.va (.ptr ⟨1,0,0,0,0⟩)] F (wrH false 0 []) 3 (wrL (pmot L)):=by
 obtain ⟨han,hab,hae,hac,haL,har,heq,ha1,ha2,ha3,ha4⟩:=ha
 cases heq
 refine ct_of hΘ Tryz.func161 rfl (by decide) _ _ rfl rfl rfl ?_;conv=>whnf
 refine za0 4 (fun _=>.arr 3 1 ([((L.length:Nat):Int)].map encI) 1) rfl rfl rfl (fun _ _=>rfl) (fun _ _=>SB.bB_ok rfl) ?_
 intro b1 F1 l1 hb1
 refine use (zdm hP F1 _ [((L.length:Nat):Int)] false [] 0 (fun _=>rfl) (Sl.new (l:=[((L.length:Nat):Int)]) (cap:=1) (hb1 0 rfl)) (by simp) (by simp)) [(1,1),(2,2)] rfl ⟨rfl,⟨rfl,rfl,rfl,.inr ⟨rfl,rfl,rfl,rfl⟩⟩,tv⟩ rfl ⟨zao _ (by omega) (by omega) _ _,zai zab _ _ _ _ _,tv⟩ (by simp [SV.below,SA.below]) ⟨zbq (by rfl) (by rfl),zav zab (zax _ _ _ _),tv⟩ ?_
 rintro out0 F' h0 n0 hle ⟨rfl,rfl,rfl,u1,c1,hu1,rfl⟩;conv=>whnf
 refine zan hΘ (X:={ x:Nat × List UInt8 × Nat × Bool × Fz // Fz.le F x.2.2.2.2 ∧ x.1 ≤ L.length ∧ x.2.1 = zae [((L.length:Nat):Int)] ++ ((L.take x.1).map fun x=>zae [x.2]).flatten ∧ (x.2.2.2.1 = false → x.2.1 = []) }) (fun x=>[(17,.va (.int .i64 x.1.1))]) [5,18,19,20,21,22,23,24,25,26]
  (fun x=>[(0,.frz x.1.2.2.2.2),(1,wrC x.1.2.2.2.1 1 6 x.1.2.2.1 x.1.2.1),(3,docE4 (.slice an 0 ab ae 2 L.length ac) (.slice bn 0 bb be 6 bl bc) w s),(5,.gone),(6,gE 5 1 encB x.1.2.2.1 x.1.2.1)]) 7 (fun x=>L.length - x.1.1) ⟨(0,[] ++ zae [((L.length:Nat):Int)],c1,u1,F1),l1,by simpa using hu1⟩
  (fun hH hT=>leI [(6,5)] hH hT rfl ⟨tv,zao _ (by omega) (by omega) _ _,zbi (.inr (by omega)) (.inr (by omega)),tv,zai zab _ _ _ _ _,tv⟩ ⟨rfl,tv⟩ ⟨Fz.r F1,zbv (i':=1) (j':=5) (by rfl) (by rfl) (by rfl) (by rfl) rfl,rfl,zbb zab,tv⟩) ?_
 rintro ⟨⟨k,ob,cb,ub,G⟩,hG,hk,hob,hub⟩ hH hT
 replace hG:Fz.le F G:=hG
 replace hk:k ≤ L.length:=hk
 replace hob:ob = zae [((L.length:Nat):Int)] ++ ((L.take k).map fun x=>zae [x.2]).flatten:=hob
 replace hub:ub = false → ob = []:=hub
 have hlen:ob.length ≤ 100000000000:=by
  have h9:=zmr (L.take k)
  have h8:=zaz [((L.length:Nat):Int)]
  rw [qn] at h9
  rw [yf] at h8
  rw [hob,qa]; omega
 by_cases g:k < L.length
 ·have hlt:(k:Int) < (L.length:Nat):=by omega
  have hidx:0 ≤ (k:Int) ∧ (k:Int) < (L.length:Nat):=by omega
  have hex:∃ t m,L[k] = (t,m):=⟨_,_,rfl⟩
  obtain ⟨t,m,hLk⟩:=hex
  have hat:haL[ae + (k:Int).toNat]? = some (encN (t,m)):=by rw [← hLk]; exact Sl.at ha4 g
  have hob2:ob ++ zae [m] = zae [((L.length:Nat):Int)] ++ ((L.take (k + 1)).map fun x=>zae [x.2]).flatten:=by rw [zbo g,hLk,hob,qk]
  have hk1:k + 1 ≤ L.length:=g
  have hdec:L.length - (k + 1) < L.length - k:=by omega
  have hk62:k < 4611686018427387904:=by omega
  have hblk:=hG _ _ (ha2 (Sl.lt ha1 g))
  conv=>whnf
  refine bri hlt ?_;conv=>whnf
  refine ⟨Sl.lt ha1 g,hidx,?_⟩;conv=>whnf
  refine ⟨_,hblk,?_⟩;conv=>whnf
  refine ⟨_,hat,?_⟩;conv=>whnf
  refine za0 8 (fun _=>.arr 3 1 ([m].map encI) 1) rfl rfl rfl (fun _ _=>rfl) (fun _ _=>SB.bB_ok rfl) ?_
  intro b2 F2 l2 hb2
  refine use (zdm hP F2 _ [m] ub ob cb hub (Sl.new (l:=[m]) (cap:=1) (hb2 0 rfl)) (by simp) (by omega)) [(1,1),(2,6)] rfl ⟨rfl,⟨rfl,rfl,rfl,.inr ⟨rfl,rfl,rfl,rfl⟩⟩,tv⟩ rfl ⟨zao _ (by omega) (by omega) _ _,zai zab _ _ _ _ _,tv⟩ (by simp [SV.below,SA.below]) ⟨zbq (by rfl) (by rfl),zav zab (zax _ _ _ _),tv⟩ ?_
  rintro out0 F' h0 n0 hle ⟨rfl,rfl,rfl,u2,c2,hu2,rfl⟩;conv=>whnf
  exact ⟨⟨(k + 1,ob ++ zae [m],c2,u2,F2),Fz.t hG l2,hk1,hob2,hu2⟩,hdec,leR [(6,9)] hH hT rfl ⟨tv,zao _ (by omega) (by omega) _ _,zbi (.inr (by omega)) (.inr (by omega)),tv,zai zab _ _ _ _ _,tv⟩ ⟨cnt hk62,tv⟩ ⟨Fz.r F2,zbv (i':=1) (j':=9) (by rfl) (by rfl) (by rfl) (by rfl) rfl,rfl,zbb zab,tv⟩⟩
 ·have hlt:¬ (k:Int) < (L.length:Nat):=by omega
  have hfin:ob = pmot L:=by rw [hob,pmot,qm (by omega)]
  conv=>whnf
  refine brj hlt ?_;conv=>whnf
  exact clean [(3,6)] (.ret (.tup [])) G (wrM ub cb ob) 4 ⟨hG,rfl,rfl,ub,cb,by rw [← hfin]; exact hub,by rw [hfin]⟩ trivial rfl rfl (Out.bB_ok (o:=.ret (.tup [])) rfl) (zb4 _ _ _) ⟨Fz.r G,zbq (by rfl) (by rfl),zav zab (zax _ _ _ _),tv⟩
theorem z8b (hP:PFun) (F:Fz) (an:Bool) (ab ae al ac:Nat) (bn:Bool) (bb be bl bc:Nat) (w:Int) (s:List UInt8) :
  Ct Tryz.prog 170 [.agg (docS (.slice an 0 ab ae 2 al ac) (.slice bn 0 bb be 6 bl bc) w s),.va (.ptr ⟨1,0,0,0,0⟩)] F (wrH false 0 []) 3 (wrL (zae [((al:Nat):Int),((bl:Nat):Int)])):=by
 refine ct_of hΘ Tryz.func170 rfl (by decide) _ _ rfl rfl rfl ?_;conv=>whnf
 refine za0 4 (fun _=>.arr 3 1 ([((al:Nat):Int),((bl:Nat):Int)].map encI) 2) rfl rfl rfl (fun _ _=>rfl) (fun _ _=>SB.bB_ok rfl) ?_
 intro b1 F1 l1 hb1
 refine use (zdm hP F1 _ [((al:Nat):Int),((bl:Nat):Int)] false [] 0 (fun _=>rfl) (Sl.new (l:=[((al:Nat):Int),((bl:Nat):Int)]) (cap:=2) (hb1 0 rfl)) (by simp) (by simp)) [(1,1),(2,2)] rfl ⟨rfl,⟨rfl,rfl,rfl,.inr ⟨rfl,rfl,rfl,rfl⟩⟩,tv⟩ rfl ⟨zao _ (by omega) (by omega) _ _,zai zab _ _ _ _ _,tv⟩ (by simp [SV.below,SA.below]) ⟨zbq (by rfl) (by rfl),zav zab (zax _ _ _ _),tv⟩ ?_
 rintro out0 F' h0 n0 hle ⟨rfl,rfl,rfl,u1,c1,hu1,rfl⟩;conv=>whnf
 exact clean [(3,5)] (.ret (.tup [])) F1 (wrM u1 c1 _) 4 ⟨l1,rfl,rfl,u1,c1,hu1,rfl⟩ trivial rfl rfl (Out.bB_ok (o:=.ret (.tup [])) rfl) (zb4 _ _ _) ⟨Fz.r F1,zbv (i':=1) (j':=5) (by rfl) (by rfl) (by rfl) (by rfl) rfl,zbb zab,tv⟩
theorem z7f (hP:PFun) (F:Fz) (an:Bool) (ab ae al ac:Nat) (bn:Bool) (bb be bl bc:Nat) (w:Int) (s:List UInt8) (hs:s.length ≤ 1000000) :
  Ct Tryz.prog 167 [.agg (docS (.slice an 0 ab ae 2 al ac) (.slice bn 0 bb be 6 bl bc) w s),.va (.ptr ⟨1,0,0,0,0⟩)] F (wrH false 0 []) 3 (wrL (zae [w,hgt w s])):=by
 have hh:=zi9 F (.slice an 0 ab ae 2 al ac) (.slice bn 0 bb be 6 bl bc) w s (by omega)
 have hex:∃ z,hgt w s = z:=⟨_,rfl⟩
 obtain ⟨z,hz⟩:=hex
 rw [hz] at hh ⊢
 refine ct_of hΘ Tryz.func167 rfl (by decide) _ _ rfl rfl rfl ?_;conv=>whnf
 refine drawP hΘ mixed (lk [0,1,2,3,4] (.alt 5 (.alt 6 (.alt 7 .done .nil) .nil) .nil)) [3] (by kernel_rfl) ?_;conv=>whnf
 repeat' ((conv=>whnf); first
  |refine ⟨rfl,?_⟩
  |refine ⟨Fz.r _,rfl,?_⟩
  |refine ⟨Fz.r _,rfl,rfl,?_⟩
  |refine ⟨⟨by simp,by simp⟩,?_⟩
  |fail)
 conv=>whnf
 refine usePu hh rfl (zaa _) rfl ?_
 repeat' ((conv=>whnf); first
  |refine ⟨rfl,?_⟩
  |refine ⟨Fz.r _,rfl,?_⟩
  |refine ⟨Fz.r _,rfl,rfl,?_⟩
  |refine ⟨⟨by simp,by simp⟩,?_⟩
  |fail)
 conv=>whnf
 refine za0 4 (fun _=>.arr 3 1 ([w,z].map encI) 2) rfl rfl rfl (fun _ _=>rfl) (fun _ _=>SB.bB_ok rfl) ?_
 intro b1 F1 l1 hb1
 refine use (zdm hP F1 _ [w,z] false [] 0 (fun _=>rfl) (Sl.new (l:=[w,z]) (cap:=2) (hb1 0 rfl)) (by simp) (by simp)) [(1,1),(2,2)] rfl ⟨rfl,⟨rfl,rfl,rfl,.inr ⟨rfl,rfl,rfl,rfl⟩⟩,tv⟩ rfl ⟨zao _ (by omega) (by omega) _ _,zai zab _ _ _ _ _,tv⟩ (by simp [SV.below,SA.below]) ⟨zbq (by rfl) (by rfl),zav zab (zax _ _ _ _),tv⟩ ?_
 rintro out0 F' h0 n0 hle ⟨rfl,rfl,rfl,u1,c1,hu1,rfl⟩;conv=>whnf
 refine ⟨l1,rfl,?_⟩;conv=>whnf
 exact clean [(3,5)] (.ret (.tup [])) F1 (wrM u1 c1 _) 4 ⟨l1,rfl,rfl,u1,c1,hu1,rfl⟩ trivial rfl rfl (Out.bB_ok (o:=.ret (.tup [])) rfl) (zb4 _ _ _) ⟨Fz.r F1,zbv (i':=1) (j':=5) (by rfl) (by rfl) (by rfl) (by rfl) rfl,zbb zab,tv⟩
theorem z7p (hP:PFun) (F:Fz) (an:Bool) (ab ae al ac:Nat) (bn:Bool) (bb be bl bc:Nat) (w:Int) (s:List UInt8) (hs:s.length ≤ 1000000) :
  Ct Tryz.prog 169 [.agg (docS (.slice an 0 ab ae 2 al ac) (.slice bn 0 bb be 6 bl bc) w s),.va (.ptr ⟨1,0,0,0,0⟩)] F (wrH false 0 []) 3 (wrL (zae [w,hgt w s] ++ (putSR s).1)):=by
 have hh:=zi9 F (.slice an 0 ab ae 2 al ac) (.slice bn 0 bb be 6 bl bc) w s (by omega)
 have hex:∃ z,hgt w s = z:=⟨_,rfl⟩
 obtain ⟨z,hz⟩:=hex
 rw [hz] at hh ⊢
 refine ct_of hΘ Tryz.func169 rfl (by decide) _ _ rfl rfl rfl ?_;conv=>whnf
 refine drawP hΘ mixed (lk [0,1,2,3,4] (.alt 5 (.alt 6 (.alt 7 .done .nil) .nil) .nil)) [3] (by kernel_rfl) ?_;conv=>whnf
 repeat' ((conv=>whnf); first
  |refine ⟨rfl,?_⟩
  |refine ⟨Fz.r _,rfl,?_⟩
  |refine ⟨Fz.r _,rfl,rfl,?_⟩
  |refine ⟨⟨by simp,by simp⟩,?_⟩
  |fail)
 conv=>whnf
 refine usePu hh rfl (zaa _) rfl ?_
 repeat' ((conv=>whnf); first
  |refine ⟨rfl,?_⟩
  |refine ⟨Fz.r _,rfl,?_⟩
  |refine ⟨Fz.r _,rfl,rfl,?_⟩
  |refine ⟨⟨by simp,by simp⟩,?_⟩
  |fail)
 conv=>whnf
 refine za0 4 (fun _=>.arr 3 1 ([w,z].map encI) 2) rfl rfl rfl (fun _ _=>rfl) (fun _ _=>SB.bB_ok rfl) ?_
 intro b1 F1 l1 hb1
 refine use (zdm hP F1 _ [w,z] false [] 0 (fun _=>rfl) (Sl.new (l:=[w,z]) (cap:=2) (hb1 0 rfl)) (by simp) (by simp)) [(1,1),(2,2)] rfl ⟨rfl,⟨rfl,rfl,rfl,.inr ⟨rfl,rfl,rfl,rfl⟩⟩,tv⟩ rfl ⟨zao _ (by omega) (by omega) _ _,zai zab _ _ _ _ _,tv⟩ (by simp [SV.below,SA.below]) ⟨zbq (by rfl) (by rfl),zav zab (zax _ _ _ _),tv⟩ ?_
 rintro out0 F' h0 n0 hle ⟨rfl,rfl,rfl,u1,c1,hu1,rfl⟩;conv=>whnf
 refine ⟨l1,rfl,?_⟩;conv=>whnf
 have hnl:=zaz [w,z]
 rw [show [w,z].length = 2 from rfl] at hnl
 refine use (zsc hP F1 u1 s ([] ++ zae [w,z]) c1 hu1 (by omega) (by rw [qu]; omega)) [(1,1),(2,5)] rfl ⟨rfl,rfl,tv⟩ rfl ⟨zao _ (by omega) (by omega) _ _,zai zab _ _ _ _ _,tv⟩ (by simp [SV.below,SA.below]) ⟨zbv (i':=1) (j':=5) (by rfl) (by rfl) (by rfl) (by rfl) rfl,zbb zab,tv⟩ ?_
 rintro out0 F' h0 n0 hle ⟨rfl,rfl,rfl,u2,c2,hu2,rfl⟩;conv=>whnf
 exact clean [(3,6)] (.ret (.tup [])) F1 (wrM u2 c2 _) 4 ⟨l1,rfl,rfl,u2,c2,hu2,rfl⟩ trivial rfl rfl (Out.bB_ok (o:=.ret (.tup [])) rfl) (zb4 _ _ _) ⟨Fz.r F1,zbv (i':=1) (j':=6) (by rfl) (by rfl) (by rfl) (by rfl) rfl,zbb zab,tv⟩
def pvals (K:List Cel):List UInt8:=zae [(K.length:Int)] ++ ((K.zip (valsF K)).map fun x=>zae [x.1.row,x.1.col,x.2]).flatten
theorem zn6:∀ (l d:List Cel) (o:List Int),(valsA l d o).length = l.length + o.length
 |[],d,o=>by simp [valsA]
 |c :: r,d,o=>by rw [valsA,zn6,qa]; simp only [qe,qp]; omega
theorem zhx (l:List Cel):(valsF l).length = l.length:=by rw [valsF,zn6,qp]; rfl
theorem zjw:∀ (l:List (Cel × Int)),((l.map fun x=>zae [x.1.row,x.1.col,x.2]).flatten).length ≤ l.length * 1000
 |[]=>by simp
 |x :: r=>by
  have h1:=zaz [x.1.row,x.1.col,x.2]
  have h3:=zjw r
  rw [show [x.1.row,x.1.col,x.2].length = 3 from rfl] at h1
  rw [qx,jy,qa,qe]
  omega
theorem ztg (F:Fz) (an:Bool) (ab ae al ac:Nat) (bn:Bool) (bb be bc:Nat) (K:List Cel) (w:Int) (s:List UInt8) (hb:Sl F 151 6 encK (.slice bn 0 bb be 6 K.length bc) K) (hl:K.length ≤ 1000) (hcap:K.length ≤ bc) :
  Fo Tryz.prog F 166 [.agg (docS (.slice an 0 ab ae 2 al ac) (.slice bn 0 bb be 6 K.length bc) w s)] (fun o F'=>(o = .ret (.va .nilsl) ∧ K = []) ∨ (∃ b c L room,o = .ret (.va (.slice false 0 b 0 1 K.length c)) ∧ F' b = some (.arr 3 1 L room) ∧ ∀ (k:Nat) (v:Int),(valsF K)[k]? = some v → L[0 + (k:Int).toNat]? = some (encI v))):=by
 refine zb5 (zus F an ab ae al ac bn bb be bc K w s hb hl hcap) ?_
 rintro o F' ⟨r,rfl,⟨hK,rfl⟩ | ⟨hv,vb,vc,rfl⟩⟩
 ·exact .inl ⟨rfl,hK⟩
 ·obtain ⟨hvn,hvb,hve,hvc,hvL,hvr,heq,hv1,hv2,hv3,hv4⟩:=hv
  cases heq
  rw [zhx]
  refine .inr ⟨_,_,_,_,rfl,hv2 rfl,fun k v hk=>?_⟩
  obtain ⟨h1,h2⟩:=qh.1 hk
  rw [← h2]
  exact Sl.at hv4 h1
theorem z8e (hP:PFun) (F:Fz) (an:Bool) (ab ae al ac:Nat) (bn:Bool) (bb be bc:Nat) (K:List Cel) (w:Int) (s:List UInt8) (hb:Sl F 151 6 encK (.slice bn 0 bb be 6 K.length bc) K) (hl:K.length ≤ 1000) (hcap:K.length ≤ bc) :
  Ct Tryz.prog 165 [.agg (docS (.slice an 0 ab ae 2 al ac) (.slice bn 0 bb be 6 K.length bc) w s),.va (.ptr ⟨1,0,0,0,0⟩)] F (wrH false 0 []) 3 (wrL (pvals K)):=by
 have hvals:=fun F1 (l1:Fz.le F F1)=>ztg F1 an ab ae al ac bn bb be bc K w s (hb.mono l1) hl hcap
 have hp0:K = [] → pvals K = [] ++ zae [((K.length:Nat):Int)]:=fun h=>by subst h; simp [pvals]
 have hvl:=zhx K
 obtain ⟨hbn,hbb,hbe,hbc,hbL,hbr,heq,hb1,hb2,hb3,hb4⟩:=hb
 cases heq
 refine ct_of hΘ Tryz.func165 rfl (by decide) _ _ rfl rfl rfl ?_;conv=>whnf
 refine za0 4 (fun _=>.arr 3 1 ([((K.length:Nat):Int)].map encI) 1) rfl rfl rfl (fun _ _=>rfl) (fun _ _=>SB.bB_ok rfl) ?_
 intro b1 F1 l1 hb1'
 refine use (zdm hP F1 _ [((K.length:Nat):Int)] false [] 0 (fun _=>rfl) (Sl.new (l:=[((K.length:Nat):Int)]) (cap:=1) (hb1' 0 rfl)) (by simp) (by simp)) [(1,1),(2,2)] rfl ⟨rfl,⟨rfl,rfl,rfl,.inr ⟨rfl,rfl,rfl,rfl⟩⟩,tv⟩ rfl ⟨zao _ (by omega) (by omega) _ _,zai zab _ _ _ _ _,tv⟩ (by simp [SV.below,SA.below]) ⟨zbq (by rfl) (by rfl),zav zab (zax _ _ _ _),tv⟩ ?_
 rintro out0 F' h0 n0 hle ⟨rfl,rfl,rfl,u1,c1,hu1,rfl⟩;conv=>whnf
 refine useFo (hvals F1 l1) rfl (zaa _) rfl ?_
 rintro _ F2 l2 (⟨rfl,hK⟩ | ⟨vb,vc,vL,vr,rfl,hv2,hv4⟩)
 ·conv=>whnf
  refine zan hΘ (X:={ x:Nat // x = 0 }) (fun x=>[(16,.va (.int .i64 x.1))]) [4,5,17,18,19,20,21,22,23,24,25,26,27,28,29,30,31,32,33,34,35,36,37,38,39]
   (fun x=>[(0,.frz F2),(1,wrC u1 1 6 c1 ([] ++ zae [((K.length:Nat):Int)])),(5,.gone),(6,gE 5 1 encB c1 ([] ++ zae [((K.length:Nat):Int)]))]) 7 (fun x=>0) ⟨0,rfl⟩
   (fun hH hT=>leI [(6,5)] hH hT rfl ⟨tv,zao _ (by omega) (by omega) _ _,tv,zai zab _ _ _ _ _,tv⟩ ⟨rfl,tv⟩ ⟨Fz.r F2,zbv (i':=1) (j':=5) (by rfl) (by rfl) (by rfl) (by rfl) rfl,zbb zab,tv⟩) ?_
  rintro ⟨k,rfl⟩ hH hT;conv=>whnf
  refine br (fun g2=>absurd g2 (by decide)) (fun _=>?_);conv=>whnf
  exact clean [(3,6)] (.ret (.tup [])) F2 (wrM u1 c1 ([] ++ zae [((K.length:Nat):Int)])) 4 ⟨Fz.t l1 l2,rfl,rfl,u1,c1,by rw [hp0 hK]; exact hu1,by rw [hp0 hK]⟩ trivial rfl rfl (Out.bB_ok (o:=.ret (.tup [])) rfl) (zb4 _ _ _) ⟨Fz.r F2,zbq (by rfl) (by rfl),zav zab (zax _ _ _ _),tv⟩
 ·conv=>whnf
  refine zan hΘ (X:={ x:Nat × List UInt8 × Nat × Bool × Fz // Fz.le F2 x.2.2.2.2 ∧ x.1 ≤ K.length ∧ x.2.1 = zae [((K.length:Nat):Int)] ++ (((K.zip (valsF K)).take x.1).map fun x=>zae [x.1.row,x.1.col,x.2]).flatten ∧ (x.2.2.2.1 = false → x.2.1 = []) }) (fun x=>[(16,.va (.int .i64 x.1.1))]) [4,5,17,18,19,20,21,22,23,24,25,26,27,28,29,30,31,32,33,34,35,36,37,38,39]
   (fun x=>[(0,.frz x.1.2.2.2.2),(1,wrC x.1.2.2.2.1 1 6 x.1.2.2.1 x.1.2.1),(3,docE4 (.slice an 0 ab ae 2 al ac) (.slice bn 0 bb be 6 K.length bc) w s),(5,.gone),(6,gE 5 1 encB x.1.2.2.1 x.1.2.1)]) 7 (fun x=>K.length - x.1.1) ⟨(0,[] ++ zae [((K.length:Nat):Int)],c1,u1,F2),Fz.r F2,by simpa using hu1⟩
   (fun hH hT=>leI [(6,5)] hH hT rfl ⟨tv,zao _ (by omega) (by omega) _ _,zbi (.inr (by omega)) (.inr (by omega)),tv,zai zab _ _ _ _ _,tv⟩ ⟨rfl,tv⟩ ⟨Fz.r F2,zbv (i':=1) (j':=5) (by rfl) (by rfl) (by rfl) (by rfl) rfl,rfl,zbb zab,tv⟩) ?_
  rintro ⟨⟨k,ob,cb,ub,G⟩,hG,hk,hob,hub⟩ hH hT
  replace hG:Fz.le F2 G:=hG
  replace hk:k ≤ K.length:=hk
  replace hob:ob = zae [((K.length:Nat):Int)] ++ (((K.zip (valsF K)).take k).map fun x=>zae [x.1.row,x.1.col,x.2]).flatten:=hob
  replace hub:ub = false → ob = []:=hub
  have hzl:(K.zip (valsF K)).length = K.length:=by rw [qa1,hvl]; omega
  have hlen:ob.length ≤ 100000000000:=by
   have h9:=zjw ((K.zip (valsF K)).take k)
   have h8:=zaz [((K.length:Nat):Int)]
   rw [qn] at h9
   rw [yf] at h8
   rw [hob,qa]; omega
  by_cases g:k < K.length
  ·have hlt:(k:Int) < (K.length:Nat):=by omega
   have hidx:0 ≤ (k:Int) ∧ (k:Int) < (K.length:Nat):=by omega
   have gv:k < (valsF K).length:=by omega
   have hex:∃ c v,K[k] = c ∧ (valsF K)[k] = v:=⟨_,_,rfl,rfl⟩
   obtain ⟨c,v,hKk,hVk⟩:=hex
   have hat:hbL[be + (k:Int).toNat]? = some (encK c):=by rw [← hKk]; exact Sl.at hb4 g
   have hatv:vL[0 + (k:Int).toNat]? = some (encI v):=by rw [← hVk]; exact hv4 k _ (qc gv)
   have hob2:ob ++ zae [c.row,c.col,v] = zae [((K.length:Nat):Int)] ++ (((K.zip (valsF K)).take (k + 1)).map fun x=>zae [x.1.row,x.1.col,x.2]).flatten:=by
    have gz:k < (K.zip (valsF K)).length:=by omega
    rw [zbo gz,qcm,hKk,hVk,hob,qk]
   have hk1:k + 1 ≤ K.length:=g
   have hdec:K.length - (k + 1) < K.length - k:=by omega
   have hk62:k < 4611686018427387904:=by omega
   have hblk:=(Fz.t l1 (Fz.t l2 hG)) _ _ (hb2 (Sl.lt hb1 g))
   have hblkv:=hG _ _ hv2
   clear hKk hVk;conv=>whnf
   refine bri hlt ?_;conv=>whnf
   refine ⟨rfl,hidx,?_⟩;conv=>whnf
   refine ⟨_,hblkv,?_⟩;conv=>whnf
   refine ⟨_,hatv,?_⟩;conv=>whnf
   refine drawP hΘ mixed (lk [0,1,2,3,4,5,6,7,8,9,10,11,12,13,14,15] (.alt 16 (.alt 17 .done .nil) .nil)) [3] (by kernel_rfl) ?_;conv=>whnf
   repeat' ((conv=>whnf); first
    |refine ⟨Sl.lt hb1 g,hidx,?_⟩
    |refine ⟨_,hblk,?_⟩
    |refine ⟨_,hat,?_⟩
    |refine ⟨rfl,?_⟩
    |refine ⟨Fz.r _,rfl,?_⟩
    |refine ⟨Fz.r _,rfl,rfl,?_⟩
    |refine ⟨⟨by simp,by simp⟩,?_⟩
    |fail)
   conv=>whnf
   refine za0 7 (fun _=>.arr 3 1 ([c.row,c.col,v].map encI) 3) rfl rfl rfl (fun _ _=>rfl) (fun _ _=>SB.bB_ok rfl) ?_
   intro b2 G2 l3 hb2'
   refine use (zdm hP G2 _ [c.row,c.col,v] ub ob cb hub (Sl.new (l:=[c.row,c.col,v]) (cap:=3) (hb2' 0 rfl)) (by simp) (by omega)) [(1,1),(2,6)] rfl ⟨rfl,⟨rfl,rfl,rfl,.inr ⟨rfl,rfl,rfl,rfl⟩⟩,tv⟩ rfl ⟨zao _ (by omega) (by omega) _ _,zai zab _ _ _ _ _,tv⟩ (by simp [SV.below,SA.below]) ⟨zbq (by rfl) (by rfl),zav zab (zax _ _ _ _),tv⟩ ?_
   rintro out0 F' h0 n0 hle ⟨rfl,rfl,rfl,u2,c2,hu2,rfl⟩;conv=>whnf
   refine ⟨l3,rfl,?_⟩;conv=>whnf
   exact ⟨⟨(k + 1,ob ++ zae [c.row,c.col,v],c2,u2,G2),Fz.t hG l3,hk1,hob2,hu2⟩,hdec,leR [(6,8)] hH hT rfl ⟨tv,zao _ (by omega) (by omega) _ _,zbi (.inr (by omega)) (.inr (by omega)),tv,zai zab _ _ _ _ _,tv⟩ ⟨cnt hk62,tv⟩ ⟨Fz.r G2,zbv (i':=1) (j':=8) (by rfl) (by rfl) (by rfl) (by rfl) rfl,rfl,zbb zab,tv⟩⟩
  ·have hlt:¬ (k:Int) < (K.length:Nat):=by omega
   have hfin:ob = pvals K:=by rw [hob,pvals,qm (by omega)]
   conv=>whnf
   refine brj hlt ?_;conv=>whnf
   exact clean [(3,6)] (.ret (.tup [])) G (wrM ub cb ob) 4 ⟨Fz.t l1 (Fz.t l2 hG),rfl,rfl,ub,cb,by rw [← hfin]; exact hub,by rw [hfin]⟩ trivial rfl rfl (Out.bB_ok (o:=.ret (.tup [])) rfl) (zb4 _ _ _) ⟨Fz.r G,zbq (by rfl) (by rfl),zav zab (zax _ _ _ _),tv⟩
theorem zat:Plain encK:=fun x=>⟨fun μ=>rfl,fun a ha=>by
 simp only [encK,qj,qq,or_false] at ha
 rcases ha with rfl | rfl | rfl | rfl | rfl | rfl<;>trivial⟩
theorem zrv (F:Fz) (bn:Bool) (bb be bc:Nat) (K:List Cel) (hne:K ≠ []) (hb:Sl F 151 6 encK (.slice bn 0 bb be 6 K.length bc) K) (hl:K.length ≤ 1000) :
  Ct Tryz.prog 87 [.va (.slice bn 0 bb be 6 K.length bc)] F [] 1
   (fun o F0 h0 n0=>n0 = 2 ∧ ∃ c,K.length ≤ c ∧ o = .ret (.va (.slice false 1 0 0 6 K.length c)) ∧ h0 = [(1,gE 151 6 encK c K)]):=by
 obtain ⟨hbn,hbb,hbe,hbc,hbL,hbr,heq,hb1,hb2,hb3,hb4⟩:=hb
 cases heq
 have hk0:0 < K.length:=qb2.2 hne
 have hnf:=Sl.lt hb1 hk0
 subst hnf
 have hblk:=hb2 rfl
 rcases K with _ | ⟨x,r⟩
 ·exact absurd rfl hne
 replace hl:r.length + 1 ≤ 1000:=hl
 refine ct_of hΘ Tryz.func87 rfl (by decide) _ _ rfl rfl rfl ?_;conv=>whnf
 refine brd (by decide) ?_;conv=>whnf
 refine ⟨151,hbL,hbr,hblk,hb3,(x :: r).map encK,hb4,?_⟩
 refine ⟨rfl,rfl,?_⟩
 refine ⟨rfl,by show (0 + ((x :: r).map encK).length) * 48 ≤ 140737488355328; rw [qb,qe]; omega,fun c' hc=>?_⟩
 have hc2:=hc
 clear hc;conv=>whnf
 exact clean [(1,2)] (.ret (.va (.slice false 1 0 0 6 (x :: r).length c'))) F [(1,gE 151 6 encK c' (x :: r))] 2 ⟨Fz.r F,rfl,c',by simpa using hc2,rfl,rfl⟩ ⟨rfl,(by first | rfl | (rw [qb]; omega)),(by first | rfl | (rw [qb]; omega)),.inr ⟨rfl,rfl,rfl,rfl⟩⟩ rfl rfl (Out.bB_ok (o:=.ret (.va (.slice false 1 0 0 6 (x :: r).length c'))) rfl) ⟨zai zat _ _ _ _ _,tv⟩ ⟨Fz.r F,zav zat (zcg _ (by rfl)),tv⟩
end Go.Proofs.YtfnkamphhpldcaaGreatDoor
namespace Go.Proofs.YtfnkamphhpldcaaGreatDoor
open Go Go.RowKit Sx
set_option maxRecDepth 100000 in
theorem zyw (b g cap cells:Nat) (l:List UInt8) (w:World) (h0:l ≠ []) (c1:w.cell? ⟨b,1,none⟩ = some (.slice (some ⟨g,0,none⟩) l.length cap)) (hc:l.length ≤ cap) (hcs:l.length ≤ cells) (hm:l.length ≤ 1000000000000000)
  (hsh:w.shape? g = some (5,cells)) (hcell:∀ j x,l[j]? = some x → w.cell? ⟨g,j,none⟩ = some (.int .u8 x.toNat)) :
  Calls Tryz.prog 104 #[.pointer (some ⟨b,0,none⟩)] w fun e w'=>e = .returned (.string ⟨l.toArray⟩) ∧ w' = w.drew.freeze ⟨g,0,none⟩ l.length:=by
 have hl0:l.length ≠ 0:=by simpa using h0
 have d1:w.drew.cell? ⟨b,1,none⟩ = some (.slice (some ⟨g,0,none⟩) l.length cap):=c1
 have hSD:(Builtin.unsafeSliceData_ #[81] 238 #[.slice (some ⟨g,0,none⟩) l.length cap]).run Tryz.prog w.drew = .ok (.pointer (some ⟨g,0,none⟩)) w.drew:=
  Lib.run_unsafeSliceData_row _ _ _ _ _ _ (by omega)
 have hUS:(Builtin.unsafeString_ #[238,3] 9 #[.pointer (some ⟨g,0,none⟩),.int .i64 l.length]).run Tryz.prog w.drew = .ok (.string ⟨l.toArray⟩) (w.drew.freeze ⟨g,0,none⟩ l.length):=by
  refine Lib.run_unsafeString_row w.drew 238 3 9 5 Tryz.underlying238 (by kernel_rfl) g cells hsh l h0 hcs (by omega) ?_
  intro j x hx
  rw [addr_add,ji]
  exact hcell j x hx
 go_enter Tryz.func104,Tryz.ntmps104
 go_wp2
 go_region
 all_goals (go_wp2; go_ret; exact ⟨rfl,rfl⟩)
theorem Sat.trash {C:Ctx} {ρ:Rho} {h:Hp} {nx:Nat} {w w':World} (s:Sat C ρ h nx w) {i:Nat} {e:Ent} (he:lget h i = some e) (hp:e.plain = true) (h0:e.has 0) (hk:∀ k,e.has k → k = 0) {o':Obj} (hos:w'.os = w.os) (ht:w'.tape = w.tape) (ho:w'.output = w.output) (hsz:w'.heap.size = w.heap.size)
  (hnew:w'.heap[ρ i 0]? = some o') (hold:∀ b,b ≠ ρ i 0 → w'.heap[b]? = w.heap[b]?):Sat C ρ (lput (lput h i (.one (.obj o'))) i .gone) nx w':=by
 have hi:=s.lt i _ he
 have hi0:=s.ne0 he hp
 refine Sat.forget (s.upd (e':=.one (.obj o')) 0 he hp rfl h0 ?_ o' ?_ rfl trivial hos ht ho hsz hnew hold) hi hi0
 ·intro k'
  constructor
  ·rintro rfl; exact h0
  ·intro h; exact hk k' h
 ·intro k' hne h2
  exact absurd (hk k' h2) hne
theorem zeu {h:Hp} {nx:Nat} {K:Out → Hp → Nat → Prop} {i j c:Nat} {u:Bool} {l:List UInt8} (h0:l ≠ []) (hm:l.length ≤ 1000000000000000) {e1 e2:Ent} (he:lget h i = some e1) (hE1:e1 = wrC u i j c l) (hj:lget h j = some e2) (hE2:e2 = gE 5 1 encB c l)
  (hk:∀ o',K (.ret (.va (.str l))) (lput (lput h j (.one (.obj o'))) j .gone) nx):za6 Tryz.prog 104 [.va (.ptr ⟨i,0,0,0,0⟩)] h nx K:=by
 subst hE1
 subst hE2
 obtain ⟨b0,r0,rfl⟩:=List.exists_cons_of_ne_nil h0
 unfold za6
 intro C ρ w vs S hr hb
 refine ⟨Sx.enters_of Tryz.func104 rfl (by decide),?_⟩
 match vs,hr with
 |[v],hr=>
  have hv:v = .pointer (some ⟨ρ i 0,0,none⟩):=by
   have h1:=hr.1
   simpa [SV.rel,SA.den,Pl.addr] using h1
  subst hv
  obtain ⟨o,ho,hok⟩:=S.blk i _ he 0 (by cases u<;>rfl)
  have hrow:RowAt w (ρ i 0) 174 ([wrA u i,gA 1 j c (b0 :: r0)].map (SA.den ρ)):=⟨o,ho,by cases u<;>exact hok⟩
  have c1:w.cell? ⟨ρ i 0,1,none⟩ = some (.slice (some ⟨ρ j 0,0,none⟩) (b0 :: r0).length c):=by
   rw [hrow.cell]; simp [gA,SA.den]
  obtain ⟨o2,ho2,hok2⟩:=S.blk j _ hj 0 ⟨rfl,rfl⟩
  obtain ⟨k1,k2,tail,k3,k4⟩:=hok2
  have hrow2:RowAt w (ρ j 0) 5 ((((b0 :: r0).map encB).flatten).map (SA.den ρ) ++ tail):=⟨o2,ho2,k4⟩
  have hfl:(((b0 :: r0).map encB).flatten).map (SA.den ρ) = (b0 :: r0).map fun x=>Value.int .u8 x.toNat:=by
   have h1:((b0 :: r0).map encB).flatten = (b0 :: r0).map fun b=>SA.int .u8 b.toNat:=zdn (b0 :: r0)
   rw [h1,yd]; rfl
  have hcell:∀ k x,(b0 :: r0)[k]? = some x → w.cell? ⟨ρ j 0,k,none⟩ = some (.int .u8 x.toNat):=by
   intro k x hx
   have hlt:k < ((b0 :: r0).map fun x=>Value.int .u8 x.toNat).length:=by rw [qb]; exact (qh.1 hx).1
   rw [hrow2.cell,hfl,js hlt,qs,hx]; rfl
  obtain ⟨fr,hfr,hoo⟩:=k4
  have hsh:∃ cells,w.shape? (ρ j 0) = some (5,cells) ∧ (b0 :: r0).length ≤ cells:=by
   refine ⟨((((b0 :: r0).map encB).flatten).map (SA.den ρ) ++ tail).length,?_,?_⟩
   ·simp only [World.shape?,ho2,hoo]; rfl
   ·rw [hfl,qa,qb]; omega
  obtain ⟨cells,hsh,hcl⟩:=hsh
  have hlt2:=S.blt ⟨_,hj,⟨rfl,rfl⟩⟩
  have hc:(b0 :: r0).length ≤ c:=by rw [qb] at k2; exact k2
  refine (zyw (ρ i 0) (ρ j 0) c cells (b0 :: r0) w h0 c1 hc hcl hm hsh hcell).mono ?_
  rintro e w' ⟨rfl,rfl⟩
  have hex:∃ o',(w.drew.freeze ⟨ρ j 0,0,none⟩ (b0 :: r0).length).heap[ρ j 0]? = some o':=by
   refine ⟨_,qbc ?_⟩
   show ρ j 0 < _
   simp only [World.freeze,qe,Nat.add_eq_zero_iff,Nat.succ_ne_self,and_false,if_false,Array.size_modify]
   exact hlt2
  obtain ⟨o',ho'⟩:=hex
  refine ⟨.ret (.va (.str (b0 :: r0))),_,nx,ρ,hk o',⟨_,rfl,rfl⟩,?_,fun _ _=>rfl,qf _,tv⟩
  refine Sat.trash S.drew hj rfl ⟨rfl,rfl⟩ (fun k hk=>hk.2) ?_ ?_ ?_ ?_ ho' ?_
  ·unfold World.freeze; split<;>rfl
  ·unfold World.freeze; split<;>rfl
  ·unfold World.freeze; split<;>rfl
  ·unfold World.freeze; split<;>simp
  ·intro b hb'
   unfold World.freeze
   split
   ·rfl
   ·simp [qcy,Ne.symm hb']
end Go.Proofs.YtfnkamphhpldcaaGreatDoor
namespace Go.Proofs.YtfnkamphhpldcaaGreatDoor
open Go Sx
set_option maxRecDepth 100000
def propM:List MapEntry:=[⟨.int .i64 1,.func (.func 158) #[] #[],0⟩,⟨.int .i64 2,.func (.func 161) #[] #[],1⟩,⟨.int .i64 3,.func (.func 162) #[] #[],2⟩,⟨.int .i64 4,.func (.func 164) #[] #[],3⟩,
 ⟨.int .i64 5,.func (.func 165) #[] #[],4⟩,⟨.int .i64 6,.func (.func 167) #[] #[],5⟩,⟨.int .i64 7,.func (.func 169) #[] #[],6⟩,⟨.int .i64 8,.func (.func 170) #[] #[],7⟩]
theorem ze0 (F:Fz):Ct Tryz.prog 103 [] F [] 1 (fun o F0 h0 n0=>F = F0 ∧ n0 = 2 ∧ o = .ret (.va (.map 1 0)) ∧ h0 = [(1,.one (.obj (.map ⟨propM⟩ 8)))]):=by
 refine ct_of hΘ Tryz.func103 rfl (by decide) _ _ rfl rfl rfl ?_;conv=>whnf
 exact clean [(1,1)] (.ret (.va (.map 1 0))) F [(1,.one (.obj (.map ⟨propM⟩ 8)))] 2 ⟨Fz.r F,rfl,rfl,rfl,rfl⟩ rfl rfl rfl (Out.bB_ok (o:=.ret (.va (.map 1 0))) rfl) ⟨tv,tv⟩ ⟨Fz.r F,rfl,tv⟩
end Go.Proofs.YtfnkamphhpldcaaGreatDoor
