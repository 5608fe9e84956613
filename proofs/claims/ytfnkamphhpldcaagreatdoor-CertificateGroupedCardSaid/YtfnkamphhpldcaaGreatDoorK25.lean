import Derived.Test.YtfnkamphhpldcaaGreatDoorK24
import Derived.Test.YtfnkamphhpldcaaGreatDoorK16
import Derived.Test.YtfnkamphhpldcaaGreatDoorK22
set_option maxHeartbeats 64000000
namespace Go.Proofs.YtfnkamphhpldcaaGreatDoor
open Go Sx
set_option maxRecDepth 100000
def wsOf (s:Stk):List (List UInt8):=(s.map (·.1)).reverse
def nsOf (s:Stk):List Int:=(s.map fun x=>(x.2:Int)).reverse
theorem zd8 (x:List UInt8 × Nat) (s:Stk):wsOf (x :: s) = wsOf s ++ [x.1]:=by simp [wsOf]
theorem zd3 (x:List UInt8 × Nat) (s:Stk):nsOf (x :: s) = nsOf s ++ [(x.2:Int)]:=by simp [nsOf]
theorem zgq (s:Stk):(wsOf s).length = s.length:=by simp [wsOf]
theorem zkm (s:Stk):(nsOf s).length = s.length:=by simp [nsOf]
theorem yav (x:List UInt8 × Nat) (s:Stk):wsOf (x :: s) ≠ []:=fun h=>absurd (congrArg List.length h) (by simp [wsOf])
theorem z9x (x:List UInt8 × Nat) (s:Stk):nsOf (x :: s) ≠ []:=fun h=>absurd (congrArg List.length h) (by simp [nsOf])
theorem zyk {α:Type} {l:List α} (d:α) (h:l ≠ []):l = l.headD d :: l.tail:=by
 cases l with
 |nil=>exact absurd rfl h
 |cons _ _=>rfl
theorem zcm:Plain encI:=fun x=>⟨fun μ=>rfl,fun a b=>by simp only [encI,qs] at b; subst b; trivial⟩
theorem zcf:Plain encS:=fun x=>⟨fun μ=>rfl,fun a b=>by simp only [encS,qs] at b; subst b; trivial⟩
theorem zq2:∀ (f:Nat) (s:Stk),(mergeK f s).length ≤ s.length
 |0,_=>qi _
 |f + 1,[]=>qi _
 |f + 1,[_]=>qi _
 |f + 1,(b,n) :: (a,m) :: r=>by
  rw [mergeK];split
  ·exact jk (zq2 f _) (by simp)
  ·exact qi _
theorem z1s (l:List (List UInt8)):(stackF l).length ≤ l.length:=by
 have h:∀ (l:List (List UInt8)) (s:Stk),(l.foldl pushS s).length ≤ l.length + s.length:=by
  intro l
  induction l with
  |nil=>intro s; simp
  |cons x r ih=>
   intro s;have h1:=ih (pushS s x);have a:(pushS s x).length ≤ s.length + 1:=zq2 _ _;simp only [qag,qe] at *;omega
 have:=h l [];simpa [stackF] using this
structure RI1 (l:List (List UInt8)) (k:Nat) (W:List (List UInt8)) (S:List Int):Prop where
 le:k ≤ l.length
 w:W = wsOf (stackF (l.take k))
 s:S = nsOf (stackF (l.take k))
theorem yad (F:Fz) (hR:RNDF F) (sa:SA) (l:List (List UInt8)) (ha:Sl F 9 1 encS sa l) (hl:l.length = 8) (hk:∀ x ∈ l,x.length ≤ 900000000000) (R:List UInt8) (an:stackF l = [(R,8)]) :
  Fo Tryz.prog F 52 [.va sa] (fun o _=>o = .ret (.va (.str R))):=by
 obtain ⟨bk,bh,bj,bi,bg,bl,rfl,aq,a4,bf,a5⟩:=ha;refine z7e hΘ Tryz.func52 rfl (by decide) _ _ rfl rfl rfl ?_
 refine zam hΘ (X:={ x:Nat × List (List UInt8) × List Int × Nat × Nat // RI1 l x.1 x.2.1 x.2.2.1 }) (fun x=>[(3,.va (gA 1 1 x.1.2.2.2.1 x.1.2.1)),(4,.va (gA 1 2 x.1.2.2.2.2 x.1.2.2.1)),(13,.va (.int .i64 x.1.1))]) (6::7::jr 14 60 [])
  (fun x=>[(0,.frz F),(1,gE 9 1 encS x.1.2.2.2.1 x.1.2.1),(2,gE 3 1 encI x.1.2.2.2.2 x.1.2.2.1)]) 3 (fun x=>8 - x.1.1) ⟨(0,[],[],0,0),⟨yd _,rfl,rfl⟩⟩
  (fun U V=>leI [(1,1),(2,2)] U V rfl ⟨tv,zai zcf _ _ _ _ _,zai zcm _ _ _ _ _,tv⟩ ⟨rfl,rfl,rfl,tv⟩ ⟨Fz.r F,rfl,rfl,tv⟩) ?_
 rintro ⟨⟨k,W,S,c,d⟩,ag,y,hS⟩ U V;replace ag:k ≤ l.length:=ag;replace y:W = wsOf (stackF (l.take k)):=y;replace hS:S = nsOf (stackF (l.take k)):=hS;have p:S.length = W.length:=by rw [hS,y,zgq,zkm]
 by_cases g:k < l.length
 ·have hx:=hk l[k] (qy g);refine br (fun _=>?_) (fun h=>absurd h (by simp; omega));refine ⟨Sl.lt aq g,⟨by simp,by simpa using g⟩,_,a4 (Sl.lt aq g),_,Sl.at a5 g,?_⟩;refine useFo (z9d F hR l[k] hx) rfl (zaa _) rfl ?_;rintro _ F1 l1 rfl;have ax:merge ((leafS l[k],1) :: stackF (l.take k)) = stackF (l.take (k + 1)):=by rw [qh g,ztq]
  have Y:Gd (k + 1) ((leafS l[k],1) :: stackF (l.take k)):=by have h:=Gd.stackF (l.take k); rw [qk,qam ag] at h; exact h.leaf _
  have ap:W.length ≤ 8:=by rw [y,zgq]; exact jk (z1s _) (by rw [qk]; omega)
  have a3:(W = [] ∧ S = []) ∨ ∃ w0 wr n0 K,W = w0 :: wr ∧ S = n0 :: K ∧ K.length + 1 = wr.length + 1 ∧ wr.length + 1 ≤ 8:=by
   rcases W with _ | ⟨w0,wr⟩<;>rcases S with _ | ⟨n0,K⟩
   ·exact .inl ⟨rfl,rfl⟩
   ·exact absurd p (by simp)
   ·exact absurd p (by simp)
   ·exact .inr ⟨w0,wr,n0,K,rfl,rfl,p,ap⟩
  refine Or.elim a3 (fun h=>?A) (fun h=>?B)
  case' A=>
   obtain ⟨ad,ac⟩:=h;subst ad;subst ac;replace y:[] = wsOf (stackF (l.take k)):=y
   have I:∀ (μ:Mu) (c:Nat),SB.arr 9 1 ([] ++ [encS (leafS l[k])]) c = (SB.arr 9 1 ((wsOf ((leafS l[k],1) :: stackF (l.take k))).map encS) c).ren μ:=fun μ c=>by
    rw [zcx zcf rfl,zd8,← y]; simp
   have i:∀ (μ:Mu) (c:Nat),SB.arr 3 1 ([] ++ [encI 1]) c = (SB.arr 3 1 ((nsOf ((leafS l[k],1) :: stackF (l.take k))).map encI) c).ren μ:=fun μ c=>by
    rw [zcx zcm rfl,zd3,← hS]; simp
   have f:((leafS l[k],1) :: stackF (l.take k)).length = 1:=by rw [qe,← zgq,← y]; rfl
   refine ⟨nb rfl,[encS (leafS l[k])],rfl,rfl,rfl,nb rfl,fun L h1=>?_⟩;refine ⟨nb rfl,[encI 1],rfl,rfl,rfl,nb rfl,fun d1 g1=>?_⟩
   refine zam hΘ (X:={ x:Stk × Nat × Nat // x.1 ≠ [] ∧ merge x.1 = stackF (l.take (k + 1)) ∧ x.1.length ≤ 9 ∧ Gd (k + 1) x.1 ∧ x.1.length ≤ x.2.1 ∧ x.1.length ≤ x.2.2 }) (fun x=>[(3,.va (.slice false 7 0 0 1 x.1.1.length x.1.2.1)),(4,.va (.slice false 8 0 0 1 x.1.1.length x.1.2.2)),(7,.va (.int .i64 x.1.1.length))]) (jr 27 46 [])
    (fun x=>[(0,.frz F1),(4,.gone),(6,.gone),(7,.one (.arr 9 1 ((wsOf x.1.1).map encS) x.1.2.1)),(8,.one (.arr 3 1 ((nsOf x.1.1).map encI) x.1.2.2))]) 9 (fun x=>x.1.1.length) ⟨((leafS l[k],1) :: stackF (l.take k),L,d1),by simp,ax,by rw [f]; omega,Y,by show ((leafS l[k],1) :: stackF (l.take k)).length ≤ L; rw [f]; exact h1,by show ((leafS l[k],1) :: stackF (l.take k)).length ≤ d1; rw [f]; exact g1⟩
    (fun U V=>leI [(7,4),(8,6)] U V rfl ⟨tv,tv,tv,zbj zcf 9 1 9 L (wsOf ((leafS l[k],1) :: stackF (l.take k))),zbj zcm 3 1 9 d1 (nsOf ((leafS l[k],1) :: stackF (l.take k))),tv⟩ ⟨⟨rfl,f,rfl,.inr ⟨rfl,rfl,rfl,rfl⟩⟩,⟨rfl,f,rfl,.inr ⟨rfl,rfl,rfl,rfl⟩⟩,eu (by rw [f]; rfl),tv⟩ ⟨Fz.r F1,I _ L,i _ d1,tv⟩) ?_
  case' B=>
   obtain ⟨w0,wr,n0,K,ad,ac,p,ap⟩:=h;subst ad;subst ac
   have I:∀ (μ:Mu) (c:Nat),SB.arr 9 1 ((w0 :: wr).map encS ++ [encS (leafS l[k])]) c = (SB.arr 9 1 ((wsOf ((leafS l[k],1) :: stackF (l.take k))).map encS) c).ren μ:=fun μ c=>by
    rw [zcx zcf rfl,zd8,← y]; simp
   have i:∀ (μ:Mu) (c:Nat),SB.arr 3 1 ((n0 :: K).map encI ++ [encI 1]) c = (SB.arr 3 1 ((nsOf ((leafS l[k],1) :: stackF (l.take k))).map encI) c).ren μ:=fun μ c=>by
    rw [zcx zcm rfl,zd3,← hS]; simp
   have f:((leafS l[k],1) :: stackF (l.take k)).length = wr.length + 1 + 1:=by rw [qe,← zgq,← y]; rfl
   refine ⟨nb rfl,[encS (leafS l[k])],rfl,rfl,rfl,by simp,rfl,by show (wr.length + 1 + 1) * 16 ≤ _; omega,fun L h1=>?_⟩;refine ⟨nb rfl,[encI 1],rfl,rfl,rfl,by simp,rfl,by show (K.length + 1 + 1) * 8 ≤ _; omega,fun d1 g1=>?_⟩
   refine zam hΘ (X:={ x:Stk × Nat × Nat // x.1 ≠ [] ∧ merge x.1 = stackF (l.take (k + 1)) ∧ x.1.length ≤ 9 ∧ Gd (k + 1) x.1 ∧ x.1.length ≤ x.2.1 ∧ x.1.length ≤ x.2.2 }) (fun x=>[(3,.va (.slice false 7 0 0 1 x.1.1.length x.1.2.1)),(4,.va (.slice false 8 0 0 1 x.1.1.length x.1.2.2)),(7,.va (.int .i64 x.1.1.length))]) (jr 27 46 [])
    (fun x=>[(0,.frz F1),(4,.gone),(6,.gone),(7,.one (.arr 9 1 ((wsOf x.1.1).map encS) x.1.2.1)),(8,.one (.arr 3 1 ((nsOf x.1.1).map encI) x.1.2.2))]) 9 (fun x=>x.1.1.length) ⟨((leafS l[k],1) :: stackF (l.take k),L,d1),by simp,ax,by rw [f]; omega,Y,by show ((leafS l[k],1) :: stackF (l.take k)).length ≤ L; rw [f]; exact h1,by show ((leafS l[k],1) :: stackF (l.take k)).length ≤ d1; rw [f]; have g2:K.length + 1 + 1 ≤ d1:=g1; omega⟩
    (fun U V=>leI [(7,4),(8,6)] U V rfl ⟨tv,tv,tv,zbj zcf 9 1 9 L (wsOf ((leafS l[k],1) :: stackF (l.take k))),zbj zcm 3 1 9 d1 (nsOf ((leafS l[k],1) :: stackF (l.take k))),tv⟩ ⟨⟨rfl,f,rfl,.inr ⟨rfl,rfl,rfl,rfl⟩⟩,⟨rfl,(by rw [f]; show wr.length + 1 + 1 = K.length + 1 + 1; omega),rfl,.inr ⟨rfl,rfl,rfl,rfl⟩⟩,eu (by rw [f]; show ((wr.length + 1 + 1:Nat):Int) = ((K.length + 1 + 1:Nat):Int); omega),tv⟩ ⟨Fz.r F1,I _ L,i _ d1,tv⟩) ?_
  all_goals
   rintro ⟨⟨x,c2,d2⟩,ah,J,M,s,O,Q⟩ am ao;replace ah:x ≠ []:=ah;replace J:merge x = stackF (l.take (k + 1)):=J;replace M:x.length ≤ 9:=M;replace s:Gd (k + 1) x:=s;replace O:x.length ≤ c2:=O;replace Q:x.length ≤ d2:=Q;rcases x with _ | ⟨⟨b,n⟩,_ | ⟨⟨a,m⟩,r⟩⟩
   ·exact absurd rfl ah
   ·have aa:∀ (μ:Mu) (c:Nat),SB.arr 9 1 ((wsOf [(b,n)]).map encS) c = (SB.arr 9 1 ([b].map encS) c).ren μ:=fun μ c=>by rw [zcx zcf rfl]; rfl
    have ab:∀ (μ:Mu) (c:Nat),SB.arr 3 1 ((nsOf [(b,n)]).map encI) c = (SB.arr 3 1 ([(n:Int)].map encI) c).ren μ:=fun μ c=>by rw [zcx zcm rfl]; rfl
    have ar:stackF (l.take (k + 1)) = [(b,n)]:=J.symm;have ba:RI1 l (k + 1) [b] [(n:Int)]:=⟨g,by rw [ar]; rfl,by rw [ar]; rfl⟩
    have D:8 - (k + 1) < 8 - k:=by omega
    have G:k < 4611686018427387904:=by omega
    refine drawP hΘ mixed (lk [0,1,2,3,4,5,6,7,8,9,10,11,12,13,14] .done) [8] (by kernel_rfl) ?_;refine gaf (by simp) ?_;exact ⟨⟨(k + 1,[b],[(n:Int)],c2,d2),ba⟩,D,leRn [_,_,_] [_,_] [(1,7),(2,8)] U V rfl ⟨tv,zai zcf _ _ _ _ _,zai zcm _ _ _ _ _,tv⟩ ⟨⟨rfl,rfl,rfl,.inr ⟨rfl,rfl,rfl,rfl⟩⟩,⟨rfl,rfl,rfl,.inr ⟨rfl,rfl,rfl,rfl⟩⟩,cnt G,tv⟩ ⟨l1,aa _ c2,ab _ d2,tv⟩⟩
   ·have a9:(nsOf ((b,n) :: (a,m) :: r))[r.length]? = some (m:Int):=by rw [zd3,zd3]; simp [nsOf]
    have az:(nsOf ((b,n) :: (a,m) :: r))[r.length + 1]? = some (n:Int):=by rw [zd3,zd3]; simp [nsOf]
    have hw:wsOf ((b,n) :: (a,m) :: r) = ((wsOf ((b,n) :: (a,m) :: r)).headD [] :: (wsOf ((b,n) :: (a,m) :: r)).tail):=zyk [] (yav _ _);have hn:nsOf ((b,n) :: (a,m) :: r) = ((nsOf ((b,n) :: (a,m) :: r)).headD 0 :: (nsOf ((b,n) :: (a,m) :: r)).tail):=zyk 0 (z9x _ _);have aa:∀ (μ:Mu) (c:Nat),SB.arr 9 1 ((wsOf ((b,n) :: (a,m) :: r)).map encS) c = (SB.arr 9 1 (((wsOf ((b,n) :: (a,m) :: r)).headD [] :: (wsOf ((b,n) :: (a,m) :: r)).tail).map encS) c).ren μ:=fun μ c=>by rw [← hw]; exact (zcx zcf rfl _ _ _ _).symm
    have ab:∀ (μ:Mu) (c:Nat),SB.arr 3 1 ((nsOf ((b,n) :: (a,m) :: r)).map encI) c = (SB.arr 3 1 (((nsOf ((b,n) :: (a,m) :: r)).headD 0 :: (nsOf ((b,n) :: (a,m) :: r)).tail).map encI) c).ren μ:=fun μ c=>by rw [← hn]; exact (zcx zcm rfl _ _ _ _).symm
    have be:(wsOf ((b,n) :: (a,m) :: r)).tail.length + 1 = r.length + 1 + 1:=by have h:=congrArg List.length hw; rw [zgq] at h; exact h.symm
    have a7:(nsOf ((b,n) :: (a,m) :: r)).tail.length + 1 = r.length + 1 + 1:=by have h:=congrArg List.length hn; rw [zkm] at h; exact h.symm
    have av:a.length ≤ 100000000000:=by rw [s.1 (a,m) (by simp)]; decide
    have aw:b.length ≤ 100000000000:=by rw [s.1 (b,n) (by simp)]; decide
    have a8:decide ((m:Int) = (n:Int)) = false → RI1 l (k + 1) ((wsOf ((b,n) :: (a,m) :: r)).headD [] :: (wsOf ((b,n) :: (a,m) :: r)).tail) ((nsOf ((b,n) :: (a,m) :: r)).headD 0 :: (nsOf ((b,n) :: (a,m) :: r)).tail):=fun h=>by
     have he:stackF (l.take (k + 1)) = ((b,n) :: (a,m) :: r):=by rw [← J]; exact z4q (fun e=>absurd (oe h) (by simp [e]))
     exact ⟨g,by rw [he,← hw],by rw [he,← hn]⟩
    have D:8 - (k + 1) < 8 - k:=by omega
    have G:k < 4611686018427387904:=by omega
    replace M:r.length + 1 + 1 ≤ 9:=M;replace O:r.length + 1 + 1 ≤ c2:=O;replace Q:r.length + 1 + 1 ≤ d2:=Q;have j:IntKind.i64.wrap (((r.length + 1 + 1:Nat):Int) - 2) = ((r.length:Nat):Int):=by rw [zaj (by omega) (by omega)]; omega
    have e1:IntKind.i64.wrap (((r.length + 1 + 1:Nat):Int) - 1) = ((r.length + 1:Nat):Int):=by rw [zaj (by omega) (by omega)]; omega
    have q2:0 ≤ IntKind.i64.wrap (((r.length + 1 + 1:Nat):Int) - 2) ∧ IntKind.i64.wrap (((r.length + 1 + 1:Nat):Int) - 2) < ((r.length + 1 + 1:Nat):Int):=by rw [j]; omega
    have q1:0 ≤ IntKind.i64.wrap (((r.length + 1 + 1:Nat):Int) - 1) ∧ IntKind.i64.wrap (((r.length + 1 + 1:Nat):Int) - 1) < ((r.length + 1 + 1:Nat):Int):=by rw [e1]; omega
    have p2:0 ≤ IntKind.i64.wrap (((r.length + 1 + 1:Nat):Int) - 2) ∧ IntKind.i64.wrap (((r.length + 1 + 1:Nat):Int) - 2) ≤ (c2:Int):=by rw [j]; omega
    have p3:0 ≤ IntKind.i64.wrap (((r.length + 1 + 1:Nat):Int) - 2) ∧ IntKind.i64.wrap (((r.length + 1 + 1:Nat):Int) - 2) ≤ (d2:Int):=by rw [j]; omega
    have gm:((nsOf ((b,n) :: (a,m) :: r)).map encI)[0 + (IntKind.i64.wrap (((r.length + 1 + 1:Nat):Int) - 2)).toNat]? = some (encI m):=by rw [j,ql,qv,qu,a9]; rfl
    have gn:((nsOf ((b,n) :: (a,m) :: r)).map encI)[0 + (IntKind.i64.wrap (((r.length + 1 + 1:Nat):Int) - 1)).toNat]? = some (encI n):=by rw [e1,ql,qv,qu,az]; rfl
    have bc:(wsOf ((b,n) :: (a,m) :: r))[r.length]? = some a:=by rw [zd8,zd8]; simp [wsOf]
    have bd:(wsOf ((b,n) :: (a,m) :: r))[r.length + 1]? = some b:=by rw [zd8,zd8]; simp [wsOf]
    have ga:((wsOf ((b,n) :: (a,m) :: r)).map encS)[0 + (IntKind.i64.wrap (((r.length + 1 + 1:Nat):Int) - 2)).toNat]? = some (encS a):=by rw [j,ql,qv,qu,bc]; rfl
    have gb:((wsOf ((b,n) :: (a,m) :: r)).map encS)[0 + (IntKind.i64.wrap (((r.length + 1 + 1:Nat):Int) - 1)).toNat]? = some (encS b):=by rw [e1,ql,qv,qu,bd]; rfl
    have ht:((wsOf ((b,n) :: (a,m) :: r)).map encS).take r.length = (wsOf r).map encS:=by rw [zd8,zd8,qm,qq,qdl (by rw [qa,zgq])]
    have bb:((nsOf ((b,n) :: (a,m) :: r)).map encI).take r.length = (nsOf r).map encI:=by rw [zd3,zd3,qm,qq,qdl (by rw [qa,zkm])]
    have ay:decide ((m:Int) = (n:Int)) = true → m = n ∧ 2 * n ≤ 8:=fun h=>by
     have h1:m = n:=by have:=od h; omega
     have h2:=s.2;simp only [q5,List.sum_cons] at h2;exact ⟨h1,by omega⟩
    have Z:decide ((m:Int) = (n:Int)) = true → ∀ q d3,(IntKind.i64.wrap (((r.length + 1 + 1:Nat):Int) - 2)).toNat - 0 + [encS (nodeS a b)].length ≤ q → (IntKind.i64.wrap (((r.length + 1 + 1:Nat):Int) - 2)).toNat - 0 + [encI (IntKind.i64.wrap (2 * (n:Int)))].length ≤ d3 →
      ((nodeS a b,2 * n) :: r) ≠ [] ∧ merge ((nodeS a b,2 * n) :: r) = stackF (l.take (k + 1)) ∧ ((nodeS a b,2 * n) :: r).length ≤ 9 ∧ Gd (k + 1) ((nodeS a b,2 * n) :: r) ∧ ((nodeS a b,2 * n) :: r).length ≤ q ∧ ((nodeS a b,2 * n) :: r).length ≤ d3:=fun h q d3 h3 h4=>by
     have hm:=(ay h).1;rw [j] at h3 h4;refine ⟨by simp,(zz5 hm).symm.trans J,by rw [qe]; omega,s.join hm,?_,?_⟩
     ·rw [qe]; simpa using h3
     ·rw [qe]; simpa using h4
    have E:((nodeS a b,2 * n) :: r).length < ((b,n) :: (a,m) :: r).length:=by simp
    have n3:((nodeS a b,2 * n) :: r).length = (IntKind.i64.wrap (((r.length + 1 + 1:Nat):Int) - 2)).toNat - 0 + [encS (nodeS a b)].length:=by rw [j]; simp
    have n4:((nodeS a b,2 * n) :: r).length = (IntKind.i64.wrap (((r.length + 1 + 1:Nat):Int) - 2)).toNat - 0 + [encI (IntKind.i64.wrap (2 * (n:Int)))].length:=by rw [j]; simp
    have n5:((((nodeS a b,2 * n) :: r).length:Nat):Int) = IntKind.i64.wrap (((r.length + 1 + 1:Nat):Int) - 1):=by rw [e1]; rfl
    have ai:∀ (μ:Mu) (c:Nat),SB.arr 9 1 (((wsOf ((b,n) :: (a,m) :: r)).map encS).take ((IntKind.i64.wrap (((r.length + 1 + 1:Nat):Int) - 2)).toNat - 0) ++ [encS (nodeS a b)]) c = (SB.arr 9 1 ((wsOf ((nodeS a b,2 * n) :: r)).map encS) c).ren μ:=fun μ c=>by
     rw [zcx zcf rfl,j,ql,qaw,ht,zd8,qq]; rfl
    have aj:∀ (μ:Mu) (c:Nat),IntKind.i64.wrap (2 * (n:Int)) = ((2 * n:Nat):Int) → SB.arr 3 1 (((nsOf ((b,n) :: (a,m) :: r)).map encI).take ((IntKind.i64.wrap (((r.length + 1 + 1:Nat):Int) - 2)).toNat - 0) ++ [encI (IntKind.i64.wrap (2 * (n:Int)))]) c = (SB.arr 3 1 ((nsOf ((nodeS a b,2 * n) :: r)).map encI) c).ren μ:=fun μ c h=>by
     rw [zcx zcm rfl,j,ql,qaw,bb,zd3,qq,h]; rfl
    have a0:decide ((m:Int) = (n:Int)) = true → IntKind.i64.wrap (2 * (n:Int)) = ((2 * n:Nat):Int):=fun h=>by
     have:=(ay h).2;rw [zaj (by omega) (by omega)]; omega
    have f0:(if c2 = 0 then 0 else 0 + 0) = 0:=by split<;>rfl
    have f1:(if d2 = 0 then 0 else 0 + 0) = 0:=by split<;>rfl
    have fl:(IntKind.i64.wrap (((r.length + 1 + 1:Nat):Int) - 2)).toNat - 0 ≤ ((wsOf ((b,n) :: (a,m) :: r)).map encS).length:=by rw [j,qa,zgq]; simp; omega
    have ak:(IntKind.i64.wrap (((r.length + 1 + 1:Nat):Int) - 2)).toNat - 0 ≤ ((nsOf ((b,n) :: (a,m) :: r)).map encI).length:=by rw [j,qa,zkm]; simp; omega
    have al:((IntKind.i64.wrap (((r.length + 1 + 1:Nat):Int) - 2)).toNat - 0 + [encS (nodeS a b)].length) * 16 ≤ 140737488355328:=by rw [j]; simp; omega
    have T:∀ z:Int,((IntKind.i64.wrap (((r.length + 1 + 1:Nat):Int) - 2)).toNat - 0 + [encI z].length) * 8 ≤ 140737488355328:=fun z=>by rw [j]; simp; omega
    refine drawP hΘ mixed (lk [0,1,2,3,4,5,6,7,8,9,10,11,12,13,14] .done) [8] (by kernel_rfl) ⟨fun _=>?_,fun g=>absurd g (by simp; omega)⟩;refine ⟨rfl,q2,rfl,encI m,gm,rfl,q1,rfl,encI n,gn,?_⟩;refine br (fun u=>?_) (fun u=>?_)
    ·refine famW 7 rfl ?_;refine famW 8 rfl ?_;refine drawP hΘ mixed (lk [0,1,2,3,4,5,6,7,9,10,11,12] (.alt 8 (.alt 13 (.alt 14 (.alt 15 (.alt 16 (.look 17 .done) .nil) .nil) .nil) .nil) (.alt 13 (.alt 8 (.alt 14 (.alt 15 (.alt 16 (.look 17 .done) .nil) .nil) .nil) .nil) .nil))) [] (by kernel_rfl) ⟨p2,rfl,q2,rfl,q1,?_,?_⟩
     ·refine ⟨⟨y4,rfl⟩,encS a,ga,Fz.r F1,⟨y4,rfl⟩,encS b,gb,Fz.r F1,?_⟩;refine useFo (z0h F1 (hR.mono l1) a b av aw) rfl (zaa _) rfl ?_;rintro _ w l2 rfl;refine ⟨l2,Fz.r w,nb rfl,[encS (nodeS a b)],rfl,⟨y4,rfl⟩,f0,fl,qaw _,al,fun q ae=>?_⟩;refine ⟨Fz.r w,?_⟩;refine drawP hΘ mixed (lk [0,1,2,3,4,5,6,7] (.alt 8 (.look 9 (.alt 10 (.alt 11 (.look 12 .done) .nil) .nil)) .nil)) [] (by kernel_rfl) ⟨p3,rfl,q1,⟨y4,rfl⟩,encI n,gn,Fz.r w,Fz.r w,nb rfl,[encI (IntKind.i64.wrap (2 * (n:Int)))],rfl,⟨y4,rfl⟩,f1,ak,qaw _,T _,fun d3 af=>?_⟩;refine ⟨Fz.r w,?_⟩;exact ⟨⟨((nodeS a b,2 * n) :: r,q,d3),Z u q d3 ae af⟩,E,leR [(7,10),(8,12)] am ao rfl ⟨tv,tv,tv,zbj zcf 9 1 9 q (wsOf ((nodeS a b,2 * n) :: r)),zbj zcm 3 1 9 d3 (nsOf ((nodeS a b,2 * n) :: r)),tv⟩ ⟨⟨rfl,n3,rfl,.inr ⟨rfl,rfl,rfl,rfl⟩⟩,⟨rfl,n4,rfl,.inr ⟨rfl,rfl,rfl,rfl⟩⟩,eu n5,tv⟩ ⟨l2,ai _ q,aj _ d3 (a0 u),tv⟩⟩
     ·refine ⟨⟨y4,rfl⟩,encS b,gb,Fz.r F1,⟨y4,rfl⟩,encS a,ga,Fz.r F1,?_⟩;refine useFo (z0h F1 (hR.mono l1) a b av aw) rfl (zaa _) rfl ?_;rintro _ w l2 rfl;refine ⟨l2,Fz.r w,nb rfl,[encS (nodeS a b)],rfl,⟨y4,rfl⟩,f0,fl,qaw _,al,fun q ae=>?_⟩;refine ⟨Fz.r w,?_⟩;refine drawP hΘ mixed (lk [0,1,2,3,4,5,6,7] (.alt 8 (.look 9 (.alt 10 (.alt 11 (.look 12 .done) .nil) .nil)) .nil)) [] (by kernel_rfl) ⟨p3,rfl,q1,⟨y4,rfl⟩,encI n,gn,Fz.r w,Fz.r w,nb rfl,[encI (IntKind.i64.wrap (2 * (n:Int)))],rfl,⟨y4,rfl⟩,f1,ak,qaw _,T _,fun d3 af=>?_⟩;refine ⟨Fz.r w,?_⟩;exact ⟨⟨((nodeS a b,2 * n) :: r,q,d3),Z u q d3 ae af⟩,E,leR [(7,10),(8,12)] am ao rfl ⟨tv,tv,tv,zbj zcf 9 1 9 q (wsOf ((nodeS a b,2 * n) :: r)),zbj zcm 3 1 9 d3 (nsOf ((nodeS a b,2 * n) :: r)),tv⟩ ⟨⟨rfl,n3,rfl,.inr ⟨rfl,rfl,rfl,rfl⟩⟩,⟨rfl,n4,rfl,.inr ⟨rfl,rfl,rfl,rfl⟩⟩,eu n5,tv⟩ ⟨l2,ai _ q,aj _ d3 (a0 u),tv⟩⟩
    ·exact ⟨⟨(k + 1,((wsOf ((b,n) :: (a,m) :: r)).headD [] :: (wsOf ((b,n) :: (a,m) :: r)).tail),((nsOf ((b,n) :: (a,m) :: r)).headD 0 :: (nsOf ((b,n) :: (a,m) :: r)).tail),c2,d2),a8 u⟩,D,leRn [_,_,_] [_,_] [(1,7),(2,8)] U V rfl ⟨tv,zai zcf _ _ _ _ _,zai zcm _ _ _ _ _,tv⟩ ⟨⟨rfl,be,rfl,.inr ⟨rfl,rfl,rfl,rfl⟩⟩,⟨rfl,a7,rfl,.inr ⟨rfl,rfl,rfl,rfl⟩⟩,cnt G,tv⟩ ⟨l1,aa _ c2,ab _ d2,tv⟩⟩
 ·have au:k = l.length:=by omega
  have a2:W = [R]:=by rw [y,au,yx,an]; rfl
  have a1:S = [8]:=by rw [hS,au,yx,an]; rfl
  have a6:¬ (k:Int) < (l.length:Int):=by omega
  subst a2;subst a1;refine brj a6 ?_;refine brd (by decide) ⟨rfl,by decide,rfl,encS R,rfl,⟨by decide,by show (0:Int) ≤ (c:Int); omega⟩,?_⟩;refine zhw hΘ Tryz.func115 rfl (by decide) _ _ rfl rfl rfl (zcw hΘ _ _ _ ?_);refine zxa rfl rfl rfl ?_;refine ⟨rfl,rfl,?_⟩;exact endFo (.ret (.va (.str R))) F rfl (Fz.r F) (Fz.r F) rfl (zah _) rfl
theorem rootF (l:List (List UInt8)) (i:l.length = 8):stackF l = [(root8 l,8)]:=by
 match l,i with
 |[a,b,c,d,e,f,g,h],_=>exact ycq a b c d e f g h
theorem zkf (F:Fz) (d:RNDF F) (a:SA) (l:List (List UInt8)) (b:Sl F 9 1 encS a l) (c:l.length = 8) (s:∀ x ∈ l,x.length ≤ 900000000000) :
  Fo Tryz.prog F 17 [.va a] (fun o _=>o = .ret (.va (.str (root8 l)))):=by
 have h:=yad F d a l b c s (root8 l) (rootF l c);obtain ⟨p,k,n,m,j,q,rfl,e,f,g,i⟩:=b;refine fo_of hΘ Tryz.func17 rfl (by decide) _ _ rfl rfl rfl ?_;refine useFo h rfl (zaa _) rfl ?_;rintro _ F1 u rfl;exact endFo (.ret (.va (.str (root8 l)))) F1 rfl u (Fz.r F1) rfl (zah _) rfl
def atV (A:List (List UInt8)) (p:Int):List UInt8:=A[(p - 1).toNat]?.getD []
def chkAt (A B:List (List UInt8)) (x:Kp):Bool:=decide (x.2 = [(6,0)]) || (decide ((zc4 x.1 x.2 (atV A x.1)).2 = 0) && decide ((zc4 x.1 x.2 (atV A x.1)).1 = atV B x.1))
theorem z8y (F:Fz) (e:SA) (l:List Stp) (f:zba F e l) (w:l.length < 1000000) :
  Fo Tryz.prog F 60 [.va e] (fun o _=>o = .ret (.va (.bool (decide (l = [(6,0)]))))):=by
 have d:=fun F1 (a:Fz.le F F1) x c=>zih F1 e x l [(6,0)] (f.mono a) c w
 obtain ⟨q,m,p,n,k,s,rfl,g,h,i,j⟩:=f;refine fo_of hΘ Tryz.func60 rfl (by decide) _ _ rfl rfl rfl ?_;refine za4 1 (fun _=>.arr 56 2 ([(6,0)].map enc) 1) rfl rfl rfl (fun _ _=>rfl) (fun _ _=>SB.bB_ok rfl) ?_;intro b F1 a c;have u:=d F1 a _ (Sl.new (l:=[(6,0)]) (cap:=1) (c 0 rfl));refine usePu u rfl ⟨⟨rfl,rfl,rfl,.inr ⟨rfl,rfl,rfl,rfl⟩⟩,⟨rfl,rfl,rfl,.inr ⟨rfl,rfl,rfl,rfl⟩⟩,tv⟩ rfl ?_;exact endFo (.ret (.va (.bool (decide (l = [(6,0)]))))) F1 rfl a (Fz.r F1) rfl (zah _) rfl
theorem zxv {A:List (List UInt8)} {p:Int} (a:A.length = 8) (b:1 ≤ p ∧ p ≤ 8):A[(p - 1).toNat]? = some (atV A p):=by
 unfold atV;rw [qc (show (p - 1).toNat < A.length by omega)]; rfl
theorem zx7 (F:Fz) (hM:MLF F) (f n q:SA) (A B:List (List UInt8)) (E bB:Nat) (x:Kp) (j:zba F f x.2) (w:x.2.length < 1000000) (hA:Sl F 9 1 encS n A) (hB:Sl F 9 1 encS q B) (g:A.length = 8) (i:B.length = 8)
  (ab:F E = some (.cells 34 [n])) (ac:F bB = some (.cells 34 [q])) (y:1 ≤ x.1 ∧ x.1 ≤ 8) (hs:∀ s ∈ A,s.length ≤ 1000000000000000000) :
  Fo Tryz.prog F 58 [.agg [.int .i64 x.1,f],.va (.ptr (fp E)),.va (.ptr (fp bB))] (fun o _=>o = .ret (.va (.bool (!chkAt A B x)))):=by
 obtain ⟨p,l⟩:=x;replace y:1 ≤ p ∧ p ≤ 8:=y;replace w:l.length < 1000000:=w;replace j:zba F f l:=j;have gA:=zxv g y;have gB:=zxv i y;have a:=zt4 F hM f l p (atV A p) j w (hs _ (yt gA));have b:=fun F1 (c:Fz.le F F1)=>z8y F1 f l (j.mono c) w
 have hw:IntKind.i64.wrap (p - 1) = p - 1:=zaj (by omega) (by omega);have qA:0 ≤ IntKind.i64.wrap (p - 1) ∧ IntKind.i64.wrap (p - 1) < (A.length:Int):=by rw [hw]; omega
 have qB:0 ≤ IntKind.i64.wrap (p - 1) ∧ IntKind.i64.wrap (p - 1) < (B.length:Int):=by rw [hw]; omega
 have m:∀ (L:List (List SA)) (e:Nat) (C:List (List UInt8)),(L.drop e).take C.length = C.map encS → C.length = 8 → C[(p - 1).toNat]? = some (atV C p) → L[e + (IntKind.i64.wrap (p - 1)).toNat]? = some (encS (atV C p)):=by
  intro L e C h1 h2 h3;have h4:=Sl.at h1 (k:=(p - 1).toNat) (by omega);rw [hw];rw [qc (show (p - 1).toNat < C.length by omega)] at h3;rw [Option.some.inj h3] at h4;exact h4
 show Fo Tryz.prog F 58 [.agg [.int .i64 p,f],.va (.ptr (fp E)),.va (.ptr (fp bB))] (fun o F'=>o = .ret (.va (.bool (!(decide (l = [(6,0)]) || (decide ((zc4 p l (atV A p)).2 = 0) && decide ((zc4 p l (atV A p)).1 = atV B p)))))));obtain ⟨R,hR⟩:∃ R,zc4 p l (atV A p) = R:=⟨_,rfl⟩
 rw [hR] at a ⊢;obtain ⟨t,e⟩:=R;clear hR;obtain ⟨U,ag,T,ah,S,ai,rfl,M,O,af,Q⟩:=hA;obtain ⟨aa,ak,Z,al,Y,am,rfl,V,W,aj,X⟩:=hB;have rA:=m S T A Q g gA;have rB:=m Y Z B X i gB;have nA:U = false:=Sl.lt M (show 0 < A.length by omega);have nB:aa = false:=Sl.lt V (show 0 < B.length by omega);generalize atV A p = va at *;generalize atV B p = vb at *;obtain ⟨ax,au,aw,av,ar,ay,rfl,an,ao,ap,aq⟩:=j
 have fin:∀ (v:Bool) (F1:Fz) (h:Hp) (nx:Nat),(!(decide (l = [(6,0)]) || (decide (e = 0) && decide (t = vb)))) = v → lget h 0 = some (.frz F1) → Fz.le F F1 → Cln 1 (FoK F fun o F'=>o = .ret (.va (.bool (!(decide (l = [(6,0)]) || (decide (e = 0) && decide (t = vb))))))) (.ret (.va (.bool v))) h nx:=by
  intro v F1 h nx hv h0 ae;exact endFo (.ret (.va (.bool v))) F1 h0 ae (Fz.r F1) (by rw [hv]) rfl rfl
 refine fo_of hΘ Tryz.func58 rfl (by decide) _ _ rfl rfl rfl ?_;refine drawP hΘ mixed (lk [0,1,2,3,4,5,6,7,8,9] (.alt 10 (lk [11,12,13,14,15] .done) .nil)) [1] (by kernel_rfl) ⟨rfl,rfl,rfl,_,ab,rfl,nA,qA,rfl,_,O nA,_,rA,?_⟩;refine useFo a rfl (zaa _) rfl ?_;rintro _ F1 c rfl;have ad:=b F1 c;refine ⟨c,rfl,?_⟩;refine useFo ad rfl (zaa _) rfl ?_;rintro _ D l2 rfl;refine ⟨fun u=>?_,fun u=>?_⟩
 rotate_left
 ·exact fin false D _ _ (by rw [show decide (l = [(6,0)]) = true by simpa using u]; rfl) rfl (Fz.t c l2)
 refine ⟨fun G=>?_,fun G=>?_⟩
 ·have d:=Fz.t c l2;have K:decide (l = [(6,0)]) = false:=by simpa using u
  have J:decide (e = 0) = true:=by
   have I:(!decide (e = 0)) = false:=G;simpa using I
  refine ⟨_,d _ _ ac,nB,qB,_,d _ _ (W nB),_,rB,?_⟩;exact fin _ D _ _ (by rw [K,J,← beqD rfl]; rfl) rfl d
 ·have J:decide (e = 0) = false:=by
   have I:(!decide (e = 0)) = true:=G;simpa using I
  have K:decide (l = [(6,0)]) = false:=by simpa using u
  exact fin true D _ _ (by rw [K,J]; rfl) rfl (Fz.t c l2)
theorem z3b (F:Fz) (hM:MLF F) (sk f i:SA) (A B:List (List UInt8)) (u bB:Nat) (b:List Kp) (hk:ClsAt F sk b) (hs:short b) (hl:b.length < 1000000) (Z:Sl F 9 1 encS f A) (hB:Sl F 9 1 encS i B) (E:A.length = 8) (I:B.length = 8) (L:F u = some (.cells 34 [f])) (M:F bB = some (.cells 34 [i])) (hx:∀ x ∈ b,1 ≤ x.1 ∧ x.1 ≤ 8) (Q:∀ s ∈ A,s.length ≤ 1000000000000000000) :
  Fo Tryz.prog F 125 [.va sk,.va (.fn (.func 58) [fp u,fp bB])] (fun o _=>o = .ret (.va (.int .i64 (idxN (chkAt A B) b 0)))):=by
 obtain ⟨kn,kb,ke,kc,kL,kr,rfl,U,k2,k3,k4⟩:=hk
 have fin:∀ (x:Int) (F1:Fz) (h:Hp) (nx:Nat),idxN (chkAt A B) b 0 = x → lget h 0 = some (.frz F1) → Fz.le F F1 →
   Cln 1 (FoK F fun o W=>o = .ret (.va (.int .i64 (idxN (chkAt A B) b 0)))) (.ret (.va (.int .i64 x))) h nx:=by
  intro x F1 h nx hv Y O;exact endFo (.ret (.va (.int .i64 x))) F1 Y O (Fz.r F1) (by rw [hv]) rfl rfl
 refine fo_of hΘ Tryz.func125 rfl (by decide) _ _ rfl rfl rfl ?_
 refine zam hΘ (X:={ x:Nat × Fz // Fz.le F x.2 ∧ x.1 ≤ b.length ∧ idxN (chkAt A B) b 0 = idxN (chkAt A B) (b.drop x.1) x.1 }) (fun x=>[(8,.va (.int .i64 x.1.1))]) (4::5::jr 9 10 []) (fz fun x=>x.1.2) 1 (fun x=>b.length - x.1.1) ⟨(0,F),Fz.r F,by simp,by simp⟩
  (fun J K=>leI [] J K rfl ⟨tv,tv⟩ ⟨rfl,tv⟩ ⟨Fz.r F,tv⟩) ?_
 rintro ⟨⟨k,G⟩,c,n,e⟩ J K;replace c:Fz.le F G:=c;replace n:k ≤ b.length:=n;replace e:idxN (chkAt A B) b 0 = idxN (chkAt A B) (b.drop k) k:=e;by_cases g:k < b.length
 ·have p:(k:Int) < (b.length:Int):=by omega
  have l:b.length - (k + 1) < b.length - k:=by omega
  have m:k < 4611686018427387904:=by omega
  have R:=hs b[k] (qy g);have S:=hx b[k] (qy g);rw [zqm (chkAt A B) b k g] at e;have j:=SlR.at k4 g;obtain ⟨y,hy,a,rfl,T⟩:=j;have d:=zx7 G (hM.mono c) a f i A B u bB b[k] (T.mono c) R (Z.mono c) (hB.mono c) E I (c _ _ L) (c _ _ M) S Q;obtain ⟨ai,af,ah,ag,ae,aj,rfl,aa,ab,ac,ad⟩:=T;refine bri p ⟨SlR.lt U g,⟨by simp,p⟩,_,c _ _ (k2 (SlR.lt U g)),_,hy,?_⟩;refine useFo d rfl (zaa _) rfl ?_;rintro _ q V rfl;refine br (fun w=>?_) (fun w=>?_)
  ·exact fin _ q _ _ (e.trans (if_pos (by have D:(!(chkAt A B) b[k]) = true:=w; simpa using D))) rfl (Fz.t c V)
  ·conv=>whnf
   have D:(!(chkAt A B) b[k]) = false:=w;exact ⟨⟨(k + 1,q),Fz.t c V,g,e.trans (if_neg (by rw [show (chkAt A B) b[k] = true by simpa using D]; simp))⟩,l,leR [] J K rfl ⟨tv,tv⟩ ⟨cnt m,tv⟩ ⟨Fz.r q,tv⟩⟩
 ·have p:¬ (k:Int) < (b.length:Int):=by omega
  rw [yh (by omega)] at e;refine brj p ?_;exact fin _ G _ _ e rfl c
theorem z2u (F:Fz) (n:MLF F) (sk b c:SA) (A B:List (List UInt8)) (d bB:Nat) (a:List Kp) (k:ClsAt F sk a) (q:short a) (p:a.length < 1000000) (l:Sl F 9 1 encS b A) (m:Sl F 9 1 encS c B) (e:A.length = 8) (f:B.length = 8) (g:F d = some (.cells 34 [b])) (i:F bB = some (.cells 34 [c])) (u:∀ x ∈ a,1 ≤ x.1 ∧ x.1 ≤ 8) (j:∀ s ∈ A,s.length ≤ 1000000000000000000) :
  Fo Tryz.prog F 57 [.va sk,.va (.fn (.func 58) [fp d,fp bB])] (fun o _=>o = .ret (.va (.bool (!a.all (chkAt A B))))):=by
 have h:=z3b F n sk b c A B d bB a k q p l m e f g i u j;obtain ⟨O,K,M,L,J,Q,rfl,D,E,G,I⟩:=k;refine fo_of hΘ Tryz.func57 rfl (by decide) _ _ rfl rfl rfl ?_;refine useFo h rfl (zaa _) rfl ?_;rintro _ F1 w rfl;exact endFo (.ret (.va (.bool (!a.all (chkAt A B))))) F1 rfl w (Fz.r F1) rfl (ob (zu4 (chkAt A B) a).symm) rfl
def zb1 (c:Crt) (A B:List (List UInt8)):Bool:=crtOk c && ((decide (A.length = 8) && decide (B.length = 8)) && (decide (root8 A = c.src) && (decide (root8 B = c.dst) && c.cl.all (chkAt A B))))
theorem zmu:∀ (l:List Kp) (i:Int),clOk l i = true → ∀ x ∈ l,i ≤ x.1 ∧ x.1 < i + l.length
 |[],_,_=>fun x hx=>by simp at hx
 |y :: r,i,h=>fun x hx=>by
  rw [clOk,qd] at h
  have h1:y.1 = i:=by
   have:=h.1;simp only [clAt,qd,decide_eq_true_eq] at this;exact this.1
  rcases qg.1 hx with rfl | hx
  ·simp only [qe]; omega
  ·have:=zmu r (i + 1) h.2 x hx;simp only [qe]; omega
theorem ze5 {c:Crt} (h:crtOk c = true):c.cl.length = 8 ∧ ∀ x ∈ c.cl,1 ≤ x.1 ∧ x.1 ≤ 8:=by
 simp only [crtOk,qd,decide_eq_true_eq] at h;refine ⟨h.2.2.2.2.1,fun x a=>?_⟩;have:=zmu c.cl 1 h.2.2.2.2.2 x a;rw [h.2.2.2.2.1] at this;omega
theorem kC1 {c:Crt} {A B:List (List UInt8)} (h:decide ((A.length:Int) = 8) = false):zb1 c A B = false:=by
 have:decide (A.length = 8) = false:=by simp at h ⊢; omega
 simp only [zb1,this,jj,yf]
theorem kC2 {c:Crt} {A B:List (List UInt8)} (h:(!decide ((B.length:Int) = 8)) = true):zb1 c A B = false:=by
 have:decide (B.length = 8) = false:=by simp at h ⊢; omega
 simp only [zb1,this,jj,yf]
theorem kC3 {c:Crt} {A B:List (List UInt8)} (h:(!crtOk c) = true):zb1 c A B = false:=by
 have:crtOk c = false:=by simpa using h
 simp only [zb1,this,jj]
theorem kC4 {c:Crt} {A B:List (List UInt8)} (h:(!(root8 A == c.src)) = true):zb1 c A B = false:=by
 have h1:(root8 A == c.src) = false:=by simpa using h
 simp only [zb1,beqD h1,jj,yf]
theorem kC5 {c:Crt} {A B:List (List UInt8)} (h:(!(root8 B == c.dst)) = true):zb1 c A B = false:=by
 have h1:(root8 B == c.dst) = false:=by simpa using h
 simp only [zb1,beqD h1,jj,yf]
theorem kC6 {c:Crt} {A B:List (List UInt8)} (h1:decide ((A.length:Int) = 8) = true) (g:(!decide ((B.length:Int) = 8)) = false) (h:(!crtOk c) = false) (i:(!(root8 A == c.src)) = false) (j:(!(root8 B == c.dst)) = false):zb1 c A B = !(!c.cl.all (chkAt A B)):=by
 have a:decide (A.length = 8) = true:=by simp at h1 ⊢; omega
 have b:decide (B.length = 8) = true:=by simp at g ⊢; omega
 have d:crtOk c = true:=by simpa using h
 have e:(root8 A == c.src) = true:=by simpa using i
 have f:(root8 B == c.dst) = true:=by simpa using j
 simp only [zb1,a,b,d,beqD e,beqD f,qaa,Bool.not_not]
theorem zn8 (F:Fz) (hM:MLF F) (hR:RNDF F) (sk f g:SA) (c:Crt) (A B:List (List UInt8)) (hk:ClsAt F sk c.cl) (K:short c.cl) (hl:c.cl.length < 1000000) (I:Sl F 9 1 encS f A) (J:Sl F 9 1 encS g B)
  (E:∀ s ∈ A,s.length ≤ 900000000000) (ag:∀ s ∈ B,s.length ≤ 900000000000) :
  Fo Tryz.prog F 22 [.agg (crtS c sk),.va f,.va g] (fun o _=>o = .ret (.va (.bool (zb1 c A B)))):=by
 have d:=ze6 F sk c hk K hl;have y:=fun F1 (a:Fz.le F F1) n=>zkf F1 (hR.mono a) f A (I.mono a) n E
 have D:=fun F1 (a:Fz.le F F1) n=>zkf F1 (hR.mono a) g B (J.mono a) n ag
 have e:=fun F1 (a:Fz.le F F1) M bB (n:A.length = 8) (X:B.length = 8) (L:crtOk c = true) i j=>z2u F1 (hM.mono a) sk f g A B M bB c.cl (KpsAt.up hk a) K hl (I.mono a) (J.mono a) n X i j (ze5 L).2 (fun s K=>jk (E s K) (by decide))
 have O:=kC1 (c:=c) (A:=A) (B:=B);have e2:=kC2 (c:=c) (A:=A) (B:=B);have Q:=kC3 (c:=c) (A:=A) (B:=B);have S:=kC4 (c:=c) (A:=A) (B:=B);have T:=kC5 (c:=c) (A:=A) (B:=B);have m:=kC6 (c:=c) (A:=A) (B:=B);obtain ⟨v,L⟩:∃ v,zb1 c A B = v:=⟨_,rfl⟩
 rw [L] at O e2 Q S T m ⊢;clear L;obtain ⟨w,hw⟩:∃ w,crtOk c = w:=⟨_,rfl⟩
 rw [hw] at d Q m e;clear hw;obtain ⟨RA,u⟩:∃ R,root8 A = R:=⟨_,rfl⟩
 obtain ⟨RB,x⟩:∃ R,root8 B = R:=⟨_,rfl⟩
 rw [u] at y S m;rw [x] at D T m;clear u x;obtain ⟨src,ah,ay,ks⟩:=c;have ai:=I;have ap:=J;obtain ⟨ab,Y,aa,Z,an,ao,rfl,aj,ak,al,am⟩:=I;obtain ⟨af,ac,ae,ad,aw,ax,rfl,aq,ar,au,av⟩:=J;obtain ⟨kn,kb,ke,kc,kL,kr,rfl,k1,k2,k3,k4⟩:=hk
 have fin:∀ (b:Bool) (F1:Fz) (h:Hp) (nx:Nat),v = b → lget h 0 = some (.frz F1) → Fz.le F F1 → Cln 1 (FoK F fun o F'=>o = .ret (.va (.bool v))) (.ret (.va (.bool b))) h nx:=by
  intro b F1 h nx hb W k;exact endFo (.ret (.va (.bool b))) F1 W k (Fz.r F1) (by rw [hb]) rfl rfl
 have finL:∀ (b:Bool) (F1:Fz) (h:Hp) (nx:Nat),v = b → lget h 0 = some (.frz F1) → Fz.le F F1 → Cln 1 (FoK F fun o F'=>o = .ret (.va (.bool v))) (.ret (.va (.lit b))) h nx:=by
  intro b F1 h nx hb W k;exact endFo (.ret (.va (.bool b))) F1 W k (Fz.r F1) (by rw [hb]) rfl rfl
 refine fo_of hΘ Tryz.func22 rfl (by decide) _ _ rfl rfl rfl ?_;refine ⟨fun gA=>?_,fun gA=>?_⟩
 rotate_left
 ·refine drawP hΘ mixed (.look 0 (.alt 1 (lk [2,3,4,5,6,7,8,10,11] (.alt 9 (lk [12,13,14,15,17,18] (.alt 16 (.look 19 (.look 20 .done)) .nil)) .nil)) .nil)) [1,2,3] (by kernel_rfl) ⟨rfl,?_⟩;refine useFo d rfl (zaa _) rfl ?_;rintro _ F1 a rfl;refine ⟨a,rfl,rfl,rfl,fun l=>?_,fun l=>?_⟩
  ·exact fin false F1 _ _ (O gA) rfl a
  ·exact fin false F1 _ _ (O gA) rfl a
 refine drawP hΘ mixed (.look 0 (.alt 1 (lk [2,3,4,5,6,7,8,10,11] (.alt 9 (lk [12,13,14,15,17,18] (.alt 16 (.look 19 (.look 20 .done)) .nil)) .nil)) .nil)) [1,2,3] (by kernel_rfl) ⟨rfl,?_⟩;refine useFo d rfl (zaa _) rfl ?_;rintro _ F1 a rfl;refine ⟨a,rfl,rfl,rfl,fun l=>?_,fun l=>?_⟩
 rotate_left
 ·exact fin false F1 _ _ (Q l) rfl a
 refine ⟨fun G=>?_,fun G=>?_⟩
 rotate_left
 ·exact fin false F1 _ _ (e2 G) rfl a
 have p:A.length = 8:=by have:=od gA; omega
 have q:B.length = 8:=by
  have h:decide ((B.length:Int) = 8) = true:=by simpa using G
  have:=od h; omega
 refine ⟨rfl,rfl,?_⟩;refine useFo (y F1 a p) rfl (zaa _) rfl ?_;rintro _ F2 l2 rfl;have m2:=Fz.t a l2;refine ⟨l2,rfl,rfl,rfl,fun U=>?_,fun U=>?_⟩
 rotate_left
 ·exact fin false F2 _ _ (S U) rfl m2
 refine ⟨rfl,rfl,?_⟩;refine useFo (D F2 m2 q) rfl (zaa _) rfl ?_;rintro _ F3 l3 rfl;have m3:=Fz.t m2 l3;refine ⟨l3,rfl,rfl,rfl,?_⟩;refine br (fun V=>?_) (fun V=>?_)
 ·exact fin false F3 _ _ (T V) rfl m3
 refine za4 2 (fun _=>.cells 34 [.slice ab 0 Y aa 1 A.length Z]) rfl rfl rfl (fun _ _=>rfl) (fun _ _=>SB.bB_ok rfl) ?_;intro M F4 l4 i;refine za4 3 (fun _=>.cells 34 [.slice af 0 ac ae 1 B.length ad]) rfl rfl rfl (fun _ _=>rfl) (fun _ _=>SB.bB_ok rfl) ?_;intro bB F5 l5 j;have m5:=Fz.t m3 (Fz.t l4 l5);refine useFo (e F5 m5 (M 0) (bB 0) p q (by simpa using l) (l5 _ _ (i 0 rfl)) (j 0 rfl)) rfl (zaa _) rfl ?_;rintro _ F6 l6 rfl;exact fin _ F6 _ _ (m gA G l U V) rfl (Fz.t m5 l6)
end Go.Proofs.YtfnkamphhpldcaaGreatDoor
namespace Go.Proofs.YtfnkamphhpldcaaGreatDoor
open Go Sx
theorem yat (n:Int):unz (zig n) = n:=by
 grind [zig,unz]
theorem z0w (z:Nat):putZ z ≠ []:=by
 grind [zlx,zs7]
theorem zyq (z:Nat):∀ (r:List UInt8) (f i acc:Nat),(putZ z).length ≤ f → ∃ b,decZ (putZ z ++ r) f i acc = some (acc + z * 128 ^ i,i + ((putZ z).length - 1),b) ∧ (b = 0 → z = 0):=by
 induction z using Nat.strongRecOn with
 |_ z ih=>
  intro r f i acc a;by_cases c:z < 128
  ·rw [zlx c] at a ⊢;obtain ⟨f,rfl⟩:∃ g,f = g + 1:=⟨f - 1,by simp at a; omega⟩
   have e:(UInt8.ofNat z).toNat = z:=by rw [qa6]; exact jz (by omega)
   refine ⟨UInt8.ofNat z,?_,fun h=>?_⟩
   ·rw [jy,qx,decZ,if_neg (by rw [e]; omega),e]; rfl
   simp_all
  ·have h1:=ih (z / 128) (by omega);rw [zs7 c] at a ⊢;obtain ⟨f,rfl⟩:∃ g,f = g + 1:=⟨f - 1,by simp at a; omega⟩
   have e:(UInt8.ofNat (z % 128 + 128)).toNat = z % 128 + 128:=by rw [qa6]; exact jz (by omega)
   obtain ⟨b,k,o⟩:=h1 r f (i + 1) (acc + (z % 128 + 128) % 128 * 128 ^ i) (by simp at a; omega);have n:0 < (putZ (z / 128)).length:=qbc.2 (z0w _);refine ⟨b,?_,fun p=>?_⟩
   ·rw [jy,decZ,if_pos (by rw [e]; omega),e,k,qdh]
    have d:acc + (z % 128 + 128) % 128 * 128 ^ i + z / 128 * (128 ^ i * 128) = acc + z * 128 ^ i:=by
     have l:z * 128 ^ i = (z % 128 + 128 * (z / 128)) * 128 ^ i:=by rw [Nat.mod_add_div]
     have m:(z % 128 + 128) % 128 = z % 128:=by omega
     rw [l,m,qbw,qbi (128 ^ i) 128,← Nat.mul_assoc,qbi (z / 128) 128];omega
    rw [d,qe];have j:i + 1 + ((putZ (z / 128)).length - 1) = i + ((putZ (z / 128)).length + 1 - 1):=by omega
    rw [j]
   grind
def okI (n:Int):Prop:=-4611686018427387903 ≤ n ∧ n ≤ 4611686018427387903
theorem zeo {n:Int} (h:okI n):(putIR n).1 = putI n:=by
 grind [okI,putIR]
theorem zjo (n:Int):putI n ≠ []:=z0w _
theorem zcp (a r:List UInt8) {n:Int} (h:okI n):getI (a ++ (putI n ++ r)) (a.length:Nat) = (n,(((a ++ putI n).length:Nat):Int),0):=by
 have c:=zis n h;have d:0 < (putI n).length:=qbc.2 (zjo n);obtain ⟨b,h1,e⟩:=zyq (zig n) r 9 0 0 c;rw [getI,if_neg (by rw [qb]; omega),ql,qcu]
 grind [yat,List.length_append,zlx,decZ,okI,putZ,zig,putI]
theorem zkj (a r t:List UInt8) (h:t.length ≤ 65536):getS (a ++ ((putSR t).1 ++ r)) (a.length:Nat) = (t,(((a ++ (putSR t).1).length:Nat):Int),0):=by
 have e:(putSR t).1 = putI t.length ++ t:=by rw [putSR,if_neg (by omega)]
 have b:okI (t.length:Int):=by unfold okI; omega
 rw [e];have f:=zcp a (t ++ r) b;rw [qm,getS,f];dsimp only;rw [if_neg (by simp),if_neg]
 ·have c:((((a ++ putI t.length).length:Nat):Int) + (t.length:Int)).toNat = (a ++ putI t.length ++ t).length:=by
   rw [qb (bs:=t)]; omega
  have d:a ++ (putI t.length ++ (t ++ r)) = (a ++ putI t.length ++ t) ++ r:=by simp only [qm]
  rw [c,d,List.take_left,ql,qcu];refine Prod.ext rfl (Prod.ext ?_ rfl);show (((a ++ putI t.length).length:Nat):Int) + (t.length:Int) = _;show _ = (((a ++ (putI t.length ++ t)).length:Nat):Int);simp only [qb]; omega
 grind
theorem z0k (a r:List UInt8) {n c b:Int} (h:okI n) (d:c ≤ n ∧ n ≤ b):zcg (a ++ (putI n ++ r)) (a.length:Nat) c b = true:=by
 grind [zcd,zcp]
theorem z8w {acc:List Int} (a:∀ x ∈ acc,okI x) (k:Nat):okI (acc.getD k 0):=by
 grind [List.mem_of_getElem?,okI]
theorem ya9 {p:Int} {acc:List Int} (a:∀ x ∈ acc,okI x) {x:Int} (h:(bnd p acc).1 ≤ x ∧ x ≤ (bnd p acc).2):okI x:=by
 grind [z8w,bnd,okI]
theorem zgo (x:Int) (r:List Int):zae (x :: r) = (putIR x).1 ++ zae r:=rfl
theorem zrc {p:Int} (r:List UInt8):∀ (n acc:List Int) (a:List UInt8),(∀ x ∈ acc,okI x) → zj5 p acc n → numsS (a ++ (zae n ++ r)) p n.length acc (a.length:Nat) = some (acc ++ n,(((a ++ zae n).length:Nat):Int))
 |[],acc,a,_,_=>by
  grind [zae,numsS,okI,zj5]
 |x :: n,acc,a,ha,h=>by
  have b:=ya9 ha h.1;have ih:=zrc r n (acc ++ [x]) (a ++ putI x) (fun z c=>by rcases yj.1 c with h | h; exact ha z h; rw [qs.1 h]; exact b) h.2
  grind [zgo,zeo,List.length_cons,z0k,zcp,List.append_assoc,List.singleton_append,numsS,zae,okI,zj5,putI]
theorem zzt {p:Int} {a:List Ln} {x:Ln} (b r:List UInt8) (h:lnOk p a x):lineS (b ++ (lineW p x ++ r)) p a (b.length:Nat) = some (x,(((b ++ lineW p x).length:Nat):Int)):=by
 unfold lnOk at h
 grind [zkj,zrc,lineS,putSR,cols,zae,lineW]
theorem znh {p:Int} (r:List UInt8):∀ (l acc:List Ln) (a:List UInt8),lnsOk p acc l → zcq (a ++ ((l.map (lineW p)).flatten ++ r)) p l.length acc (a.length:Nat) = some (acc ++ l,(((a ++ (l.map (lineW p)).flatten).length:Nat):Int))
 |[],acc,a,_=>by
  grind [zcq,lineW,lnsOk]
 |x :: l,acc,a,h=>by
  have ih:=znh r l (acc ++ [x]) (a ++ lineW p x) h.2
  grind [List.flatten_cons,List.length_cons,zzt,List.append_assoc,List.singleton_append,zcq,lineW,lnsOk]
theorem zra {n:Int} (h:okI n):zae [n] = putI n:=by
 rw [zgo,zeo h]; exact js _
theorem zlq {n m:Int} (h:okI n) (a:okI m):zae [n,m] = putI n ++ putI m:=by
 grind [zgo,zeo,zra]
theorem zxd {p:Int} {v:Val} (y:1 ≤ p ∧ p ≤ 8) (c:VOK p v):readS p (zbo p v) = some v:=by
 rcases c with rfl | ⟨m,c⟩
 ·grind [zbo,loseV,readS]
 obtain ⟨l,L,w,h,bits⟩:=v;replace m:l = false:=m;subst m;dsimp only at c;by_cases i:p = 8
 ·rw [if_pos i] at c;obtain ⟨rfl,rfl,n,q⟩:=c;have f:okI w:=by unfold okI; omega
  have d:okI h:=by unfold okI; omega
  have e:zbo p ⟨false,[],w,h,[]⟩ = putI w ++ putI h:=by
   rw [zbo,if_neg (by simp),if_pos (by omega),if_neg (by omega),js,zlq f d]
  have a:=zcp [] (putI h) f;have b:=zcp (putI w) [] d;rw [qx,qx] at a;rw [js] at b;replace a:getI (putI w ++ putI h) 0 = (w,((putI w).length:Int),0):=a;rw [e,readS,if_neg (by omega),if_neg (by simp [zjo]),if_pos i,a];dsimp only
  grind [zcg,putI,getI,okI,zbo]
 rw [if_neg i] at c;by_cases g:6 ≤ p
 ·rw [if_pos g] at c;obtain ⟨rfl,n,q,k⟩:=c;have f:okI w:=by unfold okI; omega
  have d:okI h:=by unfold okI; omega
  by_cases j:p = 7
  ·rw [if_pos j] at k
   have o:bits.length ≤ 65536:=by
    have x:w * h ≤ 32 * h:=qci n.2 (by omega);omega
   have e:zbo p ⟨false,[],w,h,bits⟩ = putI w ++ (putI h ++ (putSR bits).1):=by
    rw [zbo,if_neg (by simp),if_pos (by omega),if_pos j,zlq f d,qm]
   have a:=zcp [] (putI h ++ (putSR bits).1) f;have b:=zcp (putI w) (putSR bits).1 d;have s:=zkj (putI w ++ putI h) [] bits o;rw [qx,qx] at a;rw [js,qm (putI w)] at s;replace a:getI (putI w ++ (putI h ++ (putSR bits).1)) 0 = (w,((putI w).length:Int),0):=a;rw [e,readS,if_neg (by omega),if_neg (by simp [zjo]),if_neg i,if_pos g,a];dsimp only;rw [b];dsimp only;rw [if_pos ⟨zcd.2 (by rw [a]; exact ⟨rfl,n⟩),zcd.2 (by rw [b]; exact ⟨rfl,q⟩)⟩,if_pos j,s];exact if_pos ⟨rfl,k.1,k.2,by rfl⟩
  ·rw [if_neg j] at k;subst k
   have e:zbo p ⟨false,[],w,h,[]⟩ = putI w ++ putI h:=by
    rw [zbo,if_neg (by simp),if_pos (by omega),if_neg (by omega),js,zlq f d]
   have a:=zcp [] (putI h) f;have b:=zcp (putI w) [] d;rw [qx,qx] at a;rw [js] at b;replace a:getI (putI w ++ putI h) 0 = (w,((putI w).length:Int),0):=a;rw [e,readS,if_neg (by omega),if_neg (by simp [zjo]),if_neg i,if_pos g,a];dsimp only;rw [b];dsimp only;rw [if_pos ⟨zcd.2 (by rw [a]; exact ⟨rfl,n⟩),zcd.2 (by rw [b]; exact ⟨rfl,q⟩)⟩,if_neg j];exact if_pos rfl
 ·rw [if_neg g] at c;obtain ⟨rfl,rfl,rfl,m,u⟩:=c;have on:okI (L.length:Int):=by unfold okI; omega
  have e:zbo p ⟨false,L,0,0,[]⟩ = putI L.length ++ (L.map (lineW p)).flatten:=by
   rw [zbo,if_neg (by simp),if_neg g,zra on]
  have a:=zcp [] ((L.map (lineW p)).flatten) on;have b:=znh [] L [] (putI L.length) u;rw [qx,qx] at a;rw [js] at b;replace a:getI (putI L.length ++ (L.map (lineW p)).flatten) 0 = ((L.length:Int),((putI L.length).length:Int),0):=a;rw [e,readS,if_neg (by omega),if_neg (by simp [zjo]),if_neg i,if_neg g,if_pos (zcd.2 (by rw [a]; exact ⟨rfl,by dsimp only; omega,by dsimp only; omega⟩)),a]
  grind
end Go.Proofs.YtfnkamphhpldcaaGreatDoor
