import Derived.Test.YtfnkamphhpldcaaGreatDoorK24
import Derived.Test.YtfnkamphhpldcaaGreatDoorK16
import Derived.Test.YtfnkamphhpldcaaGreatDoorK22
set_option maxHeartbeats 64000000
namespace Go.Proofs.YtfnkamphhpldcaaGreatDoor
open Go Sx
set_option maxRecDepth 100000
def wsOf (s:Stk):List (List UInt8):=(s.map (·.1)).reverse
def nsOf (s:Stk):List Int:=(s.map fun x=>(x.2:Int)).reverse
theorem zdz (x:List UInt8 × Nat) (s:Stk):wsOf (x :: s) = wsOf s ++ [x.1]:=by simp [wsOf]
theorem zdy (x:List UInt8 × Nat) (s:Stk):nsOf (x :: s) = nsOf s ++ [(x.2:Int)]:=by simp [nsOf]
theorem zf7 (s:Stk):(wsOf s).length = s.length:=by simp [wsOf]
theorem zjx (s:Stk):(nsOf s).length = s.length:=by simp [nsOf]
theorem ya7 (x:List UInt8 × Nat) (s:Stk):wsOf (x :: s) ≠ []:=fun h=>absurd (congrArg List.length h) (by simp [wsOf])
theorem ybq (x:List UInt8 × Nat) (s:Stk):nsOf (x :: s) ≠ []:=fun h=>absurd (congrArg List.length h) (by simp [nsOf])
theorem zwr {α:Type} {l:List α} (d:α) (h:l ≠ []):l = l.headD d :: l.tail:=by
 cases l with
 |nil=>exact absurd rfl h
 |cons _ _=>rfl
theorem zcg:Plain encI:=fun x=>⟨fun μ=>rfl,fun a b=>by simp only [encI,qu] at b; subst b; trivial⟩
theorem zb8:Plain encS:=fun x=>⟨fun μ=>rfl,fun a b=>by simp only [encS,qu] at b; subst b; trivial⟩
theorem zp4:∀ (f:Nat) (s:Stk),(mergeK f s).length ≤ s.length
 |0,_=>qm _
 |f + 1,[]=>qm _
 |f + 1,[_]=>qm _
 |f + 1,(b,n) :: (a,m) :: r=>by
  rw [mergeK];split
  ·exact js (zp4 f _) (by simp)
  ·exact qm _
theorem zyr (l:List (List UInt8)):(stackF l).length ≤ l.length:=by
 have h:∀ (l:List (List UInt8)) (s:Stk),(l.foldl pushS s).length ≤ l.length + s.length:=by
  intro l
  induction l with
  |nil=>intro s; simp
  |cons x r ih=>
   intro s;have h1:=ih (pushS s x);have a:(pushS s x).length ≤ s.length + 1:=zp4 _ _;simp only [y5,qh] at *;omega
 have:=h l [];simpa [stackF] using this
structure RI1 (l:List (List UInt8)) (k:Nat) (W:List (List UInt8)) (S:List Int):Prop where
 le:k ≤ l.length
 w:W = wsOf (stackF (l.take k))
 s:S = nsOf (stackF (l.take k))
theorem z8r (F:Fz) (hR:RNDF F) (sa:SA) (l:List (List UInt8)) (ha:Sl F 9 1 encS sa l) (hl:l.length = 8) (hk:∀ x ∈ l,x.length ≤ 900000000000) (R:List UInt8) (an:stackF l = [(R,8)]) :
  Fo Tryz.prog F 52 [.va sa] (fun o _=>o = .ret (.va (.str R))):=by
 obtain ⟨bj,bk,bi,bh,bl,bm,rfl,au,a3,bg,bc⟩:=ha;refine z7d hΘ Tryz.func52 rfl (by decide) _ _ rfl rfl rfl ?_
 refine zam hΘ (X:={ x:Nat × List (List UInt8) × List Int × Nat × Nat // RI1 l x.1 x.2.1 x.2.2.1 }) (fun x=>[(3,.va (gA 1 1 x.1.2.2.2.1 x.1.2.1)),(4,.va (gA 1 2 x.1.2.2.2.2 x.1.2.2.1)),(13,.va (.int .i64 x.1.1))]) [6,7,14,15,16,17,18,19,20,21,22,23,24,25,26,27,28,29,30,31,32,33,34,35,36,37,38,39,40,41,42,43,44,45,46,47,48,49,50,51,52,53,54,55,56,57,58,59,60,61,62,63,64,65,66,67,68,69,70,71,72,73]
  (fun x=>[(0,.frz F),(1,gE 9 1 encS x.1.2.2.2.1 x.1.2.1),(2,gE 3 1 encI x.1.2.2.2.2 x.1.2.2.1)]) 3 (fun x=>8 - x.1.1) ⟨(0,[],[],0,0),⟨yj _,rfl,rfl⟩⟩
  (fun Z V=>leI [(1,1),(2,2)] Z V rfl ⟨tv,zai zb8 _ _ _ _ _,zai zcg _ _ _ _ _,tv⟩ ⟨rfl,rfl,rfl,tv⟩ ⟨Fz.r F,rfl,rfl,tv⟩) ?_
 rintro ⟨⟨k,W,S,c,d⟩,af,D,hS⟩ Z V;replace af:k ≤ l.length:=af;replace D:W = wsOf (stackF (l.take k)):=D;replace hS:S = nsOf (stackF (l.take k)):=hS;have p:S.length = W.length:=by rw [hS,D,zf7,zjx]
 by_cases g:k < l.length
 ·have hx:=hk l[k] (jp g);refine br (fun _=>?_) (fun h=>absurd h (by simp; omega));refine ⟨Sl.lt au g,⟨by simp,by simpa using g⟩,_,a3 (Sl.lt au g),_,Sl.at bc g,?_⟩;refine useFo (ybd F hR l[k] hx) rfl (zaa _) rfl ?_;rintro _ F1 l1 rfl;have a0:merge ((leafS l[k],1) :: stackF (l.take k)) = stackF (l.take (k + 1)):=by rw [qg g,zrc]
  have U:Gd (k + 1) ((leafS l[k],1) :: stackF (l.take k)):=by have h:=Gd.stackF (l.take k); rw [qq,qap af] at h; exact h.leaf _
  have aj:W.length ≤ 8:=by rw [D,zf7]; exact js (zyr _) (by rw [qq]; omega)
  have bf:(W = [] ∧ S = []) ∨ ∃ w0 wr n0 K,W = w0 :: wr ∧ S = n0 :: K ∧ K.length + 1 = wr.length + 1 ∧ wr.length + 1 ≤ 8:=by
   rcases W with _ | ⟨w0,wr⟩<;>rcases S with _ | ⟨n0,K⟩
   ·exact .inl ⟨rfl,rfl⟩
   ·exact absurd p (by simp)
   ·exact absurd p (by simp)
   ·exact .inr ⟨w0,wr,n0,K,rfl,rfl,p,aj⟩
  refine Or.elim bf (fun h=>?A) (fun h=>?B)
  case' A=>
   obtain ⟨ac,ai⟩:=h;subst ac;subst ai;replace D:[] = wsOf (stackF (l.take k)):=D
   have G:∀ (μ:Mu) (c:Nat),SB.arr 9 1 ([] ++ [encS (leafS l[k])]) c = (SB.arr 9 1 ((wsOf ((leafS l[k],1) :: stackF (l.take k))).map encS) c).ren μ:=fun μ c=>by
    rw [zcx zb8 rfl,zdz,← D]; simp
   have i:∀ (μ:Mu) (c:Nat),SB.arr 3 1 ([] ++ [encI 1]) c = (SB.arr 3 1 ((nsOf ((leafS l[k],1) :: stackF (l.take k))).map encI) c).ren μ:=fun μ c=>by
    rw [zcx zcg rfl,zdy,← hS]; simp
   have f:((leafS l[k],1) :: stackF (l.take k)).length = 1:=by rw [qh,← zf7,← D]; rfl
   refine ⟨nb rfl,[encS (leafS l[k])],rfl,rfl,rfl,nb rfl,fun O h1=>?_⟩;refine ⟨nb rfl,[encI 1],rfl,rfl,rfl,nb rfl,fun d1 g1=>?_⟩
   refine zam hΘ (X:={ x:Stk × Nat × Nat // x.1 ≠ [] ∧ merge x.1 = stackF (l.take (k + 1)) ∧ x.1.length ≤ 9 ∧ Gd (k + 1) x.1 ∧ x.1.length ≤ x.2.1 ∧ x.1.length ≤ x.2.2 }) (fun x=>[(3,.va (.slice false 7 0 0 1 x.1.1.length x.1.2.1)),(4,.va (.slice false 8 0 0 1 x.1.1.length x.1.2.2)),(7,.va (.int .i64 x.1.1.length))]) [27,28,29,30,31,32,33,34,35,36,37,38,39,40,41,42,43,44,45,46,47,48,49,50,51,52,53,54,55,56,57,58,59,60,61,62,63,64,65,66,67,68,69,70,71,72]
    (fun x=>[(0,.frz F1),(4,.gone),(6,.gone),(7,.one (.arr 9 1 ((wsOf x.1.1).map encS) x.1.2.1)),(8,.one (.arr 3 1 ((nsOf x.1.1).map encI) x.1.2.2))]) 9 (fun x=>x.1.1.length) ⟨((leafS l[k],1) :: stackF (l.take k),O,d1),by simp,a0,by rw [f]; omega,U,by show ((leafS l[k],1) :: stackF (l.take k)).length ≤ O; rw [f]; exact h1,by show ((leafS l[k],1) :: stackF (l.take k)).length ≤ d1; rw [f]; exact g1⟩
    (fun Z V=>leI [(7,4),(8,6)] Z V rfl ⟨tv,tv,tv,zbd zb8 9 1 9 O (wsOf ((leafS l[k],1) :: stackF (l.take k))),zbd zcg 3 1 9 d1 (nsOf ((leafS l[k],1) :: stackF (l.take k))),tv⟩ ⟨⟨rfl,f,rfl,.inr ⟨rfl,rfl,rfl,rfl⟩⟩,⟨rfl,f,rfl,.inr ⟨rfl,rfl,rfl,rfl⟩⟩,eu (by rw [f]; rfl),tv⟩ ⟨Fz.r F1,G _ O,i _ d1,tv⟩) ?_
  case' B=>
   obtain ⟨w0,wr,n0,K,ac,ai,p,aj⟩:=h;subst ac;subst ai
   have G:∀ (μ:Mu) (c:Nat),SB.arr 9 1 ((w0 :: wr).map encS ++ [encS (leafS l[k])]) c = (SB.arr 9 1 ((wsOf ((leafS l[k],1) :: stackF (l.take k))).map encS) c).ren μ:=fun μ c=>by
    rw [zcx zb8 rfl,zdz,← D]; simp
   have i:∀ (μ:Mu) (c:Nat),SB.arr 3 1 ((n0 :: K).map encI ++ [encI 1]) c = (SB.arr 3 1 ((nsOf ((leafS l[k],1) :: stackF (l.take k))).map encI) c).ren μ:=fun μ c=>by
    rw [zcx zcg rfl,zdy,← hS]; simp
   have f:((leafS l[k],1) :: stackF (l.take k)).length = wr.length + 1 + 1:=by rw [qh,← zf7,← D]; rfl
   refine ⟨nb rfl,[encS (leafS l[k])],rfl,rfl,rfl,by simp,rfl,by show (wr.length + 1 + 1) * 16 ≤ _; omega,fun O h1=>?_⟩;refine ⟨nb rfl,[encI 1],rfl,rfl,rfl,by simp,rfl,by show (K.length + 1 + 1) * 8 ≤ _; omega,fun d1 g1=>?_⟩
   refine zam hΘ (X:={ x:Stk × Nat × Nat // x.1 ≠ [] ∧ merge x.1 = stackF (l.take (k + 1)) ∧ x.1.length ≤ 9 ∧ Gd (k + 1) x.1 ∧ x.1.length ≤ x.2.1 ∧ x.1.length ≤ x.2.2 }) (fun x=>[(3,.va (.slice false 7 0 0 1 x.1.1.length x.1.2.1)),(4,.va (.slice false 8 0 0 1 x.1.1.length x.1.2.2)),(7,.va (.int .i64 x.1.1.length))]) [27,28,29,30,31,32,33,34,35,36,37,38,39,40,41,42,43,44,45,46,47,48,49,50,51,52,53,54,55,56,57,58,59,60,61,62,63,64,65,66,67,68,69,70,71,72]
    (fun x=>[(0,.frz F1),(4,.gone),(6,.gone),(7,.one (.arr 9 1 ((wsOf x.1.1).map encS) x.1.2.1)),(8,.one (.arr 3 1 ((nsOf x.1.1).map encI) x.1.2.2))]) 9 (fun x=>x.1.1.length) ⟨((leafS l[k],1) :: stackF (l.take k),O,d1),by simp,a0,by rw [f]; omega,U,by show ((leafS l[k],1) :: stackF (l.take k)).length ≤ O; rw [f]; exact h1,by show ((leafS l[k],1) :: stackF (l.take k)).length ≤ d1; rw [f]; have g2:K.length + 1 + 1 ≤ d1:=g1; omega⟩
    (fun Z V=>leI [(7,4),(8,6)] Z V rfl ⟨tv,tv,tv,zbd zb8 9 1 9 O (wsOf ((leafS l[k],1) :: stackF (l.take k))),zbd zcg 3 1 9 d1 (nsOf ((leafS l[k],1) :: stackF (l.take k))),tv⟩ ⟨⟨rfl,f,rfl,.inr ⟨rfl,rfl,rfl,rfl⟩⟩,⟨rfl,(by rw [f]; show wr.length + 1 + 1 = K.length + 1 + 1; omega),rfl,.inr ⟨rfl,rfl,rfl,rfl⟩⟩,eu (by rw [f]; show ((wr.length + 1 + 1:Nat):Int) = ((K.length + 1 + 1:Nat):Int); omega),tv⟩ ⟨Fz.r F1,G _ O,i _ d1,tv⟩) ?_
  all_goals
   rintro ⟨⟨x,T,d2⟩,ae,y,L,q,Q,M⟩ aw ay;replace ae:x ≠ []:=ae;replace y:merge x = stackF (l.take (k + 1)):=y;replace L:x.length ≤ 9:=L;replace q:Gd (k + 1) x:=q;replace Q:x.length ≤ T:=Q;replace M:x.length ≤ d2:=M;rcases x with _ | ⟨⟨b,n⟩,_ | ⟨⟨a,m⟩,r⟩⟩
   ·exact absurd rfl ae
   ·have ab:∀ (μ:Mu) (c:Nat),SB.arr 9 1 ((wsOf [(b,n)]).map encS) c = (SB.arr 9 1 ([b].map encS) c).ren μ:=fun μ c=>by rw [zcx zb8 rfl]; rfl
    have ah:∀ (μ:Mu) (c:Nat),SB.arr 3 1 ((nsOf [(b,n)]).map encI) c = (SB.arr 3 1 ([(n:Int)].map encI) c).ren μ:=fun μ c=>by rw [zcx zcg rfl]; rfl
    have ak:stackF (l.take (k + 1)) = [(b,n)]:=y.symm;have bb:RI1 l (k + 1) [b] [(n:Int)]:=⟨g,by rw [ak]; rfl,by rw [ak]; rfl⟩
    have J:8 - (k + 1) < 8 - k:=by omega
    have I:k < 4611686018427387904:=by omega
    refine drawP hΘ mixed (lk [0,1,2,3,4,5,6,7,8,9,10,11,12,13,14] .done) [8] (by kernel_rfl) ?_;refine gaf (by simp) ?_;exact ⟨⟨(k + 1,[b],[(n:Int)],T,d2),bb⟩,J,leRn [_,_,_] [_,_] [(1,7),(2,8)] Z V rfl ⟨tv,zai zb8 _ _ _ _ _,zai zcg _ _ _ _ _,tv⟩ ⟨⟨rfl,rfl,rfl,.inr ⟨rfl,rfl,rfl,rfl⟩⟩,⟨rfl,rfl,rfl,.inr ⟨rfl,rfl,rfl,rfl⟩⟩,cnt I,tv⟩ ⟨l1,ab _ T,ah _ d2,tv⟩⟩
   ·have bd:(nsOf ((b,n) :: (a,m) :: r))[r.length]? = some (m:Int):=by rw [zdy,zdy]; simp [nsOf]
    have az:(nsOf ((b,n) :: (a,m) :: r))[r.length + 1]? = some (n:Int):=by rw [zdy,zdy]; simp [nsOf]
    have hw:wsOf ((b,n) :: (a,m) :: r) = ((wsOf ((b,n) :: (a,m) :: r)).headD [] :: (wsOf ((b,n) :: (a,m) :: r)).tail):=zwr [] (ya7 _ _);have hn:nsOf ((b,n) :: (a,m) :: r) = ((nsOf ((b,n) :: (a,m) :: r)).headD 0 :: (nsOf ((b,n) :: (a,m) :: r)).tail):=zwr 0 (ybq _ _);have ab:∀ (μ:Mu) (c:Nat),SB.arr 9 1 ((wsOf ((b,n) :: (a,m) :: r)).map encS) c = (SB.arr 9 1 (((wsOf ((b,n) :: (a,m) :: r)).headD [] :: (wsOf ((b,n) :: (a,m) :: r)).tail).map encS) c).ren μ:=fun μ c=>by rw [← hw]; exact (zcx zb8 rfl _ _ _ _).symm
    have ah:∀ (μ:Mu) (c:Nat),SB.arr 3 1 ((nsOf ((b,n) :: (a,m) :: r)).map encI) c = (SB.arr 3 1 (((nsOf ((b,n) :: (a,m) :: r)).headD 0 :: (nsOf ((b,n) :: (a,m) :: r)).tail).map encI) c).ren μ:=fun μ c=>by rw [← hn]; exact (zcx zcg rfl _ _ _ _).symm
    have a4:(wsOf ((b,n) :: (a,m) :: r)).tail.length + 1 = r.length + 1 + 1:=by have h:=congrArg List.length hw; rw [zf7] at h; exact h.symm
    have a8:(nsOf ((b,n) :: (a,m) :: r)).tail.length + 1 = r.length + 1 + 1:=by have h:=congrArg List.length hn; rw [zjx] at h; exact h.symm
    have a1:a.length ≤ 100000000000:=by rw [q.1 (a,m) (by simp)]; decide
    have ar:b.length ≤ 100000000000:=by rw [q.1 (b,n) (by simp)]; decide
    have ba:decide ((m:Int) = (n:Int)) = false → RI1 l (k + 1) ((wsOf ((b,n) :: (a,m) :: r)).headD [] :: (wsOf ((b,n) :: (a,m) :: r)).tail) ((nsOf ((b,n) :: (a,m) :: r)).headD 0 :: (nsOf ((b,n) :: (a,m) :: r)).tail):=fun h=>by
     have he:stackF (l.take (k + 1)) = ((b,n) :: (a,m) :: r):=by rw [← y]; exact zid (fun e=>absurd (oe h) (by simp [e]))
     exact ⟨g,by rw [he,← hw],by rw [he,← hn]⟩
    have J:8 - (k + 1) < 8 - k:=by omega
    have I:k < 4611686018427387904:=by omega
    replace L:r.length + 1 + 1 ≤ 9:=L;replace Q:r.length + 1 + 1 ≤ T:=Q;replace M:r.length + 1 + 1 ≤ d2:=M;have j:IntKind.i64.wrap (((r.length + 1 + 1:Nat):Int) - 2) = ((r.length:Nat):Int):=by rw [zaj (by omega) (by omega)]; omega
    have e1:IntKind.i64.wrap (((r.length + 1 + 1:Nat):Int) - 1) = ((r.length + 1:Nat):Int):=by rw [zaj (by omega) (by omega)]; omega
    have q2:0 ≤ IntKind.i64.wrap (((r.length + 1 + 1:Nat):Int) - 2) ∧ IntKind.i64.wrap (((r.length + 1 + 1:Nat):Int) - 2) < ((r.length + 1 + 1:Nat):Int):=by rw [j]; omega
    have q1:0 ≤ IntKind.i64.wrap (((r.length + 1 + 1:Nat):Int) - 1) ∧ IntKind.i64.wrap (((r.length + 1 + 1:Nat):Int) - 1) < ((r.length + 1 + 1:Nat):Int):=by rw [e1]; omega
    have p2:0 ≤ IntKind.i64.wrap (((r.length + 1 + 1:Nat):Int) - 2) ∧ IntKind.i64.wrap (((r.length + 1 + 1:Nat):Int) - 2) ≤ (T:Int):=by rw [j]; omega
    have p3:0 ≤ IntKind.i64.wrap (((r.length + 1 + 1:Nat):Int) - 2) ∧ IntKind.i64.wrap (((r.length + 1 + 1:Nat):Int) - 2) ≤ (d2:Int):=by rw [j]; omega
    have gm:((nsOf ((b,n) :: (a,m) :: r)).map encI)[0 + (IntKind.i64.wrap (((r.length + 1 + 1:Nat):Int) - 2)).toNat]? = some (encI m):=by rw [j,qp,q5,qy,bd]; rfl
    have gn:((nsOf ((b,n) :: (a,m) :: r)).map encI)[0 + (IntKind.i64.wrap (((r.length + 1 + 1:Nat):Int) - 1)).toNat]? = some (encI n):=by rw [e1,qp,q5,qy,az]; rfl
    have a2:(wsOf ((b,n) :: (a,m) :: r))[r.length]? = some a:=by rw [zdz,zdz]; simp [wsOf]
    have a9:(wsOf ((b,n) :: (a,m) :: r))[r.length + 1]? = some b:=by rw [zdz,zdz]; simp [wsOf]
    have ga:((wsOf ((b,n) :: (a,m) :: r)).map encS)[0 + (IntKind.i64.wrap (((r.length + 1 + 1:Nat):Int) - 2)).toNat]? = some (encS a):=by rw [j,qp,q5,qy,a2]; rfl
    have gb:((wsOf ((b,n) :: (a,m) :: r)).map encS)[0 + (IntKind.i64.wrap (((r.length + 1 + 1:Nat):Int) - 1)).toNat]? = some (encS b):=by rw [e1,qp,q5,qy,a9]; rfl
    have ht:((wsOf ((b,n) :: (a,m) :: r)).map encS).take r.length = (wsOf r).map encS:=by rw [zdz,zdz,ql,jj,qdb (by rw [qa,zf7])]
    have a5:((nsOf ((b,n) :: (a,m) :: r)).map encI).take r.length = (nsOf r).map encI:=by rw [zdy,zdy,ql,jj,qdb (by rw [qa,zjx])]
    have aq:decide ((m:Int) = (n:Int)) = true → m = n ∧ 2 * n ≤ 8:=fun h=>by
     have h1:m = n:=by have:=od h; omega
     have h2:=q.2;simp only [qv,qdi] at h2;exact ⟨h1,by omega⟩
    have aa:decide ((m:Int) = (n:Int)) = true → ∀ s d3,(IntKind.i64.wrap (((r.length + 1 + 1:Nat):Int) - 2)).toNat - 0 + [encS (nodeS a b)].length ≤ s → (IntKind.i64.wrap (((r.length + 1 + 1:Nat):Int) - 2)).toNat - 0 + [encI (IntKind.i64.wrap (2 * (n:Int)))].length ≤ d3 →
      ((nodeS a b,2 * n) :: r) ≠ [] ∧ merge ((nodeS a b,2 * n) :: r) = stackF (l.take (k + 1)) ∧ ((nodeS a b,2 * n) :: r).length ≤ 9 ∧ Gd (k + 1) ((nodeS a b,2 * n) :: r) ∧ ((nodeS a b,2 * n) :: r).length ≤ s ∧ ((nodeS a b,2 * n) :: r).length ≤ d3:=fun h s d3 h3 h4=>by
     have hm:=(aq h).1;rw [j] at h3 h4;refine ⟨by simp,(zeg hm).symm.trans y,by rw [qh]; omega,q.join hm,?_,?_⟩
     ·rw [qh]; simpa using h3
     ·rw [qh]; simpa using h4
    have E:((nodeS a b,2 * n) :: r).length < ((b,n) :: (a,m) :: r).length:=by simp
    have n3:((nodeS a b,2 * n) :: r).length = (IntKind.i64.wrap (((r.length + 1 + 1:Nat):Int) - 2)).toNat - 0 + [encS (nodeS a b)].length:=by rw [j]; simp
    have n4:((nodeS a b,2 * n) :: r).length = (IntKind.i64.wrap (((r.length + 1 + 1:Nat):Int) - 2)).toNat - 0 + [encI (IntKind.i64.wrap (2 * (n:Int)))].length:=by rw [j]; simp
    have n5:((((nodeS a b,2 * n) :: r).length:Nat):Int) = IntKind.i64.wrap (((r.length + 1 + 1:Nat):Int) - 1):=by rw [e1]; rfl
    have ao:∀ (μ:Mu) (c:Nat),SB.arr 9 1 (((wsOf ((b,n) :: (a,m) :: r)).map encS).take ((IntKind.i64.wrap (((r.length + 1 + 1:Nat):Int) - 2)).toNat - 0) ++ [encS (nodeS a b)]) c = (SB.arr 9 1 ((wsOf ((nodeS a b,2 * n) :: r)).map encS) c).ren μ:=fun μ c=>by
     rw [zcx zb8 rfl,j,qp,qat,ht,zdz,jj]; rfl
    have ax:∀ (μ:Mu) (c:Nat),IntKind.i64.wrap (2 * (n:Int)) = ((2 * n:Nat):Int) → SB.arr 3 1 (((nsOf ((b,n) :: (a,m) :: r)).map encI).take ((IntKind.i64.wrap (((r.length + 1 + 1:Nat):Int) - 2)).toNat - 0) ++ [encI (IntKind.i64.wrap (2 * (n:Int)))]) c = (SB.arr 3 1 ((nsOf ((nodeS a b,2 * n) :: r)).map encI) c).ren μ:=fun μ c h=>by
     rw [zcx zcg rfl,j,qp,qat,a5,zdy,jj,h]; rfl
    have ap:decide ((m:Int) = (n:Int)) = true → IntKind.i64.wrap (2 * (n:Int)) = ((2 * n:Nat):Int):=fun h=>by
     have:=(aq h).2;rw [zaj (by omega) (by omega)]; omega
    have f0:(if T = 0 then 0 else 0 + 0) = 0:=by split<;>rfl
    have f1:(if d2 = 0 then 0 else 0 + 0) = 0:=by split<;>rfl
    have fl:(IntKind.i64.wrap (((r.length + 1 + 1:Nat):Int) - 2)).toNat - 0 ≤ ((wsOf ((b,n) :: (a,m) :: r)).map encS).length:=by rw [j,qa,zf7]; simp; omega
    have av:(IntKind.i64.wrap (((r.length + 1 + 1:Nat):Int) - 2)).toNat - 0 ≤ ((nsOf ((b,n) :: (a,m) :: r)).map encI).length:=by rw [j,qa,zjx]; simp; omega
    have al:((IntKind.i64.wrap (((r.length + 1 + 1:Nat):Int) - 2)).toNat - 0 + [encS (nodeS a b)].length) * 16 ≤ 140737488355328:=by rw [j]; simp; omega
    have Y:∀ z:Int,((IntKind.i64.wrap (((r.length + 1 + 1:Nat):Int) - 2)).toNat - 0 + [encI z].length) * 8 ≤ 140737488355328:=fun z=>by rw [j]; simp; omega
    refine drawP hΘ mixed (lk [0,1,2,3,4,5,6,7,8,9,10,11,12,13,14] .done) [8] (by kernel_rfl) ?_;refine ⟨fun _=>?_,fun g=>absurd g (by simp; omega)⟩;refine ⟨rfl,q2,rfl,encI m,gm,rfl,q1,rfl,encI n,gn,?_⟩;refine br (fun u=>?_) (fun u=>?_)
    ·refine famW 7 rfl ?_;refine famW 8 rfl ?_;refine drawP hΘ mixed (lk [0,1,2,3,4,5,6,7,9,10,11,12] (.alt 8 (.alt 13 (.alt 14 (.alt 15 (.alt 16 (.look 17 .done) .nil) .nil) .nil) .nil) (.alt 13 (.alt 8 (.alt 14 (.alt 15 (.alt 16 (.look 17 .done) .nil) .nil) .nil) .nil) .nil))) [] (by kernel_rfl) ?_;refine ⟨p2,rfl,q2,rfl,q1,?_,?_⟩
     ·refine ⟨⟨yx,rfl⟩,encS a,ga,Fz.r F1,⟨yx,rfl⟩,encS b,gb,Fz.r F1,?_⟩;refine useFo (zzm F1 (hR.mono l1) a b a1 ar) rfl (zaa _) rfl ?_;rintro _ w l2 rfl;refine ⟨l2,Fz.r w,nb rfl,[encS (nodeS a b)],rfl,⟨yx,rfl⟩,f0,fl,qat _,al,fun s ag=>?_⟩;refine ⟨Fz.r w,?_⟩;refine drawP hΘ mixed (lk [0,1,2,3,4,5,6,7] (.alt 8 (.look 9 (.alt 10 (.alt 11 (.look 12 .done) .nil) .nil)) .nil)) [] (by kernel_rfl) ?_;refine ⟨p3,rfl,q1,⟨yx,rfl⟩,encI n,gn,Fz.r w,Fz.r w,nb rfl,[encI (IntKind.i64.wrap (2 * (n:Int)))],rfl,⟨yx,rfl⟩,f1,av,qat _,Y _,fun d3 ad=>?_⟩;refine ⟨Fz.r w,?_⟩;exact ⟨⟨((nodeS a b,2 * n) :: r,s,d3),aa u s d3 ag ad⟩,E,leR [(7,10),(8,12)] aw ay rfl ⟨tv,tv,tv,zbd zb8 9 1 9 s (wsOf ((nodeS a b,2 * n) :: r)),zbd zcg 3 1 9 d3 (nsOf ((nodeS a b,2 * n) :: r)),tv⟩ ⟨⟨rfl,n3,rfl,.inr ⟨rfl,rfl,rfl,rfl⟩⟩,⟨rfl,n4,rfl,.inr ⟨rfl,rfl,rfl,rfl⟩⟩,eu n5,tv⟩ ⟨l2,ao _ s,ax _ d3 (ap u),tv⟩⟩
     ·refine ⟨⟨yx,rfl⟩,encS b,gb,Fz.r F1,⟨yx,rfl⟩,encS a,ga,Fz.r F1,?_⟩;refine useFo (zzm F1 (hR.mono l1) a b a1 ar) rfl (zaa _) rfl ?_;rintro _ w l2 rfl;refine ⟨l2,Fz.r w,nb rfl,[encS (nodeS a b)],rfl,⟨yx,rfl⟩,f0,fl,qat _,al,fun s ag=>?_⟩;refine ⟨Fz.r w,?_⟩;refine drawP hΘ mixed (lk [0,1,2,3,4,5,6,7] (.alt 8 (.look 9 (.alt 10 (.alt 11 (.look 12 .done) .nil) .nil)) .nil)) [] (by kernel_rfl) ?_;refine ⟨p3,rfl,q1,⟨yx,rfl⟩,encI n,gn,Fz.r w,Fz.r w,nb rfl,[encI (IntKind.i64.wrap (2 * (n:Int)))],rfl,⟨yx,rfl⟩,f1,av,qat _,Y _,fun d3 ad=>?_⟩;refine ⟨Fz.r w,?_⟩;exact ⟨⟨((nodeS a b,2 * n) :: r,s,d3),aa u s d3 ag ad⟩,E,leR [(7,10),(8,12)] aw ay rfl ⟨tv,tv,tv,zbd zb8 9 1 9 s (wsOf ((nodeS a b,2 * n) :: r)),zbd zcg 3 1 9 d3 (nsOf ((nodeS a b,2 * n) :: r)),tv⟩ ⟨⟨rfl,n3,rfl,.inr ⟨rfl,rfl,rfl,rfl⟩⟩,⟨rfl,n4,rfl,.inr ⟨rfl,rfl,rfl,rfl⟩⟩,eu n5,tv⟩ ⟨l2,ao _ s,ax _ d3 (ap u),tv⟩⟩
    ·exact ⟨⟨(k + 1,((wsOf ((b,n) :: (a,m) :: r)).headD [] :: (wsOf ((b,n) :: (a,m) :: r)).tail),((nsOf ((b,n) :: (a,m) :: r)).headD 0 :: (nsOf ((b,n) :: (a,m) :: r)).tail),T,d2),ba u⟩,J,leRn [_,_,_] [_,_] [(1,7),(2,8)] Z V rfl ⟨tv,zai zb8 _ _ _ _ _,zai zcg _ _ _ _ _,tv⟩ ⟨⟨rfl,a4,rfl,.inr ⟨rfl,rfl,rfl,rfl⟩⟩,⟨rfl,a8,rfl,.inr ⟨rfl,rfl,rfl,rfl⟩⟩,cnt I,tv⟩ ⟨l1,ab _ T,ah _ d2,tv⟩⟩
 ·have am:k = l.length:=by omega
  have a7:W = [R]:=by rw [D,am,yt,an]; rfl
  have be:S = [8]:=by rw [hS,am,yt,an]; rfl
  have a6:¬ (k:Int) < (l.length:Int):=by omega
  subst a7;subst be;refine brj a6 ?_;refine brd (by decide) ?_;refine ⟨rfl,by decide,rfl,encS R,rfl,⟨by decide,by show (0:Int) ≤ (c:Int); omega⟩,?_⟩;refine zhf hΘ Tryz.func115 rfl (by decide) _ _ rfl rfl rfl (zcu hΘ _ _ _ ?_);refine zv4 rfl rfl rfl ?_;refine ⟨rfl,rfl,?_⟩;exact endFo (.ret (.va (.str R))) F rfl (Fz.r F) (Fz.r F) rfl (zah _) rfl
theorem rootF (l:List (List UInt8)) (i:l.length = 8):stackF l = [(root8 l,8)]:=by
 match l,i with
 |[a,b,c,d,e,f,g,h],_=>exact ycz a b c d e f g h
theorem zgy (F:Fz) (e:RNDF F) (a:SA) (l:List (List UInt8)) (c:Sl F 9 1 encS a l) (b:l.length = 8) (d:∀ x ∈ l,x.length ≤ 900000000000) :
  Fo Tryz.prog F 17 [.va a] (fun o _=>o = .ret (.va (.str (root8 l)))):=by
 have h:=z8r F e a l c b d (root8 l) (rootF l b);obtain ⟨p,f,n,q,k,u,rfl,j,i,g,s⟩:=c;refine fo_of hΘ Tryz.func17 rfl (by decide) _ _ rfl rfl rfl ?_;refine useFo h rfl (zaa _) rfl ?_;rintro _ F1 m rfl;exact endFo (.ret (.va (.str (root8 l)))) F1 rfl m (Fz.r F1) rfl (zah _) rfl
def atV (A:List (List UInt8)) (p:Int):List UInt8:=A[(p - 1).toNat]?.getD []
def chkAt (A B:List (List UInt8)) (x:Kp):Bool:=decide (x.2 = [(6,0)]) || (decide ((zdb x.1 x.2 (atV A x.1)).2 = 0) && decide ((zdb x.1 x.2 (atV A x.1)).1 = atV B x.1))
theorem z96 (F:Fz) (c:SA) (l:List Stp) (f:za1 F c l) (k:l.length < 1000000) :
  Fo Tryz.prog F 60 [.va c] (fun o y=>o = .ret (.va (.bool (decide (l = [(6,0)]))))):=by
 have d:=fun F1 (a:Fz.le F F1) j e=>zhz F1 c j l [(6,0)] (f.mono a) e k
 obtain ⟨s,h,q,u,p,x,rfl,n,m,i,w⟩:=f;refine fo_of hΘ Tryz.func60 rfl (by decide) _ _ rfl rfl rfl ?_;refine za7 1 (fun _=>.arr 56 2 ([(6,0)].map enc) 1) rfl rfl rfl (fun _ _=>rfl) (fun _ _=>SB.bB_ok rfl) ?_;intro b F1 a e;have g:=d F1 a _ (Sl.new (l:=[(6,0)]) (cap:=1) (e 0 rfl));refine usePu g rfl ⟨⟨rfl,rfl,rfl,.inr ⟨rfl,rfl,rfl,rfl⟩⟩,⟨rfl,rfl,rfl,.inr ⟨rfl,rfl,rfl,rfl⟩⟩,tv⟩ rfl ?_;exact endFo (.ret (.va (.bool (decide (l = [(6,0)]))))) F1 rfl a (Fz.r F1) rfl (zah _) rfl
theorem z0k {A:List (List UInt8)} {p:Int} (b:A.length = 8) (a:1 ≤ p ∧ p ≤ 8):A[(p - 1).toNat]? = some (atV A p):=by
 unfold atV;rw [qe (show (p - 1).toNat < A.length by omega)]; rfl
theorem zzd (F:Fz) (hM:MLF F) (g m j:SA) (A B:List (List UInt8)) (bA bB:Nat) (x:Kp) (n:za1 F g x.2) (D:x.2.length < 1000000) (hA:Sl F 9 1 encS m A) (hB:Sl F 9 1 encS j B) (q:A.length = 8) (i:B.length = 8)
  (K:F bA = some (.cells 34 [m])) (Y:F bB = some (.cells 34 [j])) (y:1 ≤ x.1 ∧ x.1 ≤ 8) (hs:∀ s ∈ A,s.length ≤ 1000000000000000000) :
  Fo Tryz.prog F 58 [.agg [.int .i64 x.1,g],.va (.ptr (fp bA)),.va (.ptr (fp bB))] (fun o F'=>o = .ret (.va (.bool (!chkAt A B x)))):=by
 obtain ⟨p,l⟩:=x;replace y:1 ≤ p ∧ p ≤ 8:=y;replace D:l.length < 1000000:=D;replace n:za1 F g l:=n;have gA:=z0k q y;have gB:=z0k i y;have a:=zs1 F hM g l p (atV A p) n D (hs _ (yw gA));have d:=fun F1 (c:Fz.le F F1)=>z96 F1 g l (n.mono c) D
 have E:IntKind.i64.wrap (p - 1) = p - 1:=zaj (by omega) (by omega);have qA:0 ≤ IntKind.i64.wrap (p - 1) ∧ IntKind.i64.wrap (p - 1) < (A.length:Int):=by rw [E]; omega
 have qB:0 ≤ IntKind.i64.wrap (p - 1) ∧ IntKind.i64.wrap (p - 1) < (B.length:Int):=by rw [E]; omega
 have u:∀ (L:List (List SA)) (e:Nat) (C:List (List UInt8)),(L.drop e).take C.length = C.map encS → C.length = 8 → C[(p - 1).toNat]? = some (atV C p) → L[e + (IntKind.i64.wrap (p - 1)).toNat]? = some (encS (atV C p)):=by
  intro L e C h1 h2 h3;have h4:=Sl.at h1 (k:=(p - 1).toNat) (by omega);rw [E];rw [qe (show (p - 1).toNat < C.length by omega)] at h3;rw [Option.some.inj h3] at h4;exact h4
 show Fo Tryz.prog F 58 [.agg [.int .i64 p,g],.va (.ptr (fp bA)),.va (.ptr (fp bB))] (fun o F'=>o = .ret (.va (.bool (!(decide (l = [(6,0)]) || (decide ((zdb p l (atV A p)).2 = 0) && decide ((zdb p l (atV A p)).1 = atV B p)))))));obtain ⟨R,hR⟩:∃ R,zdb p l (atV A p) = R:=⟨_,rfl⟩
 rw [hR] at a ⊢;obtain ⟨t,e⟩:=R;clear hR;obtain ⟨X,ak,ac,aq,aa,av,rfl,M,I,ag,G⟩:=hA;obtain ⟨ad,ai,J,am,V,af,rfl,U,ab,ar,S⟩:=hB;have rA:=u aa ac A G q gA;have rB:=u V J B S i gB;have nA:X = false:=Sl.lt M (show 0 < A.length by omega);have nB:ad = false:=Sl.lt U (show 0 < B.length by omega);generalize atV A p = va at *;generalize atV B p = vb at *;obtain ⟨ao,ap,an,aj,aw,ax,rfl,al,ah,ae,au⟩:=n
 have f:∀ (v:Bool) (F1:Fz) (h:Hp) (nx:Nat),(!(decide (l = [(6,0)]) || (decide (e = 0) && decide (t = vb)))) = v → lget h 0 = some (.frz F1) → Fz.le F F1 → Cln 1 (FoK F fun o F'=>o = .ret (.va (.bool (!(decide (l = [(6,0)]) || (decide (e = 0) && decide (t = vb))))))) (.ret (.va (.bool v))) h nx:=by
  intro v F1 h nx hv h0 O;exact endFo (.ret (.va (.bool v))) F1 h0 O (Fz.r F1) (by rw [hv]) rfl rfl
 refine fo_of hΘ Tryz.func58 rfl (by decide) _ _ rfl rfl rfl ?_;refine drawP hΘ mixed (lk [0,1,2,3,4,5,6,7,8,9] (.alt 10 (lk [11,12,13,14,15] .done) .nil)) [1] (by kernel_rfl) ?_;refine ⟨rfl,rfl,rfl,_,K,rfl,nA,qA,rfl,_,I nA,_,rA,?_⟩;refine useFo a rfl (zaa _) rfl ?_;rintro _ F1 c rfl;have Q:=d F1 c;refine ⟨c,rfl,?_⟩;refine useFo Q rfl (zaa _) rfl ?_;rintro _ W l2 rfl;refine ⟨fun w=>?_,fun w=>?_⟩
 rotate_left
 ·exact f false W _ _ (by rw [show decide (l = [(6,0)]) = true by simpa using w]; rfl) rfl (Fz.t c l2)
 refine ⟨fun g2=>?_,fun g2=>?_⟩
 ·have b:=Fz.t c l2;have Z:decide (l = [(6,0)]) = false:=by simpa using w
  have ge:decide (e = 0) = true:=by
   have T:(!decide (e = 0)) = false:=g2;simpa using T
  refine ⟨_,b _ _ Y,nB,qB,_,b _ _ (ab nB),_,rB,?_⟩;exact f _ W _ _ (by rw [Z,ge,← beqD rfl]; rfl) rfl b
 ·have ge:decide (e = 0) = false:=by
   have T:(!decide (e = 0)) = true:=g2;simpa using T
  have Z:decide (l = [(6,0)]) = false:=by simpa using w
  exact f true W _ _ (by rw [Z,ge]; rfl) rfl (Fz.t c l2)
theorem z6s (F:Fz) (hM:MLF F) (sk e d:SA) (A B:List (List UInt8)) (I bB:Nat) (b:List Kp) (hk:ClsAt F sk b) (hs:short b) (hl:b.length < 1000000) (hA:Sl F 9 1 encS e A) (hB:Sl F 9 1 encS d B) (D:A.length = 8) (E:B.length = 8) (M:F I = some (.cells 34 [e])) (T:F bB = some (.cells 34 [d])) (Y:∀ x ∈ b,1 ≤ x.1 ∧ x.1 ≤ 8) (K:∀ s ∈ A,s.length ≤ 1000000000000000000) :
  Fo Tryz.prog F 125 [.va sk,.va (.fn (.func 58) [fp I,fp bB])] (fun o F'=>o = .ret (.va (.int .i64 (idxN (chkAt A B) b 0)))):=by
 obtain ⟨kn,kb,ke,kc,kL,kr,rfl,V,Z,k3,k4⟩:=hk
 have n:∀ (x:Int) (F1:Fz) (h:Hp) (nx:Nat),idxN (chkAt A B) b 0 = x → lget h 0 = some (.frz F1) → Fz.le F F1 →
   Cln 1 (FoK F fun o F'=>o = .ret (.va (.int .i64 (idxN (chkAt A B) b 0)))) (.ret (.va (.int .i64 x))) h nx:=by
  intro x F1 h nx hv h0 O;exact endFo (.ret (.va (.int .i64 x))) F1 h0 O (Fz.r F1) (by rw [hv]) rfl rfl
 refine fo_of hΘ Tryz.func125 rfl (by decide) _ _ rfl rfl rfl ?_
 refine zam hΘ (X:={ x:Nat × Fz // Fz.le F x.2 ∧ x.1 ≤ b.length ∧ idxN (chkAt A B) b 0 = idxN (chkAt A B) (b.drop x.1) x.1 }) (fun x=>[(8,.va (.int .i64 x.1.1))]) [4,5,9,10,11,12,13,14,15,16,17,18] (fz fun x=>x.1.2) 1 (fun x=>b.length - x.1.1) ⟨(0,F),Fz.r F,by simp,by simp⟩
  (fun u Q=>leI [] u Q rfl ⟨tv,tv⟩ ⟨rfl,tv⟩ ⟨Fz.r F,tv⟩) ?_
 rintro ⟨⟨k,G⟩,c,l,f⟩ u Q;replace c:Fz.le F G:=c;replace l:k ≤ b.length:=l;replace f:idxN (chkAt A B) b 0 = idxN (chkAt A B) (b.drop k) k:=f;by_cases g:k < b.length
 ·have q:(k:Int) < (b.length:Int):=by omega
  have m:b.length - (k + 1) < b.length - k:=by omega
  have j:k < 4611686018427387904:=by omega
  have w:=hs b[k] (jp g);have J:=Y b[k] (jp g);rw [zo7 (chkAt A B) b k g] at f;have p:=SlR.at k4 g;obtain ⟨y,hy,a,rfl,W⟩:=p;have i:=zzd G (hM.mono c) a e d A B I bB b[k] (W.mono c) w (hA.mono c) (hB.mono c) D E (c _ _ M) (c _ _ T) J K;obtain ⟨ag,aa,af,ah,ae,aj,rfl,ad,ac,ab,ai⟩:=W;refine bri q ?_;refine ⟨SlR.lt V g,⟨by simp,q⟩,_,c _ _ (Z (SlR.lt V g)),_,hy,?_⟩;refine useFo i rfl (zaa _) rfl ?_;rintro _ R U rfl;refine br (fun L=>?_) (fun L=>?_)
  ·exact n _ R _ _ (f.trans (if_pos (by have S:(!(chkAt A B) b[k]) = true:=L; simpa using S))) rfl (Fz.t c U)
  ·conv=>whnf
   have S:(!(chkAt A B) b[k]) = false:=L;exact ⟨⟨(k + 1,R),Fz.t c U,g,f.trans (if_neg (by rw [show (chkAt A B) b[k] = true by simpa using S]; simp))⟩,m,leR [] u Q rfl ⟨tv,tv⟩ ⟨cnt j,tv⟩ ⟨Fz.r R,tv⟩⟩
 ·have q:¬ (k:Int) < (b.length:Int):=by omega
  rw [yg (by omega)] at f;refine brj q ?_;exact n _ G _ _ f rfl c
theorem z1j (F:Fz) (p:MLF F) (sk b a:SA) (A B:List (List UInt8)) (f bB:Nat) (c:List Kp) (k:ClsAt F sk c) (m:short c) (n:c.length < 1000000) (w:Sl F 9 1 encS b A) (q:Sl F 9 1 encS a B) (d:A.length = 8) (e:B.length = 8) (i:F f = some (.cells 34 [b])) (j:F bB = some (.cells 34 [a])) (l:∀ x ∈ c,1 ≤ x.1 ∧ x.1 ≤ 8) (g:∀ s ∈ A,s.length ≤ 1000000000000000000) :
  Fo Tryz.prog F 57 [.va sk,.va (.fn (.func 58) [fp f,fp bB])] (fun o G=>o = .ret (.va (.bool (!ks.all (chkAt A B))))):=by
 have h:=z6s F p sk b a A B f bB c k m n w q d e i j l g;obtain ⟨O,I,J,E,D,L,rfl,K,y,M,Q⟩:=k;refine fo_of hΘ Tryz.func57 rfl (by decide) _ _ rfl rfl rfl ?_;refine useFo h rfl (zaa _) rfl ?_;rintro _ F1 u rfl;exact endFo (.ret (.va (.bool (!ks.all (chkAt A B))))) F1 rfl u (Fz.r F1) rfl (ob (zuu (chkAt A B) c).symm) rfl
def zcq (c:Crt) (A B:List (List UInt8)):Bool:=crtOk c && ((decide (A.length = 8) && decide (B.length = 8)) && (decide (root8 A = c.src) && (decide (root8 B = c.dst) && c.cl.all (chkAt A B))))
theorem zlz:∀ (l:List Kp) (i:Int),clOk l i = true → ∀ x ∈ l,i ≤ x.1 ∧ x.1 < i + l.length
 |[],_,_=>fun x hx=>by simp at hx
 |y :: r,i,h=>fun x hx=>by
  rw [clOk,qf] at h
  have h1:y.1 = i:=by
   have:=h.1;simp only [clAt,qf,decide_eq_true_eq] at this;exact this.1
  rcases qj.1 hx with rfl | hx
  ·simp only [qh]; omega
  ·have:=zlz r (i + 1) h.2 x hx;simp only [qh]; omega
theorem zer {c:Crt} (h:crtOk c = true):c.cl.length = 8 ∧ ∀ x ∈ c.cl,1 ≤ x.1 ∧ x.1 ≤ 8:=by
 simp only [crtOk,qf,decide_eq_true_eq] at h;refine ⟨h.2.2.2.2.1,fun x a=>?_⟩;have:=zlz c.cl 1 h.2.2.2.2.2 x a;rw [h.2.2.2.2.1] at this;omega
theorem kC1 {c:Crt} {A B:List (List UInt8)} (h:decide ((A.length:Int) = 8) = false):zcq c A B = false:=by
 have:decide (A.length = 8) = false:=by simp at h ⊢; omega
 simp only [zcq,this,ji,yd]
theorem kC2 {c:Crt} {A B:List (List UInt8)} (h:(!decide ((B.length:Int) = 8)) = true):zcq c A B = false:=by
 have:decide (B.length = 8) = false:=by simp at h ⊢; omega
 simp only [zcq,this,ji,yd]
theorem kC3 {c:Crt} {A B:List (List UInt8)} (h:(!crtOk c) = true):zcq c A B = false:=by
 have:crtOk c = false:=by simpa using h
 simp only [zcq,this,ji]
theorem kC4 {c:Crt} {A B:List (List UInt8)} (h:(!(root8 A == c.src)) = true):zcq c A B = false:=by
 have h1:(root8 A == c.src) = false:=by simpa using h
 simp only [zcq,beqD h1,ji,yd]
theorem kC5 {c:Crt} {A B:List (List UInt8)} (h:(!(root8 B == c.dst)) = true):zcq c A B = false:=by
 have h1:(root8 B == c.dst) = false:=by simpa using h
 simp only [zcq,beqD h1,ji,yd]
theorem kC6 {c:Crt} {A B:List (List UInt8)} (h1:decide ((A.length:Int) = 8) = true) (g:(!decide ((B.length:Int) = 8)) = false) (d:(!crtOk c) = false) (h:(!(root8 A == c.src)) = false) (a:(!(root8 B == c.dst)) = false):zcq c A B = !(!c.cl.all (chkAt A B)):=by
 have i:decide (A.length = 8) = true:=by simp at h1 ⊢; omega
 have b:decide (B.length = 8) = true:=by simp at g ⊢; omega
 have e:crtOk c = true:=by simpa using d
 have f:(root8 A == c.src) = true:=by simpa using h
 have j:(root8 B == c.dst) = true:=by simpa using a
 simp only [zcq,i,b,e,beqD f,beqD j,qab,Bool.not_not]
theorem zju (F:Fz) (hM:MLF F) (hR:RNDF F) (sk i g:SA) (c:Crt) (A B:List (List UInt8)) (hk:ClsAt F sk c.cl) (I:short c.cl) (hl:c.cl.length < 1000000) (K:Sl F 9 1 encS i A) (J:Sl F 9 1 encS g B)
  (D:∀ s ∈ A,s.length ≤ 900000000000) (ab:∀ s ∈ B,s.length ≤ 900000000000) :
  Fo Tryz.prog F 22 [.agg (crtS c sk),.va i,.va g] (fun o F'=>o = .ret (.va (.bool (zcq c A B)))):=by
 have d:=zet F sk c hk I hl;have u:=fun F1 (a:Fz.le F F1) q=>zgy F1 (hR.mono a) i A (K.mono a) q D
 have x:=fun F1 (a:Fz.le F F1) q=>zgy F1 (hR.mono a) g B (J.mono a) q ab
 have f:=fun F1 (a:Fz.le F F1) bA bB (q:A.length = 8) (W:B.length = 8) (L:crtOk c = true) j l=>z1j F1 (hM.mono a) sk i g A B bA bB c.cl (KpsAt.up hk a) I hl (K.mono a) (J.mono a) q W j l (zer L).2 (fun s I=>js (D s I) (by decide))
 have U:=kC1 (c:=c) (A:=A) (B:=B);have e2:=kC2 (c:=c) (A:=A) (B:=B);have O:=kC3 (c:=c) (A:=A) (B:=B);have Z:=kC4 (c:=c) (A:=A) (B:=B);have e5:=kC5 (c:=c) (A:=A) (B:=B);have E:=kC6 (c:=c) (A:=A) (B:=B);obtain ⟨v,L⟩:∃ v,zcq c A B = v:=⟨_,rfl⟩
 rw [L] at U e2 O Z e5 E ⊢;clear L;obtain ⟨w,hw⟩:∃ w,crtOk c = w:=⟨_,rfl⟩
 rw [hw] at d O E f;clear hw;obtain ⟨RA,p⟩:∃ R,root8 A = R:=⟨_,rfl⟩
 obtain ⟨RB,G⟩:∃ R,root8 B = R:=⟨_,rfl⟩
 rw [p] at u Z E;rw [G] at x e5 E;clear p G;obtain ⟨src,an,ao,ks⟩:=c;have ak:=K;have aq:=J;obtain ⟨X,V,ac,aa,ap,av,rfl,ai,af,ah,ae⟩:=K;obtain ⟨ad,S,Q,Y,am,ag,rfl,al,ar,au,aj⟩:=J;obtain ⟨kn,kb,ke,kc,kL,kr,rfl,k1,k2,k3,k4⟩:=hk
 have e:∀ (b:Bool) (F1:Fz) (h:Hp) (nx:Nat),v = b → lget h 0 = some (.frz F1) → Fz.le F F1 → Cln 1 (FoK F fun o F'=>o = .ret (.va (.bool v))) (.ret (.va (.bool b))) h nx:=by
  intro b F1 h nx hb h0 k;exact endFo (.ret (.va (.bool b))) F1 h0 k (Fz.r F1) (by rw [hb]) rfl rfl
 have finL:∀ (b:Bool) (F1:Fz) (h:Hp) (nx:Nat),v = b → lget h 0 = some (.frz F1) → Fz.le F F1 → Cln 1 (FoK F fun o F'=>o = .ret (.va (.bool v))) (.ret (.va (.lit b))) h nx:=by
  intro b F1 h nx hb h0 k;exact endFo (.ret (.va (.bool b))) F1 h0 k (Fz.r F1) (by rw [hb]) rfl rfl
 refine fo_of hΘ Tryz.func22 rfl (by decide) _ _ rfl rfl rfl ?_;refine ⟨fun gA=>?_,fun gA=>?_⟩
 rotate_left
 ·refine drawP hΘ mixed (.look 0 (.alt 1 (lk [2,3,4,5,6,7,8,10,11] (.alt 9 (lk [12,13,14,15,17,18] (.alt 16 (.look 19 (.look 20 .done)) .nil)) .nil)) .nil)) [1,2,3] (by kernel_rfl) ?_;refine ⟨rfl,?_⟩;refine useFo d rfl (zaa _) rfl ?_;rintro _ F1 a rfl;refine ⟨a,rfl,rfl,rfl,fun m=>?_,fun m=>?_⟩
  ·exact e false F1 _ _ (U gA) rfl a
  ·exact e false F1 _ _ (U gA) rfl a
 refine drawP hΘ mixed (.look 0 (.alt 1 (lk [2,3,4,5,6,7,8,10,11] (.alt 9 (lk [12,13,14,15,17,18] (.alt 16 (.look 19 (.look 20 .done)) .nil)) .nil)) .nil)) [1,2,3] (by kernel_rfl) ?_;refine ⟨rfl,?_⟩;refine useFo d rfl (zaa _) rfl ?_;rintro _ F1 a rfl;refine ⟨a,rfl,rfl,rfl,fun m=>?_,fun m=>?_⟩
 rotate_left
 ·exact e false F1 _ _ (O m) rfl a
 refine ⟨fun M=>?_,fun M=>?_⟩
 rotate_left
 ·exact e false F1 _ _ (e2 M) rfl a
 have y:A.length = 8:=by have:=od gA; omega
 have n:B.length = 8:=by
  have h:decide ((B.length:Int) = 8) = true:=by simpa using M
  have:=od h; omega
 refine ⟨rfl,rfl,?_⟩;refine useFo (u F1 a y) rfl (zaa _) rfl ?_;rintro _ F2 l2 rfl;have m2:=Fz.t a l2;refine ⟨l2,rfl,rfl,rfl,fun g4=>?_,fun g4=>?_⟩
 rotate_left
 ·exact e false F2 _ _ (Z g4) rfl m2
 refine ⟨rfl,rfl,?_⟩;refine useFo (x F2 m2 n) rfl (zaa _) rfl ?_;rintro _ F3 l3 rfl;have m3:=Fz.t m2 l3;refine ⟨l3,rfl,rfl,rfl,?_⟩;refine br (fun T=>?_) (fun T=>?_)
 ·exact e false F3 _ _ (e5 T) rfl m3
 refine za7 2 (fun _=>.cells 34 [.slice X 0 V ac 1 A.length aa]) rfl rfl rfl (fun _ _=>rfl) (fun _ _=>SB.bB_ok rfl) ?_;intro bA F4 l4 j;refine za7 3 (fun _=>.cells 34 [.slice ad 0 S Q 1 B.length Y]) rfl rfl rfl (fun _ _=>rfl) (fun _ _=>SB.bB_ok rfl) ?_;intro bB F5 l5 l;have m5:=Fz.t m3 (Fz.t l4 l5);refine useFo (f F5 m5 (bA 0) (bB 0) y n (by simpa using m) (l5 _ _ (j 0 rfl)) (l 0 rfl)) rfl (zaa _) rfl ?_;rintro _ F6 l6 rfl;exact e _ F6 _ _ (E gA M m g4 T) rfl (Fz.t m5 l6)
end Go.Proofs.YtfnkamphhpldcaaGreatDoor
namespace Go.Proofs.YtfnkamphhpldcaaGreatDoor
open Go Sx
theorem z8t (n:Int):unz (zig n) = n:=by
 unfold zig unz;split<;>split<;>omega
theorem zz9 (z:Nat):putZ z ≠ []:=by
 by_cases h:z < 128
 ·rw [zkr h]; simp
 ·rw [zrw h]; simp
theorem zxm (z:Nat):∀ (r:List UInt8) (f i acc:Nat),(putZ z).length ≤ f → ∃ b,decZ (putZ z ++ r) f i acc = some (acc + z * 128 ^ i,i + ((putZ z).length - 1),b) ∧ (b = 0 → z = 0):=by
 induction z using Nat.strongRecOn with
 |_ z ih=>
  intro r f i acc a;by_cases c:z < 128
  ·rw [zkr c] at a ⊢;obtain ⟨f,rfl⟩:∃ g,f = g + 1:=⟨f - 1,by simp at a; omega⟩
   have e:(UInt8.ofNat z).toNat = z:=by rw [qav]; exact jz (by omega)
   refine ⟨UInt8.ofNat z,?_,fun h=>?_⟩
   ·rw [yh,qw,decZ,if_neg (by rw [e]; omega),e]; rfl
   ·rw [h] at e; exact e.symm
  ·have h1:=ih (z / 128) (by omega);rw [zrw c] at a ⊢;obtain ⟨f,rfl⟩:∃ g,f = g + 1:=⟨f - 1,by simp at a; omega⟩
   have e:(UInt8.ofNat (z % 128 + 128)).toNat = z % 128 + 128:=by rw [qav]; exact jz (by omega)
   obtain ⟨b,m,n⟩:=h1 r f (i + 1) (acc + (z % 128 + 128) % 128 * 128 ^ i) (by simp at a; omega);have p:0 < (putZ (z / 128)).length:=qa5.2 (zz9 _);refine ⟨b,?_,fun o=>?_⟩
   ·rw [yh,decZ,if_pos (by rw [e]; omega),e,m,qc7]
    have k:acc + (z % 128 + 128) % 128 * 128 ^ i + z / 128 * (128 ^ i * 128) = acc + z * 128 ^ i:=by
     have d:z * 128 ^ i = (z % 128 + 128 * (z / 128)) * 128 ^ i:=by rw [Nat.mod_add_div]
     have l:(z % 128 + 128) % 128 = z % 128:=by omega
     rw [d,l,qbm,qbb (128 ^ i) 128,← Nat.mul_assoc,qbb (z / 128) 128];omega
    rw [k,qh];have j:i + 1 + ((putZ (z / 128)).length - 1) = i + ((putZ (z / 128)).length + 1 - 1):=by omega
    rw [j]
   ·have:=n o; omega
def okI (n:Int):Prop:=-4611686018427387903 ≤ n ∧ n ≤ 4611686018427387903
theorem zed {n:Int} (h:okI n):(putIR n).1 = putI n:=by
 unfold okI at h;rw [putIR,if_neg (by omega)]
theorem zi5 (n:Int):putI n ≠ []:=zz9 _
theorem zci (a r:List UInt8) {n:Int} (h:okI n):getI (a ++ (putI n ++ r)) (a.length:Nat) = (n,(((a ++ putI n).length:Nat):Int),0):=by
 have d:=zil n h;have g:0 < (putI n).length:=qa5.2 (zi5 n);obtain ⟨b,h1,e⟩:=zxm (zig n) r 9 0 0 d;rw [getI,if_neg (by rw [qd]; omega),qp,qcp];show (match decZ (putZ (zig n) ++ r) 9 0 0 with | none=>_ | some (z,i,b)=>_) = _;rw [h1];have f:0 + zig n * 128 ^ 0 = zig n:=by simp
 simp only [f,z8t];have l:okI n:=h;unfold okI at h;rw [if_neg]
 ·have k:((0 + ((putZ (zig n)).length - 1):Nat):Int) + 1 = (putI n).length:=by
   show ((0 + ((putI n).length - 1):Nat):Int) + 1 = _;omega
  rw [qd];have:(a.length:Int) + ((0 + ((putZ (zig n)).length - 1):Nat):Int) + 1 = ((a.length + (putI n).length:Nat):Int):=by omega
  rw [this]
 ·rintro (⟨h3,c⟩ | h3)
  ·have j:=e h3;rw [j,zkr (by omega)] at c;simp at c
  ·omega
theorem zjt (a r t:List UInt8) (h:t.length ≤ 65536):getS (a ++ ((putSR t).1 ++ r)) (a.length:Nat) = (t,(((a ++ (putSR t).1).length:Nat):Int),0):=by
 have e:(putSR t).1 = putI t.length ++ t:=by rw [putSR,if_neg (by omega)]
 have b:okI (t.length:Int):=by unfold okI; omega
 rw [e];have c:=zci a (t ++ r) b;rw [ql,getS,c];dsimp only;rw [if_neg (by simp),if_neg]
 ·have f:((((a ++ putI t.length).length:Nat):Int) + (t.length:Int)).toNat = (a ++ putI t.length ++ t).length:=by
   rw [qd (bs:=t)]; omega
  have d:a ++ (putI t.length ++ (t ++ r)) = (a ++ putI t.length ++ t) ++ r:=by simp only [ql]
  rw [f,d,List.take_left,qp,qcp];refine Prod.ext rfl (Prod.ext ?_ rfl);show (((a ++ putI t.length).length:Nat):Int) + (t.length:Int) = _;show _ = (((a ++ (putI t.length ++ t)).length:Nat):Int);simp only [qd]; omega
 ·rintro (h1 | h1 | h1)
  ·omega
  ·omega
  ·simp only [qd] at h1; omega
theorem zyi (a r:List UInt8) {n c b:Int} (h:okI n) (d:c ≤ n ∧ n ≤ b):zca (a ++ (putI n ++ r)) (a.length:Nat) c b = true:=by
 rw [zb3,zci a r h];exact ⟨rfl,d⟩
theorem yas {acc:List Int} (a:∀ x ∈ acc,okI x) (k:Nat):okI (acc.getD k 0):=by
 rw [y9];cases h:acc[k]? with
 |none=>show okI 0; unfold okI; omega
 |some x=>exact a x (yw h)
theorem ycl {p:Int} {acc:List Int} (b:∀ x ∈ acc,okI x) {x:Int} (h:(bnd p acc).1 ≤ x ∧ x ≤ (bnd p acc).2):okI x:=by
 unfold bnd at h;have a:=yas b (acc.length - 2);unfold okI at a ⊢;split at h
 ·dsimp only at h; omega
 split at h
 ·dsimp only at h; omega
 split at h
 ·dsimp only at h; omega
 split at h
 ·dsimp only at h; omega
 ·dsimp only at h; omega
theorem zfx (x:Int) (r:List Int):zae (x :: r) = (putIR x).1 ++ zae r:=rfl
theorem zqw {p:Int} (r:List UInt8):∀ (n acc:List Int) (a:List UInt8),(∀ x ∈ acc,okI x) → zmt p acc n → numsS (a ++ (zae n ++ r)) p n.length acc (a.length:Nat) = some (acc ++ n,(((a ++ zae n).length:Nat):Int))
 |[],acc,a,_,_=>by
  show some (acc,_) = _;simp [zae]
 |x :: n,acc,a,ha,h=>by
  have b:=ycl ha h.1;have ih:=zqw r n (acc ++ [x]) (a ++ putI x) (fun z c=>by rcases ym.1 c with h | h; exact ha z h; rw [qu.1 h]; exact b) h.2;rw [zfx,zed b,ql,qh,numsS,if_pos (zyi a _ b h.1),zci a _ b];dsimp only;rw [ql] at ih;rw [ih];simp only [ql,qdd]
theorem zxt {p:Int} {a:List Ln} {x:Ln} (b r:List UInt8) (h:lnOk p a x):lineS (b ++ (lineW p x ++ r)) p a (b.length:Nat) = some (x,(((b ++ lineW p x).length:Nat):Int)):=by
 unfold lnOk at h;unfold lineS;split at h
 ·rename_i f;obtain ⟨t,n⟩:=x;obtain ⟨h1,c,g⟩:=h;replace h1:n = []:=h1;subst h1;have e:lineW p (t,[]) = (putSR t).1:=by rw [lineW,if_pos f]; exact jm _
  replace c:t.length ≤ 80:=c;rw [if_pos f,e,zjt b r t (by omega)];exact if_pos ⟨rfl,c,g⟩
 ·rename_i f;obtain ⟨t,n⟩:=x;obtain ⟨h1,c,g,j⟩:=h;replace h1:t = []:=h1;subst h1;replace c:n.length = cols p:=c;have e:lineW p ([],n) = zae n:=by rw [lineW,if_neg f]; rfl
  rw [if_neg f,e,← c,zqw r n [] b (fun _ h=>absurd h (by simp)) g];dsimp only;rw [qw];by_cases d:p = 2
  ·rw [if_pos d]
  ·rw [if_neg d];cases i:a.getLast? with
   |none=>rfl
   |some y=>exact if_pos (j d y i)
theorem zl6 {p:Int} (r:List UInt8):∀ (l acc:List Ln) (a:List UInt8),lnsOk p acc l → zcn (a ++ ((l.map (lineW p)).flatten ++ r)) p l.length acc (a.length:Nat) = some (acc ++ l,(((a ++ (l.map (lineW p)).flatten).length:Nat):Int))
 |[],acc,a,_=>by
  show some (acc,_) = _;simp
 |x :: l,acc,a,h=>by
  have ih:=zl6 r l (acc ++ [x]) (a ++ lineW p x) h.2;rw [qv,jx,ql,qh,zcn,zxt a _ h.1];dsimp only;rw [ql] at ih;rw [ih];simp only [ql,qdd]
theorem zqj {n:Int} (h:okI n):zae [n] = putI n:=by
 rw [zfx,zed h]; exact jm _
theorem zkb {n m:Int} (h:okI n) (a:okI m):zae [n,m] = putI n ++ putI m:=by
 rw [zfx,zed h,zqj a]
theorem zv0 {p:Int} {v:Val} (y:1 ≤ p ∧ p ≤ 8) (c:VOK p v):readS p (zbt p v) = some v:=by
 rcases c with rfl | ⟨n,c⟩
 ·have e:zbt p loseV = []:=if_pos rfl;rw [e,readS,if_neg (by omega),if_pos rfl]; rfl
 obtain ⟨j,L,w,h,bits⟩:=v;replace n:j = false:=n;subst n;dsimp only at c;by_cases i:p = 8
 ·rw [if_pos i] at c;obtain ⟨rfl,rfl,k,o⟩:=c;have f:okI w:=by unfold okI; omega
  have d:okI h:=by unfold okI; omega
  have e:zbt p ⟨false,[],w,h,[]⟩ = putI w ++ putI h:=by
   rw [zbt,if_neg (by simp),if_pos (by omega),if_neg (by omega),jm,zkb f d]
  have a:=zci [] (putI h) f;have b:=zci (putI w) [] d;rw [qw,qw] at a;rw [jm] at b;replace a:getI (putI w ++ putI h) 0 = (w,((putI w).length:Int),0):=a;rw [e,readS,if_neg (by omega),if_neg (by simp [zi5]),if_pos i,a];dsimp only;rw [b,if_pos];exact ⟨zb3.2 (by rw [a]; exact ⟨rfl,k⟩),zb3.2 (by rw [b]; exact ⟨rfl,o⟩),rfl⟩
 rw [if_neg i] at c;by_cases g:6 ≤ p
 ·rw [if_pos g] at c;obtain ⟨rfl,k,o,l⟩:=c;have f:okI w:=by unfold okI; omega
  have d:okI h:=by unfold okI; omega
  by_cases m:p = 7
  ·rw [if_pos m] at l
   have q:bits.length ≤ 65536:=by
    have x:w * h ≤ 32 * h:=qcd k.2 (by omega);omega
   have e:zbt p ⟨false,[],w,h,bits⟩ = putI w ++ (putI h ++ (putSR bits).1):=by
    rw [zbt,if_neg (by simp),if_pos (by omega),if_pos m,zkb f d,ql]
   have a:=zci [] (putI h ++ (putSR bits).1) f;have b:=zci (putI w) (putSR bits).1 d;have s:=zjt (putI w ++ putI h) [] bits q;rw [qw,qw] at a;rw [jm,ql (putI w)] at s;replace a:getI (putI w ++ (putI h ++ (putSR bits).1)) 0 = (w,((putI w).length:Int),0):=a;rw [e,readS,if_neg (by omega),if_neg (by simp [zi5]),if_neg i,if_pos g,a];dsimp only;rw [b];dsimp only;rw [if_pos ⟨zb3.2 (by rw [a]; exact ⟨rfl,k⟩),zb3.2 (by rw [b]; exact ⟨rfl,o⟩)⟩,if_pos m,s];exact if_pos ⟨rfl,l.1,l.2,by simp only [ql]⟩
  ·rw [if_neg m] at l;subst l
   have e:zbt p ⟨false,[],w,h,[]⟩ = putI w ++ putI h:=by
    rw [zbt,if_neg (by simp),if_pos (by omega),if_neg (by omega),jm,zkb f d]
   have a:=zci [] (putI h) f;have b:=zci (putI w) [] d;rw [qw,qw] at a;rw [jm] at b;replace a:getI (putI w ++ putI h) 0 = (w,((putI w).length:Int),0):=a;rw [e,readS,if_neg (by omega),if_neg (by simp [zi5]),if_neg i,if_pos g,a];dsimp only;rw [b];dsimp only;rw [if_pos ⟨zb3.2 (by rw [a]; exact ⟨rfl,k⟩),zb3.2 (by rw [b]; exact ⟨rfl,o⟩)⟩,if_neg m];exact if_pos rfl
 ·rw [if_neg g] at c;obtain ⟨rfl,rfl,rfl,n,u⟩:=c;have on:okI (L.length:Int):=by unfold okI; omega
  have e:zbt p ⟨false,L,0,0,[]⟩ = putI L.length ++ (L.map (lineW p)).flatten:=by
   rw [zbt,if_neg (by simp),if_neg g,zqj on]
  have a:=zci [] ((L.map (lineW p)).flatten) on;have b:=zl6 [] L [] (putI L.length) u;rw [qw,qw] at a;rw [jm] at b;replace a:getI (putI L.length ++ (L.map (lineW p)).flatten) 0 = ((L.length:Int),((putI L.length).length:Int),0):=a;rw [e,readS,if_neg (by omega),if_neg (by simp [zi5]),if_neg i,if_neg g,if_pos (zb3.2 (by rw [a]; exact ⟨rfl,by dsimp only; omega,by dsimp only; omega⟩)),a];dsimp only;rw [qp,b];dsimp only;rw [qw];exact if_pos rfl
def nfs (p:Int):List (List Stp):=
 [(6,0)] :: if p = 1 then [[],[(1,0)],[(2,0)],[(1,0),(2,0)]]
 else if p = 2 then [[],[(4,0)],[(4,1)],[(4,2)],[(4,3)],[(4,4)],[(4,5)],[(4,6)]]
 else if p = 3 ∨ p = 5 then [[],[(3,10)],[(3,100)],[(3,1000)]]
 else if p = 6 ∨ p = 7 then [[],[(5,0)],[(5,0),(5,0)],[(5,0),(5,0),(5,0)],[(5,0),(5,0),(5,0),(5,0)],[(5,0),(5,0),(5,0),(5,0),(5,0)]]
 else [[]]
def sts (p:Int):List Stp:=
 (6,0) :: if p = 1 then [(1,0),(2,0)] else if p = 2 then [(4,0),(4,1),(4,2),(4,3),(4,4),(4,5),(4,6)] else if p = 3 ∨ p = 5 then [(3,10),(3,100),(3,1000)] else if p = 6 ∨ p = 7 then [(5,0)] else []
theorem p8 {p:Int} (a:1 ≤ p ∧ p ≤ 8):p = 1 ∨ p = 2 ∨ p = 3 ∨ p = 4 ∨ p = 5 ∨ p = 6 ∨ p = 7 ∨ p = 8:=by omega
theorem z9g {p:Int} {s:Stp} (a:1 ≤ p ∧ p ≤ 8) (h:zbs p s = true):s ∈ sts p:=by
 obtain ⟨k,n⟩:=s;rcases zcr a h with ⟨rfl,rfl,rfl⟩ | ⟨rfl,rfl,rfl⟩ | ⟨rfl,rfl | rfl,rfl | rfl | rfl⟩ | ⟨rfl,rfl,b⟩ | ⟨rfl,rfl | rfl,rfl⟩ | ⟨rfl,rfl⟩
 case inr.inr.inr.inl=>
  have:n = 0 ∨ n = 1 ∨ n = 2 ∨ n = 3 ∨ n = 4 ∨ n = 5 ∨ n = 6:=by omega
  rcases this with rfl | rfl | rfl | rfl | rfl | rfl | rfl<;>decide
 case inr.inr.inr.inr.inr=>simp [sts]
 all_goals decide
theorem z2i {p:Int} (a:1 ≤ p ∧ p ≤ 8):∀ m ∈ nfs p,∀ s ∈ sts p,normS (m ++ [s]) ∈ nfs p:=by
 rcases p8 a with rfl | rfl | rfl | rfl | rfl | rfl | rfl | rfl<;>decide +kernel
theorem zyt (l:List Stp):normS (normS l) = normS l:=by
 have h:=zk0 l [];rw [show normS [] = [] from rfl,jm,jm] at h;exact h
theorem zy3 (l:List Stp) (s:Stp):normS (normS l ++ [s]) = normS (l ++ [s]):=by
 have h1:=zk0 l [s];have a:=zk0 (normS l) [s];rw [zyt,h1] at a;exact a.symm
theorem z7a {α:Type} {P:List α → Prop} (a:P []) (h1:∀ l x,P l → P (l ++ [x])) (l:List α):P l:=by
 have:∀ n,n ≤ l.length → P (l.take n):=by
  intro n
  induction n with
  |zero=>intro _; exact a
  |succ n ih=>
   intro h;rw [qg (by omega)];exact h1 _ _ (ih (by omega))
 have h:=this l.length (qm _)
 rwa [yt] at h
theorem z2a {p:Int} (a:1 ≤ p ∧ p ≤ 8) (l:List Stp):(∀ s ∈ l,zbs p s = true) → normS l ∈ nfs p:=by
 refine z7a (P:=fun l=>(∀ s ∈ l,zbs p s = true) → normS l ∈ nfs p) ?_ ?_ l
 ·intro _;rcases p8 a with rfl | rfl | rfl | rfl | rfl | rfl | rfl | rfl<;>decide +kernel
 ·intro l x ih h;rw [← zy3];exact z2i a _ (ih fun s b=>h s (qa0 _ b)) _ (z9g a (h x (by simp)))
end Go.Proofs.YtfnkamphhpldcaaGreatDoor
