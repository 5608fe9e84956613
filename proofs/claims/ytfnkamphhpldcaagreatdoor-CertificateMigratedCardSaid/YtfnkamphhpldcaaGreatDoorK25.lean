import Derived.Test.YtfnkamphhpldcaaGreatDoorK24
import Derived.Test.YtfnkamphhpldcaaGreatDoorK16
import Derived.Test.YtfnkamphhpldcaaGreatDoorK22
set_option maxHeartbeats 64000000
namespace Go.Proofs.YtfnkamphhpldcaaGreatDoor
open Go Sx
set_option maxRecDepth 100000
def wsOf (s:Stk):List (List UInt8):=(s.map (·.1)).reverse
def nsOf (s:Stk):List Int:=(s.map fun x=>(x.2:Int)).reverse
theorem zd0 (x:List UInt8 × Nat) (s:Stk):wsOf (x :: s) = wsOf s ++ [x.1]:=by simp [wsOf]
theorem zdv (x:List UInt8 × Nat) (s:Stk):nsOf (x :: s) = nsOf s ++ [(x.2:Int)]:=by simp [nsOf]
theorem zga (s:Stk):(wsOf s).length = s.length:=by simp [wsOf]
theorem zj0 (s:Stk):(nsOf s).length = s.length:=by simp [nsOf]
theorem ybz (x:List UInt8 × Nat) (s:Stk):wsOf (x :: s) ≠ []:=fun h=>absurd (congrArg List.length h) (by simp [wsOf])
theorem yab (x:List UInt8 × Nat) (s:Stk):nsOf (x :: s) ≠ []:=fun h=>absurd (congrArg List.length h) (by simp [nsOf])
theorem zxc {α:Type} {l:List α} (d:α) (h:l ≠ []):l = l.headD d :: l.tail:=by
 cases l with
 |nil=>exact absurd rfl h
 |cons _ _=>rfl
theorem zcg:Plain encI:=fun x=>⟨fun μ=>rfl,fun a b=>by simp only [encI,qu] at b; subst b; trivial⟩
theorem zb9:Plain encS:=fun x=>⟨fun μ=>rfl,fun a b=>by simp only [encS,qu] at b; subst b; trivial⟩
theorem zp6:∀ (f:Nat) (s:Stk),(mergeK f s).length ≤ s.length
 |0,_=>qm _
 |f + 1,[]=>qm _
 |f + 1,[_]=>qm _
 |f + 1,(b,n) :: (a,m) :: r=>by
  rw [mergeK];split
  ·exact js (zp6 f _) (by simp)
  ·exact qm _
theorem z0a (l:List (List UInt8)):(stackF l).length ≤ l.length:=by
 have h:∀ (l:List (List UInt8)) (s:Stk),(l.foldl pushS s).length ≤ l.length + s.length:=by
  intro l
  induction l with
  |nil=>intro s; simp
  |cons x r ih=>
   intro s;have h1:=ih (pushS s x);have a:(pushS s x).length ≤ s.length + 1:=zp6 _ _;simp only [y5,qh] at *;omega
 have:=h l [];simpa [stackF] using this
structure RI1 (l:List (List UInt8)) (k:Nat) (W:List (List UInt8)) (S:List Int):Prop where
 le:k ≤ l.length
 w:W = wsOf (stackF (l.take k))
 s:S = nsOf (stackF (l.take k))
theorem yao (F:Fz) (hR:RNDF F) (sa:SA) (l:List (List UInt8)) (ha:Sl F 9 1 encS sa l) (hl:l.length = 8) (hk:∀ x ∈ l,x.length ≤ 900000000000) (R:List UInt8) (ao:stackF l = [(R,8)]) :
  Fo Tryz.prog F 52 [.va sa] (fun o _=>o = .ret (.va (.str R))):=by
 obtain ⟨bl,bi,bk,bj,bh,bm,rfl,ar,a5,bg,a6⟩:=ha;refine z7s hΘ Tryz.func52 rfl (by decide) _ _ rfl rfl rfl ?_
 refine zam hΘ (X:={ x:Nat × List (List UInt8) × List Int × Nat × Nat // RI1 l x.1 x.2.1 x.2.2.1 }) (fun x=>[(3,.va (gA 1 1 x.1.2.2.2.1 x.1.2.1)),(4,.va (gA 1 2 x.1.2.2.2.2 x.1.2.2.1)),(13,.va (.int .i64 x.1.1))]) [6,7,14,15,16,17,18,19,20,21,22,23,24,25,26,27,28,29,30,31,32,33,34,35,36,37,38,39,40,41,42,43,44,45,46,47,48,49,50,51,52,53,54,55,56,57,58,59,60,61,62,63,64,65,66,67,68,69,70,71,72,73]
  (fun x=>[(0,.frz F),(1,gE 9 1 encS x.1.2.2.2.1 x.1.2.1),(2,gE 3 1 encI x.1.2.2.2.2 x.1.2.2.1)]) 3 (fun x=>8 - x.1.1) ⟨(0,[],[],0,0),⟨yj _,rfl,rfl⟩⟩
  (fun V Y=>leI [(1,1),(2,2)] V Y rfl ⟨tv,zai zb9 _ _ _ _ _,zai zcg _ _ _ _ _,tv⟩ ⟨rfl,rfl,rfl,tv⟩ ⟨Fz.r F,rfl,rfl,tv⟩) ?_
 rintro ⟨⟨k,W,S,c,d⟩,ah,y,hS⟩ V Y;replace ah:k ≤ l.length:=ah;replace y:W = wsOf (stackF (l.take k)):=y;replace hS:S = nsOf (stackF (l.take k)):=hS;have p:S.length = W.length:=by rw [hS,y,zga,zj0]
 by_cases g:k < l.length
 ·have hx:=hk l[k] (jp g);refine br (fun _=>?_) (fun h=>absurd h (by simp; omega));refine ⟨Sl.lt ar g,⟨by simp,by simpa using g⟩,_,a5 (Sl.lt ar g),_,Sl.at a6 g,?_⟩;refine useFo (z9r F hR l[k] hx) rfl (zaa _) rfl ?_;rintro _ F1 l1 rfl;have ay:merge ((leafS l[k],1) :: stackF (l.take k)) = stackF (l.take (k + 1)):=by rw [qg g,zsp]
  have Z:Gd (k + 1) ((leafS l[k],1) :: stackF (l.take k)):=by have h:=Gd.stackF (l.take k); rw [qq,qap ah] at h; exact h.leaf _
  have aq:W.length ≤ 8:=by rw [y,zga]; exact js (z0a _) (by rw [qq]; omega)
  have a4:(W = [] ∧ S = []) ∨ ∃ w0 wr n0 K,W = w0 :: wr ∧ S = n0 :: K ∧ K.length + 1 = wr.length + 1 ∧ wr.length + 1 ≤ 8:=by
   rcases W with _ | ⟨w0,wr⟩<;>rcases S with _ | ⟨n0,K⟩
   ·exact .inl ⟨rfl,rfl⟩
   ·exact absurd p (by simp)
   ·exact absurd p (by simp)
   ·exact .inr ⟨w0,wr,n0,K,rfl,rfl,p,aq⟩
  refine Or.elim a4 (fun h=>?A) (fun h=>?B)
  case' A=>
   obtain ⟨ae,ad⟩:=h;subst ae;subst ad;replace y:[] = wsOf (stackF (l.take k)):=y
   have I:∀ (μ:Mu) (c:Nat),SB.arr 9 1 ([] ++ [encS (leafS l[k])]) c = (SB.arr 9 1 ((wsOf ((leafS l[k],1) :: stackF (l.take k))).map encS) c).ren μ:=fun μ c=>by
    rw [zcw zb9 rfl,zd0,← y]; simp
   have i:∀ (μ:Mu) (c:Nat),SB.arr 3 1 ([] ++ [encI 1]) c = (SB.arr 3 1 ((nsOf ((leafS l[k],1) :: stackF (l.take k))).map encI) c).ren μ:=fun μ c=>by
    rw [zcw zcg rfl,zdv,← hS]; simp
   have f:((leafS l[k],1) :: stackF (l.take k)).length = 1:=by rw [qh,← zga,← y]; rfl
   refine ⟨nb rfl,[encS (leafS l[k])],rfl,rfl,rfl,nb rfl,fun L h1=>?_⟩;refine ⟨nb rfl,[encI 1],rfl,rfl,rfl,nb rfl,fun d1 g1=>?_⟩
   refine zam hΘ (X:={ x:Stk × Nat × Nat // x.1 ≠ [] ∧ merge x.1 = stackF (l.take (k + 1)) ∧ x.1.length ≤ 9 ∧ Gd (k + 1) x.1 ∧ x.1.length ≤ x.2.1 ∧ x.1.length ≤ x.2.2 }) (fun x=>[(3,.va (.slice false 7 0 0 1 x.1.1.length x.1.2.1)),(4,.va (.slice false 8 0 0 1 x.1.1.length x.1.2.2)),(7,.va (.int .i64 x.1.1.length))]) [27,28,29,30,31,32,33,34,35,36,37,38,39,40,41,42,43,44,45,46,47,48,49,50,51,52,53,54,55,56,57,58,59,60,61,62,63,64,65,66,67,68,69,70,71,72]
    (fun x=>[(0,.frz F1),(4,.gone),(6,.gone),(7,.one (.arr 9 1 ((wsOf x.1.1).map encS) x.1.2.1)),(8,.one (.arr 3 1 ((nsOf x.1.1).map encI) x.1.2.2))]) 9 (fun x=>x.1.1.length) ⟨((leafS l[k],1) :: stackF (l.take k),L,d1),by simp,ay,by rw [f]; omega,Z,by show ((leafS l[k],1) :: stackF (l.take k)).length ≤ L; rw [f]; exact h1,by show ((leafS l[k],1) :: stackF (l.take k)).length ≤ d1; rw [f]; exact g1⟩
    (fun V Y=>leI [(7,4),(8,6)] V Y rfl ⟨tv,tv,tv,zbd zb9 9 1 9 L (wsOf ((leafS l[k],1) :: stackF (l.take k))),zbd zcg 3 1 9 d1 (nsOf ((leafS l[k],1) :: stackF (l.take k))),tv⟩ ⟨⟨rfl,f,rfl,.inr ⟨rfl,rfl,rfl,rfl⟩⟩,⟨rfl,f,rfl,.inr ⟨rfl,rfl,rfl,rfl⟩⟩,eu (by rw [f]; rfl),tv⟩ ⟨Fz.r F1,I _ L,i _ d1,tv⟩) ?_
  case' B=>
   obtain ⟨w0,wr,n0,K,ae,ad,p,aq⟩:=h;subst ae;subst ad
   have I:∀ (μ:Mu) (c:Nat),SB.arr 9 1 ((w0 :: wr).map encS ++ [encS (leafS l[k])]) c = (SB.arr 9 1 ((wsOf ((leafS l[k],1) :: stackF (l.take k))).map encS) c).ren μ:=fun μ c=>by
    rw [zcw zb9 rfl,zd0,← y]; simp
   have i:∀ (μ:Mu) (c:Nat),SB.arr 3 1 ((n0 :: K).map encI ++ [encI 1]) c = (SB.arr 3 1 ((nsOf ((leafS l[k],1) :: stackF (l.take k))).map encI) c).ren μ:=fun μ c=>by
    rw [zcw zcg rfl,zdv,← hS]; simp
   have f:((leafS l[k],1) :: stackF (l.take k)).length = wr.length + 1 + 1:=by rw [qh,← zga,← y]; rfl
   refine ⟨nb rfl,[encS (leafS l[k])],rfl,rfl,rfl,by simp,rfl,by show (wr.length + 1 + 1) * 16 ≤ _; omega,fun L h1=>?_⟩;refine ⟨nb rfl,[encI 1],rfl,rfl,rfl,by simp,rfl,by show (K.length + 1 + 1) * 8 ≤ _; omega,fun d1 g1=>?_⟩
   refine zam hΘ (X:={ x:Stk × Nat × Nat // x.1 ≠ [] ∧ merge x.1 = stackF (l.take (k + 1)) ∧ x.1.length ≤ 9 ∧ Gd (k + 1) x.1 ∧ x.1.length ≤ x.2.1 ∧ x.1.length ≤ x.2.2 }) (fun x=>[(3,.va (.slice false 7 0 0 1 x.1.1.length x.1.2.1)),(4,.va (.slice false 8 0 0 1 x.1.1.length x.1.2.2)),(7,.va (.int .i64 x.1.1.length))]) [27,28,29,30,31,32,33,34,35,36,37,38,39,40,41,42,43,44,45,46,47,48,49,50,51,52,53,54,55,56,57,58,59,60,61,62,63,64,65,66,67,68,69,70,71,72]
    (fun x=>[(0,.frz F1),(4,.gone),(6,.gone),(7,.one (.arr 9 1 ((wsOf x.1.1).map encS) x.1.2.1)),(8,.one (.arr 3 1 ((nsOf x.1.1).map encI) x.1.2.2))]) 9 (fun x=>x.1.1.length) ⟨((leafS l[k],1) :: stackF (l.take k),L,d1),by simp,ay,by rw [f]; omega,Z,by show ((leafS l[k],1) :: stackF (l.take k)).length ≤ L; rw [f]; exact h1,by show ((leafS l[k],1) :: stackF (l.take k)).length ≤ d1; rw [f]; have g2:K.length + 1 + 1 ≤ d1:=g1; omega⟩
    (fun V Y=>leI [(7,4),(8,6)] V Y rfl ⟨tv,tv,tv,zbd zb9 9 1 9 L (wsOf ((leafS l[k],1) :: stackF (l.take k))),zbd zcg 3 1 9 d1 (nsOf ((leafS l[k],1) :: stackF (l.take k))),tv⟩ ⟨⟨rfl,f,rfl,.inr ⟨rfl,rfl,rfl,rfl⟩⟩,⟨rfl,(by rw [f]; show wr.length + 1 + 1 = K.length + 1 + 1; omega),rfl,.inr ⟨rfl,rfl,rfl,rfl⟩⟩,eu (by rw [f]; show ((wr.length + 1 + 1:Nat):Int) = ((K.length + 1 + 1:Nat):Int); omega),tv⟩ ⟨Fz.r F1,I _ L,i _ d1,tv⟩) ?_
  all_goals
   rintro ⟨⟨x,T,d2⟩,ai,J,M,s,O,Q⟩ an ap;replace ai:x ≠ []:=ai;replace J:merge x = stackF (l.take (k + 1)):=J;replace M:x.length ≤ 9:=M;replace s:Gd (k + 1) x:=s;replace O:x.length ≤ T:=O;replace Q:x.length ≤ d2:=Q;rcases x with _ | ⟨⟨b,n⟩,_ | ⟨⟨a,m⟩,r⟩⟩
   ·exact absurd rfl ai
   ·have ab:∀ (μ:Mu) (c:Nat),SB.arr 9 1 ((wsOf [(b,n)]).map encS) c = (SB.arr 9 1 ([b].map encS) c).ren μ:=fun μ c=>by rw [zcw zb9 rfl]; rfl
    have ac:∀ (μ:Mu) (c:Nat),SB.arr 3 1 ((nsOf [(b,n)]).map encI) c = (SB.arr 3 1 ([(n:Int)].map encI) c).ren μ:=fun μ c=>by rw [zcw zcg rfl]; rfl
    have au:stackF (l.take (k + 1)) = [(b,n)]:=J.symm;have bb:RI1 l (k + 1) [b] [(n:Int)]:=⟨g,by rw [au]; rfl,by rw [au]; rfl⟩
    have D:8 - (k + 1) < 8 - k:=by omega
    have G:k < 4611686018427387904:=by omega
    refine drawP hΘ mixed (lk [0,1,2,3,4,5,6,7,8,9,10,11,12,13,14] .done) [8] (by kernel_rfl) ?_;refine gaf (by simp) ?_;exact ⟨⟨(k + 1,[b],[(n:Int)],T,d2),bb⟩,D,leRn [_,_,_] [_,_] [(1,7),(2,8)] V Y rfl ⟨tv,zai zb9 _ _ _ _ _,zai zcg _ _ _ _ _,tv⟩ ⟨⟨rfl,rfl,rfl,.inr ⟨rfl,rfl,rfl,rfl⟩⟩,⟨rfl,rfl,rfl,.inr ⟨rfl,rfl,rfl,rfl⟩⟩,cnt G,tv⟩ ⟨l1,ab _ T,ac _ d2,tv⟩⟩
   ·have ba:(nsOf ((b,n) :: (a,m) :: r))[r.length]? = some (m:Int):=by rw [zdv,zdv]; simp [nsOf]
    have a0:(nsOf ((b,n) :: (a,m) :: r))[r.length + 1]? = some (n:Int):=by rw [zdv,zdv]; simp [nsOf]
    have hw:wsOf ((b,n) :: (a,m) :: r) = ((wsOf ((b,n) :: (a,m) :: r)).headD [] :: (wsOf ((b,n) :: (a,m) :: r)).tail):=zxc [] (ybz _ _);have hn:nsOf ((b,n) :: (a,m) :: r) = ((nsOf ((b,n) :: (a,m) :: r)).headD 0 :: (nsOf ((b,n) :: (a,m) :: r)).tail):=zxc 0 (yab _ _);have ab:∀ (μ:Mu) (c:Nat),SB.arr 9 1 ((wsOf ((b,n) :: (a,m) :: r)).map encS) c = (SB.arr 9 1 (((wsOf ((b,n) :: (a,m) :: r)).headD [] :: (wsOf ((b,n) :: (a,m) :: r)).tail).map encS) c).ren μ:=fun μ c=>by rw [← hw]; exact (zcw zb9 rfl _ _ _ _).symm
    have ac:∀ (μ:Mu) (c:Nat),SB.arr 3 1 ((nsOf ((b,n) :: (a,m) :: r)).map encI) c = (SB.arr 3 1 (((nsOf ((b,n) :: (a,m) :: r)).headD 0 :: (nsOf ((b,n) :: (a,m) :: r)).tail).map encI) c).ren μ:=fun μ c=>by rw [← hn]; exact (zcw zcg rfl _ _ _ _).symm
    have bf:(wsOf ((b,n) :: (a,m) :: r)).tail.length + 1 = r.length + 1 + 1:=by have h:=congrArg List.length hw; rw [zga] at h; exact h.symm
    have a8:(nsOf ((b,n) :: (a,m) :: r)).tail.length + 1 = r.length + 1 + 1:=by have h:=congrArg List.length hn; rw [zj0] at h; exact h.symm
    have aw:a.length ≤ 100000000000:=by rw [s.1 (a,m) (by simp)]; decide
    have ax:b.length ≤ 100000000000:=by rw [s.1 (b,n) (by simp)]; decide
    have a9:decide ((m:Int) = (n:Int)) = false → RI1 l (k + 1) ((wsOf ((b,n) :: (a,m) :: r)).headD [] :: (wsOf ((b,n) :: (a,m) :: r)).tail) ((nsOf ((b,n) :: (a,m) :: r)).headD 0 :: (nsOf ((b,n) :: (a,m) :: r)).tail):=fun h=>by
     have he:stackF (l.take (k + 1)) = ((b,n) :: (a,m) :: r):=by rw [← J]; exact zh2 (fun e=>absurd (oe h) (by simp [e]))
     exact ⟨g,by rw [he,← hw],by rw [he,← hn]⟩
    have D:8 - (k + 1) < 8 - k:=by omega
    have G:k < 4611686018427387904:=by omega
    replace M:r.length + 1 + 1 ≤ 9:=M;replace O:r.length + 1 + 1 ≤ T:=O;replace Q:r.length + 1 + 1 ≤ d2:=Q;have j:IntKind.i64.wrap (((r.length + 1 + 1:Nat):Int) - 2) = ((r.length:Nat):Int):=by rw [zaj (by omega) (by omega)]; omega
    have e1:IntKind.i64.wrap (((r.length + 1 + 1:Nat):Int) - 1) = ((r.length + 1:Nat):Int):=by rw [zaj (by omega) (by omega)]; omega
    have q2:0 ≤ IntKind.i64.wrap (((r.length + 1 + 1:Nat):Int) - 2) ∧ IntKind.i64.wrap (((r.length + 1 + 1:Nat):Int) - 2) < ((r.length + 1 + 1:Nat):Int):=by rw [j]; omega
    have q1:0 ≤ IntKind.i64.wrap (((r.length + 1 + 1:Nat):Int) - 1) ∧ IntKind.i64.wrap (((r.length + 1 + 1:Nat):Int) - 1) < ((r.length + 1 + 1:Nat):Int):=by rw [e1]; omega
    have p2:0 ≤ IntKind.i64.wrap (((r.length + 1 + 1:Nat):Int) - 2) ∧ IntKind.i64.wrap (((r.length + 1 + 1:Nat):Int) - 2) ≤ (T:Int):=by rw [j]; omega
    have p3:0 ≤ IntKind.i64.wrap (((r.length + 1 + 1:Nat):Int) - 2) ∧ IntKind.i64.wrap (((r.length + 1 + 1:Nat):Int) - 2) ≤ (d2:Int):=by rw [j]; omega
    have gm:((nsOf ((b,n) :: (a,m) :: r)).map encI)[0 + (IntKind.i64.wrap (((r.length + 1 + 1:Nat):Int) - 2)).toNat]? = some (encI m):=by rw [j,qp,q5,qy,ba]; rfl
    have gn:((nsOf ((b,n) :: (a,m) :: r)).map encI)[0 + (IntKind.i64.wrap (((r.length + 1 + 1:Nat):Int) - 1)).toNat]? = some (encI n):=by rw [e1,qp,q5,qy,a0]; rfl
    have bd:(wsOf ((b,n) :: (a,m) :: r))[r.length]? = some a:=by rw [zd0,zd0]; simp [wsOf]
    have be:(wsOf ((b,n) :: (a,m) :: r))[r.length + 1]? = some b:=by rw [zd0,zd0]; simp [wsOf]
    have ga:((wsOf ((b,n) :: (a,m) :: r)).map encS)[0 + (IntKind.i64.wrap (((r.length + 1 + 1:Nat):Int) - 2)).toNat]? = some (encS a):=by rw [j,qp,q5,qy,bd]; rfl
    have gb:((wsOf ((b,n) :: (a,m) :: r)).map encS)[0 + (IntKind.i64.wrap (((r.length + 1 + 1:Nat):Int) - 1)).toNat]? = some (encS b):=by rw [e1,qp,q5,qy,be]; rfl
    have ht:((wsOf ((b,n) :: (a,m) :: r)).map encS).take r.length = (wsOf r).map encS:=by rw [zd0,zd0,ql,jj,qdb (by rw [qa,zga])]
    have bc:((nsOf ((b,n) :: (a,m) :: r)).map encI).take r.length = (nsOf r).map encI:=by rw [zdv,zdv,ql,jj,qdb (by rw [qa,zj0])]
    have az:decide ((m:Int) = (n:Int)) = true → m = n ∧ 2 * n ≤ 8:=fun h=>by
     have h1:m = n:=by have:=od h; omega
     have h2:=s.2;simp only [qv,qdj] at h2;exact ⟨h1,by omega⟩
    have aa:decide ((m:Int) = (n:Int)) = true → ∀ q d3,(IntKind.i64.wrap (((r.length + 1 + 1:Nat):Int) - 2)).toNat - 0 + [encS (nodeS a b)].length ≤ q → (IntKind.i64.wrap (((r.length + 1 + 1:Nat):Int) - 2)).toNat - 0 + [encI (IntKind.i64.wrap (2 * (n:Int)))].length ≤ d3 →
      ((nodeS a b,2 * n) :: r) ≠ [] ∧ merge ((nodeS a b,2 * n) :: r) = stackF (l.take (k + 1)) ∧ ((nodeS a b,2 * n) :: r).length ≤ 9 ∧ Gd (k + 1) ((nodeS a b,2 * n) :: r) ∧ ((nodeS a b,2 * n) :: r).length ≤ q ∧ ((nodeS a b,2 * n) :: r).length ≤ d3:=fun h q d3 h3 h4=>by
     have hm:=(az h).1;rw [j] at h3 h4;refine ⟨by simp,(zeh hm).symm.trans J,by rw [qh]; omega,s.join hm,?_,?_⟩
     ·rw [qh]; simpa using h3
     ·rw [qh]; simpa using h4
    have E:((nodeS a b,2 * n) :: r).length < ((b,n) :: (a,m) :: r).length:=by simp
    have n3:((nodeS a b,2 * n) :: r).length = (IntKind.i64.wrap (((r.length + 1 + 1:Nat):Int) - 2)).toNat - 0 + [encS (nodeS a b)].length:=by rw [j]; simp
    have n4:((nodeS a b,2 * n) :: r).length = (IntKind.i64.wrap (((r.length + 1 + 1:Nat):Int) - 2)).toNat - 0 + [encI (IntKind.i64.wrap (2 * (n:Int)))].length:=by rw [j]; simp
    have n5:((((nodeS a b,2 * n) :: r).length:Nat):Int) = IntKind.i64.wrap (((r.length + 1 + 1:Nat):Int) - 1):=by rw [e1]; rfl
    have aj:∀ (μ:Mu) (c:Nat),SB.arr 9 1 (((wsOf ((b,n) :: (a,m) :: r)).map encS).take ((IntKind.i64.wrap (((r.length + 1 + 1:Nat):Int) - 2)).toNat - 0) ++ [encS (nodeS a b)]) c = (SB.arr 9 1 ((wsOf ((nodeS a b,2 * n) :: r)).map encS) c).ren μ:=fun μ c=>by
     rw [zcw zb9 rfl,j,qp,qau,ht,zd0,jj]; rfl
    have ak:∀ (μ:Mu) (c:Nat),IntKind.i64.wrap (2 * (n:Int)) = ((2 * n:Nat):Int) → SB.arr 3 1 (((nsOf ((b,n) :: (a,m) :: r)).map encI).take ((IntKind.i64.wrap (((r.length + 1 + 1:Nat):Int) - 2)).toNat - 0) ++ [encI (IntKind.i64.wrap (2 * (n:Int)))]) c = (SB.arr 3 1 ((nsOf ((nodeS a b,2 * n) :: r)).map encI) c).ren μ:=fun μ c h=>by
     rw [zcw zcg rfl,j,qp,qau,bc,zdv,jj,h]; rfl
    have a1:decide ((m:Int) = (n:Int)) = true → IntKind.i64.wrap (2 * (n:Int)) = ((2 * n:Nat):Int):=fun h=>by
     have:=(az h).2;rw [zaj (by omega) (by omega)]; omega
    have f0:(if T = 0 then 0 else 0 + 0) = 0:=by split<;>rfl
    have f1:(if d2 = 0 then 0 else 0 + 0) = 0:=by split<;>rfl
    have fl:(IntKind.i64.wrap (((r.length + 1 + 1:Nat):Int) - 2)).toNat - 0 ≤ ((wsOf ((b,n) :: (a,m) :: r)).map encS).length:=by rw [j,qa,zga]; simp; omega
    have al:(IntKind.i64.wrap (((r.length + 1 + 1:Nat):Int) - 2)).toNat - 0 ≤ ((nsOf ((b,n) :: (a,m) :: r)).map encI).length:=by rw [j,qa,zj0]; simp; omega
    have am:((IntKind.i64.wrap (((r.length + 1 + 1:Nat):Int) - 2)).toNat - 0 + [encS (nodeS a b)].length) * 16 ≤ 140737488355328:=by rw [j]; simp; omega
    have U:∀ z:Int,((IntKind.i64.wrap (((r.length + 1 + 1:Nat):Int) - 2)).toNat - 0 + [encI z].length) * 8 ≤ 140737488355328:=fun z=>by rw [j]; simp; omega
    refine drawP hΘ mixed (lk [0,1,2,3,4,5,6,7,8,9,10,11,12,13,14] .done) [8] (by kernel_rfl) ?_;refine ⟨fun _=>?_,fun g=>absurd g (by simp; omega)⟩;refine ⟨rfl,q2,rfl,encI m,gm,rfl,q1,rfl,encI n,gn,?_⟩;refine br (fun u=>?_) (fun u=>?_)
    ·refine famW 7 rfl ?_;refine famW 8 rfl ?_;refine drawP hΘ mixed (lk [0,1,2,3,4,5,6,7,9,10,11,12] (.alt 8 (.alt 13 (.alt 14 (.alt 15 (.alt 16 (.look 17 .done) .nil) .nil) .nil) .nil) (.alt 13 (.alt 8 (.alt 14 (.alt 15 (.alt 16 (.look 17 .done) .nil) .nil) .nil) .nil) .nil))) [] (by kernel_rfl) ?_;refine ⟨p2,rfl,q2,rfl,q1,?_,?_⟩
     ·refine ⟨⟨yx,rfl⟩,encS a,ga,Fz.r F1,⟨yx,rfl⟩,encS b,gb,Fz.r F1,?_⟩;refine useFo (zy1 F1 (hR.mono l1) a b aw ax) rfl (zaa _) rfl ?_;rintro _ w l2 rfl;refine ⟨l2,Fz.r w,nb rfl,[encS (nodeS a b)],rfl,⟨yx,rfl⟩,f0,fl,qau _,am,fun q af=>?_⟩;refine ⟨Fz.r w,?_⟩;refine drawP hΘ mixed (lk [0,1,2,3,4,5,6,7] (.alt 8 (.look 9 (.alt 10 (.alt 11 (.look 12 .done) .nil) .nil)) .nil)) [] (by kernel_rfl) ?_;refine ⟨p3,rfl,q1,⟨yx,rfl⟩,encI n,gn,Fz.r w,Fz.r w,nb rfl,[encI (IntKind.i64.wrap (2 * (n:Int)))],rfl,⟨yx,rfl⟩,f1,al,qau _,U _,fun d3 ag=>?_⟩;refine ⟨Fz.r w,?_⟩;exact ⟨⟨((nodeS a b,2 * n) :: r,q,d3),aa u q d3 af ag⟩,E,leR [(7,10),(8,12)] an ap rfl ⟨tv,tv,tv,zbd zb9 9 1 9 q (wsOf ((nodeS a b,2 * n) :: r)),zbd zcg 3 1 9 d3 (nsOf ((nodeS a b,2 * n) :: r)),tv⟩ ⟨⟨rfl,n3,rfl,.inr ⟨rfl,rfl,rfl,rfl⟩⟩,⟨rfl,n4,rfl,.inr ⟨rfl,rfl,rfl,rfl⟩⟩,eu n5,tv⟩ ⟨l2,aj _ q,ak _ d3 (a1 u),tv⟩⟩
     ·refine ⟨⟨yx,rfl⟩,encS b,gb,Fz.r F1,⟨yx,rfl⟩,encS a,ga,Fz.r F1,?_⟩;refine useFo (zy1 F1 (hR.mono l1) a b aw ax) rfl (zaa _) rfl ?_;rintro _ w l2 rfl;refine ⟨l2,Fz.r w,nb rfl,[encS (nodeS a b)],rfl,⟨yx,rfl⟩,f0,fl,qau _,am,fun q af=>?_⟩;refine ⟨Fz.r w,?_⟩;refine drawP hΘ mixed (lk [0,1,2,3,4,5,6,7] (.alt 8 (.look 9 (.alt 10 (.alt 11 (.look 12 .done) .nil) .nil)) .nil)) [] (by kernel_rfl) ?_;refine ⟨p3,rfl,q1,⟨yx,rfl⟩,encI n,gn,Fz.r w,Fz.r w,nb rfl,[encI (IntKind.i64.wrap (2 * (n:Int)))],rfl,⟨yx,rfl⟩,f1,al,qau _,U _,fun d3 ag=>?_⟩;refine ⟨Fz.r w,?_⟩;exact ⟨⟨((nodeS a b,2 * n) :: r,q,d3),aa u q d3 af ag⟩,E,leR [(7,10),(8,12)] an ap rfl ⟨tv,tv,tv,zbd zb9 9 1 9 q (wsOf ((nodeS a b,2 * n) :: r)),zbd zcg 3 1 9 d3 (nsOf ((nodeS a b,2 * n) :: r)),tv⟩ ⟨⟨rfl,n3,rfl,.inr ⟨rfl,rfl,rfl,rfl⟩⟩,⟨rfl,n4,rfl,.inr ⟨rfl,rfl,rfl,rfl⟩⟩,eu n5,tv⟩ ⟨l2,aj _ q,ak _ d3 (a1 u),tv⟩⟩
    ·exact ⟨⟨(k + 1,((wsOf ((b,n) :: (a,m) :: r)).headD [] :: (wsOf ((b,n) :: (a,m) :: r)).tail),((nsOf ((b,n) :: (a,m) :: r)).headD 0 :: (nsOf ((b,n) :: (a,m) :: r)).tail),T,d2),a9 u⟩,D,leRn [_,_,_] [_,_] [(1,7),(2,8)] V Y rfl ⟨tv,zai zb9 _ _ _ _ _,zai zcg _ _ _ _ _,tv⟩ ⟨⟨rfl,bf,rfl,.inr ⟨rfl,rfl,rfl,rfl⟩⟩,⟨rfl,a8,rfl,.inr ⟨rfl,rfl,rfl,rfl⟩⟩,cnt G,tv⟩ ⟨l1,ab _ T,ac _ d2,tv⟩⟩
 ·have av:k = l.length:=by omega
  have a3:W = [R]:=by rw [y,av,yu,ao]; rfl
  have a2:S = [8]:=by rw [hS,av,yu,ao]; rfl
  have a7:¬ (k:Int) < (l.length:Int):=by omega
  subst a3;subst a2;refine brj a7 ?_;refine brd (by decide) ?_;refine ⟨rfl,by decide,rfl,encS R,rfl,⟨by decide,by show (0:Int) ≤ (c:Int); omega⟩,?_⟩;refine zhd hΘ Tryz.func115 rfl (by decide) _ _ rfl rfl rfl (zcv hΘ _ _ _ ?_);refine zv3 rfl rfl rfl ?_;refine ⟨rfl,rfl,?_⟩;exact endFo (.ret (.va (.str R))) F rfl (Fz.r F) (Fz.r F) rfl (zah _) rfl
theorem rootF (l:List (List UInt8)) (i:l.length = 8):stackF l = [(root8 l,8)]:=by
 match l,i with
 |[a,b,c,d,e,f,g,h],_=>exact ydq a b c d e f g h
theorem zgw (F:Fz) (d:RNDF F) (a:SA) (l:List (List UInt8)) (b:Sl F 9 1 encS a l) (c:l.length = 8) (s:∀ x ∈ l,x.length ≤ 900000000000) :
  Fo Tryz.prog F 17 [.va a] (fun o _=>o = .ret (.va (.str (root8 l)))):=by
 have h:=yao F d a l b c s (root8 l) (rootF l c);obtain ⟨p,k,n,m,j,q,rfl,e,f,g,i⟩:=b;refine fo_of hΘ Tryz.func17 rfl (by decide) _ _ rfl rfl rfl ?_;refine useFo h rfl (zaa _) rfl ?_;rintro _ F1 u rfl;exact endFo (.ret (.va (.str (root8 l)))) F1 rfl u (Fz.r F1) rfl (zah _) rfl
def atV (A:List (List UInt8)) (p:Int):List UInt8:=A[(p - 1).toNat]?.getD []
def chkAt (A B:List (List UInt8)) (x:Kp):Bool:=decide (x.2 = [(6,0)]) || (decide ((zdb x.1 x.2 (atV A x.1)).2 = 0) && decide ((zdb x.1 x.2 (atV A x.1)).1 = atV B x.1))
theorem z9l (F:Fz) (e:SA) (l:List Stp) (f:za1 F e l) (w:l.length < 1000000) :
  Fo Tryz.prog F 60 [.va e] (fun o y=>o = .ret (.va (.bool (decide (l = [(6,0)]))))):=by
 have d:=fun F1 (a:Fz.le F F1) x c=>zhx F1 e x l [(6,0)] (f.mono a) c w
 obtain ⟨q,m,p,n,k,s,rfl,g,h,i,j⟩:=f;refine fo_of hΘ Tryz.func60 rfl (by decide) _ _ rfl rfl rfl ?_;refine za7 1 (fun _=>.arr 56 2 ([(6,0)].map enc) 1) rfl rfl rfl (fun _ _=>rfl) (fun _ _=>SB.bB_ok rfl) ?_;intro b F1 a c;have u:=d F1 a _ (Sl.new (l:=[(6,0)]) (cap:=1) (c 0 rfl));refine usePu u rfl ⟨⟨rfl,rfl,rfl,.inr ⟨rfl,rfl,rfl,rfl⟩⟩,⟨rfl,rfl,rfl,.inr ⟨rfl,rfl,rfl,rfl⟩⟩,tv⟩ rfl ?_;exact endFo (.ret (.va (.bool (decide (l = [(6,0)]))))) F1 rfl a (Fz.r F1) rfl (zah _) rfl
theorem zwp {A:List (List UInt8)} {p:Int} (a:A.length = 8) (b:1 ≤ p ∧ p ≤ 8):A[(p - 1).toNat]? = some (atV A p):=by
 unfold atV;rw [qe (show (p - 1).toNat < A.length by omega)]; rfl
theorem zw1 (F:Fz) (hM:MLF F) (g q u:SA) (A B:List (List UInt8)) (G bB:Nat) (x:Kp) (m:za1 F g x.2) (y:x.2.length < 1000000) (hA:Sl F 9 1 encS q A) (hB:Sl F 9 1 encS u B) (i:A.length = 8) (j:B.length = 8)
  (ac:F G = some (.cells 34 [q])) (ad:F bB = some (.cells 34 [u])) (D:1 ≤ x.1 ∧ x.1 ≤ 8) (hs:∀ s ∈ A,s.length ≤ 1000000000000000000) :
  Fo Tryz.prog F 58 [.agg [.int .i64 x.1,g],.va (.ptr (fp G)),.va (.ptr (fp bB))] (fun o F'=>o = .ret (.va (.bool (!chkAt A B x)))):=by
 obtain ⟨p,l⟩:=x;replace D:1 ≤ p ∧ p ≤ 8:=D;replace y:l.length < 1000000:=y;replace m:za1 F g l:=m;have gA:=zwp i D;have gB:=zwp j D;have a:=zs1 F hM g l p (atV A p) m y (hs _ (yw gA));have c:=fun F1 (d:Fz.le F F1)=>z9l F1 g l (m.mono d) y
 have hw:IntKind.i64.wrap (p - 1) = p - 1:=zaj (by omega) (by omega);have qA:0 ≤ IntKind.i64.wrap (p - 1) ∧ IntKind.i64.wrap (p - 1) < (A.length:Int):=by rw [hw]; omega
 have qB:0 ≤ IntKind.i64.wrap (p - 1) ∧ IntKind.i64.wrap (p - 1) < (B.length:Int):=by rw [hw]; omega
 have n:∀ (L:List (List SA)) (e:Nat) (C:List (List UInt8)),(L.drop e).take C.length = C.map encS → C.length = 8 → C[(p - 1).toNat]? = some (atV C p) → L[e + (IntKind.i64.wrap (p - 1)).toNat]? = some (encS (atV C p)):=by
  intro L e C h1 h2 h3;have h4:=Sl.at h1 (k:=(p - 1).toNat) (by omega);rw [hw];rw [qe (show (p - 1).toNat < C.length by omega)] at h3;rw [Option.some.inj h3] at h4;exact h4
 show Fo Tryz.prog F 58 [.agg [.int .i64 p,g],.va (.ptr (fp G)),.va (.ptr (fp bB))] (fun o F'=>o = .ret (.va (.bool (!(decide (l = [(6,0)]) || (decide ((zdb p l (atV A p)).2 = 0) && decide ((zdb p l (atV A p)).1 = atV B p)))))));obtain ⟨R,hR⟩:∃ R,zdb p l (atV A p) = R:=⟨_,rfl⟩
 rw [hR] at a ⊢;obtain ⟨t,e⟩:=R;clear hR;obtain ⟨V,ah,U,ai,T,aj,rfl,O,Q,ag,S⟩:=hA;obtain ⟨ab,al,aa,am,Z,an,rfl,W,X,ak,Y⟩:=hB;have rA:=n T U A S i gA;have rB:=n Z aa B Y j gB;have nA:V = false:=Sl.lt O (show 0 < A.length by omega);have nB:ab = false:=Sl.lt W (show 0 < B.length by omega);generalize atV A p = va at *;generalize atV B p = vb at *;obtain ⟨ay,av,ax,aw,au,az,rfl,ao,ap,aq,ar⟩:=m
 have b:∀ (v:Bool) (F1:Fz) (h:Hp) (nx:Nat),(!(decide (l = [(6,0)]) || (decide (e = 0) && decide (t = vb)))) = v → lget h 0 = some (.frz F1) → Fz.le F F1 → Cln 1 (FoK F fun o F'=>o = .ret (.va (.bool (!(decide (l = [(6,0)]) || (decide (e = 0) && decide (t = vb))))))) (.ret (.va (.bool v))) h nx:=by
  intro v F1 h nx hv h0 af;exact endFo (.ret (.va (.bool v))) F1 h0 af (Fz.r F1) (by rw [hv]) rfl rfl
 refine fo_of hΘ Tryz.func58 rfl (by decide) _ _ rfl rfl rfl ?_;refine drawP hΘ mixed (lk [0,1,2,3,4,5,6,7,8,9] (.alt 10 (lk [11,12,13,14,15] .done) .nil)) [1] (by kernel_rfl) ?_;refine ⟨rfl,rfl,rfl,_,ac,rfl,nA,qA,rfl,_,Q nA,_,rA,?_⟩;refine useFo a rfl (zaa _) rfl ?_;rintro _ F1 d rfl;have ae:=c F1 d;refine ⟨d,rfl,?_⟩;refine useFo ae rfl (zaa _) rfl ?_;rintro _ E l2 rfl;refine ⟨fun w=>?_,fun w=>?_⟩
 rotate_left
 ·exact b false E _ _ (by rw [show decide (l = [(6,0)]) = true by simpa using w]; rfl) rfl (Fz.t d l2)
 refine ⟨fun I=>?_,fun I=>?_⟩
 ·have f:=Fz.t d l2;have M:decide (l = [(6,0)]) = false:=by simpa using w
  have K:decide (e = 0) = true:=by
   have J:(!decide (e = 0)) = false:=I;simpa using J
  refine ⟨_,f _ _ ad,nB,qB,_,f _ _ (X nB),_,rB,?_⟩;exact b _ E _ _ (by rw [M,K,← beqD rfl]; rfl) rfl f
 ·have K:decide (e = 0) = false:=by
   have J:(!decide (e = 0)) = true:=I;simpa using J
  have M:decide (l = [(6,0)]) = false:=by simpa using w
  exact b true E _ _ (by rw [M,K]; rfl) rfl (Fz.t d l2)
theorem z06 (F:Fz) (hM:MLF F) (sk f i:SA) (A B:List (List UInt8)) (w bB:Nat) (b:List Kp) (hk:ClsAt F sk b) (hs:short b) (hl:b.length < 1000000) (hA:Sl F 9 1 encS f A) (hB:Sl F 9 1 encS i B) (I:A.length = 8) (J:B.length = 8) (M:F w = some (.cells 34 [f])) (O:F bB = some (.cells 34 [i])) (hx:∀ x ∈ b,1 ≤ x.1 ∧ x.1 ≤ 8) (R:∀ s ∈ A,s.length ≤ 1000000000000000000) :
  Fo Tryz.prog F 125 [.va sk,.va (.fn (.func 58) [fp w,fp bB])] (fun o Y=>o = .ret (.va (.int .i64 (idxN (chkAt A B) b 0)))):=by
 obtain ⟨kn,kb,ke,kc,kL,kr,rfl,V,k2,k3,k4⟩:=hk
 have j:∀ (x:Int) (F1:Fz) (h:Hp) (nx:Nat),idxN (chkAt A B) b 0 = x → lget h 0 = some (.frz F1) → Fz.le F F1 →
   Cln 1 (FoK F fun o Y=>o = .ret (.va (.int .i64 (idxN (chkAt A B) b 0)))) (.ret (.va (.int .i64 x))) h nx:=by
  intro x F1 h nx hv Z Q;exact endFo (.ret (.va (.int .i64 x))) F1 Z Q (Fz.r F1) (by rw [hv]) rfl rfl
 refine fo_of hΘ Tryz.func125 rfl (by decide) _ _ rfl rfl rfl ?_
 refine zam hΘ (X:={ x:Nat × Fz // Fz.le F x.2 ∧ x.1 ≤ b.length ∧ idxN (chkAt A B) b 0 = idxN (chkAt A B) (b.drop x.1) x.1 }) (fun x=>[(8,.va (.int .i64 x.1.1))]) [4,5,9,10,11,12,13,14,15,16,17,18] (fz fun x=>x.1.2) 1 (fun x=>b.length - x.1.1) ⟨(0,F),Fz.r F,by simp,by simp⟩
  (fun K L=>leI [] K L rfl ⟨tv,tv⟩ ⟨rfl,tv⟩ ⟨Fz.r F,tv⟩) ?_
 rintro ⟨⟨k,G⟩,c,p,e⟩ K L;replace c:Fz.le F G:=c;replace p:k ≤ b.length:=p;replace e:idxN (chkAt A B) b 0 = idxN (chkAt A B) (b.drop k) k:=e;by_cases g:k < b.length
 ·have q:(k:Int) < (b.length:Int):=by omega
  have m:b.length - (k + 1) < b.length - k:=by omega
  have n:k < 4611686018427387904:=by omega
  have S:=hs b[k] (jp g);have T:=hx b[k] (jp g);rw [zpq (chkAt A B) b k g] at e;have l:=SlR.at k4 g;obtain ⟨y,hy,a,rfl,U⟩:=l;have d:=zw1 G (hM.mono c) a f i A B w bB b[k] (U.mono c) S (hA.mono c) (hB.mono c) I J (c _ _ M) (c _ _ O) T R;obtain ⟨ai,af,ah,ag,ae,aj,rfl,aa,ab,ac,ad⟩:=U;refine bri q ?_;refine ⟨SlR.lt V g,⟨by simp,q⟩,_,c _ _ (k2 (SlR.lt V g)),_,hy,?_⟩;refine useFo d rfl (zaa _) rfl ?_;rintro _ u W rfl;refine br (fun D=>?_) (fun D=>?_)
  ·exact j _ u _ _ (e.trans (if_pos (by have E:(!(chkAt A B) b[k]) = true:=D; simpa using E))) rfl (Fz.t c W)
  ·conv=>whnf
   have E:(!(chkAt A B) b[k]) = false:=D;exact ⟨⟨(k + 1,u),Fz.t c W,g,e.trans (if_neg (by rw [show (chkAt A B) b[k] = true by simpa using E]; simp))⟩,m,leR [] K L rfl ⟨tv,tv⟩ ⟨cnt n,tv⟩ ⟨Fz.r u,tv⟩⟩
 ·have q:¬ (k:Int) < (b.length:Int):=by omega
  rw [yg (by omega)] at e;refine brj q ?_;exact j _ G _ _ e rfl c
theorem z01 (F:Fz) (n:MLF F) (sk b c:SA) (A B:List (List UInt8)) (d bB:Nat) (a:List Kp) (k:ClsAt F sk a) (q:short a) (p:a.length < 1000000) (l:Sl F 9 1 encS b A) (m:Sl F 9 1 encS c B) (e:A.length = 8) (f:B.length = 8) (g:F d = some (.cells 34 [b])) (i:F bB = some (.cells 34 [c])) (u:∀ x ∈ a,1 ≤ x.1 ∧ x.1 ≤ 8) (j:∀ s ∈ A,s.length ≤ 1000000000000000000) :
  Fo Tryz.prog F 57 [.va sk,.va (.fn (.func 58) [fp d,fp bB])] (fun o y=>o = .ret (.va (.bool (!a.all (chkAt A B))))):=by
 have h:=z06 F n sk b c A B d bB a k q p l m e f g i u j;obtain ⟨O,K,M,L,J,Q,rfl,D,E,G,I⟩:=k;refine fo_of hΘ Tryz.func57 rfl (by decide) _ _ rfl rfl rfl ?_;refine useFo h rfl (zaa _) rfl ?_;rintro _ F1 w rfl;exact endFo (.ret (.va (.bool (!a.all (chkAt A B))))) F1 rfl w (Fz.r F1) rfl (ob (ztu (chkAt A B) a).symm) rfl
def zcq (c:Crt) (A B:List (List UInt8)):Bool:=crtOk c && ((decide (A.length = 8) && decide (B.length = 8)) && (decide (root8 A = c.src) && (decide (root8 B = c.dst) && c.cl.all (chkAt A B))))
theorem zl3:∀ (l:List Kp) (i:Int),clOk l i = true → ∀ x ∈ l,i ≤ x.1 ∧ x.1 < i + l.length
 |[],_,_=>fun x hx=>by simp at hx
 |y :: r,i,h=>fun x hx=>by
  rw [clOk,qf] at h
  have h1:y.1 = i:=by
   have:=h.1;simp only [clAt,qf,decide_eq_true_eq] at this;exact this.1
  rcases qj.1 hx with rfl | hx
  ·simp only [qh]; omega
  ·have:=zl3 r (i + 1) h.2 x hx;simp only [qh]; omega
theorem zes {c:Crt} (h:crtOk c = true):c.cl.length = 8 ∧ ∀ x ∈ c.cl,1 ≤ x.1 ∧ x.1 ≤ 8:=by
 simp only [crtOk,qf,decide_eq_true_eq] at h;refine ⟨h.2.2.2.2.1,fun x a=>?_⟩;have:=zl3 c.cl 1 h.2.2.2.2.2 x a;rw [h.2.2.2.2.1] at this;omega
theorem kC1 {c:Crt} {A B:List (List UInt8)} (h:decide ((A.length:Int) = 8) = false):zcq c A B = false:=by
 have:decide (A.length = 8) = false:=by simp at h ⊢; omega
 simp only [zcq,this,ji,yd]
theorem kC2 {c:Crt} {A B:List (List UInt8)} (h:(!decide ((B.length:Int) = 8)) = true):zcq c A B = false:=by
 have:decide (B.length = 8) = false:=by simp at h ⊢; omega
 simp only [zcq,this,ji,yd]
theorem kC3 {c:Crt} {A B:List (List UInt8)} (h:(!crtOk c) = true):zcq c A B = false:=by
 have:crtOk c = false:=by simpa using h
 simp only [zcq,this,ji]
theorem kC4 {c:Crt} {A B:List (List UInt8)} (h:(!(root8 A == c.src)) = true):zcq c A B = false:=by
 have h1:(root8 A == c.src) = false:=by simpa using h
 simp only [zcq,beqD h1,ji,yd]
theorem kC5 {c:Crt} {A B:List (List UInt8)} (h:(!(root8 B == c.dst)) = true):zcq c A B = false:=by
 have h1:(root8 B == c.dst) = false:=by simpa using h
 simp only [zcq,beqD h1,ji,yd]
theorem kC6 {c:Crt} {A B:List (List UInt8)} (h1:decide ((A.length:Int) = 8) = true) (g:(!decide ((B.length:Int) = 8)) = false) (h:(!crtOk c) = false) (i:(!(root8 A == c.src)) = false) (j:(!(root8 B == c.dst)) = false):zcq c A B = !(!c.cl.all (chkAt A B)):=by
 have a:decide (A.length = 8) = true:=by simp at h1 ⊢; omega
 have b:decide (B.length = 8) = true:=by simp at g ⊢; omega
 have d:crtOk c = true:=by simpa using h
 have e:(root8 A == c.src) = true:=by simpa using i
 have f:(root8 B == c.dst) = true:=by simpa using j
 simp only [zcq,a,b,d,beqD e,beqD f,qab,Bool.not_not]
theorem zjt (F:Fz) (hM:MLF F) (hR:RNDF F) (sk g i:SA) (c:Crt) (A B:List (List UInt8)) (hk:ClsAt F sk c.cl) (L:short c.cl) (hl:c.cl.length < 1000000) (J:Sl F 9 1 encS g A) (K:Sl F 9 1 encS i B)
  (G:∀ s ∈ A,s.length ≤ 900000000000) (ah:∀ s ∈ B,s.length ≤ 900000000000) :
  Fo Tryz.prog F 22 [.agg (crtS c sk),.va g,.va i] (fun o F'=>o = .ret (.va (.bool (zcq c A B)))):=by
 have d:=zet F sk c hk L hl;have D:=fun F1 (a:Fz.le F F1) p=>zgw F1 (hR.mono a) g A (J.mono a) p G
 have E:=fun F1 (a:Fz.le F F1) p=>zgw F1 (hR.mono a) i B (K.mono a) p ah
 have f:=fun F1 (a:Fz.le F F1) O bB (p:A.length = 8) (Y:B.length = 8) (M:crtOk c = true) j k=>z01 F1 (hM.mono a) sk g i A B O bB c.cl (KpsAt.up hk a) L hl (J.mono a) (K.mono a) p Y j k (zes M).2 (fun s L=>js (G s L) (by decide))
 have Q:=kC1 (c:=c) (A:=A) (B:=B);have e2:=kC2 (c:=c) (A:=A) (B:=B);have S:=kC3 (c:=c) (A:=A) (B:=B);have T:=kC4 (c:=c) (A:=A) (B:=B);have U:=kC5 (c:=c) (A:=A) (B:=B);have n:=kC6 (c:=c) (A:=A) (B:=B);obtain ⟨v,M⟩:∃ v,zcq c A B = v:=⟨_,rfl⟩
 rw [M] at Q e2 S T U n ⊢;clear M;obtain ⟨w,hw⟩:∃ w,crtOk c = w:=⟨_,rfl⟩
 rw [hw] at d S n f;clear hw;obtain ⟨RA,x⟩:∃ R,root8 A = R:=⟨_,rfl⟩
 obtain ⟨RB,y⟩:∃ R,root8 B = R:=⟨_,rfl⟩
 rw [x] at D T n;rw [y] at E U n;clear x y;obtain ⟨src,ai,az,ks⟩:=c;have aj:=J;have aq:=K;obtain ⟨ac,Z,ab,aa,ao,ap,rfl,ak,al,am,an⟩:=J;obtain ⟨ag,ad,af,ae,ax,ay,rfl,ar,au,av,aw⟩:=K;obtain ⟨kn,kb,ke,kc,kL,kr,rfl,k1,k2,k3,k4⟩:=hk
 have e:∀ (b:Bool) (F1:Fz) (h:Hp) (nx:Nat),v = b → lget h 0 = some (.frz F1) → Fz.le F F1 → Cln 1 (FoK F fun o F'=>o = .ret (.va (.bool v))) (.ret (.va (.bool b))) h nx:=by
  intro b F1 h nx hb X l;exact endFo (.ret (.va (.bool b))) F1 X l (Fz.r F1) (by rw [hb]) rfl rfl
 have finL:∀ (b:Bool) (F1:Fz) (h:Hp) (nx:Nat),v = b → lget h 0 = some (.frz F1) → Fz.le F F1 → Cln 1 (FoK F fun o F'=>o = .ret (.va (.bool v))) (.ret (.va (.lit b))) h nx:=by
  intro b F1 h nx hb X l;exact endFo (.ret (.va (.bool b))) F1 X l (Fz.r F1) (by rw [hb]) rfl rfl
 refine fo_of hΘ Tryz.func22 rfl (by decide) _ _ rfl rfl rfl ?_;refine ⟨fun gA=>?_,fun gA=>?_⟩
 rotate_left
 ·refine drawP hΘ mixed (.look 0 (.alt 1 (lk [2,3,4,5,6,7,8,10,11] (.alt 9 (lk [12,13,14,15,17,18] (.alt 16 (.look 19 (.look 20 .done)) .nil)) .nil)) .nil)) [1,2,3] (by kernel_rfl) ?_;refine ⟨rfl,?_⟩;refine useFo d rfl (zaa _) rfl ?_;rintro _ F1 a rfl;refine ⟨a,rfl,rfl,rfl,fun m=>?_,fun m=>?_⟩
  ·exact e false F1 _ _ (Q gA) rfl a
  ·exact e false F1 _ _ (Q gA) rfl a
 refine drawP hΘ mixed (.look 0 (.alt 1 (lk [2,3,4,5,6,7,8,10,11] (.alt 9 (lk [12,13,14,15,17,18] (.alt 16 (.look 19 (.look 20 .done)) .nil)) .nil)) .nil)) [1,2,3] (by kernel_rfl) ?_;refine ⟨rfl,?_⟩;refine useFo d rfl (zaa _) rfl ?_;rintro _ F1 a rfl;refine ⟨a,rfl,rfl,rfl,fun m=>?_,fun m=>?_⟩
 rotate_left
 ·exact e false F1 _ _ (S m) rfl a
 refine ⟨fun I=>?_,fun I=>?_⟩
 rotate_left
 ·exact e false F1 _ _ (e2 I) rfl a
 have q:A.length = 8:=by have:=od gA; omega
 have u:B.length = 8:=by
  have h:decide ((B.length:Int) = 8) = true:=by simpa using I
  have:=od h; omega
 refine ⟨rfl,rfl,?_⟩;refine useFo (D F1 a q) rfl (zaa _) rfl ?_;rintro _ F2 l2 rfl;have m2:=Fz.t a l2;refine ⟨l2,rfl,rfl,rfl,fun V=>?_,fun V=>?_⟩
 rotate_left
 ·exact e false F2 _ _ (T V) rfl m2
 refine ⟨rfl,rfl,?_⟩;refine useFo (E F2 m2 u) rfl (zaa _) rfl ?_;rintro _ F3 l3 rfl;have m3:=Fz.t m2 l3;refine ⟨l3,rfl,rfl,rfl,?_⟩;refine br (fun W=>?_) (fun W=>?_)
 ·exact e false F3 _ _ (U W) rfl m3
 refine za7 2 (fun _=>.cells 34 [.slice ac 0 Z ab 1 A.length aa]) rfl rfl rfl (fun _ _=>rfl) (fun _ _=>SB.bB_ok rfl) ?_;intro O F4 l4 j;refine za7 3 (fun _=>.cells 34 [.slice ag 0 ad af 1 B.length ae]) rfl rfl rfl (fun _ _=>rfl) (fun _ _=>SB.bB_ok rfl) ?_;intro bB F5 l5 k;have m5:=Fz.t m3 (Fz.t l4 l5);refine useFo (f F5 m5 (O 0) (bB 0) q u (by simpa using m) (l5 _ _ (j 0 rfl)) (k 0 rfl)) rfl (zaa _) rfl ?_;rintro _ F6 l6 rfl;exact e _ F6 _ _ (n gA I m V W) rfl (Fz.t m5 l6)
end Go.Proofs.YtfnkamphhpldcaaGreatDoor
namespace Go.Proofs.YtfnkamphhpldcaaGreatDoor
open Go Sx
theorem ybx (n:Int):unz (zig n) = n:=by
 unfold zig unz;split<;>split<;>omega
theorem zzh (z:Nat):putZ z ≠ []:=by
 by_cases h:z < 128
 ·rw [zk6 h]; simp
 ·rw [zr7 h]; simp
theorem zxg (z:Nat):∀ (r:List UInt8) (f i acc:Nat),(putZ z).length ≤ f → ∃ b,decZ (putZ z ++ r) f i acc = some (acc + z * 128 ^ i,i + ((putZ z).length - 1),b) ∧ (b = 0 → z = 0):=by
 induction z using Nat.strongRecOn with
 |_ z ih=>
  intro r f i acc a;by_cases c:z < 128
  ·rw [zk6 c] at a ⊢;obtain ⟨f,rfl⟩:∃ g,f = g + 1:=⟨f - 1,by simp at a; omega⟩
   have e:(UInt8.ofNat z).toNat = z:=by rw [qax]; exact jz (by omega)
   refine ⟨UInt8.ofNat z,?_,fun h=>?_⟩
   ·rw [yh,qw,decZ,if_neg (by rw [e]; omega),e]; rfl
   ·rw [h] at e; exact e.symm
  ·have h1:=ih (z / 128) (by omega);rw [zr7 c] at a ⊢;obtain ⟨f,rfl⟩:∃ g,f = g + 1:=⟨f - 1,by simp at a; omega⟩
   have e:(UInt8.ofNat (z % 128 + 128)).toNat = z % 128 + 128:=by rw [qax]; exact jz (by omega)
   obtain ⟨b,k,l⟩:=h1 r f (i + 1) (acc + (z % 128 + 128) % 128 * 128 ^ i) (by simp at a; omega);have p:0 < (putZ (z / 128)).length:=qa5.2 (zzh _);refine ⟨b,?_,fun o=>?_⟩
   ·rw [yh,decZ,if_pos (by rw [e]; omega),e,k,qc8]
    have d:acc + (z % 128 + 128) % 128 * 128 ^ i + z / 128 * (128 ^ i * 128) = acc + z * 128 ^ i:=by
     have m:z * 128 ^ i = (z % 128 + 128 * (z / 128)) * 128 ^ i:=by rw [Nat.mod_add_div]
     have n:(z % 128 + 128) % 128 = z % 128:=by omega
     rw [m,n,qbm,qbb (128 ^ i) 128,← Nat.mul_assoc,qbb (z / 128) 128];omega
    rw [d,qh];have j:i + 1 + ((putZ (z / 128)).length - 1) = i + ((putZ (z / 128)).length + 1 - 1):=by omega
    rw [j]
   ·have:=l o; omega
def okI (n:Int):Prop:=-4611686018427387903 ≤ n ∧ n ≤ 4611686018427387903
theorem zee {n:Int} (h:okI n):(putIR n).1 = putI n:=by
 unfold okI at h;rw [putIR,if_neg (by omega)]
theorem zi6 (n:Int):putI n ≠ []:=zzh _
theorem zck (a r:List UInt8) {n:Int} (h:okI n):getI (a ++ (putI n ++ r)) (a.length:Nat) = (n,(((a ++ putI n).length:Nat):Int),0):=by
 have f:=zia n h;have g:0 < (putI n).length:=qa5.2 (zi6 n);obtain ⟨b,h1,e⟩:=zxg (zig n) r 9 0 0 f;rw [getI,if_neg (by rw [qd]; omega),qp,qcp];show (match decZ (putZ (zig n) ++ r) 9 0 0 with | none=>_ | some (z,i,b)=>_) = _;rw [h1];have d:0 + zig n * 128 ^ 0 = zig n:=by simp
 simp only [d,ybx];have l:okI n:=h;unfold okI at h;rw [if_neg]
 ·have k:((0 + ((putZ (zig n)).length - 1):Nat):Int) + 1 = (putI n).length:=by
   show ((0 + ((putI n).length - 1):Nat):Int) + 1 = _;omega
  rw [qd];have:(a.length:Int) + ((0 + ((putZ (zig n)).length - 1):Nat):Int) + 1 = ((a.length + (putI n).length:Nat):Int):=by omega
  rw [this]
 ·rintro (⟨h3,c⟩ | h3)
  ·have j:=e h3;rw [j,zk6 (by omega)] at c;simp at c
  ·omega
theorem zjx (a r t:List UInt8) (h:t.length ≤ 65536):getS (a ++ ((putSR t).1 ++ r)) (a.length:Nat) = (t,(((a ++ (putSR t).1).length:Nat):Int),0):=by
 have e:(putSR t).1 = putI t.length ++ t:=by rw [putSR,if_neg (by omega)]
 have b:okI (t.length:Int):=by unfold okI; omega
 rw [e];have f:=zck a (t ++ r) b;rw [ql,getS,f];dsimp only;rw [if_neg (by simp),if_neg]
 ·have c:((((a ++ putI t.length).length:Nat):Int) + (t.length:Int)).toNat = (a ++ putI t.length ++ t).length:=by
   rw [qd (bs:=t)]; omega
  have d:a ++ (putI t.length ++ (t ++ r)) = (a ++ putI t.length ++ t) ++ r:=by simp only [ql]
  rw [c,d,List.take_left,qp,qcp];refine Prod.ext rfl (Prod.ext ?_ rfl);show (((a ++ putI t.length).length:Nat):Int) + (t.length:Int) = _;show _ = (((a ++ (putI t.length ++ t)).length:Nat):Int);simp only [qd]; omega
 ·rintro (h1 | h1 | h1)
  ·omega
  ·omega
  ·simp only [qd] at h1; omega
theorem zy4 (a r:List UInt8) {n c b:Int} (h:okI n) (d:c ≤ n ∧ n ≤ b):zca (a ++ (putI n ++ r)) (a.length:Nat) c b = true:=by
 rw [zb3,zck a r h];exact ⟨rfl,d⟩
theorem z9j {acc:List Int} (a:∀ x ∈ acc,okI x) (k:Nat):okI (acc.getD k 0):=by
 rw [y8];cases h:acc[k]? with
 |none=>show okI 0; unfold okI; omega
 |some x=>exact a x (yw h)
theorem ycb {p:Int} {acc:List Int} (b:∀ x ∈ acc,okI x) {x:Int} (h:(bnd p acc).1 ≤ x ∧ x ≤ (bnd p acc).2):okI x:=by
 unfold bnd at h;have a:=z9j b (acc.length - 2);unfold okI at a ⊢;split at h
 ·dsimp only at h; omega
 split at h
 ·dsimp only at h; omega
 split at h
 ·dsimp only at h; omega
 split at h
 ·dsimp only at h; omega
 ·dsimp only at h; omega
theorem zf7 (x:Int) (r:List Int):zae (x :: r) = (putIR x).1 ++ zae r:=rfl
theorem zqg {p:Int} (r:List UInt8):∀ (n acc:List Int) (a:List UInt8),(∀ x ∈ acc,okI x) → zms p acc n → numsS (a ++ (zae n ++ r)) p n.length acc (a.length:Nat) = some (acc ++ n,(((a ++ zae n).length:Nat):Int))
 |[],acc,a,_,_=>by
  show some (acc,_) = _;simp [zae]
 |x :: n,acc,a,ha,h=>by
  have b:=ycb ha h.1;have ih:=zqg r n (acc ++ [x]) (a ++ putI x) (fun z c=>by rcases ym.1 c with h | h; exact ha z h; rw [qu.1 h]; exact b) h.2;rw [zf7,zee b,ql,qh,numsS,if_pos (zy4 a _ b h.1),zck a _ b];dsimp only;rw [ql] at ih;rw [ih];simp only [ql,qde]
theorem zyi {p:Int} {a:List Ln} {x:Ln} (b r:List UInt8) (h:lnOk p a x):lineS (b ++ (lineW p x ++ r)) p a (b.length:Nat) = some (x,(((b ++ lineW p x).length:Nat):Int)):=by
 unfold lnOk at h;unfold lineS;split at h
 ·rename_i f;obtain ⟨t,n⟩:=x;obtain ⟨h1,c,g⟩:=h;replace h1:n = []:=h1;subst h1;have e:lineW p (t,[]) = (putSR t).1:=by rw [lineW,if_pos f]; exact jm _
  replace c:t.length ≤ 80:=c;rw [if_pos f,e,zjx b r t (by omega)];exact if_pos ⟨rfl,c,g⟩
 ·rename_i f;obtain ⟨t,n⟩:=x;obtain ⟨h1,c,g,i⟩:=h;replace h1:t = []:=h1;subst h1;replace c:n.length = cols p:=c;have e:lineW p ([],n) = zae n:=by rw [lineW,if_neg f]; rfl
  rw [if_neg f,e,← c,zqg r n [] b (fun _ h=>absurd h (by simp)) g];dsimp only;rw [qw];by_cases d:p = 2
  ·rw [if_pos d]
  ·rw [if_neg d];cases j:a.getLast? with
   |none=>rfl
   |some y=>exact if_pos (i d y j)
theorem zmo {p:Int} (r:List UInt8):∀ (l acc:List Ln) (a:List UInt8),lnsOk p acc l → zcn (a ++ ((l.map (lineW p)).flatten ++ r)) p l.length acc (a.length:Nat) = some (acc ++ l,(((a ++ (l.map (lineW p)).flatten).length:Nat):Int))
 |[],acc,a,_=>by
  show some (acc,_) = _;simp
 |x :: l,acc,a,h=>by
  have ih:=zmo r l (acc ++ [x]) (a ++ lineW p x) h.2;rw [qv,jw,ql,qh,zcn,zyi a _ h.1];dsimp only;rw [ql] at ih;rw [ih];simp only [ql,qde]
theorem zqe {n:Int} (h:okI n):zae [n] = putI n:=by
 rw [zf7,zee h]; exact jm _
theorem zkz {n m:Int} (h:okI n) (a:okI m):zae [n,m] = putI n ++ putI m:=by
 rw [zf7,zee h,zqe a]
theorem zv6 {p:Int} {v:Val} (y:1 ≤ p ∧ p ≤ 8) (c:VOK p v):readS p (zbt p v) = some v:=by
 rcases c with rfl | ⟨o,c⟩
 ·have e:zbt p loseV = []:=if_pos rfl;rw [e,readS,if_neg (by omega),if_pos rfl]; rfl
 obtain ⟨m,L,w,h,bits⟩:=v;replace o:m = false:=o;subst o;dsimp only at c;by_cases i:p = 8
 ·rw [if_pos i] at c;obtain ⟨rfl,rfl,l,n⟩:=c;have f:okI w:=by unfold okI; omega
  have d:okI h:=by unfold okI; omega
  have e:zbt p ⟨false,[],w,h,[]⟩ = putI w ++ putI h:=by
   rw [zbt,if_neg (by simp),if_pos (by omega),if_neg (by omega),jm,zkz f d]
  have a:=zck [] (putI h) f;have b:=zck (putI w) [] d;rw [qw,qw] at a;rw [jm] at b;replace a:getI (putI w ++ putI h) 0 = (w,((putI w).length:Int),0):=a;rw [e,readS,if_neg (by omega),if_neg (by simp [zi6]),if_pos i,a];dsimp only;rw [b,if_pos];exact ⟨zb3.2 (by rw [a]; exact ⟨rfl,l⟩),zb3.2 (by rw [b]; exact ⟨rfl,n⟩),rfl⟩
 rw [if_neg i] at c;by_cases g:6 ≤ p
 ·rw [if_pos g] at c;obtain ⟨rfl,l,n,k⟩:=c;have f:okI w:=by unfold okI; omega
  have d:okI h:=by unfold okI; omega
  by_cases j:p = 7
  ·rw [if_pos j] at k
   have q:bits.length ≤ 65536:=by
    have x:w * h ≤ 32 * h:=qcc l.2 (by omega);omega
   have e:zbt p ⟨false,[],w,h,bits⟩ = putI w ++ (putI h ++ (putSR bits).1):=by
    rw [zbt,if_neg (by simp),if_pos (by omega),if_pos j,zkz f d,ql]
   have a:=zck [] (putI h ++ (putSR bits).1) f;have b:=zck (putI w) (putSR bits).1 d;have s:=zjx (putI w ++ putI h) [] bits q;rw [qw,qw] at a;rw [jm,ql (putI w)] at s;replace a:getI (putI w ++ (putI h ++ (putSR bits).1)) 0 = (w,((putI w).length:Int),0):=a;rw [e,readS,if_neg (by omega),if_neg (by simp [zi6]),if_neg i,if_pos g,a];dsimp only;rw [b];dsimp only;rw [if_pos ⟨zb3.2 (by rw [a]; exact ⟨rfl,l⟩),zb3.2 (by rw [b]; exact ⟨rfl,n⟩)⟩,if_pos j,s];exact if_pos ⟨rfl,k.1,k.2,by simp only [ql]⟩
  ·rw [if_neg j] at k;subst k
   have e:zbt p ⟨false,[],w,h,[]⟩ = putI w ++ putI h:=by
    rw [zbt,if_neg (by simp),if_pos (by omega),if_neg (by omega),jm,zkz f d]
   have a:=zck [] (putI h) f;have b:=zck (putI w) [] d;rw [qw,qw] at a;rw [jm] at b;replace a:getI (putI w ++ putI h) 0 = (w,((putI w).length:Int),0):=a;rw [e,readS,if_neg (by omega),if_neg (by simp [zi6]),if_neg i,if_pos g,a];dsimp only;rw [b];dsimp only;rw [if_pos ⟨zb3.2 (by rw [a]; exact ⟨rfl,l⟩),zb3.2 (by rw [b]; exact ⟨rfl,n⟩)⟩,if_neg j];exact if_pos rfl
 ·rw [if_neg g] at c;obtain ⟨rfl,rfl,rfl,o,u⟩:=c;have on:okI (L.length:Int):=by unfold okI; omega
  have e:zbt p ⟨false,L,0,0,[]⟩ = putI L.length ++ (L.map (lineW p)).flatten:=by
   rw [zbt,if_neg (by simp),if_neg g,zqe on]
  have a:=zck [] ((L.map (lineW p)).flatten) on;have b:=zmo [] L [] (putI L.length) u;rw [qw,qw] at a;rw [jm] at b;replace a:getI (putI L.length ++ (L.map (lineW p)).flatten) 0 = ((L.length:Int),((putI L.length).length:Int),0):=a;rw [e,readS,if_neg (by omega),if_neg (by simp [zi6]),if_neg i,if_neg g,if_pos (zb3.2 (by rw [a]; exact ⟨rfl,by dsimp only; omega,by dsimp only; omega⟩)),a];dsimp only;rw [qp,b];dsimp only;rw [qw];exact if_pos rfl
def nfs (p:Int):List (List Stp):=
 [(6,0)] :: if p = 1 then [[],[(1,0)],[(2,0)],[(1,0),(2,0)]]
 else if p = 2 then [[],[(4,0)],[(4,1)],[(4,2)],[(4,3)],[(4,4)],[(4,5)],[(4,6)]]
 else if p = 3 ∨ p = 5 then [[],[(3,10)],[(3,100)],[(3,1000)]]
 else if p = 6 ∨ p = 7 then [[],[(5,0)],[(5,0),(5,0)],[(5,0),(5,0),(5,0)],[(5,0),(5,0),(5,0),(5,0)],[(5,0),(5,0),(5,0),(5,0),(5,0)]]
 else [[]]
def sts (p:Int):List Stp:=
 (6,0) :: if p = 1 then [(1,0),(2,0)] else if p = 2 then [(4,0),(4,1),(4,2),(4,3),(4,4),(4,5),(4,6)] else if p = 3 ∨ p = 5 then [(3,10),(3,100),(3,1000)] else if p = 6 ∨ p = 7 then [(5,0)] else []
theorem p8 {p:Int} (a:1 ≤ p ∧ p ≤ 8):p = 1 ∨ p = 2 ∨ p = 3 ∨ p = 4 ∨ p = 5 ∨ p = 6 ∨ p = 7 ∨ p = 8:=by omega
theorem z90 {p:Int} {s:Stp} (a:1 ≤ p ∧ p ≤ 8) (h:zbs p s = true):s ∈ sts p:=by
 obtain ⟨k,n⟩:=s;rcases zcs a h with ⟨rfl,rfl,rfl⟩ | ⟨rfl,rfl,rfl⟩ | ⟨rfl,rfl | rfl,rfl | rfl | rfl⟩ | ⟨rfl,rfl,b⟩ | ⟨rfl,rfl | rfl,rfl⟩ | ⟨rfl,rfl⟩
 case inr.inr.inr.inl=>
  have:n = 0 ∨ n = 1 ∨ n = 2 ∨ n = 3 ∨ n = 4 ∨ n = 5 ∨ n = 6:=by omega
  rcases this with rfl | rfl | rfl | rfl | rfl | rfl | rfl<;>decide
 case inr.inr.inr.inr.inr=>simp [sts]
 all_goals decide
theorem z2s {p:Int} (a:1 ≤ p ∧ p ≤ 8):∀ m ∈ nfs p,∀ s ∈ sts p,normS (m ++ [s]) ∈ nfs p:=by
 rcases p8 a with rfl | rfl | rfl | rfl | rfl | rfl | rfl | rfl<;>decide +kernel
theorem zy2 (l:List Stp):normS (normS l) = normS l:=by
 have h:=zky l [];rw [show normS [] = [] from rfl,jm,jm] at h;exact h
theorem zy3 (l:List Stp) (s:Stp):normS (normS l ++ [s]) = normS (l ++ [s]):=by
 have h1:=zky l [s];have a:=zky (normS l) [s];rw [zy2,h1] at a;exact a.symm
theorem z3u {α:Type} {P:List α → Prop} (a:P []) (h1:∀ l x,P l → P (l ++ [x])) (l:List α):P l:=by
 have:∀ n,n ≤ l.length → P (l.take n):=by
  intro n
  induction n with
  |zero=>intro _; exact a
  |succ n ih=>
   intro h;rw [qg (by omega)];exact h1 _ _ (ih (by omega))
 have h:=this l.length (qm _)
 rwa [yu] at h
theorem z2t {p:Int} (a:1 ≤ p ∧ p ≤ 8) (l:List Stp):(∀ s ∈ l,zbs p s = true) → normS l ∈ nfs p:=by
 refine z3u (P:=fun l=>(∀ s ∈ l,zbs p s = true) → normS l ∈ nfs p) ?_ ?_ l
 ·intro _;rcases p8 a with rfl | rfl | rfl | rfl | rfl | rfl | rfl | rfl<;>decide +kernel
 ·intro l x ih h;rw [← zy3];exact z2s a _ (ih fun s b=>h s (qa0 _ b)) _ (z90 a (h x (by simp)))
end Go.Proofs.YtfnkamphhpldcaaGreatDoor
