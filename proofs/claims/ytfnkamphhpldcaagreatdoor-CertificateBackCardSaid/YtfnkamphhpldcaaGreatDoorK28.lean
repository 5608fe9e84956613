import Derived.Test.YtfnkamphhpldcaaGreatDoorK27
import Derived.Test.YtfnkamphhpldcaaGreatDoorK19
import Derived.Test.YtfnkamphhpldcaaGreatDoorK25
set_option maxHeartbeats 64000000
namespace Go.Proofs.YtfnkamphhpldcaaGreatDoor
open Go Sx
set_option maxRecDepth 100000
def wsOf (s:Stk):List (List UInt8):=(s.map (·.1)).reverse
def nsOf (s:Stk):List Int:=(s.map fun x=>(x.2:Int)).reverse
theorem zdj (x:List UInt8 × Nat) (s:Stk):wsOf (x :: s) = wsOf s ++ [x.1]:=by simp [wsOf]
theorem zdk (x:List UInt8 × Nat) (s:Stk):nsOf (x :: s) = nsOf s ++ [(x.2:Int)]:=by simp [nsOf]
theorem zfm (s:Stk):(wsOf s).length = s.length:=by simp [wsOf]
theorem zi0 (s:Stk):(nsOf s).length = s.length:=by simp [nsOf]
theorem z5s (x:List UInt8 × Nat) (s:Stk):wsOf (x :: s) ≠ []:=fun h=>absurd (congrArg List.length h) (by simp [wsOf])
theorem z3b (x:List UInt8 × Nat) (s:Stk):nsOf (x :: s) ≠ []:=fun h=>absurd (congrArg List.length h) (by simp [nsOf])
theorem zvv {α:Type} {l:List α} (d:α) (h:l ≠ []):l = l.headD d :: l.tail:=by
 cases l with
 |nil=>exact absurd rfl h
 |cons _ _=>rfl
theorem zb6:Plain encI:=fun x=>⟨fun μ=>rfl,fun a ha=>by simp only [encI,qy] at ha; subst ha; trivial⟩
theorem zbz:Plain encS:=fun x=>⟨fun μ=>rfl,fun a ha=>by simp only [encS,qy] at ha; subst ha; trivial⟩
theorem znb:∀ (f:Nat) (s:Stk),(mergeK f s).length ≤ s.length
 |0,_=>qf _
 |f + 1,[]=>qf _
 |f + 1,[_]=>qf _
 |f + 1,(b,n) :: (a,m) :: r=>by
  rw [mergeK]
  split
  ·exact jk (znb f _) (by simp)
  ·exact qf _
theorem zw5 (l:List (List UInt8)):(stackF l).length ≤ l.length:=by
 have h:∀ (l:List (List UInt8)) (s:Stk),(l.foldl pushS s).length ≤ l.length + s.length:=by
  intro l
  induction l with
  |nil=>intro s; simp
  |cons x r ih=>
   intro s
   have h1:=ih (pushS s x)
   have h2:(pushS s x).length ≤ s.length + 1:=znb _ _
   simp only [y4,qe] at *
   omega
 have:=h l []
 simpa [stackF] using this
structure RI1 (l:List (List UInt8)) (k:Nat) (W:List (List UInt8)) (S:List Int):Prop where
 le:k ≤ l.length
 w:W = wsOf (stackF (l.take k))
 s:S = nsOf (stackF (l.take k))
theorem z5e (F:Fz) (hR:RNDF F) (sa:SA) (l:List (List UInt8)) (ha:Sl F 9 1 encS sa l) (hl:l.length = 8) (hk:∀ x ∈ l,x.length ≤ 900000000000) (R:List UInt8) (hRt:stackF l = [(R,8)]) :
  Fo Tryz.prog F 52 [.va sa] (fun o _=>o = .ret (.va (.str R))):=by
 obtain ⟨han,hab,hae,hac,haL,har,rfl,ha1,ha2,ha3,ha4⟩:=ha
 refine z15 hΘ Tryz.func52 rfl (by decide) _ _ rfl rfl rfl ?_;conv=>whnf
 refine zan hΘ (X:={ x:Nat × List (List UInt8) × List Int × Nat × Nat // RI1 l x.1 x.2.1 x.2.2.1 }) (fun x=>[(3,.va (gA 1 1 x.1.2.2.2.1 x.1.2.1)),(4,.va (gA 1 2 x.1.2.2.2.2 x.1.2.2.1)),(13,.va (.int .i64 x.1.1))]) [6,7,14,15,16,17,18,19,20,21,22,23,24,25,26,27,28,29,30,31,32,33,34,35,36,37,38,39,40,41,42,43,44,45,46,47,48,49,50,51,52,53,54,55,56,57,58,59,60,61,62,63,64,65,66,67,68,69,70,71,72,73]
  (fun x=>[(0,.frz F),(1,gE 9 1 encS x.1.2.2.2.1 x.1.2.1),(2,gE 3 1 encI x.1.2.2.2.2 x.1.2.2.1)]) 3 (fun x=>8 - x.1.1) ⟨(0,[],[],0,0),⟨yq _,rfl,rfl⟩⟩
  (fun hH hT=>leI [(1,1),(2,2)] hH hT rfl ⟨tv,zai zbz _ _ _ _ _,zai zb6 _ _ _ _ _,tv⟩ ⟨rfl,rfl,rfl,tv⟩ ⟨Fz.r F,rfl,rfl,tv⟩) ?_
 rintro ⟨⟨k,W,S,c,d⟩,hk1,hW,hS⟩ hH hT
 replace hk1:k ≤ l.length:=hk1
 replace hW:W = wsOf (stackF (l.take k)):=hW
 replace hS:S = nsOf (stackF (l.take k)):=hS
 have hlen:S.length = W.length:=by rw [hS,hW,zfm,zi0]
 by_cases g:k < l.length
 ·have hx:=hk l[k] (jj g)
  conv=>whnf
  refine br (fun _=>?_) (fun h=>absurd h (by simp; omega));conv=>whnf
  refine ⟨Sl.lt ha1 g,⟨by simp,by simpa using g⟩,?_⟩;conv=>whnf
  refine ⟨_,ha2 (Sl.lt ha1 g),?_⟩;conv=>whnf
  refine ⟨_,Sl.at ha4 g,?_⟩;conv=>whnf
  refine useFo (z4j F hR l[k] hx) rfl (zaa _) rfl ?_
  rintro _ F1 l1 rfl
  have hmg:merge ((leafS l[k],1) :: stackF (l.take k)) = stackF (l.take (k + 1)):=by rw [qi g,zp1]
  have hgd0:Gd (k + 1) ((leafS l[k],1) :: stackF (l.take k)):=by have h:=Gd.stackF (l.take k); rw [qn,qag hk1] at h; exact h.leaf _
  have hW8:W.length ≤ 8:=by rw [hW,zfm]; exact jk (zw5 _) (by rw [qn]; omega)
  have hWS:(W = [] ∧ S = []) ∨ ∃ w0 wr n0 nr,W = w0 :: wr ∧ S = n0 :: nr ∧ nr.length + 1 = wr.length + 1 ∧ wr.length + 1 ≤ 8:=by
   rcases W with _ | ⟨w0,wr⟩<;>rcases S with _ | ⟨n0,nr⟩
   ·exact .inl ⟨rfl,rfl⟩
   ·exact absurd hlen (by simp)
   ·exact absurd hlen (by simp)
   ·exact .inr ⟨w0,wr,n0,nr,rfl,rfl,hlen,hW8⟩
  refine Or.elim hWS (fun h=>?A) (fun h=>?B)
  case' A=>
   obtain ⟨hW0,hS0⟩:=h
   subst hW0
   subst hS0
   replace hW:[] = wsOf (stackF (l.take k)):=hW
   have hrow:∀ (μ:Mu) (c:Nat),SB.arr 9 1 ([] ++ [encS (leafS l[k])]) c = (SB.arr 9 1 ((wsOf ((leafS l[k],1) :: stackF (l.take k))).map encS) c).ren μ:=fun μ c=>by
    rw [zcu zbz rfl,zdj,← hW]; simp
   have hrow2:∀ (μ:Mu) (c:Nat),SB.arr 3 1 ([] ++ [encI 1]) c = (SB.arr 3 1 ((nsOf ((leafS l[k],1) :: stackF (l.take k))).map encI) c).ren μ:=fun μ c=>by
    rw [zcu zb6 rfl,zdk,← hS]; simp
   have hsl:((leafS l[k],1) :: stackF (l.take k)).length = 1:=by rw [qe,← zfm,← hW]; rfl
   conv=>whnf
   refine ⟨nb rfl,[encS (leafS l[k])],rfl,?_⟩;conv=>whnf
   refine ⟨rfl,rfl,?_⟩
   refine ⟨nb rfl,fun c1 h1=>?_⟩;conv=>whnf
   refine ⟨nb rfl,[encI 1],rfl,?_⟩;conv=>whnf
   refine ⟨rfl,rfl,?_⟩
   refine ⟨nb rfl,fun d1 g1=>?_⟩;conv=>whnf
   refine zan hΘ (X:={ x:Stk × Nat × Nat // x.1 ≠ [] ∧ merge x.1 = stackF (l.take (k + 1)) ∧ x.1.length ≤ 9 ∧ Gd (k + 1) x.1 ∧ x.1.length ≤ x.2.1 ∧ x.1.length ≤ x.2.2 }) (fun x=>[(3,.va (.slice false 7 0 0 1 x.1.1.length x.1.2.1)),(4,.va (.slice false 8 0 0 1 x.1.1.length x.1.2.2)),(7,.va (.int .i64 x.1.1.length))]) [27,28,29,30,31,32,33,34,35,36,37,38,39,40,41,42,43,44,45,46,47,48,49,50,51,52,53,54,55,56,57,58,59,60,61,62,63,64,65,66,67,68,69,70,71,72]
    (fun x=>[(0,.frz F1),(4,.gone),(6,.gone),(7,.one (.arr 9 1 ((wsOf x.1.1).map encS) x.1.2.1)),(8,.one (.arr 3 1 ((nsOf x.1.1).map encI) x.1.2.2))]) 9 (fun x=>x.1.1.length) ⟨((leafS l[k],1) :: stackF (l.take k),c1,d1),by simp,hmg,by rw [hsl]; omega,hgd0,by show ((leafS l[k],1) :: stackF (l.take k)).length ≤ c1; rw [hsl]; exact h1,by show ((leafS l[k],1) :: stackF (l.take k)).length ≤ d1; rw [hsl]; exact g1⟩
    (fun hH hT=>leI [(7,4),(8,6)] hH hT rfl ⟨tv,tv,tv,zbk zbz 9 1 9 c1 (wsOf ((leafS l[k],1) :: stackF (l.take k))),zbk zb6 3 1 9 d1 (nsOf ((leafS l[k],1) :: stackF (l.take k))),tv⟩ ⟨⟨rfl,hsl,rfl,.inr ⟨rfl,rfl,rfl,rfl⟩⟩,⟨rfl,hsl,rfl,.inr ⟨rfl,rfl,rfl,rfl⟩⟩,eu (by rw [hsl]; rfl),tv⟩ ⟨Fz.r F1,hrow _ c1,hrow2 _ d1,tv⟩) ?_
  case' B=>
   obtain ⟨w0,wr,n0,nr,hW0,hS0,hlen,hW8⟩:=h
   subst hW0
   subst hS0
   have hrow:∀ (μ:Mu) (c:Nat),SB.arr 9 1 ((w0 :: wr).map encS ++ [encS (leafS l[k])]) c = (SB.arr 9 1 ((wsOf ((leafS l[k],1) :: stackF (l.take k))).map encS) c).ren μ:=fun μ c=>by
    rw [zcu zbz rfl,zdj,← hW]; simp
   have hrow2:∀ (μ:Mu) (c:Nat),SB.arr 3 1 ((n0 :: nr).map encI ++ [encI 1]) c = (SB.arr 3 1 ((nsOf ((leafS l[k],1) :: stackF (l.take k))).map encI) c).ren μ:=fun μ c=>by
    rw [zcu zb6 rfl,zdk,← hS]; simp
   have hsl:((leafS l[k],1) :: stackF (l.take k)).length = wr.length + 1 + 1:=by rw [qe,← zfm,← hW]; rfl
   conv=>whnf
   refine ⟨nb rfl,[encS (leafS l[k])],rfl,?_⟩;conv=>whnf
   refine ⟨rfl,rfl,by simp,rfl,by show (wr.length + 1 + 1) * 16 ≤ _; omega,fun c1 h1=>?_⟩;conv=>whnf
   refine ⟨nb rfl,[encI 1],rfl,?_⟩;conv=>whnf
   refine ⟨rfl,rfl,by simp,rfl,by show (nr.length + 1 + 1) * 8 ≤ _; omega,fun d1 g1=>?_⟩;conv=>whnf
   refine zan hΘ (X:={ x:Stk × Nat × Nat // x.1 ≠ [] ∧ merge x.1 = stackF (l.take (k + 1)) ∧ x.1.length ≤ 9 ∧ Gd (k + 1) x.1 ∧ x.1.length ≤ x.2.1 ∧ x.1.length ≤ x.2.2 }) (fun x=>[(3,.va (.slice false 7 0 0 1 x.1.1.length x.1.2.1)),(4,.va (.slice false 8 0 0 1 x.1.1.length x.1.2.2)),(7,.va (.int .i64 x.1.1.length))]) [27,28,29,30,31,32,33,34,35,36,37,38,39,40,41,42,43,44,45,46,47,48,49,50,51,52,53,54,55,56,57,58,59,60,61,62,63,64,65,66,67,68,69,70,71,72]
    (fun x=>[(0,.frz F1),(4,.gone),(6,.gone),(7,.one (.arr 9 1 ((wsOf x.1.1).map encS) x.1.2.1)),(8,.one (.arr 3 1 ((nsOf x.1.1).map encI) x.1.2.2))]) 9 (fun x=>x.1.1.length) ⟨((leafS l[k],1) :: stackF (l.take k),c1,d1),by simp,hmg,by rw [hsl]; omega,hgd0,by show ((leafS l[k],1) :: stackF (l.take k)).length ≤ c1; rw [hsl]; exact h1,by show ((leafS l[k],1) :: stackF (l.take k)).length ≤ d1; rw [hsl]; have g2:nr.length + 1 + 1 ≤ d1:=g1; omega⟩
    (fun hH hT=>leI [(7,4),(8,6)] hH hT rfl ⟨tv,tv,tv,zbk zbz 9 1 9 c1 (wsOf ((leafS l[k],1) :: stackF (l.take k))),zbk zb6 3 1 9 d1 (nsOf ((leafS l[k],1) :: stackF (l.take k))),tv⟩ ⟨⟨rfl,hsl,rfl,.inr ⟨rfl,rfl,rfl,rfl⟩⟩,⟨rfl,(by rw [hsl]; show wr.length + 1 + 1 = nr.length + 1 + 1; omega),rfl,.inr ⟨rfl,rfl,rfl,rfl⟩⟩,eu (by rw [hsl]; show ((wr.length + 1 + 1:Nat):Int) = ((nr.length + 1 + 1:Nat):Int); omega),tv⟩ ⟨Fz.r F1,hrow _ c1,hrow2 _ d1,tv⟩) ?_
  all_goals
   rintro ⟨⟨x,c2,d2⟩,hx0,hxm,hx9,hgd,hxc,hxd⟩ hH2 hT2
   replace hx0:x ≠ []:=hx0
   replace hxm:merge x = stackF (l.take (k + 1)):=hxm
   replace hx9:x.length ≤ 9:=hx9
   replace hgd:Gd (k + 1) x:=hgd
   replace hxc:x.length ≤ c2:=hxc
   replace hxd:x.length ≤ d2:=hxd
   rcases x with _ | ⟨⟨b,n⟩,_ | ⟨⟨a,m⟩,r⟩⟩
   ·exact absurd rfl hx0
   ·have e1a:∀ (μ:Mu) (c:Nat),SB.arr 9 1 ((wsOf [(b,n)]).map encS) c = (SB.arr 9 1 ([b].map encS) c).ren μ:=fun μ c=>by rw [zcu zbz rfl]; rfl
    have e1b:∀ (μ:Mu) (c:Nat),SB.arr 3 1 ((nsOf [(b,n)]).map encI) c = (SB.arr 3 1 ([(n:Int)].map encI) c).ren μ:=fun μ c=>by rw [zcu zb6 rfl]; rfl
    have he1:stackF (l.take (k + 1)) = [(b,n)]:=hxm.symm
    have hri:RI1 l (k + 1) [b] [(n:Int)]:=⟨g,by rw [he1]; rfl,by rw [he1]; rfl⟩
    have hdec:8 - (k + 1) < 8 - k:=by omega
    have hk62:k < 4611686018427387904:=by omega
    conv=>whnf
    refine drawP hΘ mixed (lk [0,1,2,3,4,5,6,7,8,9,10,11,12,13,14] .done) [8] (by kernel_rfl) ?_;conv=>whnf
    refine gaf (by simp) ?_;conv=>whnf
    exact ⟨⟨(k + 1,[b],[(n:Int)],c2,d2),hri⟩,hdec,leRn [_,_,_] [_,_] [(1,7),(2,8)] hH hT rfl ⟨tv,zai zbz _ _ _ _ _,zai zb6 _ _ _ _ _,tv⟩ ⟨⟨rfl,rfl,rfl,.inr ⟨rfl,rfl,rfl,rfl⟩⟩,⟨rfl,rfl,rfl,.inr ⟨rfl,rfl,rfl,rfl⟩⟩,cnt hk62,tv⟩ ⟨l1,e1a _ c2,e1b _ d2,tv⟩⟩
   ·have hnr:(nsOf ((b,n) :: (a,m) :: r))[r.length]? = some (m:Int):=by rw [zdk,zdk]; simp [nsOf]
    have hnr1:(nsOf ((b,n) :: (a,m) :: r))[r.length + 1]? = some (n:Int):=by rw [zdk,zdk]; simp [nsOf]
    have hw:wsOf ((b,n) :: (a,m) :: r) = ((wsOf ((b,n) :: (a,m) :: r)).headD [] :: (wsOf ((b,n) :: (a,m) :: r)).tail):=zvv [] (z5s _ _)
    have hn:nsOf ((b,n) :: (a,m) :: r) = ((nsOf ((b,n) :: (a,m) :: r)).headD 0 :: (nsOf ((b,n) :: (a,m) :: r)).tail):=zvv 0 (z3b _ _)
    have e1a:∀ (μ:Mu) (c:Nat),SB.arr 9 1 ((wsOf ((b,n) :: (a,m) :: r)).map encS) c = (SB.arr 9 1 (((wsOf ((b,n) :: (a,m) :: r)).headD [] :: (wsOf ((b,n) :: (a,m) :: r)).tail).map encS) c).ren μ:=fun μ c=>by rw [← hw]; exact (zcu zbz rfl _ _ _ _).symm
    have e1b:∀ (μ:Mu) (c:Nat),SB.arr 3 1 ((nsOf ((b,n) :: (a,m) :: r)).map encI) c = (SB.arr 3 1 (((nsOf ((b,n) :: (a,m) :: r)).headD 0 :: (nsOf ((b,n) :: (a,m) :: r)).tail).map encI) c).ren μ:=fun μ c=>by rw [← hn]; exact (zcu zb6 rfl _ _ _ _).symm
    have hwl:(wsOf ((b,n) :: (a,m) :: r)).tail.length + 1 = r.length + 1 + 1:=by have h:=congrArg List.length hw; rw [zfm] at h; exact h.symm
    have hnl:(nsOf ((b,n) :: (a,m) :: r)).tail.length + 1 = r.length + 1 + 1:=by have h:=congrArg List.length hn; rw [zi0] at h; exact h.symm
    have hla:a.length ≤ 100000000000:=by rw [hgd.1 (a,m) (by simp)]; decide
    have hlb:b.length ≤ 100000000000:=by rw [hgd.1 (b,n) (by simp)]; decide
    have hno:decide ((m:Int) = (n:Int)) = false → RI1 l (k + 1) ((wsOf ((b,n) :: (a,m) :: r)).headD [] :: (wsOf ((b,n) :: (a,m) :: r)).tail) ((nsOf ((b,n) :: (a,m) :: r)).headD 0 :: (nsOf ((b,n) :: (a,m) :: r)).tail):=fun h=>by
     have he:stackF (l.take (k + 1)) = ((b,n) :: (a,m) :: r):=by rw [← hxm]; exact zhy (fun e=>absurd (oe h) (by simp [e]))
     exact ⟨g,by rw [he,← hw],by rw [he,← hn]⟩
    have hdec:8 - (k + 1) < 8 - k:=by omega
    have hk62:k < 4611686018427387904:=by omega
    replace hx9:r.length + 1 + 1 ≤ 9:=hx9
    replace hxc:r.length + 1 + 1 ≤ c2:=hxc
    replace hxd:r.length + 1 + 1 ≤ d2:=hxd
    have e2:IntKind.i64.wrap (((r.length + 1 + 1:Nat):Int) - 2) = ((r.length:Nat):Int):=by rw [zal (by omega) (by omega)]; omega
    have e1:IntKind.i64.wrap (((r.length + 1 + 1:Nat):Int) - 1) = ((r.length + 1:Nat):Int):=by rw [zal (by omega) (by omega)]; omega
    have q2:0 ≤ IntKind.i64.wrap (((r.length + 1 + 1:Nat):Int) - 2) ∧ IntKind.i64.wrap (((r.length + 1 + 1:Nat):Int) - 2) < ((r.length + 1 + 1:Nat):Int):=by rw [e2]; omega
    have q1:0 ≤ IntKind.i64.wrap (((r.length + 1 + 1:Nat):Int) - 1) ∧ IntKind.i64.wrap (((r.length + 1 + 1:Nat):Int) - 1) < ((r.length + 1 + 1:Nat):Int):=by rw [e1]; omega
    have p2:0 ≤ IntKind.i64.wrap (((r.length + 1 + 1:Nat):Int) - 2) ∧ IntKind.i64.wrap (((r.length + 1 + 1:Nat):Int) - 2) ≤ (c2:Int):=by rw [e2]; omega
    have p3:0 ≤ IntKind.i64.wrap (((r.length + 1 + 1:Nat):Int) - 2) ∧ IntKind.i64.wrap (((r.length + 1 + 1:Nat):Int) - 2) ≤ (d2:Int):=by rw [e2]; omega
    have gm:((nsOf ((b,n) :: (a,m) :: r)).map encI)[0 + (IntKind.i64.wrap (((r.length + 1 + 1:Nat):Int) - 2)).toNat]? = some (encI m):=by rw [e2,ql,ji,qs,hnr]; rfl
    have gn:((nsOf ((b,n) :: (a,m) :: r)).map encI)[0 + (IntKind.i64.wrap (((r.length + 1 + 1:Nat):Int) - 1)).toNat]? = some (encI n):=by rw [e1,ql,ji,qs,hnr1]; rfl
    have hwa:(wsOf ((b,n) :: (a,m) :: r))[r.length]? = some a:=by rw [zdj,zdj]; simp [wsOf]
    have hwb:(wsOf ((b,n) :: (a,m) :: r))[r.length + 1]? = some b:=by rw [zdj,zdj]; simp [wsOf]
    have ga:((wsOf ((b,n) :: (a,m) :: r)).map encS)[0 + (IntKind.i64.wrap (((r.length + 1 + 1:Nat):Int) - 2)).toNat]? = some (encS a):=by rw [e2,ql,ji,qs,hwa]; rfl
    have gb:((wsOf ((b,n) :: (a,m) :: r)).map encS)[0 + (IntKind.i64.wrap (((r.length + 1 + 1:Nat):Int) - 1)).toNat]? = some (encS b):=by rw [e1,ql,ji,qs,hwb]; rfl
    have ht:((wsOf ((b,n) :: (a,m) :: r)).map encS).take r.length = (wsOf r).map encS:=by rw [zdj,zdj,qk,q5,qcv (by rw [qb,zfm])]
    have ht1:((nsOf ((b,n) :: (a,m) :: r)).map encI).take r.length = (nsOf r).map encI:=by rw [zdk,zdk,qk,q5,qcv (by rw [qb,zi0])]
    have hn8:decide ((m:Int) = (n:Int)) = true → m = n ∧ 2 * n ≤ 8:=fun h=>by
     have h1:m = n:=by have:=od h; omega
     have h2:=hgd.2
     simp only [qx,qc4] at h2
     exact ⟨h1,by omega⟩
    have hyes:decide ((m:Int) = (n:Int)) = true → ∀ c3 d3,(IntKind.i64.wrap (((r.length + 1 + 1:Nat):Int) - 2)).toNat - 0 + [encS (nodeS a b)].length ≤ c3 → (IntKind.i64.wrap (((r.length + 1 + 1:Nat):Int) - 2)).toNat - 0 + [encI (IntKind.i64.wrap (2 * (n:Int)))].length ≤ d3 →
      ((nodeS a b,2 * n) :: r) ≠ [] ∧ merge ((nodeS a b,2 * n) :: r) = stackF (l.take (k + 1)) ∧ ((nodeS a b,2 * n) :: r).length ≤ 9 ∧ Gd (k + 1) ((nodeS a b,2 * n) :: r) ∧ ((nodeS a b,2 * n) :: r).length ≤ c3 ∧ ((nodeS a b,2 * n) :: r).length ≤ d3:=fun h c3 d3 h3 h4=>by
     have hm:=(hn8 h).1
     rw [e2] at h3 h4
     refine ⟨by simp,(zd1 hm).symm.trans hxm,by rw [qe]; omega,hgd.join hm,?_,?_⟩
     ·rw [qe]; simpa using h3
     ·rw [qe]; simpa using h4
    have hdec2:((nodeS a b,2 * n) :: r).length < ((b,n) :: (a,m) :: r).length:=by simp
    have n3:((nodeS a b,2 * n) :: r).length = (IntKind.i64.wrap (((r.length + 1 + 1:Nat):Int) - 2)).toNat - 0 + [encS (nodeS a b)].length:=by rw [e2]; simp
    have n4:((nodeS a b,2 * n) :: r).length = (IntKind.i64.wrap (((r.length + 1 + 1:Nat):Int) - 2)).toNat - 0 + [encI (IntKind.i64.wrap (2 * (n:Int)))].length:=by rw [e2]; simp
    have n5:((((nodeS a b,2 * n) :: r).length:Nat):Int) = IntKind.i64.wrap (((r.length + 1 + 1:Nat):Int) - 1):=by rw [e1]; rfl
    have e3a:∀ (μ:Mu) (c:Nat),SB.arr 9 1 (((wsOf ((b,n) :: (a,m) :: r)).map encS).take ((IntKind.i64.wrap (((r.length + 1 + 1:Nat):Int) - 2)).toNat - 0) ++ [encS (nodeS a b)]) c = (SB.arr 9 1 ((wsOf ((nodeS a b,2 * n) :: r)).map encS) c).ren μ:=fun μ c=>by
     rw [zcu zbz rfl,e2,ql,qak,ht,zdj,q5]; rfl
    have e3b:∀ (μ:Mu) (c:Nat),IntKind.i64.wrap (2 * (n:Int)) = ((2 * n:Nat):Int) → SB.arr 3 1 (((nsOf ((b,n) :: (a,m) :: r)).map encI).take ((IntKind.i64.wrap (((r.length + 1 + 1:Nat):Int) - 2)).toNat - 0) ++ [encI (IntKind.i64.wrap (2 * (n:Int)))]) c = (SB.arr 3 1 ((nsOf ((nodeS a b,2 * n) :: r)).map encI) c).ren μ:=fun μ c h=>by
     rw [zcu zb6 rfl,e2,ql,qak,ht1,zdk,q5,h]; rfl
    have hw2:decide ((m:Int) = (n:Int)) = true → IntKind.i64.wrap (2 * (n:Int)) = ((2 * n:Nat):Int):=fun h=>by
     have:=(hn8 h).2
     rw [zal (by omega) (by omega)]; omega
    have f0:(if c2 = 0 then 0 else 0 + 0) = 0:=by split<;>rfl
    have f1:(if d2 = 0 then 0 else 0 + 0) = 0:=by split<;>rfl
    have fl:(IntKind.i64.wrap (((r.length + 1 + 1:Nat):Int) - 2)).toNat - 0 ≤ ((wsOf ((b,n) :: (a,m) :: r)).map encS).length:=by rw [e2,qb,zfm]; simp; omega
    have fl1:(IntKind.i64.wrap (((r.length + 1 + 1:Nat):Int) - 2)).toNat - 0 ≤ ((nsOf ((b,n) :: (a,m) :: r)).map encI).length:=by rw [e2,qb,zi0]; simp; omega
    have fsz:((IntKind.i64.wrap (((r.length + 1 + 1:Nat):Int) - 2)).toNat - 0 + [encS (nodeS a b)].length) * 16 ≤ 140737488355328:=by rw [e2]; simp; omega
    have fsz1:∀ z:Int,((IntKind.i64.wrap (((r.length + 1 + 1:Nat):Int) - 2)).toNat - 0 + [encI z].length) * 8 ≤ 140737488355328:=fun z=>by rw [e2]; simp; omega
    conv=>whnf
    refine drawP hΘ mixed (lk [0,1,2,3,4,5,6,7,8,9,10,11,12,13,14] .done) [8] (by kernel_rfl) ?_;conv=>whnf
    refine ⟨fun _=>?_,fun g=>absurd g (by simp; omega)⟩;conv=>whnf
    refine ⟨rfl,q2,?_⟩;conv=>whnf
    refine ⟨rfl,?_⟩;conv=>whnf
    refine ⟨encI m,gm,?_⟩;conv=>whnf
    refine ⟨rfl,q1,?_⟩;conv=>whnf
    refine ⟨rfl,?_⟩;conv=>whnf
    refine ⟨encI n,gn,?_⟩;conv=>whnf
    refine br (fun hmn=>?_) (fun hmn=>?_)
    ·conv=>whnf
     refine famW 7 rfl ?_
     refine famW 8 rfl ?_
     refine drawP hΘ mixed (lk [0,1,2,3,4,5,6,7,9,10,11,12] (.alt 8 (.alt 13 (.alt 14 (.alt 15 (.alt 16 (.look 17 .done) .nil) .nil) .nil) .nil) (.alt 13 (.alt 8 (.alt 14 (.alt 15 (.alt 16 (.look 17 .done) .nil) .nil) .nil) .nil) .nil))) [] (by kernel_rfl) ?_;conv=>whnf
     refine ⟨p2,?_⟩;conv=>whnf
     refine ⟨rfl,q2,?_⟩;conv=>whnf
     refine ⟨rfl,q1,?_⟩;conv=>whnf
     refine ⟨?_,?_⟩
     ·conv=>whnf
      refine ⟨⟨yk,rfl⟩,?_⟩;conv=>whnf
      refine ⟨encS a,ga,?_⟩;conv=>whnf
      refine ⟨Fz.r F1,?_⟩;conv=>whnf
      refine ⟨⟨yk,rfl⟩,?_⟩;conv=>whnf
      refine ⟨encS b,gb,?_⟩;conv=>whnf
      refine ⟨Fz.r F1,?_⟩;conv=>whnf
      refine useFo (zw8 F1 (hR.mono l1) a b hla hlb) rfl (zaa _) rfl ?_
      rintro _ F2 l2 rfl;conv=>whnf
      refine ⟨l2,?_⟩;conv=>whnf
      refine ⟨Fz.r F2,?_⟩;conv=>whnf
      refine ⟨nb rfl,[encS (nodeS a b)],rfl,?_⟩;conv=>whnf
      refine ⟨⟨yk,rfl⟩,f0,fl,qak _,fsz,fun c3 hc3=>?_⟩;conv=>whnf
      refine ⟨Fz.r F2,?_⟩;conv=>whnf
      refine drawP hΘ mixed (lk [0,1,2,3,4,5,6,7] (.alt 8 (.look 9 (.alt 10 (.alt 11 (.look 12 .done) .nil) .nil)) .nil)) [] (by kernel_rfl) ?_;conv=>whnf
      refine ⟨p3,?_⟩;conv=>whnf
      refine ⟨rfl,q1,?_⟩;conv=>whnf
      refine ⟨⟨yk,rfl⟩,?_⟩;conv=>whnf
      refine ⟨encI n,gn,?_⟩;conv=>whnf
      refine ⟨Fz.r F2,?_⟩;conv=>whnf
      refine ⟨Fz.r F2,?_⟩;conv=>whnf
      refine ⟨nb rfl,[encI (IntKind.i64.wrap (2 * (n:Int)))],rfl,?_⟩;conv=>whnf
      refine ⟨⟨yk,rfl⟩,f1,fl1,qak _,fsz1 _,fun d3 hd3=>?_⟩;conv=>whnf
      refine ⟨Fz.r F2,?_⟩;conv=>whnf
      exact ⟨⟨((nodeS a b,2 * n) :: r,c3,d3),hyes hmn c3 d3 hc3 hd3⟩,hdec2,leR [(7,10),(8,12)] hH2 hT2 rfl ⟨tv,tv,tv,zbk zbz 9 1 9 c3 (wsOf ((nodeS a b,2 * n) :: r)),zbk zb6 3 1 9 d3 (nsOf ((nodeS a b,2 * n) :: r)),tv⟩ ⟨⟨rfl,n3,rfl,.inr ⟨rfl,rfl,rfl,rfl⟩⟩,⟨rfl,n4,rfl,.inr ⟨rfl,rfl,rfl,rfl⟩⟩,eu n5,tv⟩ ⟨l2,e3a _ c3,e3b _ d3 (hw2 hmn),tv⟩⟩
     ·conv=>whnf
      refine ⟨⟨yk,rfl⟩,?_⟩;conv=>whnf
      refine ⟨encS b,gb,?_⟩;conv=>whnf
      refine ⟨Fz.r F1,?_⟩;conv=>whnf
      refine ⟨⟨yk,rfl⟩,?_⟩;conv=>whnf
      refine ⟨encS a,ga,?_⟩;conv=>whnf
      refine ⟨Fz.r F1,?_⟩;conv=>whnf
      refine useFo (zw8 F1 (hR.mono l1) a b hla hlb) rfl (zaa _) rfl ?_
      rintro _ F2 l2 rfl;conv=>whnf
      refine ⟨l2,?_⟩;conv=>whnf
      refine ⟨Fz.r F2,?_⟩;conv=>whnf
      refine ⟨nb rfl,[encS (nodeS a b)],rfl,?_⟩;conv=>whnf
      refine ⟨⟨yk,rfl⟩,f0,fl,qak _,fsz,fun c3 hc3=>?_⟩;conv=>whnf
      refine ⟨Fz.r F2,?_⟩;conv=>whnf
      refine drawP hΘ mixed (lk [0,1,2,3,4,5,6,7] (.alt 8 (.look 9 (.alt 10 (.alt 11 (.look 12 .done) .nil) .nil)) .nil)) [] (by kernel_rfl) ?_;conv=>whnf
      refine ⟨p3,?_⟩;conv=>whnf
      refine ⟨rfl,q1,?_⟩;conv=>whnf
      refine ⟨⟨yk,rfl⟩,?_⟩;conv=>whnf
      refine ⟨encI n,gn,?_⟩;conv=>whnf
      refine ⟨Fz.r F2,?_⟩;conv=>whnf
      refine ⟨Fz.r F2,?_⟩;conv=>whnf
      refine ⟨nb rfl,[encI (IntKind.i64.wrap (2 * (n:Int)))],rfl,?_⟩;conv=>whnf
      refine ⟨⟨yk,rfl⟩,f1,fl1,qak _,fsz1 _,fun d3 hd3=>?_⟩;conv=>whnf
      refine ⟨Fz.r F2,?_⟩;conv=>whnf
      exact ⟨⟨((nodeS a b,2 * n) :: r,c3,d3),hyes hmn c3 d3 hc3 hd3⟩,hdec2,leR [(7,10),(8,12)] hH2 hT2 rfl ⟨tv,tv,tv,zbk zbz 9 1 9 c3 (wsOf ((nodeS a b,2 * n) :: r)),zbk zb6 3 1 9 d3 (nsOf ((nodeS a b,2 * n) :: r)),tv⟩ ⟨⟨rfl,n3,rfl,.inr ⟨rfl,rfl,rfl,rfl⟩⟩,⟨rfl,n4,rfl,.inr ⟨rfl,rfl,rfl,rfl⟩⟩,eu n5,tv⟩ ⟨l2,e3a _ c3,e3b _ d3 (hw2 hmn),tv⟩⟩
    ·conv=>whnf
     exact ⟨⟨(k + 1,((wsOf ((b,n) :: (a,m) :: r)).headD [] :: (wsOf ((b,n) :: (a,m) :: r)).tail),((nsOf ((b,n) :: (a,m) :: r)).headD 0 :: (nsOf ((b,n) :: (a,m) :: r)).tail),c2,d2),hno hmn⟩,hdec,leRn [_,_,_] [_,_] [(1,7),(2,8)] hH hT rfl ⟨tv,zai zbz _ _ _ _ _,zai zb6 _ _ _ _ _,tv⟩ ⟨⟨rfl,hwl,rfl,.inr ⟨rfl,rfl,rfl,rfl⟩⟩,⟨rfl,hnl,rfl,.inr ⟨rfl,rfl,rfl,rfl⟩⟩,cnt hk62,tv⟩ ⟨l1,e1a _ c2,e1b _ d2,tv⟩⟩
 ·have hk8:k = l.length:=by omega
  have hW1:W = [R]:=by rw [hW,hk8,yr,hRt]; rfl
  have hS1:S = [8]:=by rw [hS,hk8,yr,hRt]; rfl
  have hlt:¬ (k:Int) < (l.length:Int):=by omega
  subst hW1
  subst hS1
  conv=>whnf
  refine brj hlt ?_;conv=>whnf
  refine brd (by decide) ?_;conv=>whnf
  refine ⟨rfl,by decide,?_⟩;conv=>whnf
  refine ⟨rfl,?_⟩;conv=>whnf
  refine ⟨encS R,rfl,?_⟩;conv=>whnf
  refine ⟨⟨by decide,by show (0:Int) ≤ (c:Int); omega⟩,?_⟩;conv=>whnf
  refine zg1 hΘ Tryz.func115 rfl (by decide) _ _ rfl rfl rfl (zci hΘ _ _ _ ?_);conv=>whnf
  refine zs7 rfl rfl rfl ?_;conv=>whnf
  refine ⟨rfl,rfl,?_⟩;conv=>whnf
  exact endFo (.ret (.va (.str R))) F rfl (Fz.r F) (Fz.r F) rfl (zaj _) rfl
theorem rootF (l:List (List UInt8)) (hl:l.length = 8):stackF l = [(root8 l,8)]:=by
 match l,hl with
 |[a,b,c,d,e,f,g,h],_=>exact z8c a b c d e f g h
theorem zi6 (F:Fz) (hR:RNDF F) (sa:SA) (l:List (List UInt8)) (ha:Sl F 9 1 encS sa l) (hl:l.length = 8) (hk:∀ x ∈ l,x.length ≤ 900000000000) :
  Fo Tryz.prog F 17 [.va sa] (fun o _=>o = .ret (.va (.str (root8 l)))):=by
 have h:=z5e F hR sa l ha hl hk (root8 l) (rootF l hl)
 obtain ⟨han,hab,hae,hac,haL,har,rfl,ha1,ha2,ha3,ha4⟩:=ha
 refine fo_of hΘ Tryz.func17 rfl (by decide) _ _ rfl rfl rfl ?_;conv=>whnf
 refine useFo h rfl (zaa _) rfl ?_
 rintro _ F1 l1 rfl;conv=>whnf
 exact endFo (.ret (.va (.str (root8 l)))) F1 rfl l1 (Fz.r F1) rfl (zaj _) rfl
def atV (A:List (List UInt8)) (p:Int):List UInt8:=A[(p - 1).toNat]?.getD []
def chkAt (A B:List (List UInt8)) (x:Kp):Bool:=decide (x.2 = [(6,0)]) || (decide ((zde x.1 x.2 (atV A x.1)).2 = 0) && decide ((zde x.1 x.2 (atV A x.1)).1 = atV B x.1))
theorem z3h (F:Fz) (sa:SA) (l:List Stp) (ha:za3 F sa l) (hl:l.length < 1000000) :
  Fo Tryz.prog F 60 [.va sa] (fun o F'=>o = .ret (.va (.bool (decide (l = [(6,0)]))))):=by
 have heq:=fun F1 (l1:Fz.le F F1) sb hb=>zhi F1 sa sb l [(6,0)] (ha.mono l1) hb hl
 obtain ⟨han,hab,hae,hac,haL,har,rfl,ha1,ha2,ha3,ha4⟩:=ha
 refine fo_of hΘ Tryz.func60 rfl (by decide) _ _ rfl rfl rfl ?_;conv=>whnf
 refine za0 1 (fun _=>.arr 56 2 ([(6,0)].map enc) 1) rfl rfl rfl (fun _ _=>rfl) (fun _ _=>SB.bB_ok rfl) ?_
 intro b F1 l1 hb
 have hc:=heq F1 l1 _ (Sl.new (l:=[(6,0)]) (cap:=1) (hb 0 rfl))
 refine usePu hc rfl ⟨⟨rfl,rfl,rfl,.inr ⟨rfl,rfl,rfl,rfl⟩⟩,⟨rfl,rfl,rfl,.inr ⟨rfl,rfl,rfl,rfl⟩⟩,tv⟩ rfl ?_;conv=>whnf
 exact endFo (.ret (.va (.bool (decide (l = [(6,0)]))))) F1 rfl l1 (Fz.r F1) rfl (zaj _) rfl
theorem zxf {A:List (List UInt8)} {p:Int} (h8:A.length = 8) (hp:1 ≤ p ∧ p ≤ 8):A[(p - 1).toNat]? = some (atV A p):=by
 unfold atV
 rw [qc (show (p - 1).toNat < A.length by omega)]; rfl
theorem zt5 (F:Fz) (hM:MLF F) (sa saA saB:SA) (A B:List (List UInt8)) (bA bB:Nat) (x:Kp) (ha:za3 F sa x.2) (hl:x.2.length < 1000000) (hA:Sl F 9 1 encS saA A) (hB:Sl F 9 1 encS saB B) (hA8:A.length = 8) (hB8:B.length = 8)
  (hbA:F bA = some (.cells 34 [saA])) (hbB:F bB = some (.cells 34 [saB])) (hx:1 ≤ x.1 ∧ x.1 ≤ 8) (hs:∀ s ∈ A,s.length ≤ 1000000000000000000) :
  Fo Tryz.prog F 58 [.agg [.int .i64 x.1,sa],.va (.ptr (fp bA)),.va (.ptr (fp bB))] (fun o F'=>o = .ret (.va (.bool (!chkAt A B x)))):=by
 obtain ⟨p,l⟩:=x
 replace hx:1 ≤ p ∧ p ≤ 8:=hx
 replace hl:l.length < 1000000:=hl
 replace ha:za3 F sa l:=ha
 have gA:=zxf hA8 hx
 have gB:=zxf hB8 hx
 have happ:=zz6 F hM sa l p (atV A p) ha hl (hs _ (yi gA))
 have hgone:=fun F1 (l1:Fz.le F F1)=>z3h F1 sa l (ha.mono l1) hl
 have hw:IntKind.i64.wrap (p - 1) = p - 1:=zal (by omega) (by omega)
 have qA:0 ≤ IntKind.i64.wrap (p - 1) ∧ IntKind.i64.wrap (p - 1) < (A.length:Int):=by rw [hw]; omega
 have qB:0 ≤ IntKind.i64.wrap (p - 1) ∧ IntKind.i64.wrap (p - 1) < (B.length:Int):=by rw [hw]; omega
 have row:∀ (L:List (List SA)) (e:Nat) (C:List (List UInt8)),(L.drop e).take C.length = C.map encS → C.length = 8 → C[(p - 1).toNat]? = some (atV C p) → L[e + (IntKind.i64.wrap (p - 1)).toNat]? = some (encS (atV C p)):=by
  intro L e C h1 h2 h3
  have h4:=Sl.at h1 (k:=(p - 1).toNat) (by omega)
  rw [hw]
  rw [qc (show (p - 1).toNat < C.length by omega)] at h3
  rw [Option.some.inj h3] at h4
  exact h4
 show Fo Tryz.prog F 58 [.agg [.int .i64 p,sa],.va (.ptr (fp bA)),.va (.ptr (fp bB))] (fun o F'=>o = .ret (.va (.bool (!(decide (l = [(6,0)]) || (decide ((zde p l (atV A p)).2 = 0) && decide ((zde p l (atV A p)).1 = atV B p)))))))
 obtain ⟨R,hR⟩:∃ R,zde p l (atV A p) = R:=⟨_,rfl⟩
 rw [hR] at happ ⊢
 obtain ⟨t,e⟩:=R
 clear hR
 obtain ⟨hAn,hAb,hAe,hAc,hAL,hAr,rfl,hA1,hA2,hA3,hA4⟩:=hA
 obtain ⟨hBn,hBb,hBe,hBc,hBL,hBr,rfl,hB1,hB2,hB3,hB4⟩:=hB
 have rA:=row hAL hAe A hA4 hA8 gA
 have rB:=row hBL hBe B hB4 hB8 gB
 have nA:hAn = false:=Sl.lt hA1 (show 0 < A.length by omega)
 have nB:hBn = false:=Sl.lt hB1 (show 0 < B.length by omega)
 generalize atV A p = va at *
 generalize atV B p = vb at *
 obtain ⟨han,hab,hae,hac,haL,har,rfl,ha1,ha2,ha3,ha4⟩:=ha
 have fin:∀ (v:Bool) (F1:Fz) (h:Hp) (nx:Nat),(!(decide (l = [(6,0)]) || (decide (e = 0) && decide (t = vb)))) = v → lget h 0 = some (.frz F1) → Fz.le F F1 → Cln 1 (FoK F fun o F'=>o = .ret (.va (.bool (!(decide (l = [(6,0)]) || (decide (e = 0) && decide (t = vb))))))) (.ret (.va (.bool v))) h nx:=by
  intro v F1 h nx hv h0 hle
  exact endFo (.ret (.va (.bool v))) F1 h0 hle (Fz.r F1) (by rw [hv]) rfl rfl
 refine fo_of hΘ Tryz.func58 rfl (by decide) _ _ rfl rfl rfl ?_;conv=>whnf
 refine drawP hΘ mixed (lk [0,1,2,3,4,5,6,7,8,9] (.alt 10 (lk [11,12,13,14,15] .done) .nil)) [1] (by kernel_rfl) ?_;conv=>whnf
 refine ⟨rfl,?_⟩;conv=>whnf
 refine ⟨rfl,?_⟩;conv=>whnf
 refine ⟨rfl,?_⟩;conv=>whnf
 refine ⟨_,hbA,?_⟩;conv=>whnf
 refine ⟨rfl,?_⟩;conv=>whnf
 refine ⟨nA,qA,?_⟩;conv=>whnf
 refine ⟨rfl,?_⟩;conv=>whnf
 refine ⟨_,hA2 nA,?_⟩;conv=>whnf
 refine ⟨_,rA,?_⟩;conv=>whnf
 refine useFo happ rfl (zaa _) rfl ?_
 rintro _ F1 l1 rfl
 have hg1:=hgone F1 l1
 conv=>whnf
 refine ⟨l1,rfl,?_⟩;conv=>whnf
 refine useFo hg1 rfl (zaa _) rfl ?_
 rintro _ F2 l2 rfl;conv=>whnf
 refine ⟨fun g1=>?_,fun g1=>?_⟩
 rotate_left
 ·conv=>whnf
  exact fin false F2 _ _ (by rw [show decide (l = [(6,0)]) = true by simpa using g1]; rfl) rfl (Fz.t l1 l2)
 conv=>whnf
 refine ⟨fun g2=>?_,fun g2=>?_⟩
 ·have l12:=Fz.t l1 l2
  have gl:decide (l = [(6,0)]) = false:=by simpa using g1
  have ge:decide (e = 0) = true:=by
   have g3:(!decide (e = 0)) = false:=g2
   simpa using g3
  conv=>whnf
  refine ⟨_,l12 _ _ hbB,?_⟩;conv=>whnf
  refine ⟨nB,qB,?_⟩;conv=>whnf
  refine ⟨_,l12 _ _ (hB2 nB),?_⟩;conv=>whnf
  refine ⟨_,rB,?_⟩;conv=>whnf
  exact fin _ F2 _ _ (by rw [gl,ge,← beqD rfl]; rfl) rfl l12
 ·have ge:decide (e = 0) = false:=by
   have g3:(!decide (e = 0)) = true:=g2
   simpa using g3
  have gl:decide (l = [(6,0)]) = false:=by simpa using g1
  conv=>whnf
  exact fin true F2 _ _ (by rw [gl,ge]; rfl) rfl (Fz.t l1 l2)
theorem zyx (F:Fz) (hM:MLF F) (sk saA saB:SA) (A B:List (List UInt8)) (bA bB:Nat) (ks:List Kp) (hk:ClsAt F sk ks) (hs:short ks) (hl:ks.length < 1000000) (hA:Sl F 9 1 encS saA A) (hB:Sl F 9 1 encS saB B) (hA8:A.length = 8) (hB8:B.length = 8) (hbA:F bA = some (.cells 34 [saA])) (hbB:F bB = some (.cells 34 [saB])) (hx:∀ x ∈ ks,1 ≤ x.1 ∧ x.1 ≤ 8) (hsA:∀ s ∈ A,s.length ≤ 1000000000000000000) :
  Fo Tryz.prog F 125 [.va sk,.va (.fn (.func 58) [fp bA,fp bB])] (fun o F'=>o = .ret (.va (.int .i64 (idxN (chkAt A B) ks 0)))):=by
 obtain ⟨kn,kb,ke,kc,kL,kr,rfl,k1,k2,k3,k4⟩:=hk
 have fin:∀ (x:Int) (F1:Fz) (h:Hp) (nx:Nat),idxN (chkAt A B) ks 0 = x → lget h 0 = some (.frz F1) → Fz.le F F1 →
   Cln 1 (FoK F fun o F'=>o = .ret (.va (.int .i64 (idxN (chkAt A B) ks 0)))) (.ret (.va (.int .i64 x))) h nx:=by
  intro x F1 h nx hv h0 hle
  exact endFo (.ret (.va (.int .i64 x))) F1 h0 hle (Fz.r F1) (by rw [hv]) rfl rfl
 refine fo_of hΘ Tryz.func125 rfl (by decide) _ _ rfl rfl rfl ?_;conv=>whnf
 refine zan hΘ (X:={ x:Nat × Fz // Fz.le F x.2 ∧ x.1 ≤ ks.length ∧ idxN (chkAt A B) ks 0 = idxN (chkAt A B) (ks.drop x.1) x.1 }) (fun x=>[(8,.va (.int .i64 x.1.1))]) [4,5,9,10,11,12,13,14,15,16,17,18] (fz fun x=>x.1.2) 1 (fun x=>ks.length - x.1.1) ⟨(0,F),Fz.r F,by simp,by simp⟩
  (fun hH hT=>leI [] hH hT rfl ⟨tv,tv⟩ ⟨rfl,tv⟩ ⟨Fz.r F,tv⟩) ?_
 rintro ⟨⟨k,G⟩,hG,hkl,hp⟩ hH hT
 replace hG:Fz.le F G:=hG
 replace hkl:k ≤ ks.length:=hkl
 replace hp:idxN (chkAt A B) ks 0 = idxN (chkAt A B) (ks.drop k) k:=hp
 by_cases g:k < ks.length
 ·have gi:(k:Int) < (ks.length:Int):=by omega
  have hdec:ks.length - (k + 1) < ks.length - k:=by omega
  have hk62:k < 4611686018427387904:=by omega
  have hx1:=hs ks[k] (jj g)
  have hxx:=hx ks[k] (jj g)
  rw [znk (chkAt A B) ks k g] at hp
  have hObt:=SlR.at k4 g
  obtain ⟨y,hy,a,rfl,ha⟩:=hObt
  have hcall:=zt5 G (hM.mono hG) a saA saB A B bA bB ks[k] (ha.mono hG) hx1 (hA.mono hG) (hB.mono hG) hA8 hB8 (hG _ _ hbA) (hG _ _ hbB) hxx hsA
  obtain ⟨han,hab,hae,hac,haL,har,rfl,ha1,ha2,ha3,ha4⟩:=ha
  conv=>whnf
  refine bri gi ?_;conv=>whnf
  refine ⟨SlR.lt k1 g,⟨by simp,gi⟩,?_⟩;conv=>whnf
  refine ⟨_,hG _ _ (k2 (SlR.lt k1 g)),?_⟩;conv=>whnf
  refine ⟨_,hy,?_⟩;conv=>whnf
  refine useFo hcall rfl (zaa _) rfl ?_
  rintro _ G2 l2 rfl;conv=>whnf
  refine br (fun g2=>?_) (fun g2=>?_)
  ·conv=>whnf
   exact fin _ G2 _ _ (hp.trans (if_pos (by have g3:(!(chkAt A B) ks[k]) = true:=g2; simpa using g3))) rfl (Fz.t hG l2)
  ·conv=>whnf
   have g3:(!(chkAt A B) ks[k]) = false:=g2
   exact ⟨⟨(k + 1,G2),Fz.t hG l2,g,hp.trans (if_neg (by rw [show (chkAt A B) ks[k] = true by simpa using g3]; simp))⟩,hdec,leR [] hH hT rfl ⟨tv,tv⟩ ⟨cnt hk62,tv⟩ ⟨Fz.r G2,tv⟩⟩
 ·have gi:¬ (k:Int) < (ks.length:Int):=by omega
  rw [jq (by omega)] at hp
  conv=>whnf
  refine brj gi ?_;conv=>whnf
  exact fin _ G _ _ hp rfl hG
theorem zzz (F:Fz) (hM:MLF F) (sk saA saB:SA) (A B:List (List UInt8)) (bA bB:Nat) (ks:List Kp) (hk:ClsAt F sk ks) (hs:short ks) (hl:ks.length < 1000000) (hA:Sl F 9 1 encS saA A) (hB:Sl F 9 1 encS saB B) (hA8:A.length = 8) (hB8:B.length = 8) (hbA:F bA = some (.cells 34 [saA])) (hbB:F bB = some (.cells 34 [saB])) (hx:∀ x ∈ ks,1 ≤ x.1 ∧ x.1 ≤ 8) (hsA:∀ s ∈ A,s.length ≤ 1000000000000000000) :
  Fo Tryz.prog F 57 [.va sk,.va (.fn (.func 58) [fp bA,fp bB])] (fun o F'=>o = .ret (.va (.bool (!ks.all (chkAt A B))))):=by
 have h:=zyx F hM sk saA saB A B bA bB ks hk hs hl hA hB hA8 hB8 hbA hbB hx hsA
 obtain ⟨kn,kb,ke,kc,kL,kr,rfl,k1,k2,k3,k4⟩:=hk
 refine fo_of hΘ Tryz.func57 rfl (by decide) _ _ rfl rfl rfl ?_;conv=>whnf
 refine useFo h rfl (zaa _) rfl ?_
 rintro _ F1 l1 rfl;conv=>whnf
 exact endFo (.ret (.va (.bool (!ks.all (chkAt A B))))) F1 rfl l1 (Fz.r F1) rfl (ob (zrw (chkAt A B) ks).symm) rfl
def zce (c:Crt) (A B:List (List UInt8)):Bool:=crtOk c && ((decide (A.length = 8) && decide (B.length = 8)) && (decide (root8 A = c.src) && (decide (root8 B = c.dst) && c.cl.all (chkAt A B))))
theorem zlm:∀ (l:List Kp) (i:Int),clOk l i = true → ∀ x ∈ l,i ≤ x.1 ∧ x.1 < i + l.length
 |[],_,_=>fun x hx=>by simp at hx
 |y :: r,i,h=>fun x hx=>by
  rw [clOk,qd] at h
  have h1:y.1 = i:=by
   have:=h.1
   simp only [clAt,qd,decide_eq_true_eq] at this
   exact this.1
  rcases qj.1 hx with rfl | hx
  ·simp only [qe]; omega
  ·have:=zlm r (i + 1) h.2 x hx
   simp only [qe]; omega
theorem zef {c:Crt} (h:crtOk c = true):c.cl.length = 8 ∧ ∀ x ∈ c.cl,1 ≤ x.1 ∧ x.1 ≤ 8:=by
 simp only [crtOk,qd,decide_eq_true_eq] at h
 refine ⟨h.2.2.2.2.1,fun x hx=>?_⟩
 have:=zlm c.cl 1 h.2.2.2.2.2 x hx
 rw [h.2.2.2.2.1] at this
 omega
theorem kC1 {c:Crt} {A B:List (List UInt8)} (h:decide ((A.length:Int) = 8) = false):zce c A B = false:=by
 have:decide (A.length = 8) = false:=by simp at h ⊢; omega
 simp only [zce,this,qt,jp]
theorem kC2 {c:Crt} {A B:List (List UInt8)} (h:(!decide ((B.length:Int) = 8)) = true):zce c A B = false:=by
 have:decide (B.length = 8) = false:=by simp at h ⊢; omega
 simp only [zce,this,qt,jp]
theorem kC3 {c:Crt} {A B:List (List UInt8)} (h:(!crtOk c) = true):zce c A B = false:=by
 have:crtOk c = false:=by simpa using h
 simp only [zce,this,qt]
theorem kC4 {c:Crt} {A B:List (List UInt8)} (h:(!(root8 A == c.src)) = true):zce c A B = false:=by
 have h1:(root8 A == c.src) = false:=by simpa using h
 simp only [zce,beqD h1,qt,jp]
theorem kC5 {c:Crt} {A B:List (List UInt8)} (h:(!(root8 B == c.dst)) = true):zce c A B = false:=by
 have h1:(root8 B == c.dst) = false:=by simpa using h
 simp only [zce,beqD h1,qt,jp]
theorem kC6 {c:Crt} {A B:List (List UInt8)} (h1:decide ((A.length:Int) = 8) = true) (h2:(!decide ((B.length:Int) = 8)) = false) (h3:(!crtOk c) = false) (h4:(!(root8 A == c.src)) = false) (h5:(!(root8 B == c.dst)) = false):zce c A B = !(!c.cl.all (chkAt A B)):=by
 have a1:decide (A.length = 8) = true:=by simp at h1 ⊢; omega
 have a2:decide (B.length = 8) = true:=by simp at h2 ⊢; omega
 have a3:crtOk c = true:=by simpa using h3
 have a4:(root8 A == c.src) = true:=by simpa using h4
 have a5:(root8 B == c.dst) = true:=by simpa using h5
 simp only [zce,a1,a2,a3,beqD a4,beqD a5,y5,Bool.not_not]
theorem zl5 (F:Fz) (hM:MLF F) (hR:RNDF F) (sk saA saB:SA) (c:Crt) (A B:List (List UInt8)) (hk:ClsAt F sk c.cl) (hs:short c.cl) (hl:c.cl.length < 1000000) (hA:Sl F 9 1 encS saA A) (hB:Sl F 9 1 encS saB B)
  (hsA:∀ s ∈ A,s.length ≤ 900000000000) (hsB:∀ s ∈ B,s.length ≤ 900000000000) :
  Fo Tryz.prog F 22 [.agg (crtS c sk),.va saA,.va saB] (fun o F'=>o = .ret (.va (.bool (zce c A B)))):=by
 have hvalid:=zei F sk c hk hs hl
 have hrA:=fun F1 (l1:Fz.le F F1) h8=>zi6 F1 (hR.mono l1) saA A (hA.mono l1) h8 hsA
 have hrB:=fun F1 (l1:Fz.le F F1) h8=>zi6 F1 (hR.mono l1) saB B (hB.mono l1) h8 hsB
 have hcont:=fun F1 (l1:Fz.le F F1) bA bB (h8:A.length = 8) (h8':B.length = 8) (hv:crtOk c = true) hbA hbB=>zzz F1 (hM.mono l1) sk saA saB A B bA bB c.cl (KpsAt.up hk l1) hs hl (hA.mono l1) (hB.mono l1) h8 h8' hbA hbB (zef hv).2 (fun s hs=>jk (hsA s hs) (by decide))
 have e1:=kC1 (c:=c) (A:=A) (B:=B)
 have e2:=kC2 (c:=c) (A:=A) (B:=B)
 have e3:=kC3 (c:=c) (A:=A) (B:=B)
 have e4:=kC4 (c:=c) (A:=A) (B:=B)
 have e5:=kC5 (c:=c) (A:=A) (B:=B)
 have e6:=kC6 (c:=c) (A:=A) (B:=B)
 obtain ⟨v,hv⟩:∃ v,zce c A B = v:=⟨_,rfl⟩
 rw [hv] at e1 e2 e3 e4 e5 e6 ⊢
 clear hv
 obtain ⟨w,hw⟩:∃ w,crtOk c = w:=⟨_,rfl⟩
 rw [hw] at hvalid e3 e6 hcont
 clear hw
 obtain ⟨RA,hRA⟩:∃ R,root8 A = R:=⟨_,rfl⟩
 obtain ⟨RB,hRB⟩:∃ R,root8 B = R:=⟨_,rfl⟩
 rw [hRA] at hrA e4 e6
 rw [hRB] at hrB e5 e6
 clear hRA hRB
 obtain ⟨src,dst,len,ks⟩:=c
 have hA':=hA
 have hB':=hB
 obtain ⟨hAn,hAb,hAe,hAc,hAL,hAr,rfl,hA1,hA2,hA3,hA4⟩:=hA
 obtain ⟨hBn,hBb,hBe,hBc,hBL,hBr,rfl,hB1,hB2,hB3,hB4⟩:=hB
 obtain ⟨kn,kb,ke,kc,kL,kr,rfl,k1,k2,k3,k4⟩:=hk
 have fin:∀ (b:Bool) (F1:Fz) (h:Hp) (nx:Nat),v = b → lget h 0 = some (.frz F1) → Fz.le F F1 → Cln 1 (FoK F fun o F'=>o = .ret (.va (.bool v))) (.ret (.va (.bool b))) h nx:=by
  intro b F1 h nx hb h0 hle
  exact endFo (.ret (.va (.bool b))) F1 h0 hle (Fz.r F1) (by rw [hb]) rfl rfl
 have finL:∀ (b:Bool) (F1:Fz) (h:Hp) (nx:Nat),v = b → lget h 0 = some (.frz F1) → Fz.le F F1 → Cln 1 (FoK F fun o F'=>o = .ret (.va (.bool v))) (.ret (.va (.lit b))) h nx:=by
  intro b F1 h nx hb h0 hle
  exact endFo (.ret (.va (.bool b))) F1 h0 hle (Fz.r F1) (by rw [hb]) rfl rfl
 refine fo_of hΘ Tryz.func22 rfl (by decide) _ _ rfl rfl rfl ?_;conv=>whnf
 refine ⟨fun gA=>?_,fun gA=>?_⟩
 rotate_left
 ·conv=>whnf
  refine drawP hΘ mixed (.look 0 (.alt 1 (lk [2,3,4,5,6,7,8,10,11] (.alt 9 (lk [12,13,14,15,17,18] (.alt 16 (.look 19 (.look 20 .done)) .nil)) .nil)) .nil)) [1,2,3] (by kernel_rfl) ?_;conv=>whnf
  refine ⟨rfl,?_⟩;conv=>whnf
  refine useFo hvalid rfl (zaa _) rfl ?_
  rintro _ F1 l1 rfl;conv=>whnf
  refine ⟨l1,rfl,rfl,rfl,?_⟩;conv=>whnf
  refine ⟨fun gv=>?_,fun gv=>?_⟩
  ·conv=>whnf
   exact fin false F1 _ _ (e1 gA) rfl l1
  ·conv=>whnf
   exact fin false F1 _ _ (e1 gA) rfl l1
 conv=>whnf
 refine drawP hΘ mixed (.look 0 (.alt 1 (lk [2,3,4,5,6,7,8,10,11] (.alt 9 (lk [12,13,14,15,17,18] (.alt 16 (.look 19 (.look 20 .done)) .nil)) .nil)) .nil)) [1,2,3] (by kernel_rfl) ?_;conv=>whnf
 refine ⟨rfl,?_⟩;conv=>whnf
 refine useFo hvalid rfl (zaa _) rfl ?_
 rintro _ F1 l1 rfl;conv=>whnf
 refine ⟨l1,rfl,rfl,rfl,?_⟩;conv=>whnf
 refine ⟨fun gv=>?_,fun gv=>?_⟩
 rotate_left
 ·conv=>whnf
  exact fin false F1 _ _ (e3 gv) rfl l1
 conv=>whnf
 refine ⟨fun gB=>?_,fun gB=>?_⟩
 rotate_left
 ·conv=>whnf
  exact fin false F1 _ _ (e2 gB) rfl l1
 have hA8:A.length = 8:=by have:=od gA; omega
 have hB8:B.length = 8:=by
  have h:decide ((B.length:Int) = 8) = true:=by simpa using gB
  have:=od h; omega
 conv=>whnf
 refine ⟨rfl,?_⟩;conv=>whnf
 refine ⟨rfl,?_⟩;conv=>whnf
 refine useFo (hrA F1 l1 hA8) rfl (zaa _) rfl ?_
 rintro _ F2 l2 rfl
 have m2:=Fz.t l1 l2
 conv=>whnf
 refine ⟨l2,rfl,rfl,rfl,?_⟩;conv=>whnf
 refine ⟨fun g4=>?_,fun g4=>?_⟩
 rotate_left
 ·conv=>whnf
  exact fin false F2 _ _ (e4 g4) rfl m2
 conv=>whnf
 refine ⟨rfl,?_⟩;conv=>whnf
 refine ⟨rfl,?_⟩;conv=>whnf
 refine useFo (hrB F2 m2 hB8) rfl (zaa _) rfl ?_
 rintro _ F3 l3 rfl
 have m3:=Fz.t m2 l3
 conv=>whnf
 refine ⟨l3,rfl,rfl,rfl,?_⟩;conv=>whnf
 refine br (fun g5=>?_) (fun g5=>?_)
 ·conv=>whnf
  exact fin false F3 _ _ (e5 g5) rfl m3
 conv=>whnf
 refine za0 2 (fun _=>.cells 34 [.slice hAn 0 hAb hAe 1 A.length hAc]) rfl rfl rfl (fun _ _=>rfl) (fun _ _=>SB.bB_ok rfl) ?_
 intro bA F4 l4 hbA
 refine za0 3 (fun _=>.cells 34 [.slice hBn 0 hBb hBe 1 B.length hBc]) rfl rfl rfl (fun _ _=>rfl) (fun _ _=>SB.bB_ok rfl) ?_
 intro bB F5 l5 hbB
 have m5:=Fz.t m3 (Fz.t l4 l5)
 refine useFo (hcont F5 m5 (bA 0) (bB 0) hA8 hB8 (by simpa using gv) (l5 _ _ (hbA 0 rfl)) (hbB 0 rfl)) rfl (zaa _) rfl ?_
 rintro _ F6 l6 rfl;conv=>whnf
 exact fin _ F6 _ _ (e6 gA gB gv g4 g5) rfl (Fz.t m5 l6)
end Go.Proofs.YtfnkamphhpldcaaGreatDoor
