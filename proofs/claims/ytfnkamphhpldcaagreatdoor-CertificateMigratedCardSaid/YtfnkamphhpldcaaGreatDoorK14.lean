import Derived.Test.YtfnkamphhpldcaaGreatDoorK09
set_option maxHeartbeats 64000000
namespace Go.Proofs.YtfnkamphhpldcaaGreatDoor
open Go Sx
set_option maxRecDepth 100000
def idx (v:Int):List Int → Nat → Int
 |[],_=>-1
 |x :: r,n=>if v = x then n else idx v r (n + 1)
theorem z1x (v:Int) (l:List Int) (k:Nat) (h:k < l.length):idx v (l.drop k) k = if v = l[k] then (k:Int) else idx v (l.drop (k + 1)) (k + 1):=by
 rw [qx h]; rfl
theorem z1z (F:Fz) (n:SA) (l:List Int) (v:Int) (q:zek F n l) (E:l.length < 1000000) :
  Fo Tryz.prog F 233 [.va n,.va (.int .i64 v)] (fun o e=>o = .ret (.va (.int .i64 (idx v l 0))) ∧ e = F):=by
 obtain ⟨nil,y,B,A,w,G,rfl,d,j,s,m⟩:=q
 have c:∀ (x:Int) (h:Hp) (nx:Nat),x = idx v l 0 → lget h 0 = some (.frz F) →
   Cln 1 (FoK F fun o e=>o = .ret (.va (.int .i64 (idx v l 0))) ∧ e = F) (.ret (.va (.int .i64 x))) h nx:=by
  intro x h nx u p;exact endPu p (Fz.r F) (by rw [u]; rfl) rfl
 refine fo_of hΘ Tryz.func233 rfl (by decide) _ _ rfl rfl rfl ?_
 refine zam hΘ (X:={ k:Nat // k ≤ l.length ∧ idx v l 0 = idx v (l.drop k) k }) (fun k=>[(8,.va (.int .i64 k.1))]) [5,9,10,11,12,13,14,15,16,17,18] (fz fun _=>F) 1 (fun k=>l.length - k.1) ⟨0,by simp⟩
  (fun f i=>le0 f i rfl (Fz.r F) rfl ⟨rfl,tv⟩) ?_
 rintro ⟨k,D,b⟩ f i;refine br (fun g=>?_) (fun g=>?_)
 ·have g:k < l.length:=by simpa using g
  refine ⟨Sl.lt d g,⟨by simp,by simpa using g⟩,_,j (Sl.lt d g),_,Sl.at m g,?_⟩;conv=>whnf
  rw [z1x v l k g] at b;refine br (fun a=>?_) (fun a=>?_)
  ·refine c _ _ _ ?_ rfl;have a:v = l[k]:=by simpa using a
   exact (b.trans (if_pos a)).symm
  ·conv=>whnf
   have a:¬ v = l[k]:=by simpa using a
   rw [if_neg a] at b;exact ⟨⟨k + 1,by omega,b⟩,by show l.length - (k + 1) < l.length - k; omega,lr0 f i rfl (Fz.r F) rfl ⟨cnt (by omega),tv⟩⟩
 ·refine c _ _ _ ?_ rfl;have g:¬ k < l.length:=by simpa using g
  rw [yg (by omega)] at b; exact b.symm
theorem zd4 (F:Fz) (a:SA) (l:List Int) (v:Int) (b:zek F a l) (i:l.length < 1000000) :
  Fo Tryz.prog F 181 [.va a,.va (.int .i64 v)] (fun o c=>o = .ret (.va (.bool (decide (0 ≤ idx v l 0)))) ∧ c = F):=by
 have h:=z1z F a l v b i;obtain ⟨nil,k,n,m,j,p,rfl,d,e,f,g⟩:=b;refine fo_of hΘ Tryz.func181 rfl (by decide) _ _ rfl rfl rfl ?_;refine usePu h rfl ⟨⟨rfl,rfl,rfl,.inr ⟨rfl,rfl,rfl,rfl⟩⟩,rfl,tv⟩ rfl ?_;exact endPu rfl (Fz.r F) rfl rfl
theorem zff (a:SA):atomE a a:=by
  cases a<;>simp [atomE]
theorem ze3:∀ l:List SC,tupE l l
  | []=>trivial
  | .va a :: r=>⟨zff a,ze3 r⟩
  | .agg _ :: r=>⟨rfl,ze3 r⟩
theorem zil (v:SV):svE v v:=by
  cases v with
  | va a=>exact zff a
  | agg l=>rfl
  | tup l=>exact ze3 l
  | junk=>rfl
theorem zaa:∀ l:List SV,argsE l l
  | []=>trivial
  | v :: r=>⟨zil v,zaa r⟩
theorem zah (o:Out):outE o o:=by
  cases o with
  | ret v=>exact zil v
  | panic v=>rfl
theorem ob {a b:Bool} (h:a = b):outE (.ret (.va (.bool a))) (.ret (.va (.bool b))):=by rw [h]; exact zah _
theorem oi {k:IntKind} {a b:Int} (h:a = b):outE (.ret (.va (.int k a))) (.ret (.va (.int k b))):=by rw [h]; exact zah _
theorem zdx (n b a:Int):Pu Tryz.prog 178 [.va (.int .i64 n),.va (.int .i64 b),.va (.int .i64 a)] (.va (.bool (decide (b ≤ n) && decide (n ≤ a)))):=by
  intro F;refine fo_of hΘ Tryz.func178 rfl (by decide) _ _ rfl rfl rfl ?_;refine ⟨fun g=>?_,fun g=>?_⟩
  · conv=>whnf
    refine endPu rfl (Fz.r F) (ob ?_) rfl;rw [g,qab]
  · conv=>whnf
    refine endPu rfl (Fz.r F) (ob ?_) rfl;rw [g,ji]
theorem zn4 (n:Int):Pu Tryz.prog 186 [.va (.int .i64 n)] (.va (.bool (decide (n = 0)))):=by
  intro F;refine fo_of hΘ Tryz.func186 rfl (by decide) _ _ rfl rfl rfl ?_;exact endPu rfl (Fz.r F) rfl rfl
theorem zyc (n:Int):Pu Tryz.prog 190 [.va (.int .i64 n)] (.va (.bool (decide (n = 10) || decide (n = 100) || decide (n = 1000)))):=by
  intro F;refine fo_of hΘ Tryz.func190 rfl (by decide) _ _ rfl rfl rfl ?_;refine ⟨fun g=>?_,fun g=>?_⟩
  · conv=>whnf
    refine ⟨fun a=>?_,fun a=>?_⟩
    · conv=>whnf
      refine endPu rfl (Fz.r F) (ob ?_) rfl;rw [g,a,qbd,qbd]
    · conv=>whnf
      refine endPu rfl (Fz.r F) (ob ?_) rfl;rw [g,a]; rfl
  · conv=>whnf
    refine endPu rfl (Fz.r F) (ob ?_) rfl;rw [g]; rfl
theorem zyd (n:Int):Pu Tryz.prog 192 [.va (.int .i64 n)] (.va (.bool (decide (0 ≤ n) && decide (n ≤ 6)))):=by
  intro F;refine fo_of hΘ Tryz.func192 rfl (by decide) _ _ rfl rfl rfl ?_;refine usePu (zdx n 0 6 F) rfl (zaa _) rfl ?_;exact endPu rfl (Fz.r F) rfl rfl
abbrev fp (b:Nat):Pl:=⟨0,b,0,0,0⟩
theorem znl (F:Fz) (g:Nat):Fo Tryz.prog F 187 [.va (.fn (.func g) [])] (fun o a=>∃ b,o = .ret (.va (.fn (.func 246) [fp b])) ∧ a b = some (.cells 262 [.fn (.func g) []])):=by
  refine fo_of hΘ Tryz.func187 rfl (by decide) _ _ rfl rfl rfl ?_;refine zbn 1 (fun _=>.cells 262 [.fn (.func g) []]) rfl rfl rfl (fun _ _=>rfl) (fun _ _=>SB.bB_ok rfl) ?_;intro b a c d;exact endFo (.ret (.va (.fn (.func 246) [fp (b 0)]))) a rfl c (Fz.r a) ⟨b 0,rfl,d 0 rfl⟩ rfl rfl
def zep (b:Nat → Nat):List SA:=
  [.nilsl,.nilfn,.nilfn,
   .slice false 0 (b 0) 0 1 1 1,.fn (.func 186) [],.fn (.func 246) [fp (b 6)],
   .slice false 0 (b 1) 0 1 1 1,.fn (.func 186) [],.fn (.func 246) [fp (b 7)],
   .slice false 0 (b 2) 0 1 2 2,.fn (.func 190) [],.fn (.func 246) [fp (b 8)],
   .slice false 0 (b 3) 0 1 1 1,.fn (.func 192) [],.fn (.func 246) [fp (b 9)],
   .slice false 0 (b 4) 0 1 2 2,.fn (.func 186) [],.fn (.func 194) [],
   .slice false 0 (b 5) 0 1 8 8,.fn (.func 186) [],.fn (.func 195) []]
def eI (l:List Int):SB:=.arr 3 1 (l.map encI) l.length
def eF (g:Nat):SB:=.cells 262 [.fn (.func g) []]
structure KindsAt (F:Fz) (b:Nat → Nat):Prop where
  h0:F (b 0) = some (eI [1])
  h1:F (b 1) = some (eI [1])
  h2:F (b 2) = some (eI [3,5])
  h3:F (b 3) = some (eI [2])
  h4:F (b 4) = some (eI [6,7])
  h5:F (b 5) = some (eI [1,2,3,4,5,6,7,8])
  h6:F (b 6) = some (eF 188)
  h7:F (b 7) = some (eF 189)
  h8:F (b 8) = some (eF 191)
  h9:F (b 9) = some (eF 193)
theorem KindsAt.mono {F c:Fz} {b:Nat → Nat} (h:KindsAt F b) (a:Fz.le F c):KindsAt c b:=
  ⟨a _ _ h.h0,a _ _ h.h1,a _ _ h.h2,a _ _ h.h3,a _ _ h.h4,a _ _ h.h5,a _ _ h.h6,a _ _ h.h7,a _ _ h.h8,a _ _ h.h9⟩
theorem zt2 (F:Fz):Fo Tryz.prog F 130 [] (fun o y=>∃ b,o = .ret (.agg (zep b)) ∧ KindsAt y b):=by
  refine fo_of hΘ Tryz.func130 rfl (by decide) _ _ rfl rfl rfl ?_;refine useFo (znl F 188) rfl (zaa _) rfl ?_;rintro _ F1 l1 ⟨I,rfl,U⟩;refine useFo (znl F1 189) rfl (zaa _) rfl ?_;rintro _ A k ⟨J,rfl,V⟩;refine useFo (znl A 191) rfl (zaa _) rfl ?_;rintro _ D l ⟨K,rfl,W⟩;refine useFo (znl D 193) rfl (zaa _) rfl ?_;rintro _ F4 m ⟨L,rfl,X⟩;refine zbn 2 (fun _=>eI [1]) rfl rfl rfl (fun _ _=>rfl) (fun _ _=>SB.bB_ok rfl) ?_;intro M G0 p Y;refine zbn 3 (fun _=>eI [1]) rfl rfl rfl (fun _ _=>rfl) (fun _ _=>SB.bB_ok rfl) ?_;intro O G1 q Z;refine zbn 4 (fun _=>eI [3,5]) rfl rfl rfl (fun _ _=>rfl) (fun _ _=>SB.bB_ok rfl) ?_;intro Q G2 s k2;refine zbn 5 (fun _=>eI [2]) rfl rfl rfl (fun _ _=>rfl) (fun _ _=>SB.bB_ok rfl) ?_;intro R G3 u k3;refine zbn 6 (fun _=>eI [6,7]) rfl rfl rfl (fun _ _=>rfl) (fun _ _=>SB.bB_ok rfl) ?_;intro S G4 w k4;refine zbn 7 (fun _=>eI [1,2,3,4,5,6,7,8]) rfl rfl rfl (fun _ _=>rfl) (fun _ _=>SB.bB_ok rfl) ?_;intro T E x k5;refine endFo (.ret (.agg (zep fun n=>match n with | 0=>M 0 | 1=>O 0 | 2=>Q 0 | 3=>R 0 | 4=>S 0 | 5=>T 0 | 6=>I | 7=>J | 8=>K | _=>L))) E rfl ?_ (Fz.r _) ⟨_,rfl,?_⟩ rfl rfl
  · exact fun b B h=>x _ _ (w _ _ (u _ _ (s _ _ (q _ _ (p _ _ (m _ _ (l _ _ (k _ _ (l1 _ _ h)))))))))
  · have a:=x; have c:=Fz.t w a; have d:=Fz.t u c; have e:=Fz.t s d; have f:=Fz.t q e; have g:=Fz.t p f
    have i:=Fz.t m g; have j:=Fz.t l i; have G:=Fz.t k j;exact ⟨f _ _ (Y 0 rfl),e _ _ (Z 0 rfl),d _ _ (k2 0 rfl),c _ _ (k3 0 rfl),a _ _ (k4 0 rfl),k5 0 rfl,G _ _ U,j _ _ V,i _ _ W,g _ _ X⟩
theorem not_t {b:Bool} (h:(!b) = true):b = false:=by cases b<;>simp_all
def props (k:Int):List Int:=
 if k = 1 then [1] else if k = 2 then [1] else if k = 3 then [3,5] else if k = 4 then [2] else if k = 5 then [6,7] else [1,2,3,4,5,6,7,8]
def numOk (k n:Int):Bool:=
 if k = 3 then decide (n = 10) || decide (n = 100) || decide (n = 1000) else if k = 4 then decide (0 ≤ n) && decide (n ≤ 6) else decide (n = 0)
def zbs (p:Int) (s:Stp):Bool:=(decide (1 ≤ s.1) && decide (s.1 ≤ 6)) && (decide (0 ≤ idx p (props s.1) 0) && numOk s.1 s.2)
theorem zi2 {F:Fz} {b:Nat} (l:List Int) (h:F b = some (eI l)):zek F (.slice false 0 b 0 1 l.length l.length) l:=Sl.new h
theorem z0j (F:Fz) (i j:Nat) (b:Nat → Nat) (p k n:Int) (c:F i = some (.cells 206 (zep b))) (d:KindsAt F b) (e:F j = some (.cells 3 [.int .i64 p])) :
  Fo Tryz.prog F 180 [.agg [.int .i64 k,.int .i64 n],.va (.ptr (fp i)),.va (.ptr (fp j))] (fun o f=>o = .ret (.va (.bool (!zbs p (k,n)))) ∧ f = F):=by
 refine fo_of hΘ Tryz.func180 rfl (by decide) _ _ rfl rfl rfl ?_;refine draw hΘ mixed [(0,true),(1,true),(2,false),(3,true),(4,true),(5,true),(6,true),(7,true),(8,true),(9,true),(10,true),(11,false),(12,true),(13,true),(14,true),(15,true),(16,true),(17,true),(18,true),(19,true),(20,true),(21,true),(22,false),(23,true),(24,true),(25,true)] [1] (by kernel_rfl) ?_;refine ⟨rfl,?_⟩;refine usePu (zdx k 1 6 F) rfl (zaa _) rfl ?_;refine ⟨Fz.r F,rfl,?_⟩;conv=>whnf
 have a:∀ (v:Bool) (h:Hp) (nx:Nat),(!zbs p (k,n)) = v → lget h 0 = some (.frz F) → Cln 1 (FoK F fun o f=>o = .ret (.va (.bool (!zbs p (k,n)))) ∧ f = F) (.ret (.va (.bool v))) h nx:=by
  intro v h nx s m;exact endPu m (Fz.r F) (ob s) rfl
 refine ⟨fun g=>?_,fun g=>?_⟩
 ·have l:(decide (1 ≤ k) && decide (k ≤ 6)) = true:=by simpa using g
  have q:k = 1 ∨ k = 2 ∨ k = 3 ∨ k = 4 ∨ k = 5 ∨ k = 6:=by simp at l; omega
  clear g l;rcases q with rfl | rfl | rfl | rfl | rfl | rfl
  ·refine ⟨rfl,by decide,rfl,_,c,rfl,_,e,?_⟩;refine usePu (zd4 F _ [1] p (zi2 _ d.h0) (by decide)) rfl (zaa _) rfl ?_;refine ⟨Fz.r F,rfl,fun g=>?_,fun g=>?_⟩
   ·refine ⟨rfl,by decide,rfl,_,c,rfl,?_⟩;refine usePu (zn4 n F) rfl (zaa _) rfl ?_;refine ⟨Fz.r F,rfl,?_⟩;refine a _ _ _ ?_ rfl;have g:decide (0 ≤ idx p [1] 0) = true:=by simpa using g
    simp [zbs,props,numOk,g]
   ·refine a _ _ _ ?_ rfl;have g:decide (0 ≤ idx p [1] 0) = false:=by simpa using g
    simp [zbs,props,g]
  ·refine ⟨rfl,by decide,rfl,_,c,rfl,_,e,?_⟩;refine usePu (zd4 F _ [1] p (zi2 _ d.h1) (by decide)) rfl (zaa _) rfl ?_;refine ⟨Fz.r F,rfl,fun g=>?_,fun g=>?_⟩
   ·refine ⟨rfl,by decide,rfl,_,c,rfl,?_⟩;refine usePu (zn4 n F) rfl (zaa _) rfl ?_;refine ⟨Fz.r F,rfl,?_⟩;refine a _ _ _ ?_ rfl;have g:decide (0 ≤ idx p [1] 0) = true:=by simpa using g
    simp [zbs,props,numOk,g]
   ·refine a _ _ _ ?_ rfl;have g:decide (0 ≤ idx p [1] 0) = false:=by simpa using g
    simp [zbs,props,g]
  ·refine ⟨rfl,by decide,rfl,_,c,rfl,_,e,?_⟩;refine usePu (zd4 F _ [3,5] p (zi2 _ d.h2) (by decide)) rfl (zaa _) rfl ?_;refine ⟨Fz.r F,rfl,fun g=>?_,fun g=>?_⟩
   ·refine ⟨rfl,by decide,rfl,_,c,rfl,?_⟩;refine usePu (zyc n F) rfl (zaa _) rfl ?_;refine ⟨Fz.r F,rfl,?_⟩;refine a _ _ _ ?_ rfl;have g:decide (0 ≤ idx p [3,5] 0) = true:=by simpa using g
    simp [zbs,props,numOk,g]
   ·refine a _ _ _ ?_ rfl;have g:decide (0 ≤ idx p [3,5] 0) = false:=by simpa using g
    simp [zbs,props,g]
  ·refine ⟨rfl,by decide,rfl,_,c,rfl,_,e,?_⟩;refine usePu (zd4 F _ [2] p (zi2 _ d.h3) (by decide)) rfl (zaa _) rfl ?_;refine ⟨Fz.r F,rfl,fun g=>?_,fun g=>?_⟩
   ·refine ⟨rfl,by decide,rfl,_,c,rfl,?_⟩;refine usePu (zyd n F) rfl (zaa _) rfl ?_;refine ⟨Fz.r F,rfl,?_⟩;refine a _ _ _ ?_ rfl;have g:decide (0 ≤ idx p [2] 0) = true:=by simpa using g
    simp [zbs,props,numOk,g]
   ·refine a _ _ _ ?_ rfl;have g:decide (0 ≤ idx p [2] 0) = false:=by simpa using g
    simp [zbs,props,g]
  ·refine ⟨rfl,by decide,rfl,_,c,rfl,_,e,?_⟩;refine usePu (zd4 F _ [6,7] p (zi2 _ d.h4) (by decide)) rfl (zaa _) rfl ?_;refine ⟨Fz.r F,rfl,fun g=>?_,fun g=>?_⟩
   ·refine ⟨rfl,by decide,rfl,_,c,rfl,?_⟩;refine usePu (zn4 n F) rfl (zaa _) rfl ?_;refine ⟨Fz.r F,rfl,?_⟩;refine a _ _ _ ?_ rfl;have g:decide (0 ≤ idx p [6,7] 0) = true:=by simpa using g
    simp [zbs,props,numOk,g]
   ·refine a _ _ _ ?_ rfl;have g:decide (0 ≤ idx p [6,7] 0) = false:=by simpa using g
    simp [zbs,props,g]
  ·refine ⟨rfl,by decide,rfl,_,c,rfl,_,e,?_⟩;refine usePu (zd4 F _ [1,2,3,4,5,6,7,8] p (zi2 _ d.h5) (by decide)) rfl (zaa _) rfl ?_;refine ⟨Fz.r F,rfl,fun g=>?_,fun g=>?_⟩
   ·refine ⟨rfl,by decide,rfl,_,c,rfl,?_⟩;refine usePu (zn4 n F) rfl (zaa _) rfl ?_;refine ⟨Fz.r F,rfl,?_⟩;refine a _ _ _ ?_ rfl;have g:decide (0 ≤ idx p [1,2,3,4,5,6,7,8] 0) = true:=by simpa using g
    simp [zbs,props,numOk,g]
   ·refine a _ _ _ ?_ rfl;have g:decide (0 ≤ idx p [1,2,3,4,5,6,7,8] 0) = false:=by simpa using g
    simp [zbs,props,g]
 ·refine a _ _ _ ?_ rfl;have g:(decide (1 ≤ k) && decide (k ≤ 6)) = false:=not_t g;simp only [zbs,g,ji,Bool.not_false]
def idxF (p:Int):List Stp → Nat → Int
 |[],_=>-1
 |x :: r,n=>if zbs p x = false then n else idxF p r (n + 1)
theorem zx5 (p:Int) (l:List Stp) (k:Nat) (h:k < l.length):idxF p (l.drop k) k = if zbs p l[k] = false then (k:Int) else idxF p (l.drop (k + 1)) (k + 1):=by
 rw [qx h]; rfl
theorem ztr (p:Int):∀ (l:List Stp) (n:Nat),(0 ≤ idxF p l n) ↔ l.all (zbs p) = false
 |[],n=>by simp [idxF]
 |x :: r,n=>by
  simp only [idxF,qbw];split
  ·rename_i h; simp [h]
  ·rename_i h;have:zbs p x = true:=by simpa using h
   rw [ztr p r (n + 1),this]; simp
theorem zps (F:Fz) (w:SA) (l:List Stp) (i j:Nat) (b:Nat → Nat) (p:Int) (E:za1 F w l) (Q:l.length < 1000000) (B:F i = some (.cells 206 (zep b))) (A:KindsAt F b) (D:F j = some (.cells 3 [.int .i64 p])) :
  Fo Tryz.prog F 232 [.va w,.va (.fn (.func 180) [fp i,fp j])] (fun o f=>o = .ret (.va (.int .i64 (idxF p l 0))) ∧ f = F):=by
 obtain ⟨nil,K,M,L,J,R,rfl,e,q,G,s⟩:=E
 have d:∀ (x:Int) (h:Hp) (nx:Nat),idxF p l 0 = x → lget h 0 = some (.frz F) →
   Cln 1 (FoK F fun o f=>o = .ret (.va (.int .i64 (idxF p l 0))) ∧ f = F) (.ret (.va (.int .i64 x))) h nx:=by
  intro x h nx I y;exact endPu y (Fz.r F) (oi I) rfl
 refine fo_of hΘ Tryz.func232 rfl (by decide) _ _ rfl rfl rfl ?_
 refine zam hΘ (X:={ k:Nat // k ≤ l.length ∧ idxF p l 0 = idxF p (l.drop k) k }) (fun k=>[(8,.va (.int .i64 k.1))]) [5,9,10,11,12,13,14,15,16,17,18] (fz fun _=>F) 1 (fun k=>l.length - k.1) ⟨0,by simp⟩
  (fun m n=>le0 m n rfl (Fz.r F) rfl ⟨rfl,tv⟩) ?_
 rintro ⟨k,O,c⟩ m n;refine br (fun g=>?_) (fun g=>?_)
 ·have g:k < l.length:=by simpa using g
  refine ⟨Sl.lt e g,⟨by simp,by simpa using g⟩,_,q (Sl.lt e g),_,Sl.at s g,?_⟩;refine usePu (z0j F i j b p l[k].1 l[k].2 B A D) rfl (zaa _) rfl ?_;conv=>whnf
  rw [zx5 p l k g] at c;refine br (fun a=>?_) (fun a=>?_)
  ·conv=>whnf
   have a:zbs p l[k] = false:=not_t a;exact d _ _ _ (c.trans (if_pos a)) rfl
  ·conv=>whnf
   have a:¬ zbs p l[k] = false:=by
    intro h; have u:(!zbs p l[k]) = false:=a; rw [h] at u; cases u
   rw [if_neg a] at c;exact ⟨⟨k + 1,by omega,c⟩,by show l.length - (k + 1) < l.length - k; omega,lr0 m n rfl (Fz.r F) rfl ⟨cnt (by omega),tv⟩⟩
 ·conv=>whnf
  have g:¬ k < l.length:=by simpa using g
  rw [yg (by omega)] at c;exact d _ _ _ c rfl
theorem zke (F:Fz) (d:SA) (l:List Stp) (a c:Nat) (b:Nat → Nat) (p:Int) (e:za1 F d l) (u:l.length < 1000000) (j:F a = some (.cells 206 (zep b))) (i:KindsAt F b) (k:F c = some (.cells 3 [.int .i64 p])) :
  Fo Tryz.prog F 179 [.va d,.va (.fn (.func 180) [fp a,fp c])] (fun o f=>o = .ret (.va (.bool (!l.all (zbs p)))) ∧ f = F):=by
 have h:=zps F d l a c b p e u j i k;obtain ⟨nil,x,A,y,w,D,rfl,m,n,q,s⟩:=e;refine fo_of hΘ Tryz.func179 rfl (by decide) _ _ rfl rfl rfl ?_;refine usePu h rfl (zaa _) rfl ?_;refine endPu rfl (Fz.r F) (ob ?_) rfl;have:=ztr p l 0;cases h:l.all (zbs p) with
 |true => rw [h] at this; simp; have B : ¬ (0 ≤ idxF p l 0) := fun g => by have := this.1 g; cases this
          omega
 |false=>rw [h] at this; simp; exact this.2 rfl
def zbb (p:Int) (l:List Stp):Bool:=(decide (1 ≤ p) && decide (p ≤ 8)) && (decide (l.length ≤ 64) && l.all (zbs p))
theorem zj6 (F:Fz) (n:SA) (l:List Stp) (p:Int) (s:za1 F n l) (I:l.length < 1000000) :
  Fo Tryz.prog F 128 [.va (.int .i64 p),.va n] (fun o e=>o = .ret (.va (.bool (zbb p l))) ∧ e = F):=by
 have h:=fun e (d:Fz.le F e) j k b=>zke e n l j k b p (s.mono d) I
 obtain ⟨nil,M,Q,O,L,R,rfl,B,D,E,G⟩:=s
 have a:∀ (F1:Fz) (x:Bool) (h:Hp) (nx:Nat),zbb p l = x → lget h 0 = some (.frz F1) → Fz.le F F1 →
   Cln 1 (FoK F fun o e=>o = .ret (.va (.bool (zbb p l))) ∧ e = F) (.ret (.va (.bool x))) h nx:=by
  intro F1 x h nx J u d;exact endPu u d (ob J) rfl
 refine fo_of hΘ Tryz.func128 rfl (by decide) _ _ rfl rfl rfl ?_;refine useFo (zt2 F) rfl (zaa _) rfl ?_;rintro _ F1 f ⟨b,rfl,w⟩;refine usePu (zdx p 1 8 F1) rfl (zaa _) rfl ?_;refine ⟨fun g=>?_,fun g=>?_⟩
 ·refine ⟨fun c=>?_,fun c=>?_⟩
  ·refine za7 1 (fun _=>.cells 3 [.int .i64 p]) rfl rfl rfl (fun _ _=>rfl) (fun _ _=>SB.bB_ok rfl) ?_;intro k K m A;refine za7 2 (fun _=>.cells 206 (zep b)) rfl rfl rfl (fun _ _=>rfl) (fun _ _=>SB.bB_ok rfl) ?_;intro j q i y;refine usePu (h q (Fz.t f (Fz.t m i)) (j 0) (k 0) b (y 0 rfl) (w.mono (Fz.t m i)) (i _ _ (A 0 rfl))) rfl (zaa _) rfl ?_;refine a q _ _ _ ?_ rfl (Fz.t f (Fz.t m i));have c:decide (l.length ≤ 64) = true:=by simp at c ⊢; omega
   simp [zbb,g,c]
  ·refine a F1 _ _ _ ?_ rfl f;have c:decide (l.length ≤ 64) = false:=by simp at c ⊢; omega
   simp only [zbb,c,ji,yd]
 ·refine a F1 _ _ _ ?_ rfl f;simp only [zbb,g,ji]
def pickI (c n:Int):Int:=(if c < 0 then -(c + 1) else c).tmod n
def i64 (c:Int):Prop:=-9223372036854775808 ≤ c ∧ c ≤ 9223372036854775807
theorem zco (c n:Int) (a:0 < n) (b:i64 c):0 ≤ pickI c n ∧ pickI c n < n:=by
 unfold pickI; unfold i64 at b;split
 ·exact ⟨qcj _ (by omega),qb0 _ a⟩
 ·exact ⟨qcj _ (by omega),qb0 _ a⟩
def mn (l:List Int):Int:=match l with
 |[]=>0
 |x :: r=>r.foldl (fun m x=>if x < m then x else m) x
def mx (l:List Int):Int:=match l with
 |[]=>0
 |x :: r=>r.foldl (fun m x=>if x > m then x else m) x
theorem z96 (l:List Int) (x:Int):mn (l ++ [x]) = if l = [] then x else if x < mn l then x else mn l:=by
 cases l with
 |nil=>simp [mn]
 |cons a r=>simp only [mn,yh,qaz,y5,qa6]; rw [if_neg (show ¬ (a :: r = []) by simp)]; rfl
theorem z97 (l:List Int) (x:Int):mx (l ++ [x]) = if l = [] then x else if x > mx l then x else mx l:=by
 cases l with
 |nil=>simp [mx]
 |cons a r=>simp only [mx,yh,qaz,y5,qa6]; rw [if_neg (show ¬ (a :: r = []) by simp)]; rfl
theorem z0f {α:Type} {l:List α} {k:Nat} (h1:1 ≤ k) (a:k ≤ l.length):¬ l.take k = []:=by
 intro h; have:=congrArg List.length h; rw [qq] at this; simp only [qt] at this; omega
theorem ei {k:IntKind} {a b:Int} (h:a = b):SA.int k a = SA.int k b:=by rw [h]
theorem yc5 (F:Fz) (i:SA) (l:List Int) (m:zek F i l) (A:l.length < 1000000) (b:0 < l.length) :
  Fo Tryz.prog F 199 [.va i] (fun o j=>o = .ret (.va (.int .i64 (mx l))) ∧ j = F):=by
 obtain ⟨w,q,u,s,p,x,rfl,a,c,n,d⟩:=m;refine fo_of hΘ Tryz.func199 rfl (by decide) _ _ rfl rfl rfl ?_;refine br (fun g=>?_) (fun g=>?_)
 ·simp at g; omega
 ·refine ⟨Sl.lt a b,⟨by simp,by simpa using b⟩,_,c (Sl.lt a b),_,Sl.at d b,?_⟩;conv=>whnf
  have h1:mx (l.take 1) = l[0]:=by
   rw [qg b]; simp [mx]
  refine zam hΘ (X:={ k:Nat // 1 ≤ k ∧ k ≤ l.length }) (fun k=>[(3,.va (.int .i64 (mx (l.take k.1)))),(4,.va (.int .i64 k.1))]) [12,13,14,15,16,17,18,19,20,21,22,23] (fz fun _=>F) 1 (fun k=>l.length - k.1) ⟨1,by omega⟩
   (fun e f=>le0 e f rfl (Fz.r F) rfl ⟨ei h1,rfl,tv⟩) ?_
  rintro ⟨k,h,y⟩ e f;refine br (fun g=>?_) (fun g=>?_)
  ·have g:k < l.length:=by simpa using g
   refine ⟨Sl.lt a g,⟨by simp,by simpa using g⟩,_,c (Sl.lt a g),_,Sl.at d g,⟨k + 1,by omega,by omega⟩,by show l.length - (k + 1) < l.length - k; omega,lr0 e f rfl (Fz.r F) rfl ⟨ei ?_,cnt (by omega),tv⟩⟩;show mx (l.take (k + 1)) = _;rw [qg g,z97,if_neg (z0f h y)]
  ·conv=>whnf
   have g:¬ k < l.length:=by simpa using g
   refine endPu rfl (Fz.r F) (oi ?_) rfl;show mx l = mx (l.take k);rw [qn (by omega)]
theorem yc6 (F:Fz) (i:SA) (l:List Int) (m:zek F i l) (A:l.length < 1000000) (b:0 < l.length) :
  Fo Tryz.prog F 200 [.va i] (fun o j=>o = .ret (.va (.int .i64 (mn l))) ∧ j = F):=by
 obtain ⟨w,q,u,s,p,x,rfl,a,c,n,d⟩:=m;refine fo_of hΘ Tryz.func200 rfl (by decide) _ _ rfl rfl rfl ?_;refine br (fun g=>?_) (fun g=>?_)
 ·simp at g; omega
 ·refine ⟨Sl.lt a b,⟨by simp,by simpa using b⟩,_,c (Sl.lt a b),_,Sl.at d b,?_⟩;conv=>whnf
  have h1:mn (l.take 1) = l[0]:=by
   rw [qg b]; simp [mn]
  refine zam hΘ (X:={ k:Nat // 1 ≤ k ∧ k ≤ l.length }) (fun k=>[(3,.va (.int .i64 (mn (l.take k.1)))),(4,.va (.int .i64 k.1))]) [12,13,14,15,16,17,18,19,20,21,22,23] (fz fun _=>F) 1 (fun k=>l.length - k.1) ⟨1,by omega⟩
   (fun e f=>le0 e f rfl (Fz.r F) rfl ⟨ei h1,rfl,tv⟩) ?_
  rintro ⟨k,h,y⟩ e f;refine br (fun g=>?_) (fun g=>?_)
  ·have g:k < l.length:=by simpa using g
   refine ⟨Sl.lt a g,⟨by simp,by simpa using g⟩,_,c (Sl.lt a g),_,Sl.at d g,⟨k + 1,by omega,by omega⟩,by show l.length - (k + 1) < l.length - k; omega,lr0 e f rfl (Fz.r F) rfl ⟨ei ?_,cnt (by omega),tv⟩⟩;show mn (l.take (k + 1)) = _;rw [qg g,z96,if_neg (z0f h y)]
  ·conv=>whnf
   have g:¬ k < l.length:=by simpa using g
   refine endPu rfl (Fz.r F) (oi ?_) rfl;show mn l = mn (l.take k);rw [qn (by omega)]
theorem zhx (F:Fz) (w x:SA) (a b:List Stp) (B:za1 F w a) (M:za1 F x b) (la:a.length < 1000000) :
  Fo Tryz.prog F 63 [.va w,.va x] (fun o j=>o = .ret (.va (.bool (decide (a = b)))) ∧ j = F):=by
 obtain ⟨K,G,J,I,E,L,rfl,f,n,D,p⟩:=B;obtain ⟨U,R,T,S,Q,V,rfl,i,q,O,s⟩:=M
 have c:∀ (v:Bool) (h:Hp) (nx:Nat),v = decide (a = b) → lget h 0 = some (.frz F) →
   Cln 1 (FoK F fun o j=>o = .ret (.va (.bool (decide (a = b)))) ∧ j = F) (.ret (.va (.bool v))) h nx:=by
  intro v h nx W y;exact endPu y (Fz.r F) (by rw [W]; rfl) rfl
 refine fo_of hΘ Tryz.func63 rfl (by decide) _ _ rfl rfl rfl ?_;refine br (fun g=>?_) (fun g=>?_)
 ·refine c _ _ _ ?_ rfl;have:¬ a = b:=by rintro rfl; simp at g
  simp [this]
 ·have Y:a.length = b.length:=neq_f g
  refine zam hΘ (X:={ k:Nat // k ≤ a.length ∧ a.take k = b.take k }) (fun k=>[(13,.va (.int .i64 k.1))]) [4,5,14,15,16,17,18,19,20,21,22,23,24,25] (fz fun _=>F) 1 (fun k=>a.length - k.1) ⟨0,by simp⟩
   (fun l m=>le0 l m rfl (Fz.r F) rfl ⟨rfl,tv⟩) ?_
  rintro ⟨k,Z,u⟩ l m;refine br (fun g=>?_) (fun g=>?_)
  ·have g:k < a.length:=by simpa using g
   have e:k < b.length:=by omega
   refine draw hΘ mixed [(0,true),(1,true),(2,true),(3,true),(4,true),(5,true),(6,true),(7,true),(8,true)] [] (by kernel_rfl) ?_;refine ⟨Sl.lt f g,⟨by simp,by simpa using g⟩,rfl,_,n (Sl.lt f g),_,Sl.at p g,Sl.lt i e,⟨by simp,by simpa using e⟩,rfl,_,q (Sl.lt i e),_,Sl.at s e,_,agg50 _ _ _ _,?_⟩;refine br (fun d=>?_) (fun d=>?_)
   ·refine c _ _ _ ?_ rfl;have:¬ a = b:=by rintro rfl; simp at d
    simp [this]
   ·refine ⟨⟨k + 1,by omega,?_⟩,by show a.length - (k + 1) < a.length - k; omega,lr0 l m rfl (Fz.r F) rfl ⟨cnt (by omega),tv⟩⟩
    have A:a[k] = b[k]:=by
     simp at d; exact Prod.ext d.1 d.2
    rw [qg g,qg e,u,A]
  ·refine c _ _ _ ?_ rfl;have g:¬ k < a.length:=by simpa using g
   have h1:a = b:=by
    rw [qn (by omega),qn (by omega)] at u; exact u
   simp [h1]
def sel (κ:Int) (l:List Stp):List Int:=(l.filter fun s=>decide (s.1 = κ)).map (·.2)
theorem yaw (κ:Int) (l:List Stp) (k:Nat) (g:k < l.length) (h:l[k].1 = κ):sel κ (l.take (k + 1)) = sel κ (l.take k) ++ [l[k].2]:=by
 rw [qg g,sel,qcq,jj]; simp [sel,h]
theorem ydm (κ:Int) (l:List Stp) (k:Nat) (g:k < l.length) (h:¬ l[k].1 = κ):sel κ (l.take (k + 1)) = sel κ (l.take k):=by
 rw [qg g,sel,qcq,jj]; simp [sel,h]
theorem ydl (κ:Int) (l:List Stp):(sel κ l).length ≤ l.length:=by
 unfold sel; rw [qa]; exact qad _ _
theorem wadd (a b:Nat) (h:a < 1000000) (c:b < 1000000):IntKind.i64.wrap ((a:Int) + (b:Int)) = ((a + b:Nat):Int):=by rw [zaj (by omega) (by omega)]; omega
abbrev zsx (F:Fz) (sl:SA) (b:List (List Stp)):Prop:=SlR F 50 1 (fun y x=>∃ a,y = [a] ∧ za1 F a x) sl b
theorem zxb (F:Fz) (sl:SA) (d:List (List Stp)) (Z:zsx F sl d) (hn:d.length < 1000) (hl:d.flatten.length < 1000000) :
  Fo Tryz.prog F 198 [.va sl] (fun o J=>∃ U,o = .ret (.va U) ∧ za1 J U d.flatten):=by
 obtain ⟨sn,sb,se,aa,sL,sr,rfl,s,R,s3,S⟩:=Z;refine fo_of hΘ Tryz.func198 rfl (by decide) _ _ rfl rfl rfl ?_
 refine zam hΘ (X:={ k:Nat // k ≤ d.length }) (fun k=>[(3,.va (.int .i64 (d.take k.1).flatten.length)),(11,.va (.int .i64 k.1))]) [5,12,13,14,15,16,17,18,19,20,21,22] (fz fun _=>F) 1 (fun k=>d.length - k.1) ⟨0,by simp⟩
  (fun h i=>le0 h i rfl (Fz.r F) rfl ⟨rfl,rfl,tv⟩) ?_
 rintro ⟨k,L⟩ h i;refine br (fun g=>?_) (fun g=>?_)
 ·have g:k < d.length:=by simpa using g
  conv=>whnf
  have f:=SlR.at S g;obtain ⟨y,I,a,rfl,u⟩:=f;obtain ⟨m,A,D,B,w,E,rfl,p,j,l,q⟩:=u;have f1:=zc6 d k;have f2:=zc6 d (k + 1);rw [zda g,qd] at f2;refine ⟨SlR.lt s g,⟨by simp,by simpa using g⟩,_,R (SlR.lt s g),_,I,?_⟩;conv=>whnf
  have T:=wadd (d.take k).flatten.length d[k].length (by omega) (by omega);refine br (fun g=>absurd g ?_) (fun _=>?_)
  ·rw [T]; simp; omega
  refine ⟨⟨k + 1,by omega⟩,by show d.length - (k + 1) < d.length - k; omega,lr0 h i rfl (Fz.r F) rfl ⟨ei ?_,cnt (by omega),tv⟩⟩;rw [zda g,qd]; exact T.symm
 ·have g : k = d.length := by have : ¬ k < d.length := by simpa using g
                              omega
  have M:(d.take k).flatten = d.flatten:=by rw [qn (by omega)]
  have G:(d.take k).flatten.length = d.flatten.length:=by rw [M]
  have K:IntKind.i64.wrap (((d.take k).flatten.length:Int) - IntKind.i64.wrap (0 - 0)) = d.flatten.length:=by
   rw [zaj (n:=0 - 0) (by omega) (by omega),G,zaj (by omega) (by omega)]; omega
  refine zhd hΘ Tryz.func251 rfl (by decide) _ _ rfl rfl rfl (zcv hΘ _ _ _ ?_);refine brd (by simp) ?_;refine br (fun g=>?_) (fun g=>?_)
  ·have gp:0 < d.flatten.length:=by rw [K] at g; simpa using g
   refine ⟨⟨by decide,by decide⟩,rfl,rfl,by rw [K]; omega,by rw [K]; show (d.flatten.length:Int) * (16:Int) ≤ 140737488355328; omega,fun c hc=>?_⟩;refine ⟨⟨by decide,by simp⟩,?_⟩
   refine zam hΘ (X:={ x:Nat × Nat // x.1 ≤ d.length }) (fun x=>[(6,.va (.slice false 2 0 0 2 (d.take x.1.1).flatten.length x.1.2)),(27,.va (.int .i64 x.1.1))]) [8,28,29,30,31,32,33,34]
    (fun x=>[(0,.frz F),(1,.gone),(2,.one (.arr 56 2 ((d.take x.1.1).flatten.map enc) x.1.2))]) 3 (fun x=>d.length - x.1.1) ⟨(0,c),by simp⟩
    (fun h i=>leI [(2,1)] h i rfl ⟨tv,tv,zd6 _ _ 0,tv⟩ ⟨⟨rfl,rfl,rfl,.inr ⟨rfl,rfl,by split<;>rfl,rfl⟩⟩,rfl,tv⟩ ⟨Fz.r F,rfl,tv⟩) ?_
   rintro ⟨⟨k,c⟩,L⟩ h i;replace L:k ≤ d.length:=L;refine br (fun g=>?_) (fun g=>?_)
   ·have g:k < d.length:=by simpa using g
    conv=>whnf
    have f:=SlR.at S g;obtain ⟨y,I,a,rfl,u⟩:=f;obtain ⟨m,A,D,B,w,E,rfl,p,j,l,q⟩:=u;refine ⟨SlR.lt s g,⟨by simp,by simpa using g⟩,_,R (SlR.lt s g),_,I,?_⟩;have f1:=zc6 d k;have f2:=zc6 d (k + 1);have f3:=zda g;rw [f3,qd] at f2
    have step:∀ (X:List (List SA)) (c':Nat),X = d[k].map enc → (SB.arr 56 2 ((d.take k).flatten.map enc ++ X) c') = SB.ren (sig [(2,3)]) (.arr 56 2 ((d.take (k + 1)).flatten.map enc) c'):=by
     intro X c' V;rw [zgz,f3,jj,V]
    rcases m with _ | _
    ·refine ⟨_,_,_,j rfl,l,_,q,rfl,(qa _).symm,rfl,by simp only [qa]; show _ * 16 ≤ _; omega,fun c' O=>?_⟩;refine ⟨⟨(k + 1,c'),by show k + 1 ≤ d.length; omega⟩,by show d.length - (k + 1) < d.length - k; omega,leR [(2,3)] h i rfl ⟨tv,tv,zd6 _ _ 0,tv⟩ ⟨⟨rfl,?_,rfl,.inr ⟨rfl,rfl,rfl,rfl⟩⟩,cnt (by omega),tv⟩ ⟨Fz.r F,step _ _ rfl,tv⟩⟩;show (d.take (k + 1)).flatten.length = (d.take k).flatten.length + (d[k].map enc).length;rw [qa,f3,qd]
    ·have e:d[k] = []:=p rfl;refine ⟨by rw [e]; rfl,rfl,(qa _).symm,rfl,by show _ * 16 ≤ _; simp only [qt,qas]; omega,fun c' O=>?_⟩;refine ⟨⟨(k + 1,c'),by show k + 1 ≤ d.length; omega⟩,by show d.length - (k + 1) < d.length - k; omega,leR [(2,3)] h i rfl ⟨tv,tv,zd6 _ _ 0,tv⟩ ⟨⟨rfl,?_,rfl,.inr ⟨rfl,rfl,rfl,rfl⟩⟩,cnt (by omega),tv⟩ ⟨Fz.r F,step _ _ (by rw [e]; rfl),tv⟩⟩;show (d.take (k + 1)).flatten.length = (d.take k).flatten.length + 0;rw [f3,qd,e]; rfl
   ·have Y : k = d.length := by have : ¬ k < d.length := by simpa using g
                                omega
    have M:(d.take k).flatten = d.flatten:=by rw [qn (by omega)]
    refine zbn 2 (fun _=>.arr 56 2 (d.flatten.map enc) c) rfl rfl rfl (fun _ _=>?_) (fun _ _=>zd6 _ _ _) ?_
    ·refine (zgz _ (d.take k).flatten c).trans ?_;rw [M]
    intro b J Q W;refine endFo (.ret (.va (.slice false 0 (b 0) 0 2 d.flatten.length c))) J rfl Q (Fz.r J) ⟨_,rfl,Sl.new (W 0 rfl)⟩ ?_ rfl;exact ⟨rfl,by show d.flatten.length = (d.take k).flatten.length; rw [M],rfl,.inr ⟨rfl,rfl,rfl,rfl⟩⟩
  ·have gp:d.flatten = []:=y9.1 (by rw [K] at g; simp only [decide_eq_false_iff_not] at g; omega)
   refine zam hΘ (X:={ k:Nat // k ≤ d.length }) (fun k=>[(6,.va .nilsl),(27,.va (.int .i64 k.1))]) [8,28,29,30,31,32,33,34] (fz fun _=>F) 1 (fun k=>d.length - k.1) ⟨0,by simp⟩
    (fun h i=>le0 h i rfl (Fz.r F) rfl ⟨rfl,rfl,tv⟩) ?_
   rintro ⟨k,L⟩ h i;refine br (fun g=>?_) (fun g=>?_)
   ·have g:k < d.length:=by simpa using g
    have e:d[k] = []:=by
     have:=List.flatten_eq_nil_iff.1 gp d[k] (jp g); exact this
    conv=>whnf
    have f:=SlR.at S g;obtain ⟨y,I,a,rfl,u⟩:=f;obtain ⟨m,A,D,B,w,E,rfl,p,j,l,q⟩:=u;refine ⟨SlR.lt s g,⟨by simp,by simpa using g⟩,_,R (SlR.lt s g),_,I,?_⟩;rcases m with _ | _
    ·refine ⟨_,_,_,j rfl,l,[],by rw [e]; rfl,rfl,rfl,?_⟩;exact ⟨⟨k + 1,by omega⟩,by show d.length - (k + 1) < d.length - k; omega,lr0 h i rfl (Fz.r F) rfl ⟨rfl,cnt (by omega),tv⟩⟩
    ·refine ⟨by rw [e]; rfl,rfl,rfl,?_⟩;exact ⟨⟨k + 1,by omega⟩,by show d.length - (k + 1) < d.length - k; omega,lr0 h i rfl (Fz.r F) rfl ⟨rfl,cnt (by omega),tv⟩⟩
   ·exact endFo (.ret (.va (.slice true 0 0 0 2 0 0))) F rfl (Fz.r F) (Fz.r F) ⟨_,rfl,by rw [gp]; exact Sl.nil⟩ ⟨rfl,rfl,rfl⟩ rfl
end Go.Proofs.YtfnkamphhpldcaaGreatDoor
