import Derived.Test.YtfnkamphhpldcaaGreatDoorK09
set_option maxHeartbeats 64000000
namespace Go.Proofs.YtfnkamphhpldcaaGreatDoor
open Go Sx
set_option maxRecDepth 100000
def idx (v:Int):List Int → Nat → Int
 |[],_=>-1
 |x :: r,n=>if v = x then n else idx v r (n + 1)
theorem z0n (v:Int) (l:List Int) (k:Nat) (h:k < l.length):idx v (l.drop k) k = if v = l[k] then (k:Int) else idx v (l.drop (k + 1)) (k + 1):=by
 rw [qx h]; rfl
theorem z1d (F:Fz) (n:SA) (l:List Int) (v:Int) (u:zek F n l) (D:l.length < 1000000) :
  Fo Tryz.prog F 233 [.va n,.va (.int .i64 v)] (fun o i=>o = .ret (.va (.int .i64 (idx v l 0))) ∧ i = F):=by
 obtain ⟨nil,B,w,G,E,A,rfl,d,f,p,m⟩:=u
 have c:∀ (x:Int) (h:Hp) (nx:Nat),x = idx v l 0 → lget h 0 = some (.frz F) →
   Cln 1 (FoK F fun o i=>o = .ret (.va (.int .i64 (idx v l 0))) ∧ i = F) (.ret (.va (.int .i64 x))) h nx:=by
  intro x h nx s q;exact endPu q (Fz.r F) (by rw [s]; rfl) rfl
 refine fo_of hΘ Tryz.func233 rfl (by decide) _ _ rfl rfl rfl ?_
 refine zam hΘ (X:={ k:Nat // k ≤ l.length ∧ idx v l 0 = idx v (l.drop k) k }) (fun k=>[(8,.va (.int .i64 k.1))]) [5,9,10,11,12,13,14,15,16,17,18] (fz fun _=>F) 1 (fun k=>l.length - k.1) ⟨0,by simp⟩
  (fun e j=>le0 e j rfl (Fz.r F) rfl ⟨rfl,tv⟩) ?_
 rintro ⟨k,y,b⟩ e j;refine br (fun g=>?_) (fun g=>?_)
 ·have g:k < l.length:=by simpa using g
  refine ⟨Sl.lt d g,⟨by simp,by simpa using g⟩,_,f (Sl.lt d g),_,Sl.at m g,?_⟩;conv=>whnf
  rw [z0n v l k g] at b;refine br (fun a=>?_) (fun a=>?_)
  ·refine c _ _ _ ?_ rfl;have a:v = l[k]:=by simpa using a
   exact (b.trans (if_pos a)).symm
  ·conv=>whnf
   have a:¬ v = l[k]:=by simpa using a
   rw [if_neg a] at b;exact ⟨⟨k + 1,by omega,b⟩,by show l.length - (k + 1) < l.length - k; omega,lr0 e j rfl (Fz.r F) rfl ⟨cnt (by omega),tv⟩⟩
 ·refine c _ _ _ ?_ rfl;have g:¬ k < l.length:=by simpa using g
  rw [yg (by omega)] at b; exact b.symm
theorem zd5 (F:Fz) (a:SA) (l:List Int) (v:Int) (b:zek F a l) (d:l.length < 1000000) :
  Fo Tryz.prog F 181 [.va a,.va (.int .i64 v)] (fun o g=>o = .ret (.va (.bool (decide (0 ≤ idx v l 0)))) ∧ g = F):=by
 have h:=z1d F a l v b d;obtain ⟨nil,m,j,p,n,k,rfl,f,e,c,i⟩:=b;refine fo_of hΘ Tryz.func181 rfl (by decide) _ _ rfl rfl rfl ?_;refine usePu h rfl ⟨⟨rfl,rfl,rfl,.inr ⟨rfl,rfl,rfl,rfl⟩⟩,rfl,tv⟩ rfl ?_;exact endPu rfl (Fz.r F) rfl rfl
theorem zfo (a:SA):atomE a a:=by
  cases a<;>simp [atomE]
theorem ze2:∀ l:List SC,tupE l l
  | []=>trivial
  | .va a :: r=>⟨zfo a,ze2 r⟩
  | .agg _ :: r=>⟨rfl,ze2 r⟩
theorem zis (v:SV):svE v v:=by
  cases v with
  | va a=>exact zfo a
  | agg l=>rfl
  | tup l=>exact ze2 l
  | junk=>rfl
theorem zaa:∀ l:List SV,argsE l l
  | []=>trivial
  | v :: r=>⟨zis v,zaa r⟩
theorem zah (o:Out):outE o o:=by
  cases o with
  | ret v=>exact zis v
  | panic v=>rfl
theorem ob {a b:Bool} (h:a = b):outE (.ret (.va (.bool a))) (.ret (.va (.bool b))):=by rw [h]; exact zah _
theorem oi {k:IntKind} {a b:Int} (h:a = b):outE (.ret (.va (.int k a))) (.ret (.va (.int k b))):=by rw [h]; exact zah _
theorem zd0 (n b a:Int):Pu Tryz.prog 178 [.va (.int .i64 n),.va (.int .i64 b),.va (.int .i64 a)] (.va (.bool (decide (b ≤ n) && decide (n ≤ a)))):=by
  intro F;refine fo_of hΘ Tryz.func178 rfl (by decide) _ _ rfl rfl rfl ?_;refine ⟨fun g=>?_,fun g=>?_⟩
  · conv=>whnf
    refine endPu rfl (Fz.r F) (ob ?_) rfl;rw [g,qab]
  · conv=>whnf
    refine endPu rfl (Fz.r F) (ob ?_) rfl;rw [g,ji]
theorem zoc (n:Int):Pu Tryz.prog 186 [.va (.int .i64 n)] (.va (.bool (decide (n = 0)))):=by
  intro F;refine fo_of hΘ Tryz.func186 rfl (by decide) _ _ rfl rfl rfl ?_;exact endPu rfl (Fz.r F) rfl rfl
theorem zzq (n:Int):Pu Tryz.prog 190 [.va (.int .i64 n)] (.va (.bool (decide (n = 10) || decide (n = 100) || decide (n = 1000)))):=by
  intro F;refine fo_of hΘ Tryz.func190 rfl (by decide) _ _ rfl rfl rfl ?_;refine ⟨fun g=>?_,fun g=>?_⟩
  · conv=>whnf
    refine ⟨fun a=>?_,fun a=>?_⟩
    · conv=>whnf
      refine endPu rfl (Fz.r F) (ob ?_) rfl;rw [g,a,qbd,qbd]
    · conv=>whnf
      refine endPu rfl (Fz.r F) (ob ?_) rfl;rw [g,a]; rfl
  · conv=>whnf
    refine endPu rfl (Fz.r F) (ob ?_) rfl;rw [g]; rfl
theorem zxb (n:Int):Pu Tryz.prog 192 [.va (.int .i64 n)] (.va (.bool (decide (0 ≤ n) && decide (n ≤ 6)))):=by
  intro F;refine fo_of hΘ Tryz.func192 rfl (by decide) _ _ rfl rfl rfl ?_;refine usePu (zd0 n 0 6 F) rfl (zaa _) rfl ?_;exact endPu rfl (Fz.r F) rfl rfl
abbrev fp (b:Nat):Pl:=⟨0,b,0,0,0⟩
theorem znj (F:Fz) (g:Nat):Fo Tryz.prog F 187 [.va (.fn (.func g) [])] (fun o a=>∃ b,o = .ret (.va (.fn (.func 246) [fp b])) ∧ a b = some (.cells 262 [.fn (.func g) []])):=by
  refine fo_of hΘ Tryz.func187 rfl (by decide) _ _ rfl rfl rfl ?_;refine zbn 1 (fun _=>.cells 262 [.fn (.func g) []]) rfl rfl rfl (fun _ _=>rfl) (fun _ _=>SB.bB_ok rfl) ?_;intro b a c d;exact endFo (.ret (.va (.fn (.func 246) [fp (b 0)]))) a rfl c (Fz.r a) ⟨b 0,rfl,d 0 rfl⟩ rfl rfl
def zeq (b:Nat → Nat):List SA:=
  [.nilsl,.nilfn,.nilfn,
   .slice false 0 (b 0) 0 1 1 1,.fn (.func 186) [],.fn (.func 246) [fp (b 6)],
   .slice false 0 (b 1) 0 1 1 1,.fn (.func 186) [],.fn (.func 246) [fp (b 7)],
   .slice false 0 (b 2) 0 1 2 2,.fn (.func 190) [],.fn (.func 246) [fp (b 8)],
   .slice false 0 (b 3) 0 1 1 1,.fn (.func 192) [],.fn (.func 246) [fp (b 9)],
   .slice false 0 (b 4) 0 1 2 2,.fn (.func 186) [],.fn (.func 194) [],
   .slice false 0 (b 5) 0 1 8 8,.fn (.func 186) [],.fn (.func 195) []]
def eI (l:List Int):SB:=.arr 3 1 (l.map encI) l.length
def eF (g:Nat):SB:=.cells 262 [.fn (.func g) []]
structure KindsAt (F:Fz) (b:Nat → Nat):Prop where
  h0:F (b 0) = some (eI [1])
  h1:F (b 1) = some (eI [1])
  h2:F (b 2) = some (eI [3,5])
  h3:F (b 3) = some (eI [2])
  h4:F (b 4) = some (eI [6,7])
  h5:F (b 5) = some (eI [1,2,3,4,5,6,7,8])
  h6:F (b 6) = some (eF 188)
  h7:F (b 7) = some (eF 189)
  h8:F (b 8) = some (eF 191)
  h9:F (b 9) = some (eF 193)
theorem KindsAt.mono {F c:Fz} {b:Nat → Nat} (h:KindsAt F b) (a:Fz.le F c):KindsAt c b:=
  ⟨a _ _ h.h0,a _ _ h.h1,a _ _ h.h2,a _ _ h.h3,a _ _ h.h4,a _ _ h.h5,a _ _ h.h6,a _ _ h.h7,a _ _ h.h8,a _ _ h.h9⟩
theorem zuz (F:Fz):Fo Tryz.prog F 130 [] (fun o T=>∃ b,o = .ret (.agg (zeq b)) ∧ KindsAt T b):=by
  refine fo_of hΘ Tryz.func130 rfl (by decide) _ _ rfl rfl rfl ?_;refine useFo (znj F 188) rfl (zaa _) rfl ?_;rintro _ F1 U ⟨R,rfl,X⟩;refine useFo (znj F1 189) rfl (zaa _) rfl ?_;rintro _ J j ⟨K,rfl,h7⟩;refine useFo (znj J 191) rfl (zaa _) rfl ?_;rintro _ F3 e ⟨E,rfl,Y⟩;refine useFo (znj F3 193) rfl (zaa _) rfl ?_;rintro _ F4 w ⟨M,rfl,G⟩;refine zbn 2 (fun _=>eI [1]) rfl rfl rfl (fun _ _=>rfl) (fun _ _=>SB.bB_ok rfl) ?_;intro I G0 f V;refine zbn 3 (fun _=>eI [1]) rfl rfl rfl (fun _ _=>rfl) (fun _ _=>SB.bB_ok rfl) ?_;intro L G1 c Z;refine zbn 4 (fun _=>eI [3,5]) rfl rfl rfl (fun _ _=>rfl) (fun _ _=>SB.bB_ok rfl) ?_;intro y G2 m D;refine zbn 5 (fun _=>eI [2]) rfl rfl rfl (fun _ _=>rfl) (fun _ _=>SB.bB_ok rfl) ?_;intro Q G3 k k3;refine zbn 6 (fun _=>eI [6,7]) rfl rfl rfl (fun _ _=>rfl) (fun _ _=>SB.bB_ok rfl) ?_;intro S G4 p k4;refine zbn 7 (fun _=>eI [1,2,3,4,5,6,7,8]) rfl rfl rfl (fun _ _=>rfl) (fun _ _=>SB.bB_ok rfl) ?_;intro W G5 x A;refine endFo (.ret (.agg (zeq fun n=>match n with | 0=>I 0 | 1=>L 0 | 2=>y 0 | 3=>Q 0 | 4=>S 0 | 5=>W 0 | 6=>R | 7=>K | 8=>E | _=>M))) G5 rfl ?_ (Fz.r _) ⟨_,rfl,?_⟩ rfl rfl
  · exact fun b B h=>x _ _ (p _ _ (k _ _ (m _ _ (c _ _ (f _ _ (w _ _ (e _ _ (j _ _ (U _ _ h)))))))))
  · have d:=x; have s:=Fz.t p d; have q:=Fz.t k s; have a:=Fz.t m q; have g:=Fz.t c a; have l:=Fz.t f g
    have i:=Fz.t w l; have u:=Fz.t e i; have O:=Fz.t j u;exact ⟨g _ _ (V 0 rfl),a _ _ (Z 0 rfl),q _ _ (D 0 rfl),s _ _ (k3 0 rfl),d _ _ (k4 0 rfl),A 0 rfl,O _ _ X,u _ _ h7,i _ _ Y,l _ _ G⟩
theorem not_t {b:Bool} (h:(!b) = true):b = false:=by cases b<;>simp_all
def props (k:Int):List Int:=
 if k = 1 then [1] else if k = 2 then [1] else if k = 3 then [3,5] else if k = 4 then [2] else if k = 5 then [6,7] else [1,2,3,4,5,6,7,8]
def numOk (k n:Int):Bool:=
 if k = 3 then decide (n = 10) || decide (n = 100) || decide (n = 1000) else if k = 4 then decide (0 ≤ n) && decide (n ≤ 6) else decide (n = 0)
def zbs (p:Int) (s:Stp):Bool:=(decide (1 ≤ s.1) && decide (s.1 ≤ 6)) && (decide (0 ≤ idx p (props s.1) 0) && numOk s.1 s.2)
theorem zjd {F:Fz} {b:Nat} (l:List Int) (h:F b = some (eI l)):zek F (.slice false 0 b 0 1 l.length l.length) l:=Sl.new h
theorem zz7 (F:Fz) (i j:Nat) (b:Nat → Nat) (p k n:Int) (c:F i = some (.cells 206 (zeq b))) (d:KindsAt F b) (e:F j = some (.cells 3 [.int .i64 p])) :
  Fo Tryz.prog F 180 [.agg [.int .i64 k,.int .i64 n],.va (.ptr (fp i)),.va (.ptr (fp j))] (fun o f=>o = .ret (.va (.bool (!zbs p (k,n)))) ∧ f = F):=by
 refine fo_of hΘ Tryz.func180 rfl (by decide) _ _ rfl rfl rfl ?_;refine draw hΘ mixed [(0,true),(1,true),(2,false),(3,true),(4,true),(5,true),(6,true),(7,true),(8,true),(9,true),(10,true),(11,false),(12,true),(13,true),(14,true),(15,true),(16,true),(17,true),(18,true),(19,true),(20,true),(21,true),(22,false),(23,true),(24,true),(25,true)] [1] (by kernel_rfl) ?_;refine ⟨rfl,?_⟩;refine usePu (zd0 k 1 6 F) rfl (zaa _) rfl ?_;refine ⟨Fz.r F,rfl,?_⟩;conv=>whnf
 have a:∀ (v:Bool) (h:Hp) (nx:Nat),(!zbs p (k,n)) = v → lget h 0 = some (.frz F) → Cln 1 (FoK F fun o f=>o = .ret (.va (.bool (!zbs p (k,n)))) ∧ f = F) (.ret (.va (.bool v))) h nx:=by
  intro v h nx s q;exact endPu q (Fz.r F) (ob s) rfl
 refine ⟨fun g=>?_,fun g=>?_⟩
 ·have l:(decide (1 ≤ k) && decide (k ≤ 6)) = true:=by simpa using g
  have m:k = 1 ∨ k = 2 ∨ k = 3 ∨ k = 4 ∨ k = 5 ∨ k = 6:=by simp at l; omega
  clear g l;rcases m with rfl | rfl | rfl | rfl | rfl | rfl
  ·refine ⟨rfl,by decide,rfl,_,c,rfl,_,e,?_⟩;refine usePu (zd5 F _ [1] p (zjd _ d.h0) (by decide)) rfl (zaa _) rfl ?_;refine ⟨Fz.r F,rfl,fun g=>?_,fun g=>?_⟩
   ·refine ⟨rfl,by decide,rfl,_,c,rfl,?_⟩;refine usePu (zoc n F) rfl (zaa _) rfl ?_;refine ⟨Fz.r F,rfl,?_⟩;refine a _ _ _ ?_ rfl;have g:decide (0 ≤ idx p [1] 0) = true:=by simpa using g
    simp [zbs,props,numOk,g]
   ·refine a _ _ _ ?_ rfl;have g:decide (0 ≤ idx p [1] 0) = false:=by simpa using g
    simp [zbs,props,g]
  ·refine ⟨rfl,by decide,rfl,_,c,rfl,_,e,?_⟩;refine usePu (zd5 F _ [1] p (zjd _ d.h1) (by decide)) rfl (zaa _) rfl ?_;refine ⟨Fz.r F,rfl,fun g=>?_,fun g=>?_⟩
   ·refine ⟨rfl,by decide,rfl,_,c,rfl,?_⟩;refine usePu (zoc n F) rfl (zaa _) rfl ?_;refine ⟨Fz.r F,rfl,?_⟩;refine a _ _ _ ?_ rfl;have g:decide (0 ≤ idx p [1] 0) = true:=by simpa using g
    simp [zbs,props,numOk,g]
   ·refine a _ _ _ ?_ rfl;have g:decide (0 ≤ idx p [1] 0) = false:=by simpa using g
    simp [zbs,props,g]
  ·refine ⟨rfl,by decide,rfl,_,c,rfl,_,e,?_⟩;refine usePu (zd5 F _ [3,5] p (zjd _ d.h2) (by decide)) rfl (zaa _) rfl ?_;refine ⟨Fz.r F,rfl,fun g=>?_,fun g=>?_⟩
   ·refine ⟨rfl,by decide,rfl,_,c,rfl,?_⟩;refine usePu (zzq n F) rfl (zaa _) rfl ?_;refine ⟨Fz.r F,rfl,?_⟩;refine a _ _ _ ?_ rfl;have g:decide (0 ≤ idx p [3,5] 0) = true:=by simpa using g
    simp [zbs,props,numOk,g]
   ·refine a _ _ _ ?_ rfl;have g:decide (0 ≤ idx p [3,5] 0) = false:=by simpa using g
    simp [zbs,props,g]
  ·refine ⟨rfl,by decide,rfl,_,c,rfl,_,e,?_⟩;refine usePu (zd5 F _ [2] p (zjd _ d.h3) (by decide)) rfl (zaa _) rfl ?_;refine ⟨Fz.r F,rfl,fun g=>?_,fun g=>?_⟩
   ·refine ⟨rfl,by decide,rfl,_,c,rfl,?_⟩;refine usePu (zxb n F) rfl (zaa _) rfl ?_;refine ⟨Fz.r F,rfl,?_⟩;refine a _ _ _ ?_ rfl;have g:decide (0 ≤ idx p [2] 0) = true:=by simpa using g
    simp [zbs,props,numOk,g]
   ·refine a _ _ _ ?_ rfl;have g:decide (0 ≤ idx p [2] 0) = false:=by simpa using g
    simp [zbs,props,g]
  ·refine ⟨rfl,by decide,rfl,_,c,rfl,_,e,?_⟩;refine usePu (zd5 F _ [6,7] p (zjd _ d.h4) (by decide)) rfl (zaa _) rfl ?_;refine ⟨Fz.r F,rfl,fun g=>?_,fun g=>?_⟩
   ·refine ⟨rfl,by decide,rfl,_,c,rfl,?_⟩;refine usePu (zoc n F) rfl (zaa _) rfl ?_;refine ⟨Fz.r F,rfl,?_⟩;refine a _ _ _ ?_ rfl;have g:decide (0 ≤ idx p [6,7] 0) = true:=by simpa using g
    simp [zbs,props,numOk,g]
   ·refine a _ _ _ ?_ rfl;have g:decide (0 ≤ idx p [6,7] 0) = false:=by simpa using g
    simp [zbs,props,g]
  ·refine ⟨rfl,by decide,rfl,_,c,rfl,_,e,?_⟩;refine usePu (zd5 F _ [1,2,3,4,5,6,7,8] p (zjd _ d.h5) (by decide)) rfl (zaa _) rfl ?_;refine ⟨Fz.r F,rfl,fun g=>?_,fun g=>?_⟩
   ·refine ⟨rfl,by decide,rfl,_,c,rfl,?_⟩;refine usePu (zoc n F) rfl (zaa _) rfl ?_;refine ⟨Fz.r F,rfl,?_⟩;refine a _ _ _ ?_ rfl;have g:decide (0 ≤ idx p [1,2,3,4,5,6,7,8] 0) = true:=by simpa using g
    simp [zbs,props,numOk,g]
   ·refine a _ _ _ ?_ rfl;have g:decide (0 ≤ idx p [1,2,3,4,5,6,7,8] 0) = false:=by simpa using g
    simp [zbs,props,g]
 ·refine a _ _ _ ?_ rfl;have g:(decide (1 ≤ k) && decide (k ≤ 6)) = false:=not_t g;simp only [zbs,g,ji,Bool.not_false]
def idxF (p:Int):List Stp → Nat → Int
 |[],_=>-1
 |x :: r,n=>if zbs p x = false then n else idxF p r (n + 1)
theorem zyc (p:Int) (l:List Stp) (k:Nat) (h:k < l.length):idxF p (l.drop k) k = if zbs p l[k] = false then (k:Int) else idxF p (l.drop (k + 1)) (k + 1):=by
 rw [qx h]; rfl
theorem zto (p:Int):∀ (l:List Stp) (n:Nat),(0 ≤ idxF p l n) ↔ l.all (zbs p) = false
 |[],n=>by simp [idxF]
 |x :: r,n=>by
  simp only [idxF,qbw];split
  ·rename_i h; simp [h]
  ·rename_i h;have:zbs p x = true:=by simpa using h
   rw [zto p r (n + 1),this]; simp
theorem zpu (F:Fz) (u:SA) (l:List Stp) (i m:Nat) (b:Nat → Nat) (p:Int) (I:za1 F u l) (M:l.length < 1000000) (B:F i = some (.cells 206 (zeq b))) (E:KindsAt F b) (G:F m = some (.cells 3 [.int .i64 p])) :
  Fo Tryz.prog F 232 [.va u,.va (.fn (.func 180) [fp i,fp m])] (fun o n=>o = .ret (.va (.int .i64 (idxF p l 0))) ∧ n = F):=by
 obtain ⟨nil,R,J,Q,O,L,rfl,e,j,y,s⟩:=I
 have d:∀ (x:Int) (h:Hp) (nx:Nat),idxF p l 0 = x → lget h 0 = some (.frz F) →
   Cln 1 (FoK F fun o n=>o = .ret (.va (.int .i64 (idxF p l 0))) ∧ n = F) (.ret (.va (.int .i64 x))) h nx:=by
  intro x h nx D A;exact endPu A (Fz.r F) (oi D) rfl
 refine fo_of hΘ Tryz.func232 rfl (by decide) _ _ rfl rfl rfl ?_
 refine zam hΘ (X:={ k:Nat // k ≤ l.length ∧ idxF p l 0 = idxF p (l.drop k) k }) (fun k=>[(8,.va (.int .i64 k.1))]) [5,9,10,11,12,13,14,15,16,17,18] (fz fun _=>F) 1 (fun k=>l.length - k.1) ⟨0,by simp⟩
  (fun f q=>le0 f q rfl (Fz.r F) rfl ⟨rfl,tv⟩) ?_
 rintro ⟨k,K,c⟩ f q;refine br (fun g=>?_) (fun g=>?_)
 ·have g:k < l.length:=by simpa using g
  refine ⟨Sl.lt e g,⟨by simp,by simpa using g⟩,_,j (Sl.lt e g),_,Sl.at s g,?_⟩;refine usePu (zz7 F i m b p l[k].1 l[k].2 B E G) rfl (zaa _) rfl ?_;conv=>whnf
  rw [zyc p l k g] at c;refine br (fun a=>?_) (fun a=>?_)
  ·conv=>whnf
   have a:zbs p l[k] = false:=not_t a;exact d _ _ _ (c.trans (if_pos a)) rfl
  ·conv=>whnf
   have a:¬ zbs p l[k] = false:=by
    intro h; have w:(!zbs p l[k]) = false:=a; rw [h] at w; cases w
   rw [if_neg a] at c;exact ⟨⟨k + 1,by omega,c⟩,by show l.length - (k + 1) < l.length - k; omega,lr0 f q rfl (Fz.r F) rfl ⟨cnt (by omega),tv⟩⟩
 ·conv=>whnf
  have g:¬ k < l.length:=by simpa using g
  rw [yg (by omega)] at c;exact d _ _ _ c rfl
theorem zj9 (F:Fz) (c:SA) (l:List Stp) (a d:Nat) (b:Nat → Nat) (p:Int) (e:za1 F c l) (g:l.length < 1000000) (i:F a = some (.cells 206 (zeq b))) (j:KindsAt F b) (q:F d = some (.cells 3 [.int .i64 p])) :
  Fo Tryz.prog F 179 [.va c,.va (.fn (.func 180) [fp a,fp d])] (fun o n=>o = .ret (.va (.bool (!l.all (zbs p)))) ∧ n = F):=by
 have h:=zpu F c l a d b p e g i j q;obtain ⟨nil,D,w,B,y,x,rfl,m,k,f,u⟩:=e;refine fo_of hΘ Tryz.func179 rfl (by decide) _ _ rfl rfl rfl ?_;refine usePu h rfl (zaa _) rfl ?_;refine endPu rfl (Fz.r F) (ob ?_) rfl;have:=zto p l 0;cases h:l.all (zbs p) with
 |true => rw [h] at this; simp; have A : ¬ (0 ≤ idxF p l 0) := fun s => by have := this.1 s; cases this
          omega
 |false=>rw [h] at this; simp; exact this.2 rfl
def zbb (p:Int) (l:List Stp):Bool:=(decide (1 ≤ p) && decide (p ≤ 8)) && (decide (l.length ≤ 64) && l.all (zbs p))
theorem zjs (F:Fz) (k:SA) (l:List Stp) (p:Int) (s:za1 F k l) (y:l.length < 1000000) :
  Fo Tryz.prog F 128 [.va (.int .i64 p),.va k] (fun o e=>o = .ret (.va (.bool (zbb p l))) ∧ e = F):=by
 have h:=fun e (c:Fz.le F e) j n b=>zj9 e k l j n b p (s.mono c) y
 obtain ⟨nil,R,K,Q,O,L,rfl,G,E,u,J⟩:=s
 have d:∀ (F1:Fz) (x:Bool) (h:Hp) (nx:Nat),zbb p l = x → lget h 0 = some (.frz F1) → Fz.le F F1 →
   Cln 1 (FoK F fun o e=>o = .ret (.va (.bool (zbb p l))) ∧ e = F) (.ret (.va (.bool x))) h nx:=by
  intro F1 x h nx A w c;exact endPu w c (ob A) rfl
 refine fo_of hΘ Tryz.func128 rfl (by decide) _ _ rfl rfl rfl ?_;refine useFo (zuz F) rfl (zaa _) rfl ?_;rintro _ F1 i ⟨b,rfl,D⟩;refine usePu (zd0 p 1 8 F1) rfl (zaa _) rfl ?_;refine ⟨fun g=>?_,fun g=>?_⟩
 ·refine ⟨fun a=>?_,fun a=>?_⟩
  ·refine za7 1 (fun _=>.cells 3 [.int .i64 p]) rfl rfl rfl (fun _ _=>rfl) (fun _ _=>SB.bB_ok rfl) ?_;intro n M m I;refine za7 2 (fun _=>.cells 206 (zeq b)) rfl rfl rfl (fun _ _=>rfl) (fun _ _=>SB.bB_ok rfl) ?_;intro j q f B;refine usePu (h q (Fz.t i (Fz.t m f)) (j 0) (n 0) b (B 0 rfl) (D.mono (Fz.t m f)) (f _ _ (I 0 rfl))) rfl (zaa _) rfl ?_;refine d q _ _ _ ?_ rfl (Fz.t i (Fz.t m f));have a:decide (l.length ≤ 64) = true:=by simp at a ⊢; omega
   simp [zbb,g,a]
  ·refine d F1 _ _ _ ?_ rfl i;have a:decide (l.length ≤ 64) = false:=by simp at a ⊢; omega
   simp only [zbb,a,ji,yd]
 ·refine d F1 _ _ _ ?_ rfl i;simp only [zbb,g,ji]
def pickI (c n:Int):Int:=(if c < 0 then -(c + 1) else c).tmod n
def i64 (c:Int):Prop:=-9223372036854775808 ≤ c ∧ c ≤ 9223372036854775807
theorem zco (c n:Int) (a:0 < n) (b:i64 c):0 ≤ pickI c n ∧ pickI c n < n:=by
 unfold pickI; unfold i64 at b;split
 ·exact ⟨qck _ (by omega),qb1 _ a⟩
 ·exact ⟨qck _ (by omega),qb1 _ a⟩
def mn (l:List Int):Int:=match l with
 |[]=>0
 |x :: r=>r.foldl (fun m x=>if x < m then x else m) x
def mx (l:List Int):Int:=match l with
 |[]=>0
 |x :: r=>r.foldl (fun m x=>if x > m then x else m) x
theorem z8z (l:List Int) (x:Int):mn (l ++ [x]) = if l = [] then x else if x < mn l then x else mn l:=by
 cases l with
 |nil=>simp [mn]
 |cons a r=>simp only [mn,yh,qa1,y5,qa8]; rw [if_neg (show ¬ (a :: r = []) by simp)]; rfl
theorem yaj (l:List Int) (x:Int):mx (l ++ [x]) = if l = [] then x else if x > mx l then x else mx l:=by
 cases l with
 |nil=>simp [mx]
 |cons a r=>simp only [mx,yh,qa1,y5,qa8]; rw [if_neg (show ¬ (a :: r = []) by simp)]; rfl
theorem zzj {α:Type} {l:List α} {k:Nat} (h1:1 ≤ k) (a:k ≤ l.length):¬ l.take k = []:=by
 intro h; have:=congrArg List.length h; rw [qq] at this; simp only [qt] at this; omega
theorem ei {k:IntKind} {a b:Int} (h:a = b):SA.int k a = SA.int k b:=by rw [h]
theorem ycr (F:Fz) (i:SA) (l:List Int) (x:zek F i l) (A:l.length < 1000000) (b:0 < l.length) :
  Fo Tryz.prog F 199 [.va i] (fun o q=>o = .ret (.va (.int .i64 (mx l))) ∧ q = F):=by
 obtain ⟨u,m,s,w,p,y,rfl,a,c,n,d⟩:=x;refine fo_of hΘ Tryz.func199 rfl (by decide) _ _ rfl rfl rfl ?_;refine br (fun g=>?_) (fun g=>?_)
 ·simp at g; omega
 ·refine ⟨Sl.lt a b,⟨by simp,by simpa using b⟩,_,c (Sl.lt a b),_,Sl.at d b,?_⟩;conv=>whnf
  have h1:mx (l.take 1) = l[0]:=by
   rw [qg b]; simp [mx]
  refine zam hΘ (X:={ k:Nat // 1 ≤ k ∧ k ≤ l.length }) (fun k=>[(3,.va (.int .i64 (mx (l.take k.1)))),(4,.va (.int .i64 k.1))]) [12,13,14,15,16,17,18,19,20,21,22,23] (fz fun _=>F) 1 (fun k=>l.length - k.1) ⟨1,by omega⟩
   (fun e h=>le0 e h rfl (Fz.r F) rfl ⟨ei h1,rfl,tv⟩) ?_
  rintro ⟨k,f,j⟩ e h;refine br (fun g=>?_) (fun g=>?_)
  ·have g:k < l.length:=by simpa using g
   refine ⟨Sl.lt a g,⟨by simp,by simpa using g⟩,_,c (Sl.lt a g),_,Sl.at d g,⟨k + 1,by omega,by omega⟩,by show l.length - (k + 1) < l.length - k; omega,lr0 e h rfl (Fz.r F) rfl ⟨ei ?_,cnt (by omega),tv⟩⟩;show mx (l.take (k + 1)) = _;rw [qg g,yaj,if_neg (zzj f j)]
  ·conv=>whnf
   have g:¬ k < l.length:=by simpa using g
   refine endPu rfl (Fz.r F) (oi ?_) rfl;show mx l = mx (l.take k);rw [qn (by omega)]
theorem ycp (F:Fz) (i:SA) (l:List Int) (x:zek F i l) (A:l.length < 1000000) (b:0 < l.length) :
  Fo Tryz.prog F 200 [.va i] (fun o q=>o = .ret (.va (.int .i64 (mn l))) ∧ q = F):=by
 obtain ⟨u,m,s,w,p,y,rfl,a,c,n,d⟩:=x;refine fo_of hΘ Tryz.func200 rfl (by decide) _ _ rfl rfl rfl ?_;refine br (fun g=>?_) (fun g=>?_)
 ·simp at g; omega
 ·refine ⟨Sl.lt a b,⟨by simp,by simpa using b⟩,_,c (Sl.lt a b),_,Sl.at d b,?_⟩;conv=>whnf
  have h1:mn (l.take 1) = l[0]:=by
   rw [qg b]; simp [mn]
  refine zam hΘ (X:={ k:Nat // 1 ≤ k ∧ k ≤ l.length }) (fun k=>[(3,.va (.int .i64 (mn (l.take k.1)))),(4,.va (.int .i64 k.1))]) [12,13,14,15,16,17,18,19,20,21,22,23] (fz fun _=>F) 1 (fun k=>l.length - k.1) ⟨1,by omega⟩
   (fun e h=>le0 e h rfl (Fz.r F) rfl ⟨ei h1,rfl,tv⟩) ?_
  rintro ⟨k,f,j⟩ e h;refine br (fun g=>?_) (fun g=>?_)
  ·have g:k < l.length:=by simpa using g
   refine ⟨Sl.lt a g,⟨by simp,by simpa using g⟩,_,c (Sl.lt a g),_,Sl.at d g,⟨k + 1,by omega,by omega⟩,by show l.length - (k + 1) < l.length - k; omega,lr0 e h rfl (Fz.r F) rfl ⟨ei ?_,cnt (by omega),tv⟩⟩;show mn (l.take (k + 1)) = _;rw [qg g,z8z,if_neg (zzj f j)]
  ·conv=>whnf
   have g:¬ k < l.length:=by simpa using g
   refine endPu rfl (Fz.r F) (oi ?_) rfl;show mn l = mn (l.take k);rw [qn (by omega)]
theorem zhz (F:Fz) (x w:SA) (a b:List Stp) (V:za1 F x a) (U:za1 F w b) (la:a.length < 1000000) :
  Fo Tryz.prog F 63 [.va x,.va w] (fun o p=>o = .ret (.va (.bool (decide (a = b)))) ∧ p = F):=by
 obtain ⟨S,A,O,T,L,W,rfl,f,n,B,u⟩:=V;obtain ⟨E,M,K,R,y,D,rfl,i,l,I,m⟩:=U
 have c:∀ (v:Bool) (h:Hp) (nx:Nat),v = decide (a = b) → lget h 0 = some (.frz F) →
   Cln 1 (FoK F fun o p=>o = .ret (.va (.bool (decide (a = b)))) ∧ p = F) (.ret (.va (.bool v))) h nx:=by
  intro v h nx J G;exact endPu G (Fz.r F) (by rw [J]; rfl) rfl
 refine fo_of hΘ Tryz.func63 rfl (by decide) _ _ rfl rfl rfl ?_;refine br (fun g=>?_) (fun g=>?_)
 ·refine c _ _ _ ?_ rfl;have:¬ a = b:=by rintro rfl; simp at g
  simp [this]
 ·have Z:a.length = b.length:=neq_f g
  refine zam hΘ (X:={ k:Nat // k ≤ a.length ∧ a.take k = b.take k }) (fun k=>[(13,.va (.int .i64 k.1))]) [4,5,14,15,16,17,18,19,20,21,22,23,24,25] (fz fun _=>F) 1 (fun k=>a.length - k.1) ⟨0,by simp⟩
   (fun j q=>le0 j q rfl (Fz.r F) rfl ⟨rfl,tv⟩) ?_
  rintro ⟨k,Y,s⟩ j q;refine br (fun g=>?_) (fun g=>?_)
  ·have g:k < a.length:=by simpa using g
   have e:k < b.length:=by omega
   refine draw hΘ mixed [(0,true),(1,true),(2,true),(3,true),(4,true),(5,true),(6,true),(7,true),(8,true)] [] (by kernel_rfl) ?_;refine ⟨Sl.lt f g,⟨by simp,by simpa using g⟩,rfl,_,n (Sl.lt f g),_,Sl.at u g,Sl.lt i e,⟨by simp,by simpa using e⟩,rfl,_,l (Sl.lt i e),_,Sl.at m e,_,agg50 _ _ _ _,?_⟩;refine br (fun d=>?_) (fun d=>?_)
   ·refine c _ _ _ ?_ rfl;have:¬ a = b:=by rintro rfl; simp at d
    simp [this]
   ·refine ⟨⟨k + 1,by omega,?_⟩,by show a.length - (k + 1) < a.length - k; omega,lr0 j q rfl (Fz.r F) rfl ⟨cnt (by omega),tv⟩⟩
    have Q:a[k] = b[k]:=by
     simp at d; exact Prod.ext d.1 d.2
    rw [qg g,qg e,s,Q]
  ·refine c _ _ _ ?_ rfl;have g:¬ k < a.length:=by simpa using g
   have h1:a = b:=by
    rw [qn (by omega),qn (by omega)] at s; exact s
   simp [h1]
def sel (κ:Int) (l:List Stp):List Int:=(l.filter fun s=>decide (s.1 = κ)).map (·.2)
theorem z8y (κ:Int) (l:List Stp) (k:Nat) (g:k < l.length) (h:l[k].1 = κ):sel κ (l.take (k + 1)) = sel κ (l.take k) ++ [l[k].2]:=by
 rw [qg g,sel,qcu,jj]; simp [sel,h]
theorem yda (κ:Int) (l:List Stp) (k:Nat) (g:k < l.length) (h:¬ l[k].1 = κ):sel κ (l.take (k + 1)) = sel κ (l.take k):=by
 rw [qg g,sel,qcu,jj]; simp [sel,h]
theorem ycv (κ:Int) (l:List Stp):(sel κ l).length ≤ l.length:=by
 unfold sel; rw [qa]; exact qad _ _
theorem wadd (a b:Nat) (h:a < 1000000) (c:b < 1000000):IntKind.i64.wrap ((a:Int) + (b:Int)) = ((a + b:Nat):Int):=by rw [zaj (by omega) (by omega)]; omega
abbrev zsx (F:Fz) (sl:SA) (b:List (List Stp)):Prop:=SlR F 50 1 (fun y x=>∃ a,y = [a] ∧ za1 F a x) sl b
theorem zzc (F:Fz) (sl:SA) (d:List (List Stp)) (V:zsx F sl d) (hn:d.length < 1000) (hl:d.flatten.length < 1000000) :
  Fo Tryz.prog F 198 [.va sl] (fun o M=>∃ T,o = .ret (.va T) ∧ za1 M T d.flatten):=by
 obtain ⟨sn,sb,se,Y,sL,sr,rfl,s,S,s3,R⟩:=V;refine fo_of hΘ Tryz.func198 rfl (by decide) _ _ rfl rfl rfl ?_
 refine zam hΘ (X:={ k:Nat // k ≤ d.length }) (fun k=>[(3,.va (.int .i64 (d.take k.1).flatten.length)),(11,.va (.int .i64 k.1))]) [5,12,13,14,15,16,17,18,19,20,21,22] (fz fun _=>F) 1 (fun k=>d.length - k.1) ⟨0,by simp⟩
  (fun h i=>le0 h i rfl (Fz.r F) rfl ⟨rfl,rfl,tv⟩) ?_
 rintro ⟨k,K⟩ h i;refine br (fun g=>?_) (fun g=>?_)
 ·have g:k < d.length:=by simpa using g
  conv=>whnf
  have f:=SlR.at R g;obtain ⟨y,u,a,rfl,G⟩:=f;obtain ⟨m,w,D,E,B,I,rfl,p,l,j,q⟩:=G;have f1:=zc6 d k;have f2:=zc6 d (k + 1);rw [zda g,qd] at f2;refine ⟨SlR.lt s g,⟨by simp,by simpa using g⟩,_,S (SlR.lt s g),_,u,?_⟩;conv=>whnf
  have U:=wadd (d.take k).flatten.length d[k].length (by omega) (by omega);refine br (fun g=>absurd g ?_) (fun _=>?_)
  ·rw [U]; simp; omega
  refine ⟨⟨k + 1,by omega⟩,by show d.length - (k + 1) < d.length - k; omega,lr0 h i rfl (Fz.r F) rfl ⟨ei ?_,cnt (by omega),tv⟩⟩;rw [zda g,qd]; exact U.symm
 ·have g : k = d.length := by have : ¬ k < d.length := by simpa using g
                              omega
  have J:(d.take k).flatten = d.flatten:=by rw [qn (by omega)]
  have A:(d.take k).flatten.length = d.flatten.length:=by rw [J]
  have L:IntKind.i64.wrap (((d.take k).flatten.length:Int) - IntKind.i64.wrap (0 - 0)) = d.flatten.length:=by
   rw [zaj (n:=0 - 0) (by omega) (by omega),A,zaj (by omega) (by omega)]; omega
  refine zhf hΘ Tryz.func251 rfl (by decide) _ _ rfl rfl rfl (zcu hΘ _ _ _ ?_);refine brd (by simp) ?_;refine br (fun g=>?_) (fun g=>?_)
  ·have gp:0 < d.flatten.length:=by rw [L] at g; simpa using g
   refine ⟨⟨by decide,by decide⟩,rfl,rfl,by rw [L]; omega,by rw [L]; show (d.flatten.length:Int) * (16:Int) ≤ 140737488355328; omega,fun c hc=>?_⟩;refine ⟨⟨by decide,by simp⟩,?_⟩
   refine zam hΘ (X:={ x:Nat × Nat // x.1 ≤ d.length }) (fun x=>[(6,.va (.slice false 2 0 0 2 (d.take x.1.1).flatten.length x.1.2)),(27,.va (.int .i64 x.1.1))]) [8,28,29,30,31,32,33,34]
    (fun x=>[(0,.frz F),(1,.gone),(2,.one (.arr 56 2 ((d.take x.1.1).flatten.map enc) x.1.2))]) 3 (fun x=>d.length - x.1.1) ⟨(0,c),by simp⟩
    (fun h i=>leI [(2,1)] h i rfl ⟨tv,tv,zd6 _ _ 0,tv⟩ ⟨⟨rfl,rfl,rfl,.inr ⟨rfl,rfl,by split<;>rfl,rfl⟩⟩,rfl,tv⟩ ⟨Fz.r F,rfl,tv⟩) ?_
   rintro ⟨⟨k,c⟩,K⟩ h i;replace K:k ≤ d.length:=K;refine br (fun g=>?_) (fun g=>?_)
   ·have g:k < d.length:=by simpa using g
    conv=>whnf
    have f:=SlR.at R g;obtain ⟨y,u,a,rfl,G⟩:=f;obtain ⟨m,w,D,E,B,I,rfl,p,l,j,q⟩:=G;refine ⟨SlR.lt s g,⟨by simp,by simpa using g⟩,_,S (SlR.lt s g),_,u,?_⟩;have f1:=zc6 d k;have f2:=zc6 d (k + 1);have f3:=zda g;rw [f3,qd] at f2
    have step:∀ (X:List (List SA)) (c':Nat),X = d[k].map enc → (SB.arr 56 2 ((d.take k).flatten.map enc ++ X) c') = SB.ren (sig [(2,3)]) (.arr 56 2 ((d.take (k + 1)).flatten.map enc) c'):=by
     intro X c' Z;rw [zgx,f3,jj,Z]
    rcases m with _ | _
    ·refine ⟨_,_,_,l rfl,j,_,q,rfl,(qa _).symm,rfl,by simp only [qa]; show _ * 16 ≤ _; omega,fun c' O=>?_⟩;refine ⟨⟨(k + 1,c'),by show k + 1 ≤ d.length; omega⟩,by show d.length - (k + 1) < d.length - k; omega,leR [(2,3)] h i rfl ⟨tv,tv,zd6 _ _ 0,tv⟩ ⟨⟨rfl,?_,rfl,.inr ⟨rfl,rfl,rfl,rfl⟩⟩,cnt (by omega),tv⟩ ⟨Fz.r F,step _ _ rfl,tv⟩⟩;show (d.take (k + 1)).flatten.length = (d.take k).flatten.length + (d[k].map enc).length;rw [qa,f3,qd]
    ·have e:d[k] = []:=p rfl;refine ⟨by rw [e]; rfl,rfl,(qa _).symm,rfl,by show _ * 16 ≤ _; simp only [qt,qas]; omega,fun c' O=>?_⟩;refine ⟨⟨(k + 1,c'),by show k + 1 ≤ d.length; omega⟩,by show d.length - (k + 1) < d.length - k; omega,leR [(2,3)] h i rfl ⟨tv,tv,zd6 _ _ 0,tv⟩ ⟨⟨rfl,?_,rfl,.inr ⟨rfl,rfl,rfl,rfl⟩⟩,cnt (by omega),tv⟩ ⟨Fz.r F,step _ _ (by rw [e]; rfl),tv⟩⟩;show (d.take (k + 1)).flatten.length = (d.take k).flatten.length + 0;rw [f3,qd,e]; rfl
   ·have W : k = d.length := by have : ¬ k < d.length := by simpa using g
                                omega
    have J:(d.take k).flatten = d.flatten:=by rw [qn (by omega)]
    refine zbn 2 (fun _=>.arr 56 2 (d.flatten.map enc) c) rfl rfl rfl (fun _ _=>?_) (fun _ _=>zd6 _ _ _) ?_
    ·refine (zgx _ (d.take k).flatten c).trans ?_;rw [J]
    intro b M Q hb;refine endFo (.ret (.va (.slice false 0 (b 0) 0 2 d.flatten.length c))) M rfl Q (Fz.r M) ⟨_,rfl,Sl.new (hb 0 rfl)⟩ ?_ rfl;exact ⟨rfl,by show d.flatten.length = (d.take k).flatten.length; rw [J],rfl,.inr ⟨rfl,rfl,rfl,rfl⟩⟩
  ·have gp:d.flatten = []:=y8.1 (by rw [L] at g; simp only [decide_eq_false_iff_not] at g; omega)
   refine zam hΘ (X:={ k:Nat // k ≤ d.length }) (fun k=>[(6,.va .nilsl),(27,.va (.int .i64 k.1))]) [8,28,29,30,31,32,33,34] (fz fun _=>F) 1 (fun k=>d.length - k.1) ⟨0,by simp⟩
    (fun h i=>le0 h i rfl (Fz.r F) rfl ⟨rfl,rfl,tv⟩) ?_
   rintro ⟨k,K⟩ h i;refine br (fun g=>?_) (fun g=>?_)
   ·have g:k < d.length:=by simpa using g
    have e:d[k] = []:=by
     have:=List.flatten_eq_nil_iff.1 gp d[k] (jp g); exact this
    conv=>whnf
    have f:=SlR.at R g;obtain ⟨y,u,a,rfl,G⟩:=f;obtain ⟨m,w,D,E,B,I,rfl,p,l,j,q⟩:=G;refine ⟨SlR.lt s g,⟨by simp,by simpa using g⟩,_,S (SlR.lt s g),_,u,?_⟩;rcases m with _ | _
    ·refine ⟨_,_,_,l rfl,j,[],by rw [e]; rfl,rfl,rfl,?_⟩;exact ⟨⟨k + 1,by omega⟩,by show d.length - (k + 1) < d.length - k; omega,lr0 h i rfl (Fz.r F) rfl ⟨rfl,cnt (by omega),tv⟩⟩
    ·refine ⟨by rw [e]; rfl,rfl,rfl,?_⟩;exact ⟨⟨k + 1,by omega⟩,by show d.length - (k + 1) < d.length - k; omega,lr0 h i rfl (Fz.r F) rfl ⟨rfl,cnt (by omega),tv⟩⟩
   ·exact endFo (.ret (.va (.slice true 0 0 0 2 0 0))) F rfl (Fz.r F) (Fz.r F) ⟨_,rfl,by rw [gp]; exact Sl.nil⟩ ⟨rfl,rfl,rfl⟩ rfl
end Go.Proofs.YtfnkamphhpldcaaGreatDoor
