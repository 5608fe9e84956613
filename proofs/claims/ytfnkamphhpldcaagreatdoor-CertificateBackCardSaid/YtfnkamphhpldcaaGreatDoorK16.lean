import Derived.Test.YtfnkamphhpldcaaGreatDoorK11
set_option maxHeartbeats 64000000
namespace Go.Proofs.YtfnkamphhpldcaaGreatDoor
open Go Sx
set_option maxRecDepth 100000
def idx (v:Int):List Int → Nat → Int
 |[],_=>-1
 |x :: r,n=>if v = x then n else idx v r (n + 1)
theorem z04 (v:Int) (l:List Int) (k:Nat) (h:k < l.length):idx v (l.drop k) k = if v = l[k] then (k:Int) else idx v (l.drop (k + 1)) (k + 1):=by
 rw [qv h]; rfl
theorem zz7 (F:Fz) (sa:SA) (l:List Int) (v:Int) (ha:zd7 F sa l) (hl:l.length < 1000000) :
  Fo Tryz.prog F 233 [.va sa,.va (.int .i64 v)] (fun o F'=>o = .ret (.va (.int .i64 (idx v l 0))) ∧ F' = F):=by
 obtain ⟨nil,ba,ea,ca,La,ra,rfl,ha1,ha2,ha3,ha4⟩:=ha
 have fin:∀ (x:Int) (h:Hp) (nx:Nat),x = idx v l 0 → lget h 0 = some (.frz F) →
   Cln 1 (FoK F fun o F'=>o = .ret (.va (.int .i64 (idx v l 0))) ∧ F' = F) (.ret (.va (.int .i64 x))) h nx:=by
  intro x h nx hv h0
  exact endPu h0 (Fz.r F) (by rw [hv]; rfl) rfl
 refine fo_of hΘ Tryz.func233 rfl (by decide) _ _ rfl rfl rfl ?_;conv=>whnf
 refine zan hΘ (X:={ k:Nat // k ≤ l.length ∧ idx v l 0 = idx v (l.drop k) k }) (fun k=>[(8,.va (.int .i64 k.1))]) [5,9,10,11,12,13,14,15,16,17,18] (fz fun _=>F) 1 (fun k=>l.length - k.1) ⟨0,by simp⟩
  (fun hH hT=>le0 hH hT rfl (Fz.r F) rfl ⟨rfl,tv⟩) ?_
 rintro ⟨k,hk,hp⟩ hH hT;conv=>whnf
 refine br (fun g=>?_) (fun g=>?_)
 ·have g:k < l.length:=by simpa using g
  conv=>whnf
  refine ⟨Sl.lt ha1 g,⟨by simp,by simpa using g⟩,?_⟩;conv=>whnf
  refine ⟨_,ha2 (Sl.lt ha1 g),?_⟩;conv=>whnf
  refine ⟨_,Sl.at ha4 g,?_⟩;conv=>whnf
  rw [z04 v l k g] at hp
  refine br (fun g2=>?_) (fun g2=>?_)
  ·conv=>whnf
   refine fin _ _ _ ?_ rfl
   have g2:v = l[k]:=by simpa using g2
   exact (hp.trans (if_pos g2)).symm
  ·conv=>whnf
   have g2:¬ v = l[k]:=by simpa using g2
   rw [if_neg g2] at hp
   exact ⟨⟨k + 1,by omega,hp⟩,by show l.length - (k + 1) < l.length - k; omega,lr0 hH hT rfl (Fz.r F) rfl ⟨cnt (by omega),tv⟩⟩
 ·conv=>whnf
  refine fin _ _ _ ?_ rfl
  have g:¬ k < l.length:=by simpa using g
  rw [jq (by omega)] at hp; exact hp.symm
theorem Sl.z {α:Type} {F:Fz} {t sz:Nat} {enc:α → List SA} {a:SA} {l:List α} (h:Sl F t sz enc a l):a.z = true:=by
 obtain ⟨nil,b,e,cap,L,room,rfl,_⟩:=h; rfl
theorem zdu (F:Fz) (sa:SA) (l:List Int) (v:Int) (ha:zd7 F sa l) (hl:l.length < 1000000) :
  Fo Tryz.prog F 181 [.va sa,.va (.int .i64 v)] (fun o F'=>o = .ret (.va (.bool (decide (0 ≤ idx v l 0)))) ∧ F' = F):=by
 have h:=zz7 F sa l v ha hl
 obtain ⟨nil,ba,ea,ca,La,ra,rfl,ha1,ha2,ha3,ha4⟩:=ha
 refine fo_of hΘ Tryz.func181 rfl (by decide) _ _ rfl rfl rfl ?_;conv=>whnf
 refine usePu h rfl ⟨⟨rfl,rfl,rfl,.inr ⟨rfl,rfl,rfl,rfl⟩⟩,rfl,tv⟩ rfl ?_;conv=>whnf
 exact endPu rfl (Fz.r F) rfl rfl
theorem ze9 (a:SA):atomE a a:=by
  cases a<;>simp [atomE]
theorem zel:∀ l:List SC,tupE l l
  | []=>trivial
  | .va a :: r=>⟨ze9 a,zel r⟩
  | .agg _ :: r=>⟨rfl,zel r⟩
theorem zhk (v:SV):svE v v:=by
  cases v with
  | va a=>exact ze9 a
  | agg l=>rfl
  | tup l=>exact zel l
  | junk=>rfl
theorem zaa:∀ l:List SV,argsE l l
  | []=>trivial
  | v :: r=>⟨zhk v,zaa r⟩
theorem zaj (o:Out):outE o o:=by
  cases o with
  | ret v=>exact zhk v
  | panic v=>rfl
theorem ob {a b:Bool} (h:a = b):outE (.ret (.va (.bool a))) (.ret (.va (.bool b))):=by rw [h]; exact zaj _
theorem oi {k:IntKind} {a b:Int} (h:a = b):outE (.ret (.va (.int k a))) (.ret (.va (.int k b))):=by rw [h]; exact zaj _
theorem zdi (n lo hi:Int):Pu Tryz.prog 178 [.va (.int .i64 n),.va (.int .i64 lo),.va (.int .i64 hi)] (.va (.bool (decide (lo ≤ n) && decide (n ≤ hi)))):=by
  intro F
  refine fo_of hΘ Tryz.func178 rfl (by decide) _ _ rfl rfl rfl ?_;conv=>whnf
  refine ⟨fun g=>?_,fun g=>?_⟩
  · conv=>whnf
    refine endPu rfl (Fz.r F) (ob ?_) rfl
    rw [g,y5]
  · conv=>whnf
    refine endPu rfl (Fz.r F) (ob ?_) rfl
    rw [g,qt]
theorem zmf (n:Int):Pu Tryz.prog 186 [.va (.int .i64 n)] (.va (.bool (decide (n = 0)))):=by
  intro F
  refine fo_of hΘ Tryz.func186 rfl (by decide) _ _ rfl rfl rfl ?_;conv=>whnf
  exact endPu rfl (Fz.r F) rfl rfl
theorem zuw (n:Int):Pu Tryz.prog 190 [.va (.int .i64 n)] (.va (.bool (decide (n = 10) || decide (n = 100) || decide (n = 1000)))):=by
  intro F
  refine fo_of hΘ Tryz.func190 rfl (by decide) _ _ rfl rfl rfl ?_;conv=>whnf
  refine ⟨fun g=>?_,fun g=>?_⟩
  · conv=>whnf
    refine ⟨fun g2=>?_,fun g2=>?_⟩
    · conv=>whnf
      refine endPu rfl (Fz.r F) (ob ?_) rfl
      rw [g,g2,qa4,qa4]
    · conv=>whnf
      refine endPu rfl (Fz.r F) (ob ?_) rfl
      rw [g,g2]; rfl
  · conv=>whnf
    refine endPu rfl (Fz.r F) (ob ?_) rfl
    rw [g]; rfl
theorem zw6 (n:Int):Pu Tryz.prog 192 [.va (.int .i64 n)] (.va (.bool (decide (0 ≤ n) && decide (n ≤ 6)))):=by
  intro F
  refine fo_of hΘ Tryz.func192 rfl (by decide) _ _ rfl rfl rfl ?_;conv=>whnf
  refine usePu (zdi n 0 6 F) rfl (zaa _) rfl ?_;conv=>whnf
  exact endPu rfl (Fz.r F) rfl rfl
abbrev fp (b:Nat):Pl:=⟨0,b,0,0,0⟩
theorem zml (F:Fz) (g:Nat):Fo Tryz.prog F 187 [.va (.fn (.func g) [])] (fun o F'=>∃ b,o = .ret (.va (.fn (.func 246) [fp b])) ∧ F' b = some (.cells 262 [.fn (.func g) []])):=by
  refine fo_of hΘ Tryz.func187 rfl (by decide) _ _ rfl rfl rfl ?_;conv=>whnf
  refine zbl 1 (fun _=>.cells 262 [.fn (.func g) []]) rfl rfl rfl (fun _ _=>rfl) (fun _ _=>SB.bB_ok rfl) ?_
  intro b F' hle hb
  exact endFo (.ret (.va (.fn (.func 246) [fp (b 0)]))) F' rfl hle (Fz.r F') ⟨b 0,rfl,hb 0 rfl⟩ rfl rfl
def zec (b:Nat → Nat):List SA:=
  [.nilsl,.nilfn,.nilfn,
   .slice false 0 (b 0) 0 1 1 1,.fn (.func 186) [],.fn (.func 246) [fp (b 6)],
   .slice false 0 (b 1) 0 1 1 1,.fn (.func 186) [],.fn (.func 246) [fp (b 7)],
   .slice false 0 (b 2) 0 1 2 2,.fn (.func 190) [],.fn (.func 246) [fp (b 8)],
   .slice false 0 (b 3) 0 1 1 1,.fn (.func 192) [],.fn (.func 246) [fp (b 9)],
   .slice false 0 (b 4) 0 1 2 2,.fn (.func 186) [],.fn (.func 194) [],
   .slice false 0 (b 5) 0 1 8 8,.fn (.func 186) [],.fn (.func 195) []]
def eI (l:List Int):SB:=.arr 3 1 (l.map encI) l.length
def eF (g:Nat):SB:=.cells 262 [.fn (.func g) []]
structure KindsAt (F:Fz) (b:Nat → Nat):Prop where
  h0:F (b 0) = some (eI [1])
  h1:F (b 1) = some (eI [1])
  h2:F (b 2) = some (eI [3,5])
  h3:F (b 3) = some (eI [2])
  h4:F (b 4) = some (eI [6,7])
  h5:F (b 5) = some (eI [1,2,3,4,5,6,7,8])
  h6:F (b 6) = some (eF 188)
  h7:F (b 7) = some (eF 189)
  h8:F (b 8) = some (eF 191)
  h9:F (b 9) = some (eF 193)
theorem KindsAt.mono {F F':Fz} {b:Nat → Nat} (h:KindsAt F b) (hle:Fz.le F F'):KindsAt F' b:=
  ⟨hle _ _ h.h0,hle _ _ h.h1,hle _ _ h.h2,hle _ _ h.h3,hle _ _ h.h4,hle _ _ h.h5,hle _ _ h.h6,hle _ _ h.h7,hle _ _ h.h8,hle _ _ h.h9⟩
theorem zr4 (F:Fz):Fo Tryz.prog F 130 [] (fun o F'=>∃ b,o = .ret (.agg (zec b)) ∧ KindsAt F' b):=by
  refine fo_of hΘ Tryz.func130 rfl (by decide) _ _ rfl rfl rfl ?_;conv=>whnf
  refine useFo (zml F 188) rfl (zaa _) rfl ?_
  rintro _ F1 l1 ⟨b6,rfl,h6⟩;conv=>whnf
  refine useFo (zml F1 189) rfl (zaa _) rfl ?_
  rintro _ F2 l2 ⟨b7,rfl,h7⟩;conv=>whnf
  refine useFo (zml F2 191) rfl (zaa _) rfl ?_
  rintro _ F3 l3 ⟨b8,rfl,h8⟩;conv=>whnf
  refine useFo (zml F3 193) rfl (zaa _) rfl ?_
  rintro _ F4 l4 ⟨b9,rfl,h9⟩;conv=>whnf
  refine zbl 2 (fun _=>eI [1]) rfl rfl rfl (fun _ _=>rfl) (fun _ _=>SB.bB_ok rfl) ?_
  intro c0 G0 m0 k0
  refine zbl 3 (fun _=>eI [1]) rfl rfl rfl (fun _ _=>rfl) (fun _ _=>SB.bB_ok rfl) ?_
  intro c1 G1 m1 k1
  refine zbl 4 (fun _=>eI [3,5]) rfl rfl rfl (fun _ _=>rfl) (fun _ _=>SB.bB_ok rfl) ?_
  intro c2 G2 m2 k2
  refine zbl 5 (fun _=>eI [2]) rfl rfl rfl (fun _ _=>rfl) (fun _ _=>SB.bB_ok rfl) ?_
  intro c3 G3 m3 k3
  refine zbl 6 (fun _=>eI [6,7]) rfl rfl rfl (fun _ _=>rfl) (fun _ _=>SB.bB_ok rfl) ?_
  intro c4 G4 m4 k4
  refine zbl 7 (fun _=>eI [1,2,3,4,5,6,7,8]) rfl rfl rfl (fun _ _=>rfl) (fun _ _=>SB.bB_ok rfl) ?_
  intro c5 G5 m5 k5
  refine endFo (.ret (.agg (zec fun n=>match n with | 0=>c0 0 | 1=>c1 0 | 2=>c2 0 | 3=>c3 0 | 4=>c4 0 | 5=>c5 0 | 6=>b6 | 7=>b7 | 8=>b8 | _=>b9))) G5 rfl ?_ (Fz.r _) ⟨_,rfl,?_⟩ rfl rfl
  · exact fun b B h=>m5 _ _ (m4 _ _ (m3 _ _ (m2 _ _ (m1 _ _ (m0 _ _ (l4 _ _ (l3 _ _ (l2 _ _ (l1 _ _ h)))))))))
  · have M1:=m5; have M2:=Fz.t m4 M1; have M3:=Fz.t m3 M2; have M4:=Fz.t m2 M3; have M5:=Fz.t m1 M4; have M6:=Fz.t m0 M5
    have M7:=Fz.t l4 M6; have M8:=Fz.t l3 M7; have M9:=Fz.t l2 M8
    exact ⟨M5 _ _ (k0 0 rfl),M4 _ _ (k1 0 rfl),M3 _ _ (k2 0 rfl),M2 _ _ (k3 0 rfl),M1 _ _ (k4 0 rfl),k5 0 rfl,M9 _ _ h6,M8 _ _ h7,M7 _ _ h8,M6 _ _ h9⟩
theorem not_t {b:Bool} (h:(!b) = true):b = false:=by cases b<;>simp_all
def props (k:Int):List Int:=
 if k = 1 then [1] else if k = 2 then [1] else if k = 3 then [3,5] else if k = 4 then [2] else if k = 5 then [6,7] else [1,2,3,4,5,6,7,8]
def numOk (k n:Int):Bool:=
 if k = 3 then decide (n = 10) || decide (n = 100) || decide (n = 1000) else if k = 4 then decide (0 ≤ n) && decide (n ≤ 6) else decide (n = 0)
def zbw (p:Int) (s:Stp):Bool:=(decide (1 ≤ s.1) && decide (s.1 ≤ 6)) && (decide (0 ≤ idx p (props s.1) 0) && numOk s.1 s.2)
theorem zh5 {F:Fz} {b:Nat} (l:List Int) (h:F b = some (eI l)):zd7 F (.slice false 0 b 0 1 l.length l.length) l:=Sl.new h
theorem zvt (F:Fz) (ba bp:Nat) (b:Nat → Nat) (p k n:Int) (hK:F ba = some (.cells 206 (zec b))) (hB:KindsAt F b) (hP:F bp = some (.cells 3 [.int .i64 p])) :
  Fo Tryz.prog F 180 [.agg [.int .i64 k,.int .i64 n],.va (.ptr (fp ba)),.va (.ptr (fp bp))] (fun o F'=>o = .ret (.va (.bool (!zbw p (k,n)))) ∧ F' = F):=by
 refine fo_of hΘ Tryz.func180 rfl (by decide) _ _ rfl rfl rfl ?_;conv=>whnf
 refine draw hΘ mixed [(0,true),(1,true),(2,false),(3,true),(4,true),(5,true),(6,true),(7,true),(8,true),(9,true),(10,true),(11,false),(12,true),(13,true),(14,true),(15,true),(16,true),(17,true),(18,true),(19,true),(20,true),(21,true),(22,false),(23,true),(24,true),(25,true)] [1] (by kernel_rfl) ?_;conv=>whnf
 refine ⟨rfl,?_⟩;conv=>whnf
 refine usePu (zdi k 1 6 F) rfl (zaa _) rfl ?_;conv=>whnf
 refine ⟨Fz.r F,rfl,?_⟩;conv=>whnf
 have fin:∀ (v:Bool) (h:Hp) (nx:Nat),(!zbw p (k,n)) = v → lget h 0 = some (.frz F) → Cln 1 (FoK F fun o F'=>o = .ret (.va (.bool (!zbw p (k,n)))) ∧ F' = F) (.ret (.va (.bool v))) h nx:=by
  intro v h nx hv h0
  exact endPu h0 (Fz.r F) (ob hv) rfl
 refine ⟨fun g=>?_,fun g=>?_⟩
 ·have g1:(decide (1 ≤ k) && decide (k ≤ 6)) = true:=by simpa using g
  have hk:k = 1 ∨ k = 2 ∨ k = 3 ∨ k = 4 ∨ k = 5 ∨ k = 6:=by simp at g1; omega
  clear g g1
  rcases hk with rfl | rfl | rfl | rfl | rfl | rfl
  ·conv=>whnf
   refine ⟨rfl,?_⟩;conv=>whnf
   refine ⟨by decide,?_⟩;conv=>whnf
   refine ⟨rfl,?_⟩;conv=>whnf
   refine ⟨_,hK,?_⟩;conv=>whnf
   refine ⟨rfl,?_⟩;conv=>whnf
   refine ⟨_,hP,?_⟩;conv=>whnf
   refine usePu (zdu F _ [1] p (zh5 _ hB.h0) (by decide)) rfl (zaa _) rfl ?_;conv=>whnf
   refine ⟨Fz.r F,rfl,?_⟩;conv=>whnf
   refine ⟨fun g=>?_,fun g=>?_⟩
   ·conv=>whnf
    refine ⟨rfl,?_⟩;conv=>whnf
    refine ⟨by decide,?_⟩;conv=>whnf
    refine ⟨rfl,?_⟩;conv=>whnf
    refine ⟨_,hK,?_⟩;conv=>whnf
    refine ⟨rfl,?_⟩;conv=>whnf
    refine usePu (zmf n F) rfl (zaa _) rfl ?_;conv=>whnf
    refine ⟨Fz.r F,rfl,?_⟩;conv=>whnf
    refine fin _ _ _ ?_ rfl
    have g:decide (0 ≤ idx p [1] 0) = true:=by simpa using g
    simp [zbw,props,numOk,g]
   ·conv=>whnf
    refine fin _ _ _ ?_ rfl
    have g:decide (0 ≤ idx p [1] 0) = false:=by simpa using g
    simp [zbw,props,g]
  ·conv=>whnf
   refine ⟨rfl,?_⟩;conv=>whnf
   refine ⟨by decide,?_⟩;conv=>whnf
   refine ⟨rfl,?_⟩;conv=>whnf
   refine ⟨_,hK,?_⟩;conv=>whnf
   refine ⟨rfl,?_⟩;conv=>whnf
   refine ⟨_,hP,?_⟩;conv=>whnf
   refine usePu (zdu F _ [1] p (zh5 _ hB.h1) (by decide)) rfl (zaa _) rfl ?_;conv=>whnf
   refine ⟨Fz.r F,rfl,?_⟩;conv=>whnf
   refine ⟨fun g=>?_,fun g=>?_⟩
   ·conv=>whnf
    refine ⟨rfl,?_⟩;conv=>whnf
    refine ⟨by decide,?_⟩;conv=>whnf
    refine ⟨rfl,?_⟩;conv=>whnf
    refine ⟨_,hK,?_⟩;conv=>whnf
    refine ⟨rfl,?_⟩;conv=>whnf
    refine usePu (zmf n F) rfl (zaa _) rfl ?_;conv=>whnf
    refine ⟨Fz.r F,rfl,?_⟩;conv=>whnf
    refine fin _ _ _ ?_ rfl
    have g:decide (0 ≤ idx p [1] 0) = true:=by simpa using g
    simp [zbw,props,numOk,g]
   ·conv=>whnf
    refine fin _ _ _ ?_ rfl
    have g:decide (0 ≤ idx p [1] 0) = false:=by simpa using g
    simp [zbw,props,g]
  ·conv=>whnf
   refine ⟨rfl,?_⟩;conv=>whnf
   refine ⟨by decide,?_⟩;conv=>whnf
   refine ⟨rfl,?_⟩;conv=>whnf
   refine ⟨_,hK,?_⟩;conv=>whnf
   refine ⟨rfl,?_⟩;conv=>whnf
   refine ⟨_,hP,?_⟩;conv=>whnf
   refine usePu (zdu F _ [3,5] p (zh5 _ hB.h2) (by decide)) rfl (zaa _) rfl ?_;conv=>whnf
   refine ⟨Fz.r F,rfl,?_⟩;conv=>whnf
   refine ⟨fun g=>?_,fun g=>?_⟩
   ·conv=>whnf
    refine ⟨rfl,?_⟩;conv=>whnf
    refine ⟨by decide,?_⟩;conv=>whnf
    refine ⟨rfl,?_⟩;conv=>whnf
    refine ⟨_,hK,?_⟩;conv=>whnf
    refine ⟨rfl,?_⟩;conv=>whnf
    refine usePu (zuw n F) rfl (zaa _) rfl ?_;conv=>whnf
    refine ⟨Fz.r F,rfl,?_⟩;conv=>whnf
    refine fin _ _ _ ?_ rfl
    have g:decide (0 ≤ idx p [3,5] 0) = true:=by simpa using g
    simp [zbw,props,numOk,g]
   ·conv=>whnf
    refine fin _ _ _ ?_ rfl
    have g:decide (0 ≤ idx p [3,5] 0) = false:=by simpa using g
    simp [zbw,props,g]
  ·conv=>whnf
   refine ⟨rfl,?_⟩;conv=>whnf
   refine ⟨by decide,?_⟩;conv=>whnf
   refine ⟨rfl,?_⟩;conv=>whnf
   refine ⟨_,hK,?_⟩;conv=>whnf
   refine ⟨rfl,?_⟩;conv=>whnf
   refine ⟨_,hP,?_⟩;conv=>whnf
   refine usePu (zdu F _ [2] p (zh5 _ hB.h3) (by decide)) rfl (zaa _) rfl ?_;conv=>whnf
   refine ⟨Fz.r F,rfl,?_⟩;conv=>whnf
   refine ⟨fun g=>?_,fun g=>?_⟩
   ·conv=>whnf
    refine ⟨rfl,?_⟩;conv=>whnf
    refine ⟨by decide,?_⟩;conv=>whnf
    refine ⟨rfl,?_⟩;conv=>whnf
    refine ⟨_,hK,?_⟩;conv=>whnf
    refine ⟨rfl,?_⟩;conv=>whnf
    refine usePu (zw6 n F) rfl (zaa _) rfl ?_;conv=>whnf
    refine ⟨Fz.r F,rfl,?_⟩;conv=>whnf
    refine fin _ _ _ ?_ rfl
    have g:decide (0 ≤ idx p [2] 0) = true:=by simpa using g
    simp [zbw,props,numOk,g]
   ·conv=>whnf
    refine fin _ _ _ ?_ rfl
    have g:decide (0 ≤ idx p [2] 0) = false:=by simpa using g
    simp [zbw,props,g]
  ·conv=>whnf
   refine ⟨rfl,?_⟩;conv=>whnf
   refine ⟨by decide,?_⟩;conv=>whnf
   refine ⟨rfl,?_⟩;conv=>whnf
   refine ⟨_,hK,?_⟩;conv=>whnf
   refine ⟨rfl,?_⟩;conv=>whnf
   refine ⟨_,hP,?_⟩;conv=>whnf
   refine usePu (zdu F _ [6,7] p (zh5 _ hB.h4) (by decide)) rfl (zaa _) rfl ?_;conv=>whnf
   refine ⟨Fz.r F,rfl,?_⟩;conv=>whnf
   refine ⟨fun g=>?_,fun g=>?_⟩
   ·conv=>whnf
    refine ⟨rfl,?_⟩;conv=>whnf
    refine ⟨by decide,?_⟩;conv=>whnf
    refine ⟨rfl,?_⟩;conv=>whnf
    refine ⟨_,hK,?_⟩;conv=>whnf
    refine ⟨rfl,?_⟩;conv=>whnf
    refine usePu (zmf n F) rfl (zaa _) rfl ?_;conv=>whnf
    refine ⟨Fz.r F,rfl,?_⟩;conv=>whnf
    refine fin _ _ _ ?_ rfl
    have g:decide (0 ≤ idx p [6,7] 0) = true:=by simpa using g
    simp [zbw,props,numOk,g]
   ·conv=>whnf
    refine fin _ _ _ ?_ rfl
    have g:decide (0 ≤ idx p [6,7] 0) = false:=by simpa using g
    simp [zbw,props,g]
  ·conv=>whnf
   refine ⟨rfl,?_⟩;conv=>whnf
   refine ⟨by decide,?_⟩;conv=>whnf
   refine ⟨rfl,?_⟩;conv=>whnf
   refine ⟨_,hK,?_⟩;conv=>whnf
   refine ⟨rfl,?_⟩;conv=>whnf
   refine ⟨_,hP,?_⟩;conv=>whnf
   refine usePu (zdu F _ [1,2,3,4,5,6,7,8] p (zh5 _ hB.h5) (by decide)) rfl (zaa _) rfl ?_;conv=>whnf
   refine ⟨Fz.r F,rfl,?_⟩;conv=>whnf
   refine ⟨fun g=>?_,fun g=>?_⟩
   ·conv=>whnf
    refine ⟨rfl,?_⟩;conv=>whnf
    refine ⟨by decide,?_⟩;conv=>whnf
    refine ⟨rfl,?_⟩;conv=>whnf
    refine ⟨_,hK,?_⟩;conv=>whnf
    refine ⟨rfl,?_⟩;conv=>whnf
    refine usePu (zmf n F) rfl (zaa _) rfl ?_;conv=>whnf
    refine ⟨Fz.r F,rfl,?_⟩;conv=>whnf
    refine fin _ _ _ ?_ rfl
    have g:decide (0 ≤ idx p [1,2,3,4,5,6,7,8] 0) = true:=by simpa using g
    simp [zbw,props,numOk,g]
   ·conv=>whnf
    refine fin _ _ _ ?_ rfl
    have g:decide (0 ≤ idx p [1,2,3,4,5,6,7,8] 0) = false:=by simpa using g
    simp [zbw,props,g]
 ·conv=>whnf
  refine fin _ _ _ ?_ rfl
  have g:(decide (1 ≤ k) && decide (k ≤ 6)) = false:=not_t g
  simp only [zbw,g,qt,Bool.not_false]
def idxF (p:Int):List Stp → Nat → Int
 |[],_=>-1
 |x :: r,n=>if zbw p x = false then n else idxF p r (n + 1)
theorem zwi (p:Int) (l:List Stp) (k:Nat) (h:k < l.length):idxF p (l.drop k) k = if zbw p l[k] = false then (k:Int) else idxF p (l.drop (k + 1)) (k + 1):=by
 rw [qv h]; rfl
theorem zre (p:Int):∀ (l:List Stp) (n:Nat),(0 ≤ idxF p l n) ↔ l.all (zbw p) = false
 |[],n=>by simp [idxF]
 |x :: r,n=>by
  simp only [idxF,qbw]
  split
  ·rename_i h; simp [h]
  ·rename_i h
   have:zbw p x = true:=by simpa using h
   rw [zre p r (n + 1),this]; simp
theorem zng (F:Fz) (sa:SA) (l:List Stp) (ba bp:Nat) (b:Nat → Nat) (p:Int) (ha:za3 F sa l) (hl:l.length < 1000000) (hK:F ba = some (.cells 206 (zec b))) (hB:KindsAt F b) (hP:F bp = some (.cells 3 [.int .i64 p])) :
  Fo Tryz.prog F 232 [.va sa,.va (.fn (.func 180) [fp ba,fp bp])] (fun o F'=>o = .ret (.va (.int .i64 (idxF p l 0))) ∧ F' = F):=by
 obtain ⟨nil,ca,ea,cc,La,ra,rfl,ha1,ha2,ha3,ha4⟩:=ha
 have fin:∀ (x:Int) (h:Hp) (nx:Nat),idxF p l 0 = x → lget h 0 = some (.frz F) →
   Cln 1 (FoK F fun o F'=>o = .ret (.va (.int .i64 (idxF p l 0))) ∧ F' = F) (.ret (.va (.int .i64 x))) h nx:=by
  intro x h nx hv h0
  exact endPu h0 (Fz.r F) (oi hv) rfl
 refine fo_of hΘ Tryz.func232 rfl (by decide) _ _ rfl rfl rfl ?_;conv=>whnf
 refine zan hΘ (X:={ k:Nat // k ≤ l.length ∧ idxF p l 0 = idxF p (l.drop k) k }) (fun k=>[(8,.va (.int .i64 k.1))]) [5,9,10,11,12,13,14,15,16,17,18] (fz fun _=>F) 1 (fun k=>l.length - k.1) ⟨0,by simp⟩
  (fun hH hT=>le0 hH hT rfl (Fz.r F) rfl ⟨rfl,tv⟩) ?_
 rintro ⟨k,hk,hp⟩ hH hT;conv=>whnf
 refine br (fun g=>?_) (fun g=>?_)
 ·have g:k < l.length:=by simpa using g
  conv=>whnf
  refine ⟨Sl.lt ha1 g,⟨by simp,by simpa using g⟩,?_⟩;conv=>whnf
  refine ⟨_,ha2 (Sl.lt ha1 g),?_⟩;conv=>whnf
  refine ⟨_,Sl.at ha4 g,?_⟩;conv=>whnf
  refine usePu (zvt F ba bp b p l[k].1 l[k].2 hK hB hP) rfl (zaa _) rfl ?_;conv=>whnf
  rw [zwi p l k g] at hp
  refine br (fun g2=>?_) (fun g2=>?_)
  ·conv=>whnf
   have g2:zbw p l[k] = false:=not_t g2
   exact fin _ _ _ (hp.trans (if_pos g2)) rfl
  ·conv=>whnf
   have g2:¬ zbw p l[k] = false:=by
    intro h; have h':(!zbw p l[k]) = false:=g2; rw [h] at h'; cases h'
   rw [if_neg g2] at hp
   exact ⟨⟨k + 1,by omega,hp⟩,by show l.length - (k + 1) < l.length - k; omega,lr0 hH hT rfl (Fz.r F) rfl ⟨cnt (by omega),tv⟩⟩
 ·conv=>whnf
  have g:¬ k < l.length:=by simpa using g
  rw [jq (by omega)] at hp
  exact fin _ _ _ hp rfl
theorem zjj (F:Fz) (sa:SA) (l:List Stp) (ba bp:Nat) (b:Nat → Nat) (p:Int) (ha:za3 F sa l) (hl:l.length < 1000000) (hK:F ba = some (.cells 206 (zec b))) (hB:KindsAt F b) (hP:F bp = some (.cells 3 [.int .i64 p])) :
  Fo Tryz.prog F 179 [.va sa,.va (.fn (.func 180) [fp ba,fp bp])] (fun o F'=>o = .ret (.va (.bool (!l.all (zbw p)))) ∧ F' = F):=by
 have h:=zng F sa l ba bp b p ha hl hK hB hP
 obtain ⟨nil,ca,ea,cc,La,ra,rfl,ha1,ha2,ha3,ha4⟩:=ha
 refine fo_of hΘ Tryz.func179 rfl (by decide) _ _ rfl rfl rfl ?_;conv=>whnf
 refine usePu h rfl (zaa _) rfl ?_;conv=>whnf
 refine endPu rfl (Fz.r F) (ob ?_) rfl
 have:=zre p l 0
 cases h:l.all (zbw p) with
 |true => rw [h] at this; simp; have h2 : ¬ (0 ≤ idxF p l 0) := fun h3 => by have := this.1 h3; cases this
          omega
 |false=>rw [h] at this; simp; exact this.2 rfl
def zbn (p:Int) (l:List Stp):Bool:=(decide (1 ≤ p) && decide (p ≤ 8)) && (decide (l.length ≤ 64) && l.all (zbw p))
theorem ziv (F:Fz) (sa:SA) (l:List Stp) (p:Int) (ha:za3 F sa l) (hl:l.length < 1000000) :
  Fo Tryz.prog F 128 [.va (.int .i64 p),.va sa] (fun o F'=>o = .ret (.va (.bool (zbn p l))) ∧ F' = F):=by
 have h:=fun F' (hle:Fz.le F F') ba bp b=>zjj F' sa l ba bp b p (ha.mono hle) hl
 obtain ⟨nil,ca,ea,cc,La,ra,rfl,ha1,ha2,ha3,ha4⟩:=ha
 have fin:∀ (F1:Fz) (x:Bool) (h:Hp) (nx:Nat),zbn p l = x → lget h 0 = some (.frz F1) → Fz.le F F1 →
   Cln 1 (FoK F fun o F'=>o = .ret (.va (.bool (zbn p l))) ∧ F' = F) (.ret (.va (.bool x))) h nx:=by
  intro F1 x h nx hv h0 hle
  exact endPu h0 hle (ob hv) rfl
 refine fo_of hΘ Tryz.func128 rfl (by decide) _ _ rfl rfl rfl ?_;conv=>whnf
 refine useFo (zr4 F) rfl (zaa _) rfl ?_
 rintro _ F1 l1 ⟨b,rfl,hB⟩;conv=>whnf
 refine usePu (zdi p 1 8 F1) rfl (zaa _) rfl ?_;conv=>whnf
 refine ⟨fun g=>?_,fun g=>?_⟩
 ·conv=>whnf
  refine ⟨fun g2=>?_,fun g2=>?_⟩
  ·conv=>whnf
   refine za0 1 (fun _=>.cells 3 [.int .i64 p]) rfl rfl rfl (fun _ _=>rfl) (fun _ _=>SB.bB_ok rfl) ?_
   intro bp F2 l2 hP
   refine za0 2 (fun _=>.cells 206 (zec b)) rfl rfl rfl (fun _ _=>rfl) (fun _ _=>SB.bB_ok rfl) ?_
   intro ba F3 l3 hK
   refine usePu (h F3 (Fz.t l1 (Fz.t l2 l3)) (ba 0) (bp 0) b (hK 0 rfl) (hB.mono (Fz.t l2 l3)) (l3 _ _ (hP 0 rfl))) rfl (zaa _) rfl ?_;conv=>whnf
   refine fin F3 _ _ _ ?_ rfl (Fz.t l1 (Fz.t l2 l3))
   have g2:decide (l.length ≤ 64) = true:=by simp at g2 ⊢; omega
   simp [zbn,g,g2]
  ·conv=>whnf
   refine fin F1 _ _ _ ?_ rfl l1
   have g2:decide (l.length ≤ 64) = false:=by simp at g2 ⊢; omega
   simp only [zbn,g2,qt,jp]
 ·conv=>whnf
  refine fin F1 _ _ _ ?_ rfl l1
  simp only [zbn,g,qt]
def pickI (c n:Int):Int:=(if c < 0 then -(c + 1) else c).tmod n
def i64 (c:Int):Prop:=-9223372036854775808 ≤ c ∧ c ≤ 9223372036854775807
theorem zyf (c n:Int) (hc:i64 c) (hn:0 < n):Pu Tryz.prog 20 [.va (.int .i64 c),.va (.int .i64 n)] (.va (.int .i64 (pickI c n))):=by
 intro F
 unfold i64 at hc
 refine fo_of hΘ Tryz.func20 rfl (by decide) _ _ rfl rfl rfl ?_;conv=>whnf
 refine br (fun g=>?_) (fun g=>?_)
 ·conv=>whnf
  refine ⟨by omega,?_⟩;conv=>whnf
  refine endPu rfl (Fz.r F) (oi ?_) rfl
  simp at g
  rw [zal (n:=c + 1) (by omega) (by omega),zal (n:=0 - (c + 1)) (by omega) (by omega),pickI,if_pos g]
  congr 1; omega
 ·conv=>whnf
  refine ⟨by omega,?_⟩;conv=>whnf
  refine endPu rfl (Fz.r F) (oi ?_) rfl
  simp at g
  rw [pickI,if_neg (by omega)]
theorem zch (c n:Int) (hn:0 < n) (hc:i64 c):0 ≤ pickI c n ∧ pickI c n < n:=by
 unfold pickI; unfold i64 at hc
 split
 ·exact ⟨qb1 _ (by omega),qbk _ hn⟩
 ·exact ⟨qb1 _ (by omega),qbk _ hn⟩
def mn (l:List Int):Int:=match l with
 |[]=>0
 |x :: r=>r.foldl (fun m x=>if x < m then x else m) x
def mx (l:List Int):Int:=match l with
 |[]=>0
 |x :: r=>r.foldl (fun m x=>if x > m then x else m) x
theorem z5x (l:List Int) (x:Int):mn (l ++ [x]) = if l = [] then x else if x < mn l then x else mn l:=by
 cases l with
 |nil=>simp [mn]
 |cons a r=>simp only [mn,jt,qaq,y4,qav]; rw [if_neg (show ¬ (a :: r = []) by simp)]; rfl
theorem z2v (l:List Int) (x:Int):mx (l ++ [x]) = if l = [] then x else if x > mx l then x else mx l:=by
 cases l with
 |nil=>simp [mx]
 |cons a r=>simp only [mx,jt,qaq,y4,qav]; rw [if_neg (show ¬ (a :: r = []) by simp)]; rfl
theorem zt3 {α:Type} {l:List α} {k:Nat} (h1:1 ≤ k) (h2:k ≤ l.length):¬ l.take k = []:=by
 intro h; have:=congrArg List.length h; rw [qn] at this; simp only [qp] at this; omega
theorem ei {k:IntKind} {a b:Int} (h:a = b):SA.int k a = SA.int k b:=by rw [h]
theorem z14 (F:Fz) (sa:SA) (l:List Int) (ha:zd7 F sa l) (hl:l.length < 1000000) (h0:0 < l.length) :
  Fo Tryz.prog F 199 [.va sa] (fun o F'=>o = .ret (.va (.int .i64 (mx l))) ∧ F' = F):=by
 obtain ⟨han,hab,hae,hac,haL,har,rfl,ha1,ha2,ha3,ha4⟩:=ha
 refine fo_of hΘ Tryz.func199 rfl (by decide) _ _ rfl rfl rfl ?_;conv=>whnf
 refine br (fun g=>?_) (fun g=>?_)
 ·simp at g; omega
 ·conv=>whnf
  refine ⟨Sl.lt ha1 h0,⟨by simp,by simpa using h0⟩,?_⟩;conv=>whnf
  refine ⟨_,ha2 (Sl.lt ha1 h0),?_⟩;conv=>whnf
  refine ⟨_,Sl.at ha4 h0,?_⟩;conv=>whnf
  have h1:mx (l.take 1) = l[0]:=by
   rw [qi h0]; simp [mx]
  refine zan hΘ (X:={ k:Nat // 1 ≤ k ∧ k ≤ l.length }) (fun k=>[(3,.va (.int .i64 (mx (l.take k.1)))),(4,.va (.int .i64 k.1))]) [12,13,14,15,16,17,18,19,20,21,22,23] (fz fun _=>F) 1 (fun k=>l.length - k.1) ⟨1,by omega⟩
   (fun hH hT=>le0 hH hT rfl (Fz.r F) rfl ⟨ei h1,rfl,tv⟩) ?_
  rintro ⟨k,hk1,hk⟩ hH hT;conv=>whnf
  refine br (fun g=>?_) (fun g=>?_)
  ·have g:k < l.length:=by simpa using g
   conv=>whnf
   refine ⟨Sl.lt ha1 g,⟨by simp,by simpa using g⟩,?_⟩;conv=>whnf
   refine ⟨_,ha2 (Sl.lt ha1 g),?_⟩;conv=>whnf
   refine ⟨_,Sl.at ha4 g,?_⟩;conv=>whnf
   refine ⟨⟨k + 1,by omega,by omega⟩,by show l.length - (k + 1) < l.length - k; omega,lr0 hH hT rfl (Fz.r F) rfl ⟨ei ?_,cnt (by omega),tv⟩⟩
   show mx (l.take (k + 1)) = _
   rw [qi g,z2v,if_neg (zt3 hk1 hk)]
  ·conv=>whnf
   have g:¬ k < l.length:=by simpa using g
   refine endPu rfl (Fz.r F) (oi ?_) rfl
   show mx l = mx (l.take k)
   rw [qm (by omega)]
theorem zln (F:Fz) (sa:SA) (l:List Int) (ha:zd7 F sa l) (hl:l.length < 1000000) (h0:0 < l.length) :
  Fo Tryz.prog F 200 [.va sa] (fun o F'=>o = .ret (.va (.int .i64 (mn l))) ∧ F' = F):=by
 obtain ⟨han,hab,hae,hac,haL,har,rfl,ha1,ha2,ha3,ha4⟩:=ha
 refine fo_of hΘ Tryz.func200 rfl (by decide) _ _ rfl rfl rfl ?_;conv=>whnf
 refine br (fun g=>?_) (fun g=>?_)
 ·simp at g; omega
 ·conv=>whnf
  refine ⟨Sl.lt ha1 h0,⟨by simp,by simpa using h0⟩,?_⟩;conv=>whnf
  refine ⟨_,ha2 (Sl.lt ha1 h0),?_⟩;conv=>whnf
  refine ⟨_,Sl.at ha4 h0,?_⟩;conv=>whnf
  have h1:mn (l.take 1) = l[0]:=by
   rw [qi h0]; simp [mn]
  refine zan hΘ (X:={ k:Nat // 1 ≤ k ∧ k ≤ l.length }) (fun k=>[(3,.va (.int .i64 (mn (l.take k.1)))),(4,.va (.int .i64 k.1))]) [12,13,14,15,16,17,18,19,20,21,22,23] (fz fun _=>F) 1 (fun k=>l.length - k.1) ⟨1,by omega⟩
   (fun hH hT=>le0 hH hT rfl (Fz.r F) rfl ⟨ei h1,rfl,tv⟩) ?_
  rintro ⟨k,hk1,hk⟩ hH hT;conv=>whnf
  refine br (fun g=>?_) (fun g=>?_)
  ·have g:k < l.length:=by simpa using g
   conv=>whnf
   refine ⟨Sl.lt ha1 g,⟨by simp,by simpa using g⟩,?_⟩;conv=>whnf
   refine ⟨_,ha2 (Sl.lt ha1 g),?_⟩;conv=>whnf
   refine ⟨_,Sl.at ha4 g,?_⟩;conv=>whnf
   refine ⟨⟨k + 1,by omega,by omega⟩,by show l.length - (k + 1) < l.length - k; omega,lr0 hH hT rfl (Fz.r F) rfl ⟨ei ?_,cnt (by omega),tv⟩⟩
   show mn (l.take (k + 1)) = _
   rw [qi g,z5x,if_neg (zt3 hk1 hk)]
  ·conv=>whnf
   have g:¬ k < l.length:=by simpa using g
   refine endPu rfl (Fz.r F) (oi ?_) rfl
   show mn l = mn (l.take k)
   rw [qm (by omega)]
theorem zhi (F:Fz) (sa sb:SA) (a b:List Stp) (ha:za3 F sa a) (hb:za3 F sb b) (la:a.length < 1000000) :
  Fo Tryz.prog F 63 [.va sa,.va sb] (fun o F'=>o = .ret (.va (.bool (decide (a = b)))) ∧ F' = F):=by
 obtain ⟨han,hab,hae,hac,haL,har,rfl,ha1,ha2,ha3,ha4⟩:=ha
 obtain ⟨hbn,hbb,hbe,hbc,hbL,hbr,rfl,hb1,hb2,hb3,hb4⟩:=hb
 have fin:∀ (v:Bool) (h:Hp) (nx:Nat),v = decide (a = b) → lget h 0 = some (.frz F) →
   Cln 1 (FoK F fun o F'=>o = .ret (.va (.bool (decide (a = b)))) ∧ F' = F) (.ret (.va (.bool v))) h nx:=by
  intro v h nx hv h0
  exact endPu h0 (Fz.r F) (by rw [hv]; rfl) rfl
 refine fo_of hΘ Tryz.func63 rfl (by decide) _ _ rfl rfl rfl ?_;conv=>whnf
 refine br (fun g=>?_) (fun g=>?_)
 ·conv=>whnf
  refine fin _ _ _ ?_ rfl
  have:¬ a = b:=by rintro rfl; simp at g
  simp [this]
 ·have gl:a.length = b.length:=neq_f g
  conv=>whnf
  refine zan hΘ (X:={ k:Nat // k ≤ a.length ∧ a.take k = b.take k }) (fun k=>[(13,.va (.int .i64 k.1))]) [4,5,14,15,16,17,18,19,20,21,22,23,24,25] (fz fun _=>F) 1 (fun k=>a.length - k.1) ⟨0,by simp⟩
   (fun hH hT=>le0 hH hT rfl (Fz.r F) rfl ⟨rfl,tv⟩) ?_
  rintro ⟨k,hk,hp⟩ hH hT;conv=>whnf
  refine br (fun g=>?_) (fun g=>?_)
  ·have g:k < a.length:=by simpa using g
   have gb:k < b.length:=by omega
   conv=>whnf
   refine draw hΘ mixed [(0,true),(1,true),(2,true),(3,true),(4,true),(5,true),(6,true),(7,true),(8,true)] [] (by kernel_rfl) ?_;conv=>whnf
   refine ⟨Sl.lt ha1 g,⟨by simp,by simpa using g⟩,?_⟩;conv=>whnf
   refine ⟨rfl,?_⟩;conv=>whnf
   refine ⟨_,ha2 (Sl.lt ha1 g),?_⟩;conv=>whnf
   refine ⟨_,Sl.at ha4 g,?_⟩;conv=>whnf
   refine ⟨Sl.lt hb1 gb,⟨by simp,by simpa using gb⟩,?_⟩;conv=>whnf
   refine ⟨rfl,?_⟩;conv=>whnf
   refine ⟨_,hb2 (Sl.lt hb1 gb),?_⟩;conv=>whnf
   refine ⟨_,Sl.at hb4 gb,?_⟩;conv=>whnf
   refine ⟨_,agg50 _ _ _ _,?_⟩;conv=>whnf
   refine br (fun g2=>?_) (fun g2=>?_)
   ·conv=>whnf
    refine fin _ _ _ ?_ rfl
    have:¬ a = b:=by rintro rfl; simp at g2
    simp [this]
   ·conv=>whnf
    refine ⟨⟨k + 1,by omega,?_⟩,by show a.length - (k + 1) < a.length - k; omega,lr0 hH hT rfl (Fz.r F) rfl ⟨cnt (by omega),tv⟩⟩
    have h3:a[k] = b[k]:=by
     simp at g2; exact Prod.ext g2.1 g2.2
    rw [qi g,qi gb,hp,h3]
  ·conv=>whnf
   refine fin _ _ _ ?_ rfl
   have g:¬ k < a.length:=by simpa using g
   have h1:a = b:=by
    rw [qm (by omega),qm (by omega)] at hp; exact hp
   simp [h1]
def sel (κ:Int) (l:List Stp):List Int:=(l.filter fun s=>decide (s.1 = κ)).map (·.2)
theorem z6e (κ:Int) (l:List Stp) (k:Nat) (g:k < l.length) (h:l[k].1 = κ):sel κ (l.take (k + 1)) = sel κ (l.take k) ++ [l[k].2]:=by
 rw [qi g,sel,qb9,q5]; simp [sel,h]
theorem z7w (κ:Int) (l:List Stp) (k:Nat) (g:k < l.length) (h:¬ l[k].1 = κ):sel κ (l.take (k + 1)) = sel κ (l.take k):=by
 rw [qi g,sel,qb9,q5]; simp [sel,h]
theorem z6t (κ:Int) (l:List Stp):(sel κ l).length ≤ l.length:=by
 unfold sel; rw [qb]; exact qaa _ _
theorem wadd (a b:Nat) (h:a < 1000000) (h':b < 1000000):IntKind.i64.wrap ((a:Int) + (b:Int)) = ((a + b:Nat):Int):=by rw [zal (by omega) (by omega)]; omega
abbrev zq0 (F:Fz) (sl:SA) (ls:List (List Stp)):Prop:=SlR F 50 1 (fun y x=>∃ a,y = [a] ∧ za3 F a x) sl ls
theorem zwk (F:Fz) (sl:SA) (ls:List (List Stp)) (hs:zq0 F sl ls) (hn:ls.length < 1000) (hl:ls.flatten.length < 1000000) :
  Fo Tryz.prog F 198 [.va sl] (fun o F'=>∃ sc,o = .ret (.va sc) ∧ za3 F' sc ls.flatten):=by
 obtain ⟨sn,sb,se,scp,sL,sr,rfl,s1,s2,s3,s4⟩:=hs
 refine fo_of hΘ Tryz.func198 rfl (by decide) _ _ rfl rfl rfl ?_;conv=>whnf
 refine zan hΘ (X:={ k:Nat // k ≤ ls.length }) (fun k=>[(3,.va (.int .i64 (ls.take k.1).flatten.length)),(11,.va (.int .i64 k.1))]) [5,12,13,14,15,16,17,18,19,20,21,22] (fz fun _=>F) 1 (fun k=>ls.length - k.1) ⟨0,by simp⟩
  (fun hH hT=>le0 hH hT rfl (Fz.r F) rfl ⟨rfl,rfl,tv⟩) ?_
 rintro ⟨k,hk⟩ hH hT;conv=>whnf
 refine br (fun g=>?_) (fun g=>?_)
 ·have g:k < ls.length:=by simpa using g
  conv=>whnf
  have hObt:=SlR.at s4 g
  obtain ⟨y,hy,a,rfl,ha⟩:=hObt
  obtain ⟨han,hab,hae,hac,haL,har,rfl,ha1,ha2,ha3,ha4⟩:=ha
  have f1:=zcm ls k
  have f2:=zcm ls (k + 1)
  rw [zcq g,qa] at f2
  refine ⟨SlR.lt s1 g,⟨by simp,by simpa using g⟩,?_⟩;conv=>whnf
  refine ⟨_,s2 (SlR.lt s1 g),?_⟩;conv=>whnf
  refine ⟨_,hy,?_⟩;conv=>whnf
  have e1:=wadd (ls.take k).flatten.length ls[k].length (by omega) (by omega)
  refine br (fun g=>absurd g ?_) (fun _=>?_)
  ·rw [e1]; simp; omega
  conv=>whnf
  refine ⟨⟨k + 1,by omega⟩,by show ls.length - (k + 1) < ls.length - k; omega,lr0 hH hT rfl (Fz.r F) rfl ⟨ei ?_,cnt (by omega),tv⟩⟩
  rw [zcq g,qa]; exact e1.symm
 ·have g : k = ls.length := by have : ¬ k < ls.length := by simpa using g
                               omega
  have ht:(ls.take k).flatten = ls.flatten:=by rw [qm (by omega)]
  have hlen:(ls.take k).flatten.length = ls.flatten.length:=by rw [ht]
  have e2:IntKind.i64.wrap (((ls.take k).flatten.length:Int) - IntKind.i64.wrap (0 - 0)) = ls.flatten.length:=by
   rw [zal (n:=0 - 0) (by omega) (by omega),hlen,zal (by omega) (by omega)]; omega
  conv=>whnf
  refine zg1 hΘ Tryz.func251 rfl (by decide) _ _ rfl rfl rfl (zci hΘ _ _ _ ?_);conv=>whnf
  refine brd (by simp) ?_;conv=>whnf
  refine br (fun g=>?_) (fun g=>?_)
  ·have gp:0 < ls.flatten.length:=by rw [e2] at g; simpa using g
   conv=>whnf
   refine ⟨⟨by decide,by decide⟩,?_⟩;conv=>whnf
   refine ⟨rfl,rfl,by rw [e2]; omega,by rw [e2]; show (ls.flatten.length:Int) * (16:Int) ≤ 140737488355328; omega,fun c hc=>?_⟩;conv=>whnf
   refine ⟨⟨by decide,by simp⟩,?_⟩;conv=>whnf
   refine zan hΘ (X:={ x:Nat × Nat // x.1 ≤ ls.length }) (fun x=>[(6,.va (.slice false 2 0 0 2 (ls.take x.1.1).flatten.length x.1.2)),(27,.va (.int .i64 x.1.1))]) [8,28,29,30,31,32,33,34]
    (fun x=>[(0,.frz F),(1,.gone),(2,.one (.arr 56 2 ((ls.take x.1.1).flatten.map enc) x.1.2))]) 3 (fun x=>ls.length - x.1.1) ⟨(0,c),by simp⟩
    (fun hH hT=>leI [(2,1)] hH hT rfl ⟨tv,tv,zdw _ _ 0,tv⟩ ⟨⟨rfl,rfl,rfl,.inr ⟨rfl,rfl,by split<;>rfl,rfl⟩⟩,rfl,tv⟩ ⟨Fz.r F,rfl,tv⟩) ?_
   rintro ⟨⟨k,c⟩,hk⟩ hH hT
   replace hk:k ≤ ls.length:=hk
   conv=>whnf
   refine br (fun g=>?_) (fun g=>?_)
   ·have g:k < ls.length:=by simpa using g
    conv=>whnf
    have hObt:=SlR.at s4 g
    obtain ⟨y,hy,a,rfl,ha⟩:=hObt
    obtain ⟨han,hab,hae,hac,haL,har,rfl,ha1,ha2,ha3,ha4⟩:=ha
    refine ⟨SlR.lt s1 g,⟨by simp,by simpa using g⟩,?_⟩;conv=>whnf
    refine ⟨_,s2 (SlR.lt s1 g),?_⟩;conv=>whnf
    refine ⟨_,hy,?_⟩
    have f1:=zcm ls k
    have f2:=zcm ls (k + 1)
    have f3:=zcq g
    rw [f3,qa] at f2
    have step:∀ (X:List (List SA)) (c':Nat),X = ls[k].map enc → (SB.arr 56 2 ((ls.take k).flatten.map enc ++ X) c') = SB.ren (sig [(2,3)]) (.arr 56 2 ((ls.take (k + 1)).flatten.map enc) c'):=by
     intro X c' hX
     rw [zgg,f3,q5,hX]
    rcases han with _ | _
    ·conv=>whnf
     refine ⟨_,_,_,ha2 rfl,ha3,_,ha4,?_⟩;conv=>whnf
     refine ⟨rfl,(qb _).symm,rfl,by simp only [qb]; show _ * 16 ≤ _; omega,fun c' hc'=>?_⟩;conv=>whnf
     refine ⟨⟨(k + 1,c'),by show k + 1 ≤ ls.length; omega⟩,by show ls.length - (k + 1) < ls.length - k; omega,leR [(2,3)] hH hT rfl ⟨tv,tv,zdw _ _ 0,tv⟩ ⟨⟨rfl,?_,rfl,.inr ⟨rfl,rfl,rfl,rfl⟩⟩,cnt (by omega),tv⟩ ⟨Fz.r F,step _ _ rfl,tv⟩⟩
     show (ls.take (k + 1)).flatten.length = (ls.take k).flatten.length + (ls[k].map enc).length
     rw [qb,f3,qa]
    ·have hnil:ls[k] = []:=ha1 rfl
     conv=>whnf
     refine ⟨by rw [hnil]; rfl,?_⟩;conv=>whnf
     refine ⟨rfl,(qb _).symm,rfl,by show _ * 16 ≤ _; simp only [qp,qah]; omega,fun c' hc'=>?_⟩;conv=>whnf
     refine ⟨⟨(k + 1,c'),by show k + 1 ≤ ls.length; omega⟩,by show ls.length - (k + 1) < ls.length - k; omega,leR [(2,3)] hH hT rfl ⟨tv,tv,zdw _ _ 0,tv⟩ ⟨⟨rfl,?_,rfl,.inr ⟨rfl,rfl,rfl,rfl⟩⟩,cnt (by omega),tv⟩ ⟨Fz.r F,step _ _ (by rw [hnil]; rfl),tv⟩⟩
     show (ls.take (k + 1)).flatten.length = (ls.take k).flatten.length + 0
     rw [f3,qa,hnil]; rfl
   ·have hk' : k = ls.length := by have : ¬ k < ls.length := by simpa using g
                                   omega
    have ht:(ls.take k).flatten = ls.flatten:=by rw [qm (by omega)]
    conv=>whnf
    refine zbl 2 (fun _=>.arr 56 2 (ls.flatten.map enc) c) rfl rfl rfl (fun _ _=>?_) (fun _ _=>zdw _ _ _) ?_
    ·refine (zgg _ (ls.take k).flatten c).trans ?_
     rw [ht]
    intro b F' hle hb
    refine endFo (.ret (.va (.slice false 0 (b 0) 0 2 ls.flatten.length c))) F' rfl hle (Fz.r F') ⟨_,rfl,Sl.new (hb 0 rfl)⟩ ?_ rfl
    exact ⟨rfl,by show ls.flatten.length = (ls.take k).flatten.length; rw [ht],rfl,.inr ⟨rfl,rfl,rfl,rfl⟩⟩
  ·have gp:ls.flatten = []:=qad.1 (by rw [e2] at g; simp only [decide_eq_false_iff_not] at g; omega)
   conv=>whnf
   refine zan hΘ (X:={ k:Nat // k ≤ ls.length }) (fun k=>[(6,.va .nilsl),(27,.va (.int .i64 k.1))]) [8,28,29,30,31,32,33,34] (fz fun _=>F) 1 (fun k=>ls.length - k.1) ⟨0,by simp⟩
    (fun hH hT=>le0 hH hT rfl (Fz.r F) rfl ⟨rfl,rfl,tv⟩) ?_
   rintro ⟨k,hk⟩ hH hT;conv=>whnf
   refine br (fun g=>?_) (fun g=>?_)
   ·have g:k < ls.length:=by simpa using g
    have hnil:ls[k] = []:=by
     have:=List.flatten_eq_nil_iff.1 gp ls[k] (jj g); exact this
    conv=>whnf
    have hObt:=SlR.at s4 g
    obtain ⟨y,hy,a,rfl,ha⟩:=hObt
    obtain ⟨han,hab,hae,hac,haL,har,rfl,ha1,ha2,ha3,ha4⟩:=ha
    refine ⟨SlR.lt s1 g,⟨by simp,by simpa using g⟩,?_⟩;conv=>whnf
    refine ⟨_,s2 (SlR.lt s1 g),?_⟩;conv=>whnf
    refine ⟨_,hy,?_⟩
    rcases han with _ | _
    ·conv=>whnf
     refine ⟨_,_,_,ha2 rfl,ha3,[],by rw [hnil]; rfl,?_⟩;conv=>whnf
     refine ⟨rfl,rfl,?_⟩;conv=>whnf
     exact ⟨⟨k + 1,by omega⟩,by show ls.length - (k + 1) < ls.length - k; omega,lr0 hH hT rfl (Fz.r F) rfl ⟨rfl,cnt (by omega),tv⟩⟩
    ·conv=>whnf
     refine ⟨by rw [hnil]; rfl,?_⟩;conv=>whnf
     refine ⟨rfl,rfl,?_⟩;conv=>whnf
     exact ⟨⟨k + 1,by omega⟩,by show ls.length - (k + 1) < ls.length - k; omega,lr0 hH hT rfl (Fz.r F) rfl ⟨rfl,cnt (by omega),tv⟩⟩
   ·conv=>whnf
    exact endFo (.ret (.va (.slice true 0 0 0 2 0 0))) F rfl (Fz.r F) (Fz.r F) ⟨_,rfl,by rw [gp]; exact Sl.nil⟩ ⟨rfl,rfl,rfl⟩ rfl
end Go.Proofs.YtfnkamphhpldcaaGreatDoor
