import Derived.Test.YtblllibdahkgfaaGreatDoorK11

namespace Go.Proofs.YtblllibdahkgfaaGreatDoor
open Go Sx
set_option maxRecDepth 100000
theorem wadd (a b : Nat) (h : a < 1000000) (h' : b < 1000000) : IntKind.i64.wrap ((a : Int) + (b : Int)) = ((a + b : Nat) : Int) := by rw [zai (by omega) (by omega)]; omega
abbrev zon (F : Fz) (sl : SA) (ls : List (List Stp)) : Prop := SlR F 22 1 (fun y x => ∃ a, y = [a] ∧ zaz F a x) sl ls
set_option maxHeartbeats 4000000 in
theorem zsq (F : Fz) (sl : SA) (ls : List (List Stp)) (hs : zon F sl ls) (hn : ls.length < 1000) (hl : ls.flatten.length < 1000000) :
  Fo Tryz.prog F 60 [.va sl] (fun o F' => ∃ sc, o = .ret (.va sc) ∧ zaz F' sc ls.flatten) := by
 obtain ⟨sn, sb, se, scp, sL, sr, rfl, s1, s2, s3, s4⟩ := hs
 refine fo_of hΘ Tryz.func60 rfl (by decide) _ _ rfl rfl rfl ?_;conv=>whnf
 refine zau hΘ (X := { k : Nat // k ≤ ls.length }) (fun k => [(3, .va (.int .i64 (ls.take k.1).flatten.length)), (11, .va (.int .i64 k.1))]) [5, 12, 13, 14, 15, 16, 17, 18, 19, 20, 21, 22] (fz fun _ => F) 1 (fun k => ls.length - k.1) ⟨0, by simp⟩
  (fun hH hT => le0 hH hT rfl (Fz.le_refl F) rfl ⟨rfl, rfl, trivial⟩) ?_
 rintro ⟨k, hk⟩ hH hT;conv=>whnf
 refine br (fun g => ?_) (fun g => ?_)
 ·have g : k < ls.length := by simpa using g
  conv=>whnf
  have hObt := SlR.at s4 g
  obtain ⟨y, hy, a, rfl, ha⟩ := hObt
  obtain ⟨han, hab, hae, hac, haL, har, rfl, ha1, ha2, ha3, ha4⟩ := ha
  have f1 := zcr ls k
  have f2 := zcr ls (k + 1)
  rw [zcu g, List.length_append] at f2
  refine ⟨SlR.lt s1 g, ⟨by simp, by simpa using g⟩, ?_⟩;conv=>whnf
  refine ⟨_, s2 (SlR.lt s1 g), ?_⟩;conv=>whnf
  refine ⟨_, hy, ?_⟩;conv=>whnf
  have e1 := wadd (ls.take k).flatten.length ls[k].length (by omega) (by omega)
  refine br (fun g => absurd g ?_) (fun _ => ?_)
  ·rw [e1]; simp; omega
  conv=>whnf
  refine ⟨⟨k + 1, by omega⟩, by show ls.length - (k + 1) < ls.length - k; omega, lr0 hH hT rfl (Fz.le_refl F) rfl ⟨ei ?_, cnt (by omega), trivial⟩⟩
  rw [zcu g, List.length_append]; exact e1.symm
 ·have g : k = ls.length := by have : ¬ k < ls.length := by simpa using g
                               omega
  have ht : (ls.take k).flatten = ls.flatten := by rw [List.take_of_length_le (by omega)]
  have hlen : (ls.take k).flatten.length = ls.flatten.length := by rw [ht]
  have e2 : IntKind.i64.wrap (((ls.take k).flatten.length : Int) - IntKind.i64.wrap (0 - 0)) = ls.flatten.length := by
   rw [zai (n := 0 - 0) (by omega) (by omega), hlen, zai (by omega) (by omega)]; omega
  conv=>whnf
  refine zm4 hΘ Tryz.func92 rfl (by decide) _ _ rfl rfl rfl (zex hΘ _ _ _ ?_);conv=>whnf
  refine br (fun g => absurd g (by simp)) (fun _ => ?_);conv=>whnf
  refine br (fun g => ?_) (fun g => ?_)
  ·have gp : 0 < ls.flatten.length := by rw [e2] at g; simpa using g
   conv=>whnf
   refine ⟨⟨by decide, by decide⟩, ?_⟩;conv=>whnf
   refine ⟨rfl, rfl, by rw [e2]; omega, by rw [e2]; show (ls.flatten.length : Int) * (16 : Int) ≤ 140737488355328; omega, fun c hc => ?_⟩;conv=>whnf
   refine ⟨⟨by decide, by simp⟩, ?_⟩;conv=>whnf
   refine zau hΘ (X := { x : Nat × Nat // x.1 ≤ ls.length }) (fun x => [(6, .va (.slice false 2 0 0 2 (ls.take x.1.1).flatten.length x.1.2)), (27, .va (.int .i64 x.1.1))]) [8, 28, 29, 30, 31, 32, 33, 34]
    (fun x => [(0, .frz F), (1, .gone), (2, .one (.arr 50 2 ((ls.take x.1.1).flatten.map enc) x.1.2))]) 3 (fun x => ls.length - x.1.1) ⟨(0, c), by simp⟩
    (fun hH hT => leI [(2, 1)] hH hT rfl ⟨trivial, trivial, zcd _ _ 0, trivial⟩ ⟨⟨rfl, rfl, rfl, .inr ⟨rfl, rfl, by split <;> rfl, rfl⟩⟩, rfl, trivial⟩ ⟨Fz.le_refl F, rfl, trivial⟩) ?_
   rintro ⟨⟨k, c⟩, hk⟩ hH hT
   replace hk : k ≤ ls.length := hk
   conv=>whnf
   refine br (fun g => ?_) (fun g => ?_)
   ·have g : k < ls.length := by simpa using g
    conv=>whnf
    have hObt := SlR.at s4 g
    obtain ⟨y, hy, a, rfl, ha⟩ := hObt
    obtain ⟨han, hab, hae, hac, haL, har, rfl, ha1, ha2, ha3, ha4⟩ := ha
    refine ⟨SlR.lt s1 g, ⟨by simp, by simpa using g⟩, ?_⟩;conv=>whnf
    refine ⟨_, s2 (SlR.lt s1 g), ?_⟩;conv=>whnf
    refine ⟨_, hy, ?_⟩
    have f1 := zcr ls k
    have f2 := zcr ls (k + 1)
    have f3 := zcu g
    rw [f3, List.length_append] at f2
    have step : ∀ (X : List (List SA)) (c' : Nat), X = ls[k].map enc → (SB.arr 50 2 ((ls.take k).flatten.map enc ++ X) c') = SB.ren (sig [(2, 3)]) (.arr 50 2 ((ls.take (k + 1)).flatten.map enc) c') := by
     intro X c' hX
     rw [zdv, f3, List.map_append, hX]
    rcases han with _ | _
    ·conv=>whnf
     refine ⟨_, _, _, ha2 rfl, ha3, _, ha4, ?_⟩;conv=>whnf
     refine ⟨rfl, (List.length_map _).symm, rfl, by simp only [List.length_map]; show _ * 16 ≤ _; omega, fun c' hc' => ?_⟩;conv=>whnf
     refine ⟨⟨(k + 1, c'), by show k + 1 ≤ ls.length; omega⟩, by show ls.length - (k + 1) < ls.length - k; omega, leR [(2, 3)] hH hT rfl ⟨trivial, trivial, zcd _ _ 0, trivial⟩ ⟨⟨rfl, ?_, rfl, .inr ⟨rfl, rfl, rfl, rfl⟩⟩, cnt (by omega), trivial⟩ ⟨Fz.le_refl F, step _ _ rfl, trivial⟩⟩
     show (ls.take (k + 1)).flatten.length = (ls.take k).flatten.length + (ls[k].map enc).length
     rw [List.length_map, f3, List.length_append]
    ·have hnil : ls[k] = [] := ha1 rfl
     conv=>whnf
     refine ⟨by rw [hnil]; rfl, ?_⟩;conv=>whnf
     refine ⟨rfl, (List.length_map _).symm, rfl, by show _ * 16 ≤ _; simp only [List.length_nil, Nat.add_zero]; omega, fun c' hc' => ?_⟩;conv=>whnf
     refine ⟨⟨(k + 1, c'), by show k + 1 ≤ ls.length; omega⟩, by show ls.length - (k + 1) < ls.length - k; omega, leR [(2, 3)] hH hT rfl ⟨trivial, trivial, zcd _ _ 0, trivial⟩ ⟨⟨rfl, ?_, rfl, .inr ⟨rfl, rfl, rfl, rfl⟩⟩, cnt (by omega), trivial⟩ ⟨Fz.le_refl F, step _ _ (by rw [hnil]; rfl), trivial⟩⟩
     show (ls.take (k + 1)).flatten.length = (ls.take k).flatten.length + 0
     rw [f3, List.length_append, hnil]; rfl
   ·have hk' : k = ls.length := by have : ¬ k < ls.length := by simpa using g
                                   omega
    have ht : (ls.take k).flatten = ls.flatten := by rw [List.take_of_length_le (by omega)]
    conv=>whnf
    refine zb8 2 (fun _ => .arr 50 2 (ls.flatten.map enc) c) rfl rfl rfl (fun _ _ => ?_) (fun _ _ => zcd _ _ _) ?_
    ·refine (zdv _ (ls.take k).flatten c).trans ?_
     rw [ht]
    intro b F' hle hb
    refine endFo (.ret (.va (.slice false 0 (b 0) 0 2 ls.flatten.length c))) F' rfl hle (Fz.le_refl F') ⟨_, rfl, Sl.new (hb 0 rfl)⟩ ?_ rfl
    exact ⟨rfl, by show ls.flatten.length = (ls.take k).flatten.length; rw [ht], rfl, .inr ⟨rfl, rfl, rfl, rfl⟩⟩
  ·have gp : ls.flatten = [] := List.length_eq_zero_iff.1 (by rw [e2] at g; simp only [decide_eq_false_iff_not] at g; omega)
   conv=>whnf
   refine zau hΘ (X := { k : Nat // k ≤ ls.length }) (fun k => [(6, .va .nilsl), (27, .va (.int .i64 k.1))]) [8, 28, 29, 30, 31, 32, 33, 34] (fz fun _ => F) 1 (fun k => ls.length - k.1) ⟨0, by simp⟩
    (fun hH hT => le0 hH hT rfl (Fz.le_refl F) rfl ⟨rfl, rfl, trivial⟩) ?_
   rintro ⟨k, hk⟩ hH hT;conv=>whnf
   refine br (fun g => ?_) (fun g => ?_)
   ·have g : k < ls.length := by simpa using g
    have hnil : ls[k] = [] := by
     have := List.flatten_eq_nil_iff.1 gp ls[k] (List.getElem_mem g); exact this
    conv=>whnf
    have hObt := SlR.at s4 g
    obtain ⟨y, hy, a, rfl, ha⟩ := hObt
    obtain ⟨han, hab, hae, hac, haL, har, rfl, ha1, ha2, ha3, ha4⟩ := ha
    refine ⟨SlR.lt s1 g, ⟨by simp, by simpa using g⟩, ?_⟩;conv=>whnf
    refine ⟨_, s2 (SlR.lt s1 g), ?_⟩;conv=>whnf
    refine ⟨_, hy, ?_⟩
    rcases han with _ | _
    ·conv=>whnf
     refine ⟨_, _, _, ha2 rfl, ha3, [], by rw [hnil]; rfl, ?_⟩;conv=>whnf
     refine ⟨rfl, rfl, ?_⟩;conv=>whnf
     exact ⟨⟨k + 1, by omega⟩, by show ls.length - (k + 1) < ls.length - k; omega, lr0 hH hT rfl (Fz.le_refl F) rfl ⟨rfl, cnt (by omega), trivial⟩⟩
    ·conv=>whnf
     refine ⟨by rw [hnil]; rfl, ?_⟩;conv=>whnf
     refine ⟨rfl, rfl, ?_⟩;conv=>whnf
     exact ⟨⟨k + 1, by omega⟩, by show ls.length - (k + 1) < ls.length - k; omega, lr0 hH hT rfl (Fz.le_refl F) rfl ⟨rfl, cnt (by omega), trivial⟩⟩
   ·conv=>whnf
    exact endFo (.ret (.va (.slice true 0 0 0 2 0 0))) F rfl (Fz.le_refl F) (Fz.le_refl F) ⟨_, rfl, by rw [gp]; exact Sl.nil⟩ ⟨rfl, rfl, rfl⟩ rfl
end Go.Proofs.YtblllibdahkgfaaGreatDoor
