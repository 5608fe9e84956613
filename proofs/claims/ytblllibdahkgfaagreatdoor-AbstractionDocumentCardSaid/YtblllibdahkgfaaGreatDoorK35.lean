import Derived.Test.YtblllibdahkgfaaGreatDoorK34
import Derived.Test.YtblllibdahkgfaaGreatDoorK26

namespace Go.Proofs.YtblllibdahkgfaaGreatDoor
open Go Sx
set_option maxRecDepth 100000
/-- A row that came in, at any place of a block. -/
def RawRow {α : Type} (F : Fz) (sz : Nat) (enc : α → List SA) (b off : Nat) (l : List α) : Prop :=
  ∀ n, 0 < n → n ≤ l.length → ∃ B, F b = some B ∧ rdB B ⟨0, b, off, 1, 0⟩ (n * sz) fun xs => xs = ((l.take n).map enc).flatten
theorem RawRow.mono {α : Type} {F F' : Fz} {sz : Nat} {enc : α → List SA} {b off : Nat} {l : List α} (h : RawRow F sz enc b off l) (hle : Fz.le F F') : RawRow F' sz enc b off l := fun n h1 h2 => by
  obtain ⟨B, h3, h4⟩ := h n h1 h2
  exact ⟨B, hle _ _ h3, h4⟩
abbrev m20 (n : Nat) : Nat := (if (20 : Int) < (n : Nat) then (20 : Int) else (n : Nat)).toNat - 0
theorem m20_le (n : Nat) : m20 n ≤ n ∧ m20 n ≤ 20 := by
  show (if (20 : Int) < (n : Nat) then (20 : Int) else (n : Nat)).toNat - 0 ≤ n ∧ (if (20 : Int) < (n : Nat) then (20 : Int) else (n : Nat)).toNat - 0 ≤ 20
  split <;> omega
theorem raw20 {α : Type} {F : Fz} {sz : Nat} {enc : α → List SA} {b off c : Nat} {l : List α} (h : RawRow F sz enc b off l) :
    m20 l.length = 0 ∨ ∃ B, F b = some B ∧ rdB B ⟨0, b, if c = 0 then off else off + 0 * sz, 1, 0⟩ (m20 l.length * sz) fun xs => xs = ((l.take (m20 l.length)).map enc).flatten := by
  by_cases h0 : m20 l.length = 0
  · exact .inl h0
  · rw [show (if c = 0 then off else off + 0 * sz) = off by split <;> simp]
    exact .inr (h _ (by omega) (m20_le _).1)
theorem encN_plain : Plain encN := fun x => ⟨fun μ => rfl, fun a ha => by
  simp only [encN, List.mem_cons, List.not_mem_nil, or_false] at ha
  rcases ha with rfl | rfl <;> trivial⟩
theorem doc_key {F0 : Fz} (m0 : MLF F0) {D : Dc} (hd : docOk D = true) (x : List Int) (k : Nat) (h1 : 1 ≤ k) (h8 : k ≤ 8) :
    ∃ t t2 : List UInt8, (∀ G sa, Fz.le F0 G → StepsAt G sa (stepsS k x) → Fo Tryz.prog G 26 [.va (.int .i64 k), .va sa, .va (.str (propB k D))] (fun o F' => o = .ret (.tup [.va (.str t), .va (.int .i64 0)]))) ∧
      (∀ G sa, Fz.le F0 G → StepsAt G sa (stepsS k x) → Fo Tryz.prog G 26 [.va (.int .i64 k), .va sa, .va (.str t)] (fun o F' => o = .ret (.tup [.va (.str t2), .va (.int .i64 0)]))) ∧
      (∀ G, Fz.le F0 G → Fo Tryz.prog G 28 [.va (.int .i64 k), .va (.slice true 0 0 0 2 0 0), .va (.str (propB k D)), .va (.str (propB k D))] (fun o F' => o = .ret (.va (.lit true)) ∧ True)) := by
  have hp : 1 ≤ (k : Int) ∧ (k : Int) ≤ 8 := by omega
  have hv := docVal_ok hp hd
  have hl := stepsS_valid hp x
  rw [propB_eq hp]
  exact ⟨_, _, fun G sa hG hs => applyOk hl hv G (m0.mono hG) sa hs, fun G sa hG hs => applyOk hl (run_ok hl hv) G (m0.mono hG) sa hs, fun G hG => isOk (nilV hp) hv rfl G (m0.mono hG) _ Sl.nil⟩
abbrev s11 (s : List UInt8) : Nat := (if (1100 : Int) < (s.length : Nat) then (1100 : Int) else (s.length : Nat)).toNat
set_option maxHeartbeats 16000000 in
theorem law8_fn (F0 : Fz) (m0 : MLF F0) (an bn n1 : Bool) (ab ao ac bb bo bc b1 e1 s1 l1 c1 : Nat) (L : List DLn) (K : List Cel) (w : Int) (s : List UInt8) (x : List Int)
    (hLn : an = true → L = []) (hLc : L.length ≤ ac) (hL : RawRow F0 2 encN ab ao L) (hKn : bn = true → K = []) (hKc : K.length ≤ bc) (hK : RawRow F0 6 encK bb bo K) (hx : StepsArg F0 (.slice n1 0 b1 e1 s1 l1 c1) x) :
    Fo Tryz.prog F0 10 [.agg [.slice an 0 ab ao 1 L.length ac, .slice bn 0 bb bo 1 K.length bc, .int .i64 w, .str s], .va (.slice n1 0 b1 e1 s1 l1 c1)] (fun o F' => o = .ret (.va (.bool true)) ∧ True) := by
  have hsane := saneL F0 m0
  have rawL := fun F1 (u : Fz.le F0 F1) => raw20 (c := ac) (hL.mono u)
  have rawK := fun F1 (u : Fz.le F0 F1) => raw20 (c := bc) (hK.mono u)
  have hLn0 : an = true → m20 L.length = 0 := fun h => by rw [hLn h]; rfl
  have hKn0 : bn = true → m20 K.length = 0 := fun h => by rw [hKn h]; rfl
  have hLl : ((L.take (m20 L.length)).map encN).length = m20 L.length := by rw [List.length_map, List.length_take]; have := (m20_le L.length).1; omega
  have hKl : ((K.take (m20 K.length)).map encK).length = m20 K.length := by rw [List.length_map, List.length_take]; have := (m20_le K.length).1; omega
  have hLs : ∀ x ∈ (L.take (m20 L.length)).map encN, x.length = 2 := fun x hx => by obtain ⟨y, _, rfl⟩ := List.mem_map.1 hx; rfl
  have hKs : ∀ x ∈ (K.take (m20 K.length)).map encK, x.length = 6 := fun x hx => by obtain ⟨y, _, rfl⟩ := List.mem_map.1 hx; rfl
  have cutL : (0 ≤ if (20 : Int) < (L.length : Nat) then (20 : Int) else (L.length : Nat)) ∧ (if (20 : Int) < (L.length : Nat) then (20 : Int) else (L.length : Nat)) ≤ (ac : Nat) := by split <;> omega
  have cutK : (0 ≤ if (20 : Int) < (K.length : Nat) then (20 : Int) else (K.length : Nat)) ∧ (if (20 : Int) < (K.length : Nat) then (20 : Int) else (K.length : Nat)) ≤ (bc : Nat) := by split <;> omega
  have szL : (0 + ((L.take (m20 L.length)).map encN).length) * 24 ≤ 140737488355328 := by rw [hLl]; have := (m20_le L.length).2; omega
  have szK : (0 + ((K.take (m20 K.length)).map encK).length) * 48 ≤ 140737488355328 := by rw [hKl]; have := (m20_le K.length).2; omega
  have cutS : (0 ≤ if (1100 : Int) < (s.length : Nat) then (1100 : Int) else (s.length : Nat)) ∧ (if (1100 : Int) < (s.length : Nat) then (1100 : Int) else (s.length : Nat)) ≤ (s.length : Nat) := by split <;> omega
  have fin : ∀ (F1 : Fz) (h : Hp) (nx : Nat), lget h 0 = some (.frz F1) → Fz.le F0 F1 → Cln 1 (FoK F0 fun o F' => o = .ret (.va (.bool true)) ∧ True) (.ret (.va (.bool true))) h nx := by
    intro F1 h nx h0 hle
    exact endFo (.ret (.va (.bool true))) F1 h0 hle (Fz.le_refl F1) ⟨rfl, trivial⟩ rfl rfl
  have hs11 : (s.take (s11 s)).length ≤ 70000 := by rw [List.length_take]; show min (if (1100 : Int) < (s.length : Nat) then (1100 : Int) else (s.length : Nat)).toNat _ ≤ _; split <;> omega
  obtain ⟨D, hD⟩ : ∃ D : Dc, D = ⟨L.take (m20 L.length), K.take (m20 K.length), w, s.take (s11 s)⟩ := ⟨_, rfl⟩
  have hLl2 : 0 + ((L.take (m20 L.length)).map encN).length = D.lines.length := by rw [hD, List.length_map, Nat.zero_add]
  have hKl2 : 0 + ((K.take (m20 K.length)).map encK).length = D.cells.length := by rw [hD, List.length_map, Nat.zero_add]
  have hcall : ∀ F1, Fz.le F0 F1 → ∀ ab ac bb bc nl nk, nl = D.lines.length → nk = D.cells.length → F1 ab = some (.arr 168 2 ((L.take (m20 L.length)).map encN) ac) → F1 bb = some (.arr 172 6 ((K.take (m20 K.length)).map encK) bc) → nk ≤ bc →
      Fo Tryz.prog F1 33 [.agg (docS (.slice false 0 ab 0 2 nl ac) (.slice false 0 bb 0 6 nk bc) w (s.take (s11 s)))] (fun o F' => (docOk D = false ∧ o = .ret (.tup [.va .nilsl, .va (.int .i64 60)])) ∨ (docOk D = true ∧ ∃ b c, o = .ret (.tup [.va (.slice false 0 b 0 1 8 c), .va (.int .i64 0)]) ∧ F' b = some (.arr 9 1 ((allB D).map encS) c))) := by
    intro F1 u ab ac bb bc nl nk e1 e2 g1 g2 g3
    subst e1 e2 hD
    exact all_fn pfun F1 false ab 0 ac false bb 0 bc ⟨L.take (m20 L.length), K.take (m20 K.length), w, s.take (s11 s)⟩ (Sl.new g1) (Sl.new g2) (by show (L.take _).length ≤ _; rw [List.length_take]; have := (m20_le L.length).2; omega) (by show (K.take _).length ≤ _; rw [List.length_take]; have := (m20_le K.length).2; omega) hs11 g3
  have hkey := fun hd : docOk D = true => doc_key m0 hd x
  have hgt := allB_get D
  have hgt2 : ∀ k, k < 8 → ((allB D).map encS)[0 + (IntKind.i64.wrap (((k + 1 : Nat) : Int) - 1)).toNat]? = some (encS (propB ((k + 1 : Nat) : Int) D)) := fun k hk => by
    rw [wrap64_id (by omega) (by omega), show 0 + (((k + 1 : Nat) : Int) - 1).toNat = k by omega, List.getElem?_map, hgt k hk]
    rfl
  have hin : ∀ k, k < 8 → 0 ≤ IntKind.i64.wrap (((k + 1 : Nat) : Int) - 1) ∧ IntKind.i64.wrap (((k + 1 : Nat) : Int) - 1) < 8 := fun k hk => by
    rw [wrap64_id (by omega) (by omega)]; omega
  obtain ⟨A, hA⟩ : ∃ A, (allB D).map encS = A := ⟨_, rfl⟩
  simp only [hA] at hgt2 hcall
  clear hA hgt
  rcases an with _ | _ <;> rcases bn with _ | _
  all_goals
    first | (have hh := hLn rfl; subst hh; let L : List DLn := []) | skip
    first | (have hh := hKn rfl; subst hh; let K : List Cel := []) | skip
    refine fo_of hΘ Tryz.func10 rfl (by decide) _ _ rfl rfl rfl ?_
    conv => whnf
    refine useFo hsane rfl (argsE_refl _) rfl ?_
    rintro _ F1 u1 ⟨rfl, -⟩
    conv => whnf
    refine ⟨cutL, ?_⟩
    conv => whnf
    first
      | refine ⟨(L.take (m20 L.length)).map encN, hLl, hLs, rawL F1 u1, ?_⟩
      | refine ⟨hLn0 rfl, ?_⟩
    conv => whnf
    refine ⟨rfl, rfl, rfl, ?_⟩
    conv => whnf
    refine ⟨szL, fun c1' hc1' => ?_⟩
    conv => whnf
    refine ⟨cutK, ?_⟩
    conv => whnf
    first
      | refine ⟨(K.take (m20 K.length)).map encK, hKl, hKs, rawK F1 u1, ?_⟩
      | refine ⟨hKn0 rfl, ?_⟩
    conv => whnf
    refine ⟨rfl, rfl, rfl, ?_⟩
    conv => whnf
    refine ⟨szK, fun c2' hc2' => ?_⟩
    conv => whnf
    refine ⟨cutS, ?_⟩
    conv => whnf
    refine freezeC 3 (fun _ => .arr 168 2 ((L.take (m20 L.length)).map encN) c1') rfl rfl rfl (fun _ _ => by first | exact rfl | exact gB_ren encN_plain rfl _ _ _ _) (fun _ _ => gB_below encN_plain _ _ _ _ _) ?_
    intro b1' F2 u2 hb1
    refine freezeC 5 (fun _ => .arr 172 6 ((K.take (m20 K.length)).map encK) c2') rfl rfl rfl (fun _ _ => by first | exact rfl | exact gB_ren encK_plain rfl _ _ _ _) (fun _ _ => gB_below encK_plain _ _ _ _ _) ?_
    intro b2' F3 u3 hb2
    have v3 := Fz.le_trans u1 (Fz.le_trans u2 u3)
    have hall := hcall F3 v3 (b1' 0) c1' (b2' 0) c2' _ _ hLl2 hKl2 (u3 _ _ (hb1 0 rfl)) (hb2 0 rfl) hc2'
    clear hb1 hb2 hc1' hc2' hcall u2 u3
    refine useFo hall rfl ⟨rfl, trivial⟩ rfl ?_
    rintro _ F4 u4 hor
    have v4 := Fz.le_trans v3 u4
    clear u4 v3 hall
    rcases hor with ⟨hd, rfl⟩ | ⟨hd, b, c, rfl, hb⟩
    · conv => whnf
      refine br (fun _ => ?_) (fun g2 => absurd g2 (by decide))
      conv => whnf
      exact fin F4 _ _ rfl v4
    · clear hLl hKl hLs hKs hLl2 hKl2 szL szK cutL cutK cutS hs11 hLn0 hKn0 rawL rawK hLn hKn hLc hKc hL hK hsane u1 hD
      replace hkey := hkey hd
      conv => whnf
      refine br (fun g2 => absurd g2 (by decide)) (fun _ => ?_)
      conv => whnf
      refine br (fun g2 => absurd g2 (by decide)) (fun _ => ?_)
      conv => whnf
      refine loop_at hΘ (X := { y : Nat × Fz // Fz.le F4 y.2 ∧ y.1 ≤ 8 }) (fun y => [(8, .va (.int .i64 ((y.1.1 + 1 : Nat) : Int)))]) [4, 9, 10, 11, 12, 13, 54, 55, 56, 57, 58, 59, 60, 61, 62, 63, 64, 65, 66, 67, 68, 69, 70, 71, 72, 73, 74, 75, 76, 77, 78, 79, 80, 81, 82, 83, 84, 85, 86, 87, 88, 89, 90, 91, 92, 93, 94, 95, 96, 97, 98, 99] (fz fun y => y.1.2) 9 (fun y => 8 - y.1.1) ⟨(0, F4), Fz.le_refl F4, by omega⟩
        (fun hH hT => leI [] hH hT rfl ⟨trivial, trivial⟩ ⟨rfl, trivial⟩ ⟨Fz.le_refl F4, trivial⟩) ?_
      rintro ⟨⟨k, G⟩, hG, hk⟩ hH hT
      replace hG : Fz.le F4 G := hG
      replace hk : k ≤ 8 := hk
      have lG := Fz.le_trans v4 hG
      by_cases g : k < 8
      · have hlt : ((k + 1 : Nat) : Int) ≤ 8 := by omega
        have hk1 : k + 1 ≤ 8 := g
        have hdec : 8 - (k + 1) < 8 - k := by omega
        have hk62 : k + 1 < 4611686018427387904 := by omega
        have hkk := hkey (k + 1) (by omega) hk1
        obtain ⟨t, t2, q1, q2, q3⟩ := hkk
        have hP8 : 1 ≤ ((k + 1 : Nat) : Int) ∧ ((k + 1 : Nat) : Int) ≤ 8 := by omega
        have hst := hx _ G hP8 lG
        have hgk := hgt2 k g
        have hik := hin k g
        conv => whnf
        refine br (fun _ => ?_) (fun g2 => absurd hlt (of_decide_eq_false g2))
        conv => whnf
        refine useFo hst rfl ⟨rfl, ⟨rfl, rfl, rfl, .inr ⟨rfl, rfl, rfl, rfl⟩⟩, trivial⟩ rfl ?_
        rintro _ G2 w2 ⟨sa, rfl, ha⟩
        have l2 := Fz.le_trans lG w2
        have hb2 := w2 _ _ (hG _ _ hb)
        have r1 := q1 G2 sa l2 ha
        have ha' := ha
        obtain ⟨han, hab, hae, hac, haL, har, rfl, ha1, ha2, ha3, ha4⟩ := ha
        conv => whnf
        refine ⟨rfl, hik, ?_⟩
        conv => whnf
        refine ⟨_, hb2, ?_⟩
        conv => whnf
        refine ⟨_, hgk, ?_⟩
        conv => whnf
        refine useFo r1 rfl ⟨rfl, ⟨rfl, rfl, rfl, .inr ⟨rfl, rfl, rfl, rfl⟩⟩, rfl, trivial⟩ rfl ?_
        rintro _ G3 w3 rfl
        have l3 := Fz.le_trans l2 w3
        have hb3 := w3 _ _ hb2
        have r2 := q2 G3 _ l3 (ha'.mono w3)
        conv => whnf
        refine useFo r2 rfl ⟨rfl, ⟨rfl, rfl, rfl, .inr ⟨rfl, rfl, rfl, rfl⟩⟩, rfl, trivial⟩ rfl ?_
        rintro _ G4 w4 rfl
        have l4 := Fz.le_trans l3 w4
        have hb4 := w4 _ _ hb3
        have r3 := q3 G4 l4
        conv => whnf
        refine drawP hΘ mixed (.look 0 (.look 1 (.look 2 (.look 3 (.look 4 (.look 5 (.look 6 (.look 7 (.look 8 (.look 9 (.look 10 (.look 11 (.look 12 (.look 13 (.look 14 (.look 15 (.look 16 (.look 17 (.alt 18 (.look 19 (.look 20 .done)) .nil))))))))))))))))))) [] (by kernel_rfl) ?_
        conv => whnf
        repeat
          refine ⟨fun _ => ?_, fun g => absurd g (by simp)⟩
          conv => whnf
        refine ⟨rfl, hik, ?_⟩
        conv => whnf
        repeat
          refine ⟨fun _ => ?_, fun g => absurd g (by simp)⟩
          conv => whnf
        refine ⟨rfl, ?_⟩
        conv => whnf
        refine ⟨_, hb4, ?_⟩
        conv => whnf
        refine ⟨_, hgk, ?_⟩
        conv => whnf
        repeat
          refine ⟨fun _ => ?_, fun g => absurd g (by simp)⟩
          conv => whnf
        refine ⟨rfl, hik, ?_⟩
        conv => whnf
        repeat
          refine ⟨fun _ => ?_, fun g => absurd g (by simp)⟩
          conv => whnf
        refine ⟨rfl, ?_⟩
        conv => whnf
        refine ⟨_, hb4, ?_⟩
        conv => whnf
        refine ⟨_, hgk, ?_⟩
        conv => whnf
        repeat
          refine ⟨fun _ => ?_, fun g => absurd g (by simp)⟩
          conv => whnf
        refine useFo r3 rfl ⟨rfl, ⟨rfl, rfl, rfl⟩, rfl, rfl, trivial⟩ rfl ?_
        rintro _ G5 w5 ⟨rfl, -⟩
        have l5 := Fz.le_trans (Fz.le_trans hG (Fz.le_trans w2 (Fz.le_trans w3 w4))) w5
        conv => whnf
        refine ⟨w5, ?_⟩
        conv => whnf
        repeat
          refine ⟨fun _ => ?_, fun g => absurd g (by simp)⟩
          conv => whnf
        exact ⟨⟨(k + 1, G5), l5, hk1⟩, hdec, leR [] hH hT rfl ⟨trivial, trivial⟩ ⟨cnt hk62, trivial⟩ ⟨Fz.le_refl G5, trivial⟩⟩
      · have hlt : ¬ ((k + 1 : Nat) : Int) ≤ 8 := by omega
        conv => whnf
        refine br (fun g2 => absurd (of_decide_eq_true g2) hlt) (fun _ => ?_)
        conv => whnf
        exact fin G _ _ rfl lG
end Go.Proofs.YtblllibdahkgfaaGreatDoor
