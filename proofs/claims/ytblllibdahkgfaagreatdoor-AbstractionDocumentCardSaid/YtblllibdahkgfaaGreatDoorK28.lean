import Derived.Test.YtblllibdahkgfaaGreatDoorK25
import Derived.Test.YtblllibdahkgfaaGreatDoorK27
import Derived.Test.YtblllibdahkgfaaGreatDoorK26

namespace Go.Proofs.YtblllibdahkgfaaGreatDoor
open Go Sx
set_option maxRecDepth 100000
/-- A line, a value of the reference as the code's. -/
def ofR (p : Int) (x : RLn) : Ln := if p = 1 then (x.1, []) else ([], (numsOf x).take (colN p))
def ofV (p : Int) (v : RVal) : Val := ⟨v.lost, v.lines.map (ofR p), v.w, v.h, v.bits⟩
end Go.Proofs.YtblllibdahkgfaaGreatDoor

namespace Go.Proofs.YtblllibdahkgfaaGreatDoor
open Go Sx
set_option maxRecDepth 100000
end Go.Proofs.YtblllibdahkgfaaGreatDoor

namespace Go.Proofs.YtblllibdahkgfaaGreatDoor
open Go Sx
set_option maxRecDepth 100000
end Go.Proofs.YtblllibdahkgfaaGreatDoor

namespace Go.Proofs.YtblllibdahkgfaaGreatDoor
open Go Sx
set_option maxRecDepth 100000
/-- The lines so far. -/
structure SomeL (p : Int) (m k at_ : Int) (L : List RLn) : Prop where
  i : 0 ≤ k ∧ k ≤ m ∧ k ≤ 12
  a : 0 ≤ at_ ∧ at_ ≤ 41 * k
  l : (L.length : Int) ≤ k
  o : lnsOk p [] (L.map (ofR p))
  t : ∀ x ∈ L, x.1.length ≤ 23
theorem SomeL.value {p m k a : Int} {L : List RLn} (h : SomeL p m k a L) (hp : 1 ≤ p ∧ p ≤ 5) : VOK p (ofV p ⟨false, L, 0, 0, []⟩) := by
  right
  refine ⟨rfl, ?_⟩
  rw [if_neg (by omega), if_neg (by omega)]
  have h1 := h.l
  have h2 := h.i
  exact ⟨rfl, rfl, rfl, by show (L.map (ofR p)).length ≤ 64; rw [List.length_map]; omega, h.o⟩
theorem SomeL.no {p m k a a' : Int} {L : List RLn} (h : SomeL p m k a L) (hk : k < m) (h12 : k < 12) (ha : a ≤ a' ∧ a' ≤ a + 41) : SomeL p m (k + 1) a' L :=
  ⟨by have := h.i; omega, by have := h.a; omega, by have := h.l; omega, h.o, h.t⟩
end Go.Proofs.YtblllibdahkgfaaGreatDoor

namespace Go.Proofs.YtblllibdahkgfaaGreatDoor
open Go Sx
set_option maxRecDepth 100000
end Go.Proofs.YtblllibdahkgfaaGreatDoor

namespace Go.Proofs.YtblllibdahkgfaaGreatDoor
open Go Sx
set_option maxRecDepth 100000
end Go.Proofs.YtblllibdahkgfaaGreatDoor

namespace Go.Proofs.YtblllibdahkgfaaGreatDoor
open Go Sx
set_option maxRecDepth 100000
end Go.Proofs.YtblllibdahkgfaaGreatDoor
