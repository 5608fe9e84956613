/-
  DERIVED. GIVEN WITH THE SEED: THE CARDS: each row of YtblllibdahkgfaaGreatDoorRows.lean that lists a variable, with what it lists TIED to the program's text (the seventh form; the later family's looks); each row that meets fmt, with fmt's text TOLD by the authors' own Lean function (tested against real Go, not proved from fmt's source: count such statements apart). THE CARD IS WHAT COUNTS. Prove the row's statement (the work); the ties are given (YtblllibdahkgfaaGreatDoorTie.lean); close each card by the builder's one call (the guide's Derived/Test/ToyasCard.lean, 'card_holds'). Laid BY PROGRAM, IN A SANDBOX (cutbox-door.mjs). By AI agents, Wed Nov 11 2026. No macro, syntax, notation, axiom, sorry.
-/
import Derived.Test.YtblllibdahkgfaaGreatDoorRows
import GoSem.ClaimSeven
namespace Go.Proofs.YtblllibdahkgfaaGreatDoor
namespace Rows

/-- THE TIED CARD OF 'evergreenlaw07.AbstractionMatchesReference'. -/
def abstractionMatchesReferenceCard : Claim7 := { stood := { row := abstractionMatchesReferenceRow, standIns := [], harness := (true, "3089b9aeb981200df7b8efebaf22018fabce37852786041b84677f6f007ab8ca"), looks := true }, kinds := [], alts := [], laidByText := true, laidKinds := [.data, .pinned, .pinned], laidTests := true, laidLooks := .later }
def AbstractionMatchesReferenceCardSaid : Prop := Claim7.holds Tryz.pinned (.plain (OpenSpec.ofChange abstractionMatchesReferenceSpec)) abstractionMatchesReferenceCard

/-- THE TIED CARD OF 'evergreenlaw07.AbstractionApplyMatchesReference'. -/
def abstractionApplyMatchesReferenceCard : Claim7 := { stood := { row := abstractionApplyMatchesReferenceRow, standIns := [], harness := (true, "3089b9aeb981200df7b8efebaf22018fabce37852786041b84677f6f007ab8ca"), looks := true }, kinds := [], alts := [], laidByText := true, laidKinds := [.data, .pinned, .pinned], laidTests := true, laidLooks := .later }
def AbstractionApplyMatchesReferenceCardSaid : Prop := Claim7.holds Tryz.pinned (.plain (OpenSpec.ofChange abstractionApplyMatchesReferenceSpec)) abstractionApplyMatchesReferenceCard

/-- THE TIED CARD OF 'evergreenlaw07.AbstractionCompose'. -/
def abstractionComposeCard : Claim7 := { stood := { row := abstractionComposeRow, standIns := [], harness := (true, "3089b9aeb981200df7b8efebaf22018fabce37852786041b84677f6f007ab8ca"), looks := true }, kinds := [], alts := [], laidByText := true, laidKinds := [.data, .pinned, .pinned], laidTests := true, laidLooks := .later }
def AbstractionComposeCardSaid : Prop := Claim7.holds Tryz.pinned (.plain (OpenSpec.ofChange abstractionComposeSpec)) abstractionComposeCard

/-- THE TIED CARD OF 'evergreenlaw07.AbstractionNormal'. -/
def abstractionNormalCard : Claim7 := { stood := { row := abstractionNormalRow, standIns := [], harness := (true, "3089b9aeb981200df7b8efebaf22018fabce37852786041b84677f6f007ab8ca"), looks := true }, kinds := [], alts := [], laidByText := true, laidKinds := [.data, .pinned, .pinned], laidTests := true, laidLooks := .later }
def AbstractionNormalCardSaid : Prop := Claim7.holds Tryz.pinned (.plain (OpenSpec.ofChange abstractionNormalSpec)) abstractionNormalCard

/-- THE TIED CARD OF 'evergreenlaw07.AbstractionCoarser'. -/
def abstractionCoarserCard : Claim7 := { stood := { row := abstractionCoarserRow, standIns := [], harness := (true, "3089b9aeb981200df7b8efebaf22018fabce37852786041b84677f6f007ab8ca"), looks := true }, kinds := [], alts := [], laidByText := true, laidKinds := [.data, .pinned, .pinned], laidTests := true, laidLooks := .later }
def AbstractionCoarserCardSaid : Prop := Claim7.holds Tryz.pinned (.plain (OpenSpec.ofChange abstractionCoarserSpec)) abstractionCoarserCard

/-- THE TIED CARD OF 'evergreenlaw07.AbstractionExactly'. -/
def abstractionExactlyCard : Claim7 := { stood := { row := abstractionExactlyRow, standIns := [], harness := (true, "3089b9aeb981200df7b8efebaf22018fabce37852786041b84677f6f007ab8ca"), looks := true }, kinds := [], alts := [], laidByText := true, laidKinds := [.data, .pinned, .pinned], laidTests := true, laidLooks := .later }
def AbstractionExactlyCardSaid : Prop := Claim7.holds Tryz.pinned (.plain (OpenSpec.ofChange abstractionExactlySpec)) abstractionExactlyCard

/-- THE TIED CARD OF 'evergreenlaw07.AbstractionEach'. -/
def abstractionEachCard : Claim7 := { stood := { row := abstractionEachRow, standIns := [], harness := (true, "3089b9aeb981200df7b8efebaf22018fabce37852786041b84677f6f007ab8ca"), looks := true }, kinds := [], alts := [], laidByText := true, laidKinds := [.data, .pinned, .pinned], laidTests := true, laidLooks := .later }
def AbstractionEachCardSaid : Prop := Claim7.holds Tryz.pinned (.plain (OpenSpec.ofChange abstractionEachSpec)) abstractionEachCard

/-- THE TIED CARD OF 'evergreenlaw07.AbstractionDocument'. -/
def abstractionDocumentCard : Claim7 := { stood := { row := abstractionDocumentRow, standIns := [], harness := (true, "3089b9aeb981200df7b8efebaf22018fabce37852786041b84677f6f007ab8ca"), looks := true }, kinds := [], alts := [], laidByText := true, laidKinds := [.data, .pinned, .pinned], laidTests := true, laidLooks := .later }
def AbstractionDocumentCardSaid : Prop := Claim7.holds Tryz.pinned (.plain (OpenSpec.ofChange abstractionDocumentSpec)) abstractionDocumentCard

/-- THE SECOND FORM's CARD OF 'evergreenlaw07.AbstractionMatchesReference'. -/
def abstractionMatchesReferenceUptoCard : Claim7 := { stood := { row := abstractionMatchesReferenceUptoRow, standIns := [], harness := (true, "3089b9aeb981200df7b8efebaf22018fabce37852786041b84677f6f007ab8ca"), looks := true }, kinds := [], alts := [], laidByText := true, laidKinds := [.data, .pinned, .pinned], laidTests := true, laidLooks := .later }
def AbstractionMatchesReferenceUptoCardSaid : Prop := Claim7.holds Tryz.pinned (.plain (OpenSpec.upto abstractionMatchesReferenceSpec)) abstractionMatchesReferenceUptoCard

/-- THE SECOND FORM's CARD OF 'evergreenlaw07.AbstractionApplyMatchesReference'. -/
def abstractionApplyMatchesReferenceUptoCard : Claim7 := { stood := { row := abstractionApplyMatchesReferenceUptoRow, standIns := [], harness := (true, "3089b9aeb981200df7b8efebaf22018fabce37852786041b84677f6f007ab8ca"), looks := true }, kinds := [], alts := [], laidByText := true, laidKinds := [.data, .pinned, .pinned], laidTests := true, laidLooks := .later }
def AbstractionApplyMatchesReferenceUptoCardSaid : Prop := Claim7.holds Tryz.pinned (.plain (OpenSpec.upto abstractionApplyMatchesReferenceSpec)) abstractionApplyMatchesReferenceUptoCard

/-- THE SECOND FORM's CARD OF 'evergreenlaw07.AbstractionCompose'. -/
def abstractionComposeUptoCard : Claim7 := { stood := { row := abstractionComposeUptoRow, standIns := [], harness := (true, "3089b9aeb981200df7b8efebaf22018fabce37852786041b84677f6f007ab8ca"), looks := true }, kinds := [], alts := [], laidByText := true, laidKinds := [.data, .pinned, .pinned], laidTests := true, laidLooks := .later }
def AbstractionComposeUptoCardSaid : Prop := Claim7.holds Tryz.pinned (.plain (OpenSpec.upto abstractionComposeSpec)) abstractionComposeUptoCard

/-- THE SECOND FORM's CARD OF 'evergreenlaw07.AbstractionNormal'. -/
def abstractionNormalUptoCard : Claim7 := { stood := { row := abstractionNormalUptoRow, standIns := [], harness := (true, "3089b9aeb981200df7b8efebaf22018fabce37852786041b84677f6f007ab8ca"), looks := true }, kinds := [], alts := [], laidByText := true, laidKinds := [.data, .pinned, .pinned], laidTests := true, laidLooks := .later }
def AbstractionNormalUptoCardSaid : Prop := Claim7.holds Tryz.pinned (.plain (OpenSpec.upto abstractionNormalSpec)) abstractionNormalUptoCard

/-- THE SECOND FORM's CARD OF 'evergreenlaw07.AbstractionCoarser'. -/
def abstractionCoarserUptoCard : Claim7 := { stood := { row := abstractionCoarserUptoRow, standIns := [], harness := (true, "3089b9aeb981200df7b8efebaf22018fabce37852786041b84677f6f007ab8ca"), looks := true }, kinds := [], alts := [], laidByText := true, laidKinds := [.data, .pinned, .pinned], laidTests := true, laidLooks := .later }
def AbstractionCoarserUptoCardSaid : Prop := Claim7.holds Tryz.pinned (.plain (OpenSpec.upto abstractionCoarserSpec)) abstractionCoarserUptoCard

/-- THE SECOND FORM's CARD OF 'evergreenlaw07.AbstractionExactly'. -/
def abstractionExactlyUptoCard : Claim7 := { stood := { row := abstractionExactlyUptoRow, standIns := [], harness := (true, "3089b9aeb981200df7b8efebaf22018fabce37852786041b84677f6f007ab8ca"), looks := true }, kinds := [], alts := [], laidByText := true, laidKinds := [.data, .pinned, .pinned], laidTests := true, laidLooks := .later }
def AbstractionExactlyUptoCardSaid : Prop := Claim7.holds Tryz.pinned (.plain (OpenSpec.upto abstractionExactlySpec)) abstractionExactlyUptoCard

/-- THE SECOND FORM's CARD OF 'evergreenlaw07.AbstractionEach'. -/
def abstractionEachUptoCard : Claim7 := { stood := { row := abstractionEachUptoRow, standIns := [], harness := (true, "3089b9aeb981200df7b8efebaf22018fabce37852786041b84677f6f007ab8ca"), looks := true }, kinds := [], alts := [], laidByText := true, laidKinds := [.data, .pinned, .pinned], laidTests := true, laidLooks := .later }
def AbstractionEachUptoCardSaid : Prop := Claim7.holds Tryz.pinned (.plain (OpenSpec.upto abstractionEachSpec)) abstractionEachUptoCard

/-- THE SECOND FORM's CARD OF 'evergreenlaw07.AbstractionDocument'. -/
def abstractionDocumentUptoCard : Claim7 := { stood := { row := abstractionDocumentUptoRow, standIns := [], harness := (true, "3089b9aeb981200df7b8efebaf22018fabce37852786041b84677f6f007ab8ca"), looks := true }, kinds := [], alts := [], laidByText := true, laidKinds := [.data, .pinned, .pinned], laidTests := true, laidLooks := .later }
def AbstractionDocumentUptoCardSaid : Prop := Claim7.holds Tryz.pinned (.plain (OpenSpec.upto abstractionDocumentSpec)) abstractionDocumentUptoCard
end Rows
end Go.Proofs.YtblllibdahkgfaaGreatDoor
