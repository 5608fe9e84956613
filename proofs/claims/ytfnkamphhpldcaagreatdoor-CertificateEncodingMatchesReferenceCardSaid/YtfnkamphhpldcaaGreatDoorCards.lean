/-
  DERIVED. GIVEN WITH THE SEED: THE CARDS: each row of YtfnkamphhpldcaaGreatDoorRows.lean that lists a variable, with what it lists TIED to the program's text (the seventh form; the later family's looks); each row that meets fmt, with fmt's text TOLD by the authors' own Lean function (tested against real Go, not proved from fmt's source: count such statements apart). THE CARD IS WHAT COUNTS. Prove the row's statement (the work); the ties are given (YtfnkamphhpldcaaGreatDoorTie.lean); close each card by the builder's one call (the guide's Derived/Test/ToyasCard.lean, 'card_holds'). Laid BY PROGRAM, IN A SANDBOX (cutbox-door.mjs). By AI agents, Wed Nov 11 2026. No macro, syntax, notation, axiom, sorry.
-/
import Derived.Test.YtfnkamphhpldcaaGreatDoorRows
import GoSem.ClaimSeven
namespace Go.Proofs.YtfnkamphhpldcaaGreatDoor
namespace Rows

/-- THE TIED CARD OF 'evergreenlaw10.CertificateTrue'. -/
def certificateTrueCard : Claim7 := { stood := { row := certificateTrueRow, standIns := [], harness := (true, "de1caac2f526b0f9c2b2b6695332a307d7ba7aa755400e700e15263392466040"), looks := true }, kinds := [], alts := [], laidByText := true, laidKinds := [.data, .data, .pinned, .pinned], laidTests := true, laidLooks := .later }
def CertificateTrueCardSaid : Prop := Claim7.holds Tryz.pinned (.plain (OpenSpec.ofChange certificateTrueSpec)) certificateTrueCard

/-- THE TIED CARD OF 'evergreenlaw10.CertificateMatchesReference'. -/
def certificateMatchesReferenceCard : Claim7 := { stood := { row := certificateMatchesReferenceRow, standIns := [], harness := (true, "de1caac2f526b0f9c2b2b6695332a307d7ba7aa755400e700e15263392466040"), looks := true }, kinds := [], alts := [], laidByText := true, laidKinds := [.data, .data, .pinned, .pinned], laidTests := true, laidLooks := .later }
def CertificateMatchesReferenceCardSaid : Prop := Claim7.holds Tryz.pinned (.plain (OpenSpec.ofChange certificateMatchesReferenceSpec)) certificateMatchesReferenceCard

/-- THE TIED CARD OF 'evergreenlaw10.CertificateMakeMatchesReference'. -/
def certificateMakeMatchesReferenceCard : Claim7 := { stood := { row := certificateMakeMatchesReferenceRow, standIns := [], harness := (true, "de1caac2f526b0f9c2b2b6695332a307d7ba7aa755400e700e15263392466040"), looks := true }, kinds := [], alts := [], laidByText := true, laidKinds := [.data, .data, .pinned, .pinned], laidTests := true, laidLooks := .later }
def CertificateMakeMatchesReferenceCardSaid : Prop := Claim7.holds Tryz.pinned (.plain (OpenSpec.ofChange certificateMakeMatchesReferenceSpec)) certificateMakeMatchesReferenceCard

/-- THE TIED CARD OF 'evergreenlaw10.CertificateEncodingMatchesReference'. -/
def certificateEncodingMatchesReferenceCard : Claim7 := { stood := { row := certificateEncodingMatchesReferenceRow, standIns := [], harness := (true, "de1caac2f526b0f9c2b2b6695332a307d7ba7aa755400e700e15263392466040"), looks := true }, kinds := [], alts := [], laidByText := true, laidKinds := [.data, .data, .pinned, .pinned], laidTests := true, laidLooks := .later }
def CertificateEncodingMatchesReferenceCardSaid : Prop := Claim7.holds Tryz.pinned (.plain (OpenSpec.ofChange certificateEncodingMatchesReferenceSpec)) certificateEncodingMatchesReferenceCard

/-- THE TIED CARD OF 'evergreenlaw10.CertificateMigrated'. -/
def certificateMigratedCard : Claim7 := { stood := { row := certificateMigratedRow, standIns := [], harness := (true, "de1caac2f526b0f9c2b2b6695332a307d7ba7aa755400e700e15263392466040"), looks := true }, kinds := [], alts := [], laidByText := true, laidKinds := [.data, .data, .pinned, .pinned], laidTests := true, laidLooks := .later }
def CertificateMigratedCardSaid : Prop := Claim7.holds Tryz.pinned (.plain (OpenSpec.ofChange certificateMigratedSpec)) certificateMigratedCard

/-- THE TIED CARD OF 'evergreenlaw10.CertificateChain'. -/
def certificateChainCard : Claim7 := { stood := { row := certificateChainRow, standIns := [], harness := (true, "de1caac2f526b0f9c2b2b6695332a307d7ba7aa755400e700e15263392466040"), looks := true }, kinds := [], alts := [], laidByText := true, laidKinds := [.data, .data, .pinned, .pinned], laidTests := true, laidLooks := .later }
def CertificateChainCardSaid : Prop := Claim7.holds Tryz.pinned (.plain (OpenSpec.ofChange certificateChainSpec)) certificateChainCard

/-- THE TIED CARD OF 'evergreenlaw10.CertificateGrouped'. -/
def certificateGroupedCard : Claim7 := { stood := { row := certificateGroupedRow, standIns := [], harness := (true, "de1caac2f526b0f9c2b2b6695332a307d7ba7aa755400e700e15263392466040"), looks := true }, kinds := [], alts := [], laidByText := true, laidKinds := [.data, .data, .pinned, .pinned], laidTests := true, laidLooks := .later }
def CertificateGroupedCardSaid : Prop := Claim7.holds Tryz.pinned (.plain (OpenSpec.ofChange certificateGroupedSpec)) certificateGroupedCard

/-- THE TIED CARD OF 'evergreenlaw10.CertificateBinding'. -/
def certificateBindingCard : Claim7 := { stood := { row := certificateBindingRow, standIns := [], harness := (true, "de1caac2f526b0f9c2b2b6695332a307d7ba7aa755400e700e15263392466040"), looks := true }, kinds := [], alts := [], laidByText := true, laidKinds := [.data, .data, .pinned, .pinned], laidTests := true, laidLooks := .later }
def CertificateBindingCardSaid : Prop := Claim7.holds Tryz.pinned (.plain (OpenSpec.ofChange certificateBindingSpec)) certificateBindingCard

/-- THE TIED CARD OF 'evergreenlaw10.CertificateBack'. -/
def certificateBackCard : Claim7 := { stood := { row := certificateBackRow, standIns := [], harness := (true, "de1caac2f526b0f9c2b2b6695332a307d7ba7aa755400e700e15263392466040"), looks := true }, kinds := [], alts := [], laidByText := true, laidKinds := [.data, .data, .pinned, .pinned], laidTests := true, laidLooks := .later }
def CertificateBackCardSaid : Prop := Claim7.holds Tryz.pinned (.plain (OpenSpec.ofChange certificateBackSpec)) certificateBackCard

/-- THE SECOND FORM's CARD OF 'evergreenlaw10.CertificateTrue'. -/
def certificateTrueUptoCard : Claim7 := { stood := { row := certificateTrueUptoRow, standIns := [], harness := (true, "de1caac2f526b0f9c2b2b6695332a307d7ba7aa755400e700e15263392466040"), looks := true }, kinds := [], alts := [], laidByText := true, laidKinds := [.data, .data, .pinned, .pinned], laidTests := true, laidLooks := .later }
def CertificateTrueUptoCardSaid : Prop := Claim7.holds Tryz.pinned (.plain (OpenSpec.upto certificateTrueSpec)) certificateTrueUptoCard

/-- THE SECOND FORM's CARD OF 'evergreenlaw10.CertificateMatchesReference'. -/
def certificateMatchesReferenceUptoCard : Claim7 := { stood := { row := certificateMatchesReferenceUptoRow, standIns := [], harness := (true, "de1caac2f526b0f9c2b2b6695332a307d7ba7aa755400e700e15263392466040"), looks := true }, kinds := [], alts := [], laidByText := true, laidKinds := [.data, .data, .pinned, .pinned], laidTests := true, laidLooks := .later }
def CertificateMatchesReferenceUptoCardSaid : Prop := Claim7.holds Tryz.pinned (.plain (OpenSpec.upto certificateMatchesReferenceSpec)) certificateMatchesReferenceUptoCard

/-- THE SECOND FORM's CARD OF 'evergreenlaw10.CertificateMakeMatchesReference'. -/
def certificateMakeMatchesReferenceUptoCard : Claim7 := { stood := { row := certificateMakeMatchesReferenceUptoRow, standIns := [], harness := (true, "de1caac2f526b0f9c2b2b6695332a307d7ba7aa755400e700e15263392466040"), looks := true }, kinds := [], alts := [], laidByText := true, laidKinds := [.data, .data, .pinned, .pinned], laidTests := true, laidLooks := .later }
def CertificateMakeMatchesReferenceUptoCardSaid : Prop := Claim7.holds Tryz.pinned (.plain (OpenSpec.upto certificateMakeMatchesReferenceSpec)) certificateMakeMatchesReferenceUptoCard

/-- THE SECOND FORM's CARD OF 'evergreenlaw10.CertificateEncodingMatchesReference'. -/
def certificateEncodingMatchesReferenceUptoCard : Claim7 := { stood := { row := certificateEncodingMatchesReferenceUptoRow, standIns := [], harness := (true, "de1caac2f526b0f9c2b2b6695332a307d7ba7aa755400e700e15263392466040"), looks := true }, kinds := [], alts := [], laidByText := true, laidKinds := [.data, .data, .pinned, .pinned], laidTests := true, laidLooks := .later }
def CertificateEncodingMatchesReferenceUptoCardSaid : Prop := Claim7.holds Tryz.pinned (.plain (OpenSpec.upto certificateEncodingMatchesReferenceSpec)) certificateEncodingMatchesReferenceUptoCard

/-- THE SECOND FORM's CARD OF 'evergreenlaw10.CertificateMigrated'. -/
def certificateMigratedUptoCard : Claim7 := { stood := { row := certificateMigratedUptoRow, standIns := [], harness := (true, "de1caac2f526b0f9c2b2b6695332a307d7ba7aa755400e700e15263392466040"), looks := true }, kinds := [], alts := [], laidByText := true, laidKinds := [.data, .data, .pinned, .pinned], laidTests := true, laidLooks := .later }
def CertificateMigratedUptoCardSaid : Prop := Claim7.holds Tryz.pinned (.plain (OpenSpec.upto certificateMigratedSpec)) certificateMigratedUptoCard

/-- THE SECOND FORM's CARD OF 'evergreenlaw10.CertificateChain'. -/
def certificateChainUptoCard : Claim7 := { stood := { row := certificateChainUptoRow, standIns := [], harness := (true, "de1caac2f526b0f9c2b2b6695332a307d7ba7aa755400e700e15263392466040"), looks := true }, kinds := [], alts := [], laidByText := true, laidKinds := [.data, .data, .pinned, .pinned], laidTests := true, laidLooks := .later }
def CertificateChainUptoCardSaid : Prop := Claim7.holds Tryz.pinned (.plain (OpenSpec.upto certificateChainSpec)) certificateChainUptoCard

/-- THE SECOND FORM's CARD OF 'evergreenlaw10.CertificateGrouped'. -/
def certificateGroupedUptoCard : Claim7 := { stood := { row := certificateGroupedUptoRow, standIns := [], harness := (true, "de1caac2f526b0f9c2b2b6695332a307d7ba7aa755400e700e15263392466040"), looks := true }, kinds := [], alts := [], laidByText := true, laidKinds := [.data, .data, .pinned, .pinned], laidTests := true, laidLooks := .later }
def CertificateGroupedUptoCardSaid : Prop := Claim7.holds Tryz.pinned (.plain (OpenSpec.upto certificateGroupedSpec)) certificateGroupedUptoCard

/-- THE SECOND FORM's CARD OF 'evergreenlaw10.CertificateBinding'. -/
def certificateBindingUptoCard : Claim7 := { stood := { row := certificateBindingUptoRow, standIns := [], harness := (true, "de1caac2f526b0f9c2b2b6695332a307d7ba7aa755400e700e15263392466040"), looks := true }, kinds := [], alts := [], laidByText := true, laidKinds := [.data, .data, .pinned, .pinned], laidTests := true, laidLooks := .later }
def CertificateBindingUptoCardSaid : Prop := Claim7.holds Tryz.pinned (.plain (OpenSpec.upto certificateBindingSpec)) certificateBindingUptoCard

/-- THE SECOND FORM's CARD OF 'evergreenlaw10.CertificateBack'. -/
def certificateBackUptoCard : Claim7 := { stood := { row := certificateBackUptoRow, standIns := [], harness := (true, "de1caac2f526b0f9c2b2b6695332a307d7ba7aa755400e700e15263392466040"), looks := true }, kinds := [], alts := [], laidByText := true, laidKinds := [.data, .data, .pinned, .pinned], laidTests := true, laidLooks := .later }
def CertificateBackUptoCardSaid : Prop := Claim7.holds Tryz.pinned (.plain (OpenSpec.upto certificateBackSpec)) certificateBackUptoCard
end Rows
end Go.Proofs.YtfnkamphhpldcaaGreatDoor
